/-
  The law GroundPlays, as a function of data, holds for every input.
-/
import Derived.Test.YtbidmbjkjpdgdaaDoorGl3
import Derived.Test.YtbidmbjkjpdgdaaDoorGq4
set_option linter.unusedVariables false
set_option linter.unusedSimpArgs false
set_option maxRecDepth 100000
namespace Go.Proofs.YtbidmbjkjpdgdaaDoor.Abs

theorem plays_loop {p : E25} {t : E29} {x : E34} {D : List Int} {e : Int} {n : Nat} (hn : n ≤ 1000) : ∃ q, g3_taliklaw01_GroundPlays_l0_run ((D, (e, ([], (Fo p t 0 n, (0, ()))))), (p, (t, (x, ())))) = some (0, q) ∧ q.1.1 = D ∧ q.1.2.1 = e ∧ q.1.2.2.1 = Ds p t 0 n ∧ q.2.2.1 = t ∧ q.2.2.2.1 = x := by
  unfold g3_taliklaw01_GroundPlays_l0_run
  exact iter_all (step := g3_taliklaw01_GroundPlays_l0_step) (n := n) (k := 0) (fun i s => s.1.1 = D ∧ s.1.2.1 = e ∧ s.1.2.2.1 = Ds p t 0 i ∧ s.1.2.2.2.1 = Fo p t 0 n ∧ s.1.2.2.2.2.1 = (i : Int) ∧ s.2.2.1 = t ∧ s.2.2.2.1 = x) (fun q => q.1.1 = D ∧ q.1.2.1 = e ∧ q.1.2.2.1 = Ds p t 0 n ∧ q.2.2.1 = t ∧ q.2.2.2.1 = x)
    (fun i s h hi => by
      obtain ⟨e1, e2, e3, e4, e5, e6, e7⟩ := h
      have hg : (List.getD (Fo p t 0 n) i (0, (0, ()))).1 = dep p.1 t.1 p.1.length 0 (Rs t 0 i) := by
        unfold Fo
        rw [map_range_getD hi]
      have st : g3_taliklaw01_GroundPlays_l0_step s = some (0, ((D, (e, (Ds p t 0 (i + 1), (Fo p t 0 n, ((IntKind.wrap .i64 ((i : Int) + 1)), ()))))), (s.2.1, (t, (x, ()))))) := by
        unfold g3_taliklaw01_GroundPlays_l0_step
        simp only [e1, e2, e3, e4, e5, e6, e7, Fo_len, getD_toNat, inside_lt hi, show decide ((i : Int) < (n : Int)) = true from by simp; omega, cond_true, hg]
        rw [lim_ok (by simp [Ds_len]; omega), Ds_succ]
        rfl
      exact ⟨_, st, rfl, rfl, rfl, rfl, wr (by omega) (by omega), rfl, rfl⟩)
    (fun s h => by
      obtain ⟨e1, e2, e3, e4, e5, e6, e7⟩ := h
      have st : g3_taliklaw01_GroundPlays_l0_step s = some (1, ((s.1.1, (s.1.2.1, (s.1.2.2.1, (s.1.2.2.2.1, (s.1.2.2.2.2.1, ()))))), (s.2.1, (s.2.2.1, (s.2.2.2.1, ()))))) := by
        unfold g3_taliklaw01_GroundPlays_l0_step
        simp only [e4, e5, Fo_len, show decide ((n : Int) < (n : Int)) = false from by simp, cond_false]
      exact ⟨_, st, e1, e2, e3, e6, e7⟩)
    (g3_taliklaw01_GroundPlays_l0_fuel ((D, (e, ([], (Fo p t 0 n, (0, ()))))), (p, (t, (x, ()))))) ((D, (e, ([], (Fo p t 0 n, (0, ()))))), (p, (t, (x, ())))) (by simp [g3_taliklaw01_GroundPlays_l0_fuel, Fo_len]) ⟨rfl, rfl, rfl, rfl, rfl, rfl, rfl⟩

theorem plays_true (p : E25) (l : List E72) (t : E29) : g3_taliklaw01_GroundPlays p l t = some true := by
  unfold g3_taliklaw01_GroundPlays
  rw [g13, g14, known_true]
  simp only [Option.bind_some]
  cases hs : decide (p.1.length ≤ 12) && decide (l.length ≤ 17) with
  | false => rfl
  | true =>
    simp only [Bool.not_true, cond_false]
    cases hz : decide (t.1.length ≤ 12) && decide (t.2.1.length ≤ 20) && decide (t.2.2.1.length ≤ 20) && decide (t.2.2.2.1.length ≤ 20) && decide (t.2.2.2.2.1.length ≤ 20) with
    | false => rfl
    | true =>
      simp only [Bool.not_true, cond_false]
      simp only [Bool.and_eq_true, decide_eq_true_eq] at hs hz
      obtain ⟨⟨⟨⟨z1, z2⟩, z3⟩, z4⟩, z5⟩ := hz
      rw [g17 p l (by omega) (by omega), g18 p l t (by omega) (by omega)]
      simp only [Option.bind_some]
      by_cases he : errOf p l true = 0
      · obtain ⟨hl, _, hp, hy⟩ := errOf_zero he
        cases ht : truB p l t with
        | false =>
          have hbad : errOf p l (truB p l t) = 2 := by
            rw [ht, errOf_false, show decide ((l.length : Int) > 12) = false from by simp; omega]
            rfl
          rw [g16_bad (by omega) (by omega) (by omega) (by omega) (by omega) (by omega) (by omega) (by rw [hbad]; decide), hbad, he]
          rfl
        | true =>
          obtain ⟨hT, hL⟩ := tru_of hl hp hy ht
          rw [g16_ok hl hp hy ht, g19 hT hL (Int.le_refl 0) (by omega), he]
          simp only [Option.bind_some]
          obtain ⟨q, q1, q2, q3, q4, q5, q6⟩ := plays_loop (p := p) (t := t) (x := (Ins t l.length, (Outs t 0 l.length, ((RL t 0 l.length).2, ())))) (D := Ds p t 0 l.length) (e := 0) (n := l.length) (by omega)
          rw [show ((0 : Int) == 0) = true from rfl]
          simp only [cond_true, Bool.not_true, cond_false]
          rw [show ((0 : Int) != 0) = false from rfl]
          simp only [cond_false, q1, Option.bind_some, q2, q3, q4, q5, q6, g20_same (a := Ds p t 0 l.length) (by rw [Ds_len]; omega), cond_true, g21 hT]
          simp
      · have hbad : errOf p l (truB p l t) = errOf p l true := errOf_any he
        rw [g16_bad (by omega) (by omega) (by omega) (by omega) (by omega) (by omega) (by omega) (by rw [hbad]; exact he), hbad]
        have h0 : (errOf p l true == 0) = false := by simpa using he
        have h1 : (errOf p l true != 0) = true := by simpa using he
        simp only [Option.bind_some, h0, cond_false, h1, cond_true]
        simp
theorem g3_taliklaw01_GroundPlays_true (x : Els [.dat T25, .dat (.list T72), .dat T29]) : g3_taliklaw01_GroundPlays x.1 x.2.1 x.2.2.1 = some true := plays_true _ _ _
end Go.Proofs.YtbidmbjkjpdgdaaDoor.Abs
