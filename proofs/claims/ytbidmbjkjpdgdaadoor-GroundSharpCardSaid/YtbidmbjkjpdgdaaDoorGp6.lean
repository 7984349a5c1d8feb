/-
  The law GroundSharp, as a function of data, holds for every input.
-/
import Derived.Test.YtbidmbjkjpdgdaaDoorGl6
import Derived.Test.YtbidmbjkjpdgdaaDoorGq8
set_option linter.unusedVariables false
set_option linter.unusedSimpArgs false
set_option maxRecDepth 100000
namespace Go.Proofs.YtbidmbjkjpdgdaaDoor.Abs

theorem sharp_loop {p : E25} {l : List E72} {w : Bool} {x : E34} {t : E29} (hf : l.length ≤ 12) : ∃ q, g6_taliklaw01_GroundSharp_l0_run ((l, (w, (false, (Kno p l l.length, (Ds p (eT w p l) 0 l.length, (0, ())))))), (p, (t, (x, ())))) = some (1, q) ∧ q.1.1 = l ∧ q.1.2.1 = w ∧ q.1.2.2.2.1 = Kno p l l.length ∧ q.2.2.2.1 = x := by
  unfold g6_taliklaw01_GroundSharp_l0_run
  exact iter_all (step := g6_taliklaw01_GroundSharp_l0_step) (n := l.length) (k := 1) (fun i s => s.1.1 = l ∧ s.1.2.1 = w ∧ s.1.2.2.2.1 = Kno p l l.length ∧ s.1.2.2.2.2.1 = Ds p (eT w p l) 0 l.length ∧ s.1.2.2.2.2.2.1 = (i : Int) ∧ s.2.2.2.1 = x) (fun q => q.1.1 = l ∧ q.1.2.1 = w ∧ q.1.2.2.2.1 = Kno p l l.length ∧ q.2.2.2.1 = x)
    (fun i s h hi => by
      obtain ⟨e1, e2, e3, e4, e5, e6⟩ := h
      have st : g6_taliklaw01_GroundSharp_l0_step s = some (0, ((l, (w, (s.1.2.2.1, (Kno p l l.length, (Ds p (eT w p l) 0 l.length, ((IntKind.wrap .i64 ((i : Int) + 1)), ())))))), (s.2.1, (s.2.2.1, (x, ()))))) := by
        unfold g6_taliklaw01_GroundSharp_l0_step
        simp only [e1, e2, e3, e4, e5, e6, Ds_len, Kno_len, getD_toNat, Ds_getD hi, Kno_getD hi, inside_lt hi, decide_eq_true (show (i : Int) < (l.length : Int) by omega), cond_true]
        cases w with
        | true =>
          rw [show (kno p l i).1.2.1 = thw p (eT true p l) 0 i from rfl, show (thw p (eT true p l) 0 i != thw p (eT true p l) 0 i) = false from by simp]
          rfl
        | false =>
          rw [show (kno p l i).1.1 = thw p (eT false p l) 0 i from rfl, show (thw p (eT false p l) 0 i != thw p (eT false p l) 0 i) = false from by simp]
          rfl
      exact ⟨_, st, rfl, rfl, rfl, rfl, wr (by omega) (by omega), rfl⟩)
    (fun s h => by
      obtain ⟨e1, e2, e3, e4, e5, e6⟩ := h
      have st : g6_taliklaw01_GroundSharp_l0_step s = some (2, ((s.1.1, (s.1.2.1, (s.1.2.2.1, (s.1.2.2.2.1, (s.1.2.2.2.2.1, (s.1.2.2.2.2.2.1, ())))))), (s.2.1, (s.2.2.1, (s.2.2.2.1, ()))))) := by
        unfold g6_taliklaw01_GroundSharp_l0_step
        simp only [e1, e5, show decide ((l.length : Int) < (l.length : Int)) = false from by simp, cond_false]
      exact ⟨_, st, e1, e2, e3, e6⟩)
    (g6_taliklaw01_GroundSharp_l0_fuel ((l, (w, (false, (Kno p l l.length, (Ds p (eT w p l) 0 l.length, (0, ())))))), (p, (t, (x, ()))))) ((l, (w, (false, (Kno p l l.length, (Ds p (eT w p l) 0 l.length, (0, ())))))), (p, (t, (x, ())))) (by simp [g6_taliklaw01_GroundSharp_l0_fuel]) ⟨rfl, rfl, rfl, rfl, rfl, rfl⟩
theorem sharp_true (p : E25) (l : List E72) (w : Bool) : g6_taliklaw01_GroundSharp p l w = some true := by
  unfold g6_taliklaw01_GroundSharp
  rw [g13, known_true]
  simp only [Option.bind_some]
  cases hs : decide (p.1.length ≤ 12) && decide (l.length ≤ 17) with
  | false => rfl
  | true =>
    simp only [Bool.not_true, cond_false]
    simp only [Bool.and_eq_true, decide_eq_true_eq] at hs
    rw [g17 p l (by omega) (by omega)]
    simp only [Option.bind_some]
    by_cases he : errOf p l true = 0
    · have h := fair_end (w := w) he
      have hf := h.few
      obtain ⟨q, q1, q2, q3, q4, q5⟩ := sharp_loop (p := p) (l := l) (w := w) (t := eT w p l) (x := (Ins (eT w p l) l.length, (Outs (eT w p l) 0 l.length, ((RL (eT w p l) 0 l.length).2, ())))) hf
      rw [he, g26 (by omega) (by omega), h.known]
      simp only [Option.bind_some, show ((0 : Int) != 0) = false from rfl, cond_false]
      rw [h.play]
      simp only [Option.bind_some, show ((0 : Int) != 0) = false from rfl, cond_false, Kno_len, Ds_len, show ((l.length : Int) != (l.length : Int)) = false from by simp, q1, natK, q2, q3, q4, q5]
      by_cases hz : l.length = 0
      · rw [show decide ((l.length : Int) > 0) = false from decide_eq_false (by omega)]
        rfl
      · obtain ⟨m, hm⟩ : ∃ m, l.length = m + 1 := ⟨l.length - 1, by omega⟩
        have w2 : IntKind.wrap .i64 ((l.length : Int) - 1) = (m : Int) := by rw [wr (by omega) (by omega)]; omega
        rw [show decide ((l.length : Int) > 0) = true from decide_eq_true (by omega), w2, getD_toNat, inside_lt (show m < l.length by omega), Kno_getD (show m < l.length by omega)]
        cases w with
        | true =>
          rw [show (kno p l m).2.1.2.1 = (RL (eT true p l) 0 l.length).2 from by rw [hm]; rfl, show ((RL (eT true p l) 0 l.length).2 != (RL (eT true p l) 0 l.length).2) = false from by simp]
          rfl
        | false =>
          rw [show (kno p l m).2.1.1 = (RL (eT false p l) 0 l.length).2 from by rw [hm]; rfl, show ((RL (eT false p l) 0 l.length).2 != (RL (eT false p l) 0 l.length).2) = false from by simp]
          rfl
    · rw [show (errOf p l true != 0) = true from by simpa using he]
      rfl
theorem g6_taliklaw01_GroundSharp_true (x : Els [.dat T25, .dat (.list T72), .dat .bool]) : g6_taliklaw01_GroundSharp x.1 x.2.1 x.2.2.1 = some true := sharp_true _ _ _
end Go.Proofs.YtbidmbjkjpdgdaaDoor.Abs
