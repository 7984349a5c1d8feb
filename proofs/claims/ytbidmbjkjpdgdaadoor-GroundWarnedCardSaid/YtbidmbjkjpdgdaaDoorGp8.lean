/-
  The law GroundWarned, as a function of data, holds for every input.
-/
import Derived.Test.YtbidmbjkjpdgdaaDoorGl8
import Derived.Test.YtbidmbjkjpdgdaaDoorGq8
set_option linter.unusedVariables false
set_option linter.unusedSimpArgs false
set_option maxRecDepth 100000
namespace Go.Proofs.YtbidmbjkjpdgdaaDoor.Abs

theorem warned_loop {p : E25} {l : List E72} {t : E29} {x : E34} {d a b : Int} {n : Nat} (hn : n ≤ 1000) : ∃ q, g8_taliklaw01_GroundWarned_l0_run ((d, (a, (b, (Ds p t 0 n, ((n : Int), (((n : Int) - 1), ())))))), (p, (t, (x, ())))) = some (0, q) ∧ q.1.2.1 = a ∧ q.1.2.2.1 = b ∧ q.1.2.2.2.2.1 = ((fst (thw p t 0) d n 0 : Nat) : Int) := by
  unfold g8_taliklaw01_GroundWarned_l0_run
  exact iter_all (step := g8_taliklaw01_GroundWarned_l0_step) (n := n) (k := 0) (fun i s => s.1.1 = d ∧ s.1.2.1 = a ∧ s.1.2.2.1 = b ∧ s.1.2.2.2.1 = Ds p t 0 n ∧ s.1.2.2.2.2.1 = ((fst (thw p t 0) d i (n - i) : Nat) : Int) ∧ s.1.2.2.2.2.2.1 = (n : Int) - 1 - (i : Int)) (fun q => q.1.2.1 = a ∧ q.1.2.2.1 = b ∧ q.1.2.2.2.2.1 = ((fst (thw p t 0) d n 0 : Nat) : Int))
    (fun i s h hi => by
      obtain ⟨e1, e2, e3, e4, e5, e6⟩ := h
      obtain ⟨j, hj⟩ : ∃ j, n = i + (j + 1) := ⟨n - i - 1, by omega⟩
      have ej : (n : Int) - 1 - (i : Int) = (j : Int) := by omega
      rw [ej] at e6
      have w1 : IntKind.wrap .i64 ((j : Int) - 1) = (n : Int) - 1 - ((i + 1 : Nat) : Int) := by rw [wr (by omega) (by omega)]; omega
      have f1 : fst (thw p t 0) d (i + 1) (n - (i + 1)) = if thw p t 0 j > d then j else fst (thw p t 0) d i (n - i) := by
        rw [show n - (i + 1) = j by omega, show n - i = j + 1 by omega]
        rfl
      have st : g8_taliklaw01_GroundWarned_l0_step s = some (0, ((d, (a, (b, (Ds p t 0 n, (((fst (thw p t 0) d (i + 1) (n - (i + 1)) : Nat) : Int), (((n : Int) - 1 - ((i + 1 : Nat) : Int)), ())))))), (s.2.1, (s.2.2.1, (s.2.2.2.1, ()))))) := by
        unfold g8_taliklaw01_GroundWarned_l0_step
        simp only [e1, e2, e3, e4, e5, e6, w1, f1, Ds_len, getD_toNat, Ds_getD (show j < n by omega), inside_lt (show j < n by omega), show decide ((j : Int) ≥ 0) = true from decide_eq_true (by omega), decide_eq_true (show (j : Int) < (n : Int) by omega), Bool.and_self, cond_true]
        by_cases c : thw p t 0 j > d
        · rw [if_pos c, show decide (thw p t 0 j > d) = true from decide_eq_true c]
          rfl
        · rw [if_neg c, show decide (thw p t 0 j > d) = false from decide_eq_false c]
          rfl
      exact ⟨_, st, rfl, rfl, rfl, rfl, rfl, rfl⟩)
    (fun s h => by
      obtain ⟨e1, e2, e3, e4, e5, e6⟩ := h
      have st : g8_taliklaw01_GroundWarned_l0_step s = some (1, ((s.1.1, (s.1.2.1, (s.1.2.2.1, (s.1.2.2.2.1, (s.1.2.2.2.2.1, (s.1.2.2.2.2.2.1, ())))))), (s.2.1, (s.2.2.1, (s.2.2.2.1, ()))))) := by
        unfold g8_taliklaw01_GroundWarned_l0_step
        simp only [e6, show decide ((n : Int) - 1 - (n : Int) ≥ 0) = false from decide_eq_false (by omega), cond_false]
      exact ⟨_, st, e2, e3, by rw [e5, Nat.sub_self]⟩)
    (g8_taliklaw01_GroundWarned_l0_fuel ((d, (a, (b, (Ds p t 0 n, ((n : Int), (((n : Int) - 1), ())))))), (p, (t, (x, ()))))) ((d, (a, (b, (Ds p t 0 n, ((n : Int), (((n : Int) - 1), ())))))), (p, (t, (x, ())))) (by unfold g8_taliklaw01_GroundWarned_l0_fuel; omega) ⟨rfl, rfl, rfl, rfl, rfl, by show (n : Int) - 1 = (n : Int) - 1 - ((0 : Nat) : Int); omega⟩
theorem warned_true (p : E25) (l : List E72) (t : E29) (d : Int) : g8_taliklaw01_GroundWarned p l t d = some true := by
  unfold g8_taliklaw01_GroundWarned
  obtain ⟨b, h1, h2⟩ := g22 p l t
  rw [h1, known_true]
  simp only [Option.bind_some]
  cases b with
  | false => rfl
  | true =>
    have h := h2 rfl
    have hf := h.few
    simp only [Bool.not_true, cond_false]
    by_cases d0 : d < 0
    · rw [show decide (d < 0) = true from decide_eq_true d0]
      rfl
    · rw [show decide (d < 0) = false from decide_eq_false d0]
      simp only [cond_false]
      by_cases d9 : d > 2000000
      · rw [show decide (d > 2000000) = true from decide_eq_true d9]
        rfl
      · rw [show decide (d > 2000000) = false from decide_eq_false d9]
        simp only [cond_false]
        have hin : inB d 0 2000000 = true := inB_spec.2 (by omega)
        have a1 : exc true p l 0 d ≤ fst (thw p t 0) d l.length 0 := fst_mono fun i hi => (h.thaw hi).2
        have a2 : fst (thw p t 0) d l.length 0 ≤ exc false p l 0 d := fst_mono fun i hi => (h.thaw hi).1
        have a3 := exc_le (w := false) (p := p) (l := l) (more := 0) (d := d)
        obtain ⟨q, q1, q2, q3, q4⟩ := warned_loop (p := p) (l := l) (t := t) (x := (Ins t l.length, (Outs t 0 l.length, ((RL t 0 l.length).2, ())))) (d := d) (a := (exc true p l 0 d : Int)) (b := (exc false p l 0 d : Int)) (n := l.length) (by omega)
        have w1 : IntKind.wrap .i64 ((l.length : Int) - 1) = (l.length : Int) - 1 := wr (by omega) (by omega)
        rw [g27_ok (by rw [hin]; exact h.err), h.play]
        simp only [Option.bind_some, show ((0 : Int) != 0) = false from rfl, cond_false, Ds_len, show ((l.length : Int) != (l.length : Int)) = false from by simp, w1, q1, q2, q3, q4]
        rw [show decide ((exc true p l 0 d : Int) < 0) = false from decide_eq_false (by omega), show decide ((exc true p l 0 d : Int) > (exc false p l 0 d : Int)) = false from decide_eq_false (by omega), show decide ((exc false p l 0 d : Int) > (l.length : Int)) = false from decide_eq_false (by omega)]
        simp only [cond_false]
        rw [show decide (((fst (thw p t 0) d l.length 0 : Nat) : Int) ≥ (exc true p l 0 d : Int)) = true from decide_eq_true (by omega), show decide (((fst (thw p t 0) d l.length 0 : Nat) : Int) ≤ (exc false p l 0 d : Int)) = true from decide_eq_true (by omega)]
        rfl
theorem g8_taliklaw01_GroundWarned_true (x : Els [.dat T25, .dat (.list T72), .dat T29, .dat (.int .i64)]) : g8_taliklaw01_GroundWarned x.1 x.2.1 x.2.2.1 x.2.2.2.1 = some true := warned_true _ _ _ _
end Go.Proofs.YtbidmbjkjpdgdaaDoor.Abs
