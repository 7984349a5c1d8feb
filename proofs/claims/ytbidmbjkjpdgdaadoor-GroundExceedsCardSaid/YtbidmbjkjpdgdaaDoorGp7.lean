/-
  The law GroundExceeds, as a function of data, holds for every input.
-/
import Derived.Test.YtbidmbjkjpdgdaaDoorGl7
import Derived.Test.YtbidmbjkjpdgdaaDoorGq6
set_option linter.unusedVariables false
set_option linter.unusedSimpArgs false
set_option maxRecDepth 100000
namespace Go.Proofs.YtbidmbjkjpdgdaaDoor.Abs

theorem errOf_and {p : E25} {l : List E72} {b : Bool} (h : errOf p l true = 0) : errOf p l b = bif b then 0 else 2 := by
  cases b with
  | true => rw [h]; rfl
  | false =>
    rw [errOf_false, show decide ((l.length : Int) > 12) = false from by have := (errOf_zero h).1; simp; omega]
    rfl
theorem inB_dec (d : Int) : inB d 0 2000000 = !(bif decide (d < 0) then true else decide (d > 2000000)) := by
  by_cases h : d < 0
  · rw [show decide (d < 0) = true from by simpa using h]
    unfold inB
    rw [show decide (0 ≤ d) = false from by simp; omega]
    rfl
  · rw [show decide (d < 0) = false from by simpa using h]
    unfold inB
    rw [show decide (0 ≤ d) = true from by simp; omega]
    by_cases h2 : d > 2000000
    · rw [show decide (d > 2000000) = true from by simpa using h2, show decide (d ≤ 2000000) = false from by simp; omega]
      rfl
    · rw [show decide (d > 2000000) = false from by simpa using h2, show decide (d ≤ 2000000) = true from by simp; omega]
      rfl
theorem exceeds_true (p : E25) (l : List E72) (d : Int) : g7_taliklaw01_GroundExceeds p l d = some true := by
  unfold g7_taliklaw01_GroundExceeds
  rw [g13, known_true]
  simp only [Option.bind_some]
  cases hs : decide (p.1.length ≤ 12) && decide (l.length ≤ 17) with
  | false => rfl
  | true =>
    simp only [Bool.not_true, cond_false]
    simp only [Bool.and_eq_true, decide_eq_true_eq] at hs
    rw [g17 p l (by omega) (by omega)]
    simp only [Option.bind_some]
    have c2 : ((2 : Int) != 0) = true := rfl
    have c0 : ((0 : Int) != 0) = false := rfl
    by_cases he : errOf p l true = 0
    · obtain ⟨hl, _, hp, hy⟩ := errOf_zero he
      have hb := errOf_and (b := inB d 0 2000000) he
      have hd := inB_dec d
      rw [g26 (by omega) (by omega), g26 (by omega) (by omega)]
      simp only [Option.bind_some]
      rw [follow_end hl hp hy (Int.le_refl 0) (by omega), follow_end hl hp hy (Int.le_refl 0) (by omega)]
      simp only [Option.bind_some]
      rw [g28 (by omega), g28 (by omega), he]
      simp only [Option.bind_some, c2, c0, cond_true, cond_false]
      rw [show ((0 : Int) == 0) = true from rfl]
      simp only [cond_true]
      cases hin : inB d 0 2000000 with
      | false =>
        rw [hin] at hb hd
        rw [g27_bad (by omega) (by omega) (by rw [hin, hb]; decide), hin, hb]
        simp only [Option.bind_some, cond_true, cond_false]
        cases h1 : decide (d < 0) with
        | true => simp
        | false =>
          rw [h1] at hd
          simp only [cond_false] at hd
          cases h2 : decide (d > 2000000) with
          | true => simp
          | false => rw [h2] at hd; cases hd
      | true =>
        rw [hin] at hb hd
        rw [g27_ok (by rw [hin, hb]; rfl)]
        simp only [Option.bind_some]
        cases h1 : decide (d < 0) with
        | true => rw [h1] at hd; cases hd
        | false =>
          rw [h1] at hd
          simp only [cond_false] at hd
          cases h2 : decide (d > 2000000) with
          | true => rw [h2] at hd; cases hd
          | false =>
            simp only [cond_false, exc]
            simp
    · have hbad : errOf p l (inB d 0 2000000) = errOf p l true := errOf_any he
      rw [g27_bad (by omega) (by omega) (by rw [hbad]; exact he), hbad]
      have h0 : (errOf p l true == 0) = false := by simpa using he
      have h1 : (errOf p l true != 0) = true := by simpa using he
      simp only [Option.bind_some, h0, cond_false, h1, cond_true]
      simp
theorem g7_taliklaw01_GroundExceeds_true (x : Els [.dat T25, .dat (.list T72), .dat (.int .i64)]) : g7_taliklaw01_GroundExceeds x.1 x.2.1 x.2.2.1 = some true := exceeds_true _ _ _
end Go.Proofs.YtbidmbjkjpdgdaaDoor.Abs
