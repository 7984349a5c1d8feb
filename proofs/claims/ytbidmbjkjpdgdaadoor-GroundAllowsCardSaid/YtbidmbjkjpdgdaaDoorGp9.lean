/-
  The law GroundAllows, as a function of data, holds for every input.
-/
import Derived.Test.YtbidmbjkjpdgdaaDoorGl9
import Derived.Test.YtbidmbjkjpdgdaaDoorGqa
set_option linter.unusedVariables false
set_option linter.unusedSimpArgs false
set_option maxRecDepth 100000
namespace Go.Proofs.YtbidmbjkjpdgdaaDoor.Abs

theorem inB_dec9 (d : Int) : inB d 0 2000000 = !(bif decide (d < 0) then true else decide (d > 2000000)) := by
  by_cases h : d < 0
  · rw [show decide (d < 0) = true from decide_eq_true h]
    unfold inB
    rw [show decide (0 ≤ d) = false from decide_eq_false (by omega)]
    rfl
  · rw [show decide (d < 0) = false from decide_eq_false h]
    unfold inB
    rw [show decide (0 ≤ d) = true from decide_eq_true (by omega)]
    by_cases h2 : d > 2000000
    · rw [show decide (d > 2000000) = true from decide_eq_true h2, show decide (d ≤ 2000000) = false from decide_eq_false (by omega)]
      rfl
    · rw [show decide (d > 2000000) = false from decide_eq_false h2, show decide (d ≤ 2000000) = true from decide_eq_true (by omega)]
      rfl
theorem errOf_and9 {p : E25} {l : List E72} {b : Bool} (h : errOf p l true = 0) : errOf p l b = bif b then 0 else 2 := by
  cases b with
  | true => rw [h]; rfl
  | false =>
    rw [errOf_false, show decide ((l.length : Int) > 12) = false from decide_eq_false (by have := (errOf_zero h).1; omega)]
    rfl
theorem allows_want {p : E25} {l : List E72} {d m e n f : Int} : g9_taliklaw01_GroundAllows_k1_run ((l, (d, (m, (e, (n, (f, (errOf p l true, ()))))))), (p, ())) = some (0, ((l, (d, (m, (e, (n, (f, (errOf p l (inB d 0 2000000), ()))))))), (p, ()))) := by
  have hd := inB_dec9 d
  unfold g9_taliklaw01_GroundAllows_k1_run g9_taliklaw01_GroundAllows_k0_run
  by_cases he : errOf p l true = 0
  · have hb := errOf_and9 (b := inB d 0 2000000) he
    rw [hb, he, hd]
    simp only [show ((0 : Int) == 0) = true from rfl, cond_true]
    cases decide (d < 0) <;> cases decide (d > 2000000) <;> rfl
  · have hbad : errOf p l (inB d 0 2000000) = errOf p l true := errOf_any he
    rw [hbad, show (errOf p l true == 0) = false from by simpa using he]
    rfl
theorem allows_true (p : E25) (l : List E72) (d : Int) : g9_taliklaw01_GroundAllows p l d = some true := by
  unfold g9_taliklaw01_GroundAllows
  rw [g13, known_true]
  simp only [Option.bind_some]
  cases hs : decide (p.1.length ≤ 12) && decide (l.length ≤ 17) with
  | false => rfl
  | true =>
    simp only [Bool.not_true, cond_false]
    simp only [Bool.and_eq_true, decide_eq_true_eq] at hs
    rw [g17 p l (by omega) (by omega)]
    by_cases he : errOf p l (inB d 0 2000000) = 0
    · obtain ⟨x, hx, ex⟩ := g29_ok he
      obtain ⟨y, hy, ey⟩ := g30_ok he
      obtain ⟨x', hx', ex'⟩ := g31 (d := d) (err_true he)
      obtain ⟨y', hy', ey'⟩ := g32 (d := d) (err_true he)
      obtain rfl := hx.unique hx'
      obtain rfl := hy.unique hy'
      rw [ex, ey]
      simp only [Option.bind_some, allows_want, he, show ((0 : Int) != 0) = false from rfl, cond_false, ex', ey']
      have k3 : ∀ a b : Int, g9_taliklaw01_GroundAllows_k3_run (((if x < 0 then ((0 : Int), ((5 : Int), ())) else (x, (0, ()))).1, ((if x < 0 then ((0 : Int), ((5 : Int), ())) else (x, (0, ()))).2.1, (a, (b, (x, (y, ())))))), (p, ())) = some (0, ((a, (b, (y, (false, ())))), (p, ()))) := by
        intro a b
        unfold g9_taliklaw01_GroundAllows_k3_run
        by_cases c : x < 0
        · simp only [if_pos c, decide_eq_true c, decide_eq_false (show ¬ x ≥ 0 by omega)]
          rfl
        · simp only [if_neg c, decide_eq_false c, decide_eq_true (show x ≥ 0 by omega), show (x != x) = false from by simp]
          rfl
      have k4 : g9_taliklaw01_GroundAllows_k4_run (((if y < 0 then ((0 : Int), ((5 : Int), ())) else (y, (0, ()))).1, ((if y < 0 then ((0 : Int), ((5 : Int), ())) else (y, (0, ()))).2.1, (y, ()))), (p, ())) = some (0, ((true, ()), (p, ()))) := by
        unfold g9_taliklaw01_GroundAllows_k4_run
        rw [known_true]
        by_cases c : y < 0
        · simp only [if_pos c, decide_eq_true c]
          rfl
        · simp only [if_neg c, decide_eq_false c, decide_eq_true (show y ≥ 0 by omega), show (y == y) = true from by simp]
          rfl
      rw [k3]
      simp only [Option.bind_some, cond_false, k4]
    · rw [g29_bad (by omega) (by omega) he, g30_bad (by omega) (by omega) he]
      simp only [Option.bind_some, allows_want, show (errOf p l (inB d 0 2000000) != 0) = true from by simpa using he, cond_true]
      unfold g9_taliklaw01_GroundAllows_k2_run
      rw [known_true]
      simp only [show (errOf p l (inB d 0 2000000) == errOf p l (inB d 0 2000000)) = true from by simp, cond_true]
      rfl
theorem g9_taliklaw01_GroundAllows_true (x : Els [.dat T25, .dat (.list T72), .dat (.int .i64)]) : g9_taliklaw01_GroundAllows x.1 x.2.1 x.2.2.1 = some true := allows_true _ _ _
end Go.Proofs.YtbidmbjkjpdgdaaDoor.Abs
