/-
  The law GroundYears, as a function of data, holds for every input.
-/
import Derived.Test.YtbidmbjkjpdgdaaDoorGl12
import Derived.Test.YtbidmbjkjpdgdaaDoorGq7
set_option linter.unusedVariables false
set_option linter.unusedSimpArgs false
set_option maxRecDepth 100000
namespace Go.Proofs.YtbidmbjkjpdgdaaDoor.Abs

theorem g37 (p : E25) (hp : p.1.length < 2 ^ 40) : g37_ground_Check p = some (bif okPl p then 0 else 2) := by
  unfold g37_ground_Check
  rw [g66 p hp]
  cases okPl p <;> rfl
theorem g39_same {a : List E53} (ha : a.length ≤ 1000) : g39_talikref01_SameSeen a a = some true := by
  unfold g39_talikref01_SameSeen g39_talikref01_SameSeen_l0_run
  rw [show ((List.length a : Int) != (List.length a : Int)) = false from by simp]
  simp only [cond_false]
  obtain ⟨q, q1, _⟩ := iter_all (step := g39_talikref01_SameSeen_l0_step) (n := a.length) (k := 1) (fun i s => s.1.1 = a ∧ s.1.2.1 = a ∧ s.1.2.2.2.1 = (i : Int)) (fun s => True)
    (fun i s h hi => by
      obtain ⟨e1, e2, e3⟩ := h
      have st : g39_talikref01_SameSeen_l0_step s = some (0, ((a, (a, (s.1.2.2.1, ((IntKind.wrap .i64 ((i : Int) + 1)), ())))), ())) := by
        unfold g39_talikref01_SameSeen_l0_step
        simp only [e1, e2, e3, getD_toNat, inside_lt hi, show decide ((i : Int) < (a.length : Int)) = true from by simp; omega, cond_true, beq_self_eq_true, Bool.and_self, Bool.not_true, cond_false]
        rw [show decide (0 ≤ (i : Int)) = true from by simp]
        rfl
      exact ⟨_, st, rfl, rfl, wr (by omega) (by omega)⟩)
    (fun s h => by
      obtain ⟨e1, e2, e3⟩ := h
      have st : g39_talikref01_SameSeen_l0_step s = some (2, ((s.1.1, (s.1.2.1, (s.1.2.2.1, (s.1.2.2.2.1, ())))), ())) := by
        unfold g39_talikref01_SameSeen_l0_step
        simp only [e1, e3, show decide ((a.length : Int) < (a.length : Int)) = false from by simp, cond_false]
      exact ⟨_, st, trivial⟩)
    (g39_talikref01_SameSeen_l0_fuel ((a, (a, (false, (0, ())))), ())) ((a, (a, (false, (0, ())))), ()) (by simp [g39_talikref01_SameSeen_l0_fuel]) ⟨rfl, rfl, rfl⟩
  rw [q1]
  rfl
theorem g40 {p : E25} {l : List E72} (h : errOf p l true = 0) : g40_talikref01_Known p l = some (Kno p l l.length) := by
  obtain ⟨hl, _, hp, hy⟩ := errOf_zero h
  have hpl := okPl_len hp
  unfold g40_talikref01_Known g40_talikref01_Known_l0_run
  rw [g26 (by omega) (by omega), g26 (by omega) (by omega)]
  simp only [Option.bind_some]
  rw [follow_end hl hp hy (Int.le_refl 0) (by omega), follow_end hl hp hy (Int.le_refl 0) (by omega)]
  simp only [Option.bind_some]
  obtain ⟨q, q1, q2⟩ := iter_all (step := g40_talikref01_Known_l0_step) (n := l.length) (k := 0) (fun i s => s.1.1 = l ∧ s.1.2.1 = Fo p (eT false p l) 0 l.length ∧ s.1.2.2.1 = Fo p (eT true p l) 0 l.length ∧ s.1.2.2.2.1 = Kno p l i ∧ s.1.2.2.2.2.1 = (i : Int)) (fun q => q.1.2.2.2.1 = Kno p l l.length)
    (fun i s hs hi => by
      obtain ⟨e1, e2, e3, e4, e5⟩ := hs
      obtain ⟨r0, r1⟩ := lef_ends hl hp hy (show i + 1 ≤ l.length by omega)
      have st : g40_talikref01_Known_l0_step s = some (0, ((l, (Fo p (eT false p l) 0 l.length, (Fo p (eT true p l) 0 l.length, (Kno p l (i + 1), ((IntKind.wrap .i64 ((i : Int) + 1)), ()))))), (s.2.1, ()))) := by
        unfold g40_talikref01_Known_l0_step
        simp only [e1, e2, e3, e4, e5, Fo_len, getD_toNat, Fo_getD1 hi, Fo_getD2 hi, inside_lt hi, show decide ((i : Int) < (l.length : Int)) = true from by simp; omega, cond_true]
        rw [lim_ok (by simp [Kno_len]; omega), lim_ok (by simp [Kno_len]; omega), lim_ok (by simp [Kno_len]; omega), Kno_succ]
        simp only [cond_true]
        unfold kno
        by_cases h1 : (RL (eT true p l) 0 (i + 1)).2 = 0
        · rw [if_pos h1, show decide ((RL (eT false p l) 0 (i + 1)).2 > 0) = false from by simp; omega, show ((RL (eT true p l) 0 (i + 1)).2 == 0) = true from by simpa using h1]
          rfl
        · rw [if_neg h1, show ((RL (eT true p l) 0 (i + 1)).2 == 0) = false from by simpa using h1]
          by_cases h2 : (RL (eT false p l) 0 (i + 1)).2 > 0
          · rw [if_pos h2, show decide ((RL (eT false p l) 0 (i + 1)).2 > 0) = true from by simpa using h2]
            rfl
          · rw [if_neg h2, show decide ((RL (eT false p l) 0 (i + 1)).2 > 0) = false from by simpa using h2]
            rfl
      exact ⟨_, st, rfl, rfl, rfl, rfl, wr (by omega) (by omega)⟩)
    (fun s hs => by
      obtain ⟨e1, e2, e3, e4, e5⟩ := hs
      have st : g40_talikref01_Known_l0_step s = some (1, ((s.1.1, (s.1.2.1, (s.1.2.2.1, (s.1.2.2.2.1, (s.1.2.2.2.2.1, ()))))), (s.2.1, ()))) := by
        unfold g40_talikref01_Known_l0_step
        simp only [e1, e5, show decide ((l.length : Int) < (l.length : Int)) = false from by simp, cond_false]
      exact ⟨_, st, e4⟩)
    (g40_talikref01_Known_l0_fuel ((l, (Fo p (eT false p l) 0 l.length, (Fo p (eT true p l) 0 l.length, ([], (0, ()))))), (p, ()))) ((l, (Fo p (eT false p l) 0 l.length, (Fo p (eT true p l) 0 l.length, ([], (0, ()))))), (p, ())) (by simp [g40_talikref01_Known_l0_fuel]) ⟨rfl, rfl, rfl, rfl, rfl⟩
  rw [q1]
  simp only [Option.bind_some, q2]

theorem years_true (p : E25) (l : List E72) : g12_taliklaw01_GroundYears p l = some true := by
  unfold g12_taliklaw01_GroundYears
  rw [g13, known_true]
  simp only [Option.bind_some]
  cases hs : decide (p.1.length ≤ 12) && decide (l.length ≤ 17) with
  | false => rfl
  | true =>
    simp only [Bool.not_true, cond_false]
    simp only [Bool.and_eq_true, decide_eq_true_eq] at hs
    rw [g37 p (by omega), g38 p (by omega), g17 p l (by omega) (by omega)]
    simp only [Option.bind_some]
    by_cases he : errOf p l true = 0
    · obtain ⟨hl, _, hp, hy⟩ := errOf_zero he
      rw [g23_ok he, g40 he, he, hp]
      simp only [Option.bind_some, cond_true, cond_false, show ((0 : Int) != 0) = false from rfl, show ((0 : Int) == 0) = true from rfl, Bool.not_true]
      rw [g39_same (by rw [Kno_len]; omega)]
      rfl
    · rw [g23_bad (by omega) (by omega) he]
      have h1 : (errOf p l true != 0) = true := by simpa using he
      have h2 : (errOf p l true == errOf p l true) = true := by simp
      simp only [Option.bind_some, h1, h2, cond_true, cond_false]
      cases okPl p <;> rfl
theorem g12_taliklaw01_GroundYears_true (x : Els [.dat T25, .dat (.list T72)]) : g12_taliklaw01_GroundYears x.1 x.2.1 = some true := years_true _ _
end Go.Proofs.YtbidmbjkjpdgdaaDoor.Abs
