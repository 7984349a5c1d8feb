/-
  The law GroundLedgers, as a function of data, holds for every input.
-/
import Derived.Test.YtbidmbjkjpdgdaaDoorGl4
import Derived.Test.YtbidmbjkjpdgdaaDoorGq8
set_option linter.unusedVariables false
set_option linter.unusedSimpArgs false
set_option maxRecDepth 100000
namespace Go.Proofs.YtbidmbjkjpdgdaaDoor.Abs

/-- How much could go out in so many years. -/
def Cans (t : E29) : Nat → Int
  | 0 => 0
  | i + 1 => Cans t i + goe t i
theorem ledger_laws {t : E29} {n : Nat} (hT : Tru t n) : ∀ i, i ≤ n → Outs t 0 i ≤ Cans t i ∧ (RL t 0 i).2 = Ins t i - Outs t 0 i ∧ 0 ≤ Cans t i ∧ Cans t i ≤ 1000000 * (i : Int)
  | 0, _ => by simp [Outs, Cans, RL, Ins]
  | i + 1, hi => by
    obtain ⟨h1, h2, h3, h4⟩ := ledger_laws hT i (by omega)
    have hb := goe_bd hT (show i < n by omega)
    have ho : Ou t 0 i ≤ goe t i := by
      unfold Ou
      split <;> omega
    rw [RL_succ]
    unfold Outs Cans Ins
    simp only
    refine ⟨by omega, ?_, by omega, by omega⟩
    unfold Lf
    omega
theorem ledgers_loop {p : E25} {l : List E72} {t : E29} {x : E34} {K : List E53} (h : Fair p l t) : ∃ q, g4_taliklaw01_GroundLedgers_l0_run ((l, (K, (0, (0, (0, ()))))), (p, (t, (x, ())))) = some (0, q) ∧ q.1.1 = l ∧ q.1.2.1 = K ∧ q.1.2.2.1 = Ins t l.length ∧ q.1.2.2.2.1 = Cans t l.length ∧ q.2.2.2.1 = x := by
  have hT := h.T
  have hf := hT.few
  unfold g4_taliklaw01_GroundLedgers_l0_run
  exact iter_all (step := g4_taliklaw01_GroundLedgers_l0_step) (n := l.length) (k := 0) (fun i s => s.1.1 = l ∧ s.1.2.1 = K ∧ s.1.2.2.1 = Ins t i ∧ s.1.2.2.2.1 = Cans t i ∧ s.1.2.2.2.2.1 = (i : Int) ∧ s.2.2.1 = t ∧ s.2.2.2.1 = x) (fun q => q.1.1 = l ∧ q.1.2.1 = K ∧ q.1.2.2.1 = Ins t l.length ∧ q.1.2.2.2.1 = Cans t l.length ∧ q.2.2.2.1 = x)
    (fun i s hs hi => by
      obtain ⟨e1, e2, e3, e4, e5, e6, e7⟩ := hs
      obtain ⟨⟨b1, b2⟩, _⟩ := sums_bd hT (Int.le_refl 0) i (by omega)
      obtain ⟨_, _, b3, b4⟩ := ledger_laws hT i (by omega)
      have hw := hT.warm i hi
      have hS := hT.summer i hi
      have hg := goe_bd hT hi
      have w1 : IntKind.wrap .i64 (Ins t i + t.2.1.getD i 0) = Ins t i + t.2.1.getD i 0 := wr (by omega) (by omega)
      have w2 : IntKind.wrap .i64 (Ins t i + t.2.1.getD i 0 + t.2.2.1.getD i 0) = Ins t (i + 1) := by
        rw [show Ins t (i + 1) = Ins t i + (t.2.1.getD i 0 + t.2.2.1.getD i 0) from rfl, wr (by omega) (by omega)]
        omega
      have w3 : IntKind.wrap .i64 (Cans t i + goe t i) = Cans t (i + 1) := wr (by omega) (by omega)
      have st : g4_taliklaw01_GroundLedgers_l0_step s = some (0, ((l, (K, (Ins t (i + 1), (Cans t (i + 1), ((IntKind.wrap .i64 ((i : Int) + 1)), ()))))), (s.2.1, (t, (x, ()))))) := by
        unfold g4_taliklaw01_GroundLedgers_l0_step
        simp only [e1, e2, e3, e4, e5, e6, e7, getD_toNat, inside_lt (show i < t.2.1.length by rw [hT.l1]; exact hi), inside_lt (show i < t.2.2.1.length by rw [hT.l2]; exact hi), inside_lt (show i < t.2.2.2.1.length by rw [hT.l3]; exact hi), inside_lt (show i < t.2.2.2.2.1.length by rw [hT.l4]; exact hi), show decide ((i : Int) < (l.length : Int)) = true from by simp; omega, cond_true, g24 hT hi, Option.bind_some, w1, w2, w3]
      exact ⟨_, st, rfl, rfl, rfl, rfl, wr (by omega) (by omega), rfl, rfl⟩)
    (fun s hs => by
      obtain ⟨e1, e2, e3, e4, e5, e6, e7⟩ := hs
      have st : g4_taliklaw01_GroundLedgers_l0_step s = some (1, ((s.1.1, (s.1.2.1, (s.1.2.2.1, (s.1.2.2.2.1, (s.1.2.2.2.2.1, ()))))), (s.2.1, (s.2.2.1, (s.2.2.2.1, ()))))) := by
        unfold g4_taliklaw01_GroundLedgers_l0_step
        simp only [e1, e5, show decide ((l.length : Int) < (l.length : Int)) = false from by simp, cond_false]
      exact ⟨_, st, e1, e2, e3, e4, e7⟩)
    (g4_taliklaw01_GroundLedgers_l0_fuel ((l, (K, (0, (0, (0, ()))))), (p, (t, (x, ()))))) ((l, (K, (0, (0, (0, ()))))), (p, (t, (x, ())))) (by simp [g4_taliklaw01_GroundLedgers_l0_fuel]) ⟨rfl, rfl, rfl, rfl, rfl, rfl, rfl⟩
theorem ledgers_true (p : E25) (l : List E72) (t : E29) : g4_taliklaw01_GroundLedgers p l t = some true := by
  unfold g4_taliklaw01_GroundLedgers
  obtain ⟨b, h1, h2⟩ := g22 p l t
  rw [h1, known_true]
  simp only [Option.bind_some]
  cases b with
  | false => rfl
  | true =>
    have h := h2 rfl
    have hT := h.T
    have hf := hT.few
    obtain ⟨q, q1, q2, q3, q4, q5, q6⟩ := ledgers_loop (x := (Ins t l.length, (Outs t 0 l.length, ((RL t 0 l.length).2, ())))) (K := Kno p l l.length) h
    obtain ⟨⟨b1, b2⟩, b3, b4⟩ := sums_bd hT (Int.le_refl 0) l.length (Nat.le_refl _)
    obtain ⟨c1, c2, c3, c4⟩ := ledger_laws hT l.length (Nat.le_refl _)
    have c5 := h.least (Nat.le_refl _)
    have w1 : IntKind.wrap .i64 (Ins t l.length - Outs t 0 l.length) = Ins t l.length - Outs t 0 l.length := wr (by omega) (by omega)
    rw [h.play, h.known]
    simp only [Bool.not_true, cond_false, Option.bind_some, show ((0 : Int) != 0) = false from rfl, Kno_len, show ((l.length : Int) != (l.length : Int)) = false from by simp, q1, q2, q3, q4, q5, q6, show (Ins t l.length != Ins t l.length) = false from by simp, w1, show ((RL t 0 l.length).2 != Ins t l.length - Outs t 0 l.length) = false from by simp; exact c2]
    rw [show decide (Outs t 0 l.length < 0) = false from by simp; omega, show decide (Outs t 0 l.length > Cans t l.length) = false from by simp; omega, show decide (Outs t 0 l.length > Ins t l.length) = false from by simp; omega]
    simp only [cond_false]
    by_cases hz : l.length = 0
    · rw [show decide ((l.length : Int) > 0) = false from decide_eq_false (by omega)]
      rfl
    · obtain ⟨m, hm⟩ : ∃ m, l.length = m + 1 := ⟨l.length - 1, by omega⟩
      have w2 : IntKind.wrap .i64 ((l.length : Int) - 1) = (m : Int) := by rw [wr (by omega) (by omega)]; omega
      rw [show decide ((l.length : Int) > 0) = true from decide_eq_true (by omega), w2, getD_toNat, inside_lt (show m < l.length by omega), Kno_getD (show m < l.length by omega), g25]
      simp only [cond_true, Option.bind_some]
      have hin : inB (RL t 0 l.length).2 (kno p l m).2.1.1 (kno p l m).2.1.2.1 = true := by
        rw [inB_spec, hm]
        exact h.left (i := m + 1) (by omega)
      rw [hin]
      rfl
theorem g4_taliklaw01_GroundLedgers_true (x : Els [.dat T25, .dat (.list T72), .dat T29]) : g4_taliklaw01_GroundLedgers x.1 x.2.1 x.2.2.1 = some true := ledgers_true _ _ _
end Go.Proofs.YtbidmbjkjpdgdaaDoor.Abs
