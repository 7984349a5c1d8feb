/-
  Plain laws of the ground layer, ninth part: which truths are fair.
-/
import Derived.Test.YtbidmbjkjpdgdaaDoorGq7
set_option linter.unusedVariables false
set_option linter.unusedSimpArgs false
set_option maxRecDepth 100000
namespace Go.Proofs.YtbidmbjkjpdgdaaDoor.Abs

/-- A place, years and a truth that are as defined. -/
structure Fair (p : E25) (l : List E72) (t : E29) : Prop where
  err : errOf p l true = 0
  tru : truB p l t = true
theorem Fair.few {p : E25} {l : List E72} {t : E29} (h : Fair p l t) : l.length ≤ 12 := (errOf_zero h.err).1
theorem Fair.place {p : E25} {l : List E72} {t : E29} (h : Fair p l t) : okPl p = true := (errOf_zero h.err).2.2.1
theorem Fair.years {p : E25} {l : List E72} {t : E29} (h : Fair p l t) : l.all okY = true := (errOf_zero h.err).2.2.2
theorem Fair.T {p : E25} {l : List E72} {t : E29} (h : Fair p l t) : Tru t l.length := (tru_of h.few h.place h.years h.tru).1
theorem Fair.L {p : E25} {l : List E72} {t : E29} (h : Fair p l t) : Lay p.1 t.1 := (tru_of h.few h.place h.years h.tru).2
theorem fair_end {p : E25} {l : List E72} {w : Bool} (h : errOf p l true = 0) : Fair p l (eT w p l) :=
  ⟨h, eT_true (errOf_zero h).2.2.1 (errOf_zero h).2.2.2 w⟩
theorem g22 (p : E25) (l : List E72) (t : E29) : ∃ b, g22_taliklaw01_fair p l t = some b ∧ (b = true → Fair p l t) := by
  unfold g22_taliklaw01_fair
  rw [g13, g14]
  simp only [Option.bind_some]
  cases hs : decide (p.1.length ≤ 12) && decide (l.length ≤ 17) with
  | false => exact ⟨false, rfl, fun h => by cases h⟩
  | true =>
    simp only [cond_true]
    cases hz : decide (t.1.length ≤ 12) && decide (t.2.1.length ≤ 20) && decide (t.2.2.1.length ≤ 20) && decide (t.2.2.2.1.length ≤ 20) && decide (t.2.2.2.2.1.length ≤ 20) with
    | false => exact ⟨false, rfl, fun h => by cases h⟩
    | true =>
      simp only [Bool.and_eq_true, decide_eq_true_eq] at hs
      simp only [cond_true]
      rw [g17 p l (by omega) (by omega), g18 p l t (by omega) (by omega)]
      simp only [Option.bind_some]
      cases he : errOf p l true == 0 with
      | false => exact ⟨false, rfl, fun h => by cases h⟩
      | true => exact ⟨truB p l t, rfl, fun h => ⟨by simpa using he, h⟩⟩
theorem Fair.play {p : E25} {l : List E72} {t : E29} (h : Fair p l t) : g16_ground_Play p l t = some (Ds p t 0 l.length, ((Ins t l.length, (Outs t 0 l.length, ((RL t 0 l.length).2, ()))), (0, ()))) :=
  g16_ok h.few h.place h.years h.tru
theorem Fair.known {p : E25} {l : List E72} {t : E29} (h : Fair p l t) : g23_ground_Years p l = some (Kno p l l.length, (0, ())) := g23_ok h.err
theorem Fair.thaw {p : E25} {l : List E72} {t : E29} (h : Fair p l t) {i : Nat} (hi : i < l.length) : thw p (eT false p l) 0 i ≤ thw p t 0 i ∧ thw p t 0 i ≤ thw p (eT true p l) 0 i :=
  ⟨thw_cold h.few h.place h.years h.tru (Int.le_refl 0) hi, thw_hot h.few h.place h.years h.tru (Int.le_refl 0) hi⟩
theorem Fair.left {p : E25} {l : List E72} {t : E29} (h : Fair p l t) {i : Nat} (hi : i ≤ l.length) : (RL (eT false p l) 0 i).2 ≤ (RL t 0 i).2 ∧ (RL t 0 i).2 ≤ (RL (eT true p l) 0 i).2 :=
  ⟨lef_cold h.few h.place h.years h.tru (Int.le_refl 0) hi, lef_hot h.few h.place h.years h.tru (Int.le_refl 0) hi⟩
theorem Fair.least {p : E25} {l : List E72} {t : E29} (h : Fair p l t) {i : Nat} (hi : i ≤ l.length) : 0 ≤ (RL t 0 i).2 := (RL_bd h.T (Int.le_refl 0) i hi).2.1
end Go.Proofs.YtbidmbjkjpdgdaaDoor.Abs
