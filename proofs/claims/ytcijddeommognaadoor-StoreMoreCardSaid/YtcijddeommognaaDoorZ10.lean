import Derived.Test.YtcijddeommognaaDoorF3
import Derived.Test.YtcijddeommognaaDoorCards
import Derived.Test.YtcijddeommognaaDoorTie
import Derived.Test.YtcijddeommognaaDoorA3
import Derived.WalkKit
import Derived.ProofKit
import Derived.OpenShut
import Derived.Deep.DeepHandedRow
import Derived.Lib.LaidTab
import Derived.Stop.LaidErr
/-
  A law of the store layer as a typed function. Printed by a program of mine (gen.py).
-/
set_option linter.unusedVariables false
set_option maxRecDepth 100000
namespace Go.Proofs.YtcijddeommognaaDoor.Abs
open Go.Shelf Go.Sort
noncomputable def g10_taliklaw06_StoreMore_C : CalT := tabC [g15_taliklaw06_short_E, g20_taliklaw06_known_E, g16_talikref06_Store_E, g17_talikref06_Plan_E, g35_taliklaw06_harder_E]
theorem g10_taliklaw06_StoreMore_CV : CV Tryd.prog g10_taliklaw06_StoreMore_C := tabC_valid (l := [g15_taliklaw06_short_E, g20_taliklaw06_known_E, g16_talikref06_Store_E, g17_talikref06_Plan_E, g35_taliklaw06_harder_E]) ⟨g15_taliklaw06_short_valid, g20_taliklaw06_known_valid, g16_talikref06_Store_valid, g17_talikref06_Plan_valid, g35_taliklaw06_harder_valid, trivial⟩
noncomputable def g10_taliklaw06_StoreMore (a0 : E27) (a1 : Int) (a2 : (List (List Int))) (a3 : (List Bool)) : Option Bool :=
  (Option.bind (g15_taliklaw06_short a0) fun r1 =>
  (bif (!r1) then
    (Option.bind g20_taliklaw06_known fun r2 =>
      some r2)
    else
    (bif (decide ((List.length a2 : Int) > 40)) then
      (Option.bind g20_taliklaw06_known fun r3 =>
        some r3)
      else
      (bif (decide ((List.length a3 : Int) > 15)) then
        (Option.bind g20_taliklaw06_known fun r4 =>
          some r4)
        else
        (Option.bind (g16_talikref06_Store a0) fun r5 =>
          (bif (!r5) then
            (Option.bind g20_taliklaw06_known fun r6 =>
              some r6)
            else
            (Option.bind (g17_talikref06_Plan a0 a1) fun r7 =>
              (bif (!r7) then
                (Option.bind g20_taliklaw06_known fun r8 =>
                  some r8)
                else
                (bif (decide (List.length ([] : List (List (List Int))) + List.length a0.2.2.2.2.2.2.2.1 ≤ LIM)) then
                  (bif (decide (List.length (([] : List (List (List Int))) ++ a0.2.2.2.2.2.2.2.1) + List.length [a2] ≤ LIM)) then
                    (bif (decide (List.length ([] : List (List Bool)) + List.length a0.2.2.2.2.2.2.1 ≤ LIM)) then
                      (bif (decide (List.length (([] : List (List Bool)) ++ a0.2.2.2.2.2.2.1) + List.length [a3] ≤ LIM)) then
                        (Option.bind (g35_taliklaw06_harder a0 (a0.1, (a0.2.1, (a0.2.2.1, (a0.2.2.2.1, (a0.2.2.2.2.1, (a0.2.2.2.2.2.1, (a0.2.2.2.2.2.2.1, (((([] : List (List (List Int))) ++ a0.2.2.2.2.2.2.2.1) ++ [a2]), a0.2.2.2.2.2.2.2.2)))))))) a1) fun r9 =>
                          (bif r9 then
                            (Option.bind (g35_taliklaw06_harder a0 (a0.1, (a0.2.1, (a0.2.2.1, (a0.2.2.2.1, (a0.2.2.2.2.1, (a0.2.2.2.2.2.1, (((([] : List (List Bool)) ++ a0.2.2.2.2.2.2.1) ++ [a3]), a0.2.2.2.2.2.2.2))))))) a1) fun r10 =>
                              (bif r10 then
                                (Option.bind g20_taliklaw06_known fun r11 =>
                                  some r11)
                                else
                                some false))
                            else
                            some false))
                        else
                        none)
                      else
                      none)
                    else
                    none)
                  else
                  none)))))))))
noncomputable def g10_taliklaw06_StoreMore_E : CEnt := pureE 10 [.dat T27, .dat (.int .i64), .dat (.list (.arr 3 (.int .i64))), .dat (.list .bool)] (.dat .bool) fun x => g10_taliklaw06_StoreMore x.1 x.2.1 x.2.2.1 x.2.2.2.1
theorem g10_taliklaw06_StoreMore_LV : LV 0 Tryd.prog false (loopsOf (bodyOf Tryd.f10)) [] := by unfold LV; cases loopsOf (bodyOf Tryd.f10) <;> trivial
theorem g10_taliklaw06_StoreMore_ent : Ent Tryd.prog 10 := ⟨by decide, enters_of Tryd.func10 (by kernel_rfl) rfl⟩
theorem g10_taliklaw06_StoreMore_hev : ∀ x, fnR Tryd.prog g10_taliklaw06_StoreMore_C [] Tryd.f10 (bodyOf Tryd.f10) (encs [.dat T27, .dat (.int .i64), .dat (.list (.arr 3 (.int .i64))), .dat (.list .bool)] x) ⟨[], [], 0⟩ (frzF (.dat .bool)) = g10_taliklaw06_StoreMore x.1 x.2.1 x.2.2.1 x.2.2.2.1 := by
  intro x; kernel_rfl
theorem g10_taliklaw06_StoreMore_lcall : ∀ x r, (fun x : Els [.dat T27, .dat (.int .i64), .dat (.list (.arr 3 (.int .i64))), .dat (.list .bool)] => g10_taliklaw06_StoreMore x.1 x.2.1 x.2.2.1 x.2.2.2.1) x = some r → LCall 0 Tryd.prog 10 (encs [.dat T27, .dat (.int .i64), .dat (.list (.arr 3 (.int .i64))), .dat (.list .bool)] x) ⟨[], [], 0⟩ (.d .bool r) ⟨[], [], 0⟩ := frz_lcall (R := .dat .bool) mixed Tryd.func10 rfl g10_taliklaw06_StoreMore_ent g10_taliklaw06_StoreMore_CV g10_taliklaw06_StoreMore_LV (by kernel_rfl) (by kernel_rfl) g10_taliklaw06_StoreMore_hev

end Go.Proofs.YtcijddeommognaaDoor.Abs

/-
  Plain laws of the store layer: faults, and the first thing to run out.
-/
set_option linter.unusedVariables false
set_option linter.unusedSimpArgs false
set_option maxRecDepth 100000
namespace Go.Proofs.YtcijddeommognaaDoor.Abs

/-- The first place below `n` at which something is so. -/
def fnd (b : Nat → Bool) (n : Nat) : Option Nat := (List.range n).find? b
theorem fnd_none {b : Nat → Bool} {n : Nat} : fnd b n = none ↔ ∀ l, l < n → b l = false := by
  unfold fnd
  rw [List.find?_eq_none]
  constructor
  · intro h l hl; have := h l (List.mem_range.2 hl); simpa using this
  · intro h l hl; simp [h l (List.mem_range.1 hl)]
theorem fnd_is {b : Nat → Bool} {n j : Nat} (h1 : j < n) (h2 : b j = true) (h3 : ∀ l, l < j → b l = false) : fnd b n = some j := by
  unfold fnd
  rw [List.find?_range_eq_some]
  exact ⟨h2, List.mem_range.2 h1, fun l hl => by simp [h3 l hl]⟩
theorem fnd_some {b : Nat → Bool} {n j : Nat} (h : fnd b n = some j) : j < n ∧ b j = true ∧ ∀ l, l < j → b l = false := by
  cases hq : fnd b n with
  | none => rw [hq] at h; cases h
  | some i =>
    unfold fnd at h
    rw [List.find?_range_eq_some] at h
    exact ⟨List.mem_range.1 h.2.1, h.1, fun l hl => by have := h.2.2 l hl; simpa using this⟩
theorem fnd_ge {b : Nat → Bool} {n j : Nat} (h1 : j < n) (h2 : b j = true) : ∃ i, i ≤ j ∧ fnd b n = some i := by
  cases h : fnd b n with
  | none => rw [fnd_none.1 h j h1] at h2; cases h2
  | some i =>
    refine ⟨i, ?_, rfl⟩
    apply Classical.byContradiction
    intro hn
    rw [(fnd_some h).2.2 j (by omega)] at h2; cases h2
def orX {α β : Type} (o : Option Nat) (X : Nat → α) (Y : α) (k1 k2 : Nat) : Option (Nat × α) := match o with
  | some j => some (k1, X j)
  | none => some (k2, Y)
theorem iter_fnd {α : Type} {step : α → Option (Nat × α)} {n k1 k2 fuel : Nat} {bad : Nat → Bool} (F X : Nat → α) (Y : α) (hgo : ∀ i, i < n → step (F i) = some (bif bad i then (k1 + 1, X i) else (0, F (i + 1)))) (hend : step (F n) = some (k2 + 1, Y)) (hf : n < fuel) :
    iter step fuel (F 0) = orX (α := α) (β := α) (fnd bad n) X Y k1 k2 := by
  rcases iter_fn F X Y hgo hend hf with ⟨j, h1, h2, h3, h4⟩ | ⟨h1, h2⟩
  · rw [fnd_is h1 h2 h3, h4]; rfl
  · rw [fnd_none.2 h1, h2]; rfl

/-- The first kind that is lacking. -/
def kO (g : List Int) : Option Nat := fnd (fun k => decide (g.getD k 0 > 0)) 3
/-- The first week in which something is. -/
def wO (l : List (List Int)) : Option Nat := fnd (fun w => (kO (l.getD w z3)).isSome) l.length
/-- What is lacking of a store. -/
def lkM (s : E27) (p i n : Nat) : List (List Int) := (traceM s p i n).2.2.1
def nO (s : E27) (p i : Nat) : Option Nat := fnd (fun n => (wO (lkM s p i n)).isSome) s.2.2.2.2.2.2.2.1.length
def iO (s : E27) (p : Nat) : Option Nat := fnd (fun i => (nO s p i).isSome) s.2.2.2.2.2.2.1.length
def noF : E44 := (false, (0, (0, (0, (0, ())))))
def fW (l : List (List Int)) (i n w : Nat) : E44 := (true, ((i : Int), ((n : Int), ((w : Int), (((kO (l.getD w z3)).getD 0 : Nat) : Int), ()))))
def fN (s : E27) (p i n : Nat) : E44 := fW (lkM s p i n) i n ((wO (lkM s p i n)).getD 0)
def fI (s : E27) (p i : Nat) : E44 := fN s p i ((nO s p i).getD 0)
/-- The fault of a plan. -/
def faultM (s : E27) (p : Nat) : E44 := match iO s p with
  | some i => fI s p i
  | none => noF

theorem fault_l3 (p i n w x1 x2 x3 x4 : Int) (L : List (List Int)) (m j : Int) (s : E27) (e : E44) (g : List Int) :
    g55_store_fault_l3_run ((p, (i, (n, (w, (x1, (x2, (x3, (x4, (L, (m, (j, (0, ())))))))))))), (s, (e, (g, ())))) =
      orX (β := E44) (kO g) (fun k => ((p, (i, (n, (w, (x1, (x2, (x3, (x4, (L, (m, (j, ((k : Int), ())))))))))))), (s, ((true, (i, (n, (w, ((k : Int), ()))))), (g, ())))))
        ((p, (i, (n, (w, (x1, (x2, (x3, (x4, (L, (m, (j, (3, ())))))))))))), (s, (e, (g, ())))) 0 1 := by
  exact iter_fnd (step := g55_store_fault_l3_step) (n := 3) (bad := fun k => decide (g.getD k 0 > 0))
    (fun k => ((p, (i, (n, (w, (x1, (x2, (x3, (x4, (L, (m, (j, ((k : Int), ())))))))))))), (s, (e, (g, ()))))) _ _
    (fun k hk => by
      have h3 := lt_int hk
      simp only [g55_store_fault_l3_step, show ((3 : Nat) : Int) = 3 from rfl, three_lt' hk, ge0, Bool.and_true, cond_true, getD_toNat, wr1 (i := k) (by omega)]
      cases decide (g.getD k 0 > 0) <;> rfl)
    rfl (by simp [g55_store_fault_l3_fuel])
theorem fault_l2 (p i n x1 x2 x3 x4 : Int) (L : List (List Int)) (hL : L.length < 2 ^ 40) (s : E27) (e : E44) :
    g55_store_fault_l2_run ((p, (i, (n, (x1, (x2, (x3, (x4, (L, ((L.length : Int), (0, ())))))))))), (s, (e, ()))) =
      orX (β := E44) (wO L) (fun w => ((p, (i, (n, (x1, (x2, (x3, (x4, (L, ((L.length : Int), ((w : Int), ())))))))))), (s, ((true, (i, (n, ((w : Int), ((((kO (L.getD w z3)).getD 0 : Nat) : Int), ()))))), ()))))
        ((p, (i, (n, (x1, (x2, (x3, (x4, (L, ((L.length : Int), ((L.length : Int), ())))))))))), (s, (e, ()))) 0 1 := by
  exact iter_fnd (step := g55_store_fault_l2_step) (n := L.length) (bad := fun w => (kO (L.getD w z3)).isSome)
    (fun w => ((p, (i, (n, (x1, (x2, (x3, (x4, (L, ((L.length : Int), ((w : Int), ())))))))))), (s, (e, ())))) _ _
    (fun w hw => by
      simp only [g55_store_fault_l2_step, lt_int hw, ge0, Bool.and_true, cond_true, getD_toNat]
      rw [fault_l3, show List.replicate 3 (0 : Int) = z3 from rfl]
      cases h : kO (L.getD w z3) with
      | some k => rfl
      | none => simp only [orX, Option.bind_some, natK, wr1 (i := w) (by omega)]; rfl)
    (by simp only [g55_store_fault_l2_step, nlt_int, cond_false]) (by simp [g55_store_fault_l2_fuel])
theorem fault_l1 {s : E27} (hs : OkS s) (wf : WfS s) {p : Nat} (hp : p < 2 ^ shN s) {i : Nat} (hi : i < s.2.2.2.2.2.2.1.length) (x1 x2 : Int) (e : E44) :
    g55_store_fault_l1_run (((p : Int), ((i : Int), (x1, (x2, ((s.2.2.2.2.2.2.2.1.length : Int), (0, ())))))), (s, (e, ()))) =
      orX (β := E44) (nO s p i) (fun n => (((p : Int), ((i : Int), (x1, (x2, ((s.2.2.2.2.2.2.2.1.length : Int), ((n : Int), ())))))), (s, (fN s p i n, ()))))
        (((p : Int), ((i : Int), (x1, (x2, ((s.2.2.2.2.2.2.2.1.length : Int), ((s.2.2.2.2.2.2.2.1.length : Int), ())))))), (s, (e, ()))) 0 1 := by
  have hnw := hs.nwin.2
  exact iter_fnd (step := g55_store_fault_l1_step) (n := s.2.2.2.2.2.2.2.1.length) (bad := fun n => (wO (lkM s p i n)).isSome)
    (fun n => (((p : Int), ((i : Int), (x1, (x2, ((s.2.2.2.2.2.2.2.1.length : Int), ((n : Int), ())))))), (s, (e, ())))) _ _
    (fun n hn => by
      have hl := (trace_lens hs wf (i := i) hp hn).2.2
      have hw := (win_len hs wf hn).2
      simp only [g55_store_fault_l1_step, lt_int hn, cond_true, trace54 hs wf hp hi hn, Option.bind_some]
      rw [fault_l2 _ _ _ _ _ _ _ _ (by rw [hl]; omega)]
      rw [show (traceM s p i n).2.2.1 = lkM s p i n from rfl]
      cases h : wO (lkM s p i n) with
      | some w =>
        simp only [orX, Option.bind_some, natK, Option.isSome_some, cond_true, fN, fW, h, Option.getD_some]
      | none => simp only [orX, Option.bind_some, natK, wr1 (i := n) (by omega)]; rfl)
    (by simp only [g55_store_fault_l1_step, nlt_int, cond_false]) (by simp [g55_store_fault_l1_fuel])
theorem fault_l0 {s : E27} (hs : OkS s) (wf : WfS s) {p : Nat} (hp : p < 2 ^ shN s) (e : E44) :
    g55_store_fault_l0_run (((p : Int), ((s.2.2.2.2.2.2.1.length : Int), (0, ()))), (s, (e, ()))) =
      orX (β := E44) (iO s p) (fun i => (((p : Int), ((s.2.2.2.2.2.2.1.length : Int), ((i : Int), ()))), (s, (fI s p i, ()))))
        (((p : Int), ((s.2.2.2.2.2.2.1.length : Int), ((s.2.2.2.2.2.2.1.length : Int), ()))), (s, (e, ()))) 0 1 := by
  have hni := hs.nices.2
  exact iter_fnd (step := g55_store_fault_l0_step) (n := s.2.2.2.2.2.2.1.length) (bad := fun i => (nO s p i).isSome)
    (fun i => (((p : Int), ((s.2.2.2.2.2.2.1.length : Int), ((i : Int), ()))), (s, (e, ())))) _ _
    (fun i hi => by
      simp only [g55_store_fault_l0_step, lt_int hi, cond_true]
      rw [fault_l1 hs wf hp hi]
      cases h : nO s p i with
      | some n => simp only [orX, Option.bind_some, natK, Option.isSome_some, cond_true, fI, h, Option.getD_some]
      | none => simp only [orX, Option.bind_some, natK, wr1 (i := i) (by omega)]; rfl)
    (by simp only [g55_store_fault_l0_step, nlt_int, cond_false]) (by simp [g55_store_fault_l0_fuel])
theorem fault55 {s : E27} (hs : OkS s) (wf : WfS s) {p : Nat} (hp : p < 2 ^ shN s) : g55_store_fault s (p : Int) = some (faultM s p) := by
  unfold g55_store_fault faultM
  rw [fault_l0 hs wf hp]
  cases iO s p <;> rfl
theorem fault24_ok {s : E27} (h : ShortW s) (hs : OkS s) (wf : WfS s) {p : Nat} (hp : p < 2 ^ shN s) : g24_store_Fault s (p : Int) = some (faultM s p, (0, ())) := by
  unfold g24_store_Fault
  rw [(valid51 s h).val hs]
  simp only [Option.bind_some, Bool.not_true, cond_false]
  rw [(planned52 s h.n10 _).val (nat_okp hp)]
  simp only [Option.bind_some, Bool.not_true, cond_false, fault55 hs wf hp]
theorem fault24_bad {s : E27} (h : ShortW s) {p : Int} (hb : ¬ (OkS s ∧ OkP s p)) : g24_store_Fault s p = some (noF, (2, ())) := by
  unfold g24_store_Fault
  by_cases hs : OkS s
  · rw [(valid51 s h).val hs]
    simp only [Option.bind_some, Bool.not_true, cond_false]
    rw [(planned52 s h.n10 _).nval (fun hp => hb ⟨hs, hp⟩)]; rfl
  · rw [(valid51 s h).nval hs]; rfl

/-! ### The reference's faults -/
theorem lack_l1 (l : List (List Int)) (a b : Int) (c : Bool) (w : Nat) (hw : w < l.length) :
    g56_talikref06_Lack_l1_run ((l, (a, (b, (c, ((w : Int), (0, ())))))), ()) =
      orX (β := E44) (kO (l.getD w z3)) (fun k => ((l, ((w : Int), ((k : Int), (true, ((w : Int), ((k : Int), ())))))), ())) ((l, (a, (b, (c, ((w : Int), (3, ())))))), ()) 0 1 := by
  exact iter_fnd (step := g56_talikref06_Lack_l1_step) (n := 3) (bad := fun k => decide ((l.getD w z3).getD k 0 > 0))
    (fun k => ((l, (a, (b, (c, ((w : Int), ((k : Int), ())))))), ())) _ _
    (fun k hk => by
      have h3 := lt_int hk
      simp only [g56_talikref06_Lack_l1_step, show ((3 : Nat) : Int) = 3 from rfl, three_lt' hk, lt_int hw, ge0, Bool.and_true, cond_true, getD_toNat, wr1 (i := k) (by omega)]
      rw [show List.replicate 3 (0 : Int) = z3 from rfl]
      cases decide ((l.getD w z3).getD k 0 > 0) <;> rfl)
    rfl (by simp [g56_talikref06_Lack_l1_fuel])
/-- The first week and kind of which something is lacking. -/
def lackA (l : List (List Int)) : Int × (Int × (Bool × Unit)) := match wO l with
  | some w => ((w : Int), ((((kO (l.getD w z3)).getD 0 : Nat) : Int), (true, ())))
  | none => (0, (0, (false, ())))
theorem lack56 (l : List (List Int)) (hl : l.length < 2 ^ 40) : g56_talikref06_Lack l = some (lackA l) := by
  have K := iter_fnd (step := g56_talikref06_Lack_l0_step) (n := l.length) (bad := fun w => (kO (l.getD w z3)).isSome) (k1 := 0) (k2 := 1) (fuel := g56_talikref06_Lack_l0_fuel ((l, (0, (0, (false, (0, ()))))), ()))
    (fun w => ((l, (0, (0, (false, ((w : Int), ()))))), ())) (fun w => ((l, ((w : Int), ((((kO (l.getD w z3)).getD 0 : Nat) : Int), (true, ((w : Int), ()))))), ())) ((l, (0, (0, (false, ((l.length : Int), ()))))), ())
    (fun w hw => by
      simp only [g56_talikref06_Lack_l0_step, lt_int hw, cond_true]
      rw [lack_l1 _ _ _ _ _ hw]
      cases h : kO (l.getD w z3) with
      | some k => rfl
      | none => simp only [orX, Option.bind_some, natK, wr1 (i := w) (by omega)]; rfl)
    (by simp only [g56_talikref06_Lack_l0_step, nlt_int, cond_false]) (by simp [g56_talikref06_Lack_l0_fuel])
  have K : g56_talikref06_Lack_l0_run ((l, (0, (0, (false, (0, ()))))), ()) = _ := K
  unfold g56_talikref06_Lack lackA
  rw [K]
  unfold wO
  cases fnd (fun w => (kO (l.getD w z3)).isSome) l.length <;> rfl
end Go.Proofs.YtcijddeommognaaDoor.Abs

/-
  Plain laws of the store layer: the reference's faults; the first thing to run out, of both.
-/
set_option linter.unusedVariables false
set_option linter.unusedSimpArgs false
set_option maxRecDepth 100000
namespace Go.Proofs.YtcijddeommognaaDoor.Abs

theorem rfault_l1 {s : E27} (hs : OkS s) (wf : WfS s) {p : Nat} (hp : p < 2 ^ shN s) {i : Nat} (hi : i < s.2.2.2.2.2.2.1.length) (e : E44) :
    g26_talikref06_Fault_l1_run (((p : Int), ((i : Int), (0, ()))), (s, (e, ()))) =
      orX (β := E44) (nO s p i) (fun n => (((p : Int), ((i : Int), ((n : Int), ()))), (s, (fN s p i n, ()))))
        (((p : Int), ((i : Int), ((s.2.2.2.2.2.2.2.1.length : Int), ()))), (s, (e, ()))) 0 1 := by
  have hnw := hs.nwin.2
  exact iter_fnd (step := g26_talikref06_Fault_l1_step) (n := s.2.2.2.2.2.2.2.1.length) (bad := fun n => (wO (lkM s p i n)).isSome)
    (fun n => (((p : Int), ((i : Int), ((n : Int), ()))), (s, (e, ())))) _ _
    (fun n hn => by
      have hl := (trace_lens hs wf (i := i) hp hn).2.2
      have hw := (win_len hs wf hn).2
      simp only [g26_talikref06_Fault_l1_step, lt_int hn, cond_true, run38 hs wf hp hi hn, Option.bind_some]
      rw [lack56 _ (by rw [hl]; omega)]
      rw [show (traceM s p i n).2.2.1 = lkM s p i n from rfl]
      simp only [Option.bind_some, lackA]
      cases h : wO (lkM s p i n) with
      | some w =>
        simp only [Option.isSome_some, cond_true, fN, fW, h, Option.getD_some]
      | none => simp only [cond_false, Option.isSome_none, wr1 (i := n) (by omega)])
    (by simp only [g26_talikref06_Fault_l1_step, nlt_int, cond_false]) (by simp [g26_talikref06_Fault_l1_fuel])
theorem rfault26 {s : E27} (hs : OkS s) (wf : WfS s) {p : Nat} (hp : p < 2 ^ shN s) : g26_talikref06_Fault s (p : Int) = some (faultM s p) := by
  have hni := hs.nices.2
  have K := iter_fnd (step := g26_talikref06_Fault_l0_step) (n := s.2.2.2.2.2.2.1.length) (bad := fun i => (nO s p i).isSome) (k1 := 0) (k2 := 1) (fuel := g26_talikref06_Fault_l0_fuel (((p : Int), (0, ())), (s, (noF, ()))))
    (fun i => (((p : Int), ((i : Int), ())), (s, (noF, ())))) (fun i => (((p : Int), ((i : Int), ())), (s, (fI s p i, ())))) (((p : Int), ((s.2.2.2.2.2.2.1.length : Int), ())), (s, (noF, ())))
    (fun i hi => by
      simp only [g26_talikref06_Fault_l0_step, lt_int hi, cond_true]
      rw [rfault_l1 hs wf hp hi]
      cases h : nO s p i with
      | some n => simp only [orX, Option.bind_some, natK, Option.isSome_some, cond_true, fI, h, Option.getD_some]
      | none => simp only [orX, Option.bind_some, natK, wr1 (i := i) (by omega)]; rfl)
    (by simp only [g26_talikref06_Fault_l0_step, nlt_int, cond_false]) (by simp [g26_talikref06_Fault_l0_fuel])
  have K : g26_talikref06_Fault_l0_run (((p : Int), (0, ())), (s, ((false, (0, (0, (0, (0, ()))))), ()))) = _ := K
  unfold g26_talikref06_Fault faultM
  rw [K]
  unfold iO
  cases fnd (fun i => (nO s p i).isSome) s.2.2.2.2.2.2.1.length <;> rfl

/-! ### What is lacking is never less than nothing -/
theorem mx_nonneg (a : Int) : 0 ≤ mx a := by unfold mx; split <;> omega
theorem run_la (s : E27) (il : List Bool) (wl : List (List Int)) (p : Nat) : ∀ w, ∀ g ∈ (runM s il wl p w).2.2.2, ∃ y n, g = lackM y n
  | 0, g, h => by simp [runM] at h
  | w + 1, g, h => by
    simp only [runM, weekM, List.mem_append, List.mem_singleton] at h
    rcases h with h | h
    · exact run_la s il wl p w g h
    · exact ⟨_, _, h⟩
theorem lack_nonneg (y n : List Int) (k : Nat) : 0 ≤ (lackM y n).getD k 0 := by
  match k with
  | 0 => exact mx_nonneg _
  | 1 => exact mx_nonneg _
  | 2 => exact mx_nonneg _
  | k + 3 => simp [lackM]
theorem lk_nonneg (s : E27) (p i n w k : Nat) : 0 ≤ ((lkM s p i n).getD w z3).getD k 0 := by
  by_cases h : w < (lkM s p i n).length
  · obtain ⟨y, m, e⟩ := run_la s (ice s i) (win s n) p _ _ (getD_mem (d := z3) h)
    have e : (lkM s p i n).getD w z3 = lackM y m := e
    rw [e]; exact lack_nonneg y m k
  · have e : (lkM s p i n).getD w z3 = z3 := by rw [List.getD_eq_getElem?_getD, List.getElem?_eq_none (by omega)]; rfl
    rw [e]
    match k with
    | 0 => decide
    | 1 => decide
    | 2 => decide
    | k + 3 => simp [z3]

/-! ### The first thing to run out -/
abbrev Acc := Int × Int × Bool
def upd (a : Acc) (w k : Int) : Acc := bif !a.2.2 || decide (w < a.1) || (w == a.1 && decide (k < a.2.1)) then (w, k, true) else a
def updL (a : Acc) (l : List (List Int)) : Acc := match wO l with
  | some w => upd a (w : Int) (((kO (l.getD w z3)).getD 0 : Nat) : Int)
  | none => a
def firstN (s : E27) (p i : Nat) (a : Acc) : Nat → Acc
  | 0 => a
  | n + 1 => updL (firstN s p i a n) (lkM s p i n)
def firstI (s : E27) (p : Nat) : Nat → Acc
  | 0 => (0, 0, false)
  | i + 1 => firstN s p i (firstI s p i) s.2.2.2.2.2.2.2.1.length
theorem rfirst_l1 {s : E27} (hs : OkS s) (wf : WfS s) {p : Nat} (hp : p < 2 ^ shN s) {i : Nat} (hi : i < s.2.2.2.2.2.2.1.length) (a : Acc) :
    g27_talikref06_First_l1_run (((p : Int), (a.1, (a.2.1, (a.2.2, ((i : Int), (0, ())))))), (s, ())) =
      some (0, (((p : Int), ((firstN s p i a s.2.2.2.2.2.2.2.1.length).1, ((firstN s p i a s.2.2.2.2.2.2.2.1.length).2.1, ((firstN s p i a s.2.2.2.2.2.2.2.1.length).2.2, ((i : Int), ((s.2.2.2.2.2.2.2.1.length : Int), ())))))), (s, ()))) := by
  have hnw := hs.nwin.2
  exact iter_run (step := g27_talikref06_First_l1_step) (n := s.2.2.2.2.2.2.2.1.length) (k := 0)
    (fun n => (((p : Int), ((firstN s p i a n).1, ((firstN s p i a n).2.1, ((firstN s p i a n).2.2, ((i : Int), ((n : Int), ())))))), (s, ()))) _
    (fun n hn => by
      have hl := (trace_lens hs wf (i := i) hp hn).2.2
      have hw := (win_len hs wf hn).2
      simp only [g27_talikref06_First_l1_step, lt_int hn, cond_true, run38 hs wf hp hi hn, Option.bind_some]
      rw [lack56 _ (by rw [hl]; omega)]
      rw [show (traceM s p i n).2.2.1 = lkM s p i n from rfl]
      simp only [Option.bind_some, lackA, firstN, updL]
      generalize firstN s p i a n = b
      obtain ⟨b1, b2, b3⟩ := b
      cases h : wO (lkM s p i n) with
      | some w =>
        simp only [upd, cond_true, wr1 (i := n) (by omega)]
        cases b3 with
        | false => rfl
        | true =>
          cases decide ((w : Int) < b1) with
          | true => rfl
          | false =>
            cases ((w : Int) == b1) with
            | false => rfl
            | true => cases decide ((((kO ((lkM s p i n).getD w z3)).getD 0 : Nat) : Int) < b2) <;> rfl
      | none => simp only [cond_false, wr1 (i := n) (by omega)])
    (by simp only [g27_talikref06_First_l1_step, nlt_int, cond_false]) (by simp [g27_talikref06_First_l1_fuel])
theorem rfirst27 {s : E27} (hs : OkS s) (wf : WfS s) {p : Nat} (hp : p < 2 ^ shN s) : g27_talikref06_First s (p : Int) = some ((firstI s p s.2.2.2.2.2.2.1.length).1, ((firstI s p s.2.2.2.2.2.2.1.length).2.1, ((firstI s p s.2.2.2.2.2.2.1.length).2.2, ()))) := by
  have hni := hs.nices.2
  have K := iter_run (step := g27_talikref06_First_l0_step) (n := s.2.2.2.2.2.2.1.length) (k := 0) (fuel := g27_talikref06_First_l0_fuel (((p : Int), (0, (0, (false, (0, ()))))), (s, ())))
    (fun i => (((p : Int), ((firstI s p i).1, ((firstI s p i).2.1, ((firstI s p i).2.2, ((i : Int), ()))))), (s, ())))
    (((p : Int), ((firstI s p s.2.2.2.2.2.2.1.length).1, ((firstI s p s.2.2.2.2.2.2.1.length).2.1, ((firstI s p s.2.2.2.2.2.2.1.length).2.2, ((s.2.2.2.2.2.2.1.length : Int), ()))))), (s, ()))
    (fun i hi => by
      simp only [g27_talikref06_First_l0_step, lt_int hi, cond_true]
      rw [rfirst_l1 hs wf hp hi (firstI s p i)]
      simp only [Option.bind_some, wr1 (i := i) (by omega)]
      rfl)
    (by simp only [g27_talikref06_First_l0_step, nlt_int, cond_false]) (by simp [g27_talikref06_First_l0_fuel])
  have K : g27_talikref06_First_l0_run (((p : Int), (0, (0, (false, (0, ()))))), (s, ())) = _ := K
  unfold g27_talikref06_First
  rw [K]; rfl

/-! ### The program's -/
theorem first_l3 (p : Int) (a : Acc) (i w x1 x2 x3 x4 : Int) (L : List (List Int)) (m j : Int) (s : E27) (g : List Int) (hg : ∀ k, 0 ≤ g.getD k 0) :
    g25_store_First_l3_run ((p, (a.1, (a.2.1, (a.2.2, (i, (w, (x1, (x2, (x3, (x4, (L, (m, (j, (0, ())))))))))))))), (s, (g, ()))) =
      orX (β := E44) (kO g) (fun k => ((p, ((upd a w (k : Int)).1, ((upd a w (k : Int)).2.1, ((upd a w (k : Int)).2.2, (i, (w, (x1, (x2, (x3, (x4, (L, (m, (j, ((k : Int), ())))))))))))))), (s, (g, ()))))
        ((p, (a.1, (a.2.1, (a.2.2, (i, (w, (x1, (x2, (x3, (x4, (L, (m, (j, (3, ())))))))))))))), (s, (g, ()))) 0 1 := by
  exact iter_fnd (step := g25_store_First_l3_step) (n := 3) (bad := fun k => decide (g.getD k 0 > 0))
    (fun k => ((p, (a.1, (a.2.1, (a.2.2, (i, (w, (x1, (x2, (x3, (x4, (L, (m, (j, ((k : Int), ())))))))))))))), (s, (g, ())))) _ _
    (fun k hk => by
      have h3 := lt_int hk
      simp only [g25_store_First_l3_step, show ((3 : Nat) : Int) = 3 from rfl, three_lt' hk, ge0, Bool.and_true, cond_true, getD_toNat, wr1 (i := k) (by omega)]
      have := hg k
      by_cases h0 : g.getD k 0 = 0
      · rw [h0]; rfl
      · rw [show (g.getD k 0 == 0) = false by simpa using h0, decide_eq_true (show g.getD k 0 > 0 by omega)]
        obtain ⟨a1, a2, a3⟩ := a
        simp only [cond_false, cond_true, upd]
        cases a3 with
        | false => rfl
        | true =>
          cases decide (w < a1) with
          | true => rfl
          | false =>
            cases (w == a1) with
            | false => rfl
            | true => cases decide ((k : Int) < a2) <;> rfl)
    rfl (by simp [g25_store_First_l3_fuel])
theorem first_l2 (p : Int) (a : Acc) (i x1 x2 x3 x4 : Int) (L : List (List Int)) (hL : L.length < 2 ^ 40) (hg : ∀ w k, 0 ≤ (L.getD w z3).getD k 0) (s : E27) :
    ∃ e j, g25_store_First_l2_run ((p, (a.1, (a.2.1, (a.2.2, (i, (x1, (x2, (x3, (x4, (L, ((L.length : Int), (0, ())))))))))))), (s, ())) =
      some (e, ((p, ((updL a L).1, ((updL a L).2.1, ((updL a L).2.2, (i, (x1, (x2, (x3, (x4, (L, ((L.length : Int), (j, ())))))))))))), (s, ()))) := by
  have K := iter_fnd (step := g25_store_First_l2_step) (n := L.length) (bad := fun w => (kO (L.getD w z3)).isSome) (k1 := 0) (k2 := 0) (fuel := g25_store_First_l2_fuel ((p, (a.1, (a.2.1, (a.2.2, (i, (x1, (x2, (x3, (x4, (L, ((L.length : Int), (0, ())))))))))))), (s, ())))
    (fun w => ((p, (a.1, (a.2.1, (a.2.2, (i, (x1, (x2, (x3, (x4, (L, ((L.length : Int), ((w : Int), ())))))))))))), (s, ())))
    (fun w => ((p, ((upd a (w : Int) (((kO (L.getD w z3)).getD 0 : Nat) : Int)).1, ((upd a (w : Int) (((kO (L.getD w z3)).getD 0 : Nat) : Int)).2.1, ((upd a (w : Int) (((kO (L.getD w z3)).getD 0 : Nat) : Int)).2.2, (i, (x1, (x2, (x3, (x4, (L, ((L.length : Int), ((w : Int), ())))))))))))), (s, ())))
    ((p, (a.1, (a.2.1, (a.2.2, (i, (x1, (x2, (x3, (x4, (L, ((L.length : Int), ((L.length : Int), ())))))))))))), (s, ()))
    (fun w hw => by
      simp only [g25_store_First_l2_step, lt_int hw, ge0, Bool.and_true, cond_true, getD_toNat]
      rw [show List.replicate 3 (0 : Int) = z3 from rfl, first_l3 p a i (w : Int) x1 x2 x3 x4 L (L.length : Int) (w : Int) s _ (hg w)]
      cases h : kO (L.getD w z3) with
      | some k => rfl
      | none => simp only [orX, Option.bind_some, natK, wr1 (i := w) (by omega)]; rfl)
    (by simp only [g25_store_First_l2_step, nlt_int, cond_false]) (by simp [g25_store_First_l2_fuel])
  have K : g25_store_First_l2_run ((p, (a.1, (a.2.1, (a.2.2, (i, (x1, (x2, (x3, (x4, (L, ((L.length : Int), (0, ())))))))))))), (s, ())) = _ := K
  rw [K]
  unfold updL wO
  cases fnd (fun w => (kO (L.getD w z3)).isSome) L.length with
  | some w => exact ⟨_, _, rfl⟩
  | none => exact ⟨_, _, rfl⟩
theorem first_l1 {s : E27} (hs : OkS s) (wf : WfS s) {p : Nat} (hp : p < 2 ^ shN s) {i : Nat} (hi : i < s.2.2.2.2.2.2.1.length) (x1 x2 : Int) (a : Acc) :
    g25_store_First_l1_run (((p : Int), (a.1, (a.2.1, (a.2.2, ((i : Int), (x1, (x2, ((s.2.2.2.2.2.2.2.1.length : Int), (0, ()))))))))), (s, ())) =
      some (0, (((p : Int), ((firstN s p i a s.2.2.2.2.2.2.2.1.length).1, ((firstN s p i a s.2.2.2.2.2.2.2.1.length).2.1, ((firstN s p i a s.2.2.2.2.2.2.2.1.length).2.2, ((i : Int), (x1, (x2, ((s.2.2.2.2.2.2.2.1.length : Int), ((s.2.2.2.2.2.2.2.1.length : Int), ()))))))))), (s, ()))) := by
  have hnw := hs.nwin.2
  exact iter_run (step := g25_store_First_l1_step) (n := s.2.2.2.2.2.2.2.1.length) (k := 0)
    (fun n => (((p : Int), ((firstN s p i a n).1, ((firstN s p i a n).2.1, ((firstN s p i a n).2.2, ((i : Int), (x1, (x2, ((s.2.2.2.2.2.2.2.1.length : Int), ((n : Int), ()))))))))), (s, ()))) _
    (fun n hn => by
      have hl := (trace_lens hs wf (i := i) hp hn).2.2
      have hw := (win_len hs wf hn).2
      simp only [g25_store_First_l1_step, lt_int hn, cond_true, trace54 hs wf hp hi hn, Option.bind_some]
      obtain ⟨e, j, h1⟩ := first_l2 (p : Int) (firstN s p i a n) (i : Int) x1 x2 (s.2.2.2.2.2.2.2.1.length : Int) (n : Int) (lkM s p i n) (by rw [show (lkM s p i n).length = _ from hl]; omega) (lk_nonneg s p i n) s
      rw [show (traceM s p i n).2.2.1 = lkM s p i n from rfl, h1]
      simp only [Option.bind_some, wr1 (i := n) (by omega)]
      rfl)
    (by simp only [g25_store_First_l1_step, nlt_int, cond_false]) (by simp [g25_store_First_l1_fuel])
theorem first25_ok {s : E27} (h : ShortW s) (hs : OkS s) (wf : WfS s) {p : Nat} (hp : p < 2 ^ shN s) : g25_store_First s (p : Int) = some (bif (firstI s p s.2.2.2.2.2.2.1.length).2.2 then ((firstI s p s.2.2.2.2.2.2.1.length).1, ((firstI s p s.2.2.2.2.2.2.1.length).2.1, (0, ()))) else (0, (0, (5, ())))) := by
  have hni := hs.nices.2
  have K := iter_run (step := g25_store_First_l0_step) (n := s.2.2.2.2.2.2.1.length) (k := 0) (fuel := g25_store_First_l0_fuel (((p : Int), (0, (0, (false, ((s.2.2.2.2.2.2.1.length : Int), (0, ())))))), (s, ())))
    (fun i => (((p : Int), ((firstI s p i).1, ((firstI s p i).2.1, ((firstI s p i).2.2, ((s.2.2.2.2.2.2.1.length : Int), ((i : Int), ())))))), (s, ())))
    (((p : Int), ((firstI s p s.2.2.2.2.2.2.1.length).1, ((firstI s p s.2.2.2.2.2.2.1.length).2.1, ((firstI s p s.2.2.2.2.2.2.1.length).2.2, ((s.2.2.2.2.2.2.1.length : Int), ((s.2.2.2.2.2.2.1.length : Int), ())))))), (s, ()))
    (fun i hi => by
      simp only [g25_store_First_l0_step, lt_int hi, cond_true]
      rw [first_l1 hs wf hp hi _ _ (firstI s p i)]
      simp only [Option.bind_some, wr1 (i := i) (by omega)]
      rfl)
    (by simp only [g25_store_First_l0_step, nlt_int, cond_false]) (by simp [g25_store_First_l0_fuel])
  have K : g25_store_First_l0_run (((p : Int), (0, (0, (false, ((s.2.2.2.2.2.2.1.length : Int), (0, ())))))), (s, ())) = _ := K
  unfold g25_store_First
  rw [(valid51 s h).val hs]
  simp only [Option.bind_some, Bool.not_true, cond_false]
  rw [(planned52 s h.n10 _).val (nat_okp hp)]
  simp only [Option.bind_some, Bool.not_true, cond_false]
  rw [K]
  simp only [Option.bind_some]
  cases (firstI s p s.2.2.2.2.2.2.1.length).2.2 <;> rfl
theorem first25_bad {s : E27} (h : ShortW s) {p : Int} (hb : ¬ (OkS s ∧ OkP s p)) : g25_store_First s p = some (0, (0, (2, ()))) := by
  unfold g25_store_First
  by_cases hs : OkS s
  · rw [(valid51 s h).val hs]
    simp only [Option.bind_some, Bool.not_true, cond_false]
    rw [(planned52 s h.n10 _).nval (fun hp => hb ⟨hs, hp⟩)]; rfl
  · rw [(valid51 s h).nval hs]; rfl
end Go.Proofs.YtcijddeommognaaDoor.Abs

/-
  Plain laws of the store layer: costs, and the best plan.
-/
set_option linter.unusedVariables false
set_option linter.unusedSimpArgs false
set_option maxRecDepth 100000
namespace Go.Proofs.YtcijddeommognaaDoor.Abs

def shc (s : E27) (k : Nat) : Int := (s.2.2.2.2.2.1.getD k dShip).2.2.1
/-- The cost of the first ships of a plan. -/
def cst (s : E27) (p : Nat) : Nat → Int
  | 0 => 0
  | k + 1 => bif p.testBit k then cst s p k + shc s k else cst s p k
def costM (s : E27) (p : Nat) : Int := cst s p (shN s)
theorem shc_ok {s : E27} (hs : OkS s) {k : Nat} (h : k < shN s) : 0 ≤ shc s k ∧ shc s k ≤ 1000000 := (hs.ships _ (getD_mem h)).2.2
theorem cst_ok {s : E27} (hs : OkS s) (p : Nat) : ∀ k, k ≤ shN s → 0 ≤ cst s p k ∧ cst s p k ≤ 1000000 * (k : Int)
  | 0, _ => by simp [cst]
  | k + 1, h => by
    have h1 := cst_ok hs p k (by omega)
    have h2 := shc_ok hs (show k < shN s by omega)
    simp only [cst]
    cases p.testBit k with
    | true => simp only [cond_true]; omega
    | false => simp only [cond_false]; omega
theorem cst_more {s : E27} {p : Nat} (hp : p < 2 ^ shN s) : ∀ d, cst s p (shN s + d) = costM s p
  | 0 => rfl
  | d + 1 => by
    rw [← Nat.add_assoc]
    simp only [cst]
    have : p.testBit (shN s + d) = false := by
      cases h : p.testBit (shN s + d) with
      | false => rfl
      | true => have := bit_lt hp h; omega
    rw [this, cond_false, cst_more hp d]
theorem cost30 {s : E27} (hs : OkS s) {p : Nat} (hp : p < 2 ^ shN s) : g30_talikref06_Cost s (p : Int) = some (costM s p) := by
  have hn := shN_le hs
  have hp40 : p < 2 ^ 40 := Nat.lt_of_lt_of_le hp (Nat.pow_le_pow_right (by decide) (by omega))
  have K := iter_run (step := g30_talikref06_Cost_l0_step) (n := shN s) (k := 0) (fuel := g30_talikref06_Cost_l0_fuel (((p : Int), (0, (0, ()))), (s, ())))
    (fun k => (((p : Int), (cst s p k, ((k : Int), ()))), (s, ()))) (((p : Int), (costM s p, ((shN s : Int), ()))), (s, ()))
    (fun k hk => by
      have e0 : decide ((k : Int) < (s.2.2.2.2.2.1.length : Int)) = true := lt_int hk
      have h1 := cst_ok hs p k (by omega)
      have h2 := shc_ok hs hk
      simp only [g30_talikref06_Cost_l0_step, e0, cond_true, has22 p k hp40 (by omega), Option.bind_some, ge0, Bool.and_true, getD_toNat, cst, wr1 (i := k) (by omega)]
      rw [show (s.2.2.2.2.2.1.getD k (0, ((List.replicate 3 0), (0, ())))).2.2.1 = shc s k from rfl]
      cases p.testBit k with
      | true => simp only [cond_true]; rw [wr (n := cst s p k + shc s k) (by omega) (by omega)]
      | false => rfl)
    (by
      have e0 : decide ((shN s : Int) < (s.2.2.2.2.2.1.length : Int)) = false := nlt_int _
      simp only [g30_talikref06_Cost_l0_step, e0, cond_false]; rfl)
    (by simp only [g30_talikref06_Cost_l0_fuel, shN]; omega)
  have K : g30_talikref06_Cost_l0_run (((p : Int), (0, (0, ()))), (s, ())) = _ := K
  unfold g30_talikref06_Cost
  rw [K]; rfl

/-! ### The map of costs -/
theorem find_put (k k' : Int) (v : Int) : ∀ m : List (Int × Int), findD (.int .i64) k (putD (.int .i64) k' v m) = if k = k' then some v else findD (.int .i64) k m
  | [] => by
    simp only [putD, findD, eqD]
    by_cases h : k = k'
    · rw [if_pos h, show (k == k') = true by simpa using h]; rfl
    · rw [if_neg h, show (k == k') = false by simpa using h]; rfl
  | (a, b) :: m => by
    simp only [putD, eqD]
    by_cases h' : k' = a
    · subst h'
      simp only [beq_self_eq_true, cond_true, findD, eqD]
      by_cases h : k = k'
      · rw [if_pos h, show (k == k') = true by simpa using h]; rfl
      · rw [if_neg h, show (k == k') = false by simpa using h]; rfl
    · rw [show (k' == a) = false by simpa using h']
      simp only [cond_false, findD, eqD]
      rw [find_put k k' v m]
      by_cases h : k = a
      · subst h
        have hk : ¬ k = k' := fun e => h' e.symm
        simp [hk]
      · rw [show (k == a) = false by simpa using h]; rfl
def at0 (m : List (Int × Int)) (k : Int) : Int := Option.getD (findD (.int .i64) k m) 0
theorem at0_put (k k' v : Int) (m : List (Int × Int)) : at0 (putD (.int .i64) k' v m) k = if k = k' then v else at0 m k := by
  unfold at0
  rw [find_put]
  by_cases h : k = k'
  · rw [if_pos h, if_pos h]; rfl
  · rw [if_neg h, if_neg h]
/-- The costs of all plans below one, and of some ships of it. -/
def MapIs (s : E27) (m : List (Int × Int)) (p j : Nat) : Prop := ∀ q : Nat, at0 m (q : Int) = if q < p then costM s q else if q = p then cst s p j else 0
theorem map_step {s : E27} {m : List (Int × Int)} {p : Nat} (hp : p < 2 ^ shN s) (h : MapIs s m p (shN s)) : MapIs s m (p + 1) 0 := fun q => by
  rw [h q]
  by_cases h1 : q < p
  · rw [if_pos h1, if_pos (by omega)]
  · by_cases h2 : q = p
    · subst h2; rw [if_neg h1, if_pos rfl, if_pos (by omega)]; rfl
    · rw [if_neg h1, if_neg h2, if_neg (by omega)]
      by_cases h3 : q = p + 1
      · subst h3; rw [if_pos rfl]; rfl
      · rw [if_neg h3]
theorem best_f_step {s : E27} (hs : OkS s) {p j : Nat} (hp : p < 2 ^ shN s) (hj : j < 6) {m : List (Int × Int)} (hm : MapIs s m p j) :
    ∃ m', MapIs s m' p (j + 1) ∧ g88_store_ships_1_v2_l0_step (((j : Int), ()), ((0, UC50), ((p : Int), (s, ((p : Int), (m, ())))))) =
      some (0, ((((j + 1 : Nat) : Int), ()), ((0, UC50), ((p : Int), (s, ((p : Int), (m', ()))))))) := by
  have hn := shN_le hs
  have hp40 : p < 2 ^ 40 := Nat.lt_of_lt_of_le hp (Nat.pow_le_pow_right (by decide) (by omega))
  have hb := bit88 p j hp40 hj
  have e0 : decide ((j : Int) < 6) = true := decide_eq_true (by omega)
  have e1 : decide ((j : Int) < 0) = false := decide_eq_false (by omega)
  simp only [g88_store_ships_1_v2_l0_step, e0, e1, cond_true, Bool.not_false, hb, wr1 (i := j) (by omega)]
  cases hbit : p.testBit j with
  | false =>
    refine ⟨m, fun q => ?_, rfl⟩
    rw [hm q]; simp only [cst, hbit, cond_false]
  | true =>
    have hjn : j < shN s := bit_lt hp hbit
    have hsh : decide ((j : Int) < (s.2.2.2.2.2.1.length : Int)) = true := lt_int hjn
    have h1 := cst_ok hs p j (by omega)
    have h2 := shc_ok hs hjn
    have hv : Option.getD (findD (.int .i64) (p : Int) m) 0 = cst s p j := by
      have := hm p
      rw [if_neg (Nat.lt_irrefl _), if_pos rfl] at this; exact this
    refine ⟨putD (.int .i64) (p : Int) (cst s p j + shc s j) m, fun q => ?_, ?_⟩
    · rw [at0_put]
      by_cases e : q = p
      · subst e
        rw [if_pos rfl, if_neg (Nat.lt_irrefl _), if_pos rfl]
        simp only [cst, hbit, cond_true]
      · rw [if_neg (by omega), hm q, if_neg e, if_neg e]
    · simp only [g28_r0, natK, cond_true, hsh, ge0, Bool.and_true, getD_toNat, hv, Option.bind_some, Bool.not_true, cond_false]
      rw [show (s.2.2.2.2.2.1.getD j (0, ((List.replicate 3 0), (0, ())))).2.2.1 = shc s j from rfl, wr (n := cst s p j + shc s j) (by omega) (by omega)]
theorem best_f {s : E27} (hs : OkS s) {p : Nat} (hp : p < 2 ^ shN s) {m : List (Int × Int)} (hm : MapIs s m p 0) :
    ∃ m', MapIs s m' p (shN s) ∧ g88_store_ships_1_v2 (0, UC50) (p : Int) s (p : Int) m = some ((), ((0, UC50), ((p : Int), (s, ((p : Int), (m', ())))))) := by
  have hn := shN_le hs
  obtain ⟨q, h1, m', h2, h3⟩ := iter_inv (step := g88_store_ships_1_v2_l0_step) (k := 1) (n := 6)
    (fun j x => ∃ m', MapIs s m' p j ∧ x = (((j : Int), ()), ((0, UC50), ((p : Int), (s, ((p : Int), (m', ())))))))
    (fun x => ∃ m', MapIs s m' p 6 ∧ x = (((6 : Int), ()), ((0, UC50), ((p : Int), (s, ((p : Int), (m', ())))))))
    (fun j x ⟨m', a1, a2⟩ hj => by
      subst a2
      obtain ⟨m'', b1, b2⟩ := best_f_step hs hp hj a1
      exact ⟨_, b2, m'', b1, rfl⟩)
    (fun x ⟨m', a1, a2⟩ => by
      subst a2
      exact ⟨_, rfl, m', a1, rfl⟩)
    6 0 7 ((0, ()), ((0, UC50), ((p : Int), (s, ((p : Int), (m, ())))))) (by omega) (by omega) ⟨m, hm, rfl⟩
  subst h3
  have h1 : g88_store_ships_1_v2_l0_run ((0, ()), ((0, UC50), ((p : Int), (s, ((p : Int), (m, ())))))) = _ := h1
  refine ⟨m', fun q => ?_, ?_⟩
  · rw [h2 q]
    have e : cst s p 6 = cst s p (shN s) := by
      have := cst_more hp (6 - shN s)
      rw [show shN s + (6 - shN s) = 6 by omega] at this; exact this
    rw [e]
  · unfold g88_store_ships_1_v2
    rw [h1]; rfl
/-- How many plans there are. -/
def plN (s : E27) : Nat := 2 ^ shN s
theorem plN_le {s : E27} (hs : OkS s) : plN s ≤ 64 := Nat.le_trans (Nat.pow_le_pow_right (by decide) (shN_le hs)) (by decide)
theorem plW {s : E27} (hs : OkS s) : IntKind.wrap .i64 (1 * 2 ^ (min (Int.toNat (s.2.2.2.2.2.1.length : Int)) (IntKind.bits .i64))) = (plN s : Int) := by
  have hn : s.2.2.2.2.2.1.length ≤ 6 := shN_le hs
  have e : min (Int.toNat (s.2.2.2.2.2.1.length : Int)) (IntKind.bits .i64) = s.2.2.2.2.2.1.length := by
    show min (Int.toNat (s.2.2.2.2.2.1.length : Int)) 64 = _
    simp; omega
  have e2 : (1 * 2 ^ s.2.2.2.2.2.1.length : Int) = ((2 ^ s.2.2.2.2.2.1.length : Nat) : Int) := by simp
  have h := plN_le hs
  rw [e, e2]
  unfold plN shN at *
  generalize (2 ^ s.2.2.2.2.2.1.length : Nat) = P at *
  rw [wr (by omega) (by omega)]
theorem best_costs {s : E27} (hs : OkS s) : ∃ m, MapIs s m (plN s) 0 ∧ g28_store_Best_l0_run (((plN s : Int), (0, ())), (s, ([], ()))) = some (0, (((plN s : Int), ((plN s : Int), ())), (s, (m, ())))) := by
  have hP := plN_le hs
  obtain ⟨q, h1, m', h2, h3⟩ := iter_inv (step := g28_store_Best_l0_step) (k := 0) (n := plN s)
    (fun p x => ∃ m', MapIs s m' p 0 ∧ x = (((plN s : Int), ((p : Int), ())), (s, (m', ()))))
    (fun x => ∃ m', MapIs s m' (plN s) 0 ∧ x = (((plN s : Int), ((plN s : Int), ())), (s, (m', ()))))
    (fun p x ⟨m', a1, a2⟩ hp => by
      subst a2
      obtain ⟨m'', b1, b2⟩ := best_f hs hp a1
      refine ⟨_, ?_, m'', map_step hp b1, rfl⟩
      simp only [g28_store_Best_l0_step, lt_int hp, cond_true, g57_store_ships, Option.bind_some]
      rw [b2]
      simp only [Option.bind_some, wr1 (i := p) (by omega)]
      rfl)
    (fun x ⟨m', a1, a2⟩ => by
      subst a2
      refine ⟨_, ?_, m', a1, rfl⟩
      simp only [g28_store_Best_l0_step, nlt_int, cond_false])
    (plN s) 0 (g28_store_Best_l0_fuel (((plN s : Int), (0, ())), (s, ([], ())))) (((plN s : Int), (0, ())), (s, ([], ()))) (by omega) (by simp only [g28_store_Best_l0_fuel]; omega)
    ⟨[], fun q => by
      show (0 : Int) = _
      rw [if_neg (by omega)]
      by_cases h : q = 0
      · subst h; rw [if_pos rfl]; rfl
      · rw [if_neg h], rfl⟩
  subst h3
  exact ⟨m', h2, h1⟩

/-! ### The search -/
/-- The best of the first plans. -/
def bs (s : E27) : Nat → Option Nat
  | 0 => none
  | p + 1 => match bs s p with
    | none => bif !(faultM s p).1 then some p else none
    | some b => bif !(faultM s p).1 && decide (costM s p < costM s b) then some p else some b
theorem bs_lt (s : E27) : ∀ p b, bs s p = some b → b < p
  | 0, b, h => by cases h
  | p + 1, b, h => by
    simp only [bs] at h
    cases hb : bs s p with
    | none =>
      rw [hb] at h
      simp only at h
      cases hf : (!(faultM s p).1) with
      | true => rw [hf] at h; simp at h; omega
      | false => rw [hf] at h; simp at h
    | some c =>
      rw [hb] at h
      have := bs_lt s p c hb
      simp only at h
      cases hf : (!(faultM s p).1 && decide (costM s p < costM s c)) with
      | true => rw [hf] at h; simp at h; omega
      | false => rw [hf] at h; simp at h; omega
def accB (s : E27) (o : Option Nat) : Int × Int × Bool := match o with
  | none => (0, 0, false)
  | some b => ((b : Int), costM s b, true)
theorem cheapest58 {s : E27} (hs : OkS s) (wf : WfS s) {m : List (Int × Int)} (hm : MapIs s m (plN s) 0) :
    g58_store_cheapest (plN s : Int) s m = some (((accB s (bs s (plN s))).1, ((accB s (bs s (plN s))).2.1, ((accB s (bs s (plN s))).2.2, ()))), (s, (m, ()))) := by
  have hP := plN_le hs
  have K := iter_run (step := g58_store_cheapest_l0_step) (n := plN s) (k := 0) (fuel := g58_store_cheapest_l0_fuel ((0, (0, (false, ((plN s : Int), (0, ()))))), (s, (m, ()))))
    (fun p => (((accB s (bs s p)).1, ((accB s (bs s p)).2.1, ((accB s (bs s p)).2.2, ((plN s : Int), ((p : Int), ()))))), (s, (m, ()))))
    (((accB s (bs s (plN s))).1, ((accB s (bs s (plN s))).2.1, ((accB s (bs s (plN s))).2.2, ((plN s : Int), ((plN s : Int), ()))))), (s, (m, ())))
    (fun p hp => by
      have hc : Option.getD (findD (.int .i64) (p : Int) m) 0 = costM s p := by
        have := hm p
        rw [if_pos hp] at this; exact this
      simp only [g58_store_cheapest_l0_step, lt_int hp, cond_true, g59_store_Best_1, fault55 hs wf hp, Option.bind_some, hc, wr1 (i := p) (by omega)]
      simp only [bs]
      cases hb : bs s p with
      | none =>
        simp only [accB, Bool.not_false, cond_true]
        cases (faultM s p).1 <;> rfl
      | some b =>
        simp only [accB, Bool.not_true, cond_false]
        cases (faultM s p).1 with
        | true => rfl
        | false =>
          simp only [Bool.not_false, cond_true, Bool.true_and]
          by_cases hlt : costM s p < costM s b
          · simp only [hlt, decide_true, cond_true]
          · simp only [hlt, decide_false, cond_false])
    (by simp only [g58_store_cheapest_l0_step, nlt_int, cond_false]) (by simp only [g58_store_cheapest_l0_fuel]; omega)
  have K : g58_store_cheapest_l0_run ((0, (0, (false, ((plN s : Int), (0, ()))))), (s, (m, ()))) = _ := K
  unfold g58_store_cheapest
  rw [K]; rfl
/-- What Best answers. -/
def bestA (s : E27) : Int × (Int × (Int × Unit)) := match bs s (plN s) with
  | none => (0, (0, (5, ())))
  | some b => ((b : Int), (costM s b, (0, ())))
theorem best28_ok {s : E27} (h : ShortW s) (hs : OkS s) (wf : WfS s) : g28_store_Best s = some (bestA s) := by
  obtain ⟨m, h1, h2⟩ := best_costs hs
  have e0 : (!decide ((s.2.2.2.2.2.1.length : Int) < 0)) = true := by simp
  unfold g28_store_Best
  rw [(valid51 s h).val hs]
  simp only [Option.bind_some, Bool.not_true, cond_false, e0, cond_true, plW hs]
  rw [h2]
  simp only [Option.bind_some, e0, cond_true, plW hs]
  rw [cheapest58 hs wf h1]
  unfold bestA
  cases bs s (plN s) <;> rfl
theorem best28_bad {s : E27} (h : ShortW s) (hs : ¬ OkS s) : g28_store_Best s = some (0, (0, (2, ()))) := by
  unfold g28_store_Best
  rw [(valid51 s h).nval hs]; rfl
def refB (o : Option Nat) : Int := match o with
  | none => -1
  | some b => (b : Int)
theorem rbest29 {s : E27} (h : ShortW s) (hs : OkS s) (wf : WfS s) : g29_talikref06_Best s = some (refB (bs s (plN s))) := by
  have hP := plN_le hs
  have hpl : g47_talikref06_Plans s = some (plN s : Int) := plans47 s h.n10
  have K := iter_run (step := g29_talikref06_Best_l0_step) (n := plN s) (k := 0) (fuel := g29_talikref06_Best_l0_fuel (((-1), (0, ())), (s, ())))
    (fun p => ((refB (bs s p), ((p : Int), ())), (s, ()))) ((refB (bs s (plN s)), ((plN s : Int), ())), (s, ()))
    (fun p hp => by
      simp only [g29_talikref06_Best_l0_step, hpl, Option.bind_some, lt_int hp, cond_true, rfault26 hs wf hp, cost30 hs hp, wr1 (i := p) (by omega)]
      simp only [bs]
      cases hb : bs s p with
      | none =>
        simp only [refB, show decide ((-1 : Int) < 0) = true from rfl, cond_true]
        cases (faultM s p).1 <;> rfl
      | some b =>
        have hbp : b < 2 ^ shN s := Nat.lt_trans (bs_lt s p b hb) hp
        have hb0 : ¬ ((b : Int) < 0) := by omega
        simp only [refB, hb0, decide_false, cond_false, cost30 hs hbp, Option.bind_some]
        by_cases hlt : costM s p < costM s b
        · simp only [hlt, decide_true, cond_true, Bool.and_true]
          cases (faultM s p).1 <;> rfl
        · simp only [hlt, decide_false, cond_false, Bool.and_false])
    (by simp only [g29_talikref06_Best_l0_step, hpl, Option.bind_some, nlt_int, cond_false]) (by rw [show g29_talikref06_Best_l0_fuel (((-1), (0, ())), (s, ())) = 100000 from rfl]; omega)
  have K : g29_talikref06_Best_l0_run (((-1), (0, ())), (s, ())) = _ := K
  unfold g29_talikref06_Best
  rw [K]; rfl
/-! What the search finds. -/
theorem bs_some {s : E27} : ∀ {P b : Nat}, bs s P = some b → b < P ∧ (faultM s b).1 = false ∧ ∀ q, q < P → (faultM s q).1 = false → costM s b < costM s q ∨ (costM s q = costM s b ∧ b ≤ q)
  | 0, b, h => by cases h
  | P + 1, b, h => by
    simp only [bs] at h
    cases hb : bs s P with
    | none =>
      rw [hb] at h
      simp only at h
      cases hf : (faultM s P).1 with
      | true => rw [hf] at h; simp at h
      | false =>
        rw [hf] at h
        simp at h
        subst h
        refine ⟨by omega, hf, fun q hq hq2 => ?_⟩
        by_cases e : q = P
        · subst e; exact .inr ⟨rfl, Nat.le_refl _⟩
        · exact absurd hq2 (by
            have := bs_none hb q (by omega)
            rw [this]; simp)
    | some c =>
      rw [hb] at h
      obtain ⟨h1, h2, h3⟩ := bs_some hb
      simp only at h
      cases hf : (faultM s P).1 with
      | true =>
        rw [hf] at h
        simp at h
        subst h
        refine ⟨by omega, h2, fun q hq hq2 => ?_⟩
        by_cases e : q = P
        · subst e; rw [hf] at hq2; cases hq2
        · exact h3 q (by omega) hq2
      | false =>
        rw [hf] at h
        by_cases hc : costM s P < costM s c
        · simp [hc] at h
          subst h
          refine ⟨by omega, hf, fun q hq hq2 => ?_⟩
          by_cases e : q = P
          · subst e; exact .inr ⟨rfl, Nat.le_refl _⟩
          · rcases h3 q (by omega) hq2 with k | ⟨k1, k2⟩
            · exact .inl (by omega)
            · exact .inl (by omega)
        · simp [hc] at h
          subst h
          refine ⟨by omega, h2, fun q hq hq2 => ?_⟩
          by_cases e : q = P
          · subst e
            rcases Int.lt_or_eq_of_le (Int.not_lt.1 hc) with k | k
            · exact .inl k
            · exact .inr ⟨k.symm, by omega⟩
          · exact h3 q (by omega) hq2
where bs_none {s : E27} : ∀ {P : Nat}, bs s P = none → ∀ q, q < P → (faultM s q).1 = true
  | 0, _, q, hq => by omega
  | P + 1, h, q, hq => by
    simp only [bs] at h
    cases hb : bs s P with
    | none =>
      rw [hb] at h
      simp only at h
      cases hf : (faultM s P).1 with
      | false => rw [hf] at h; simp at h
      | true =>
        by_cases e : q = P
        · subst e; exact hf
        · exact bs_none hb q (by omega)
    | some c =>
      rw [hb] at h
      simp only at h
      cases hf : (!(faultM s P).1 && decide (costM s P < costM s c)) with
      | true => rw [hf] at h; simp at h
      | false => rw [hf] at h; simp at h
theorem bs_none {s : E27} {P : Nat} (h : bs s P = none) : ∀ q, q < P → (faultM s q).1 = true := bs_some.bs_none h
end Go.Proofs.YtcijddeommognaaDoor.Abs

/-
  StoreMore: the plain law.
-/
set_option linter.unusedVariables false
set_option linter.unusedSimpArgs false
set_option maxRecDepth 100000
namespace Go.Proofs.YtcijddeommognaaDoor.Abs
theorem fault_true {s : E27} {p : Nat} : (faultM s p).1 = true ↔ ∃ i n, i < s.2.2.2.2.2.2.1.length ∧ n < s.2.2.2.2.2.2.2.1.length ∧ (wO (lkM s p i n)).isSome = true := by
  constructor
  · intro h
    cases hI : iO s p with
    | none =>
      unfold faultM at h
      rw [hI] at h; cases h
    | some i =>
      obtain ⟨h1, h2, _⟩ := fnd_some hI
      obtain ⟨n, hn⟩ := Option.isSome_iff_exists.1 h2
      obtain ⟨h3, h4, _⟩ := fnd_some hn
      exact ⟨i, n, h1, h3, h4⟩
  · rintro ⟨i, n, h1, h2, h3⟩
    obtain ⟨m, _, hm⟩ := fnd_ge (b := fun n => (wO (lkM s p i n)).isSome) h2 h3
    have h4 : (nO s p i).isSome = true := by unfold nO; rw [hm]; rfl
    obtain ⟨j, _, hj⟩ := fnd_ge (b := fun i => (nO s p i).isSome) h1 h4
    have h5 : iO s p = some j := hj
    unfold faultM
    rw [h5]; rfl
/-- Two stores that differ in their ices and winters alone. -/
structure Alike (s x : E27) : Prop where
  stock : x.1 = s.1
  yard : x.2.1 = s.2.1
  rate : x.2.2.1 = s.2.2.1
  land : x.2.2.2.2.1 = s.2.2.2.2.1
  ships : x.2.2.2.2.2.1 = s.2.2.2.2.2.1
theorem Alike.opn {s x : E27} (h : Alike s x) (il : List Bool) (w : Nat) : opn x il w = opn s il w := by unfold Abs.opn; rw [h.land]
theorem Alike.fr {s x : E27} (h : Alike s x) (i : Nat) : fr x i = fr s i := by unfold Abs.fr; rw [h.ships]
theorem Alike.cg {s x : E27} (h : Alike s x) (i : Nat) : cg x i = cg s i := by unfold Abs.cg; rw [h.ships]
theorem Alike.shN {s x : E27} (h : Alike s x) : shN x = shN s := by unfold Abs.shN; rw [h.ships]
theorem Alike.openB {s x : E27} (h : Alike s x) (il : List Bool) (i : Nat) : ∀ w, openB x il i w = openB s il i w
  | 0 => rfl
  | w + 1 => by simp only [Abs.openB]; rw [h.openB il i w, h.fr, h.opn]
theorem Alike.Qu {s x : E27} (h : Alike s x) (il : List Bool) (p : Nat) : ∀ w, Qu x il p w = Qu s il p w
  | 0 => rfl
  | w + 1 => by
    simp only [Abs.Qu]
    rw [h.Qu il p w]
    unfold newQ arrB
    simp only [h.openB, h.fr, h.opn]
theorem Alike.landOne {s x : E27} (h : Alike s x) : landOne x = landOne s := by
  funext y i
  unfold Abs.landOne landM
  rw [h.yard, h.cg]
theorem Alike.runM {s x : E27} (h : Alike s x) (il : List Bool) (wl : List (List Int)) (p : Nat) : ∀ w, runM x il wl p w = runM s il wl p w
  | 0 => by simp only [Abs.runM]; rw [h.stock, h.shN]
  | w + 1 => by
    simp only [Abs.runM]
    rw [h.runM il wl p w]
    unfold weekM landW
    rw [h.opn, h.Qu, h.landOne, h.rate]
theorem Alike.cst {s x : E27} (h : Alike s x) (p : Nat) : ∀ k, cst x p k = cst s p k
  | 0 => rfl
  | k + 1 => by
    simp only [Abs.cst]
    rw [h.cst p k]
    unfold shc
    rw [h.ships]
theorem Alike.costM {s x : E27} (h : Alike s x) (p : Nat) : costM x p = costM s p := by unfold Abs.costM; rw [h.cst, h.shN]
/-- One that has all ices and winters of another one. -/
structure Harder (s x : E27) extends Alike s x where
  ices : ∀ i, i < s.2.2.2.2.2.2.1.length → i < x.2.2.2.2.2.2.1.length ∧ ice x i = ice s i
  wins : ∀ n, n < s.2.2.2.2.2.2.2.1.length → n < x.2.2.2.2.2.2.2.1.length ∧ win x n = win s n
theorem Harder.fault {s x : E27} (h : Harder s x) {p : Nat} (hf : (faultM s p).1 = true) : (faultM x p).1 = true := by
  obtain ⟨i, n, h1, h2, h3⟩ := fault_true.1 hf
  obtain ⟨i1, i2⟩ := h.ices i h1
  obtain ⟨n1, n2⟩ := h.wins n h2
  refine fault_true.2 ⟨i, n, i1, n1, ?_⟩
  have e : lkM x p i n = lkM s p i n := by
    unfold lkM traceM
    simp only [i2, n2, h.toAlike.runM]
  rw [e]; exact h3
theorem harder35 {s x : E27} (hsh : ShortW s) (hxh : ShortW x) (hs : OkS s) (wf : WfS s) (wx : WfS x) (h : Harder s x) {p : Nat} (hp : p < 2 ^ shN s) : g35_taliklaw06_harder s x (p : Int) = some true := by
  unfold g35_taliklaw06_harder
  by_cases hx : OkS x
  · rw [(store16 x hxh).val hx]
    have hpx : p < 2 ^ shN x := by rw [h.toAlike.shN]; exact hp
    simp only [Option.bind_some, Bool.not_true, cond_false, fault24_ok hsh hs wf hp, fault24_ok hxh hx wx hpx, best28_ok hsh hs wf, best28_ok hxh hx wx, show ((0 : Int) != 0) = false from rfl]
    have hbest : (bestA x = (0, (0, (5, ()))) ∧ ((bestA s).2.2.1 = 0 ∨ (bestA s).2.2.1 = 5)) ∨ ((bestA x).2.2.1 = 0 ∧ (bestA s).2.2.1 = 0 ∧ (bestA x).2.1 ≥ (bestA s).2.1) := by
      unfold bestA
      cases hbx : bs x (plN x) with
      | none =>
        refine .inl ⟨rfl, ?_⟩
        cases bs s (plN s) with
        | none => exact .inr rfl
        | some b => exact .inl rfl
      | some d =>
        refine .inr ?_
        obtain ⟨d1, d2, _⟩ := bs_some hbx
        have hpl : plN x = plN s := by unfold plN; rw [h.toAlike.shN]
        have d3 : (faultM s d).1 = false := by
          cases hf : (faultM s d).1 with
          | false => rfl
          | true => rw [h.fault hf] at d2; cases d2
        cases hbs : bs s (plN s) with
        | none =>
          rw [bs_none hbs d (by rw [← hpl]; exact d1)] at d3; cases d3
        | some c =>
          obtain ⟨_, _, c3⟩ := bs_some hbs
          refine ⟨rfl, rfl, ?_⟩
          show costM x d ≥ costM s c
          rw [h.toAlike.costM]
          rcases c3 d (by rw [← hpl]; exact d1) d3 with k | ⟨k, _⟩ <;> omega
    have hb : ∀ (y : Option Bool), y = (bif ((bestA x).2.2.1 == 5) then (bif ((bestA s).2.2.1 == 0) then some true else (bif ((bestA s).2.2.1 == 5) then some true else (bif ((bestA x).2.2.1 == 0) then (bif ((bestA s).2.2.1 == 0) then some (decide ((bestA x).2.1 ≥ (bestA s).2.1)) else some false) else some false))) else (bif ((bestA x).2.2.1 == 0) then (bif ((bestA s).2.2.1 == 0) then some (decide ((bestA x).2.1 ≥ (bestA s).2.1)) else some false) else some false)) → y = some true := fun y hy => by
      rw [hy]
      rcases hbest with ⟨b1, b2 | b2⟩ | ⟨b1, b2, b3⟩
      · rw [b1, b2]; rfl
      · rw [b1, b2]; rfl
      · rw [b1, b2, decide_eq_true b3]; rfl
    cases hf : (faultM s p).1 with
    | true =>
      simp only [cond_true, h.fault hf, Bool.not_true, cond_false]
      exact hb _ rfl
    | false =>
      simp only [cond_false]
      exact hb _ rfl
  · rw [(store16 x hxh).nval hx]; rfl
theorem getD_snoc {α : Type} {l : List α} {a d : α} {i : Nat} (h : i < l.length) : (l ++ [a]).getD i d = l.getD i d := by
  rw [List.getD_eq_getElem?_getD, List.getElem?_append_left h, List.getD_eq_getElem?_getD]
theorem g10_taliklaw06_StoreMore_true : ∀ x : Els [.dat T27, .dat (.int .i64), .dat (.list (.arr 3 (.int .i64))), .dat (.list .bool)], wfs [.dat T27, .dat (.int .i64), .dat (.list (.arr 3 (.int .i64))), .dat (.list .bool)] x → g10_taliklaw06_StoreMore x.1 x.2.1 x.2.2.1 x.2.2.2.1 = some true := by
  rintro ⟨s, p, hard, opens, _⟩ ⟨hwf, _, hwh, _⟩
  have wf := wf27 hwf
  have wh : ∀ g ∈ hard, g.length = 3 := fun g hg => (hwh g hg).1
  show g10_taliklaw06_StoreMore s p hard opens = some true
  unfold g10_taliklaw06_StoreMore
  by_cases h : ShortS s
  case neg =>
    rw [(short15 s).nval h]
    simp only [Option.bind_some, Bool.not_false, cond_true, known20]
  rw [(short15 s).val h]
  simp only [Option.bind_some, Bool.not_true, cond_false]
  by_cases h40 : (hard.length : Int) > 40
  · rw [decide_eq_true h40]; simp only [cond_true, known20, Option.bind_some]
  rw [decide_eq_false h40]
  by_cases h15 : (opens.length : Int) > 15
  · rw [decide_eq_true h15]; simp only [cond_true, cond_false, known20, Option.bind_some]
  rw [decide_eq_false h15]
  simp only [cond_false]
  by_cases hs : OkS s
  case neg =>
    rw [(store16 s h).nval hs]
    simp only [Option.bind_some, Bool.not_false, cond_true, known20]
  rw [(store16 s h).val hs]
  simp only [Option.bind_some, Bool.not_true, cond_false]
  by_cases h1 : OkP s p
  case neg =>
    rw [(plan17 s h.n10 _).nval h1]
    simp only [Option.bind_some, Bool.not_false, cond_true, known20]
  rw [(plan17 s h.n10 _).val h1]
  obtain ⟨p, rfl, hp⟩ := okp_nat h1
  have hni := hs.nices.2
  have hnw := hs.nwin.2
  have e1 : decide (List.length ([] : List (List (List Int))) + s.2.2.2.2.2.2.2.1.length ≤ LIM) = true := decide_eq_true (by simp [LIM]; omega)
  have e2 : decide (List.length s.2.2.2.2.2.2.2.1 + List.length [hard] ≤ LIM) = true := decide_eq_true (by simp [LIM]; omega)
  have e3 : decide (List.length ([] : List (List Bool)) + s.2.2.2.2.2.2.1.length ≤ LIM) = true := decide_eq_true (by simp [LIM]; omega)
  have e4 : decide (List.length s.2.2.2.2.2.2.1 + List.length [opens] ≤ LIM) = true := decide_eq_true (by simp [LIM]; omega)
  simp only [Option.bind_some, Bool.not_true, cond_false, e1, e2, e3, e4, cond_true, List.nil_append, known20]
  have hx := harder35 (s := s) (x := (s.1, (s.2.1, (s.2.2.1, (s.2.2.2.1, (s.2.2.2.2.1, (s.2.2.2.2.2.1, (s.2.2.2.2.2.2.1, ((s.2.2.2.2.2.2.2.1 ++ [hard]), s.2.2.2.2.2.2.2.2))))))))) h
    ⟨h.ships, Nat.le_succ_of_le h.nices, by have := h.nwin; simp; omega, h.ices, fun l hl => by
      rcases List.mem_append.1 hl with hl | hl
      · exact h.wins l hl
      · simp only [List.mem_singleton] at hl; subst hl; omega⟩ hs wf
    ⟨wf.stock, wf.yard, wf.ships, fun l hl g hg => by
      rcases List.mem_append.1 hl with hl | hl
      · exact wf.wins l hl g hg
      · simp only [List.mem_singleton] at hl; subst hl; exact wh g hg⟩
    ⟨⟨rfl, rfl, rfl, rfl, rfl⟩, fun i hi => ⟨hi, rfl⟩, fun n hn => ⟨by simp; omega, getD_snoc hn⟩⟩ hp
  have hy := harder35 (s := s) (x := (s.1, (s.2.1, (s.2.2.1, (s.2.2.2.1, (s.2.2.2.2.1, (s.2.2.2.2.2.1, ((s.2.2.2.2.2.2.1 ++ [opens]), s.2.2.2.2.2.2.2)))))))) h
    ⟨h.ships, by have := h.nices; simp; omega, Nat.le_succ_of_le h.nwin, fun l hl => by
      rcases List.mem_append.1 hl with hl | hl
      · exact h.ices l hl
      · simp only [List.mem_singleton] at hl; subst hl; omega, h.wins⟩ hs wf
    ⟨wf.stock, wf.yard, wf.ships, wf.wins⟩
    ⟨⟨rfl, rfl, rfl, rfl, rfl⟩, fun i hi => ⟨by simp; omega, getD_snoc hi⟩, fun n hn => ⟨hn, rfl⟩⟩ hp
  rw [hx]
  simp only [Option.bind_some, cond_true]
  rw [hy]
  simp only [Option.bind_some, cond_true]
end Go.Proofs.YtcijddeommognaaDoor.Abs

/-
  talik/taliklaw06.StoreMore: for every input the law returns true; its arguments read as they did. No condition.
-/
set_option linter.unusedVariables false
set_option maxRecDepth 100000
namespace Go.Proofs.YtcijddeommognaaDoor.Abs.storeMore
open Go.ChangeShapes Go.WideShapes Go.RowKit
theorem own : ownKnob Tryd.prog.godebug = none := by kernel_rfl
theorem laidOut : laidOutB Tryd.prog = true := by kernel_rfl
theorem gTab : Tryd.prog.globalNamed "internal/strconv.uint64pow10" = some 0 := by kernel_rfl
theorem gTabType : (Tryd.prog.globals[0]?).map (·.type) = some 153 := by kernel_rfl
theorem cellsT : Tryd.prog.cellsOf 153 = 20 := by kernel_rfl
theorem cellsE : Tryd.prog.cellsOf 143 = 1 := by kernel_rfl
theorem undT : Tryd.prog.underlying 153 = some (.array 20 143) := by kernel_rfl
theorem undE : Tryd.prog.underlying 143 = some (.int .u64) := by kernel_rfl
theorem table {W : World} (h : laidMetH Tryd.prog Rows.storeMoreRow.laid W) : Lib.TabIs Tryd.prog W "internal/strconv.uint64pow10" .u64 [1, 10, 100, 1000, 10000, 100000, 1000000, 10000000, 100000000, 1000000000, 10000000000, 100000000000, 1000000000000, 10000000000000, 100000000000000, 1000000000000000, 10000000000000000, 100000000000000000, 1000000000000000000, 10000000000000000000] :=
  Lib.tabIs_of_head (rest := []) gTab gTabType undT undE cellsE cellsT (laidMet.tail (laidMet.tail (h)))
theorem tabOk {W : World} (h : laidMetH Tryd.prog Rows.storeMoreRow.laid W) : ∀ q ∈ TABS, ∃ e fr, W.heap[q.1]? = some (.cells q.2 e fr) := by
  have ht := table h
  unfold Lib.TabIs World.var? at ht
  rw [gTab] at ht
  simp only [Option.bind_some] at ht
  intro q hq
  have hq' : q = (0, _) := List.mem_singleton.1 hq
  subst hq'
  show ∃ e fr, W.heap[0]? = _
  split at ht
  · rename_i cs e fr hc
    exact ⟨e, fr, by rw [hc]; simp only [Option.some.injEq] at ht; rw [ht]; rfl⟩
  · cases ht
noncomputable def laidWorld (os : Os) : World :=
  { World.holding Tryd.prog os ⟨#[], #[], []⟩ with heap := ((((World.holding Tryd.prog os ⟨#[], #[], []⟩).heap.modify 2 fun | .cells _ t frozen => .cells #[.int .u8 0, .int .u8 1, .int .u8 28, .int .u8 2, .int .u8 29, .int .u8 14, .int .u8 24, .int .u8 3, .int .u8 30, .int .u8 22, .int .u8 20, .int .u8 15, .int .u8 25, .int .u8 17, .int .u8 4, .int .u8 8, .int .u8 31, .int .u8 27, .int .u8 13, .int .u8 23, .int .u8 21, .int .u8 19, .int .u8 16, .int .u8 7, .int .u8 26, .int .u8 12, .int .u8 18, .int .u8 6, .int .u8 11, .int .u8 5, .int .u8 10, .int .u8 9] t frozen | o => o).modify 3 fun | .cells _ t frozen => .cells #[.int .u8 0, .int .u8 1, .int .u8 56, .int .u8 2, .int .u8 57, .int .u8 49, .int .u8 28, .int .u8 3, .int .u8 61, .int .u8 58, .int .u8 42, .int .u8 50, .int .u8 38, .int .u8 29, .int .u8 17, .int .u8 4, .int .u8 62, .int .u8 47, .int .u8 59, .int .u8 36, .int .u8 45, .int .u8 43, .int .u8 51, .int .u8 22, .int .u8 53, .int .u8 39, .int .u8 33, .int .u8 30, .int .u8 24, .int .u8 18, .int .u8 12, .int .u8 5, .int .u8 63, .int .u8 55, .int .u8 48, .int .u8 27, .int .u8 60, .int .u8 41, .int .u8 37, .int .u8 16, .int .u8 46, .int .u8 35, .int .u8 44, .int .u8 21, .int .u8 52, .int .u8 32, .int .u8 23, .int .u8 11, .int .u8 54, .int .u8 26, .int .u8 40, .int .u8 15, .int .u8 34, .int .u8 20, .int .u8 31, .int .u8 10, .int .u8 25, .int .u8 14, .int .u8 19, .int .u8 9, .int .u8 13, .int .u8 8, .int .u8 7, .int .u8 6] t frozen | o => o).modify 0 fun | .cells _ t frozen => .cells #[.int .u64 1, .int .u64 10, .int .u64 100, .int .u64 1000, .int .u64 10000, .int .u64 100000, .int .u64 1000000, .int .u64 10000000, .int .u64 100000000, .int .u64 1000000000, .int .u64 10000000000, .int .u64 100000000000, .int .u64 1000000000000, .int .u64 10000000000000, .int .u64 100000000000000, .int .u64 1000000000000000, .int .u64 10000000000000000, .int .u64 100000000000000000, .int .u64 1000000000000000000, .int .u64 10000000000000000000] t frozen | o => o) }
theorem laid_met (os : Os) : laidMet Tryd.prog Rows.storeMoreRow.laid ((laidWorld os).forCall (fun _ _ => 0) ⟨#[], #[(Value.agg #[.int .i64 0, .int .i64 0, .int .i64 0, .int .i64 0, .int .i64 0, .int .i64 0, .int .i64 0, .int .i64 0, .int .i64 0, .slice none 0 0, .slice none 0 0, .slice none 0 0]), (Value.int .i64 0), (Value.slice none 0 0), (Value.slice none 0 0)], []⟩).memory :=
  laidMet_of_run' 8 (by kernel_rfl) (by kernel_rfl)
theorem reads (os : Os) {H : Type} (enc : TypeId × Value → H) : ∃ places, DataW.whole enc Tryd.prog ((laidWorld os).forCall (fun _ _ => 0) ⟨#[], #[(Value.agg #[.int .i64 0, .int .i64 0, .int .i64 0, .int .i64 0, .int .i64 0, .int .i64 0, .int .i64 0, .int .i64 0, .int .i64 0, .slice none 0 0, .slice none 0 0, .slice none 0 0]), (Value.int .i64 0), (Value.slice none 0 0), (Value.slice none 0 0)], []⟩).memory Tryd.f10.params.toList Rows.storeMoreSpec.vars false #[(Value.agg #[.int .i64 0, .int .i64 0, .int .i64 0, .int .i64 0, .int .i64 0, .int .i64 0, .int .i64 0, .int .i64 0, .int .i64 0, .slice none 0 0, .slice none 0 0, .slice none 0 0]), (Value.int .i64 0), (Value.slice none 0 0), (Value.slice none 0 0)].toList 16 = some ([.agg [.agg [.lit (.int .i64 0), .lit (.int .i64 0), .lit (.int .i64 0)], .agg [.lit (.int .i64 0), .lit (.int .i64 0), .lit (.int .i64 0)], .lit (.int .i64 0), .lit (.int .i64 0), .lit (.int .i64 0), .nil, .nil, .nil], .lit (.int .i64 0), .nil, .nil], [], places) :=
  ⟨[], by kernel_rfl⟩
theorem spec_fn (H : Type) : (ds : List (DataW H)) → ds.length = Tryd.f10.params.toList.length → (Rows.storeMoreSpec.fn H ds).results = [.lit (.bool true)] ∧ (Rows.storeMoreSpec.fn H ds).args = ds ∧ (Rows.storeMoreSpec.fn H ds).vars = []
  | [], h => by rw [show Tryd.f10.params.toList.length = 4 from by kernel_rfl] at h; simp at h
  | [d0], h => by rw [show Tryd.f10.params.toList.length = 4 from by kernel_rfl] at h; simp at h
  | [d0, d1], h => by rw [show Tryd.f10.params.toList.length = 4 from by kernel_rfl] at h; simp at h
  | [d0, d1, d2], h => by rw [show Tryd.f10.params.toList.length = 4 from by kernel_rfl] at h; simp at h
  | [d0, d1, d2, d3], _ => ⟨rfl, rfl, rfl⟩
  | d0 :: d1 :: d2 :: d3 :: _ :: _, h => by rw [show Tryd.f10.params.toList.length = 4 from by kernel_rfl] at h; simp at h
theorem contract (H : Type) (enc : TypeId × Value → H) (W : World) (base : Nat) (args : Array Value) (ds gs : List (DataW H)) (before : List MemPlace)
    (hval : ∀ (j : Nat) t v, Tryd.f10.params[j]? = some t → args[j]? = some v → Value.okWide Tryd.prog W .any base t v)
    (hW : DataW.Whole enc Tryd.prog Tryd.f10.params.toList Rows.storeMoreSpec.vars false W args.toList ds gs before) (hL : laidMetH Tryd.prog Rows.storeMoreRow.laid W) :
    Calls Tryd.prog 10 args W fun e W' => ∃ v, e = .returned v ∧ Rows.storeMoreSpec.post enc Tryd.prog Tryd.f10 false true false false W args v W' :=
  law_contract (n := 20) (fun x r h => g10_taliklaw06_StoreMore_lcall x r h) (fun x hx => g10_taliklaw06_StoreMore_true x hx) (by decide) (show Tryd.f10.resultTypes = #[4] by kernel_rfl) (by kernel_rfl) (by kernel_rfl) laidOut (by
    intro t ht
    have : (Tryd.f10.params.toList.all fun t => Tryd.prog.readableRec t && decide (t < Tryd.prog.types.size)) = true := by kernel_rfl
    have := List.all_eq_true.1 this t ht
    simpa using this) rfl spec_fn hval hW (tabOk hL)
theorem lifted (os : Os) (started : os.Started) (H : Type) (enc : TypeId × Value → H) (F : Stop.Interp) :
    ReturnsInHanded {} Tryd.checked os 10 .any ((OpenSpec.ofChange Rows.storeMoreSpec).preRow enc Tryd.prog Tryd.f10 Rows.storeMoreRow.domain false Rows.storeMoreRow.laid) (((OpenSpec.ofChange Rows.storeMoreSpec).at F).post enc Tryd.prog Tryd.f10 false true false false) := by
  obtain ⟨places, hx⟩ := reads os enc
  refine returnsInHanded_of_row (C := Tryd.checked) (s := OpenSpec.ofChange Rows.storeMoreSpec) own started (by kernel_rfl) Tryd.func10
    (witness_row_at (enc := enc) (C := Tryd.checked) false (laidWorld os) #[(Value.agg #[.int .i64 0, .int .i64 0, .int .i64 0, .int .i64 0, .int .i64 0, .int .i64 0, .int .i64 0, .int .i64 0, .int .i64 0, .slice none 0 0, .slice none 0 0, .slice none 0 0]), (Value.int .i64 0), (Value.slice none 0 0), (Value.slice none 0 0)] rfl (by kernel_rfl) (by kernel_rfl) (by kernel_rfl)
      (OpenSpec.preRow_of_cond 16 hx (by kernel_rfl) (fun k hk => by cases hk) (by kernel_rfl) (laid_met os))) ?_
  intro W base args ds gs before hval hW _ _ _ hL _ _
  exact contract H enc W base args ds gs before hval hW hL
theorem said : Rows.StoreMoreSaid :=
  OpenClaim.holds_of_cond 10 Tryd.f10 rfl rfl rfl rfl rfl rfl rfl ⟨rfl, rfl, rfl, rfl, rfl⟩ rfl rfl rfl rfl rfl (by kernel_rfl) Tryd.func10 (by kernel_rfl)
    (of_decide_eq_true (by kernel_rfl)) (by unfold Func.isWrapper; first | (rw [if_pos (by decide +kernel)]; kernel_rfl) | (rw [if_neg (by decide +kernel)]; exact ⟨rfl, rfl⟩))
    (fun os started H enc _ F => by rw [OpenClaim.pre_eq_preRow]; exact lifted os started H enc F)
theorem plain (f : FuncId) (fn : Func) (hf : Tryd.pinned.checked.prog.funcNamed "talik/taliklaw06.StoreMore" = some f) (hfn : Tryd.pinned.checked.prog.funcs[f]? = some fn) :
    true = Tryd.pinned.checked.prog.looks [] ∧ ∀ (j : Nat) t, fn.params[j]? = some t → Tryd.pinned.checked.prog.wantsStandIn t = false := by
  obtain rfl : f = 10 := Option.some.inj ((show Tryd.prog.funcNamed "talik/taliklaw06.StoreMore" = some 10 by kernel_rfl).symm.trans hf) |>.symm
  obtain rfl : fn = Tryd.f10 := (Option.some.inj (Tryd.func10.symm.trans hfn)).symm
  refine ⟨by kernel_rfl, fun j t ht => ?_⟩
  have h : (Tryd.f10.params.toList.all fun t => !Tryd.prog.wantsStandIn t) = true := by kernel_rfl
  have := List.all_eq_true.1 h t (by rw [← Array.getElem?_toList] at ht; exact List.mem_of_getElem? ht)
  exact (show Tryd.prog.wantsStandIn t = false by simpa using this)
theorem card : Rows.StoreMoreCardSaid :=
  Claim7.holds_tied_plain_at .later [] _ _ _ _ said (fun _ h => by cases h) (by kernel_rfl) (fun _ h => by cases h) storeMore_row_tie rfl ⟨rfl, rfl⟩ (by kernel_rfl) rfl plain (by kernel_rfl)
end Go.Proofs.YtcijddeommognaaDoor.Abs.storeMore
namespace Go.Proofs.YtcijddeommognaaDoor
theorem storeMore_card : Rows.StoreMoreCardSaid := Abs.storeMore.card
end Go.Proofs.YtcijddeommognaaDoor
