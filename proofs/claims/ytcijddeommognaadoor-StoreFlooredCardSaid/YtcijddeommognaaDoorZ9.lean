import Derived.Test.YtcijddeommognaaDoorF3
import Derived.Test.YtcijddeommognaaDoorCards
import Derived.Test.YtcijddeommognaaDoorTie
import Derived.Test.YtcijddeommognaaDoorA3
import Derived.WalkKit
import Derived.ProofKit
import Derived.OpenShut
import Derived.Deep.DeepHandedRow
import Derived.Lib.LaidTab
import Derived.Stop.LaidErr
/-
  A law of the store layer as a typed function. Printed by a program of mine (gen.py).
-/
set_option linter.unusedVariables false
set_option maxRecDepth 100000
namespace Go.Proofs.YtcijddeommognaaDoor.Abs
open Go.Shelf Go.Sort
noncomputable def g9_taliklaw06_StoreFloored_C : CalT := tabC [g15_taliklaw06_short_E, g20_taliklaw06_known_E, g16_talikref06_Store_E, g17_talikref06_Plan_E, g19_taliklaw06_winter_E, g32_talikref06_Prices_E, g31_store_Floor_E, g24_store_Fault_E, g28_store_Best_E, g30_talikref06_Cost_E]
theorem g9_taliklaw06_StoreFloored_CV : CV Tryd.prog g9_taliklaw06_StoreFloored_C := tabC_valid (l := [g15_taliklaw06_short_E, g20_taliklaw06_known_E, g16_talikref06_Store_E, g17_talikref06_Plan_E, g19_taliklaw06_winter_E, g32_talikref06_Prices_E, g31_store_Floor_E, g24_store_Fault_E, g28_store_Best_E, g30_talikref06_Cost_E]) ⟨g15_taliklaw06_short_valid, g20_taliklaw06_known_valid, g16_talikref06_Store_valid, g17_talikref06_Plan_valid, g19_taliklaw06_winter_valid, g32_talikref06_Prices_valid, g31_store_Floor_valid, g24_store_Fault_valid, g28_store_Best_valid, g30_talikref06_Cost_valid, trivial⟩
noncomputable def g9_taliklaw06_StoreFloored (a0 : E27) (a1 : Int) (a2 : Int) (a3 : (List Int)) : Option Bool :=
  (Option.bind (g15_taliklaw06_short a0) fun r1 =>
  (bif (!r1) then
    (Option.bind g20_taliklaw06_known fun r2 =>
      some r2)
    else
    (Option.bind (g16_talikref06_Store a0) fun r3 =>
      (bif (!r3) then
        (Option.bind g20_taliklaw06_known fun r4 =>
          some r4)
        else
        (Option.bind (g17_talikref06_Plan a0 a1) fun r5 =>
          (bif (!r5) then
            (Option.bind g20_taliklaw06_known fun r6 =>
              some r6)
            else
            (Option.bind (g19_taliklaw06_winter a0 a2) fun r7 =>
              (bif (!r7) then
                (Option.bind g20_taliklaw06_known fun r8 =>
                  some r8)
                else
                (Option.bind (g32_talikref06_Prices a3) fun r9 =>
                  (bif (!r9) then
                    (Option.bind g20_taliklaw06_known fun r10 =>
                      some r10)
                    else
                    (Option.bind (g31_store_Floor a0 a2 a3) fun r11 =>
                      (Option.bind (g24_store_Fault a0 a1) fun r12 =>
                        (Option.bind (g28_store_Best a0) fun r13 =>
                          (bif (r11.2.1 != 0) then
                            (bif (r11.2.1 == 7) then
                              (bif (r12.2.1 == 0) then
                                (Option.bind g20_taliklaw06_known fun r14 =>
                                  some r14)
                                else
                                some false)
                              else
                              some false)
                            else
                            (bif (r12.2.1 != 0) then
                              (bif (r11.2.1 == 7) then
                                (bif (r12.2.1 == 0) then
                                  (Option.bind g20_taliklaw06_known fun r15 =>
                                    some r15)
                                  else
                                  some false)
                                else
                                some false)
                              else
                              (bif r12.1.1 then
                                (bif (r13.2.2.1 == 0) then
                                  (bif (decide (r13.2.1 ≥ r11.1)) then
                                    (Option.bind g20_taliklaw06_known fun r16 =>
                                      some r16)
                                    else
                                    (bif (r13.2.2.1 == 5) then
                                      (bif r12.1.1 then
                                        (Option.bind g20_taliklaw06_known fun r17 =>
                                          some r17)
                                        else
                                        some false)
                                      else
                                      some false))
                                  else
                                  (bif (r13.2.2.1 == 5) then
                                    (bif r12.1.1 then
                                      (Option.bind g20_taliklaw06_known fun r18 =>
                                        some r18)
                                      else
                                      some false)
                                    else
                                    some false))
                                else
                                (Option.bind (g30_talikref06_Cost a0 a1) fun r19 =>
                                  (bif (decide (r19 ≥ r11.1)) then
                                    (bif (r13.2.2.1 == 0) then
                                      (bif (decide (r13.2.1 ≥ r11.1)) then
                                        (Option.bind g20_taliklaw06_known fun r20 =>
                                          some r20)
                                        else
                                        (bif (r13.2.2.1 == 5) then
                                          (bif r12.1.1 then
                                            (Option.bind g20_taliklaw06_known fun r21 =>
                                              some r21)
                                            else
                                            some false)
                                          else
                                          some false))
                                      else
                                      (bif (r13.2.2.1 == 5) then
                                        (bif r12.1.1 then
                                          (Option.bind g20_taliklaw06_known fun r22 =>
                                            some r22)
                                          else
                                          some false)
                                        else
                                        some false))
                                    else
                                    some false))))))))))))))))))
noncomputable def g9_taliklaw06_StoreFloored_E : CEnt := pureE 9 [.dat T27, .dat (.int .i64), .dat (.int .i64), .dat (.arr 3 (.int .i64))] (.dat .bool) fun x => g9_taliklaw06_StoreFloored x.1 x.2.1 x.2.2.1 x.2.2.2.1
theorem g9_taliklaw06_StoreFloored_LV : LV 0 Tryd.prog false (loopsOf (bodyOf Tryd.f9)) [] := by unfold LV; cases loopsOf (bodyOf Tryd.f9) <;> trivial
theorem g9_taliklaw06_StoreFloored_ent : Ent Tryd.prog 9 := ⟨by decide, enters_of Tryd.func9 (by kernel_rfl) rfl⟩
theorem g9_taliklaw06_StoreFloored_hev : ∀ x, fnR Tryd.prog g9_taliklaw06_StoreFloored_C [] Tryd.f9 (bodyOf Tryd.f9) (encs [.dat T27, .dat (.int .i64), .dat (.int .i64), .dat (.arr 3 (.int .i64))] x) ⟨[], [], 0⟩ (frzF (.dat .bool)) = g9_taliklaw06_StoreFloored x.1 x.2.1 x.2.2.1 x.2.2.2.1 := by
  intro x; kernel_rfl
theorem g9_taliklaw06_StoreFloored_lcall : ∀ x r, (fun x : Els [.dat T27, .dat (.int .i64), .dat (.int .i64), .dat (.arr 3 (.int .i64))] => g9_taliklaw06_StoreFloored x.1 x.2.1 x.2.2.1 x.2.2.2.1) x = some r → LCall 0 Tryd.prog 9 (encs [.dat T27, .dat (.int .i64), .dat (.int .i64), .dat (.arr 3 (.int .i64))] x) ⟨[], [], 0⟩ (.d .bool r) ⟨[], [], 0⟩ := frz_lcall (R := .dat .bool) mixed Tryd.func9 rfl g9_taliklaw06_StoreFloored_ent g9_taliklaw06_StoreFloored_CV g9_taliklaw06_StoreFloored_LV (by kernel_rfl) (by kernel_rfl) g9_taliklaw06_StoreFloored_hev

end Go.Proofs.YtcijddeommognaaDoor.Abs

/-
  Plain laws of the store layer: faults, and the first thing to run out.
-/
set_option linter.unusedVariables false
set_option linter.unusedSimpArgs false
set_option maxRecDepth 100000
namespace Go.Proofs.YtcijddeommognaaDoor.Abs

/-- The first place below `n` at which something is so. -/
def fnd (b : Nat → Bool) (n : Nat) : Option Nat := (List.range n).find? b
theorem fnd_none {b : Nat → Bool} {n : Nat} : fnd b n = none ↔ ∀ l, l < n → b l = false := by
  unfold fnd
  rw [List.find?_eq_none]
  constructor
  · intro h l hl; have := h l (List.mem_range.2 hl); simpa using this
  · intro h l hl; simp [h l (List.mem_range.1 hl)]
theorem fnd_is {b : Nat → Bool} {n j : Nat} (h1 : j < n) (h2 : b j = true) (h3 : ∀ l, l < j → b l = false) : fnd b n = some j := by
  unfold fnd
  rw [List.find?_range_eq_some]
  exact ⟨h2, List.mem_range.2 h1, fun l hl => by simp [h3 l hl]⟩
theorem fnd_some {b : Nat → Bool} {n j : Nat} (h : fnd b n = some j) : j < n ∧ b j = true ∧ ∀ l, l < j → b l = false := by
  cases hq : fnd b n with
  | none => rw [hq] at h; cases h
  | some i =>
    unfold fnd at h
    rw [List.find?_range_eq_some] at h
    exact ⟨List.mem_range.1 h.2.1, h.1, fun l hl => by have := h.2.2 l hl; simpa using this⟩
theorem fnd_ge {b : Nat → Bool} {n j : Nat} (h1 : j < n) (h2 : b j = true) : ∃ i, i ≤ j ∧ fnd b n = some i := by
  cases h : fnd b n with
  | none => rw [fnd_none.1 h j h1] at h2; cases h2
  | some i =>
    refine ⟨i, ?_, rfl⟩
    apply Classical.byContradiction
    intro hn
    rw [(fnd_some h).2.2 j (by omega)] at h2; cases h2
def orX {α β : Type} (o : Option Nat) (X : Nat → α) (Y : α) (k1 k2 : Nat) : Option (Nat × α) := match o with
  | some j => some (k1, X j)
  | none => some (k2, Y)
theorem iter_fnd {α : Type} {step : α → Option (Nat × α)} {n k1 k2 fuel : Nat} {bad : Nat → Bool} (F X : Nat → α) (Y : α) (hgo : ∀ i, i < n → step (F i) = some (bif bad i then (k1 + 1, X i) else (0, F (i + 1)))) (hend : step (F n) = some (k2 + 1, Y)) (hf : n < fuel) :
    iter step fuel (F 0) = orX (α := α) (β := α) (fnd bad n) X Y k1 k2 := by
  rcases iter_fn F X Y hgo hend hf with ⟨j, h1, h2, h3, h4⟩ | ⟨h1, h2⟩
  · rw [fnd_is h1 h2 h3, h4]; rfl
  · rw [fnd_none.2 h1, h2]; rfl

/-- The first kind that is lacking. -/
def kO (g : List Int) : Option Nat := fnd (fun k => decide (g.getD k 0 > 0)) 3
/-- The first week in which something is. -/
def wO (l : List (List Int)) : Option Nat := fnd (fun w => (kO (l.getD w z3)).isSome) l.length
/-- What is lacking of a store. -/
def lkM (s : E27) (p i n : Nat) : List (List Int) := (traceM s p i n).2.2.1
def nO (s : E27) (p i : Nat) : Option Nat := fnd (fun n => (wO (lkM s p i n)).isSome) s.2.2.2.2.2.2.2.1.length
def iO (s : E27) (p : Nat) : Option Nat := fnd (fun i => (nO s p i).isSome) s.2.2.2.2.2.2.1.length
def noF : E44 := (false, (0, (0, (0, (0, ())))))
def fW (l : List (List Int)) (i n w : Nat) : E44 := (true, ((i : Int), ((n : Int), ((w : Int), (((kO (l.getD w z3)).getD 0 : Nat) : Int), ()))))
def fN (s : E27) (p i n : Nat) : E44 := fW (lkM s p i n) i n ((wO (lkM s p i n)).getD 0)
def fI (s : E27) (p i : Nat) : E44 := fN s p i ((nO s p i).getD 0)
/-- The fault of a plan. -/
def faultM (s : E27) (p : Nat) : E44 := match iO s p with
  | some i => fI s p i
  | none => noF

theorem fault_l3 (p i n w x1 x2 x3 x4 : Int) (L : List (List Int)) (m j : Int) (s : E27) (e : E44) (g : List Int) :
    g55_store_fault_l3_run ((p, (i, (n, (w, (x1, (x2, (x3, (x4, (L, (m, (j, (0, ())))))))))))), (s, (e, (g, ())))) =
      orX (β := E44) (kO g) (fun k => ((p, (i, (n, (w, (x1, (x2, (x3, (x4, (L, (m, (j, ((k : Int), ())))))))))))), (s, ((true, (i, (n, (w, ((k : Int), ()))))), (g, ())))))
        ((p, (i, (n, (w, (x1, (x2, (x3, (x4, (L, (m, (j, (3, ())))))))))))), (s, (e, (g, ())))) 0 1 := by
  exact iter_fnd (step := g55_store_fault_l3_step) (n := 3) (bad := fun k => decide (g.getD k 0 > 0))
    (fun k => ((p, (i, (n, (w, (x1, (x2, (x3, (x4, (L, (m, (j, ((k : Int), ())))))))))))), (s, (e, (g, ()))))) _ _
    (fun k hk => by
      have h3 := lt_int hk
      simp only [g55_store_fault_l3_step, show ((3 : Nat) : Int) = 3 from rfl, three_lt' hk, ge0, Bool.and_true, cond_true, getD_toNat, wr1 (i := k) (by omega)]
      cases decide (g.getD k 0 > 0) <;> rfl)
    rfl (by simp [g55_store_fault_l3_fuel])
theorem fault_l2 (p i n x1 x2 x3 x4 : Int) (L : List (List Int)) (hL : L.length < 2 ^ 40) (s : E27) (e : E44) :
    g55_store_fault_l2_run ((p, (i, (n, (x1, (x2, (x3, (x4, (L, ((L.length : Int), (0, ())))))))))), (s, (e, ()))) =
      orX (β := E44) (wO L) (fun w => ((p, (i, (n, (x1, (x2, (x3, (x4, (L, ((L.length : Int), ((w : Int), ())))))))))), (s, ((true, (i, (n, ((w : Int), ((((kO (L.getD w z3)).getD 0 : Nat) : Int), ()))))), ()))))
        ((p, (i, (n, (x1, (x2, (x3, (x4, (L, ((L.length : Int), ((L.length : Int), ())))))))))), (s, (e, ()))) 0 1 := by
  exact iter_fnd (step := g55_store_fault_l2_step) (n := L.length) (bad := fun w => (kO (L.getD w z3)).isSome)
    (fun w => ((p, (i, (n, (x1, (x2, (x3, (x4, (L, ((L.length : Int), ((w : Int), ())))))))))), (s, (e, ())))) _ _
    (fun w hw => by
      simp only [g55_store_fault_l2_step, lt_int hw, ge0, Bool.and_true, cond_true, getD_toNat]
      rw [fault_l3, show List.replicate 3 (0 : Int) = z3 from rfl]
      cases h : kO (L.getD w z3) with
      | some k => rfl
      | none => simp only [orX, Option.bind_some, natK, wr1 (i := w) (by omega)]; rfl)
    (by simp only [g55_store_fault_l2_step, nlt_int, cond_false]) (by simp [g55_store_fault_l2_fuel])
theorem fault_l1 {s : E27} (hs : OkS s) (wf : WfS s) {p : Nat} (hp : p < 2 ^ shN s) {i : Nat} (hi : i < s.2.2.2.2.2.2.1.length) (x1 x2 : Int) (e : E44) :
    g55_store_fault_l1_run (((p : Int), ((i : Int), (x1, (x2, ((s.2.2.2.2.2.2.2.1.length : Int), (0, ())))))), (s, (e, ()))) =
      orX (β := E44) (nO s p i) (fun n => (((p : Int), ((i : Int), (x1, (x2, ((s.2.2.2.2.2.2.2.1.length : Int), ((n : Int), ())))))), (s, (fN s p i n, ()))))
        (((p : Int), ((i : Int), (x1, (x2, ((s.2.2.2.2.2.2.2.1.length : Int), ((s.2.2.2.2.2.2.2.1.length : Int), ())))))), (s, (e, ()))) 0 1 := by
  have hnw := hs.nwin.2
  exact iter_fnd (step := g55_store_fault_l1_step) (n := s.2.2.2.2.2.2.2.1.length) (bad := fun n => (wO (lkM s p i n)).isSome)
    (fun n => (((p : Int), ((i : Int), (x1, (x2, ((s.2.2.2.2.2.2.2.1.length : Int), ((n : Int), ())))))), (s, (e, ())))) _ _
    (fun n hn => by
      have hl := (trace_lens hs wf (i := i) hp hn).2.2
      have hw := (win_len hs wf hn).2
      simp only [g55_store_fault_l1_step, lt_int hn, cond_true, trace54 hs wf hp hi hn, Option.bind_some]
      rw [fault_l2 _ _ _ _ _ _ _ _ (by rw [hl]; omega)]
      rw [show (traceM s p i n).2.2.1 = lkM s p i n from rfl]
      cases h : wO (lkM s p i n) with
      | some w =>
        simp only [orX, Option.bind_some, natK, Option.isSome_some, cond_true, fN, fW, h, Option.getD_some]
      | none => simp only [orX, Option.bind_some, natK, wr1 (i := n) (by omega)]; rfl)
    (by simp only [g55_store_fault_l1_step, nlt_int, cond_false]) (by simp [g55_store_fault_l1_fuel])
theorem fault_l0 {s : E27} (hs : OkS s) (wf : WfS s) {p : Nat} (hp : p < 2 ^ shN s) (e : E44) :
    g55_store_fault_l0_run (((p : Int), ((s.2.2.2.2.2.2.1.length : Int), (0, ()))), (s, (e, ()))) =
      orX (β := E44) (iO s p) (fun i => (((p : Int), ((s.2.2.2.2.2.2.1.length : Int), ((i : Int), ()))), (s, (fI s p i, ()))))
        (((p : Int), ((s.2.2.2.2.2.2.1.length : Int), ((s.2.2.2.2.2.2.1.length : Int), ()))), (s, (e, ()))) 0 1 := by
  have hni := hs.nices.2
  exact iter_fnd (step := g55_store_fault_l0_step) (n := s.2.2.2.2.2.2.1.length) (bad := fun i => (nO s p i).isSome)
    (fun i => (((p : Int), ((s.2.2.2.2.2.2.1.length : Int), ((i : Int), ()))), (s, (e, ())))) _ _
    (fun i hi => by
      simp only [g55_store_fault_l0_step, lt_int hi, cond_true]
      rw [fault_l1 hs wf hp hi]
      cases h : nO s p i with
      | some n => simp only [orX, Option.bind_some, natK, Option.isSome_some, cond_true, fI, h, Option.getD_some]
      | none => simp only [orX, Option.bind_some, natK, wr1 (i := i) (by omega)]; rfl)
    (by simp only [g55_store_fault_l0_step, nlt_int, cond_false]) (by simp [g55_store_fault_l0_fuel])
theorem fault55 {s : E27} (hs : OkS s) (wf : WfS s) {p : Nat} (hp : p < 2 ^ shN s) : g55_store_fault s (p : Int) = some (faultM s p) := by
  unfold g55_store_fault faultM
  rw [fault_l0 hs wf hp]
  cases iO s p <;> rfl
theorem fault24_ok {s : E27} (h : ShortS s) (hs : OkS s) (wf : WfS s) {p : Nat} (hp : p < 2 ^ shN s) : g24_store_Fault s (p : Int) = some (faultM s p, (0, ())) := by
  unfold g24_store_Fault
  rw [(valid51 s h).val hs]
  simp only [Option.bind_some, Bool.not_true, cond_false]
  rw [(planned52 s h.n10 _).val (nat_okp hp)]
  simp only [Option.bind_some, Bool.not_true, cond_false, fault55 hs wf hp]
theorem fault24_bad {s : E27} (h : ShortS s) {p : Int} (hb : ¬ (OkS s ∧ OkP s p)) : g24_store_Fault s p = some (noF, (2, ())) := by
  unfold g24_store_Fault
  by_cases hs : OkS s
  · rw [(valid51 s h).val hs]
    simp only [Option.bind_some, Bool.not_true, cond_false]
    rw [(planned52 s h.n10 _).nval (fun hp => hb ⟨hs, hp⟩)]; rfl
  · rw [(valid51 s h).nval hs]; rfl

/-! ### The reference's faults -/
theorem lack_l1 (l : List (List Int)) (a b : Int) (c : Bool) (w : Nat) (hw : w < l.length) :
    g56_talikref06_Lack_l1_run ((l, (a, (b, (c, ((w : Int), (0, ())))))), ()) =
      orX (β := E44) (kO (l.getD w z3)) (fun k => ((l, ((w : Int), ((k : Int), (true, ((w : Int), ((k : Int), ())))))), ())) ((l, (a, (b, (c, ((w : Int), (3, ())))))), ()) 0 1 := by
  exact iter_fnd (step := g56_talikref06_Lack_l1_step) (n := 3) (bad := fun k => decide ((l.getD w z3).getD k 0 > 0))
    (fun k => ((l, (a, (b, (c, ((w : Int), ((k : Int), ())))))), ())) _ _
    (fun k hk => by
      have h3 := lt_int hk
      simp only [g56_talikref06_Lack_l1_step, show ((3 : Nat) : Int) = 3 from rfl, three_lt' hk, lt_int hw, ge0, Bool.and_true, cond_true, getD_toNat, wr1 (i := k) (by omega)]
      rw [show List.replicate 3 (0 : Int) = z3 from rfl]
      cases decide ((l.getD w z3).getD k 0 > 0) <;> rfl)
    rfl (by simp [g56_talikref06_Lack_l1_fuel])
/-- The first week and kind of which something is lacking. -/
def lackA (l : List (List Int)) : Int × (Int × (Bool × Unit)) := match wO l with
  | some w => ((w : Int), ((((kO (l.getD w z3)).getD 0 : Nat) : Int), (true, ())))
  | none => (0, (0, (false, ())))
theorem lack56 (l : List (List Int)) (hl : l.length < 2 ^ 40) : g56_talikref06_Lack l = some (lackA l) := by
  have K := iter_fnd (step := g56_talikref06_Lack_l0_step) (n := l.length) (bad := fun w => (kO (l.getD w z3)).isSome) (k1 := 0) (k2 := 1) (fuel := g56_talikref06_Lack_l0_fuel ((l, (0, (0, (false, (0, ()))))), ()))
    (fun w => ((l, (0, (0, (false, ((w : Int), ()))))), ())) (fun w => ((l, ((w : Int), ((((kO (l.getD w z3)).getD 0 : Nat) : Int), (true, ((w : Int), ()))))), ())) ((l, (0, (0, (false, ((l.length : Int), ()))))), ())
    (fun w hw => by
      simp only [g56_talikref06_Lack_l0_step, lt_int hw, cond_true]
      rw [lack_l1 _ _ _ _ _ hw]
      cases h : kO (l.getD w z3) with
      | some k => rfl
      | none => simp only [orX, Option.bind_some, natK, wr1 (i := w) (by omega)]; rfl)
    (by simp only [g56_talikref06_Lack_l0_step, nlt_int, cond_false]) (by simp [g56_talikref06_Lack_l0_fuel])
  have K : g56_talikref06_Lack_l0_run ((l, (0, (0, (false, (0, ()))))), ()) = _ := K
  unfold g56_talikref06_Lack lackA
  rw [K]
  unfold wO
  cases fnd (fun w => (kO (l.getD w z3)).isSome) l.length <;> rfl
end Go.Proofs.YtcijddeommognaaDoor.Abs

/-
  Plain laws of the store layer: the reference's faults; the first thing to run out, of both.
-/
set_option linter.unusedVariables false
set_option linter.unusedSimpArgs false
set_option maxRecDepth 100000
namespace Go.Proofs.YtcijddeommognaaDoor.Abs

theorem rfault_l1 {s : E27} (hs : OkS s) (wf : WfS s) {p : Nat} (hp : p < 2 ^ shN s) {i : Nat} (hi : i < s.2.2.2.2.2.2.1.length) (e : E44) :
    g26_talikref06_Fault_l1_run (((p : Int), ((i : Int), (0, ()))), (s, (e, ()))) =
      orX (β := E44) (nO s p i) (fun n => (((p : Int), ((i : Int), ((n : Int), ()))), (s, (fN s p i n, ()))))
        (((p : Int), ((i : Int), ((s.2.2.2.2.2.2.2.1.length : Int), ()))), (s, (e, ()))) 0 1 := by
  have hnw := hs.nwin.2
  exact iter_fnd (step := g26_talikref06_Fault_l1_step) (n := s.2.2.2.2.2.2.2.1.length) (bad := fun n => (wO (lkM s p i n)).isSome)
    (fun n => (((p : Int), ((i : Int), ((n : Int), ()))), (s, (e, ())))) _ _
    (fun n hn => by
      have hl := (trace_lens hs wf (i := i) hp hn).2.2
      have hw := (win_len hs wf hn).2
      simp only [g26_talikref06_Fault_l1_step, lt_int hn, cond_true, run38 hs wf hp hi hn, Option.bind_some]
      rw [lack56 _ (by rw [hl]; omega)]
      rw [show (traceM s p i n).2.2.1 = lkM s p i n from rfl]
      simp only [Option.bind_some, lackA]
      cases h : wO (lkM s p i n) with
      | some w =>
        simp only [Option.isSome_some, cond_true, fN, fW, h, Option.getD_some]
      | none => simp only [cond_false, Option.isSome_none, wr1 (i := n) (by omega)])
    (by simp only [g26_talikref06_Fault_l1_step, nlt_int, cond_false]) (by simp [g26_talikref06_Fault_l1_fuel])
theorem rfault26 {s : E27} (hs : OkS s) (wf : WfS s) {p : Nat} (hp : p < 2 ^ shN s) : g26_talikref06_Fault s (p : Int) = some (faultM s p) := by
  have hni := hs.nices.2
  have K := iter_fnd (step := g26_talikref06_Fault_l0_step) (n := s.2.2.2.2.2.2.1.length) (bad := fun i => (nO s p i).isSome) (k1 := 0) (k2 := 1) (fuel := g26_talikref06_Fault_l0_fuel (((p : Int), (0, ())), (s, (noF, ()))))
    (fun i => (((p : Int), ((i : Int), ())), (s, (noF, ())))) (fun i => (((p : Int), ((i : Int), ())), (s, (fI s p i, ())))) (((p : Int), ((s.2.2.2.2.2.2.1.length : Int), ())), (s, (noF, ())))
    (fun i hi => by
      simp only [g26_talikref06_Fault_l0_step, lt_int hi, cond_true]
      rw [rfault_l1 hs wf hp hi]
      cases h : nO s p i with
      | some n => simp only [orX, Option.bind_some, natK, Option.isSome_some, cond_true, fI, h, Option.getD_some]
      | none => simp only [orX, Option.bind_some, natK, wr1 (i := i) (by omega)]; rfl)
    (by simp only [g26_talikref06_Fault_l0_step, nlt_int, cond_false]) (by simp [g26_talikref06_Fault_l0_fuel])
  have K : g26_talikref06_Fault_l0_run (((p : Int), (0, ())), (s, ((false, (0, (0, (0, (0, ()))))), ()))) = _ := K
  unfold g26_talikref06_Fault faultM
  rw [K]
  unfold iO
  cases fnd (fun i => (nO s p i).isSome) s.2.2.2.2.2.2.1.length <;> rfl

/-! ### What is lacking is never less than nothing -/
theorem mx_nonneg (a : Int) : 0 ≤ mx a := by unfold mx; split <;> omega
theorem run_la (s : E27) (il : List Bool) (wl : List (List Int)) (p : Nat) : ∀ w, ∀ g ∈ (runM s il wl p w).2.2.2, ∃ y n, g = lackM y n
  | 0, g, h => by simp [runM] at h
  | w + 1, g, h => by
    simp only [runM, weekM, List.mem_append, List.mem_singleton] at h
    rcases h with h | h
    · exact run_la s il wl p w g h
    · exact ⟨_, _, h⟩
theorem lack_nonneg (y n : List Int) (k : Nat) : 0 ≤ (lackM y n).getD k 0 := by
  match k with
  | 0 => exact mx_nonneg _
  | 1 => exact mx_nonneg _
  | 2 => exact mx_nonneg _
  | k + 3 => simp [lackM]
theorem lk_nonneg (s : E27) (p i n w k : Nat) : 0 ≤ ((lkM s p i n).getD w z3).getD k 0 := by
  by_cases h : w < (lkM s p i n).length
  · obtain ⟨y, m, e⟩ := run_la s (ice s i) (win s n) p _ _ (getD_mem (d := z3) h)
    have e : (lkM s p i n).getD w z3 = lackM y m := e
    rw [e]; exact lack_nonneg y m k
  · have e : (lkM s p i n).getD w z3 = z3 := by rw [List.getD_eq_getElem?_getD, List.getElem?_eq_none (by omega)]; rfl
    rw [e]
    match k with
    | 0 => decide
    | 1 => decide
    | 2 => decide
    | k + 3 => simp [z3]

/-! ### The first thing to run out -/
abbrev Acc := Int × Int × Bool
def upd (a : Acc) (w k : Int) : Acc := bif !a.2.2 || decide (w < a.1) || (w == a.1 && decide (k < a.2.1)) then (w, k, true) else a
def updL (a : Acc) (l : List (List Int)) : Acc := match wO l with
  | some w => upd a (w : Int) (((kO (l.getD w z3)).getD 0 : Nat) : Int)
  | none => a
def firstN (s : E27) (p i : Nat) (a : Acc) : Nat → Acc
  | 0 => a
  | n + 1 => updL (firstN s p i a n) (lkM s p i n)
def firstI (s : E27) (p : Nat) : Nat → Acc
  | 0 => (0, 0, false)
  | i + 1 => firstN s p i (firstI s p i) s.2.2.2.2.2.2.2.1.length
theorem rfirst_l1 {s : E27} (hs : OkS s) (wf : WfS s) {p : Nat} (hp : p < 2 ^ shN s) {i : Nat} (hi : i < s.2.2.2.2.2.2.1.length) (a : Acc) :
    g27_talikref06_First_l1_run (((p : Int), (a.1, (a.2.1, (a.2.2, ((i : Int), (0, ())))))), (s, ())) =
      some (0, (((p : Int), ((firstN s p i a s.2.2.2.2.2.2.2.1.length).1, ((firstN s p i a s.2.2.2.2.2.2.2.1.length).2.1, ((firstN s p i a s.2.2.2.2.2.2.2.1.length).2.2, ((i : Int), ((s.2.2.2.2.2.2.2.1.length : Int), ())))))), (s, ()))) := by
  have hnw := hs.nwin.2
  exact iter_run (step := g27_talikref06_First_l1_step) (n := s.2.2.2.2.2.2.2.1.length) (k := 0)
    (fun n => (((p : Int), ((firstN s p i a n).1, ((firstN s p i a n).2.1, ((firstN s p i a n).2.2, ((i : Int), ((n : Int), ())))))), (s, ()))) _
    (fun n hn => by
      have hl := (trace_lens hs wf (i := i) hp hn).2.2
      have hw := (win_len hs wf hn).2
      simp only [g27_talikref06_First_l1_step, lt_int hn, cond_true, run38 hs wf hp hi hn, Option.bind_some]
      rw [lack56 _ (by rw [hl]; omega)]
      rw [show (traceM s p i n).2.2.1 = lkM s p i n from rfl]
      simp only [Option.bind_some, lackA, firstN, updL]
      generalize firstN s p i a n = b
      obtain ⟨b1, b2, b3⟩ := b
      cases h : wO (lkM s p i n) with
      | some w =>
        simp only [upd, cond_true, wr1 (i := n) (by omega)]
        cases b3 with
        | false => rfl
        | true =>
          cases decide ((w : Int) < b1) with
          | true => rfl
          | false =>
            cases ((w : Int) == b1) with
            | false => rfl
            | true => cases decide ((((kO ((lkM s p i n).getD w z3)).getD 0 : Nat) : Int) < b2) <;> rfl
      | none => simp only [cond_false, wr1 (i := n) (by omega)])
    (by simp only [g27_talikref06_First_l1_step, nlt_int, cond_false]) (by simp [g27_talikref06_First_l1_fuel])
theorem rfirst27 {s : E27} (hs : OkS s) (wf : WfS s) {p : Nat} (hp : p < 2 ^ shN s) : g27_talikref06_First s (p : Int) = some ((firstI s p s.2.2.2.2.2.2.1.length).1, ((firstI s p s.2.2.2.2.2.2.1.length).2.1, ((firstI s p s.2.2.2.2.2.2.1.length).2.2, ()))) := by
  have hni := hs.nices.2
  have K := iter_run (step := g27_talikref06_First_l0_step) (n := s.2.2.2.2.2.2.1.length) (k := 0) (fuel := g27_talikref06_First_l0_fuel (((p : Int), (0, (0, (false, (0, ()))))), (s, ())))
    (fun i => (((p : Int), ((firstI s p i).1, ((firstI s p i).2.1, ((firstI s p i).2.2, ((i : Int), ()))))), (s, ())))
    (((p : Int), ((firstI s p s.2.2.2.2.2.2.1.length).1, ((firstI s p s.2.2.2.2.2.2.1.length).2.1, ((firstI s p s.2.2.2.2.2.2.1.length).2.2, ((s.2.2.2.2.2.2.1.length : Int), ()))))), (s, ()))
    (fun i hi => by
      simp only [g27_talikref06_First_l0_step, lt_int hi, cond_true]
      rw [rfirst_l1 hs wf hp hi (firstI s p i)]
      simp only [Option.bind_some, wr1 (i := i) (by omega)]
      rfl)
    (by simp only [g27_talikref06_First_l0_step, nlt_int, cond_false]) (by simp [g27_talikref06_First_l0_fuel])
  have K : g27_talikref06_First_l0_run (((p : Int), (0, (0, (false, (0, ()))))), (s, ())) = _ := K
  unfold g27_talikref06_First
  rw [K]; rfl

/-! ### The program's -/
theorem first_l3 (p : Int) (a : Acc) (i w x1 x2 x3 x4 : Int) (L : List (List Int)) (m j : Int) (s : E27) (g : List Int) (hg : ∀ k, 0 ≤ g.getD k 0) :
    g25_store_First_l3_run ((p, (a.1, (a.2.1, (a.2.2, (i, (w, (x1, (x2, (x3, (x4, (L, (m, (j, (0, ())))))))))))))), (s, (g, ()))) =
      orX (β := E44) (kO g) (fun k => ((p, ((upd a w (k : Int)).1, ((upd a w (k : Int)).2.1, ((upd a w (k : Int)).2.2, (i, (w, (x1, (x2, (x3, (x4, (L, (m, (j, ((k : Int), ())))))))))))))), (s, (g, ()))))
        ((p, (a.1, (a.2.1, (a.2.2, (i, (w, (x1, (x2, (x3, (x4, (L, (m, (j, (3, ())))))))))))))), (s, (g, ()))) 0 1 := by
  exact iter_fnd (step := g25_store_First_l3_step) (n := 3) (bad := fun k => decide (g.getD k 0 > 0))
    (fun k => ((p, (a.1, (a.2.1, (a.2.2, (i, (w, (x1, (x2, (x3, (x4, (L, (m, (j, ((k : Int), ())))))))))))))), (s, (g, ())))) _ _
    (fun k hk => by
      have h3 := lt_int hk
      simp only [g25_store_First_l3_step, show ((3 : Nat) : Int) = 3 from rfl, three_lt' hk, ge0, Bool.and_true, cond_true, getD_toNat, wr1 (i := k) (by omega)]
      have := hg k
      by_cases h0 : g.getD k 0 = 0
      · rw [h0]; rfl
      · rw [show (g.getD k 0 == 0) = false by simpa using h0, decide_eq_true (show g.getD k 0 > 0 by omega)]
        obtain ⟨a1, a2, a3⟩ := a
        simp only [cond_false, cond_true, upd]
        cases a3 with
        | false => rfl
        | true =>
          cases decide (w < a1) with
          | true => rfl
          | false =>
            cases (w == a1) with
            | false => rfl
            | true => cases decide ((k : Int) < a2) <;> rfl)
    rfl (by simp [g25_store_First_l3_fuel])
theorem first_l2 (p : Int) (a : Acc) (i x1 x2 x3 x4 : Int) (L : List (List Int)) (hL : L.length < 2 ^ 40) (hg : ∀ w k, 0 ≤ (L.getD w z3).getD k 0) (s : E27) :
    ∃ e j, g25_store_First_l2_run ((p, (a.1, (a.2.1, (a.2.2, (i, (x1, (x2, (x3, (x4, (L, ((L.length : Int), (0, ())))))))))))), (s, ())) =
      some (e, ((p, ((updL a L).1, ((updL a L).2.1, ((updL a L).2.2, (i, (x1, (x2, (x3, (x4, (L, ((L.length : Int), (j, ())))))))))))), (s, ()))) := by
  have K := iter_fnd (step := g25_store_First_l2_step) (n := L.length) (bad := fun w => (kO (L.getD w z3)).isSome) (k1 := 0) (k2 := 0) (fuel := g25_store_First_l2_fuel ((p, (a.1, (a.2.1, (a.2.2, (i, (x1, (x2, (x3, (x4, (L, ((L.length : Int), (0, ())))))))))))), (s, ())))
    (fun w => ((p, (a.1, (a.2.1, (a.2.2, (i, (x1, (x2, (x3, (x4, (L, ((L.length : Int), ((w : Int), ())))))))))))), (s, ())))
    (fun w => ((p, ((upd a (w : Int) (((kO (L.getD w z3)).getD 0 : Nat) : Int)).1, ((upd a (w : Int) (((kO (L.getD w z3)).getD 0 : Nat) : Int)).2.1, ((upd a (w : Int) (((kO (L.getD w z3)).getD 0 : Nat) : Int)).2.2, (i, (x1, (x2, (x3, (x4, (L, ((L.length : Int), ((w : Int), ())))))))))))), (s, ())))
    ((p, (a.1, (a.2.1, (a.2.2, (i, (x1, (x2, (x3, (x4, (L, ((L.length : Int), ((L.length : Int), ())))))))))))), (s, ()))
    (fun w hw => by
      simp only [g25_store_First_l2_step, lt_int hw, ge0, Bool.and_true, cond_true, getD_toNat]
      rw [show List.replicate 3 (0 : Int) = z3 from rfl, first_l3 p a i (w : Int) x1 x2 x3 x4 L (L.length : Int) (w : Int) s _ (hg w)]
      cases h : kO (L.getD w z3) with
      | some k => rfl
      | none => simp only [orX, Option.bind_some, natK, wr1 (i := w) (by omega)]; rfl)
    (by simp only [g25_store_First_l2_step, nlt_int, cond_false]) (by simp [g25_store_First_l2_fuel])
  have K : g25_store_First_l2_run ((p, (a.1, (a.2.1, (a.2.2, (i, (x1, (x2, (x3, (x4, (L, ((L.length : Int), (0, ())))))))))))), (s, ())) = _ := K
  rw [K]
  unfold updL wO
  cases fnd (fun w => (kO (L.getD w z3)).isSome) L.length with
  | some w => exact ⟨_, _, rfl⟩
  | none => exact ⟨_, _, rfl⟩
theorem first_l1 {s : E27} (hs : OkS s) (wf : WfS s) {p : Nat} (hp : p < 2 ^ shN s) {i : Nat} (hi : i < s.2.2.2.2.2.2.1.length) (x1 x2 : Int) (a : Acc) :
    g25_store_First_l1_run (((p : Int), (a.1, (a.2.1, (a.2.2, ((i : Int), (x1, (x2, ((s.2.2.2.2.2.2.2.1.length : Int), (0, ()))))))))), (s, ())) =
      some (0, (((p : Int), ((firstN s p i a s.2.2.2.2.2.2.2.1.length).1, ((firstN s p i a s.2.2.2.2.2.2.2.1.length).2.1, ((firstN s p i a s.2.2.2.2.2.2.2.1.length).2.2, ((i : Int), (x1, (x2, ((s.2.2.2.2.2.2.2.1.length : Int), ((s.2.2.2.2.2.2.2.1.length : Int), ()))))))))), (s, ()))) := by
  have hnw := hs.nwin.2
  exact iter_run (step := g25_store_First_l1_step) (n := s.2.2.2.2.2.2.2.1.length) (k := 0)
    (fun n => (((p : Int), ((firstN s p i a n).1, ((firstN s p i a n).2.1, ((firstN s p i a n).2.2, ((i : Int), (x1, (x2, ((s.2.2.2.2.2.2.2.1.length : Int), ((n : Int), ()))))))))), (s, ()))) _
    (fun n hn => by
      have hl := (trace_lens hs wf (i := i) hp hn).2.2
      have hw := (win_len hs wf hn).2
      simp only [g25_store_First_l1_step, lt_int hn, cond_true, trace54 hs wf hp hi hn, Option.bind_some]
      obtain ⟨e, j, h1⟩ := first_l2 (p : Int) (firstN s p i a n) (i : Int) x1 x2 (s.2.2.2.2.2.2.2.1.length : Int) (n : Int) (lkM s p i n) (by rw [show (lkM s p i n).length = _ from hl]; omega) (lk_nonneg s p i n) s
      rw [show (traceM s p i n).2.2.1 = lkM s p i n from rfl, h1]
      simp only [Option.bind_some, wr1 (i := n) (by omega)]
      rfl)
    (by simp only [g25_store_First_l1_step, nlt_int, cond_false]) (by simp [g25_store_First_l1_fuel])
theorem first25_ok {s : E27} (h : ShortS s) (hs : OkS s) (wf : WfS s) {p : Nat} (hp : p < 2 ^ shN s) : g25_store_First s (p : Int) = some (bif (firstI s p s.2.2.2.2.2.2.1.length).2.2 then ((firstI s p s.2.2.2.2.2.2.1.length).1, ((firstI s p s.2.2.2.2.2.2.1.length).2.1, (0, ()))) else (0, (0, (5, ())))) := by
  have hni := hs.nices.2
  have K := iter_run (step := g25_store_First_l0_step) (n := s.2.2.2.2.2.2.1.length) (k := 0) (fuel := g25_store_First_l0_fuel (((p : Int), (0, (0, (false, ((s.2.2.2.2.2.2.1.length : Int), (0, ())))))), (s, ())))
    (fun i => (((p : Int), ((firstI s p i).1, ((firstI s p i).2.1, ((firstI s p i).2.2, ((s.2.2.2.2.2.2.1.length : Int), ((i : Int), ())))))), (s, ())))
    (((p : Int), ((firstI s p s.2.2.2.2.2.2.1.length).1, ((firstI s p s.2.2.2.2.2.2.1.length).2.1, ((firstI s p s.2.2.2.2.2.2.1.length).2.2, ((s.2.2.2.2.2.2.1.length : Int), ((s.2.2.2.2.2.2.1.length : Int), ())))))), (s, ()))
    (fun i hi => by
      simp only [g25_store_First_l0_step, lt_int hi, cond_true]
      rw [first_l1 hs wf hp hi _ _ (firstI s p i)]
      simp only [Option.bind_some, wr1 (i := i) (by omega)]
      rfl)
    (by simp only [g25_store_First_l0_step, nlt_int, cond_false]) (by simp [g25_store_First_l0_fuel])
  have K : g25_store_First_l0_run (((p : Int), (0, (0, (false, ((s.2.2.2.2.2.2.1.length : Int), (0, ())))))), (s, ())) = _ := K
  unfold g25_store_First
  rw [(valid51 s h).val hs]
  simp only [Option.bind_some, Bool.not_true, cond_false]
  rw [(planned52 s h.n10 _).val (nat_okp hp)]
  simp only [Option.bind_some, Bool.not_true, cond_false]
  rw [K]
  simp only [Option.bind_some]
  cases (firstI s p s.2.2.2.2.2.2.1.length).2.2 <;> rfl
theorem first25_bad {s : E27} (h : ShortS s) {p : Int} (hb : ¬ (OkS s ∧ OkP s p)) : g25_store_First s p = some (0, (0, (2, ()))) := by
  unfold g25_store_First
  by_cases hs : OkS s
  · rw [(valid51 s h).val hs]
    simp only [Option.bind_some, Bool.not_true, cond_false]
    rw [(planned52 s h.n10 _).nval (fun hp => hb ⟨hs, hp⟩)]; rfl
  · rw [(valid51 s h).nval hs]; rfl
end Go.Proofs.YtcijddeommognaaDoor.Abs

/-
  Plain laws of the store layer: prices and floors.
-/
set_option linter.unusedVariables false
set_option linter.unusedSimpArgs false
set_option maxRecDepth 100000
namespace Go.Proofs.YtcijddeommognaaDoor.Abs
open Classical

theorem mul_bd {a b A B : Int} (ha : 0 ≤ a ∧ a ≤ A) (hb : 0 ≤ b ∧ b ≤ B) : 0 ≤ a * b ∧ a * b ≤ A * B :=
  ⟨Int.mul_nonneg ha.1 hb.1, Int.mul_le_mul ha.2 hb.2 hb.1 (Int.le_trans ha.1 ha.2)⟩
def P3 (g : List Int) : Prop := In (g.getD 0 0) 0 1000000 ∧ In (g.getD 1 0) 0 1000000 ∧ In (g.getD 2 0) 0 1000000
def dot3 (a b : List Int) : Int := a.getD 0 0 * b.getD 0 0 + a.getD 1 0 * b.getD 1 0 + a.getD 2 0 * b.getD 2 0
theorem prices32 (g : List Int) : Tells (g32_talikref06_Prices g) (P3 g) := by
  unfold g32_talikref06_Prices
  exact tells_and (in46 _ _ _) fun _ => tells_and (in46 _ _ _) fun _ => tells_bind (in46 _ _ _)
theorem worth_step (n : Int) (a b : List Int) (k : Nat) (hk : k < 3) :
    g62_store_worth_l0_step ((n, ((k : Int), ())), (a, (b, ()))) = some (0, ((IntKind.wrap .i64 (n + IntKind.wrap .i64 (a.getD k 0 * b.getD k 0)), (((k + 1 : Nat) : Int), ())), (a, (b, ())))) := by
  have h3 := lt_int hk
  simp only [g62_store_worth_l0_step, show ((3 : Nat) : Int) = 3 from rfl, three_lt' hk, ge0, Bool.and_true, cond_true, getD_toNat, wr1 (i := k) (by omega)]
theorem worth62 (a b : List Int) (ha : B3 [1000000, 1000000, 1000000] a) (hb : P3 b) : g62_store_worth a b = some (dot3 a b) := by
  have h0 := mul_bd ha.b0 hb.1
  have h1 := mul_bd ha.b1 hb.2.1
  have h2 := mul_bd ha.b2 hb.2.2
  simp only [List.getD_cons_zero, List.getD_cons_succ] at h0 h1 h2
  have S0 := worth_step 0 a b 0 (by omega)
  have S1 := worth_step (a.getD 0 0 * b.getD 0 0) a b 1 (by omega)
  have S2 := worth_step (a.getD 0 0 * b.getD 0 0 + a.getD 1 0 * b.getD 1 0) a b 2 (by omega)
  have e : dot3 a b = a.getD 0 0 * b.getD 0 0 + a.getD 1 0 * b.getD 1 0 + a.getD 2 0 * b.getD 2 0 := rfl
  generalize a.getD 0 0 * b.getD 0 0 = x0 at *
  generalize a.getD 1 0 * b.getD 1 0 = x1 at *
  generalize a.getD 2 0 * b.getD 2 0 = x2 at *
  rw [wr (n := x0) (by omega) (by omega), Int.zero_add, wr (by omega) (by omega)] at S0
  rw [wr (n := x1) (by omega) (by omega), wr (by omega) (by omega)] at S1
  rw [wr (n := x2) (by omega) (by omega), wr (by omega) (by omega)] at S2
  have K : g62_store_worth_l0_run ((0, (0, ())), (a, (b, ()))) = some (0, ((x0 + x1 + x2, (3, ())), (a, (b, ())))) := by
    unfold g62_store_worth_l0_run
    rw [show g62_store_worth_l0_fuel ((0, (0, ())), (a, (b, ()))) = 4 from rfl]
    rw [show ((0 : Int), ((0 : Int), ())) = (0, (((0 : Nat) : Int), ())) from rfl, iter_one S0, iter_one S1, iter_one S2]
    rfl
  unfold g62_store_worth
  rw [K, e]; rfl

/-! ### Fair prices -/
def FairP (s : E27) (p : List Int) : Prop := ∀ x ∈ s.2.2.2.2.2.1, dot3 x.2.1 p ≤ x.2.2.1
theorem ship_b3 {s : E27} (hs : OkS s) (wf : WfS s) {x : E39} (hx : x ∈ s.2.2.2.2.2.1) : B3 [1000, 1000, 1000] x.2.1 := (hs.ships x hx).2.1.b3 (wf.ships x hx)
theorem b3_million {g : List Int} (h : B3 [1000, 1000, 1000] g) : B3 [1000000, 1000000, 1000000] g := b3_le h (by simp) (by simp) (by simp)
theorem contains60v {s : E27} (hs : OkS s) (wf : WfS s) {p : List Int} (hp : P3 p) : ∃ b : Bool, g60_slices_ContainsFunc_v1 s.2.2.2.2.2.1 p = some (b, (p, ())) ∧ (b = false ↔ FairP s p) := by
  have hn := hs.nships
  have key : ∀ x ∈ s.2.2.2.2.2.1, g61_store_Floor_1 x p = some (decide (dot3 x.2.1 p > x.2.2.1), (p, ())) := fun x hx => by
    unfold g61_store_Floor_1
    rw [worth62 _ _ (b3_million (ship_b3 hs wf hx)) hp]; rfl
  generalize hl : s.2.2.2.2.2.1 = l at *
  have h := iter_fn (step := g89_slices_IndexFunc_v1_l0_step) (n := l.length) (k1 := 0) (k2 := 1) (bad := fun i => decide (dot3 (l.getD i dShip).2.1 p > (l.getD i dShip).2.2.1)) (fuel := g89_slices_IndexFunc_v1_l0_fuel ((l, (0, ((l.length : Int), (0, ())))), (p, ())))
    (fun i => ((l, (0, ((l.length : Int), ((i : Int), ())))), (p, ()))) (fun i => ((l, ((i : Int), ((l.length : Int), ((i : Int), ())))), (p, ()))) ((l, (0, ((l.length : Int), ((l.length : Int), ())))), (p, ()))
    (fun i hi => by
      simp only [g89_slices_IndexFunc_v1_l0_step, lt_int hi, ge0, Bool.and_true, cond_true, getD_toNat, wr1 (i := i) (by omega)]
      rw [show (0, ((List.replicate 3 0), (0, ()))) = dShip from rfl, key _ (getD_mem hi)]
      simp only [Option.bind_some]
      cases decide (dot3 (l.getD i dShip).2.1 p > (l.getD i dShip).2.2.1) <;> rfl)
    (by simp only [g89_slices_IndexFunc_v1_l0_step, nlt_int, cond_false]) (by simp [g89_slices_IndexFunc_v1_l0_fuel])
  unfold g60_slices_ContainsFunc_v1 g89_slices_IndexFunc_v1
  rcases h with ⟨j, h1, h2, _, h3⟩ | ⟨h1, h2⟩
  · have h3' : g89_slices_IndexFunc_v1_l0_run ((l, (0, ((l.length : Int), (0, ())))), (p, ())) = _ := h3
    rw [h3']
    refine ⟨true, by simp [natK], ⟨(by intro h; cases h), fun hf => ?_⟩⟩
    have h2 := of_decide_eq_true h2
    have := hf (l.getD j dShip) (by rw [hl]; exact getD_mem h1)
    omega
  · have h2' : g89_slices_IndexFunc_v1_l0_run ((l, (0, ((l.length : Int), (0, ())))), (p, ())) = _ := h2
    rw [h2']
    refine ⟨false, by simp [natK], ⟨fun _ => ?_, fun _ => rfl⟩⟩
    unfold FairP
    rw [hl]
    refine (forall_getD dShip).1 fun i hi => ?_
    have := of_decide_eq_false (h1 i hi)
    omega
theorem fair33 {s : E27} (hs : OkS s) (wf : WfS s) {p : List Int} (hp : P3 p) : Tells (g33_talikref06_Fair s p) (FairP s p) := by
  have hn := hs.nships
  have h := iter_fn (step := g33_talikref06_Fair_l0_step) (n := s.2.2.2.2.2.1.length) (k1 := 0) (k2 := 1) (bad := fun i => decide (dot3 (s.2.2.2.2.2.1.getD i dShip).2.1 p > (s.2.2.2.2.2.1.getD i dShip).2.2.1)) (fuel := g33_talikref06_Fair_l0_fuel ((false, (0, ())), (s, (p, ()))))
    (fun i => ((false, ((i : Int), ())), (s, (p, ())))) (fun i => ((false, ((i : Int), ())), (s, (p, ())))) ((false, ((s.2.2.2.2.2.1.length : Int), ())), (s, (p, ())))
    (fun i hi => by
      have hc := b3_million (ship_b3 hs wf (getD_mem (d := dShip) hi))
      have h0 := mul_bd hp.1 hc.b0
      have h1 := mul_bd hp.2.1 hc.b1
      have h2 := mul_bd hp.2.2 hc.b2
      simp only [List.getD_cons_zero, List.getD_cons_succ] at h0 h1 h2
      simp only [g33_talikref06_Fair_l0_step, lt_int hi, ge0, Bool.and_true, cond_true, getD_toNat, wr1 (i := i) (by omega)]
      rw [show (0, ((List.replicate 3 0), (0, ()))) = dShip from rfl, show Int.toNat 0 = 0 from rfl, show Int.toNat 1 = 1 from rfl, show Int.toNat 2 = 2 from rfl]
      generalize s.2.2.2.2.2.1.getD i dShip = x at *
      have e : dot3 x.2.1 p = p.getD 0 0 * x.2.1.getD 0 0 + p.getD 1 0 * x.2.1.getD 1 0 + p.getD 2 0 * x.2.1.getD 2 0 := by
        unfold dot3; rw [Int.mul_comm (x.2.1.getD 0 0), Int.mul_comm (x.2.1.getD 1 0), Int.mul_comm (x.2.1.getD 2 0)]
      rw [e]
      generalize p.getD 0 0 * x.2.1.getD 0 0 = x0 at *
      generalize p.getD 1 0 * x.2.1.getD 1 0 = x1 at *
      generalize p.getD 2 0 * x.2.1.getD 2 0 = x2 at *
      rw [wr (n := x0) (by omega) (by omega), wr (n := x1) (by omega) (by omega), wr (n := x2) (by omega) (by omega), wr (n := x0 + x1) (by omega) (by omega), wr (n := x0 + x1 + x2) (by omega) (by omega)]
      cases decide (x0 + x1 + x2 > x.2.2.1) <;> rfl)
    (by simp only [g33_talikref06_Fair_l0_step, nlt_int, cond_false]) (by simp [g33_talikref06_Fair_l0_fuel])
  unfold g33_talikref06_Fair
  rcases h with ⟨j, h1, h2, _, h3⟩ | ⟨h1, h2⟩
  · have h3' : g33_talikref06_Fair_l0_run ((false, (0, ())), (s, (p, ()))) = _ := h3
    rw [h3']
    refine tells_f fun hf => ?_
    have h2 := of_decide_eq_true h2
    have := hf _ (getD_mem (d := dShip) h1)
    omega
  · have h2' : g33_talikref06_Fair_l0_run ((false, (0, ())), (s, (p, ()))) = _ := h2
    rw [h2']
    refine tells_t ((forall_getD dShip).1 fun i hi => ?_)
    have := of_decide_eq_false (h1 i hi)
    omega

/-! ### Floors -/
/-- The floor of prices for a winter. -/
def floorM (s : E27) (n : Nat) (p : List Int) : Int := dot3 (restM (sumL (win s n)) s.1) p
theorem sumL_b3 {s : E27} (hs : OkS s) (wf : WfS s) {n : Nat} (hn : n < s.2.2.2.2.2.2.2.1.length) (i : Nat) (hi : i ≤ (win s n).length) : B3 [30000, 30000, 30000] (sumL ((win s n).take i)) := by
  have h := sumL_bound (win s n) (winOk hs wf hn).ok i hi
  have := (win_len hs wf hn).2
  refine b3_le h ?_ ?_ ?_ <;> simp only [List.getD_cons_zero, List.getD_cons_succ] <;> omega
theorem rest_million {a b : List Int} (ha : B3 [30000, 30000, 30000] a) (hb : B3 [1000, 1000, 1000] b) : B3 [1000000, 1000000, 1000000] (restM a b) := by
  have a0 := ha.b0; have a1 := ha.b1; have a2 := ha.b2
  have b0 := hb.b0; have b1 := hb.b1; have b2 := hb.b2
  simp only [List.getD_cons_zero, List.getD_cons_succ] at a0 a1 a2 b0 b1 b2
  refine ⟨rfl, ?_, ?_, ?_⟩ <;> simp only [restM, List.getD_cons_zero, List.getD_cons_succ]
  · exact mx_le (by omega) (by omega)
  · exact mx_le (by omega) (by omega)
  · exact mx_le (by omega) (by omega)
theorem floor_l1_step (s : E27) (p a : List Int) (k : Nat) (hk : k < 3) :
    g31_store_Floor_l1_step (((k : Int), ()), (s, (p, (a, ())))) = some (0, ((((k + 1 : Nat) : Int), ()), (s, (p, (a.set k (mx (IntKind.wrap .i64 (a.getD k 0 - s.1.getD k 0))), ()))))) := by
  have h3 := lt_int hk
  simp only [g31_store_Floor_l1_step, show ((3 : Nat) : Int) = 3 from rfl, three_lt' hk, ge0, Bool.and_true, cond_true, getD_toNat, Int.toNat_natCast, wr1 (i := k) (by omega), mx]
theorem floor_l1 (s : E27) (p a : List Int) (ha : B3 [30000, 30000, 30000] a) (hs : B3 [1000, 1000, 1000] s.1) :
    g31_store_Floor_l1_run ((0, ()), (s, (p, (a, ())))) = some (0, ((3, ()), (s, (p, (restM a s.1, ()))))) := by
  obtain ⟨y0, y1, y2, rfl⟩ := len3 ha.len
  have a0 := ha.b0; have a1 := ha.b1; have a2 := ha.b2
  have b0 := hs.b0; have b1 := hs.b1; have b2 := hs.b2
  simp only [List.getD_cons_zero, List.getD_cons_succ] at a0 a1 a2 b0 b1 b2
  have S0 := floor_l1_step s p [y0, y1, y2] 0 (by omega)
  have S1 := floor_l1_step s p [mx (y0 - s.1.getD 0 0), y1, y2] 1 (by omega)
  have S2 := floor_l1_step s p [mx (y0 - s.1.getD 0 0), mx (y1 - s.1.getD 1 0), y2] 2 (by omega)
  simp only [List.getD_cons_zero, List.getD_cons_succ, List.set_cons_zero, List.set_cons_succ] at S0 S1 S2
  rw [wr (n := y0 - s.1.getD 0 0) (by omega) (by omega)] at S0
  rw [wr (n := y1 - s.1.getD 1 0) (by omega) (by omega)] at S1
  rw [wr (n := y2 - s.1.getD 2 0) (by omega) (by omega)] at S2
  unfold g31_store_Floor_l1_run
  rw [show g31_store_Floor_l1_fuel ((0, ()), (s, (p, ([y0, y1, y2], ())))) = 4 from rfl]
  rw [show ((0 : Int), ()) = (((0 : Nat) : Int), ()) from rfl, iter_one S0, iter_one S1, iter_one S2]
  rfl
theorem floor_l0 (s : E27) (n : Int) (p : List Int) : (P3 p ∧ g31_store_Floor_l0_run ((n, (0, (0, (0, ())))), (s, (p, ()))) = some (1, ((n, (0, (0, (3, ())))), (s, (p, ()))))) ∨ (¬ P3 p ∧ ∃ k, g31_store_Floor_l0_run ((n, (0, (0, (0, ())))), (s, (p, ()))) = some (0, ((n, (0, (2, (k, ())))), (s, (p, ()))))) := by
  rcases iter_fn (step := g31_store_Floor_l0_step) (n := 3) (k1 := 0) (k2 := 1) (bad := fun k => decide (¬ In (p.getD k 0) 0 1000000)) (fuel := g31_store_Floor_l0_fuel ((n, (0, (0, (0, ())))), (s, (p, ()))))
    (fun k => ((n, (0, (0, ((k : Int), ())))), (s, (p, ())))) (fun k => ((n, (0, (2, ((k : Int), ())))), (s, (p, ())))) ((n, (0, (0, (3, ())))), (s, (p, ())))
    (fun k hk => by
      have h3 := lt_int hk
      simp only [g31_store_Floor_l0_step, show ((3 : Nat) : Int) = 3 from rfl, three_lt' hk, ge0, Bool.and_true, cond_true, getD_toNat, wr1 (i := k) (by omega)]
      by_cases hb : In (p.getD k 0) 0 1000000
      · rw [(in53 _ _ _).val hb, decide_eq_false (fun hn => hn hb)]; rfl
      · rw [(in53 _ _ _).nval hb, decide_eq_true hb]; rfl)
    rfl (by simp [g31_store_Floor_l0_fuel]) with ⟨j, h1, h2, _, h3⟩ | ⟨h1, h2⟩
  · refine .inr ⟨fun hp => ?_, _, h3⟩
    have h2 := of_decide_eq_true h2
    match j, h1 with
    | 0, _ => exact h2 hp.1
    | 1, _ => exact h2 hp.2.1
    | 2, _ => exact h2 hp.2.2
  · have key : ∀ k, k < 3 → In (p.getD k 0) 0 1000000 := fun k hk => Classical.byContradiction fun hb => of_decide_eq_false (h1 k hk) hb
    exact .inl ⟨⟨key 0 (by omega), key 1 (by omega), key 2 (by omega)⟩, h2⟩
/-- What Floor answers. -/
theorem floor31_bad {s : E27} (h : ShortS s) {n : Int} {p : List Int} (hb : ¬ (OkS s ∧ In n 0 ((s.2.2.2.2.2.2.2.1.length : Int) - 1) ∧ P3 p)) : g31_store_Floor s n p = some (0, (2, ())) := by
  have e2 := h.nwin
  unfold g31_store_Floor
  by_cases hs : OkS s
  · rw [(valid51 s h).val hs]
    simp only [Option.bind_some, Bool.not_true, cond_false]
    rw [wr (by omega) (by omega)]
    by_cases hn : In n 0 ((s.2.2.2.2.2.2.2.1.length : Int) - 1)
    · rw [(in53 _ _ _).val hn]
      simp only [Option.bind_some, Bool.not_true, cond_false]
      rcases floor_l0 s n p with ⟨h1, h2⟩ | ⟨h1, k, h2⟩
      · exact absurd ⟨hs, hn, h1⟩ hb
      · rw [h2]; rfl
    · rw [(in53 _ _ _).nval hn]; rfl
  · rw [(valid51 s h).nval hs]; rfl
theorem floor31_ok {s : E27} (h : ShortS s) (hs : OkS s) (wf : WfS s) {n : Nat} (hn : n < s.2.2.2.2.2.2.2.1.length) {p : List Int} (hp : P3 p) :
    (FairP s p → g31_store_Floor s (n : Int) p = some (floorM s n p, (0, ()))) ∧ (¬ FairP s p → g31_store_Floor s (n : Int) p = some (0, (7, ()))) := by
  have e2 := h.nwin
  unfold g31_store_Floor
  rw [(valid51 s h).val hs]
  simp only [Option.bind_some, Bool.not_true, cond_false]
  rw [wr (by omega) (by omega), (in53 _ _ _).val (lt_in hn)]
  simp only [Option.bind_some, Bool.not_true, cond_false]
  rcases floor_l0 s n p with ⟨h1, h2⟩ | ⟨h1, k, h2⟩
  · rw [h2]
    obtain ⟨b, hb1, hb2⟩ := contains60v hs wf hp
    simp only [Option.bind_some, natK, hb1]
    constructor
    · intro hf
      rw [hb2.2 hf]
      have hW : WinOk s (win s n) := winOk hs wf hn
      have hwl := (win_len hs wf hn).2
      have hst : B3 [1000, 1000, 1000] s.1 := hs.stock.b3 wf.stock
      have hsum := sumL_b3 hs wf hn (win s n).length (Nat.le_refl _)
      rw [List.take_length] at hsum
      simp only [cond_false, lt_int hn, ge0, Bool.and_true, cond_true, getD_toNat]
      rw [show s.2.2.2.2.2.2.2.1.getD n [] = win s n from rfl, added63 _ hW.ok (by omega)]
      simp only [Option.bind_some, floor_l1 s p _ hsum hst, worth62 _ _ (rest_million hsum hst) hp]
      rfl
    · intro hf
      cases b with
      | true => rfl
      | false => exact absurd (hb2.1 rfl) hf
  · exact absurd hp h1

/-! ### The reference's floor -/
theorem add3_getD (a b : List Int) {k : Nat} (hk : k < 3) : (add3 a b).getD k 0 = a.getD k 0 + b.getD k 0 := by
  match k, hk with
  | 0, _ => rfl
  | 1, _ => rfl
  | 2, _ => rfl
theorem rest_getD (a b : List Int) {k : Nat} (hk : k < 3) : (restM a b).getD k 0 = mx (a.getD k 0 - b.getD k 0) := by
  match k, hk with
  | 0, _ => rfl
  | 1, _ => rfl
  | 2, _ => rfl
theorem b3_getD {X a : List Int} (h : B3 X a) {k : Nat} (hk : k < 3) : 0 ≤ a.getD k 0 ∧ a.getD k 0 ≤ X.getD k 0 := by
  match k, hk with
  | 0, _ => exact h.b0
  | 1, _ => exact h.b1
  | 2, _ => exact h.b2
theorem rfloor_l1 {s : E27} (hs : OkS s) (wf : WfS s) {n : Nat} (hn : n < s.2.2.2.2.2.2.2.1.length) (p : List Int) (m : Int) (k : Nat) (hk : k < 3) :
    g34_talikref06_Floor_l1_run (((n : Int), (m, ((k : Int), (0, (0, ()))))), (s, (p, ()))) = some (0, (((n : Int), (m, ((k : Int), ((sumL (win s n)).getD k 0, (((win s n).length : Int), ()))))), (s, (p, ())))) := by
  have hwl := win_len hs wf hn
  have hw : WinOk s (win s n) := winOk hs wf hn
  have K := iter_run (step := g34_talikref06_Floor_l1_step) (n := (win s n).length) (k := 0) (fuel := g34_talikref06_Floor_l1_fuel (((n : Int), (m, ((k : Int), (0, (0, ()))))), (s, (p, ()))))
    (fun w => (((n : Int), (m, ((k : Int), ((sumL ((win s n).take w)).getD k 0, ((w : Int), ()))))), (s, (p, ()))))
    (((n : Int), (m, ((k : Int), ((sumL (win s n)).getD k 0, (((win s n).length : Int), ()))))), (s, (p, ())))
    (fun w hlt => by
      have h0 : decide ((w : Int) < s.2.2.2.1) = true := decide_eq_true (by have := hwl.1; omega)
      have h1 : decide ((w : Int) < ((s.2.2.2.2.2.2.2.1.getD n []).length : Int)) = true := lt_int hlt
      have h3 := lt_int hk
      have b1 := b3_getD (sumL_b3 hs wf hn w (by omega)) hk
      have b2 := b3_getD (hw.ok _ (getD_mem (d := z3) hlt)) hk
      have e1 : [(30000 : Int), 30000, 30000].getD k 0 = 30000 := by match k, hk with | 0, _ => rfl | 1, _ => rfl | 2, _ => rfl
      have e2 : [(1000 : Int), 1000, 1000].getD k 0 = 1000 := by match k, hk with | 0, _ => rfl | 1, _ => rfl | 2, _ => rfl
      rw [e1] at b1; rw [e2] at b2
      simp only [g34_talikref06_Floor_l1_step, show ((3 : Nat) : Int) = 3 from rfl, three_lt' hk, h0, h1, lt_int hn, ge0, Bool.and_true, cond_true, getD_toNat, wr1 (i := w) (by omega)]
      rw [show s.2.2.2.2.2.2.2.1.getD n [] = win s n from rfl, show List.replicate 3 (0 : Int) = z3 from rfl, wr (n := (sumL ((win s n).take w)).getD k 0 + ((win s n).getD w z3).getD k 0) (by omega) (by omega)]
      have e : sumL ((win s n).take (w + 1)) = add3 (sumL ((win s n).take w)) ((win s n).getD w z3) := foldl_take_succ add3 _ hlt _
      rw [e, add3_getD _ _ hk])
    (by
      have h0 : decide ((((win s n).length : Nat) : Int) < s.2.2.2.1) = false := decide_eq_false (by have := hwl.1; omega)
      simp only [g34_talikref06_Floor_l1_step, h0, cond_false, List.take_length])
    (by simp only [g34_talikref06_Floor_l1_fuel]; have := hwl.1; omega)
  have e0 : (sumL ((win s n).take 0)).getD k 0 = 0 := by match k, hk with | 0, _ => rfl | 1, _ => rfl | 2, _ => rfl
  rw [e0] at K
  exact K
theorem rfloor34 {s : E27} (hs : OkS s) (wf : WfS s) {n : Nat} (hn : n < s.2.2.2.2.2.2.2.1.length) {p : List Int} (hp : P3 p) : g34_talikref06_Floor s (n : Int) p = some (floorM s n p) := by
  have hst : B3 [1000, 1000, 1000] s.1 := hs.stock.b3 wf.stock
  have hsum := sumL_b3 hs wf hn (win s n).length (Nat.le_refl _)
  rw [List.take_length] at hsum
  have hr := rest_million hsum hst
  have step : ∀ (m : Int) (k : Nat) (hk : k < 3), 0 ≤ m ∧ m ≤ 10 ^ 13 → g34_talikref06_Floor_l0_step (((n : Int), (m, ((k : Int), ()))), (s, (p, ()))) = some (0, (((n : Int), (m + (restM (sumL (win s n)) s.1).getD k 0 * p.getD k 0, (((k + 1 : Nat) : Int), ()))), (s, (p, ())))) := fun m k hk hm => by
    have h3 := lt_int hk
    have b1 := b3_getD hsum hk
    have b2 := b3_getD hst hk
    have b3 := b3_getD hr hk
    have hpk : 0 ≤ p.getD k 0 ∧ p.getD k 0 ≤ 1000000 := by
      match k, hk with
      | 0, _ => exact hp.1
      | 1, _ => exact hp.2.1
      | 2, _ => exact hp.2.2
    have e1 : [(30000 : Int), 30000, 30000].getD k 0 = 30000 := by match k, hk with | 0, _ => rfl | 1, _ => rfl | 2, _ => rfl
    have e2 : [(1000 : Int), 1000, 1000].getD k 0 = 1000 := by match k, hk with | 0, _ => rfl | 1, _ => rfl | 2, _ => rfl
    have e3 : [(1000000 : Int), 1000000, 1000000].getD k 0 = 1000000 := by match k, hk with | 0, _ => rfl | 1, _ => rfl | 2, _ => rfl
    rw [e1] at b1; rw [e2] at b2; rw [e3] at b3
    have hm2 := mul_bd b3 hpk
    simp only [g34_talikref06_Floor_l0_step, show ((3 : Nat) : Int) = 3 from rfl, three_lt' hk, cond_true, rfloor_l1 hs wf hn p m k hk, Option.bind_some, ge0, Bool.and_true, getD_toNat, wr1 (i := k) (by omega)]
    rw [wr (n := (sumL (win s n)).getD k 0 - s.1.getD k 0) (by omega) (by omega)]
    rw [show (if (sumL (win s n)).getD k 0 - s.1.getD k 0 > 0 then (sumL (win s n)).getD k 0 - s.1.getD k 0 else 0) = (restM (sumL (win s n)) s.1).getD k 0 from (rest_getD _ _ hk).symm, Int.mul_comm (p.getD k 0)]
    generalize (restM (sumL (win s n)) s.1).getD k 0 * p.getD k 0 = x at *
    rw [wr (n := x) (by omega) (by omega), wr (by omega) (by omega)]
  have h0 := mul_bd hr.b0 hp.1
  have h1 := mul_bd hr.b1 hp.2.1
  have h2 := mul_bd hr.b2 hp.2.2
  simp only [List.getD_cons_zero, List.getD_cons_succ] at h0 h1 h2
  have S0 := step 0 0 (by omega) (by omega)
  have S1 := step ((restM (sumL (win s n)) s.1).getD 0 0 * p.getD 0 0) 1 (by omega) (by omega)
  have S2 := step ((restM (sumL (win s n)) s.1).getD 0 0 * p.getD 0 0 + (restM (sumL (win s n)) s.1).getD 1 0 * p.getD 1 0) 2 (by omega) (by omega)
  rw [Int.zero_add] at S0
  have K : g34_talikref06_Floor_l0_run (((n : Int), (0, (0, ()))), (s, (p, ()))) = some (0, (((n : Int), (floorM s n p, (3, ()))), (s, (p, ())))) := by
    unfold g34_talikref06_Floor_l0_run
    rw [show g34_talikref06_Floor_l0_fuel (((n : Int), (0, (0, ()))), (s, (p, ()))) = 4 from rfl]
    rw [show ((0 : Int), ((0 : Int), ())) = (0, (((0 : Nat) : Int), ())) from rfl, iter_one S0, iter_one S1, iter_one S2]
    rfl
  unfold g34_talikref06_Floor
  rw [K]; rfl
end Go.Proofs.YtcijddeommognaaDoor.Abs

/-
  Plain laws of the store layer: costs, and the best plan.
-/
set_option linter.unusedVariables false
set_option linter.unusedSimpArgs false
set_option maxRecDepth 100000
namespace Go.Proofs.YtcijddeommognaaDoor.Abs

def shc (s : E27) (k : Nat) : Int := (s.2.2.2.2.2.1.getD k dShip).2.2.1
/-- The cost of the first ships of a plan. -/
def cst (s : E27) (p : Nat) : Nat → Int
  | 0 => 0
  | k + 1 => bif p.testBit k then cst s p k + shc s k else cst s p k
def costM (s : E27) (p : Nat) : Int := cst s p (shN s)
theorem shc_ok {s : E27} (hs : OkS s) {k : Nat} (h : k < shN s) : 0 ≤ shc s k ∧ shc s k ≤ 1000000 := (hs.ships _ (getD_mem h)).2.2
theorem cst_ok {s : E27} (hs : OkS s) (p : Nat) : ∀ k, k ≤ shN s → 0 ≤ cst s p k ∧ cst s p k ≤ 1000000 * (k : Int)
  | 0, _ => by simp [cst]
  | k + 1, h => by
    have h1 := cst_ok hs p k (by omega)
    have h2 := shc_ok hs (show k < shN s by omega)
    simp only [cst]
    cases p.testBit k with
    | true => simp only [cond_true]; omega
    | false => simp only [cond_false]; omega
theorem cst_more {s : E27} {p : Nat} (hp : p < 2 ^ shN s) : ∀ d, cst s p (shN s + d) = costM s p
  | 0 => rfl
  | d + 1 => by
    rw [← Nat.add_assoc]
    simp only [cst]
    have : p.testBit (shN s + d) = false := by
      cases h : p.testBit (shN s + d) with
      | false => rfl
      | true => have := bit_lt hp h; omega
    rw [this, cond_false, cst_more hp d]
theorem cost30 {s : E27} (hs : OkS s) {p : Nat} (hp : p < 2 ^ shN s) : g30_talikref06_Cost s (p : Int) = some (costM s p) := by
  have hn := shN_le hs
  have hp40 : p < 2 ^ 40 := Nat.lt_of_lt_of_le hp (Nat.pow_le_pow_right (by decide) (by omega))
  have K := iter_run (step := g30_talikref06_Cost_l0_step) (n := shN s) (k := 0) (fuel := g30_talikref06_Cost_l0_fuel (((p : Int), (0, (0, ()))), (s, ())))
    (fun k => (((p : Int), (cst s p k, ((k : Int), ()))), (s, ()))) (((p : Int), (costM s p, ((shN s : Int), ()))), (s, ()))
    (fun k hk => by
      have e0 : decide ((k : Int) < (s.2.2.2.2.2.1.length : Int)) = true := lt_int hk
      have h1 := cst_ok hs p k (by omega)
      have h2 := shc_ok hs hk
      simp only [g30_talikref06_Cost_l0_step, e0, cond_true, has22 p k hp40 (by omega), Option.bind_some, ge0, Bool.and_true, getD_toNat, cst, wr1 (i := k) (by omega)]
      rw [show (s.2.2.2.2.2.1.getD k (0, ((List.replicate 3 0), (0, ())))).2.2.1 = shc s k from rfl]
      cases p.testBit k with
      | true => simp only [cond_true]; rw [wr (n := cst s p k + shc s k) (by omega) (by omega)]
      | false => rfl)
    (by
      have e0 : decide ((shN s : Int) < (s.2.2.2.2.2.1.length : Int)) = false := nlt_int _
      simp only [g30_talikref06_Cost_l0_step, e0, cond_false]; rfl)
    (by simp only [g30_talikref06_Cost_l0_fuel, shN]; omega)
  have K : g30_talikref06_Cost_l0_run (((p : Int), (0, (0, ()))), (s, ())) = _ := K
  unfold g30_talikref06_Cost
  rw [K]; rfl

/-! ### The map of costs -/
theorem find_put (k k' : Int) (v : Int) : ∀ m : List (Int × Int), findD (.int .i64) k (putD (.int .i64) k' v m) = if k = k' then some v else findD (.int .i64) k m
  | [] => by
    simp only [putD, findD, eqD]
    by_cases h : k = k'
    · rw [if_pos h, show (k == k') = true by simpa using h]; rfl
    · rw [if_neg h, show (k == k') = false by simpa using h]; rfl
  | (a, b) :: m => by
    simp only [putD, eqD]
    by_cases h' : k' = a
    · subst h'
      simp only [beq_self_eq_true, cond_true, findD, eqD]
      by_cases h : k = k'
      · rw [if_pos h, show (k == k') = true by simpa using h]; rfl
      · rw [if_neg h, show (k == k') = false by simpa using h]; rfl
    · rw [show (k' == a) = false by simpa using h']
      simp only [cond_false, findD, eqD]
      rw [find_put k k' v m]
      by_cases h : k = a
      · subst h
        have hk : ¬ k = k' := fun e => h' e.symm
        simp [hk]
      · rw [show (k == a) = false by simpa using h]; rfl
def at0 (m : List (Int × Int)) (k : Int) : Int := Option.getD (findD (.int .i64) k m) 0
theorem at0_put (k k' v : Int) (m : List (Int × Int)) : at0 (putD (.int .i64) k' v m) k = if k = k' then v else at0 m k := by
  unfold at0
  rw [find_put]
  by_cases h : k = k'
  · rw [if_pos h, if_pos h]; rfl
  · rw [if_neg h, if_neg h]
/-- The costs of all plans below one, and of some ships of it. -/
def MapIs (s : E27) (m : List (Int × Int)) (p j : Nat) : Prop := ∀ q : Nat, at0 m (q : Int) = if q < p then costM s q else if q = p then cst s p j else 0
theorem map_step {s : E27} {m : List (Int × Int)} {p : Nat} (hp : p < 2 ^ shN s) (h : MapIs s m p (shN s)) : MapIs s m (p + 1) 0 := fun q => by
  rw [h q]
  by_cases h1 : q < p
  · rw [if_pos h1, if_pos (by omega)]
  · by_cases h2 : q = p
    · subst h2; rw [if_neg h1, if_pos rfl, if_pos (by omega)]; rfl
    · rw [if_neg h1, if_neg h2, if_neg (by omega)]
      by_cases h3 : q = p + 1
      · subst h3; rw [if_pos rfl]; rfl
      · rw [if_neg h3]
theorem best_f_step {s : E27} (hs : OkS s) {p j : Nat} (hp : p < 2 ^ shN s) (hj : j < 6) {m : List (Int × Int)} (hm : MapIs s m p j) :
    ∃ m', MapIs s m' p (j + 1) ∧ g88_store_ships_1_v2_l0_step (((j : Int), ()), ((0, UC50), ((p : Int), (s, ((p : Int), (m, ())))))) =
      some (0, ((((j + 1 : Nat) : Int), ()), ((0, UC50), ((p : Int), (s, ((p : Int), (m', ()))))))) := by
  have hn := shN_le hs
  have hp40 : p < 2 ^ 40 := Nat.lt_of_lt_of_le hp (Nat.pow_le_pow_right (by decide) (by omega))
  have hb := bit88 p j hp40 hj
  have e0 : decide ((j : Int) < 6) = true := decide_eq_true (by omega)
  have e1 : decide ((j : Int) < 0) = false := decide_eq_false (by omega)
  simp only [g88_store_ships_1_v2_l0_step, e0, e1, cond_true, Bool.not_false, hb, wr1 (i := j) (by omega)]
  cases hbit : p.testBit j with
  | false =>
    refine ⟨m, fun q => ?_, rfl⟩
    rw [hm q]; simp only [cst, hbit, cond_false]
  | true =>
    have hjn : j < shN s := bit_lt hp hbit
    have hsh : decide ((j : Int) < (s.2.2.2.2.2.1.length : Int)) = true := lt_int hjn
    have h1 := cst_ok hs p j (by omega)
    have h2 := shc_ok hs hjn
    have hv : Option.getD (findD (.int .i64) (p : Int) m) 0 = cst s p j := by
      have := hm p
      rw [if_neg (Nat.lt_irrefl _), if_pos rfl] at this; exact this
    refine ⟨putD (.int .i64) (p : Int) (cst s p j + shc s j) m, fun q => ?_, ?_⟩
    · rw [at0_put]
      by_cases e : q = p
      · subst e
        rw [if_pos rfl, if_neg (Nat.lt_irrefl _), if_pos rfl]
        simp only [cst, hbit, cond_true]
      · rw [if_neg (by omega), hm q, if_neg e, if_neg e]
    · simp only [g28_r0, natK, cond_true, hsh, ge0, Bool.and_true, getD_toNat, hv, Option.bind_some, Bool.not_true, cond_false]
      rw [show (s.2.2.2.2.2.1.getD j (0, ((List.replicate 3 0), (0, ())))).2.2.1 = shc s j from rfl, wr (n := cst s p j + shc s j) (by omega) (by omega)]
theorem best_f {s : E27} (hs : OkS s) {p : Nat} (hp : p < 2 ^ shN s) {m : List (Int × Int)} (hm : MapIs s m p 0) :
    ∃ m', MapIs s m' p (shN s) ∧ g88_store_ships_1_v2 (0, UC50) (p : Int) s (p : Int) m = some ((), ((0, UC50), ((p : Int), (s, ((p : Int), (m', ())))))) := by
  have hn := shN_le hs
  obtain ⟨q, h1, m', h2, h3⟩ := iter_inv (step := g88_store_ships_1_v2_l0_step) (k := 1) (n := 6)
    (fun j x => ∃ m', MapIs s m' p j ∧ x = (((j : Int), ()), ((0, UC50), ((p : Int), (s, ((p : Int), (m', ())))))))
    (fun x => ∃ m', MapIs s m' p 6 ∧ x = (((6 : Int), ()), ((0, UC50), ((p : Int), (s, ((p : Int), (m', ())))))))
    (fun j x ⟨m', a1, a2⟩ hj => by
      subst a2
      obtain ⟨m'', b1, b2⟩ := best_f_step hs hp hj a1
      exact ⟨_, b2, m'', b1, rfl⟩)
    (fun x ⟨m', a1, a2⟩ => by
      subst a2
      exact ⟨_, rfl, m', a1, rfl⟩)
    6 0 7 ((0, ()), ((0, UC50), ((p : Int), (s, ((p : Int), (m, ())))))) (by omega) (by omega) ⟨m, hm, rfl⟩
  subst h3
  have h1 : g88_store_ships_1_v2_l0_run ((0, ()), ((0, UC50), ((p : Int), (s, ((p : Int), (m, ())))))) = _ := h1
  refine ⟨m', fun q => ?_, ?_⟩
  · rw [h2 q]
    have e : cst s p 6 = cst s p (shN s) := by
      have := cst_more hp (6 - shN s)
      rw [show shN s + (6 - shN s) = 6 by omega] at this; exact this
    rw [e]
  · unfold g88_store_ships_1_v2
    rw [h1]; rfl
/-- How many plans there are. -/
def plN (s : E27) : Nat := 2 ^ shN s
theorem plN_le {s : E27} (hs : OkS s) : plN s ≤ 64 := Nat.le_trans (Nat.pow_le_pow_right (by decide) (shN_le hs)) (by decide)
theorem plW {s : E27} (hs : OkS s) : IntKind.wrap .i64 (1 * 2 ^ (min (Int.toNat (s.2.2.2.2.2.1.length : Int)) (IntKind.bits .i64))) = (plN s : Int) := by
  have hn : s.2.2.2.2.2.1.length ≤ 6 := shN_le hs
  have e : min (Int.toNat (s.2.2.2.2.2.1.length : Int)) (IntKind.bits .i64) = s.2.2.2.2.2.1.length := by
    show min (Int.toNat (s.2.2.2.2.2.1.length : Int)) 64 = _
    simp; omega
  have e2 : (1 * 2 ^ s.2.2.2.2.2.1.length : Int) = ((2 ^ s.2.2.2.2.2.1.length : Nat) : Int) := by simp
  have h := plN_le hs
  rw [e, e2]
  unfold plN shN at *
  generalize (2 ^ s.2.2.2.2.2.1.length : Nat) = P at *
  rw [wr (by omega) (by omega)]
theorem best_costs {s : E27} (hs : OkS s) : ∃ m, MapIs s m (plN s) 0 ∧ g28_store_Best_l0_run (((plN s : Int), (0, ())), (s, ([], ()))) = some (0, (((plN s : Int), ((plN s : Int), ())), (s, (m, ())))) := by
  have hP := plN_le hs
  obtain ⟨q, h1, m', h2, h3⟩ := iter_inv (step := g28_store_Best_l0_step) (k := 0) (n := plN s)
    (fun p x => ∃ m', MapIs s m' p 0 ∧ x = (((plN s : Int), ((p : Int), ())), (s, (m', ()))))
    (fun x => ∃ m', MapIs s m' (plN s) 0 ∧ x = (((plN s : Int), ((plN s : Int), ())), (s, (m', ()))))
    (fun p x ⟨m', a1, a2⟩ hp => by
      subst a2
      obtain ⟨m'', b1, b2⟩ := best_f hs hp a1
      refine ⟨_, ?_, m'', map_step hp b1, rfl⟩
      simp only [g28_store_Best_l0_step, lt_int hp, cond_true, g57_store_ships, Option.bind_some]
      rw [b2]
      simp only [Option.bind_some, wr1 (i := p) (by omega)]
      rfl)
    (fun x ⟨m', a1, a2⟩ => by
      subst a2
      refine ⟨_, ?_, m', a1, rfl⟩
      simp only [g28_store_Best_l0_step, nlt_int, cond_false])
    (plN s) 0 (g28_store_Best_l0_fuel (((plN s : Int), (0, ())), (s, ([], ())))) (((plN s : Int), (0, ())), (s, ([], ()))) (by omega) (by simp only [g28_store_Best_l0_fuel]; omega)
    ⟨[], fun q => by
      show (0 : Int) = _
      rw [if_neg (by omega)]
      by_cases h : q = 0
      · subst h; rw [if_pos rfl]; rfl
      · rw [if_neg h], rfl⟩
  subst h3
  exact ⟨m', h2, h1⟩

/-! ### The search -/
/-- The best of the first plans. -/
def bs (s : E27) : Nat → Option Nat
  | 0 => none
  | p + 1 => match bs s p with
    | none => bif !(faultM s p).1 then some p else none
    | some b => bif !(faultM s p).1 && decide (costM s p < costM s b) then some p else some b
theorem bs_lt (s : E27) : ∀ p b, bs s p = some b → b < p
  | 0, b, h => by cases h
  | p + 1, b, h => by
    simp only [bs] at h
    cases hb : bs s p with
    | none =>
      rw [hb] at h
      simp only at h
      cases hf : (!(faultM s p).1) with
      | true => rw [hf] at h; simp at h; omega
      | false => rw [hf] at h; simp at h
    | some c =>
      rw [hb] at h
      have := bs_lt s p c hb
      simp only at h
      cases hf : (!(faultM s p).1 && decide (costM s p < costM s c)) with
      | true => rw [hf] at h; simp at h; omega
      | false => rw [hf] at h; simp at h; omega
def accB (s : E27) (o : Option Nat) : Int × Int × Bool := match o with
  | none => (0, 0, false)
  | some b => ((b : Int), costM s b, true)
theorem cheapest58 {s : E27} (hs : OkS s) (wf : WfS s) {m : List (Int × Int)} (hm : MapIs s m (plN s) 0) :
    g58_store_cheapest (plN s : Int) s m = some (((accB s (bs s (plN s))).1, ((accB s (bs s (plN s))).2.1, ((accB s (bs s (plN s))).2.2, ()))), (s, (m, ()))) := by
  have hP := plN_le hs
  have K := iter_run (step := g58_store_cheapest_l0_step) (n := plN s) (k := 0) (fuel := g58_store_cheapest_l0_fuel ((0, (0, (false, ((plN s : Int), (0, ()))))), (s, (m, ()))))
    (fun p => (((accB s (bs s p)).1, ((accB s (bs s p)).2.1, ((accB s (bs s p)).2.2, ((plN s : Int), ((p : Int), ()))))), (s, (m, ()))))
    (((accB s (bs s (plN s))).1, ((accB s (bs s (plN s))).2.1, ((accB s (bs s (plN s))).2.2, ((plN s : Int), ((plN s : Int), ()))))), (s, (m, ())))
    (fun p hp => by
      have hc : Option.getD (findD (.int .i64) (p : Int) m) 0 = costM s p := by
        have := hm p
        rw [if_pos hp] at this; exact this
      simp only [g58_store_cheapest_l0_step, lt_int hp, cond_true, g59_store_Best_1, fault55 hs wf hp, Option.bind_some, hc, wr1 (i := p) (by omega)]
      simp only [bs]
      cases hb : bs s p with
      | none =>
        simp only [accB, Bool.not_false, cond_true]
        cases (faultM s p).1 <;> rfl
      | some b =>
        simp only [accB, Bool.not_true, cond_false]
        cases (faultM s p).1 with
        | true => rfl
        | false =>
          simp only [Bool.not_false, cond_true, Bool.true_and]
          by_cases hlt : costM s p < costM s b
          · simp only [hlt, decide_true, cond_true]
          · simp only [hlt, decide_false, cond_false])
    (by simp only [g58_store_cheapest_l0_step, nlt_int, cond_false]) (by simp only [g58_store_cheapest_l0_fuel]; omega)
  have K : g58_store_cheapest_l0_run ((0, (0, (false, ((plN s : Int), (0, ()))))), (s, (m, ()))) = _ := K
  unfold g58_store_cheapest
  rw [K]; rfl
/-- What Best answers. -/
def bestA (s : E27) : Int × (Int × (Int × Unit)) := match bs s (plN s) with
  | none => (0, (0, (5, ())))
  | some b => ((b : Int), (costM s b, (0, ())))
theorem best28_ok {s : E27} (h : ShortS s) (hs : OkS s) (wf : WfS s) : g28_store_Best s = some (bestA s) := by
  obtain ⟨m, h1, h2⟩ := best_costs hs
  have e0 : (!decide ((s.2.2.2.2.2.1.length : Int) < 0)) = true := by simp
  unfold g28_store_Best
  rw [(valid51 s h).val hs]
  simp only [Option.bind_some, Bool.not_true, cond_false, e0, cond_true, plW hs]
  rw [h2]
  simp only [Option.bind_some, e0, cond_true, plW hs]
  rw [cheapest58 hs wf h1]
  unfold bestA
  cases bs s (plN s) <;> rfl
theorem best28_bad {s : E27} (h : ShortS s) (hs : ¬ OkS s) : g28_store_Best s = some (0, (0, (2, ()))) := by
  unfold g28_store_Best
  rw [(valid51 s h).nval hs]; rfl
def refB (o : Option Nat) : Int := match o with
  | none => -1
  | some b => (b : Int)
theorem rbest29 {s : E27} (h : ShortS s) (hs : OkS s) (wf : WfS s) : g29_talikref06_Best s = some (refB (bs s (plN s))) := by
  have hP := plN_le hs
  have hpl : g47_talikref06_Plans s = some (plN s : Int) := plans47 s h.n10
  have K := iter_run (step := g29_talikref06_Best_l0_step) (n := plN s) (k := 0) (fuel := g29_talikref06_Best_l0_fuel (((-1), (0, ())), (s, ())))
    (fun p => ((refB (bs s p), ((p : Int), ())), (s, ()))) ((refB (bs s (plN s)), ((plN s : Int), ())), (s, ()))
    (fun p hp => by
      simp only [g29_talikref06_Best_l0_step, hpl, Option.bind_some, lt_int hp, cond_true, rfault26 hs wf hp, cost30 hs hp, wr1 (i := p) (by omega)]
      simp only [bs]
      cases hb : bs s p with
      | none =>
        simp only [refB, show decide ((-1 : Int) < 0) = true from rfl, cond_true]
        cases (faultM s p).1 <;> rfl
      | some b =>
        have hbp : b < 2 ^ shN s := Nat.lt_trans (bs_lt s p b hb) hp
        have hb0 : ¬ ((b : Int) < 0) := by omega
        simp only [refB, hb0, decide_false, cond_false, cost30 hs hbp, Option.bind_some]
        by_cases hlt : costM s p < costM s b
        · simp only [hlt, decide_true, cond_true, Bool.and_true]
          cases (faultM s p).1 <;> rfl
        · simp only [hlt, decide_false, cond_false, Bool.and_false])
    (by simp only [g29_talikref06_Best_l0_step, hpl, Option.bind_some, nlt_int, cond_false]) (by rw [show g29_talikref06_Best_l0_fuel (((-1), (0, ())), (s, ())) = 100000 from rfl]; omega)
  have K : g29_talikref06_Best_l0_run (((-1), (0, ())), (s, ())) = _ := K
  unfold g29_talikref06_Best
  rw [K]; rfl
/-! What the search finds. -/
theorem bs_some {s : E27} : ∀ {P b : Nat}, bs s P = some b → b < P ∧ (faultM s b).1 = false ∧ ∀ q, q < P → (faultM s q).1 = false → costM s b < costM s q ∨ (costM s q = costM s b ∧ b ≤ q)
  | 0, b, h => by cases h
  | P + 1, b, h => by
    simp only [bs] at h
    cases hb : bs s P with
    | none =>
      rw [hb] at h
      simp only at h
      cases hf : (faultM s P).1 with
      | true => rw [hf] at h; simp at h
      | false =>
        rw [hf] at h
        simp at h
        subst h
        refine ⟨by omega, hf, fun q hq hq2 => ?_⟩
        by_cases e : q = P
        · subst e; exact .inr ⟨rfl, Nat.le_refl _⟩
        · exact absurd hq2 (by
            have := bs_none hb q (by omega)
            rw [this]; simp)
    | some c =>
      rw [hb] at h
      obtain ⟨h1, h2, h3⟩ := bs_some hb
      simp only at h
      cases hf : (faultM s P).1 with
      | true =>
        rw [hf] at h
        simp at h
        subst h
        refine ⟨by omega, h2, fun q hq hq2 => ?_⟩
        by_cases e : q = P
        · subst e; rw [hf] at hq2; cases hq2
        · exact h3 q (by omega) hq2
      | false =>
        rw [hf] at h
        by_cases hc : costM s P < costM s c
        · simp [hc] at h
          subst h
          refine ⟨by omega, hf, fun q hq hq2 => ?_⟩
          by_cases e : q = P
          · subst e; exact .inr ⟨rfl, Nat.le_refl _⟩
          · rcases h3 q (by omega) hq2 with k | ⟨k1, k2⟩
            · exact .inl (by omega)
            · exact .inl (by omega)
        · simp [hc] at h
          subst h
          refine ⟨by omega, h2, fun q hq hq2 => ?_⟩
          by_cases e : q = P
          · subst e
            rcases Int.lt_or_eq_of_le (Int.not_lt.1 hc) with k | k
            · exact .inl k
            · exact .inr ⟨k.symm, by omega⟩
          · exact h3 q (by omega) hq2
where bs_none {s : E27} : ∀ {P : Nat}, bs s P = none → ∀ q, q < P → (faultM s q).1 = true
  | 0, _, q, hq => by omega
  | P + 1, h, q, hq => by
    simp only [bs] at h
    cases hb : bs s P with
    | none =>
      rw [hb] at h
      simp only at h
      cases hf : (faultM s P).1 with
      | false => rw [hf] at h; simp at h
      | true =>
        by_cases e : q = P
        · subst e; exact hf
        · exact bs_none hb q (by omega)
    | some c =>
      rw [hb] at h
      simp only at h
      cases hf : (!(faultM s P).1 && decide (costM s P < costM s c)) with
      | true => rw [hf] at h; simp at h
      | false => rw [hf] at h; simp at h
theorem bs_none {s : E27} {P : Nat} (h : bs s P = none) : ∀ q, q < P → (faultM s q).1 = true := bs_some.bs_none h
end Go.Proofs.YtcijddeommognaaDoor.Abs

/-
  Plain laws of the store layer: no goods are lost.
-/
set_option linter.unusedVariables false
set_option linter.unusedSimpArgs false
set_option maxRecDepth 100000
namespace Go.Proofs.YtcijddeommognaaDoor.Abs

/-- All that is landed of a kind. -/
def colS (l : List (List Int)) (k : Nat) : Int := (l.map fun g => g.getD k 0).sum
theorem colS_set (k : Nat) (v : List Int) : ∀ (l : List (List Int)) (i : Nat), i < l.length → colS (l.set i v) k = colS l k - (l.getD i z3).getD k 0 + v.getD k 0
  | [], i, h => by simp at h
  | g :: l, 0, _ => by
    simp only [colS, List.set_cons_zero, List.map_cons, List.sum_cons, List.getD_cons_zero]; omega
  | g :: l, i + 1, h => by
    have := colS_set k v l i (by simpa using h)
    simp only [colS, List.set_cons_succ, List.map_cons, List.sum_cons, List.getD_cons_succ] at *
    omega
theorem colS_take_succ (l : List (List Int)) (k : Nat) {j : Nat} (h : j < l.length) : colS (l.take (j + 1)) k = colS (l.take j) k + (l.getD j z3).getD k 0 := by
  have e : l.getD j z3 = l[j] := by rw [List.getD_eq_getElem?_getD, List.getElem?_eq_getElem h]; rfl
  unfold colS
  rw [e, List.take_add_one, List.getElem?_eq_getElem h, List.map_append, List.sum_append]
  simp
theorem colS_zero (n k : Nat) : colS (List.replicate n [0, 0, 0]) k = 0 := by
  have e : ([0, 0, 0] : List Int).getD k 0 = 0 := by
    match k with
    | 0 => rfl
    | 1 => rfl
    | 2 => rfl
    | k + 3 => simp
  induction n with
  | zero => rfl
  | succ n ih =>
    simp only [colS, List.replicate_succ, List.map_cons, List.sum_cons, e] at *
    omega
/-- What landing keeps. -/
structure Kept (x y : LS) : Prop where
  bal : ∀ k, k < 3 → y.2.1.getD k 0 - colS y.2.2 k = x.2.1.getD k 0 - colS x.2.2 k
  up : ∀ k, k < 3 → x.2.1.getD k 0 ≤ y.2.1.getD k 0
  all : y.1 + colS y.2.2 0 + colS y.2.2 1 + colS y.2.2 2 = x.1 + colS x.2.2 0 + colS x.2.2 1 + colS x.2.2 2
theorem Kept.refl (x : LS) : Kept x x := ⟨fun _ _ => rfl, fun _ _ => Int.le_refl _, rfl⟩
theorem Kept.trans {x y z : LS} (h : Kept x y) (h' : Kept y z) : Kept x z :=
  ⟨fun k hk => (h'.bal k hk).trans (h.bal k hk), fun k hk => Int.le_trans (h.up k hk) (h'.up k hk), h'.all.trans h.all⟩
theorem landOne_kept {s : E27} {x : LS} (h : LInv s x) {i : Nat} (hi : i < shN s) : Kept x (landOne s x i) := by
  have hl : i < x.2.2.length := by rw [h.len]; exact hi
  obtain ⟨K1, _⟩ := landM_b3 h hi
  have c : ∀ k, k < 3 → colS (landOne s x i).2.2 k = colS x.2.2 k + (landM s x i).getD k 0 := fun k hk => by
    simp only [landOne]
    rw [colS_set _ _ _ _ hl]
    have e : (add3 (x.2.2.getD i z3) (landM s x i)).getD k 0 = (x.2.2.getD i z3).getD k 0 + (landM s x i).getD k 0 := by
      match k, hk with
      | 0, _ => rfl
      | 1, _ => rfl
      | 2, _ => rfl
    rw [e]; omega
  have d : ∀ k, k < 3 → (landOne s x i).2.1.getD k 0 = x.2.1.getD k 0 + (landM s x i).getD k 0 := fun k hk => by
    match k, hk with
    | 0, _ => rfl
    | 1, _ => rfl
    | 2, _ => rfl
  have p : ∀ k, k < 3 → 0 ≤ (landM s x i).getD k 0 := fun k hk => by
    match k, hk with
    | 0, _ => exact K1.b0.1
    | 1, _ => exact K1.b1.1
    | 2, _ => exact K1.b2.1
  refine ⟨fun k hk => ?_, fun k hk => ?_, ?_⟩
  · rw [c k hk, d k hk]; omega
  · rw [d k hk]; have := p k hk; omega
  · rw [c 0 (by omega), c 1 (by omega), c 2 (by omega)]
    simp only [landOne, sum3]
    omega
theorem land_kept {s : E27} : ∀ {x : LS} (h : LInv s x) (q : List Nat), (∀ i ∈ q, i < shN s) → Kept x (q.foldl (landOne s) x)
  | x, h, [], _ => Kept.refl x
  | x, h, i :: q, hq => (landOne_kept h (hq i (by simp))).trans (land_kept (x := landOne s x i) (landOne_inv h (hq i (by simp))) q fun j hj => hq j (by simp [hj]))
theorem land_other {s : E27} {j : Nat} : ∀ {x : LS} (q : List Nat), j ∉ q → (q.foldl (landOne s) x).2.2.getD j z3 = x.2.2.getD j z3
  | x, [], _ => rfl
  | x, i :: q, hq => by
    have h1 : i ≠ j := fun e => hq (by simp [e])
    rw [List.foldl_cons, land_other q (fun hj => hq (by simp [hj]))]
    simp only [landOne]
    exact getD_set_ne h1
theorem Qu_bit (s : E27) (il : List Bool) (p : Nat) : ∀ w, ∀ i ∈ Qu s il p w, p.testBit i = true
  | 0, i, h => by simp [Qu] at h
  | w + 1, i, h => by
    simp only [Qu, newQ, List.mem_append, List.mem_filter, Bool.and_eq_true] at h
    rcases h with h | h
    · exact Qu_bit s il p w i h
    · exact h.2.1
/-- A ship that is not ordered, or has not come, has landed nothing. -/
theorem run_none {s : E27} (il : List Bool) (wl : List (List Int)) (p : Nat) {i : Nat} (hi : i < shN s) : ∀ w, (p.testBit i && openB s il i w) = false → (runM s il wl p w).2.1.getD i z3 = z3
  | 0, _ => by
    simp only [runM]
    rw [List.getD_eq_getElem?_getD, List.getElem?_replicate, if_pos hi]; rfl
  | w + 1, h => by
    have h' : (p.testBit i && openB s il i w) = false := by
      cases hb : p.testBit i with
      | false => rfl
      | true =>
        rw [hb] at h
        cases ho : openB s il i w with
        | false => rfl
        | true => rw [openB_mono (Nat.le_succ w) ho] at h; cases h
    have ih := run_none il wl p hi w h'
    simp only [runM, weekM, landW]
    cases opn s il w with
    | false => exact ih
    | true =>
      simp only [cond_true]
      rw [land_other]
      · exact ih
      · intro hq
        rw [Qu_bit s il p _ i hq, Qu_open s il p _ i hq] at h; cases h
/-! ### Week by week -/
/-- What there is in a week, before it is taken. -/
def fullM (s : E27) (il : List Bool) (wl : List (List Int)) (p w : Nat) : List Int := (landW s il p (runM s il wl p w) w).2.1
theorem st_getD (s : E27) (il : List Bool) (wl : List (List Int)) (p : Nat) {w : Nat} : ∀ W, w < W → (runM s il wl p W).2.2.1.length = W → (∀ v, v ≤ W → (runM s il wl p v).2.2.1.length = v) → (runM s il wl p W).2.2.1.getD w z3 = restM (fullM s il wl p w) (wl.getD w z3)
  | 0, h, _, _ => by omega
  | W + 1, h, _, hl => by
    have hW := hl W (by omega)
    simp only [runM, weekM]
    by_cases e : w = W
    · subst e
      rw [List.getD_eq_getElem?_getD, List.getElem?_append_right (by omega), hW]; simp [fullM]
    · rw [List.getD_eq_getElem?_getD, List.getElem?_append_left (by omega), ← List.getD_eq_getElem?_getD]
      exact st_getD s il wl p W (by omega) hW fun v hv => hl v (by omega)
theorem la_getD (s : E27) (il : List Bool) (wl : List (List Int)) (p : Nat) {w : Nat} : ∀ W, w < W → (∀ v, v ≤ W → (runM s il wl p v).2.2.2.length = v) → (runM s il wl p W).2.2.2.getD w z3 = lackM (fullM s il wl p w) (wl.getD w z3)
  | 0, h, _ => by omega
  | W + 1, h, hl => by
    have hW := hl W (by omega)
    simp only [runM, weekM]
    by_cases e : w = W
    · subst e
      rw [List.getD_eq_getElem?_getD, List.getElem?_append_right (by omega), hW]; simp [fullM]
    · rw [List.getD_eq_getElem?_getD, List.getElem?_append_left (by omega), ← List.getD_eq_getElem?_getD]
      exact la_getD s il wl p W (by omega) fun v hv => hl v (by omega)
theorem lack_getD (a b : List Int) {k : Nat} (hk : k < 3) : (lackM a b).getD k 0 = mx (b.getD k 0 - a.getD k 0) := by
  match k, hk with
  | 0, _ => rfl
  | 1, _ => rfl
  | 2, _ => rfl
theorem restq_getD (a b : List Int) {k : Nat} (hk : k < 3) : (restM a b).getD k 0 = mx (a.getD k 0 - b.getD k 0) := by
  match k, hk with
  | 0, _ => rfl
  | 1, _ => rfl
  | 2, _ => rfl
theorem b3_at {X a : List Int} (h : B3 X a) {k : Nat} (hk : k < 3) : 0 ≤ a.getD k 0 ∧ a.getD k 0 ≤ X.getD k 0 := by
  match k, hk with
  | 0, _ => exact h.b0
  | 1, _ => exact h.b1
  | 2, _ => exact h.b2
/-- What holds of a run with an ice, in a winter. -/
structure Runs (s : E27) (il : List Bool) (wl : List (List Int)) (p : Nat) : Prop where
  inv : ∀ w, w ≤ wl.length → RInv s w (runM s il wl p w)
  full : ∀ w, w < wl.length → B3 s.2.1 (fullM s il wl p w)
  up : ∀ w, w < wl.length → ∀ k, k < 3 → (runM s il wl p w).1.getD k 0 ≤ (fullM s il wl p w).getD k 0
  shut : ∀ w, w < wl.length → opn s il w = false → fullM s il wl p w = (runM s il wl p w).1
  col : ∀ w, w < wl.length → ∀ k, k < 3 → colS (runM s il wl p (w + 1)).2.1 k = colS (runM s il wl p w).2.1 k + (fullM s il wl p w).getD k 0 - (runM s il wl p w).1.getD k 0
  sum : ∀ w, w < wl.length → colS (runM s il wl p (w + 1)).2.1 0 + colS (runM s il wl p (w + 1)).2.1 1 + colS (runM s il wl p (w + 1)).2.1 2 ≤ colS (runM s il wl p w).2.1 0 + colS (runM s il wl p w).2.1 1 + colS (runM s il wl p w).2.1 2 + (bif opn s il w then s.2.2.1 else 0)
  stocks : ∀ w, w < wl.length → (runM s il wl p wl.length).2.2.1.getD w z3 = restM (fullM s il wl p w) (wl.getD w z3)
  lacks : ∀ w, w < wl.length → (runM s il wl p wl.length).2.2.2.getD w z3 = lackM (fullM s il wl p w) (wl.getD w z3)
theorem runs {s : E27} (hs : OkS s) (wf : WfS s) (il : List Bool) {wl : List (List Int)} (hw : WinOk s wl) {p : Nat} (hp : p < 2 ^ shN s) : Runs s il wl p := by
  have inv := fun w h => run_inv hs wf il hw hp w h
  have kept : ∀ w, w < wl.length → Kept (s.2.2.1, (runM s il wl p w).1, (runM s il wl p w).2.1) (landW s il p (runM s il wl p w) w) := fun w h => by
    unfold landW
    cases opn s il w with
    | true => exact land_kept ((inv w (by omega)).linv hs) _ (Qu_lt s il hp _)
    | false => exact Kept.refl _
  refine ⟨inv, fun w h => (landW_inv hs il hp (inv w (by omega))).yard, fun w h => (kept w h).up, fun w h ho => ?_, fun w h k hk => ?_, fun w h => ?_, fun w h => ?_, fun w h => ?_⟩
  · unfold fullM landW; rw [ho]; rfl
  · have := (kept w h).bal k hk
    simp only [runM, weekM, fullM] at *
    omega
  · have hall := (kept w h).all
    have hl := (landW_inv hs il hp (inv w (by omega))).left.1
    simp only [runM, weekM] at *
    cases ho : opn s il w with
    | true => simp only [cond_true]; omega
    | false =>
      have e : landW s il p (runM s il wl p w) w = (s.2.2.1, (runM s il wl p w).1, (runM s il wl p w).2.1) := by unfold landW; rw [ho]; rfl
      rw [e]
      simp only [cond_false]; omega
  · exact st_getD s il wl p wl.length h (inv _ (Nat.le_refl _)).st fun v hv => (inv v hv).st
  · exact la_getD s il wl p wl.length h fun v hv => (inv v hv).la
/-- The sums of what is needed and of what is lacking. -/
def needS (wl : List (List Int)) (k : Nat) : Nat → Int
  | 0 => 0
  | w + 1 => needS wl k w + (wl.getD w z3).getD k 0
def lackS (s : E27) (il : List Bool) (wl : List (List Int)) (p k : Nat) : Nat → Int
  | 0 => 0
  | w + 1 => lackS s il wl p k w + (lackM (fullM s il wl p w) (wl.getD w z3)).getD k 0
theorem mx_sub (a b : Int) : mx (a - b) = a - b + mx (b - a) := by unfold mx; split <;> split <;> omega
/-- THE THEOREM OF GOODS. -/
theorem balance {s : E27} {il : List Bool} {wl : List (List Int)} {p : Nat} (R : Runs s il wl p) {k : Nat} (hk : k < 3) : ∀ w, w ≤ wl.length → s.1.getD k 0 + colS (runM s il wl p w).2.1 k = (runM s il wl p w).1.getD k 0 + needS wl k w - lackS s il wl p k w
  | 0, _ => by simp only [runM, needS, lackS, colS_zero]; omega
  | w + 1, h => by
    have ih := balance R hk w (by omega)
    have hc := R.col w (by omega) k hk
    have e1 : (runM s il wl p (w + 1)).1.getD k 0 = mx ((fullM s il wl p w).getD k 0 - (wl.getD w z3).getD k 0) := restq_getD _ _ hk
    have e2 := lack_getD (fullM s il wl p w) (wl.getD w z3) hk
    have e3 := mx_sub ((fullM s il wl p w).getD k 0) ((wl.getD w z3).getD k 0)
    simp only [needS, lackS]
    omega
end Go.Proofs.YtcijddeommognaaDoor.Abs

/-
  StoreFloored: the plain law.
-/
set_option linter.unusedVariables false
set_option linter.unusedSimpArgs false
set_option maxRecDepth 100000
namespace Go.Proofs.YtcijddeommognaaDoor.Abs
theorem suff_none {s : E27} {p : Nat} (h : (faultM s p).1 = false) {i n : Nat} (hi : i < s.2.2.2.2.2.2.1.length) (hn : n < s.2.2.2.2.2.2.2.1.length) {w k : Nat} (hw : w < (lkM s p i n).length) (hk : k < 3) : ((lkM s p i n).getD w z3).getD k 0 = 0 := by
  have hI : iO s p = none := by
    cases hI : iO s p with
    | none => rfl
    | some j =>
      unfold faultM at h
      rw [hI] at h; cases h
  have h1 : nO s p i = none := by simpa using fnd_none.1 hI i hi
  have h2 : wO (lkM s p i n) = none := by simpa using fnd_none.1 h1 n hn
  have h3 : kO ((lkM s p i n).getD w z3) = none := by simpa using fnd_none.1 h2 w hw
  have h4 := of_decide_eq_false (fnd_none.1 h3 k hk)
  have := lk_nonneg s p i n w k
  omega
theorem needS_sumL (wl : List (List Int)) {k : Nat} (hk : k < 3) : ∀ w, w ≤ wl.length → needS wl k w = (sumL (wl.take w)).getD k 0
  | 0, _ => by match k, hk with | 0, _ => rfl | 1, _ => rfl | 2, _ => rfl
  | w + 1, h => by
    have e : sumL (wl.take (w + 1)) = add3 (sumL (wl.take w)) (wl.getD w z3) := foldl_take_succ add3 _ (show w < wl.length by omega) _
    rw [e, add3_getD _ _ hk]
    simp only [needS]
    rw [needS_sumL wl hk w (by omega)]
theorem col_le {s : E27} (hs : OkS s) (wf : WfS s) {p : Nat} {ld : List (List Int)} (hlen : ld.length = shN s) (hb : ∀ i, i < shN s → B3 (cg s i) (ld.getD i z3)) (hz : ∀ i, i < shN s → p.testBit i = false → ld.getD i z3 = z3) {q : List Int} (hq : P3 q) (hf : FairP s q) :
    ∀ j, j ≤ shN s → (∀ k, k < 3 → 0 ≤ colS (ld.take j) k) ∧ colS (ld.take j) 0 * q.getD 0 0 + colS (ld.take j) 1 * q.getD 1 0 + colS (ld.take j) 2 * q.getD 2 0 ≤ cst s p j
  | 0, _ => by
    constructor
    · intro k _; simp [colS]
    · simp [colS, cst]
  | j + 1, h => by
    obtain ⟨ih1, ih2⟩ := col_le hs wf hlen hb hz hq hf j (by omega)
    have hj : j < shN s := by omega
    have hj2 : j < ld.length := by omega
    have hbj := hb j hj
    have f : ∀ k, k < 3 → 0 ≤ (ld.getD j z3).getD k 0 ∧ (ld.getD j z3).getD k 0 ≤ (cg s j).getD k 0 := fun k hk => b3_at hbj hk
    constructor
    · intro k hk
      rw [colS_take_succ _ _ hj2]
      have := ih1 k hk; have := (f k hk).1; omega
    · rw [colS_take_succ _ _ hj2, colS_take_succ _ _ hj2, colS_take_succ _ _ hj2, Int.add_mul, Int.add_mul, Int.add_mul]
      simp only [cst]
      cases hbit : p.testBit j with
      | false =>
        rw [hz j hj hbit]
        simp only [z3, cond_false, show (List.replicate 3 (0 : Int)).getD 0 0 = 0 from rfl, show (List.replicate 3 (0 : Int)).getD 1 0 = 0 from rfl, show (List.replicate 3 (0 : Int)).getD 2 0 = 0 from rfl, Int.zero_mul]
        omega
      | true =>
        have m0 := Int.mul_le_mul_of_nonneg_right (f 0 (by omega)).2 hq.1.1
        have m1 := Int.mul_le_mul_of_nonneg_right (f 1 (by omega)).2 hq.2.1.1
        have m2 := Int.mul_le_mul_of_nonneg_right (f 2 (by omega)).2 hq.2.2.1
        have hfj := hf _ (getD_mem (d := dShip) hj)
        have e : dot3 (s.2.2.2.2.2.1.getD j dShip).2.1 q = (cg s j).getD 0 0 * q.getD 0 0 + (cg s j).getD 1 0 * q.getD 1 0 + (cg s j).getD 2 0 * q.getD 2 0 := rfl
        rw [e] at hfj
        have hfj : _ ≤ shc s j := hfj
        simp only [cond_true]
        generalize (cg s j).getD 0 0 * q.getD 0 0 = a0 at *
        generalize (cg s j).getD 1 0 * q.getD 1 0 = a1 at *
        generalize (cg s j).getD 2 0 * q.getD 2 0 = a2 at *
        omega
theorem floor_le {s : E27} (hs : OkS s) (wf : WfS s) {p : Nat} (hp : p < 2 ^ shN s) (hsuf : (faultM s p).1 = false) {n : Nat} (hn : n < s.2.2.2.2.2.2.2.1.length) {q : List Int} (hq : P3 q) (hf : FairP s q) : floorM s n q ≤ costM s p := by
  have hi : 0 < s.2.2.2.2.2.2.1.length := by have := hs.nices.1; omega
  have hw := winOk hs wf hn
  have R := runs hs wf (ice s 0) (wl := win s n) hw hp
  have hI := R.inv (win s n).length (Nat.le_refl _)
  have hll : (lkM s p 0 n).length = (win s n).length := hI.la
  have key : ∀ k, k < 3 → mx ((sumL (win s n)).getD k 0 - s.1.getD k 0) ≤ colS (runM s (ice s 0) (win s n) p (win s n).length).2.1 k ∧ 0 ≤ colS (runM s (ice s 0) (win s n) p (win s n).length).2.1 k := fun k hk => by
    have hL : ∀ w, w ≤ (win s n).length → lackS s (ice s 0) (win s n) p k w = 0 := fun w => by
      induction w with
      | zero => intro _; rfl
      | succ w ih =>
        intro h
        have h1 := suff_none hsuf hi hn (w := w) (k := k) (by omega) hk
        have h2 : (lkM s p 0 n).getD w z3 = lackM (fullM s (ice s 0) (win s n) p w) ((win s n).getD w z3) := R.lacks w (by omega)
        rw [h2] at h1
        simp only [lackS]
        rw [ih (by omega), h1]; rfl
    have hB := balance R hk (win s n).length (Nat.le_refl _)
    rw [hL _ (Nat.le_refl _), needS_sumL _ hk _ (Nat.le_refl _), List.take_length] at hB
    have hy := (b3_at hI.yard hk).1
    have hc : 0 ≤ colS (runM s (ice s 0) (win s n) p (win s n).length).2.1 k := by
      have hz : ∀ i, i < shN s → p.testBit i = false → (runM s (ice s 0) (win s n) p (win s n).length).2.1.getD i z3 = z3 := fun i hi hb => run_none _ _ p hi _ (by rw [hb]; rfl)
      have := (col_le hs wf hI.len hI.ld hz hq hf (shN s) (Nat.le_refl _)).1 k hk
      rw [← hI.len, List.take_length] at this; exact this
    unfold mx
    split <;> constructor <;> omega
  have hz : ∀ i, i < shN s → p.testBit i = false → (runM s (ice s 0) (win s n) p (win s n).length).2.1.getD i z3 = z3 := fun i hi hb => run_none _ _ p hi _ (by rw [hb]; rfl)
  have hT := (col_le hs wf hI.len hI.ld hz hq hf (shN s) (Nat.le_refl _)).2
  have e1 : List.take (shN s) (runM s (ice s 0) (win s n) p (win s n).length).2.1 = (runM s (ice s 0) (win s n) p (win s n).length).2.1 := List.take_of_length_le (by rw [hI.len]; exact Nat.le_refl _)
  rw [e1] at hT
  have m0 := Int.mul_le_mul_of_nonneg_right (key 0 (by omega)).1 hq.1.1
  have m1 := Int.mul_le_mul_of_nonneg_right (key 1 (by omega)).1 hq.2.1.1
  have m2 := Int.mul_le_mul_of_nonneg_right (key 2 (by omega)).1 hq.2.2.1
  have e2 : floorM s n q = mx ((sumL (win s n)).getD 0 0 - s.1.getD 0 0) * q.getD 0 0 + mx ((sumL (win s n)).getD 1 0 - s.1.getD 1 0) * q.getD 1 0 + mx ((sumL (win s n)).getD 2 0 - s.1.getD 2 0) * q.getD 2 0 := rfl
  rw [e2]
  unfold costM
  omega
theorem g9_taliklaw06_StoreFloored_true : ∀ x : Els [.dat T27, .dat (.int .i64), .dat (.int .i64), .dat (.arr 3 (.int .i64))], wfs [.dat T27, .dat (.int .i64), .dat (.int .i64), .dat (.arr 3 (.int .i64))] x → g9_taliklaw06_StoreFloored x.1 x.2.1 x.2.2.1 x.2.2.2.1 = some true := by
  rintro ⟨s, p, n, q, _⟩ ⟨hwf, _⟩
  have wf := wf27 hwf
  show g9_taliklaw06_StoreFloored s p n q = some true
  unfold g9_taliklaw06_StoreFloored
  by_cases h : ShortS s
  case neg =>
    rw [(short15 s).nval h]
    simp only [Option.bind_some, Bool.not_false, cond_true, known20]
  rw [(short15 s).val h]
  simp only [Option.bind_some, Bool.not_true, cond_false]
  by_cases hs : OkS s
  case neg =>
    rw [(store16 s h).nval hs]
    simp only [Option.bind_some, Bool.not_false, cond_true, known20]
  rw [(store16 s h).val hs]
  simp only [Option.bind_some, Bool.not_true, cond_false]
  by_cases h1 : OkP s p
  case neg =>
    rw [(plan17 s h.n10 _).nval h1]
    simp only [Option.bind_some, Bool.not_false, cond_true, known20]
  rw [(plan17 s h.n10 _).val h1]
  simp only [Option.bind_some, Bool.not_true, cond_false]
  by_cases h3 : In n 0 ((s.2.2.2.2.2.2.2.1.length : Int) - 1)
  case neg =>
    rw [(winter19 _ _).nval h3]
    simp only [Option.bind_some, Bool.not_false, cond_true, known20]
  rw [(winter19 _ _).val h3]
  simp only [Option.bind_some, Bool.not_true, cond_false]
  by_cases hq : P3 q
  case neg =>
    rw [(prices32 q).nval hq]
    simp only [Option.bind_some, Bool.not_false, cond_true, known20]
  rw [(prices32 q).val hq]
  obtain ⟨p, rfl, hp⟩ := okp_nat h1
  obtain ⟨n, rfl, hn⟩ := in_lt h3
  obtain ⟨k1, k2⟩ := floor31_ok h hs wf hn hq
  simp only [Option.bind_some, Bool.not_true, cond_false, fault24_ok h hs wf hp, best28_ok h hs wf, cost30 hs hp, known20]
  by_cases hf : FairP s q
  · rw [k1 hf]
    simp only [Option.bind_some, show ((0 : Int) != 0) = false from rfl, cond_false]
    unfold bestA
    cases hx : (faultM s p).1 with
    | true =>
      cases hb : bs s (plN s) with
      | none => rfl
      | some b =>
        obtain ⟨hbp, hb2, _⟩ := bs_some hb
        have := floor_le hs wf (show b < 2 ^ shN s from hbp) hb2 hn hq hf
        simp only [cond_true, beq_self_eq_true, decide_eq_true (show costM s b ≥ floorM s n q from this)]
    | false =>
      have := floor_le hs wf hp hx hn hq hf
      simp only [cond_false, decide_eq_true (show costM s p ≥ floorM s n q from this), cond_true]
      cases hb : bs s (plN s) with
      | none =>
        have := bs_none hb p hp
        rw [hx] at this; cases this
      | some b =>
        obtain ⟨hbp, hb2, _⟩ := bs_some hb
        have := floor_le hs wf (show b < 2 ^ shN s from hbp) hb2 hn hq hf
        simp only [cond_true, beq_self_eq_true, decide_eq_true (show costM s b ≥ floorM s n q from this)]
  · rw [k2 hf]
    rfl
end Go.Proofs.YtcijddeommognaaDoor.Abs

/-
  talik/taliklaw06.StoreFloored: for every input the law returns true; its arguments read as they did. No condition.
-/
set_option linter.unusedVariables false
set_option maxRecDepth 100000
namespace Go.Proofs.YtcijddeommognaaDoor.Abs.storeFloored
open Go.ChangeShapes Go.WideShapes Go.RowKit
theorem own : ownKnob Tryd.prog.godebug = none := by kernel_rfl
theorem laidOut : laidOutB Tryd.prog = true := by kernel_rfl
theorem gTab : Tryd.prog.globalNamed "internal/strconv.uint64pow10" = some 0 := by kernel_rfl
theorem gTabType : (Tryd.prog.globals[0]?).map (·.type) = some 153 := by kernel_rfl
theorem cellsT : Tryd.prog.cellsOf 153 = 20 := by kernel_rfl
theorem cellsE : Tryd.prog.cellsOf 143 = 1 := by kernel_rfl
theorem undT : Tryd.prog.underlying 153 = some (.array 20 143) := by kernel_rfl
theorem undE : Tryd.prog.underlying 143 = some (.int .u64) := by kernel_rfl
theorem table {W : World} (h : laidMetH Tryd.prog Rows.storeFlooredRow.laid W) : Lib.TabIs Tryd.prog W "internal/strconv.uint64pow10" .u64 [1, 10, 100, 1000, 10000, 100000, 1000000, 10000000, 100000000, 1000000000, 10000000000, 100000000000, 1000000000000, 10000000000000, 100000000000000, 1000000000000000, 10000000000000000, 100000000000000000, 1000000000000000000, 10000000000000000000] :=
  Lib.tabIs_of_head (rest := []) gTab gTabType undT undE cellsE cellsT (laidMet.tail (laidMet.tail (h)))
theorem tabOk {W : World} (h : laidMetH Tryd.prog Rows.storeFlooredRow.laid W) : ∀ q ∈ TABS, ∃ e fr, W.heap[q.1]? = some (.cells q.2 e fr) := by
  have ht := table h
  unfold Lib.TabIs World.var? at ht
  rw [gTab] at ht
  simp only [Option.bind_some] at ht
  intro q hq
  have hq' : q = (0, _) := List.mem_singleton.1 hq
  subst hq'
  show ∃ e fr, W.heap[0]? = _
  split at ht
  · rename_i cs e fr hc
    exact ⟨e, fr, by rw [hc]; simp only [Option.some.injEq] at ht; rw [ht]; rfl⟩
  · cases ht
noncomputable def laidWorld (os : Os) : World :=
  { World.holding Tryd.prog os ⟨#[], #[], []⟩ with heap := ((((World.holding Tryd.prog os ⟨#[], #[], []⟩).heap.modify 2 fun | .cells _ t frozen => .cells #[.int .u8 0, .int .u8 1, .int .u8 28, .int .u8 2, .int .u8 29, .int .u8 14, .int .u8 24, .int .u8 3, .int .u8 30, .int .u8 22, .int .u8 20, .int .u8 15, .int .u8 25, .int .u8 17, .int .u8 4, .int .u8 8, .int .u8 31, .int .u8 27, .int .u8 13, .int .u8 23, .int .u8 21, .int .u8 19, .int .u8 16, .int .u8 7, .int .u8 26, .int .u8 12, .int .u8 18, .int .u8 6, .int .u8 11, .int .u8 5, .int .u8 10, .int .u8 9] t frozen | o => o).modify 3 fun | .cells _ t frozen => .cells #[.int .u8 0, .int .u8 1, .int .u8 56, .int .u8 2, .int .u8 57, .int .u8 49, .int .u8 28, .int .u8 3, .int .u8 61, .int .u8 58, .int .u8 42, .int .u8 50, .int .u8 38, .int .u8 29, .int .u8 17, .int .u8 4, .int .u8 62, .int .u8 47, .int .u8 59, .int .u8 36, .int .u8 45, .int .u8 43, .int .u8 51, .int .u8 22, .int .u8 53, .int .u8 39, .int .u8 33, .int .u8 30, .int .u8 24, .int .u8 18, .int .u8 12, .int .u8 5, .int .u8 63, .int .u8 55, .int .u8 48, .int .u8 27, .int .u8 60, .int .u8 41, .int .u8 37, .int .u8 16, .int .u8 46, .int .u8 35, .int .u8 44, .int .u8 21, .int .u8 52, .int .u8 32, .int .u8 23, .int .u8 11, .int .u8 54, .int .u8 26, .int .u8 40, .int .u8 15, .int .u8 34, .int .u8 20, .int .u8 31, .int .u8 10, .int .u8 25, .int .u8 14, .int .u8 19, .int .u8 9, .int .u8 13, .int .u8 8, .int .u8 7, .int .u8 6] t frozen | o => o).modify 0 fun | .cells _ t frozen => .cells #[.int .u64 1, .int .u64 10, .int .u64 100, .int .u64 1000, .int .u64 10000, .int .u64 100000, .int .u64 1000000, .int .u64 10000000, .int .u64 100000000, .int .u64 1000000000, .int .u64 10000000000, .int .u64 100000000000, .int .u64 1000000000000, .int .u64 10000000000000, .int .u64 100000000000000, .int .u64 1000000000000000, .int .u64 10000000000000000, .int .u64 100000000000000000, .int .u64 1000000000000000000, .int .u64 10000000000000000000] t frozen | o => o) }
theorem laid_met (os : Os) : laidMet Tryd.prog Rows.storeFlooredRow.laid ((laidWorld os).forCall (fun _ _ => 0) ⟨#[], #[(Value.agg #[.int .i64 0, .int .i64 0, .int .i64 0, .int .i64 0, .int .i64 0, .int .i64 0, .int .i64 0, .int .i64 0, .int .i64 0, .slice none 0 0, .slice none 0 0, .slice none 0 0]), (Value.int .i64 0), (Value.int .i64 0), (Value.agg #[.int .i64 0, .int .i64 0, .int .i64 0])], []⟩).memory :=
  laidMet_of_run' 8 (by kernel_rfl) (by kernel_rfl)
theorem reads (os : Os) {H : Type} (enc : TypeId × Value → H) : ∃ places, DataW.whole enc Tryd.prog ((laidWorld os).forCall (fun _ _ => 0) ⟨#[], #[(Value.agg #[.int .i64 0, .int .i64 0, .int .i64 0, .int .i64 0, .int .i64 0, .int .i64 0, .int .i64 0, .int .i64 0, .int .i64 0, .slice none 0 0, .slice none 0 0, .slice none 0 0]), (Value.int .i64 0), (Value.int .i64 0), (Value.agg #[.int .i64 0, .int .i64 0, .int .i64 0])], []⟩).memory Tryd.f9.params.toList Rows.storeFlooredSpec.vars false #[(Value.agg #[.int .i64 0, .int .i64 0, .int .i64 0, .int .i64 0, .int .i64 0, .int .i64 0, .int .i64 0, .int .i64 0, .int .i64 0, .slice none 0 0, .slice none 0 0, .slice none 0 0]), (Value.int .i64 0), (Value.int .i64 0), (Value.agg #[.int .i64 0, .int .i64 0, .int .i64 0])].toList 16 = some ([.agg [.agg [.lit (.int .i64 0), .lit (.int .i64 0), .lit (.int .i64 0)], .agg [.lit (.int .i64 0), .lit (.int .i64 0), .lit (.int .i64 0)], .lit (.int .i64 0), .lit (.int .i64 0), .lit (.int .i64 0), .nil, .nil, .nil], .lit (.int .i64 0), .lit (.int .i64 0), .agg [.lit (.int .i64 0), .lit (.int .i64 0), .lit (.int .i64 0)]], [], places) :=
  ⟨[], by kernel_rfl⟩
theorem spec_fn (H : Type) : (ds : List (DataW H)) → ds.length = Tryd.f9.params.toList.length → (Rows.storeFlooredSpec.fn H ds).results = [.lit (.bool true)] ∧ (Rows.storeFlooredSpec.fn H ds).args = ds ∧ (Rows.storeFlooredSpec.fn H ds).vars = []
  | [], h => by rw [show Tryd.f9.params.toList.length = 4 from by kernel_rfl] at h; simp at h
  | [d0], h => by rw [show Tryd.f9.params.toList.length = 4 from by kernel_rfl] at h; simp at h
  | [d0, d1], h => by rw [show Tryd.f9.params.toList.length = 4 from by kernel_rfl] at h; simp at h
  | [d0, d1, d2], h => by rw [show Tryd.f9.params.toList.length = 4 from by kernel_rfl] at h; simp at h
  | [d0, d1, d2, d3], _ => ⟨rfl, rfl, rfl⟩
  | d0 :: d1 :: d2 :: d3 :: _ :: _, h => by rw [show Tryd.f9.params.toList.length = 4 from by kernel_rfl] at h; simp at h
theorem contract (H : Type) (enc : TypeId × Value → H) (W : World) (base : Nat) (args : Array Value) (ds gs : List (DataW H)) (before : List MemPlace)
    (hval : ∀ (j : Nat) t v, Tryd.f9.params[j]? = some t → args[j]? = some v → Value.okWide Tryd.prog W .any base t v)
    (hW : DataW.Whole enc Tryd.prog Tryd.f9.params.toList Rows.storeFlooredSpec.vars false W args.toList ds gs before) (hL : laidMetH Tryd.prog Rows.storeFlooredRow.laid W) :
    Calls Tryd.prog 9 args W fun e W' => ∃ v, e = .returned v ∧ Rows.storeFlooredSpec.post enc Tryd.prog Tryd.f9 false true false false W args v W' :=
  law_contract (n := 20) (fun x r h => g9_taliklaw06_StoreFloored_lcall x r h) (fun x hx => g9_taliklaw06_StoreFloored_true x hx) (by decide) (show Tryd.f9.resultTypes = #[4] by kernel_rfl) (by kernel_rfl) (by kernel_rfl) laidOut (by
    intro t ht
    have : (Tryd.f9.params.toList.all fun t => Tryd.prog.readableRec t && decide (t < Tryd.prog.types.size)) = true := by kernel_rfl
    have := List.all_eq_true.1 this t ht
    simpa using this) rfl spec_fn hval hW (tabOk hL)
theorem lifted (os : Os) (started : os.Started) (H : Type) (enc : TypeId × Value → H) (F : Stop.Interp) :
    ReturnsInHanded {} Tryd.checked os 9 .any ((OpenSpec.ofChange Rows.storeFlooredSpec).preRow enc Tryd.prog Tryd.f9 Rows.storeFlooredRow.domain false Rows.storeFlooredRow.laid) (((OpenSpec.ofChange Rows.storeFlooredSpec).at F).post enc Tryd.prog Tryd.f9 false true false false) := by
  obtain ⟨places, hx⟩ := reads os enc
  refine returnsInHanded_of_row (C := Tryd.checked) (s := OpenSpec.ofChange Rows.storeFlooredSpec) own started (by kernel_rfl) Tryd.func9
    (witness_row_at (enc := enc) (C := Tryd.checked) false (laidWorld os) #[(Value.agg #[.int .i64 0, .int .i64 0, .int .i64 0, .int .i64 0, .int .i64 0, .int .i64 0, .int .i64 0, .int .i64 0, .int .i64 0, .slice none 0 0, .slice none 0 0, .slice none 0 0]), (Value.int .i64 0), (Value.int .i64 0), (Value.agg #[.int .i64 0, .int .i64 0, .int .i64 0])] rfl (by kernel_rfl) (by kernel_rfl) (by kernel_rfl)
      (OpenSpec.preRow_of_cond 16 hx (by kernel_rfl) (fun k hk => by cases hk) (by kernel_rfl) (laid_met os))) ?_
  intro W base args ds gs before hval hW _ _ _ hL _ _
  exact contract H enc W base args ds gs before hval hW hL
theorem said : Rows.StoreFlooredSaid :=
  OpenClaim.holds_of_cond 9 Tryd.f9 rfl rfl rfl rfl rfl rfl rfl ⟨rfl, rfl, rfl, rfl, rfl⟩ rfl rfl rfl rfl rfl (by kernel_rfl) Tryd.func9 (by kernel_rfl)
    (of_decide_eq_true (by kernel_rfl)) (by unfold Func.isWrapper; first | (rw [if_pos (by decide +kernel)]; kernel_rfl) | (rw [if_neg (by decide +kernel)]; exact ⟨rfl, rfl⟩))
    (fun os started H enc _ F => by rw [OpenClaim.pre_eq_preRow]; exact lifted os started H enc F)
theorem plain (f : FuncId) (fn : Func) (hf : Tryd.pinned.checked.prog.funcNamed "talik/taliklaw06.StoreFloored" = some f) (hfn : Tryd.pinned.checked.prog.funcs[f]? = some fn) :
    true = Tryd.pinned.checked.prog.looks [] ∧ ∀ (j : Nat) t, fn.params[j]? = some t → Tryd.pinned.checked.prog.wantsStandIn t = false := by
  obtain rfl : f = 9 := Option.some.inj ((show Tryd.prog.funcNamed "talik/taliklaw06.StoreFloored" = some 9 by kernel_rfl).symm.trans hf) |>.symm
  obtain rfl : fn = Tryd.f9 := (Option.some.inj (Tryd.func9.symm.trans hfn)).symm
  refine ⟨by kernel_rfl, fun j t ht => ?_⟩
  have h : (Tryd.f9.params.toList.all fun t => !Tryd.prog.wantsStandIn t) = true := by kernel_rfl
  have := List.all_eq_true.1 h t (by rw [← Array.getElem?_toList] at ht; exact List.mem_of_getElem? ht)
  exact (show Tryd.prog.wantsStandIn t = false by simpa using this)
theorem card : Rows.StoreFlooredCardSaid :=
  Claim7.holds_tied_plain_at .later [] _ _ _ _ said (fun _ h => by cases h) (by kernel_rfl) (fun _ h => by cases h) storeFloored_row_tie rfl ⟨rfl, rfl⟩ (by kernel_rfl) rfl plain (by kernel_rfl)
end Go.Proofs.YtcijddeommognaaDoor.Abs.storeFloored
namespace Go.Proofs.YtcijddeommognaaDoor
theorem storeFloored_card : Rows.StoreFlooredCardSaid := Abs.storeFloored.card
end Go.Proofs.YtcijddeommognaaDoor
