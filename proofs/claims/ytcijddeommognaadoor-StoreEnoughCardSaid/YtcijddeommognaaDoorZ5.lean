import Derived.Test.YtcijddeommognaaDoorF3
import Derived.Test.YtcijddeommognaaDoorCards
import Derived.Test.YtcijddeommognaaDoorTie
import Derived.Test.YtcijddeommognaaDoorA3
import Derived.WalkKit
import Derived.ProofKit
import Derived.OpenShut
import Derived.Deep.DeepHandedRow
import Derived.Lib.LaidTab
import Derived.Stop.LaidErr
/-
  A law of the store layer as a typed function. Printed by a program of mine (gen.py).
-/
set_option linter.unusedVariables false
set_option maxRecDepth 100000
namespace Go.Proofs.YtcijddeommognaaDoor.Abs
open Go.Shelf Go.Sort
noncomputable def g5_taliklaw06_StoreEnough_C : CalT := tabC [g15_taliklaw06_short_E, g20_taliklaw06_known_E, g16_talikref06_Store_E, g17_talikref06_Plan_E, g18_taliklaw06_ice_E, g19_taliklaw06_winter_E, g24_store_Fault_E, g25_store_First_E, g21_store_Run_E]
theorem g5_taliklaw06_StoreEnough_CV : CV Tryd.prog g5_taliklaw06_StoreEnough_C := tabC_valid (l := [g15_taliklaw06_short_E, g20_taliklaw06_known_E, g16_talikref06_Store_E, g17_talikref06_Plan_E, g18_taliklaw06_ice_E, g19_taliklaw06_winter_E, g24_store_Fault_E, g25_store_First_E, g21_store_Run_E]) ⟨g15_taliklaw06_short_valid, g20_taliklaw06_known_valid, g16_talikref06_Store_valid, g17_talikref06_Plan_valid, g18_taliklaw06_ice_valid, g19_taliklaw06_winter_valid, g24_store_Fault_valid, g25_store_First_valid, g21_store_Run_valid, trivial⟩
noncomputable def g5_taliklaw06_StoreEnough_l0_c : Code := loopAt (bodyOf Tryd.f5) 0
noncomputable def g5_taliklaw06_StoreEnough_l0_S : SPat := ⟨[.any, .any, .any, .any, .any, .any, .any, .any, .dat .bool, .any, .any, .any, .any, .any, .fix (.bptr 2 []), .any, .dat (.int .i64), .any, .any, .dat (.int .i64), .any, .any, .any, .any, .any, .any, .any, .any, .any, .any, .any, .any, .any, .any, .any, .any, .any, .any, .any, .any, .any, .any, .any, .any, .any, .any, .any, .any, .any, .any, .any, .any, .any, .any, .any, .any, .any, .any, .any, .any, .any, .any, .any, .any, .any, .any, .any, .any, .any, .any, .any, .any, .any, .any, .any, .any, .any, .any, .any, .any, .any, .any, .any, .any, .any, .any, .any, .any, .any, .any, .any, .any, .any, .any, .any, .any, .any, .any, .any, .any, .any, .any, .any, .any, .any, .any, .any, .any, .any, .any, .any, .any, .any, .any, .any, .any, .any, .any, .any, .any, .any, .any, .any, .any, .any, .any, .any, .any, .any, .any, .any, .any, .any, .any, .any, .any, .any, .any, .any, .any, .any, .any, .any, .any, .any, .any, .any, .any, .any, .any, .any, .any, .any, .any, .any, .any, .any, .any, .any, .any, .any, .any, .any, .any, .any, .any, .any, .any, .any, .any, .any, .any, .any, .any, .any, .any, .any, .any, .any, .any, .any, .any, .any, .any, .any, .any, .any, .any, .any, .any, .any], [.dat T27, .dat T44, .dat T33, .dat T33], 0⟩
abbrev TY95 : Type := (Nat × ((Bool × (Int × (Int × Unit))) × (E27 × (E44 × (E33 × (E33 × Unit))))))
noncomputable def g5_taliklaw06_StoreEnough_l0_step (s : ((Bool × (Int × (Int × Unit))) × (E27 × (E44 × (E33 × (E33 × Unit)))))) : Option TY95 :=
  (bif (decide (s.1.2.2.1 < s.1.2.1)) then
  (bif (decide (0 ≤ s.1.2.2.1) && decide (s.1.2.2.1 < (List.length s.2.2.2.1.2.2.1 : Int))) then
    (bif (!((List.range' 0 3).all (fun e0 : Nat => ((List.getD (List.getD s.2.2.2.1.2.2.1 (Int.toNat s.1.2.2.1) (List.replicate 3 0)) e0 0) == (List.getD (0 :: (0 :: (0 :: []))) e0 0))))) then
      some (1, ((false, (s.1.2.1, (s.1.2.2.1, ()))), (s.2.1, (s.2.2.1, (s.2.2.2.1, (s.2.2.2.2.1, ()))))))
      else
      some (0, ((s.1.1, (s.1.2.1, ((IntKind.wrap .i64 (s.1.2.2.1 + 1)), ()))), (s.2.1, (s.2.2.1, (s.2.2.2.1, (s.2.2.2.2.1, ())))))))
    else
    none)
  else
  some (2, ((s.1.1, (s.1.2.1, (s.1.2.2.1, ()))), (s.2.1, (s.2.2.1, (s.2.2.2.1, (s.2.2.2.2.1, ())))))))
noncomputable def g5_taliklaw06_StoreEnough_l0_fuel (s : ((Bool × (Int × (Int × Unit))) × (E27 × (E44 × (E33 × (E33 × Unit)))))) : Nat := Int.toNat (s.1.2.1 - s.1.2.2.1) + 1
noncomputable def g5_taliklaw06_StoreEnough_l0_run (s : ((Bool × (Int × (Int × Unit))) × (E27 × (E44 × (E33 × (E33 × Unit)))))) : Option TY95 := iter g5_taliklaw06_StoreEnough_l0_step (g5_taliklaw06_StoreEnough_l0_fuel s) s
noncomputable def g5_taliklaw06_StoreEnough_l0_O : LoopT := loopT g5_taliklaw06_StoreEnough_l0_S [.ret, .exit 0] g5_taliklaw06_StoreEnough_l0_run
noncomputable def g5_taliklaw06_StoreEnough_l0_v1_S : SPat := ⟨[.any, .any, .any, .any, .any, .any, .any, .any, .dat .bool, .any, .any, .any, .any, .any, .fix (.bptr 2 []), .any, .dat (.int .i64), .any, .any, .dat (.int .i64), .any, .any, .any, .any, .any, .any, .any, .any, .any, .any, .any, .any, .any, .any, .any, .any, .any, .any, .any, .any, .any, .any, .any, .any, .any, .any, .any, .any, .any, .any, .any, .any, .any, .any, .any, .any, .any, .any, .any, .any, .any, .any, .any, .any, .any, .any, .any, .any, .any, .any, .any, .any, .any, .any, .any, .any, .any, .any, .any, .any, .any, .any, .any, .any, .any, .any, .any, .any, .any, .any, .any, .any, .any, .any, .any, .any, .any, .any, .any, .any, .any, .any, .any, .any, .any, .any, .any, .any, .any, .any, .any, .any, .any, .any, .any, .any, .any, .any, .any, .any, .any, .any, .any, .any, .any, .any, .any, .any, .any, .any, .any, .any, .any, .any, .any, .any, .any, .any, .any, .any, .any, .any, .any, .any, .any, .any, .any, .any, .any, .any, .any, .any, .any, .any, .any, .any, .any, .any, .any, .any, .any, .any, .any, .any, .any, .any, .any, .any, .any, .any, .any, .any, .any, .any, .any, .any, .any, .any, .any, .any, .any, .any, .any, .any, .any, .any, .any, .any, .any, .any, .any], [.dat T27, .dat T44, .dat T33], 0⟩
abbrev TY96 : Type := (Nat × ((Bool × (Int × (Int × Unit))) × (E27 × (E44 × (E33 × Unit)))))
noncomputable def g5_taliklaw06_StoreEnough_l0_v1_step (s : ((Bool × (Int × (Int × Unit))) × (E27 × (E44 × (E33 × Unit))))) : Option TY96 :=
  (bif (decide (s.1.2.2.1 < s.1.2.1)) then
  (bif (decide (0 ≤ s.1.2.2.1) && decide (s.1.2.2.1 < (List.length s.2.2.2.1.2.2.1 : Int))) then
    (bif (!((List.range' 0 3).all (fun e0 : Nat => ((List.getD (List.getD s.2.2.2.1.2.2.1 (Int.toNat s.1.2.2.1) (List.replicate 3 0)) e0 0) == (List.getD (0 :: (0 :: (0 :: []))) e0 0))))) then
      some (1, ((false, (s.1.2.1, (s.1.2.2.1, ()))), (s.2.1, (s.2.2.1, (s.2.2.2.1, ())))))
      else
      some (0, ((s.1.1, (s.1.2.1, ((IntKind.wrap .i64 (s.1.2.2.1 + 1)), ()))), (s.2.1, (s.2.2.1, (s.2.2.2.1, ()))))))
    else
    none)
  else
  some (2, ((s.1.1, (s.1.2.1, (s.1.2.2.1, ()))), (s.2.1, (s.2.2.1, (s.2.2.2.1, ()))))))
noncomputable def g5_taliklaw06_StoreEnough_l0_v1_fuel (s : ((Bool × (Int × (Int × Unit))) × (E27 × (E44 × (E33 × Unit))))) : Nat := Int.toNat (s.1.2.1 - s.1.2.2.1) + 1
noncomputable def g5_taliklaw06_StoreEnough_l0_v1_run (s : ((Bool × (Int × (Int × Unit))) × (E27 × (E44 × (E33 × Unit))))) : Option TY96 := iter g5_taliklaw06_StoreEnough_l0_v1_step (g5_taliklaw06_StoreEnough_l0_v1_fuel s) s
noncomputable def g5_taliklaw06_StoreEnough_l0_v1_O : LoopT := loopT g5_taliklaw06_StoreEnough_l0_v1_S [.ret, .exit 0] g5_taliklaw06_StoreEnough_l0_v1_run
noncomputable def g5_taliklaw06_StoreEnough_l0_L : LoopT := orT g5_taliklaw06_StoreEnough_l0_S.fit g5_taliklaw06_StoreEnough_l0_O (g5_taliklaw06_StoreEnough_l0_v1_O)
noncomputable def g5_taliklaw06_StoreEnough (a0 : E27) (a1 : Int) (a2 : Int) (a3 : Int) : Option Bool :=
  (Option.bind (g15_taliklaw06_short a0) fun r1 =>
  (bif (!r1) then
    (Option.bind g20_taliklaw06_known fun r2 =>
      some r2)
    else
    (Option.bind (g16_talikref06_Store a0) fun r3 =>
      (bif (!r3) then
        (Option.bind g20_taliklaw06_known fun r4 =>
          some r4)
        else
        (Option.bind (g17_talikref06_Plan a0 a1) fun r5 =>
          (bif (!r5) then
            (Option.bind g20_taliklaw06_known fun r6 =>
              some r6)
            else
            (Option.bind (g18_taliklaw06_ice a0 a2) fun r7 =>
              (bif (!r7) then
                (Option.bind g20_taliklaw06_known fun r8 =>
                  some r8)
                else
                (Option.bind (g19_taliklaw06_winter a0 a3) fun r9 =>
                  (bif (!r9) then
                    (Option.bind g20_taliklaw06_known fun r10 =>
                      some r10)
                    else
                    (Option.bind (g24_store_Fault a0 a1) fun r11 =>
                      (Option.bind (g25_store_First a0 a1) fun r12 =>
                        (Option.bind (g21_store_Run a0 a1 a2 a3) fun r13 =>
                          (bif (r11.2.1 != 0) then
                            some false
                            else
                            (bif (r13.2.1 != 0) then
                              some false
                              else
                              (bif ((List.length r13.1.2.2.1 : Int) != a0.2.2.2.1) then
                                some false
                                else
                                (bif r11.1.1 then
                                  (bif (r12.2.2.1 != 0) then
                                    some false
                                    else
                                    (bif (decide (r12.1 < 0)) then
                                      some false
                                      else
                                      (bif (decide (r12.1 ≥ a0.2.2.2.1)) then
                                        some false
                                        else
                                        (bif (decide (r12.2.1 < 0)) then
                                          some false
                                          else
                                          (bif (decide (r12.2.1 > 2)) then
                                            some false
                                            else
                                            (Option.bind (g18_taliklaw06_ice a0 r11.1.2.1) fun r14 =>
                                              (bif (!r14) then
                                                some false
                                                else
                                                (Option.bind (g19_taliklaw06_winter a0 r11.1.2.2.1) fun r15 =>
                                                  (bif (!r15) then
                                                    some false
                                                    else
                                                    (bif (decide (r11.1.2.2.2.1 < r12.1)) then
                                                      some false
                                                      else
                                                      (bif (decide (r11.1.2.2.2.1 ≥ a0.2.2.2.1)) then
                                                        some false
                                                        else
                                                        (bif (decide (r11.1.2.2.2.2.1 < 0)) then
                                                          some false
                                                          else
                                                          (bif (decide (r11.1.2.2.2.2.1 > 2)) then
                                                            some false
                                                            else
                                                            (Option.bind (g21_store_Run a0 a1 r11.1.2.1 r11.1.2.2.1) fun r16 =>
                                                              (bif (r16.2.1 != 0) then
                                                                some false
                                                                else
                                                                (bif ((List.length r16.1.2.2.1 : Int) != a0.2.2.2.1) then
                                                                  some false
                                                                  else
                                                                  (bif (decide (0 ≤ r11.1.2.2.2.1) && decide (r11.1.2.2.2.1 < (List.length r16.1.2.2.1 : Int))) then
                                                                    (bif (decide (0 ≤ r11.1.2.2.2.2.1) && decide (r11.1.2.2.2.2.1 < (3 : Int))) then
                                                                      (bif (decide ((List.getD (List.getD r16.1.2.2.1 (Int.toNat r11.1.2.2.2.1) (List.replicate 3 0)) (Int.toNat r11.1.2.2.2.2.1) 0) ≤ 0)) then
                                                                        some false
                                                                        else
                                                                        (Option.bind (g5_taliklaw06_StoreEnough_l0_run ((false, (r12.1, (0, ()))), (a0, (r11.1, (r13.1, (r16.1, ())))))) fun q17 =>
                                                                          (natK q17.1
                                                                            (some q17.2.1.1)
                                                                            (fun _ => (Option.bind g20_taliklaw06_known fun r18 =>
                                                                              some r18)))))
                                                                      else
                                                                      none)
                                                                    else
                                                                    none)))))))))))))))))
                                  else
                                  (bif (r12.2.2.1 != 5) then
                                    some false
                                    else
                                    (Option.bind (g5_taliklaw06_StoreEnough_l0_v1_run ((false, (a0.2.2.2.1, (0, ()))), (a0, (r11.1, (r13.1, ()))))) fun q19 =>
                                      (natK q19.1
                                        (some q19.2.1.1)
                                        (fun _ => (Option.bind g20_taliklaw06_known fun r20 =>
                                          some r20))))))))))))))))))))))
noncomputable def g5_taliklaw06_StoreEnough_E : CEnt := pureE 5 [.dat T27, .dat (.int .i64), .dat (.int .i64), .dat (.int .i64)] (.dat .bool) fun x => g5_taliklaw06_StoreEnough x.1 x.2.1 x.2.2.1 x.2.2.2.1
theorem g5_taliklaw06_StoreEnough_l0_VO : LValid 0 Tryd.prog (.loop g5_taliklaw06_StoreEnough_l0_c) g5_taliklaw06_StoreEnough_l0_O false := by
  have hb : ∀ s, codeR Tryd.prog g5_taliklaw06_StoreEnough_C g5_taliklaw06_StoreEnough_l0_c [] (g5_taliklaw06_StoreEnough_l0_S.encE s) (g5_taliklaw06_StoreEnough_l0_S.encB s) (kst g5_taliklaw06_StoreEnough_l0_S [.ret, .exit 0]) = g5_taliklaw06_StoreEnough_l0_step s := by
    intro s; kernel_rfl
  have hL : LV 0 Tryd.prog false (loopsOf g5_taliklaw06_StoreEnough_l0_c) [] := by unfold LV; cases loopsOf g5_taliklaw06_StoreEnough_l0_c <;> trivial
  exact loopT_valid (fuel := g5_taliklaw06_StoreEnough_l0_fuel) mixed g5_taliklaw06_StoreEnough_CV hL (by kernel_rfl) (by decide) rfl hb (fun s r h => h)
theorem g5_taliklaw06_StoreEnough_l0_v1_VO : LValid 0 Tryd.prog (.loop g5_taliklaw06_StoreEnough_l0_c) g5_taliklaw06_StoreEnough_l0_v1_O false := by
  have hb : ∀ s, codeR Tryd.prog g5_taliklaw06_StoreEnough_C g5_taliklaw06_StoreEnough_l0_c [] (g5_taliklaw06_StoreEnough_l0_v1_S.encE s) (g5_taliklaw06_StoreEnough_l0_v1_S.encB s) (kst g5_taliklaw06_StoreEnough_l0_v1_S [.ret, .exit 0]) = g5_taliklaw06_StoreEnough_l0_v1_step s := by
    intro s; kernel_rfl
  have hL : LV 0 Tryd.prog false (loopsOf g5_taliklaw06_StoreEnough_l0_c) [] := by unfold LV; cases loopsOf g5_taliklaw06_StoreEnough_l0_c <;> trivial
  exact loopT_valid (fuel := g5_taliklaw06_StoreEnough_l0_v1_fuel) mixed g5_taliklaw06_StoreEnough_CV hL (by kernel_rfl) (by decide) rfl hb (fun s r h => h)
theorem g5_taliklaw06_StoreEnough_l0_V : LValid 0 Tryd.prog (.loop g5_taliklaw06_StoreEnough_l0_c) g5_taliklaw06_StoreEnough_l0_L false := orT_valid g5_taliklaw06_StoreEnough_l0_VO (g5_taliklaw06_StoreEnough_l0_v1_VO)
theorem g5_taliklaw06_StoreEnough_LV : LV 0 Tryd.prog false (loopsOf (bodyOf Tryd.f5)) [g5_taliklaw06_StoreEnough_l0_L] := by
  have hl : loopsOf (bodyOf Tryd.f5) = [.loop g5_taliklaw06_StoreEnough_l0_c] := by kernel_rfl
  rw [hl]; exact ⟨g5_taliklaw06_StoreEnough_l0_V, trivial⟩
theorem g5_taliklaw06_StoreEnough_ent : Ent Tryd.prog 5 := ⟨by decide, enters_of Tryd.func5 (by kernel_rfl) rfl⟩
theorem g5_taliklaw06_StoreEnough_hev : ∀ x, fnR Tryd.prog g5_taliklaw06_StoreEnough_C [g5_taliklaw06_StoreEnough_l0_L] Tryd.f5 (bodyOf Tryd.f5) (encs [.dat T27, .dat (.int .i64), .dat (.int .i64), .dat (.int .i64)] x) ⟨[], [], 0⟩ (frzF (.dat .bool)) = g5_taliklaw06_StoreEnough x.1 x.2.1 x.2.2.1 x.2.2.2.1 := by
  intro x; kernel_rfl
theorem g5_taliklaw06_StoreEnough_lcall : ∀ x r, (fun x : Els [.dat T27, .dat (.int .i64), .dat (.int .i64), .dat (.int .i64)] => g5_taliklaw06_StoreEnough x.1 x.2.1 x.2.2.1 x.2.2.2.1) x = some r → LCall 0 Tryd.prog 5 (encs [.dat T27, .dat (.int .i64), .dat (.int .i64), .dat (.int .i64)] x) ⟨[], [], 0⟩ (.d .bool r) ⟨[], [], 0⟩ := frz_lcall (R := .dat .bool) mixed Tryd.func5 rfl g5_taliklaw06_StoreEnough_ent g5_taliklaw06_StoreEnough_CV g5_taliklaw06_StoreEnough_LV (by kernel_rfl) (by kernel_rfl) g5_taliklaw06_StoreEnough_hev

end Go.Proofs.YtcijddeommognaaDoor.Abs

/-
  Plain laws of the store layer: faults, and the first thing to run out.
-/
set_option linter.unusedVariables false
set_option linter.unusedSimpArgs false
set_option maxRecDepth 100000
namespace Go.Proofs.YtcijddeommognaaDoor.Abs

/-- The first place below `n` at which something is so. -/
def fnd (b : Nat → Bool) (n : Nat) : Option Nat := (List.range n).find? b
theorem fnd_none {b : Nat → Bool} {n : Nat} : fnd b n = none ↔ ∀ l, l < n → b l = false := by
  unfold fnd
  rw [List.find?_eq_none]
  constructor
  · intro h l hl; have := h l (List.mem_range.2 hl); simpa using this
  · intro h l hl; simp [h l (List.mem_range.1 hl)]
theorem fnd_is {b : Nat → Bool} {n j : Nat} (h1 : j < n) (h2 : b j = true) (h3 : ∀ l, l < j → b l = false) : fnd b n = some j := by
  unfold fnd
  rw [List.find?_range_eq_some]
  exact ⟨h2, List.mem_range.2 h1, fun l hl => by simp [h3 l hl]⟩
theorem fnd_some {b : Nat → Bool} {n j : Nat} (h : fnd b n = some j) : j < n ∧ b j = true ∧ ∀ l, l < j → b l = false := by
  cases hq : fnd b n with
  | none => rw [hq] at h; cases h
  | some i =>
    unfold fnd at h
    rw [List.find?_range_eq_some] at h
    exact ⟨List.mem_range.1 h.2.1, h.1, fun l hl => by have := h.2.2 l hl; simpa using this⟩
theorem fnd_ge {b : Nat → Bool} {n j : Nat} (h1 : j < n) (h2 : b j = true) : ∃ i, i ≤ j ∧ fnd b n = some i := by
  cases h : fnd b n with
  | none => rw [fnd_none.1 h j h1] at h2; cases h2
  | some i =>
    refine ⟨i, ?_, rfl⟩
    apply Classical.byContradiction
    intro hn
    rw [(fnd_some h).2.2 j (by omega)] at h2; cases h2
def orX {α β : Type} (o : Option Nat) (X : Nat → α) (Y : α) (k1 k2 : Nat) : Option (Nat × α) := match o with
  | some j => some (k1, X j)
  | none => some (k2, Y)
theorem iter_fnd {α : Type} {step : α → Option (Nat × α)} {n k1 k2 fuel : Nat} {bad : Nat → Bool} (F X : Nat → α) (Y : α) (hgo : ∀ i, i < n → step (F i) = some (bif bad i then (k1 + 1, X i) else (0, F (i + 1)))) (hend : step (F n) = some (k2 + 1, Y)) (hf : n < fuel) :
    iter step fuel (F 0) = orX (α := α) (β := α) (fnd bad n) X Y k1 k2 := by
  rcases iter_fn F X Y hgo hend hf with ⟨j, h1, h2, h3, h4⟩ | ⟨h1, h2⟩
  · rw [fnd_is h1 h2 h3, h4]; rfl
  · rw [fnd_none.2 h1, h2]; rfl

/-- The first kind that is lacking. -/
def kO (g : List Int) : Option Nat := fnd (fun k => decide (g.getD k 0 > 0)) 3
/-- The first week in which something is. -/
def wO (l : List (List Int)) : Option Nat := fnd (fun w => (kO (l.getD w z3)).isSome) l.length
/-- What is lacking of a store. -/
def lkM (s : E27) (p i n : Nat) : List (List Int) := (traceM s p i n).2.2.1
def nO (s : E27) (p i : Nat) : Option Nat := fnd (fun n => (wO (lkM s p i n)).isSome) s.2.2.2.2.2.2.2.1.length
def iO (s : E27) (p : Nat) : Option Nat := fnd (fun i => (nO s p i).isSome) s.2.2.2.2.2.2.1.length
def noF : E44 := (false, (0, (0, (0, (0, ())))))
def fW (l : List (List Int)) (i n w : Nat) : E44 := (true, ((i : Int), ((n : Int), ((w : Int), (((kO (l.getD w z3)).getD 0 : Nat) : Int), ()))))
def fN (s : E27) (p i n : Nat) : E44 := fW (lkM s p i n) i n ((wO (lkM s p i n)).getD 0)
def fI (s : E27) (p i : Nat) : E44 := fN s p i ((nO s p i).getD 0)
/-- The fault of a plan. -/
def faultM (s : E27) (p : Nat) : E44 := match iO s p with
  | some i => fI s p i
  | none => noF

theorem fault_l3 (p i n w x1 x2 x3 x4 : Int) (L : List (List Int)) (m j : Int) (s : E27) (e : E44) (g : List Int) :
    g55_store_fault_l3_run ((p, (i, (n, (w, (x1, (x2, (x3, (x4, (L, (m, (j, (0, ())))))))))))), (s, (e, (g, ())))) =
      orX (β := E44) (kO g) (fun k => ((p, (i, (n, (w, (x1, (x2, (x3, (x4, (L, (m, (j, ((k : Int), ())))))))))))), (s, ((true, (i, (n, (w, ((k : Int), ()))))), (g, ())))))
        ((p, (i, (n, (w, (x1, (x2, (x3, (x4, (L, (m, (j, (3, ())))))))))))), (s, (e, (g, ())))) 0 1 := by
  exact iter_fnd (step := g55_store_fault_l3_step) (n := 3) (bad := fun k => decide (g.getD k 0 > 0))
    (fun k => ((p, (i, (n, (w, (x1, (x2, (x3, (x4, (L, (m, (j, ((k : Int), ())))))))))))), (s, (e, (g, ()))))) _ _
    (fun k hk => by
      have h3 := lt_int hk
      simp only [g55_store_fault_l3_step, show ((3 : Nat) : Int) = 3 from rfl, three_lt' hk, ge0, Bool.and_true, cond_true, getD_toNat, wr1 (i := k) (by omega)]
      cases decide (g.getD k 0 > 0) <;> rfl)
    rfl (by simp [g55_store_fault_l3_fuel])
theorem fault_l2 (p i n x1 x2 x3 x4 : Int) (L : List (List Int)) (hL : L.length < 2 ^ 40) (s : E27) (e : E44) :
    g55_store_fault_l2_run ((p, (i, (n, (x1, (x2, (x3, (x4, (L, ((L.length : Int), (0, ())))))))))), (s, (e, ()))) =
      orX (β := E44) (wO L) (fun w => ((p, (i, (n, (x1, (x2, (x3, (x4, (L, ((L.length : Int), ((w : Int), ())))))))))), (s, ((true, (i, (n, ((w : Int), ((((kO (L.getD w z3)).getD 0 : Nat) : Int), ()))))), ()))))
        ((p, (i, (n, (x1, (x2, (x3, (x4, (L, ((L.length : Int), ((L.length : Int), ())))))))))), (s, (e, ()))) 0 1 := by
  exact iter_fnd (step := g55_store_fault_l2_step) (n := L.length) (bad := fun w => (kO (L.getD w z3)).isSome)
    (fun w => ((p, (i, (n, (x1, (x2, (x3, (x4, (L, ((L.length : Int), ((w : Int), ())))))))))), (s, (e, ())))) _ _
    (fun w hw => by
      simp only [g55_store_fault_l2_step, lt_int hw, ge0, Bool.and_true, cond_true, getD_toNat]
      rw [fault_l3, show List.replicate 3 (0 : Int) = z3 from rfl]
      cases h : kO (L.getD w z3) with
      | some k => rfl
      | none => simp only [orX, Option.bind_some, natK, wr1 (i := w) (by omega)]; rfl)
    (by simp only [g55_store_fault_l2_step, nlt_int, cond_false]) (by simp [g55_store_fault_l2_fuel])
theorem fault_l1 {s : E27} (hs : OkS s) (wf : WfS s) {p : Nat} (hp : p < 2 ^ shN s) {i : Nat} (hi : i < s.2.2.2.2.2.2.1.length) (x1 x2 : Int) (e : E44) :
    g55_store_fault_l1_run (((p : Int), ((i : Int), (x1, (x2, ((s.2.2.2.2.2.2.2.1.length : Int), (0, ())))))), (s, (e, ()))) =
      orX (β := E44) (nO s p i) (fun n => (((p : Int), ((i : Int), (x1, (x2, ((s.2.2.2.2.2.2.2.1.length : Int), ((n : Int), ())))))), (s, (fN s p i n, ()))))
        (((p : Int), ((i : Int), (x1, (x2, ((s.2.2.2.2.2.2.2.1.length : Int), ((s.2.2.2.2.2.2.2.1.length : Int), ())))))), (s, (e, ()))) 0 1 := by
  have hnw := hs.nwin.2
  exact iter_fnd (step := g55_store_fault_l1_step) (n := s.2.2.2.2.2.2.2.1.length) (bad := fun n => (wO (lkM s p i n)).isSome)
    (fun n => (((p : Int), ((i : Int), (x1, (x2, ((s.2.2.2.2.2.2.2.1.length : Int), ((n : Int), ())))))), (s, (e, ())))) _ _
    (fun n hn => by
      have hl := (trace_lens hs wf (i := i) hp hn).2.2
      have hw := (win_len hs wf hn).2
      simp only [g55_store_fault_l1_step, lt_int hn, cond_true, trace54 hs wf hp hi hn, Option.bind_some]
      rw [fault_l2 _ _ _ _ _ _ _ _ (by rw [hl]; omega)]
      rw [show (traceM s p i n).2.2.1 = lkM s p i n from rfl]
      cases h : wO (lkM s p i n) with
      | some w =>
        simp only [orX, Option.bind_some, natK, Option.isSome_some, cond_true, fN, fW, h, Option.getD_some]
      | none => simp only [orX, Option.bind_some, natK, wr1 (i := n) (by omega)]; rfl)
    (by simp only [g55_store_fault_l1_step, nlt_int, cond_false]) (by simp [g55_store_fault_l1_fuel])
theorem fault_l0 {s : E27} (hs : OkS s) (wf : WfS s) {p : Nat} (hp : p < 2 ^ shN s) (e : E44) :
    g55_store_fault_l0_run (((p : Int), ((s.2.2.2.2.2.2.1.length : Int), (0, ()))), (s, (e, ()))) =
      orX (β := E44) (iO s p) (fun i => (((p : Int), ((s.2.2.2.2.2.2.1.length : Int), ((i : Int), ()))), (s, (fI s p i, ()))))
        (((p : Int), ((s.2.2.2.2.2.2.1.length : Int), ((s.2.2.2.2.2.2.1.length : Int), ()))), (s, (e, ()))) 0 1 := by
  have hni := hs.nices.2
  exact iter_fnd (step := g55_store_fault_l0_step) (n := s.2.2.2.2.2.2.1.length) (bad := fun i => (nO s p i).isSome)
    (fun i => (((p : Int), ((s.2.2.2.2.2.2.1.length : Int), ((i : Int), ()))), (s, (e, ())))) _ _
    (fun i hi => by
      simp only [g55_store_fault_l0_step, lt_int hi, cond_true]
      rw [fault_l1 hs wf hp hi]
      cases h : nO s p i with
      | some n => simp only [orX, Option.bind_some, natK, Option.isSome_some, cond_true, fI, h, Option.getD_some]
      | none => simp only [orX, Option.bind_some, natK, wr1 (i := i) (by omega)]; rfl)
    (by simp only [g55_store_fault_l0_step, nlt_int, cond_false]) (by simp [g55_store_fault_l0_fuel])
theorem fault55 {s : E27} (hs : OkS s) (wf : WfS s) {p : Nat} (hp : p < 2 ^ shN s) : g55_store_fault s (p : Int) = some (faultM s p) := by
  unfold g55_store_fault faultM
  rw [fault_l0 hs wf hp]
  cases iO s p <;> rfl
theorem fault24_ok {s : E27} (h : ShortS s) (hs : OkS s) (wf : WfS s) {p : Nat} (hp : p < 2 ^ shN s) : g24_store_Fault s (p : Int) = some (faultM s p, (0, ())) := by
  unfold g24_store_Fault
  rw [(valid51 s h).val hs]
  simp only [Option.bind_some, Bool.not_true, cond_false]
  rw [(planned52 s h.n10 _).val (nat_okp hp)]
  simp only [Option.bind_some, Bool.not_true, cond_false, fault55 hs wf hp]
theorem fault24_bad {s : E27} (h : ShortS s) {p : Int} (hb : ¬ (OkS s ∧ OkP s p)) : g24_store_Fault s p = some (noF, (2, ())) := by
  unfold g24_store_Fault
  by_cases hs : OkS s
  · rw [(valid51 s h).val hs]
    simp only [Option.bind_some, Bool.not_true, cond_false]
    rw [(planned52 s h.n10 _).nval (fun hp => hb ⟨hs, hp⟩)]; rfl
  · rw [(valid51 s h).nval hs]; rfl

/-! ### The reference's faults -/
theorem lack_l1 (l : List (List Int)) (a b : Int) (c : Bool) (w : Nat) (hw : w < l.length) :
    g56_talikref06_Lack_l1_run ((l, (a, (b, (c, ((w : Int), (0, ())))))), ()) =
      orX (β := E44) (kO (l.getD w z3)) (fun k => ((l, ((w : Int), ((k : Int), (true, ((w : Int), ((k : Int), ())))))), ())) ((l, (a, (b, (c, ((w : Int), (3, ())))))), ()) 0 1 := by
  exact iter_fnd (step := g56_talikref06_Lack_l1_step) (n := 3) (bad := fun k => decide ((l.getD w z3).getD k 0 > 0))
    (fun k => ((l, (a, (b, (c, ((w : Int), ((k : Int), ())))))), ())) _ _
    (fun k hk => by
      have h3 := lt_int hk
      simp only [g56_talikref06_Lack_l1_step, show ((3 : Nat) : Int) = 3 from rfl, three_lt' hk, lt_int hw, ge0, Bool.and_true, cond_true, getD_toNat, wr1 (i := k) (by omega)]
      rw [show List.replicate 3 (0 : Int) = z3 from rfl]
      cases decide ((l.getD w z3).getD k 0 > 0) <;> rfl)
    rfl (by simp [g56_talikref06_Lack_l1_fuel])
/-- The first week and kind of which something is lacking. -/
def lackA (l : List (List Int)) : Int × (Int × (Bool × Unit)) := match wO l with
  | some w => ((w : Int), ((((kO (l.getD w z3)).getD 0 : Nat) : Int), (true, ())))
  | none => (0, (0, (false, ())))
theorem lack56 (l : List (List Int)) (hl : l.length < 2 ^ 40) : g56_talikref06_Lack l = some (lackA l) := by
  have K := iter_fnd (step := g56_talikref06_Lack_l0_step) (n := l.length) (bad := fun w => (kO (l.getD w z3)).isSome) (k1 := 0) (k2 := 1) (fuel := g56_talikref06_Lack_l0_fuel ((l, (0, (0, (false, (0, ()))))), ()))
    (fun w => ((l, (0, (0, (false, ((w : Int), ()))))), ())) (fun w => ((l, ((w : Int), ((((kO (l.getD w z3)).getD 0 : Nat) : Int), (true, ((w : Int), ()))))), ())) ((l, (0, (0, (false, ((l.length : Int), ()))))), ())
    (fun w hw => by
      simp only [g56_talikref06_Lack_l0_step, lt_int hw, cond_true]
      rw [lack_l1 _ _ _ _ _ hw]
      cases h : kO (l.getD w z3) with
      | some k => rfl
      | none => simp only [orX, Option.bind_some, natK, wr1 (i := w) (by omega)]; rfl)
    (by simp only [g56_talikref06_Lack_l0_step, nlt_int, cond_false]) (by simp [g56_talikref06_Lack_l0_fuel])
  have K : g56_talikref06_Lack_l0_run ((l, (0, (0, (false, (0, ()))))), ()) = _ := K
  unfold g56_talikref06_Lack lackA
  rw [K]
  unfold wO
  cases fnd (fun w => (kO (l.getD w z3)).isSome) l.length <;> rfl
end Go.Proofs.YtcijddeommognaaDoor.Abs

/-
  Plain laws of the store layer: the reference's faults; the first thing to run out, of both.
-/
set_option linter.unusedVariables false
set_option linter.unusedSimpArgs false
set_option maxRecDepth 100000
namespace Go.Proofs.YtcijddeommognaaDoor.Abs

theorem rfault_l1 {s : E27} (hs : OkS s) (wf : WfS s) {p : Nat} (hp : p < 2 ^ shN s) {i : Nat} (hi : i < s.2.2.2.2.2.2.1.length) (e : E44) :
    g26_talikref06_Fault_l1_run (((p : Int), ((i : Int), (0, ()))), (s, (e, ()))) =
      orX (β := E44) (nO s p i) (fun n => (((p : Int), ((i : Int), ((n : Int), ()))), (s, (fN s p i n, ()))))
        (((p : Int), ((i : Int), ((s.2.2.2.2.2.2.2.1.length : Int), ()))), (s, (e, ()))) 0 1 := by
  have hnw := hs.nwin.2
  exact iter_fnd (step := g26_talikref06_Fault_l1_step) (n := s.2.2.2.2.2.2.2.1.length) (bad := fun n => (wO (lkM s p i n)).isSome)
    (fun n => (((p : Int), ((i : Int), ((n : Int), ()))), (s, (e, ())))) _ _
    (fun n hn => by
      have hl := (trace_lens hs wf (i := i) hp hn).2.2
      have hw := (win_len hs wf hn).2
      simp only [g26_talikref06_Fault_l1_step, lt_int hn, cond_true, run38 hs wf hp hi hn, Option.bind_some]
      rw [lack56 _ (by rw [hl]; omega)]
      rw [show (traceM s p i n).2.2.1 = lkM s p i n from rfl]
      simp only [Option.bind_some, lackA]
      cases h : wO (lkM s p i n) with
      | some w =>
        simp only [Option.isSome_some, cond_true, fN, fW, h, Option.getD_some]
      | none => simp only [cond_false, Option.isSome_none, wr1 (i := n) (by omega)])
    (by simp only [g26_talikref06_Fault_l1_step, nlt_int, cond_false]) (by simp [g26_talikref06_Fault_l1_fuel])
theorem rfault26 {s : E27} (hs : OkS s) (wf : WfS s) {p : Nat} (hp : p < 2 ^ shN s) : g26_talikref06_Fault s (p : Int) = some (faultM s p) := by
  have hni := hs.nices.2
  have K := iter_fnd (step := g26_talikref06_Fault_l0_step) (n := s.2.2.2.2.2.2.1.length) (bad := fun i => (nO s p i).isSome) (k1 := 0) (k2 := 1) (fuel := g26_talikref06_Fault_l0_fuel (((p : Int), (0, ())), (s, (noF, ()))))
    (fun i => (((p : Int), ((i : Int), ())), (s, (noF, ())))) (fun i => (((p : Int), ((i : Int), ())), (s, (fI s p i, ())))) (((p : Int), ((s.2.2.2.2.2.2.1.length : Int), ())), (s, (noF, ())))
    (fun i hi => by
      simp only [g26_talikref06_Fault_l0_step, lt_int hi, cond_true]
      rw [rfault_l1 hs wf hp hi]
      cases h : nO s p i with
      | some n => simp only [orX, Option.bind_some, natK, Option.isSome_some, cond_true, fI, h, Option.getD_some]
      | none => simp only [orX, Option.bind_some, natK, wr1 (i := i) (by omega)]; rfl)
    (by simp only [g26_talikref06_Fault_l0_step, nlt_int, cond_false]) (by simp [g26_talikref06_Fault_l0_fuel])
  have K : g26_talikref06_Fault_l0_run (((p : Int), (0, ())), (s, ((false, (0, (0, (0, (0, ()))))), ()))) = _ := K
  unfold g26_talikref06_Fault faultM
  rw [K]
  unfold iO
  cases fnd (fun i => (nO s p i).isSome) s.2.2.2.2.2.2.1.length <;> rfl

/-! ### What is lacking is never less than nothing -/
theorem mx_nonneg (a : Int) : 0 ≤ mx a := by unfold mx; split <;> omega
theorem run_la (s : E27) (il : List Bool) (wl : List (List Int)) (p : Nat) : ∀ w, ∀ g ∈ (runM s il wl p w).2.2.2, ∃ y n, g = lackM y n
  | 0, g, h => by simp [runM] at h
  | w + 1, g, h => by
    simp only [runM, weekM, List.mem_append, List.mem_singleton] at h
    rcases h with h | h
    · exact run_la s il wl p w g h
    · exact ⟨_, _, h⟩
theorem lack_nonneg (y n : List Int) (k : Nat) : 0 ≤ (lackM y n).getD k 0 := by
  match k with
  | 0 => exact mx_nonneg _
  | 1 => exact mx_nonneg _
  | 2 => exact mx_nonneg _
  | k + 3 => simp [lackM]
theorem lk_nonneg (s : E27) (p i n w k : Nat) : 0 ≤ ((lkM s p i n).getD w z3).getD k 0 := by
  by_cases h : w < (lkM s p i n).length
  · obtain ⟨y, m, e⟩ := run_la s (ice s i) (win s n) p _ _ (getD_mem (d := z3) h)
    have e : (lkM s p i n).getD w z3 = lackM y m := e
    rw [e]; exact lack_nonneg y m k
  · have e : (lkM s p i n).getD w z3 = z3 := by rw [List.getD_eq_getElem?_getD, List.getElem?_eq_none (by omega)]; rfl
    rw [e]
    match k with
    | 0 => decide
    | 1 => decide
    | 2 => decide
    | k + 3 => simp [z3]

/-! ### The first thing to run out -/
abbrev Acc := Int × Int × Bool
def upd (a : Acc) (w k : Int) : Acc := bif !a.2.2 || decide (w < a.1) || (w == a.1 && decide (k < a.2.1)) then (w, k, true) else a
def updL (a : Acc) (l : List (List Int)) : Acc := match wO l with
  | some w => upd a (w : Int) (((kO (l.getD w z3)).getD 0 : Nat) : Int)
  | none => a
def firstN (s : E27) (p i : Nat) (a : Acc) : Nat → Acc
  | 0 => a
  | n + 1 => updL (firstN s p i a n) (lkM s p i n)
def firstI (s : E27) (p : Nat) : Nat → Acc
  | 0 => (0, 0, false)
  | i + 1 => firstN s p i (firstI s p i) s.2.2.2.2.2.2.2.1.length
theorem rfirst_l1 {s : E27} (hs : OkS s) (wf : WfS s) {p : Nat} (hp : p < 2 ^ shN s) {i : Nat} (hi : i < s.2.2.2.2.2.2.1.length) (a : Acc) :
    g27_talikref06_First_l1_run (((p : Int), (a.1, (a.2.1, (a.2.2, ((i : Int), (0, ())))))), (s, ())) =
      some (0, (((p : Int), ((firstN s p i a s.2.2.2.2.2.2.2.1.length).1, ((firstN s p i a s.2.2.2.2.2.2.2.1.length).2.1, ((firstN s p i a s.2.2.2.2.2.2.2.1.length).2.2, ((i : Int), ((s.2.2.2.2.2.2.2.1.length : Int), ())))))), (s, ()))) := by
  have hnw := hs.nwin.2
  exact iter_run (step := g27_talikref06_First_l1_step) (n := s.2.2.2.2.2.2.2.1.length) (k := 0)
    (fun n => (((p : Int), ((firstN s p i a n).1, ((firstN s p i a n).2.1, ((firstN s p i a n).2.2, ((i : Int), ((n : Int), ())))))), (s, ()))) _
    (fun n hn => by
      have hl := (trace_lens hs wf (i := i) hp hn).2.2
      have hw := (win_len hs wf hn).2
      simp only [g27_talikref06_First_l1_step, lt_int hn, cond_true, run38 hs wf hp hi hn, Option.bind_some]
      rw [lack56 _ (by rw [hl]; omega)]
      rw [show (traceM s p i n).2.2.1 = lkM s p i n from rfl]
      simp only [Option.bind_some, lackA, firstN, updL]
      generalize firstN s p i a n = b
      obtain ⟨b1, b2, b3⟩ := b
      cases h : wO (lkM s p i n) with
      | some w =>
        simp only [upd, cond_true, wr1 (i := n) (by omega)]
        cases b3 with
        | false => rfl
        | true =>
          cases decide ((w : Int) < b1) with
          | true => rfl
          | false =>
            cases ((w : Int) == b1) with
            | false => rfl
            | true => cases decide ((((kO ((lkM s p i n).getD w z3)).getD 0 : Nat) : Int) < b2) <;> rfl
      | none => simp only [cond_false, wr1 (i := n) (by omega)])
    (by simp only [g27_talikref06_First_l1_step, nlt_int, cond_false]) (by simp [g27_talikref06_First_l1_fuel])
theorem rfirst27 {s : E27} (hs : OkS s) (wf : WfS s) {p : Nat} (hp : p < 2 ^ shN s) : g27_talikref06_First s (p : Int) = some ((firstI s p s.2.2.2.2.2.2.1.length).1, ((firstI s p s.2.2.2.2.2.2.1.length).2.1, ((firstI s p s.2.2.2.2.2.2.1.length).2.2, ()))) := by
  have hni := hs.nices.2
  have K := iter_run (step := g27_talikref06_First_l0_step) (n := s.2.2.2.2.2.2.1.length) (k := 0) (fuel := g27_talikref06_First_l0_fuel (((p : Int), (0, (0, (false, (0, ()))))), (s, ())))
    (fun i => (((p : Int), ((firstI s p i).1, ((firstI s p i).2.1, ((firstI s p i).2.2, ((i : Int), ()))))), (s, ())))
    (((p : Int), ((firstI s p s.2.2.2.2.2.2.1.length).1, ((firstI s p s.2.2.2.2.2.2.1.length).2.1, ((firstI s p s.2.2.2.2.2.2.1.length).2.2, ((s.2.2.2.2.2.2.1.length : Int), ()))))), (s, ()))
    (fun i hi => by
      simp only [g27_talikref06_First_l0_step, lt_int hi, cond_true]
      rw [rfirst_l1 hs wf hp hi (firstI s p i)]
      simp only [Option.bind_some, wr1 (i := i) (by omega)]
      rfl)
    (by simp only [g27_talikref06_First_l0_step, nlt_int, cond_false]) (by simp [g27_talikref06_First_l0_fuel])
  have K : g27_talikref06_First_l0_run (((p : Int), (0, (0, (false, (0, ()))))), (s, ())) = _ := K
  unfold g27_talikref06_First
  rw [K]; rfl

/-! ### The program's -/
theorem first_l3 (p : Int) (a : Acc) (i w x1 x2 x3 x4 : Int) (L : List (List Int)) (m j : Int) (s : E27) (g : List Int) (hg : ∀ k, 0 ≤ g.getD k 0) :
    g25_store_First_l3_run ((p, (a.1, (a.2.1, (a.2.2, (i, (w, (x1, (x2, (x3, (x4, (L, (m, (j, (0, ())))))))))))))), (s, (g, ()))) =
      orX (β := E44) (kO g) (fun k => ((p, ((upd a w (k : Int)).1, ((upd a w (k : Int)).2.1, ((upd a w (k : Int)).2.2, (i, (w, (x1, (x2, (x3, (x4, (L, (m, (j, ((k : Int), ())))))))))))))), (s, (g, ()))))
        ((p, (a.1, (a.2.1, (a.2.2, (i, (w, (x1, (x2, (x3, (x4, (L, (m, (j, (3, ())))))))))))))), (s, (g, ()))) 0 1 := by
  exact iter_fnd (step := g25_store_First_l3_step) (n := 3) (bad := fun k => decide (g.getD k 0 > 0))
    (fun k => ((p, (a.1, (a.2.1, (a.2.2, (i, (w, (x1, (x2, (x3, (x4, (L, (m, (j, ((k : Int), ())))))))))))))), (s, (g, ())))) _ _
    (fun k hk => by
      have h3 := lt_int hk
      simp only [g25_store_First_l3_step, show ((3 : Nat) : Int) = 3 from rfl, three_lt' hk, ge0, Bool.and_true, cond_true, getD_toNat, wr1 (i := k) (by omega)]
      have := hg k
      by_cases h0 : g.getD k 0 = 0
      · rw [h0]; rfl
      · rw [show (g.getD k 0 == 0) = false by simpa using h0, decide_eq_true (show g.getD k 0 > 0 by omega)]
        obtain ⟨a1, a2, a3⟩ := a
        simp only [cond_false, cond_true, upd]
        cases a3 with
        | false => rfl
        | true =>
          cases decide (w < a1) with
          | true => rfl
          | false =>
            cases (w == a1) with
            | false => rfl
            | true => cases decide ((k : Int) < a2) <;> rfl)
    rfl (by simp [g25_store_First_l3_fuel])
theorem first_l2 (p : Int) (a : Acc) (i x1 x2 x3 x4 : Int) (L : List (List Int)) (hL : L.length < 2 ^ 40) (hg : ∀ w k, 0 ≤ (L.getD w z3).getD k 0) (s : E27) :
    ∃ e j, g25_store_First_l2_run ((p, (a.1, (a.2.1, (a.2.2, (i, (x1, (x2, (x3, (x4, (L, ((L.length : Int), (0, ())))))))))))), (s, ())) =
      some (e, ((p, ((updL a L).1, ((updL a L).2.1, ((updL a L).2.2, (i, (x1, (x2, (x3, (x4, (L, ((L.length : Int), (j, ())))))))))))), (s, ()))) := by
  have K := iter_fnd (step := g25_store_First_l2_step) (n := L.length) (bad := fun w => (kO (L.getD w z3)).isSome) (k1 := 0) (k2 := 0) (fuel := g25_store_First_l2_fuel ((p, (a.1, (a.2.1, (a.2.2, (i, (x1, (x2, (x3, (x4, (L, ((L.length : Int), (0, ())))))))))))), (s, ())))
    (fun w => ((p, (a.1, (a.2.1, (a.2.2, (i, (x1, (x2, (x3, (x4, (L, ((L.length : Int), ((w : Int), ())))))))))))), (s, ())))
    (fun w => ((p, ((upd a (w : Int) (((kO (L.getD w z3)).getD 0 : Nat) : Int)).1, ((upd a (w : Int) (((kO (L.getD w z3)).getD 0 : Nat) : Int)).2.1, ((upd a (w : Int) (((kO (L.getD w z3)).getD 0 : Nat) : Int)).2.2, (i, (x1, (x2, (x3, (x4, (L, ((L.length : Int), ((w : Int), ())))))))))))), (s, ())))
    ((p, (a.1, (a.2.1, (a.2.2, (i, (x1, (x2, (x3, (x4, (L, ((L.length : Int), ((L.length : Int), ())))))))))))), (s, ()))
    (fun w hw => by
      simp only [g25_store_First_l2_step, lt_int hw, ge0, Bool.and_true, cond_true, getD_toNat]
      rw [show List.replicate 3 (0 : Int) = z3 from rfl, first_l3 p a i (w : Int) x1 x2 x3 x4 L (L.length : Int) (w : Int) s _ (hg w)]
      cases h : kO (L.getD w z3) with
      | some k => rfl
      | none => simp only [orX, Option.bind_some, natK, wr1 (i := w) (by omega)]; rfl)
    (by simp only [g25_store_First_l2_step, nlt_int, cond_false]) (by simp [g25_store_First_l2_fuel])
  have K : g25_store_First_l2_run ((p, (a.1, (a.2.1, (a.2.2, (i, (x1, (x2, (x3, (x4, (L, ((L.length : Int), (0, ())))))))))))), (s, ())) = _ := K
  rw [K]
  unfold updL wO
  cases fnd (fun w => (kO (L.getD w z3)).isSome) L.length with
  | some w => exact ⟨_, _, rfl⟩
  | none => exact ⟨_, _, rfl⟩
theorem first_l1 {s : E27} (hs : OkS s) (wf : WfS s) {p : Nat} (hp : p < 2 ^ shN s) {i : Nat} (hi : i < s.2.2.2.2.2.2.1.length) (x1 x2 : Int) (a : Acc) :
    g25_store_First_l1_run (((p : Int), (a.1, (a.2.1, (a.2.2, ((i : Int), (x1, (x2, ((s.2.2.2.2.2.2.2.1.length : Int), (0, ()))))))))), (s, ())) =
      some (0, (((p : Int), ((firstN s p i a s.2.2.2.2.2.2.2.1.length).1, ((firstN s p i a s.2.2.2.2.2.2.2.1.length).2.1, ((firstN s p i a s.2.2.2.2.2.2.2.1.length).2.2, ((i : Int), (x1, (x2, ((s.2.2.2.2.2.2.2.1.length : Int), ((s.2.2.2.2.2.2.2.1.length : Int), ()))))))))), (s, ()))) := by
  have hnw := hs.nwin.2
  exact iter_run (step := g25_store_First_l1_step) (n := s.2.2.2.2.2.2.2.1.length) (k := 0)
    (fun n => (((p : Int), ((firstN s p i a n).1, ((firstN s p i a n).2.1, ((firstN s p i a n).2.2, ((i : Int), (x1, (x2, ((s.2.2.2.2.2.2.2.1.length : Int), ((n : Int), ()))))))))), (s, ()))) _
    (fun n hn => by
      have hl := (trace_lens hs wf (i := i) hp hn).2.2
      have hw := (win_len hs wf hn).2
      simp only [g25_store_First_l1_step, lt_int hn, cond_true, trace54 hs wf hp hi hn, Option.bind_some]
      obtain ⟨e, j, h1⟩ := first_l2 (p : Int) (firstN s p i a n) (i : Int) x1 x2 (s.2.2.2.2.2.2.2.1.length : Int) (n : Int) (lkM s p i n) (by rw [show (lkM s p i n).length = _ from hl]; omega) (lk_nonneg s p i n) s
      rw [show (traceM s p i n).2.2.1 = lkM s p i n from rfl, h1]
      simp only [Option.bind_some, wr1 (i := n) (by omega)]
      rfl)
    (by simp only [g25_store_First_l1_step, nlt_int, cond_false]) (by simp [g25_store_First_l1_fuel])
theorem first25_ok {s : E27} (h : ShortS s) (hs : OkS s) (wf : WfS s) {p : Nat} (hp : p < 2 ^ shN s) : g25_store_First s (p : Int) = some (bif (firstI s p s.2.2.2.2.2.2.1.length).2.2 then ((firstI s p s.2.2.2.2.2.2.1.length).1, ((firstI s p s.2.2.2.2.2.2.1.length).2.1, (0, ()))) else (0, (0, (5, ())))) := by
  have hni := hs.nices.2
  have K := iter_run (step := g25_store_First_l0_step) (n := s.2.2.2.2.2.2.1.length) (k := 0) (fuel := g25_store_First_l0_fuel (((p : Int), (0, (0, (false, ((s.2.2.2.2.2.2.1.length : Int), (0, ())))))), (s, ())))
    (fun i => (((p : Int), ((firstI s p i).1, ((firstI s p i).2.1, ((firstI s p i).2.2, ((s.2.2.2.2.2.2.1.length : Int), ((i : Int), ())))))), (s, ())))
    (((p : Int), ((firstI s p s.2.2.2.2.2.2.1.length).1, ((firstI s p s.2.2.2.2.2.2.1.length).2.1, ((firstI s p s.2.2.2.2.2.2.1.length).2.2, ((s.2.2.2.2.2.2.1.length : Int), ((s.2.2.2.2.2.2.1.length : Int), ())))))), (s, ()))
    (fun i hi => by
      simp only [g25_store_First_l0_step, lt_int hi, cond_true]
      rw [first_l1 hs wf hp hi _ _ (firstI s p i)]
      simp only [Option.bind_some, wr1 (i := i) (by omega)]
      rfl)
    (by simp only [g25_store_First_l0_step, nlt_int, cond_false]) (by simp [g25_store_First_l0_fuel])
  have K : g25_store_First_l0_run (((p : Int), (0, (0, (false, ((s.2.2.2.2.2.2.1.length : Int), (0, ())))))), (s, ())) = _ := K
  unfold g25_store_First
  rw [(valid51 s h).val hs]
  simp only [Option.bind_some, Bool.not_true, cond_false]
  rw [(planned52 s h.n10 _).val (nat_okp hp)]
  simp only [Option.bind_some, Bool.not_true, cond_false]
  rw [K]
  simp only [Option.bind_some]
  cases (firstI s p s.2.2.2.2.2.2.1.length).2.2 <;> rfl
theorem first25_bad {s : E27} (h : ShortS s) {p : Int} (hb : ¬ (OkS s ∧ OkP s p)) : g25_store_First s p = some (0, (0, (2, ()))) := by
  unfold g25_store_First
  by_cases hs : OkS s
  · rw [(valid51 s h).val hs]
    simp only [Option.bind_some, Bool.not_true, cond_false]
    rw [(planned52 s h.n10 _).nval (fun hp => hb ⟨hs, hp⟩)]; rfl
  · rw [(valid51 s h).nval hs]; rfl
end Go.Proofs.YtcijddeommognaaDoor.Abs

/-
  StoreEnough: the plain law.
-/
set_option linter.unusedVariables false
set_option linter.unusedSimpArgs false
set_option maxRecDepth 100000
namespace Go.Proofs.YtcijddeommognaaDoor.Abs
theorem kO_none {g : List Int} (h : kO g = none) (hg : ∀ k, 0 ≤ g.getD k 0) : ((List.range' 0 3).all fun e => g.getD e 0 == [(0 : Int), 0, 0].getD e 0) = true := by
  have key : ∀ k, k < 3 → g.getD k 0 = 0 := fun k hk => by
    have h1 := of_decide_eq_false (fnd_none.1 h k hk)
    have := hg k
    omega
  have e : List.range' 0 3 = [0, 1, 2] := rfl
  rw [e]
  simp only [List.all_cons, List.all_nil, key 0 (by omega), key 1 (by omega), key 2 (by omega)]
  rfl
theorem kO_is {g : List Int} {k : Nat} (h : kO g = some k) : k < 3 ∧ g.getD k 0 > 0 := by
  obtain ⟨h1, h2, _⟩ := fnd_some h
  exact ⟨h1, of_decide_eq_true h2⟩
theorem wO_is {l : List (List Int)} {w : Nat} (h : wO l = some w) : w < l.length ∧ (∃ k, kO (l.getD w z3) = some k) ∧ ∀ v, v < w → kO (l.getD v z3) = none := by
  obtain ⟨h1, h2, h3⟩ := fnd_some h
  exact ⟨h1, Option.isSome_iff_exists.1 h2, fun v hv => by simpa using h3 v hv⟩
theorem wO_none {l : List (List Int)} (h : wO l = none) : ∀ v, v < l.length → kO (l.getD v z3) = none := fun v hv => by simpa using fnd_none.1 h v hv
theorem fault_none {s : E27} {p : Nat} (h : iO s p = none) : ∀ i n, i < s.2.2.2.2.2.2.1.length → n < s.2.2.2.2.2.2.2.1.length → wO (lkM s p i n) = none := fun i n hi hn => by
  have h1 : nO s p i = none := by simpa using fnd_none.1 h i hi
  simpa using fnd_none.1 h1 n hn
theorem fault_some {s : E27} {p i : Nat} (h : iO s p = some i) : ∃ n w k, i < s.2.2.2.2.2.2.1.length ∧ n < s.2.2.2.2.2.2.2.1.length ∧ wO (lkM s p i n) = some w ∧ kO ((lkM s p i n).getD w z3) = some k ∧ faultM s p = (true, ((i : Int), ((n : Int), ((w : Int), ((k : Int), ()))))) := by
  obtain ⟨h1, h2, _⟩ := fnd_some h
  obtain ⟨n, hn⟩ := Option.isSome_iff_exists.1 h2
  obtain ⟨h3, h4, _⟩ := fnd_some hn
  obtain ⟨w, hw⟩ := Option.isSome_iff_exists.1 h4
  obtain ⟨_, ⟨k, hk⟩, _⟩ := wO_is hw
  refine ⟨n, w, k, h1, h3, hw, hk, ?_⟩
  unfold faultM
  rw [h]
  simp only [fI, hn, Option.getD_some, fN, hw, fW, hk]
structure OkA (s : E27) (p : Nat) (Q : Nat → Nat → Prop) (a : Acc) : Prop where
  no : a.2.2 = false → ∀ i n, Q i n → wO (lkM s p i n) = none
  yes : a.2.2 = true → ∃ i n w k : Nat, i < s.2.2.2.2.2.2.1.length ∧ n < s.2.2.2.2.2.2.2.1.length ∧ wO (lkM s p i n) = some w ∧ kO ((lkM s p i n).getD w z3) = some k ∧ a.1 = (w : Int) ∧ a.2.1 = (k : Int)
  low : a.2.2 = true → ∀ i n w, Q i n → wO (lkM s p i n) = some w → a.1 ≤ (w : Int)
theorem okA_step {s : E27} {p : Nat} {Q Q' : Nat → Nat → Prop} {a : Acc} (h : OkA s p Q a) {i n : Nat} (hi : i < s.2.2.2.2.2.2.1.length) (hn : n < s.2.2.2.2.2.2.2.1.length) (hQ : ∀ j m, Q' j m → Q j m ∨ (j = i ∧ m = n)) : OkA s p Q' (updL a (lkM s p i n)) := by
  unfold updL
  cases hw : wO (lkM s p i n) with
  | none =>
    refine ⟨fun hf j m hq => ?_, h.yes, fun hf j m v hq hv => ?_⟩
    · rcases hQ j m hq with hq | ⟨rfl, rfl⟩
      · exact h.no hf j m hq
      · exact hw
    · rcases hQ j m hq with hq | ⟨rfl, rfl⟩
      · exact h.low hf j m v hq hv
      · rw [hw] at hv; cases hv
  | some w =>
    obtain ⟨_, ⟨k, hk⟩, _⟩ := wO_is hw
    simp only [hk, Option.getD_some, upd]
    cases hb : (!a.2.2 || decide ((w : Int) < a.1) || ((w : Int) == a.1 && decide ((k : Int) < a.2.1))) with
    | true =>
      refine ⟨fun hf => (by cases hf), fun _ => ⟨i, n, w, k, hi, hn, hw, hk, rfl, rfl⟩, fun _ j m v hq hv => ?_⟩
      simp only [cond_true]
      rcases hQ j m hq with hq | ⟨rfl, rfl⟩
      · cases hf : a.2.2 with
        | false => rw [h.no hf j m hq] at hv; cases hv
        | true =>
          have := h.low hf j m v hq hv
          rw [hf] at hb
          simp only [Bool.not_true, Bool.false_or, Bool.or_eq_true, decide_eq_true_eq, Bool.and_eq_true, beq_iff_eq] at hb
          rcases hb with hb | ⟨hb, _⟩ <;> omega
      · rw [hw] at hv; cases hv; exact Int.le_refl _
    | false =>
      simp only [Bool.or_eq_false_iff, Bool.not_eq_false', decide_eq_false_iff_not] at hb
      refine ⟨fun hf => ?_, fun hf => h.yes hf, fun hf j m v hq hv => ?_⟩
      · simp only [cond_false] at hf; rw [hb.1.1] at hf; cases hf
      · simp only [cond_false]
        rcases hQ j m hq with hq | ⟨rfl, rfl⟩
        · exact h.low hb.1.1 j m v hq hv
        · rw [hw] at hv; cases hv
          have := hb.1.2
          omega
theorem okA_N {s : E27} {p i : Nat} (hi : i < s.2.2.2.2.2.2.1.length) {a : Acc} (h : OkA s p (fun j m => j < i ∧ m < s.2.2.2.2.2.2.2.1.length) a) : ∀ n, n ≤ s.2.2.2.2.2.2.2.1.length → OkA s p (fun j m => (j < i ∧ m < s.2.2.2.2.2.2.2.1.length) ∨ (j = i ∧ m < n)) (firstN s p i a n)
  | 0, _ => ⟨fun hf j m hq => h.no hf j m (by rcases hq with hq | hq; exact hq; omega), h.yes, fun hf j m v hq hv => h.low hf j m v (by rcases hq with hq | hq; exact hq; omega) hv⟩
  | n + 1, hn => okA_step (okA_N hi h n (by omega)) hi (by omega) fun j m hq => by
      rcases hq with hq | ⟨h1, h2⟩
      · exact .inl (.inl hq)
      · by_cases e : m = n
        · exact .inr ⟨h1, e⟩
        · exact .inl (.inr ⟨h1, by omega⟩)
theorem okA_I {s : E27} {p : Nat} : ∀ i, i ≤ s.2.2.2.2.2.2.1.length → OkA s p (fun j m => j < i ∧ m < s.2.2.2.2.2.2.2.1.length) (firstI s p i)
  | 0, _ => ⟨fun _ j m hq => (by omega), fun hf => (by cases hf), fun hf => (by cases hf)⟩
  | i + 1, hi => by
    have h := okA_N (show i < _ from hi) (okA_I (p := p) i (by omega)) s.2.2.2.2.2.2.2.1.length (Nat.le_refl _)
    have hq : ∀ j m, j < i + 1 ∧ m < s.2.2.2.2.2.2.2.1.length → (j < i ∧ m < s.2.2.2.2.2.2.2.1.length) ∨ (j = i ∧ m < s.2.2.2.2.2.2.2.1.length) := fun j m ⟨h1, h2⟩ => by
      by_cases e : j = i
      · exact .inr ⟨e, h2⟩
      · exact .inl ⟨by omega, h2⟩
    exact ⟨fun hf j m h' => h.no hf j m (hq j m h'), h.yes, fun hf j m v h' hv => h.low hf j m v (hq j m h') hv⟩
theorem enough_l0 {s : E27} {p i n first : Nat} (hlen : first ≤ (lkM s p i n).length) (h40 : first < 2 ^ 40) (hz : ∀ t, t < first → kO ((lkM s p i n).getD t z3) = none) (b : Bool) (e : E44) (y : E33) :
    ∃ q, g5_taliklaw06_StoreEnough_l0_run ((b, ((first : Int), (0, ()))), (s, (e, (traceM s p i n, (y, ()))))) = some (1, q) := by
  refine ⟨_, iter_run (step := g5_taliklaw06_StoreEnough_l0_step) (n := first) (k := 1) (fun t => ((b, ((first : Int), ((t : Int), ()))), (s, (e, (traceM s p i n, (y, ())))))) ((b, ((first : Int), ((first : Int), ()))), (s, (e, (traceM s p i n, (y, ()))))) (fun t ht => ?_) (by simp only [g5_taliklaw06_StoreEnough_l0_step, nlt_int, cond_false]) (by simp [g5_taliklaw06_StoreEnough_l0_fuel])⟩
  have h1 : decide ((t : Int) < ((traceM s p i n).2.2.1.length : Int)) = true := lt_int (show t < (lkM s p i n).length by omega)
  simp only [g5_taliklaw06_StoreEnough_l0_step, lt_int ht, h1, ge0, Bool.and_true, cond_true, getD_toNat]
  have h2 := kO_none (hz t ht) (lk_nonneg s p i n t)
  have h2 : ((List.range' 0 3).all fun e => ((traceM s p i n).2.2.1.getD t (List.replicate 3 0)).getD e 0 == [(0 : Int), 0, 0].getD e 0) = true := h2
  rw [h2]
  simp only [Bool.not_true, cond_false, wr1 (i := t) (by omega)]
theorem enough_l0v {s : E27} {p i n first : Nat} (hlen : first ≤ (lkM s p i n).length) (h40 : first < 2 ^ 40) (hz : ∀ t, t < first → kO ((lkM s p i n).getD t z3) = none) (b : Bool) (e : E44) :
    ∃ q, g5_taliklaw06_StoreEnough_l0_v1_run ((b, ((first : Int), (0, ()))), (s, (e, (traceM s p i n, ())))) = some (1, q) := by
  refine ⟨_, iter_run (step := g5_taliklaw06_StoreEnough_l0_v1_step) (n := first) (k := 1) (fun t => ((b, ((first : Int), ((t : Int), ()))), (s, (e, (traceM s p i n, ()))))) ((b, ((first : Int), ((first : Int), ()))), (s, (e, (traceM s p i n, ())))) (fun t ht => ?_) (by simp only [g5_taliklaw06_StoreEnough_l0_v1_step, nlt_int, cond_false]) (by simp [g5_taliklaw06_StoreEnough_l0_v1_fuel])⟩
  have h1 : decide ((t : Int) < ((traceM s p i n).2.2.1.length : Int)) = true := lt_int (show t < (lkM s p i n).length by omega)
  simp only [g5_taliklaw06_StoreEnough_l0_v1_step, lt_int ht, h1, ge0, Bool.and_true, cond_true, getD_toNat]
  have h2 := kO_none (hz t ht) (lk_nonneg s p i n t)
  have h2 : ((List.range' 0 3).all fun e => ((traceM s p i n).2.2.1.getD t (List.replicate 3 0)).getD e 0 == [(0 : Int), 0, 0].getD e 0) = true := h2
  rw [h2]
  simp only [Bool.not_true, cond_false, wr1 (i := t) (by omega)]
theorem g5_taliklaw06_StoreEnough_true : ∀ x : Els [.dat T27, .dat (.int .i64), .dat (.int .i64), .dat (.int .i64)], wfs [.dat T27, .dat (.int .i64), .dat (.int .i64), .dat (.int .i64)] x → g5_taliklaw06_StoreEnough x.1 x.2.1 x.2.2.1 x.2.2.2.1 = some true := by
  rintro ⟨s, p, i, n, _⟩ ⟨hwf, _⟩
  have wf := wf27 hwf
  show g5_taliklaw06_StoreEnough s p i n = some true
  unfold g5_taliklaw06_StoreEnough
  by_cases h : ShortS s
  case neg =>
    rw [(short15 s).nval h]
    simp only [Option.bind_some, Bool.not_false, cond_true, known20]
  rw [(short15 s).val h]
  simp only [Option.bind_some, Bool.not_true, cond_false]
  by_cases hs : OkS s
  case neg =>
    rw [(store16 s h).nval hs]
    simp only [Option.bind_some, Bool.not_false, cond_true, known20]
  rw [(store16 s h).val hs]
  simp only [Option.bind_some, Bool.not_true, cond_false]
  by_cases h1 : OkP s p
  case neg =>
    rw [(plan17 s h.n10 _).nval h1]
    simp only [Option.bind_some, Bool.not_false, cond_true, known20]
  rw [(plan17 s h.n10 _).val h1]
  simp only [Option.bind_some, Bool.not_true, cond_false]
  by_cases h2 : In i 0 ((s.2.2.2.2.2.2.1.length : Int) - 1)
  case neg =>
    rw [(ice18 _ _).nval h2]
    simp only [Option.bind_some, Bool.not_false, cond_true, known20]
  rw [(ice18 _ _).val h2]
  simp only [Option.bind_some, Bool.not_true, cond_false]
  by_cases h3 : In n 0 ((s.2.2.2.2.2.2.2.1.length : Int) - 1)
  case neg =>
    rw [(winter19 _ _).nval h3]
    simp only [Option.bind_some, Bool.not_false, cond_true, known20]
  rw [(winter19 _ _).val h3]
  obtain ⟨p, rfl, hp⟩ := okp_nat h1
  obtain ⟨i, rfl, hi⟩ := in_lt h2
  obtain ⟨n, rfl, hn⟩ := in_lt h3
  have hl : (lkM s p i n).length = (win s n).length := (trace_lens hs wf hp hn).2.2
  have hw := win_len hs wf hn
  have hlen : (((traceM s p i n).2.2.1.length : Int) != s.2.2.2.1) = false := by
    have : (traceM s p i n).2.2.1.length = (win s n).length := hl
    rw [this, hw.1]; simp
  have A := okA_I (s := s) (p := p) s.2.2.2.2.2.2.1.length (Nat.le_refl _)
  simp only [Option.bind_some, Bool.not_true, cond_false, fault24_ok h hs wf hp, first25_ok h hs wf hp, run21_ok h hs wf hp hi hn, show ((0 : Int) != 0) = false from rfl, hlen]
  cases hI : iO s p with
  | none =>
    have hno := fault_none hI
    have hff : (firstI s p s.2.2.2.2.2.2.1.length).2.2 = false := by
      cases hf : (firstI s p s.2.2.2.2.2.2.1.length).2.2 with
      | false => rfl
      | true =>
        obtain ⟨i', n', w', k', a1, a2, a3, _⟩ := A.yes hf
        rw [hno i' n' a1 a2] at a3; cases a3
    have hfm : faultM s p = noF := by unfold faultM; rw [hI]
    rw [hff, hfm]
    obtain ⟨q, hq⟩ := enough_l0v (s := s) (p := p) (i := i) (n := n) (first := (win s n).length) (by omega) (by omega) (fun t ht => wO_none (hno i n hi hn) t (by omega)) false noF
    rw [hw.1] at hq
    simp only [noF, cond_false, show ((5 : Int) != 5) = false from rfl] at hq ⊢
    rw [hq]
    simp only [Option.bind_some, natK, known20]
  | some i' =>
    obtain ⟨n', w', k', b1, b2, b3, b4, b5⟩ := fault_some hI
    have hff : (firstI s p s.2.2.2.2.2.2.1.length).2.2 = true := by
      cases hf : (firstI s p s.2.2.2.2.2.2.1.length).2.2 with
      | true => rfl
      | false => rw [A.no hf i' n' ⟨b1, b2⟩] at b3; cases b3
    obtain ⟨i2, n2, w, k, c1, c2, c3, c4, c5, c6⟩ := A.yes hff
    have hlow := A.low hff i' n' w' ⟨b1, b2⟩ b3
    rw [c5] at hlow
    have hlow2 : ∀ t, t < w → kO ((lkM s p i n).getD t z3) = none := fun t ht => by
      cases hv : wO (lkM s p i n) with
      | none =>
        by_cases ht2 : t < (lkM s p i n).length
        · exact wO_none hv t ht2
        · have e : (lkM s p i n).getD t z3 = z3 := by rw [List.getD_eq_getElem?_getD, List.getElem?_eq_none (by omega)]; rfl
          rw [e]; rfl
      | some v =>
        have := A.low hff i n v ⟨hi, hn⟩ hv
        rw [c5] at this
        exact (wO_is hv).2.2 t (by omega)
    have hl2 : (lkM s p i2 n2).length = (win s n2).length := (trace_lens hs wf hp c2).2.2
    have hw2 := win_len hs wf c2
    have hl' : (lkM s p i' n').length = (win s n').length := (trace_lens hs wf hp b2).2.2
    have hw' := win_len hs wf b2
    have d1 := (wO_is c3).1
    have d2 := (kO_is c4).1
    have d3 := (wO_is b3).1
    have d4 := (kO_is b4).1
    have d5 := (kO_is b4).2
    have hlen' : (((traceM s p i' n').2.2.1.length : Int) != s.2.2.2.1) = false := by
      have : (traceM s p i' n').2.2.1.length = (win s n').length := hl'
      rw [this, hw'.1]; simp
    rw [hff, b5]
    simp only [cond_true, show ((0 : Int) != 0) = false from rfl, cond_false, c5, c6]
    rw [decide_eq_false (show ¬ (w : Int) < 0 by omega), decide_eq_false (show ¬ (w : Int) ≥ s.2.2.2.1 by have := hw2.1; omega), decide_eq_false (show ¬ (k : Int) < 0 by omega), decide_eq_false (show ¬ (k : Int) > 2 by omega)]
    simp only [cond_false, (ice18 s _).val (lt_in b1), (winter19 s _).val (lt_in b2), Option.bind_some, Bool.not_true]
    rw [decide_eq_false (show ¬ (w' : Int) < (w : Int) by omega), decide_eq_false (show ¬ (w' : Int) ≥ s.2.2.2.1 by have := hw'.1; omega), decide_eq_false (show ¬ (k' : Int) < 0 by omega), decide_eq_false (show ¬ (k' : Int) > 2 by omega)]
    have e1 : decide ((w' : Int) < ((traceM s p i' n').2.2.1.length : Int)) = true := lt_int (show w' < (lkM s p i' n').length from d3)
    have e2 : decide ((((traceM s p i' n').2.2.1.getD w' (List.replicate 3 0)).getD k' 0) ≤ 0) = false := decide_eq_false (by
      have : ((traceM s p i' n').2.2.1.getD w' (List.replicate 3 0)).getD k' 0 > 0 := d5
      omega)
    simp only [cond_false, run21_ok h hs wf hp b1 b2, Option.bind_some, show ((0 : Int) != 0) = false from rfl, hlen', e1, ge0, Bool.and_true, cond_true, getD_toNat, three_lt' d4, e2]
    obtain ⟨q, hq⟩ := enough_l0 (s := s) (p := p) (i := i) (n := n) (first := w) (by omega) (by omega) hlow2 false (true, ((i' : Int), ((n' : Int), ((w' : Int), ((k' : Int), ()))))) (traceM s p i' n')
    rw [hq]
    simp only [Option.bind_some, natK, known20]
end Go.Proofs.YtcijddeommognaaDoor.Abs

/-
  talik/taliklaw06.StoreEnough: for every input the law returns true; its arguments read as they did. No condition.
-/
set_option linter.unusedVariables false
set_option maxRecDepth 100000
namespace Go.Proofs.YtcijddeommognaaDoor.Abs.storeEnough
open Go.ChangeShapes Go.WideShapes Go.RowKit
theorem own : ownKnob Tryd.prog.godebug = none := by kernel_rfl
theorem laidOut : laidOutB Tryd.prog = true := by kernel_rfl
theorem gTab : Tryd.prog.globalNamed "internal/strconv.uint64pow10" = some 0 := by kernel_rfl
theorem gTabType : (Tryd.prog.globals[0]?).map (·.type) = some 153 := by kernel_rfl
theorem cellsT : Tryd.prog.cellsOf 153 = 20 := by kernel_rfl
theorem cellsE : Tryd.prog.cellsOf 143 = 1 := by kernel_rfl
theorem undT : Tryd.prog.underlying 153 = some (.array 20 143) := by kernel_rfl
theorem undE : Tryd.prog.underlying 143 = some (.int .u64) := by kernel_rfl
theorem table {W : World} (h : laidMetH Tryd.prog Rows.storeEnoughRow.laid W) : Lib.TabIs Tryd.prog W "internal/strconv.uint64pow10" .u64 [1, 10, 100, 1000, 10000, 100000, 1000000, 10000000, 100000000, 1000000000, 10000000000, 100000000000, 1000000000000, 10000000000000, 100000000000000, 1000000000000000, 10000000000000000, 100000000000000000, 1000000000000000000, 10000000000000000000] :=
  Lib.tabIs_of_head (rest := []) gTab gTabType undT undE cellsE cellsT (laidMet.tail (laidMet.tail (h)))
theorem tabOk {W : World} (h : laidMetH Tryd.prog Rows.storeEnoughRow.laid W) : ∀ q ∈ TABS, ∃ e fr, W.heap[q.1]? = some (.cells q.2 e fr) := by
  have ht := table h
  unfold Lib.TabIs World.var? at ht
  rw [gTab] at ht
  simp only [Option.bind_some] at ht
  intro q hq
  have hq' : q = (0, _) := List.mem_singleton.1 hq
  subst hq'
  show ∃ e fr, W.heap[0]? = _
  split at ht
  · rename_i cs e fr hc
    exact ⟨e, fr, by rw [hc]; simp only [Option.some.injEq] at ht; rw [ht]; rfl⟩
  · cases ht
noncomputable def laidWorld (os : Os) : World :=
  { World.holding Tryd.prog os ⟨#[], #[], []⟩ with heap := ((((World.holding Tryd.prog os ⟨#[], #[], []⟩).heap.modify 2 fun | .cells _ t frozen => .cells #[.int .u8 0, .int .u8 1, .int .u8 28, .int .u8 2, .int .u8 29, .int .u8 14, .int .u8 24, .int .u8 3, .int .u8 30, .int .u8 22, .int .u8 20, .int .u8 15, .int .u8 25, .int .u8 17, .int .u8 4, .int .u8 8, .int .u8 31, .int .u8 27, .int .u8 13, .int .u8 23, .int .u8 21, .int .u8 19, .int .u8 16, .int .u8 7, .int .u8 26, .int .u8 12, .int .u8 18, .int .u8 6, .int .u8 11, .int .u8 5, .int .u8 10, .int .u8 9] t frozen | o => o).modify 3 fun | .cells _ t frozen => .cells #[.int .u8 0, .int .u8 1, .int .u8 56, .int .u8 2, .int .u8 57, .int .u8 49, .int .u8 28, .int .u8 3, .int .u8 61, .int .u8 58, .int .u8 42, .int .u8 50, .int .u8 38, .int .u8 29, .int .u8 17, .int .u8 4, .int .u8 62, .int .u8 47, .int .u8 59, .int .u8 36, .int .u8 45, .int .u8 43, .int .u8 51, .int .u8 22, .int .u8 53, .int .u8 39, .int .u8 33, .int .u8 30, .int .u8 24, .int .u8 18, .int .u8 12, .int .u8 5, .int .u8 63, .int .u8 55, .int .u8 48, .int .u8 27, .int .u8 60, .int .u8 41, .int .u8 37, .int .u8 16, .int .u8 46, .int .u8 35, .int .u8 44, .int .u8 21, .int .u8 52, .int .u8 32, .int .u8 23, .int .u8 11, .int .u8 54, .int .u8 26, .int .u8 40, .int .u8 15, .int .u8 34, .int .u8 20, .int .u8 31, .int .u8 10, .int .u8 25, .int .u8 14, .int .u8 19, .int .u8 9, .int .u8 13, .int .u8 8, .int .u8 7, .int .u8 6] t frozen | o => o).modify 0 fun | .cells _ t frozen => .cells #[.int .u64 1, .int .u64 10, .int .u64 100, .int .u64 1000, .int .u64 10000, .int .u64 100000, .int .u64 1000000, .int .u64 10000000, .int .u64 100000000, .int .u64 1000000000, .int .u64 10000000000, .int .u64 100000000000, .int .u64 1000000000000, .int .u64 10000000000000, .int .u64 100000000000000, .int .u64 1000000000000000, .int .u64 10000000000000000, .int .u64 100000000000000000, .int .u64 1000000000000000000, .int .u64 10000000000000000000] t frozen | o => o) }
theorem laid_met (os : Os) : laidMet Tryd.prog Rows.storeEnoughRow.laid ((laidWorld os).forCall (fun _ _ => 0) ⟨#[], #[(Value.agg #[.int .i64 0, .int .i64 0, .int .i64 0, .int .i64 0, .int .i64 0, .int .i64 0, .int .i64 0, .int .i64 0, .int .i64 0, .slice none 0 0, .slice none 0 0, .slice none 0 0]), (Value.int .i64 0), (Value.int .i64 0), (Value.int .i64 0)], []⟩).memory :=
  laidMet_of_run' 8 (by kernel_rfl) (by kernel_rfl)
theorem reads (os : Os) {H : Type} (enc : TypeId × Value → H) : ∃ places, DataW.whole enc Tryd.prog ((laidWorld os).forCall (fun _ _ => 0) ⟨#[], #[(Value.agg #[.int .i64 0, .int .i64 0, .int .i64 0, .int .i64 0, .int .i64 0, .int .i64 0, .int .i64 0, .int .i64 0, .int .i64 0, .slice none 0 0, .slice none 0 0, .slice none 0 0]), (Value.int .i64 0), (Value.int .i64 0), (Value.int .i64 0)], []⟩).memory Tryd.f5.params.toList Rows.storeEnoughSpec.vars false #[(Value.agg #[.int .i64 0, .int .i64 0, .int .i64 0, .int .i64 0, .int .i64 0, .int .i64 0, .int .i64 0, .int .i64 0, .int .i64 0, .slice none 0 0, .slice none 0 0, .slice none 0 0]), (Value.int .i64 0), (Value.int .i64 0), (Value.int .i64 0)].toList 16 = some ([.agg [.agg [.lit (.int .i64 0), .lit (.int .i64 0), .lit (.int .i64 0)], .agg [.lit (.int .i64 0), .lit (.int .i64 0), .lit (.int .i64 0)], .lit (.int .i64 0), .lit (.int .i64 0), .lit (.int .i64 0), .nil, .nil, .nil], .lit (.int .i64 0), .lit (.int .i64 0), .lit (.int .i64 0)], [], places) :=
  ⟨[], by kernel_rfl⟩
theorem spec_fn (H : Type) : (ds : List (DataW H)) → ds.length = Tryd.f5.params.toList.length → (Rows.storeEnoughSpec.fn H ds).results = [.lit (.bool true)] ∧ (Rows.storeEnoughSpec.fn H ds).args = ds ∧ (Rows.storeEnoughSpec.fn H ds).vars = []
  | [], h => by rw [show Tryd.f5.params.toList.length = 4 from by kernel_rfl] at h; simp at h
  | [d0], h => by rw [show Tryd.f5.params.toList.length = 4 from by kernel_rfl] at h; simp at h
  | [d0, d1], h => by rw [show Tryd.f5.params.toList.length = 4 from by kernel_rfl] at h; simp at h
  | [d0, d1, d2], h => by rw [show Tryd.f5.params.toList.length = 4 from by kernel_rfl] at h; simp at h
  | [d0, d1, d2, d3], _ => ⟨rfl, rfl, rfl⟩
  | d0 :: d1 :: d2 :: d3 :: _ :: _, h => by rw [show Tryd.f5.params.toList.length = 4 from by kernel_rfl] at h; simp at h
theorem contract (H : Type) (enc : TypeId × Value → H) (W : World) (base : Nat) (args : Array Value) (ds gs : List (DataW H)) (before : List MemPlace)
    (hval : ∀ (j : Nat) t v, Tryd.f5.params[j]? = some t → args[j]? = some v → Value.okWide Tryd.prog W .any base t v)
    (hW : DataW.Whole enc Tryd.prog Tryd.f5.params.toList Rows.storeEnoughSpec.vars false W args.toList ds gs before) (hL : laidMetH Tryd.prog Rows.storeEnoughRow.laid W) :
    Calls Tryd.prog 5 args W fun e W' => ∃ v, e = .returned v ∧ Rows.storeEnoughSpec.post enc Tryd.prog Tryd.f5 false true false false W args v W' :=
  law_contract (n := 20) (fun x r h => g5_taliklaw06_StoreEnough_lcall x r h) (fun x hx => g5_taliklaw06_StoreEnough_true x hx) (by decide) (show Tryd.f5.resultTypes = #[4] by kernel_rfl) (by kernel_rfl) (by kernel_rfl) laidOut (by
    intro t ht
    have : (Tryd.f5.params.toList.all fun t => Tryd.prog.readableRec t && decide (t < Tryd.prog.types.size)) = true := by kernel_rfl
    have := List.all_eq_true.1 this t ht
    simpa using this) rfl spec_fn hval hW (tabOk hL)
theorem lifted (os : Os) (started : os.Started) (H : Type) (enc : TypeId × Value → H) (F : Stop.Interp) :
    ReturnsInHanded {} Tryd.checked os 5 .any ((OpenSpec.ofChange Rows.storeEnoughSpec).preRow enc Tryd.prog Tryd.f5 Rows.storeEnoughRow.domain false Rows.storeEnoughRow.laid) (((OpenSpec.ofChange Rows.storeEnoughSpec).at F).post enc Tryd.prog Tryd.f5 false true false false) := by
  obtain ⟨places, hx⟩ := reads os enc
  refine returnsInHanded_of_row (C := Tryd.checked) (s := OpenSpec.ofChange Rows.storeEnoughSpec) own started (by kernel_rfl) Tryd.func5
    (witness_row_at (enc := enc) (C := Tryd.checked) false (laidWorld os) #[(Value.agg #[.int .i64 0, .int .i64 0, .int .i64 0, .int .i64 0, .int .i64 0, .int .i64 0, .int .i64 0, .int .i64 0, .int .i64 0, .slice none 0 0, .slice none 0 0, .slice none 0 0]), (Value.int .i64 0), (Value.int .i64 0), (Value.int .i64 0)] rfl (by kernel_rfl) (by kernel_rfl) (by kernel_rfl)
      (OpenSpec.preRow_of_cond 16 hx (by kernel_rfl) (fun k hk => by cases hk) (by kernel_rfl) (laid_met os))) ?_
  intro W base args ds gs before hval hW _ _ _ hL _ _
  exact contract H enc W base args ds gs before hval hW hL
theorem said : Rows.StoreEnoughSaid :=
  OpenClaim.holds_of_cond 5 Tryd.f5 rfl rfl rfl rfl rfl rfl rfl ⟨rfl, rfl, rfl, rfl, rfl⟩ rfl rfl rfl rfl rfl (by kernel_rfl) Tryd.func5 (by kernel_rfl)
    (of_decide_eq_true (by kernel_rfl)) (by unfold Func.isWrapper; first | (rw [if_pos (by decide +kernel)]; kernel_rfl) | (rw [if_neg (by decide +kernel)]; exact ⟨rfl, rfl⟩))
    (fun os started H enc _ F => by rw [OpenClaim.pre_eq_preRow]; exact lifted os started H enc F)
theorem plain (f : FuncId) (fn : Func) (hf : Tryd.pinned.checked.prog.funcNamed "talik/taliklaw06.StoreEnough" = some f) (hfn : Tryd.pinned.checked.prog.funcs[f]? = some fn) :
    true = Tryd.pinned.checked.prog.looks [] ∧ ∀ (j : Nat) t, fn.params[j]? = some t → Tryd.pinned.checked.prog.wantsStandIn t = false := by
  obtain rfl : f = 5 := Option.some.inj ((show Tryd.prog.funcNamed "talik/taliklaw06.StoreEnough" = some 5 by kernel_rfl).symm.trans hf) |>.symm
  obtain rfl : fn = Tryd.f5 := (Option.some.inj (Tryd.func5.symm.trans hfn)).symm
  refine ⟨by kernel_rfl, fun j t ht => ?_⟩
  have h : (Tryd.f5.params.toList.all fun t => !Tryd.prog.wantsStandIn t) = true := by kernel_rfl
  have := List.all_eq_true.1 h t (by rw [← Array.getElem?_toList] at ht; exact List.mem_of_getElem? ht)
  exact (show Tryd.prog.wantsStandIn t = false by simpa using this)
theorem card : Rows.StoreEnoughCardSaid :=
  Claim7.holds_tied_plain_at .later [] _ _ _ _ said (fun _ h => by cases h) (by kernel_rfl) (fun _ h => by cases h) storeEnough_row_tie rfl ⟨rfl, rfl⟩ (by kernel_rfl) rfl plain (by kernel_rfl)
end Go.Proofs.YtcijddeommognaaDoor.Abs.storeEnough
namespace Go.Proofs.YtcijddeommognaaDoor
theorem storeEnough_card : Rows.StoreEnoughCardSaid := Abs.storeEnough.card
end Go.Proofs.YtcijddeommognaaDoor
