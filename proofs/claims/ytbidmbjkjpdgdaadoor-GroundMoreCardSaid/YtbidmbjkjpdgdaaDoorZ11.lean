import Derived.Test.YtbidmbjkjpdgdaaDoorF2
import Derived.Test.YtbidmbjkjpdgdaaDoorQ1
import Derived.Test.YtbidmbjkjpdgdaaDoorCards
import Derived.Test.YtbidmbjkjpdgdaaDoorTie
import Derived.Test.YtbidmbjkjpdgdaaDoorA3
import Derived.WalkKit
import Derived.ProofKit
import Derived.OpenShut
import Derived.Deep.DeepHandedRow
import Derived.Lib.LaidTab
import Derived.Stop.LaidErr
/-
  A law of the ground layer as a typed function. Printed by a program of mine (gen.py).
-/
set_option linter.unusedVariables false
set_option maxRecDepth 100000
namespace Go.Proofs.YtbidmbjkjpdgdaaDoor.Abs
open Go.Shelf Go.Sort
noncomputable def g35_taliklaw01_narrow_C : CalT := tabC [g33_taliklaw01_span_E]
theorem g35_taliklaw01_narrow_CV : CV Tryd.prog g35_taliklaw01_narrow_C := tabC_valid ⟨g33_taliklaw01_span_valid, trivial⟩
noncomputable def g35_taliklaw01_narrow (a0 : E23) (a1 : Int) (a2 : Int) : Option E23 :=
  (Option.bind (g33_taliklaw01_span (IntKind.wrap .i64 (a0.1 + (IntKind.wrap .i64 (Int.tdiv (IntKind.wrap .i64 ((IntKind.wrap .i64 (a0.2.1 - a0.1)) * a1)) 100)))) (IntKind.wrap .i64 (a0.1 + (IntKind.wrap .i64 (Int.tdiv (IntKind.wrap .i64 ((IntKind.wrap .i64 (a0.2.1 - a0.1)) * a2)) 100))))) fun r1 =>
  some r1)
noncomputable def g35_taliklaw01_narrow_E : CEnt := pureE 35 [.dat T23, .dat (.int .i64), .dat (.int .i64)] (.dat T23) fun x => g35_taliklaw01_narrow x.1 x.2.1 x.2.2.1
theorem g35_taliklaw01_narrow_LV : LV 0 Tryd.prog false (loopsOf (bodyOf Tryd.f35)) [] := by unfold LV; cases loopsOf (bodyOf Tryd.f35) <;> trivial
theorem g35_taliklaw01_narrow_ent : Ent Tryd.prog 35 := ⟨by decide, enters_of Tryd.func35 (by kernel_rfl) rfl⟩
theorem g35_taliklaw01_narrow_hev : ∀ x, fnR Tryd.prog g35_taliklaw01_narrow_C [] Tryd.f35 (bodyOf Tryd.f35) (encs [.dat T23, .dat (.int .i64), .dat (.int .i64)] x) ⟨[], [], 0⟩ (frzF (.dat T23)) = g35_taliklaw01_narrow x.1 x.2.1 x.2.2.1 := by
  intro x; kernel_rfl
theorem g35_taliklaw01_narrow_valid : g35_taliklaw01_narrow_E.Valid Tryd.prog :=
  pureE_valid (by kernel_rfl) (by kernel_rfl) g35_taliklaw01_narrow_ent (frz_lcall mixed Tryd.func35 rfl g35_taliklaw01_narrow_ent g35_taliklaw01_narrow_CV g35_taliklaw01_narrow_LV (by kernel_rfl) (by kernel_rfl) g35_taliklaw01_narrow_hev)

noncomputable def g36_taliklaw01_within_C : CalT := tabC []
theorem g36_taliklaw01_within_CV : CV Tryd.prog g36_taliklaw01_within_C := tabC_valid trivial
noncomputable def g36_taliklaw01_within (a0 : E23) (a1 : E23) : Option Bool :=
  (bif (decide (a0.1 ≥ a1.1)) then
  some (decide (a0.2.1 ≤ a1.2.1))
  else
  some false)
noncomputable def g36_taliklaw01_within_E : CEnt := pureE 36 [.dat T23, .dat T23] (.dat .bool) fun x => g36_taliklaw01_within x.1 x.2.1
theorem g36_taliklaw01_within_LV : LV 0 Tryd.prog false (loopsOf (bodyOf Tryd.f36)) [] := by unfold LV; cases loopsOf (bodyOf Tryd.f36) <;> trivial
theorem g36_taliklaw01_within_ent : Ent Tryd.prog 36 := ⟨by decide, enters_of Tryd.func36 (by kernel_rfl) rfl⟩
theorem g36_taliklaw01_within_hev : ∀ x, fnR Tryd.prog g36_taliklaw01_within_C [] Tryd.f36 (bodyOf Tryd.f36) (encs [.dat T23, .dat T23] x) ⟨[], [], 0⟩ (frzF (.dat .bool)) = g36_taliklaw01_within x.1 x.2.1 := by
  intro x; kernel_rfl
theorem g36_taliklaw01_within_valid : g36_taliklaw01_within_E.Valid Tryd.prog :=
  pureE_valid (by kernel_rfl) (by kernel_rfl) g36_taliklaw01_within_ent (frz_lcall mixed Tryd.func36 rfl g36_taliklaw01_within_ent g36_taliklaw01_within_CV g36_taliklaw01_within_LV (by kernel_rfl) (by kernel_rfl) g36_taliklaw01_within_hev)

noncomputable def g11_taliklaw01_GroundMore_C : CalT := tabC [g13_taliklaw01_short_E, g15_taliklaw01_known_E, g17_taliklaw01_wanted_E, g35_taliklaw01_narrow_E, g33_taliklaw01_span_E, g23_ground_Years_E, g36_taliklaw01_within_E]
theorem g11_taliklaw01_GroundMore_CV : CV Tryd.prog g11_taliklaw01_GroundMore_C := tabC_valid ⟨g13_taliklaw01_short_valid, g15_taliklaw01_known_valid, g17_taliklaw01_wanted_valid, g35_taliklaw01_narrow_valid, g33_taliklaw01_span_valid, g23_ground_Years_valid, g36_taliklaw01_within_valid, trivial⟩
noncomputable def g11_taliklaw01_GroundMore_l0_S : SPat := ⟨[.any, .dat (.list T72), .dat (.int .i64), .dat (.int .i64), .any, .dat (.int .i64), .dat (.int .i64), .fix (.bptr 0 []), .any, .any, .any, .any, .any, .any, .dat .bool, .fix (.bptr 1 []), .fix (.bptr 2 []), .fix (.bptr 3 []), .dat (.int .i64), .any, .any, .any, .any, .any, .any, .any, .any, .any, .any, .any, .any, .any, .any, .any, .any, .any, .any, .any, .any, .any, .any, .any, .any, .any, .any, .any, .any, .any, .any, .any, .any, .any, .any, .any, .any, .any, .any, .any, .any, .any, .any, .any, .any, .any, .any, .any, .any, .any, .any, .any, .any, .any, .any, .any, .any, .any, .any, .any, .any, .any, .any, .any, .any, .any, .any, .any, .any, .any, .any, .any, .any, .any, .any, .any, .any, .any, .any, .any, .any, .any, .any, .any, .any, .any, .any, .any, .any, .any, .any, .any, .any, .any, .any, .any, .any, .any, .any, .any, .any, .any, .any, .any, .any, .any, .any, .any, .any, .any, .any, .any, .any, .any, .any, .any, .any, .any, .any, .any, .any, .any, .any, .any, .any, .any, .any, .any, .any, .any, .any, .any, .any, .any, .any, .any, .any, .any, .any, .any, .any, .any, .any, .any, .any, .any, .any, .any, .any, .any, .any, .any, .any, .any, .any, .any, .any, .any, .any, .any, .any, .any, .any, .any, .any, .any, .any, .any, .any, .any, .any, .any, .any, .any, .any, .any, .any, .any, .any, .any, .any, .any, .any, .any, .any, .any, .any, .any, .any, .any, .any, .any, .any, .any, .any, .any, .any, .any, .any, .any, .any, .any, .any, .any, .any, .any, .any, .any, .any, .any, .any, .any, .any, .any, .any, .any, .any, .any, .any, .any, .any, .any, .any, .any, .any, .any, .any, .any, .any, .any, .any, .any, .any, .any, .any, .any, .any, .any, .any, .any, .any, .any, .any, .any, .any, .any, .any, .any, .any, .any, .any, .any, .any, .any, .any, .any, .any, .any, .any, .any, .any, .any, .any, .any, .any, .any, .any, .any, .any, .any, .any, .any, .any, .any, .any, .any, .any, .any, .any, .any, .any, .any, .any, .any, .any, .any, .any, .any, .any, .any, .any, .any, .any, .any, .any, .any, .any, .any, .any, .any, .any, .any, .any, .any, .any, .any, .any, .any, .any, .any, .any, .any, .any, .any, .any, .any, .any, .any, .any, .any, .any, .any, .any, .any, .any, .any, .any, .any, .any, .any, .any, .any, .any, .any, .any, .any, .any, .any, .any, .any, .any, .any, .any, .any, .any, .any, .any, .any, .any, .any, .any, .any, .any, .any, .any, .any, .any, .any, .any, .any, .any, .any, .any, .any, .any, .any, .any, .any, .any, .any, .any, .any, .any, .any, .any, .any, .any, .any, .any, .any, .any, .any, .any, .any, .any], [.dat T25, .cons (.own 0 T70) (.cons (.dat T23) (.dat .nil)), .cons (.dat (.list T70)) (.cons (.dat T23) (.dat .nil)), .cons (.own 1 T70) (.dat (.cons T23 .nil))], 2⟩
noncomputable def g11_taliklaw01_GroundMore_l0_step (s : (((List E72) × (Int × (Int × (Int × (Int × (Bool × (Int × Unit))))))) × (E25 × (((List E70) × (E23 × Unit)) × (((List E70) × (E23 × Unit)) × (((List E70) × (E23 × Unit)) × Unit)))))) : Option (Nat × (((List E72) × (Int × (Int × (Int × (Int × (Bool × (Int × Unit))))))) × (E25 × (((List E70) × (E23 × Unit)) × (((List E70) × (E23 × Unit)) × (((List E70) × (E23 × Unit)) × Unit)))))) :=
  (bif (decide (s.1.2.2.2.2.2.2.1 < (List.length s.2.1.1 : Int))) then
  (bif (decide (0 ≤ s.1.2.2.2.2.2.2.1) && decide (s.1.2.2.2.2.2.2.1 < (List.length s.2.1.1 : Int))) then
    (Option.bind (g35_taliklaw01_narrow ((List.getD s.2.1.1 (Int.toNat s.1.2.2.2.2.2.2.1) (0, ((0, (0, ())), ()))).2.1) s.1.2.1 s.1.2.2.1) fun r16 =>
      (bif (decide (List.length s.2.2.1.1 + List.length [((List.getD s.2.1.1 (Int.toNat s.1.2.2.2.2.2.2.1) (0, ((0, (0, ())), ()))).1, (r16, ()))] ≤ LIM)) then
        (Option.bind (g33_taliklaw01_span (if (IntKind.wrap .i64 ((List.getD s.2.1.1 (Int.toNat s.1.2.2.2.2.2.2.1) (0, ((0, (0, ())), ()))).2.1.1 + s.1.2.2.2.2.1)) < 1000 then (IntKind.wrap .i64 ((List.getD s.2.1.1 (Int.toNat s.1.2.2.2.2.2.2.1) (0, ((0, (0, ())), ()))).2.1.1 + s.1.2.2.2.2.1)) else 1000) (if (IntKind.wrap .i64 ((List.getD s.2.1.1 (Int.toNat s.1.2.2.2.2.2.2.1) (0, ((0, (0, ())), ()))).2.1.2.1 + s.1.2.2.2.2.1)) < 1000 then (IntKind.wrap .i64 ((List.getD s.2.1.1 (Int.toNat s.1.2.2.2.2.2.2.1) (0, ((0, (0, ())), ()))).2.1.2.1 + s.1.2.2.2.2.1)) else 1000)) fun r17 =>
          (bif (decide (List.length s.2.2.2.2.1.1 + List.length [((List.getD s.2.1.1 (Int.toNat s.1.2.2.2.2.2.2.1) (0, ((0, (0, ())), ()))).1, (r17, ()))] ≤ LIM)) then
            some (0, ((s.1.1, (s.1.2.1, (s.1.2.2.1, (s.1.2.2.2.1, (s.1.2.2.2.2.1, (s.1.2.2.2.2.2.1, ((IntKind.wrap .i64 (s.1.2.2.2.2.2.2.1 + 1)), ()))))))), (s.2.1, (((s.2.2.1.1 ++ [((List.getD s.2.1.1 (Int.toNat s.1.2.2.2.2.2.2.1) (0, ((0, (0, ())), ()))).1, (r16, ()))]), (s.2.2.1.2.1, s.2.2.1.2.2)), ((s.2.2.2.1.1, (s.2.2.2.1.2.1, s.2.2.2.1.2.2)), (((s.2.2.2.2.1.1 ++ [((List.getD s.2.1.1 (Int.toNat s.1.2.2.2.2.2.2.1) (0, ((0, (0, ())), ()))).1, (r17, ()))]), s.2.2.2.2.1.2), ()))))))
            else
            none))
        else
        none))
    else
    none)
  else
  some (1, ((s.1.1, (s.1.2.1, (s.1.2.2.1, (s.1.2.2.2.1, (s.1.2.2.2.2.1, (s.1.2.2.2.2.2.1, (s.1.2.2.2.2.2.2.1, ()))))))), (s.2.1, ((s.2.2.1.1, (s.2.2.1.2.1, s.2.2.1.2.2)), ((s.2.2.2.1.1, (s.2.2.2.1.2.1, s.2.2.2.1.2.2)), ((s.2.2.2.2.1.1, s.2.2.2.2.1.2), ())))))))
noncomputable def g11_taliklaw01_GroundMore_l0_fuel (s : (((List E72) × (Int × (Int × (Int × (Int × (Bool × (Int × Unit))))))) × (E25 × (((List E70) × (E23 × Unit)) × (((List E70) × (E23 × Unit)) × (((List E70) × (E23 × Unit)) × Unit)))))) : Nat := Int.toNat ((List.length s.2.1.1 : Int) - s.1.2.2.2.2.2.2.1) + 1
noncomputable def g11_taliklaw01_GroundMore_l0_run (s : (((List E72) × (Int × (Int × (Int × (Int × (Bool × (Int × Unit))))))) × (E25 × (((List E70) × (E23 × Unit)) × (((List E70) × (E23 × Unit)) × (((List E70) × (E23 × Unit)) × Unit)))))) : Option (Nat × (((List E72) × (Int × (Int × (Int × (Int × (Bool × (Int × Unit))))))) × (E25 × (((List E70) × (E23 × Unit)) × (((List E70) × (E23 × Unit)) × (((List E70) × (E23 × Unit)) × Unit)))))) := iter g11_taliklaw01_GroundMore_l0_step (g11_taliklaw01_GroundMore_l0_fuel s) s
noncomputable def g11_taliklaw01_GroundMore_l0_L : LoopT := loopT g11_taliklaw01_GroundMore_l0_S [.exit 0] g11_taliklaw01_GroundMore_l0_run
noncomputable def g11_taliklaw01_GroundMore_l1_S : SPat := ⟨[.any, .dat (.list T72), .dat (.int .i64), .dat (.int .i64), .any, .dat (.int .i64), .any, .fix (.bptr 0 []), .any, .any, .any, .any, .any, .any, .dat .bool, .fix (.bptr 1 []), .fix (.bptr 2 []), .fix (.bptr 3 []), .any, .any, .own 2 T72, .own 3 T72, .dat (.int .i64), .any, .any, .any, .any, .any, .any, .any, .any, .any, .any, .any, .any, .any, .any, .any, .any, .any, .any, .any, .any, .any, .any, .any, .any, .any, .any, .any, .any, .any, .any, .any, .any, .any, .any, .any, .any, .any, .any, .any, .any, .any, .any, .any, .any, .any, .any, .any, .any, .any, .any, .any, .any, .any, .any, .any, .any, .any, .any, .any, .any, .any, .any, .any, .any, .any, .any, .any, .any, .any, .any, .any, .any, .any, .any, .any, .any, .any, .any, .any, .any, .any, .any, .any, .any, .any, .any, .any, .any, .any, .any, .any, .any, .any, .any, .any, .any, .any, .any, .any, .any, .any, .any, .any, .any, .any, .any, .any, .any, .any, .any, .any, .any, .any, .any, .any, .any, .any, .any, .any, .any, .any, .any, .any, .any, .any, .any, .any, .any, .any, .any, .any, .any, .any, .any, .any, .any, .any, .any, .any, .any, .any, .any, .any, .any, .any, .any, .any, .any, .any, .any, .any, .any, .any, .any, .any, .any, .any, .any, .any, .any, .any, .any, .any, .any, .any, .any, .any, .any, .any, .any, .any, .any, .any, .any, .any, .any, .any, .any, .any, .any, .any, .any, .any, .any, .any, .any, .any, .any, .any, .any, .any, .any, .any, .any, .any, .any, .any, .any, .any, .any, .any, .any, .any, .any, .any, .any, .any, .any, .any, .any, .any, .any, .any, .any, .any, .any, .any, .any, .any, .any, .any, .any, .any, .any, .any, .any, .any, .any, .any, .any, .any, .any, .any, .any, .any, .any, .any, .any, .any, .any, .any, .any, .any, .any, .any, .any, .any, .any, .any, .any, .any, .any, .any, .any, .any, .any, .any, .any, .any, .any, .any, .any, .any, .any, .any, .any, .any, .any, .any, .any, .any, .any, .any, .any, .any, .any, .any, .any, .any, .any, .any, .any, .any, .any, .any, .any, .any, .any, .any, .any, .any, .any, .any, .any, .any, .any, .any, .any, .any, .any, .any, .any, .any, .any, .any, .any, .any, .any, .any, .any, .any, .any, .any, .any, .any, .any, .any, .any, .any, .any, .any, .any, .any, .any, .any, .any, .any, .any, .any, .any, .any, .any, .any, .any, .any, .any, .any, .any, .any, .any, .any, .any, .any, .any, .any, .any, .any, .any, .any, .any, .any, .any, .any, .any, .any, .any, .any, .any, .any, .any, .any, .any, .any, .any, .any, .any, .any, .any, .any, .any, .any, .any, .any, .any, .any, .any, .any, .any, .any, .any], [.dat T25, .cons (.own 0 T70) (.cons (.dat T23) (.dat .nil)), .cons (.dat (.list T70)) (.cons (.dat T23) (.dat .nil)), .cons (.own 1 T70) (.dat (.cons T23 .nil))], 4⟩
noncomputable def g11_taliklaw01_GroundMore_l1_step (s : (((List E72) × (Int × (Int × (Int × (Bool × ((List E72) × ((List E72) × (Int × Unit)))))))) × (E25 × (((List E70) × (E23 × Unit)) × (((List E70) × (E23 × Unit)) × (((List E70) × (E23 × Unit)) × Unit)))))) : Option (Nat × (((List E72) × (Int × (Int × (Int × (Bool × ((List E72) × ((List E72) × (Int × Unit)))))))) × (E25 × (((List E70) × (E23 × Unit)) × (((List E70) × (E23 × Unit)) × (((List E70) × (E23 × Unit)) × Unit)))))) :=
  (bif (decide (s.1.2.2.2.2.2.2.2.1 < (List.length s.1.1 : Int))) then
  (bif (decide (0 ≤ s.1.2.2.2.2.2.2.2.1) && decide (s.1.2.2.2.2.2.2.2.1 < (List.length s.1.1 : Int))) then
    (Option.bind (g35_taliklaw01_narrow ((List.getD s.1.1 (Int.toNat s.1.2.2.2.2.2.2.2.1) ((0, (0, ())), ((0, (0, ())), ((0, (0, ())), ())))).1) s.1.2.1 s.1.2.2.1) fun r19 =>
      (bif (decide (0 ≤ s.1.2.2.2.2.2.2.2.1) && decide (s.1.2.2.2.2.2.2.2.1 < (List.length s.1.1 : Int))) then
        (Option.bind (g35_taliklaw01_narrow ((List.getD s.1.1 (Int.toNat s.1.2.2.2.2.2.2.2.1) ((0, (0, ())), ((0, (0, ())), ((0, (0, ())), ())))).2.1) s.1.2.1 s.1.2.2.1) fun r20 =>
          (bif (decide (0 ≤ s.1.2.2.2.2.2.2.2.1) && decide (s.1.2.2.2.2.2.2.2.1 < (List.length s.1.1 : Int))) then
            (Option.bind (g35_taliklaw01_narrow ((List.getD s.1.1 (Int.toNat s.1.2.2.2.2.2.2.2.1) ((0, (0, ())), ((0, (0, ())), ((0, (0, ())), ())))).2.2.1) s.1.2.1 s.1.2.2.1) fun r21 =>
              (bif (decide (List.length s.1.2.2.2.2.2.1 + List.length [(r19, (r20, (r21, ())))] ≤ LIM)) then
                (bif (decide (0 ≤ s.1.2.2.2.2.2.2.2.1) && decide (s.1.2.2.2.2.2.2.2.1 < (List.length s.1.1 : Int))) then
                  (bif (decide (0 ≤ s.1.2.2.2.2.2.2.2.1) && decide (s.1.2.2.2.2.2.2.2.1 < (List.length s.1.1 : Int))) then
                    (bif (decide (0 ≤ s.1.2.2.2.2.2.2.2.1) && decide (s.1.2.2.2.2.2.2.2.1 < (List.length s.1.1 : Int))) then
                      (bif (decide (0 ≤ s.1.2.2.2.2.2.2.2.1) && decide (s.1.2.2.2.2.2.2.2.1 < (List.length s.1.1 : Int))) then
                        (Option.bind (g33_taliklaw01_span (if (IntKind.wrap .i64 ((List.getD s.1.1 (Int.toNat s.1.2.2.2.2.2.2.2.1) ((0, (0, ())), ((0, (0, ())), ((0, (0, ())), ())))).2.2.1.1 + s.1.2.2.2.1)) < 1000 then (IntKind.wrap .i64 ((List.getD s.1.1 (Int.toNat s.1.2.2.2.2.2.2.2.1) ((0, (0, ())), ((0, (0, ())), ((0, (0, ())), ())))).2.2.1.1 + s.1.2.2.2.1)) else 1000) (if (IntKind.wrap .i64 ((List.getD s.1.1 (Int.toNat s.1.2.2.2.2.2.2.2.1) ((0, (0, ())), ((0, (0, ())), ((0, (0, ())), ())))).2.2.1.2.1 + s.1.2.2.2.1)) < 1000 then (IntKind.wrap .i64 ((List.getD s.1.1 (Int.toNat s.1.2.2.2.2.2.2.2.1) ((0, (0, ())), ((0, (0, ())), ((0, (0, ())), ())))).2.2.1.2.1 + s.1.2.2.2.1)) else 1000)) fun r22 =>
                          (bif (decide (List.length s.1.2.2.2.2.2.2.1 + List.length [((List.getD s.1.1 (Int.toNat s.1.2.2.2.2.2.2.2.1) ((0, (0, ())), ((0, (0, ())), ((0, (0, ())), ())))).1, ((List.getD s.1.1 (Int.toNat s.1.2.2.2.2.2.2.2.1) ((0, (0, ())), ((0, (0, ())), ((0, (0, ())), ())))).2.1, (r22, ())))] ≤ LIM)) then
                            some (0, ((s.1.1, (s.1.2.1, (s.1.2.2.1, (s.1.2.2.2.1, (s.1.2.2.2.2.1, ((s.1.2.2.2.2.2.1 ++ [(r19, (r20, (r21, ())))]), ((s.1.2.2.2.2.2.2.1 ++ [((List.getD s.1.1 (Int.toNat s.1.2.2.2.2.2.2.2.1) ((0, (0, ())), ((0, (0, ())), ((0, (0, ())), ())))).1, ((List.getD s.1.1 (Int.toNat s.1.2.2.2.2.2.2.2.1) ((0, (0, ())), ((0, (0, ())), ((0, (0, ())), ())))).2.1, (r22, ())))]), ((IntKind.wrap .i64 (s.1.2.2.2.2.2.2.2.1 + 1)), ())))))))), (s.2.1, ((s.2.2.1.1, (s.2.2.1.2.1, s.2.2.1.2.2)), ((s.2.2.2.1.1, (s.2.2.2.1.2.1, s.2.2.2.1.2.2)), ((s.2.2.2.2.1.1, s.2.2.2.2.1.2), ()))))))
                            else
                            none))
                        else
                        none)
                      else
                      none)
                    else
                    none)
                  else
                  none)
                else
                none))
            else
            none))
        else
        none))
    else
    none)
  else
  some (1, ((s.1.1, (s.1.2.1, (s.1.2.2.1, (s.1.2.2.2.1, (s.1.2.2.2.2.1, (s.1.2.2.2.2.2.1, (s.1.2.2.2.2.2.2.1, (s.1.2.2.2.2.2.2.2.1, ())))))))), (s.2.1, ((s.2.2.1.1, (s.2.2.1.2.1, s.2.2.1.2.2)), ((s.2.2.2.1.1, (s.2.2.2.1.2.1, s.2.2.2.1.2.2)), ((s.2.2.2.2.1.1, s.2.2.2.2.1.2), ())))))))
noncomputable def g11_taliklaw01_GroundMore_l1_fuel (s : (((List E72) × (Int × (Int × (Int × (Bool × ((List E72) × ((List E72) × (Int × Unit)))))))) × (E25 × (((List E70) × (E23 × Unit)) × (((List E70) × (E23 × Unit)) × (((List E70) × (E23 × Unit)) × Unit)))))) : Nat := Int.toNat ((List.length s.1.1 : Int) - s.1.2.2.2.2.2.2.2.1) + 1
noncomputable def g11_taliklaw01_GroundMore_l1_run (s : (((List E72) × (Int × (Int × (Int × (Bool × ((List E72) × ((List E72) × (Int × Unit)))))))) × (E25 × (((List E70) × (E23 × Unit)) × (((List E70) × (E23 × Unit)) × (((List E70) × (E23 × Unit)) × Unit)))))) : Option (Nat × (((List E72) × (Int × (Int × (Int × (Bool × ((List E72) × ((List E72) × (Int × Unit)))))))) × (E25 × (((List E70) × (E23 × Unit)) × (((List E70) × (E23 × Unit)) × (((List E70) × (E23 × Unit)) × Unit)))))) := iter g11_taliklaw01_GroundMore_l1_step (g11_taliklaw01_GroundMore_l1_fuel s) s
noncomputable def g11_taliklaw01_GroundMore_l1_L : LoopT := loopT g11_taliklaw01_GroundMore_l1_S [.exit 2] g11_taliklaw01_GroundMore_l1_run
noncomputable def g11_taliklaw01_GroundMore_l2_S : SPat := ⟨[.any, .dat (.list T72), .any, .any, .any, .any, .any, .any, .any, .any, .any, .any, .any, .any, .dat .bool, .any, .any, .any, .any, .any, .any, .any, .any, .dat (.list T53), .any, .dat (.list T53), .any, .dat (.list T53), .any, .dat (.list T53), .any, .dat (.int .i64), .any, .any, .any, .any, .any, .any, .any, .any, .any, .any, .any, .any, .any, .any, .any, .any, .any, .any, .any, .any, .any, .any, .any, .any, .any, .any, .any, .any, .any, .any, .any, .any, .any, .any, .any, .any, .any, .any, .any, .any, .any, .any, .any, .any, .any, .any, .any, .any, .any, .any, .any, .any, .any, .any, .any, .any, .any, .any, .any, .any, .any, .any, .any, .any, .any, .any, .any, .any, .any, .any, .any, .any, .any, .any, .any, .any, .any, .any, .any, .any, .any, .any, .any, .any, .any, .any, .any, .any, .any, .any, .any, .any, .any, .any, .any, .any, .any, .any, .any, .any, .any, .any, .any, .any, .any, .any, .any, .any, .any, .any, .any, .any, .any, .any, .any, .any, .any, .any, .any, .any, .any, .any, .any, .any, .any, .any, .any, .any, .any, .any, .any, .any, .any, .any, .any, .any, .any, .any, .any, .any, .any, .any, .any, .any, .any, .any, .any, .any, .any, .any, .any, .any, .any, .any, .any, .any, .any, .any, .any, .any, .any, .any, .any, .any, .any, .any, .any, .any, .any, .any, .any, .any, .any, .any, .any, .any, .any, .any, .any, .any, .any, .any, .any, .any, .any, .any, .any, .any, .any, .any, .any, .any, .any, .any, .any, .any, .any, .any, .any, .any, .any, .any, .any, .any, .any, .any, .any, .any, .any, .any, .any, .any, .any, .any, .any, .any, .any, .any, .any, .any, .any, .any, .any, .any, .any, .any, .any, .any, .any, .any, .any, .any, .any, .any, .any, .any, .any, .any, .any, .any, .any, .any, .any, .any, .any, .any, .any, .any, .any, .any, .any, .any, .any, .any, .any, .any, .any, .any, .any, .any, .any, .any, .any, .any, .any, .any, .any, .any, .any, .any, .any, .any, .any, .any, .any, .any, .any, .any, .any, .any, .any, .any, .any, .any, .any, .any, .any, .any, .any, .any, .any, .any, .any, .any, .any, .any, .any, .any, .any, .any, .any, .any, .any, .any, .any, .any, .any, .any, .any, .any, .any, .any, .any, .any, .any, .any, .any, .any, .any, .any, .any, .any, .any, .any, .any, .any, .any, .any, .any, .any, .any, .any, .any, .any, .any, .any, .any, .any, .any, .any, .any, .any, .any, .any, .any, .any, .any, .any, .any, .any, .any, .any, .any, .any, .any, .any, .any, .any, .any, .any, .any, .any, .any, .any, .any, .any, .any, .any, .any, .any, .any], [.dat T25, .cons (.own 0 T70) (.cons (.dat T23) (.dat .nil)), .cons (.dat (.list T70)) (.cons (.dat T23) (.dat .nil)), .cons (.own 1 T70) (.dat (.cons T23 .nil))], 2⟩
noncomputable def g11_taliklaw01_GroundMore_l2_step (s : (((List E72) × (Bool × ((List E53) × ((List E53) × ((List E53) × ((List E53) × (Int × Unit))))))) × (E25 × (((List E70) × (E23 × Unit)) × (((List E70) × (E23 × Unit)) × (((List E70) × (E23 × Unit)) × Unit)))))) : Option (Nat × (((List E72) × (Bool × ((List E53) × ((List E53) × ((List E53) × ((List E53) × (Int × Unit))))))) × (E25 × (((List E70) × (E23 × Unit)) × (((List E70) × (E23 × Unit)) × (((List E70) × (E23 × Unit)) × Unit)))))) :=
  (bif (decide (s.1.2.2.2.2.2.2.1 < (List.length s.1.1 : Int))) then
  (bif (decide (0 ≤ s.1.2.2.2.2.2.2.1) && decide (s.1.2.2.2.2.2.2.1 < (List.length s.1.2.2.2.1 : Int))) then
    (bif (decide (0 ≤ s.1.2.2.2.2.2.2.1) && decide (s.1.2.2.2.2.2.2.1 < (List.length s.1.2.2.1 : Int))) then
      (Option.bind (g36_taliklaw01_within ((List.getD s.1.2.2.2.1 (Int.toNat s.1.2.2.2.2.2.2.1) ((0, (0, ())), ((0, (0, ())), (0, ())))).1) ((List.getD s.1.2.2.1 (Int.toNat s.1.2.2.2.2.2.2.1) ((0, (0, ())), ((0, (0, ())), (0, ())))).1)) fun r28 =>
        (bif (!r28) then
          some (1, ((s.1.1, (false, (s.1.2.2.1, (s.1.2.2.2.1, (s.1.2.2.2.2.1, (s.1.2.2.2.2.2.1, (s.1.2.2.2.2.2.2.1, ()))))))), (s.2.1, ((s.2.2.1.1, (s.2.2.1.2.1, s.2.2.1.2.2)), ((s.2.2.2.1.1, (s.2.2.2.1.2.1, s.2.2.2.1.2.2)), ((s.2.2.2.2.1.1, s.2.2.2.2.1.2), ()))))))
          else
          (bif (decide (0 ≤ s.1.2.2.2.2.2.2.1) && decide (s.1.2.2.2.2.2.2.1 < (List.length s.1.2.2.2.1 : Int))) then
            (bif (decide (0 ≤ s.1.2.2.2.2.2.2.1) && decide (s.1.2.2.2.2.2.2.1 < (List.length s.1.2.2.1 : Int))) then
              (Option.bind (g36_taliklaw01_within ((List.getD s.1.2.2.2.1 (Int.toNat s.1.2.2.2.2.2.2.1) ((0, (0, ())), ((0, (0, ())), (0, ())))).2.1) ((List.getD s.1.2.2.1 (Int.toNat s.1.2.2.2.2.2.2.1) ((0, (0, ())), ((0, (0, ())), (0, ())))).2.1)) fun r29 =>
                (bif (!r29) then
                  some (1, ((s.1.1, (false, (s.1.2.2.1, (s.1.2.2.2.1, (s.1.2.2.2.2.1, (s.1.2.2.2.2.2.1, (s.1.2.2.2.2.2.2.1, ()))))))), (s.2.1, ((s.2.2.1.1, (s.2.2.1.2.1, s.2.2.1.2.2)), ((s.2.2.2.1.1, (s.2.2.2.1.2.1, s.2.2.2.1.2.2)), ((s.2.2.2.2.1.1, s.2.2.2.2.1.2), ()))))))
                  else
                  (bif (decide (0 ≤ s.1.2.2.2.2.2.2.1) && decide (s.1.2.2.2.2.2.2.1 < (List.length s.1.2.2.2.2.1 : Int))) then
                    (bif (decide (0 ≤ s.1.2.2.2.2.2.2.1) && decide (s.1.2.2.2.2.2.2.1 < (List.length s.1.2.2.1 : Int))) then
                      (bif (decide ((List.getD s.1.2.2.2.2.1 (Int.toNat s.1.2.2.2.2.2.2.1) ((0, (0, ())), ((0, (0, ())), (0, ())))).1.1 < (List.getD s.1.2.2.1 (Int.toNat s.1.2.2.2.2.2.2.1) ((0, (0, ())), ((0, (0, ())), (0, ())))).1.1)) then
                        some (1, ((s.1.1, (false, (s.1.2.2.1, (s.1.2.2.2.1, (s.1.2.2.2.2.1, (s.1.2.2.2.2.2.1, (s.1.2.2.2.2.2.2.1, ()))))))), (s.2.1, ((s.2.2.1.1, (s.2.2.1.2.1, s.2.2.1.2.2)), ((s.2.2.2.1.1, (s.2.2.2.1.2.1, s.2.2.2.1.2.2)), ((s.2.2.2.2.1.1, s.2.2.2.2.1.2), ()))))))
                        else
                        (bif (decide (0 ≤ s.1.2.2.2.2.2.2.1) && decide (s.1.2.2.2.2.2.2.1 < (List.length s.1.2.2.2.2.1 : Int))) then
                          (bif (decide (0 ≤ s.1.2.2.2.2.2.2.1) && decide (s.1.2.2.2.2.2.2.1 < (List.length s.1.2.2.1 : Int))) then
                            (bif (decide ((List.getD s.1.2.2.2.2.1 (Int.toNat s.1.2.2.2.2.2.2.1) ((0, (0, ())), ((0, (0, ())), (0, ())))).1.2.1 < (List.getD s.1.2.2.1 (Int.toNat s.1.2.2.2.2.2.2.1) ((0, (0, ())), ((0, (0, ())), (0, ())))).1.2.1)) then
                              some (1, ((s.1.1, (false, (s.1.2.2.1, (s.1.2.2.2.1, (s.1.2.2.2.2.1, (s.1.2.2.2.2.2.1, (s.1.2.2.2.2.2.2.1, ()))))))), (s.2.1, ((s.2.2.1.1, (s.2.2.1.2.1, s.2.2.1.2.2)), ((s.2.2.2.1.1, (s.2.2.2.1.2.1, s.2.2.2.1.2.2)), ((s.2.2.2.2.1.1, s.2.2.2.2.1.2), ()))))))
                              else
                              (bif (decide (0 ≤ s.1.2.2.2.2.2.2.1) && decide (s.1.2.2.2.2.2.2.1 < (List.length s.1.2.2.2.2.1 : Int))) then
                                (bif (decide (0 ≤ s.1.2.2.2.2.2.2.1) && decide (s.1.2.2.2.2.2.2.1 < (List.length s.1.2.2.1 : Int))) then
                                  (bif (decide ((List.getD s.1.2.2.2.2.1 (Int.toNat s.1.2.2.2.2.2.2.1) ((0, (0, ())), ((0, (0, ())), (0, ())))).2.1.1 < (List.getD s.1.2.2.1 (Int.toNat s.1.2.2.2.2.2.2.1) ((0, (0, ())), ((0, (0, ())), (0, ())))).2.1.1)) then
                                    some (1, ((s.1.1, (false, (s.1.2.2.1, (s.1.2.2.2.1, (s.1.2.2.2.2.1, (s.1.2.2.2.2.2.1, (s.1.2.2.2.2.2.2.1, ()))))))), (s.2.1, ((s.2.2.1.1, (s.2.2.1.2.1, s.2.2.1.2.2)), ((s.2.2.2.1.1, (s.2.2.2.1.2.1, s.2.2.2.1.2.2)), ((s.2.2.2.2.1.1, s.2.2.2.2.1.2), ()))))))
                                    else
                                    (bif (decide (0 ≤ s.1.2.2.2.2.2.2.1) && decide (s.1.2.2.2.2.2.2.1 < (List.length s.1.2.2.2.2.1 : Int))) then
                                      (bif (decide (0 ≤ s.1.2.2.2.2.2.2.1) && decide (s.1.2.2.2.2.2.2.1 < (List.length s.1.2.2.1 : Int))) then
                                        (bif (decide ((List.getD s.1.2.2.2.2.1 (Int.toNat s.1.2.2.2.2.2.2.1) ((0, (0, ())), ((0, (0, ())), (0, ())))).2.1.2.1 < (List.getD s.1.2.2.1 (Int.toNat s.1.2.2.2.2.2.2.1) ((0, (0, ())), ((0, (0, ())), (0, ())))).2.1.2.1)) then
                                          some (1, ((s.1.1, (false, (s.1.2.2.1, (s.1.2.2.2.1, (s.1.2.2.2.2.1, (s.1.2.2.2.2.2.1, (s.1.2.2.2.2.2.2.1, ()))))))), (s.2.1, ((s.2.2.1.1, (s.2.2.1.2.1, s.2.2.1.2.2)), ((s.2.2.2.1.1, (s.2.2.2.1.2.1, s.2.2.2.1.2.2)), ((s.2.2.2.2.1.1, s.2.2.2.2.1.2), ()))))))
                                          else
                                          (bif (decide (0 ≤ s.1.2.2.2.2.2.2.1) && decide (s.1.2.2.2.2.2.2.1 < (List.length s.1.2.2.2.2.2.1 : Int))) then
                                            (bif (decide (0 ≤ s.1.2.2.2.2.2.2.1) && decide (s.1.2.2.2.2.2.2.1 < (List.length s.1.2.2.1 : Int))) then
                                              (bif (decide ((List.getD s.1.2.2.2.2.2.1 (Int.toNat s.1.2.2.2.2.2.2.1) ((0, (0, ())), ((0, (0, ())), (0, ())))).1.1 > (List.getD s.1.2.2.1 (Int.toNat s.1.2.2.2.2.2.2.1) ((0, (0, ())), ((0, (0, ())), (0, ())))).1.1)) then
                                                some (1, ((s.1.1, (false, (s.1.2.2.1, (s.1.2.2.2.1, (s.1.2.2.2.2.1, (s.1.2.2.2.2.2.1, (s.1.2.2.2.2.2.2.1, ()))))))), (s.2.1, ((s.2.2.1.1, (s.2.2.1.2.1, s.2.2.1.2.2)), ((s.2.2.2.1.1, (s.2.2.2.1.2.1, s.2.2.2.1.2.2)), ((s.2.2.2.2.1.1, s.2.2.2.2.1.2), ()))))))
                                                else
                                                (bif (decide (0 ≤ s.1.2.2.2.2.2.2.1) && decide (s.1.2.2.2.2.2.2.1 < (List.length s.1.2.2.2.2.2.1 : Int))) then
                                                  (bif (decide (0 ≤ s.1.2.2.2.2.2.2.1) && decide (s.1.2.2.2.2.2.2.1 < (List.length s.1.2.2.1 : Int))) then
                                                    (bif (decide ((List.getD s.1.2.2.2.2.2.1 (Int.toNat s.1.2.2.2.2.2.2.1) ((0, (0, ())), ((0, (0, ())), (0, ())))).1.2.1 > (List.getD s.1.2.2.1 (Int.toNat s.1.2.2.2.2.2.2.1) ((0, (0, ())), ((0, (0, ())), (0, ())))).1.2.1)) then
                                                      some (1, ((s.1.1, (false, (s.1.2.2.1, (s.1.2.2.2.1, (s.1.2.2.2.2.1, (s.1.2.2.2.2.2.1, (s.1.2.2.2.2.2.2.1, ()))))))), (s.2.1, ((s.2.2.1.1, (s.2.2.1.2.1, s.2.2.1.2.2)), ((s.2.2.2.1.1, (s.2.2.2.1.2.1, s.2.2.2.1.2.2)), ((s.2.2.2.2.1.1, s.2.2.2.2.1.2), ()))))))
                                                      else
                                                      some (0, ((s.1.1, (s.1.2.1, (s.1.2.2.1, (s.1.2.2.2.1, (s.1.2.2.2.2.1, (s.1.2.2.2.2.2.1, ((IntKind.wrap .i64 (s.1.2.2.2.2.2.2.1 + 1)), ()))))))), (s.2.1, ((s.2.2.1.1, (s.2.2.1.2.1, s.2.2.1.2.2)), ((s.2.2.2.1.1, (s.2.2.2.1.2.1, s.2.2.2.1.2.2)), ((s.2.2.2.2.1.1, s.2.2.2.2.1.2), ())))))))
                                                    else
                                                    none)
                                                  else
                                                  none))
                                              else
                                              none)
                                            else
                                            none))
                                        else
                                        none)
                                      else
                                      none))
                                  else
                                  none)
                                else
                                none))
                            else
                            none)
                          else
                          none))
                      else
                      none)
                    else
                    none)))
              else
              none)
            else
            none)))
      else
      none)
    else
    none)
  else
  some (2, ((s.1.1, (s.1.2.1, (s.1.2.2.1, (s.1.2.2.2.1, (s.1.2.2.2.2.1, (s.1.2.2.2.2.2.1, (s.1.2.2.2.2.2.2.1, ()))))))), (s.2.1, ((s.2.2.1.1, (s.2.2.1.2.1, s.2.2.1.2.2)), ((s.2.2.2.1.1, (s.2.2.2.1.2.1, s.2.2.2.1.2.2)), ((s.2.2.2.2.1.1, s.2.2.2.2.1.2), ())))))))
noncomputable def g11_taliklaw01_GroundMore_l2_fuel (s : (((List E72) × (Bool × ((List E53) × ((List E53) × ((List E53) × ((List E53) × (Int × Unit))))))) × (E25 × (((List E70) × (E23 × Unit)) × (((List E70) × (E23 × Unit)) × (((List E70) × (E23 × Unit)) × Unit)))))) : Nat := Int.toNat ((List.length s.1.1 : Int) - s.1.2.2.2.2.2.2.1) + 1
noncomputable def g11_taliklaw01_GroundMore_l2_run (s : (((List E72) × (Bool × ((List E53) × ((List E53) × ((List E53) × ((List E53) × (Int × Unit))))))) × (E25 × (((List E70) × (E23 × Unit)) × (((List E70) × (E23 × Unit)) × (((List E70) × (E23 × Unit)) × Unit)))))) : Option (Nat × (((List E72) × (Bool × ((List E53) × ((List E53) × ((List E53) × ((List E53) × (Int × Unit))))))) × (E25 × (((List E70) × (E23 × Unit)) × (((List E70) × (E23 × Unit)) × (((List E70) × (E23 × Unit)) × Unit)))))) := iter g11_taliklaw01_GroundMore_l2_step (g11_taliklaw01_GroundMore_l2_fuel s) s
noncomputable def g11_taliklaw01_GroundMore_l2_L : LoopT := loopT g11_taliklaw01_GroundMore_l2_S [.ret, .exit 4] g11_taliklaw01_GroundMore_l2_run
noncomputable def g11_taliklaw01_GroundMore (a0 : E25) (a1 : (List E72)) (a2 : Int) (a3 : Int) (a4 : Int) (a5 : Int) (a6 : Int) : Option Bool :=
  (Option.bind (g13_taliklaw01_short a0 a1) fun r1 =>
  (bif (!r1) then
    (Option.bind g15_taliklaw01_known fun r2 =>
      some r2)
    else
    (Option.bind (g17_taliklaw01_wanted a0 a1) fun r3 =>
      (bif (r3 != 0) then
        (Option.bind g15_taliklaw01_known fun r4 =>
          some r4)
        else
        (bif (decide (a2 < 0)) then
          (Option.bind g15_taliklaw01_known fun r5 =>
            some r5)
          else
          (bif (decide (a2 > a3)) then
            (Option.bind g15_taliklaw01_known fun r6 =>
              some r6)
            else
            (bif (decide (a3 > 100)) then
              (Option.bind g15_taliklaw01_known fun r7 =>
                some r7)
              else
              (bif (decide (a4 < 0)) then
                (Option.bind g15_taliklaw01_known fun r8 =>
                  some r8)
                else
                (bif (decide (a4 > 1000000)) then
                  (Option.bind g15_taliklaw01_known fun r9 =>
                    some r9)
                  else
                  (bif (decide (a5 < 0)) then
                    (Option.bind g15_taliklaw01_known fun r10 =>
                      some r10)
                    else
                    (bif (decide (a5 > 1000)) then
                      (Option.bind g15_taliklaw01_known fun r11 =>
                        some r11)
                      else
                      (bif (decide (a6 < 0)) then
                        (Option.bind g15_taliklaw01_known fun r12 =>
                          some r12)
                        else
                        (bif (decide (a6 > 1000)) then
                          (Option.bind g15_taliklaw01_known fun r13 =>
                            some r13)
                          else
                          (Option.bind (g35_taliklaw01_narrow a0.2.1 a2 a3) fun r14 =>
                            (Option.bind (g33_taliklaw01_span (if (IntKind.wrap .i64 (a0.2.1.1 + a4)) < 1000000 then (IntKind.wrap .i64 (a0.2.1.1 + a4)) else 1000000) (if (IntKind.wrap .i64 (a0.2.1.2.1 + a4)) < 1000000 then (IntKind.wrap .i64 (a0.2.1.2.1 + a4)) else 1000000)) fun r15 =>
                              (Option.bind (g11_taliklaw01_GroundMore_l0_run ((a1, (a2, (a3, (a5, (a6, (false, (0, ()))))))), (a0, (([], (r14, a0.2.2)), ((a0.1, (r15, a0.2.2)), (([], a0.2), ())))))) fun q18 =>
                                (Option.bind (g11_taliklaw01_GroundMore_l1_run ((q18.2.1.1, (q18.2.1.2.1, (q18.2.1.2.2.1, (q18.2.1.2.2.2.1, (q18.2.1.2.2.2.2.2.1, ([], ([], (0, ())))))))), (q18.2.2.1, ((q18.2.2.2.1.1, (q18.2.2.2.1.2.1, q18.2.2.2.1.2.2)), ((q18.2.2.2.2.1.1, (q18.2.2.2.2.1.2.1, q18.2.2.2.2.1.2.2)), ((q18.2.2.2.2.2.1.1, q18.2.2.2.2.2.1.2), ())))))) fun q23 =>
                                  (Option.bind (g23_ground_Years q23.2.2.1 q23.2.1.1) fun r24 =>
                                    (Option.bind (g23_ground_Years (q23.2.2.2.1.1, (q23.2.2.2.1.2.1, q23.2.2.2.1.2.2)) q23.2.1.2.2.2.2.2.1) fun r25 =>
                                      (Option.bind (g23_ground_Years (q23.2.2.2.2.1.1, (q23.2.2.2.2.1.2.1, q23.2.2.2.2.1.2.2)) q23.2.1.2.2.2.2.2.2.1) fun r26 =>
                                        (Option.bind (g23_ground_Years (q23.2.2.2.2.2.1.1, q23.2.2.2.2.2.1.2) q23.2.1.1) fun r27 =>
                                          (bif (r24.2.1 != 0) then
                                            some false
                                            else
                                            (bif (r25.2.1 != 0) then
                                              some false
                                              else
                                              (bif (r26.2.1 != 0) then
                                                some false
                                                else
                                                (bif (r27.2.1 != 0) then
                                                  some false
                                                  else
                                                  (bif ((List.length r24.1 : Int) != (List.length q23.2.1.1 : Int)) then
                                                    some false
                                                    else
                                                    (bif ((List.length r25.1 : Int) != (List.length q23.2.1.1 : Int)) then
                                                      some false
                                                      else
                                                      (bif ((List.length r26.1 : Int) != (List.length q23.2.1.1 : Int)) then
                                                        some false
                                                        else
                                                        (bif ((List.length r27.1 : Int) != (List.length q23.2.1.1 : Int)) then
                                                          some false
                                                          else
                                                          (Option.bind (g11_taliklaw01_GroundMore_l2_run ((q23.2.1.1, (q23.2.1.2.2.2.2.1, (r24.1, (r25.1, (r26.1, (r27.1, (0, ()))))))), (q23.2.2.1, ((q23.2.2.2.1.1, (q23.2.2.2.1.2.1, q23.2.2.2.1.2.2)), ((q23.2.2.2.2.1.1, (q23.2.2.2.2.1.2.1, q23.2.2.2.2.1.2.2)), ((q23.2.2.2.2.2.1.1, q23.2.2.2.2.2.1.2), ())))))) fun q30 =>
                                                            (natK q30.1
                                                              (some q30.2.1.2.1)
                                                              (fun _ => (Option.bind g15_taliklaw01_known fun r31 =>
                                                                some r31)))))))))))))))))))))))))))))))))
noncomputable def g11_taliklaw01_GroundMore_E : CEnt := pureE 11 [.dat T25, .dat (.list T72), .dat (.int .i64), .dat (.int .i64), .dat (.int .i64), .dat (.int .i64), .dat (.int .i64)] (.dat .bool) fun x => g11_taliklaw01_GroundMore x.1 x.2.1 x.2.2.1 x.2.2.2.1 x.2.2.2.2.1 x.2.2.2.2.2.1 x.2.2.2.2.2.2.1
noncomputable def g11_taliklaw01_GroundMore_l0_c : Code := loopAt (bodyOf Tryd.f11) 0
noncomputable def g11_taliklaw01_GroundMore_l1_c : Code := loopAt (bodyOf Tryd.f11) 1
noncomputable def g11_taliklaw01_GroundMore_l2_c : Code := loopAt (bodyOf Tryd.f11) 2
theorem g11_taliklaw01_GroundMore_l0_V : LValid 0 Tryd.prog (.loop g11_taliklaw01_GroundMore_l0_c) g11_taliklaw01_GroundMore_l0_L false := by
  have hb : ∀ s, codeR Tryd.prog g11_taliklaw01_GroundMore_C g11_taliklaw01_GroundMore_l0_c [] (g11_taliklaw01_GroundMore_l0_S.encE s) (g11_taliklaw01_GroundMore_l0_S.encB s) (kst g11_taliklaw01_GroundMore_l0_S [.exit 0]) = g11_taliklaw01_GroundMore_l0_step s := by
    intro s; kernel_rfl
  have hL : LV 0 Tryd.prog false (loopsOf g11_taliklaw01_GroundMore_l0_c) [] := by unfold LV; cases loopsOf g11_taliklaw01_GroundMore_l0_c <;> trivial
  exact loopT_valid (fuel := g11_taliklaw01_GroundMore_l0_fuel) mixed g11_taliklaw01_GroundMore_CV hL (by kernel_rfl) (by decide) rfl hb (fun s r h => h)
theorem g11_taliklaw01_GroundMore_l1_V : LValid 0 Tryd.prog (.loop g11_taliklaw01_GroundMore_l1_c) g11_taliklaw01_GroundMore_l1_L false := by
  have hb : ∀ s, codeR Tryd.prog g11_taliklaw01_GroundMore_C g11_taliklaw01_GroundMore_l1_c [] (g11_taliklaw01_GroundMore_l1_S.encE s) (g11_taliklaw01_GroundMore_l1_S.encB s) (kst g11_taliklaw01_GroundMore_l1_S [.exit 2]) = g11_taliklaw01_GroundMore_l1_step s := by
    intro s; kernel_rfl
  have hL : LV 0 Tryd.prog false (loopsOf g11_taliklaw01_GroundMore_l1_c) [] := by unfold LV; cases loopsOf g11_taliklaw01_GroundMore_l1_c <;> trivial
  exact loopT_valid (fuel := g11_taliklaw01_GroundMore_l1_fuel) mixed g11_taliklaw01_GroundMore_CV hL (by kernel_rfl) (by decide) rfl hb (fun s r h => h)
theorem g11_taliklaw01_GroundMore_l2_V : LValid 0 Tryd.prog (.loop g11_taliklaw01_GroundMore_l2_c) g11_taliklaw01_GroundMore_l2_L false := by
  have hb : ∀ s, codeR Tryd.prog g11_taliklaw01_GroundMore_C g11_taliklaw01_GroundMore_l2_c [] (g11_taliklaw01_GroundMore_l2_S.encE s) (g11_taliklaw01_GroundMore_l2_S.encB s) (kst g11_taliklaw01_GroundMore_l2_S [.ret, .exit 4]) = g11_taliklaw01_GroundMore_l2_step s := by
    intro s; kernel_rfl
  have hL : LV 0 Tryd.prog false (loopsOf g11_taliklaw01_GroundMore_l2_c) [] := by unfold LV; cases loopsOf g11_taliklaw01_GroundMore_l2_c <;> trivial
  exact loopT_valid (fuel := g11_taliklaw01_GroundMore_l2_fuel) mixed g11_taliklaw01_GroundMore_CV hL (by kernel_rfl) (by decide) rfl hb (fun s r h => h)
theorem g11_taliklaw01_GroundMore_LV : LV 0 Tryd.prog false (loopsOf (bodyOf Tryd.f11)) [g11_taliklaw01_GroundMore_l0_L, g11_taliklaw01_GroundMore_l1_L, g11_taliklaw01_GroundMore_l2_L] := by
  have hl : loopsOf (bodyOf Tryd.f11) = [.loop g11_taliklaw01_GroundMore_l0_c, .loop g11_taliklaw01_GroundMore_l1_c, .loop g11_taliklaw01_GroundMore_l2_c] := by kernel_rfl
  rw [hl]; exact ⟨g11_taliklaw01_GroundMore_l0_V, g11_taliklaw01_GroundMore_l1_V, g11_taliklaw01_GroundMore_l2_V, trivial⟩
theorem g11_taliklaw01_GroundMore_ent : Ent Tryd.prog 11 := ⟨by decide, enters_of Tryd.func11 (by kernel_rfl) rfl⟩
theorem g11_taliklaw01_GroundMore_hev : ∀ x, fnR Tryd.prog g11_taliklaw01_GroundMore_C [g11_taliklaw01_GroundMore_l0_L, g11_taliklaw01_GroundMore_l1_L, g11_taliklaw01_GroundMore_l2_L] Tryd.f11 (bodyOf Tryd.f11) (encs [.dat T25, .dat (.list T72), .dat (.int .i64), .dat (.int .i64), .dat (.int .i64), .dat (.int .i64), .dat (.int .i64)] x) ⟨[], [], 0⟩ (frzF (.dat .bool)) = g11_taliklaw01_GroundMore x.1 x.2.1 x.2.2.1 x.2.2.2.1 x.2.2.2.2.1 x.2.2.2.2.2.1 x.2.2.2.2.2.2.1 := by
  intro x; kernel_rfl
theorem g11_taliklaw01_GroundMore_lcall : ∀ x r, (fun x : Els [.dat T25, .dat (.list T72), .dat (.int .i64), .dat (.int .i64), .dat (.int .i64), .dat (.int .i64), .dat (.int .i64)] => g11_taliklaw01_GroundMore x.1 x.2.1 x.2.2.1 x.2.2.2.1 x.2.2.2.2.1 x.2.2.2.2.2.1 x.2.2.2.2.2.2.1) x = some r → LCall 0 Tryd.prog 11 (encs [.dat T25, .dat (.list T72), .dat (.int .i64), .dat (.int .i64), .dat (.int .i64), .dat (.int .i64), .dat (.int .i64)] x) ⟨[], [], 0⟩ (.d .bool r) ⟨[], [], 0⟩ := frz_lcall (R := .dat .bool) mixed Tryd.func11 rfl g11_taliklaw01_GroundMore_ent g11_taliklaw01_GroundMore_CV g11_taliklaw01_GroundMore_LV (by kernel_rfl) (by kernel_rfl) g11_taliklaw01_GroundMore_hev

end Go.Proofs.YtbidmbjkjpdgdaaDoor.Abs

/-
  Plain laws of the ground layer: places and years that are known better, or warmer.
-/
set_option linter.unusedVariables false
set_option linter.unusedSimpArgs false
set_option maxRecDepth 100000
namespace Go.Proofs.YtbidmbjkjpdgdaaDoor.Abs

def cut (s : E23) (a b : Int) : E23 := (s.1 + (s.2.1 - s.1) * a / 100, (s.1 + (s.2.1 - s.1) * b / 100, ()))
def cap (M x : Int) : Int := if x < M then x else M
def up (s : E23) (m M : Int) : E23 := (cap M (s.1 + m), (cap M (s.2.1 + m), ()))
theorem pct {D a b : Int} (hD : 0 ≤ D) (ha : 0 ≤ a) (hab : a ≤ b) (hb : b ≤ 100) : 0 ≤ D * a / 100 ∧ D * a / 100 ≤ D * b / 100 ∧ D * b / 100 ≤ D := by
  have h1 : D * a ≤ D * b := Int.mul_le_mul_of_nonneg_left hab hD
  have h2 : D * b ≤ D * 100 := Int.mul_le_mul_of_nonneg_left hb hD
  have h0 : 0 ≤ D * a := Int.mul_nonneg hD ha
  generalize D * a = u at *
  generalize D * b = v at *
  omega
theorem spB_iff {s : E23} {lo hi : Int} : spB s lo hi = true ↔ lo ≤ s.1 ∧ s.1 ≤ s.2.1 ∧ s.2.1 ≤ hi := by
  unfold spB; simp only [Bool.and_eq_true, decide_eq_true_eq]; omega
theorem cut_in {s : E23} {a b : Int} (h : s.1 ≤ s.2.1) (ha : 0 ≤ a) (hab : a ≤ b) (hb : b ≤ 100) : s.1 ≤ (cut s a b).1 ∧ (cut s a b).1 ≤ (cut s a b).2.1 ∧ (cut s a b).2.1 ≤ s.2.1 := by
  have := pct (D := s.2.1 - s.1) (by omega) ha hab hb
  unfold cut
  refine ⟨?_, ?_, ?_⟩ <;> dsimp only <;> omega
theorem spB_cut {s : E23} {lo hi a b : Int} (h : spB s lo hi = true) (ha : 0 ≤ a) (hab : a ≤ b) (hb : b ≤ 100) : spB (cut s a b) lo hi = true := by
  rw [spB_iff] at *
  have := cut_in (s := s) h.2.1 ha hab hb
  omega
theorem cap_le {M x y : Int} (h : x ≤ y) : cap M x ≤ cap M y := by unfold cap; split <;> split <;> omega
theorem cap_ge {M x m : Int} (h : x ≤ M) (hm : 0 ≤ m) : x ≤ cap M (x + m) := by unfold cap; split <;> omega
theorem cap_hi (M x : Int) : cap M x ≤ M := by unfold cap; split <;> omega
theorem spB_up {s : E23} {lo M m : Int} (h : spB s lo M = true) (hm : 0 ≤ m) : spB (up s m M) lo M = true := by
  rw [spB_iff] at *
  have h1 := cap_ge (M := M) (x := s.1) (m := m) (by omega) hm
  have h2 := cap_le (M := M) (x := s.1 + m) (y := s.2.1 + m) (by omega)
  have h3 := cap_hi M (s.2.1 + m)
  exact ⟨by show lo ≤ cap M (s.1 + m); omega, h2, h3⟩
theorem narrow35 {s : E23} {a b : Int} (h : spB s 0 1000000 = true) (ha : 0 ≤ a) (hab : a ≤ b) (hb : b ≤ 100) : g35_taliklaw01_narrow s a b = some (cut s a b) := by
  rw [spB_iff] at h
  have hD : 0 ≤ s.2.1 - s.1 := by omega
  have h1 := pct hD ha hab hb
  have h2 : 0 ≤ (s.2.1 - s.1) * a := Int.mul_nonneg hD ha
  have h3 : 0 ≤ (s.2.1 - s.1) * b := Int.mul_nonneg hD (by omega)
  have h4 : (s.2.1 - s.1) * b ≤ (s.2.1 - s.1) * 100 := Int.mul_le_mul_of_nonneg_left hb hD
  have h5 : (s.2.1 - s.1) * a ≤ (s.2.1 - s.1) * b := Int.mul_le_mul_of_nonneg_left hab hD
  unfold g35_taliklaw01_narrow cut
  rw [wr (n := s.2.1 - s.1) (by omega) (by omega)]
  generalize hu : (s.2.1 - s.1) * a = u at *
  generalize hv : (s.2.1 - s.1) * b = v at *
  rw [wr (n := u) (by omega) (by omega), wr (n := v) (by omega) (by omega), Int.tdiv_eq_ediv_of_nonneg h2, Int.tdiv_eq_ediv_of_nonneg h3]
  rw [wr (n := u / 100) (by omega) (by omega), wr (n := v / 100) (by omega) (by omega), wr (by omega) (by omega), wr (by omega) (by omega)]
  rfl
theorem spB_wide {s : E23} {lo hi : Int} (h : spB s lo hi = true) (h0 : 0 ≤ lo) (h9 : hi ≤ 1000000) : spB s 0 1000000 = true := by
  rw [spB_iff] at *; omega

/-! ### The other places and years -/
def cutL (a b : Int) (k : E70) : E70 := (k.1, (cut k.2.1 a b, ()))
def upL (m : Int) (k : E70) : E70 := (k.1, (up k.2.1 m 1000, ()))
def cutY (a b : Int) (y : E72) : E72 := (cut y.1 a b, (cut y.2.1 a b, (cut y.2.2.1 a b, ())))
def upY (m : Int) (y : E72) : E72 := (y.1, (y.2.1, (up y.2.2.1 m 1000, ())))
def pX (p : E25) (a b : Int) : E25 := (p.1.map (cutL a b), (cut p.2.1 a b, ()))
def pY (p : E25) (h : Int) : E25 := (p.1, (up p.2.1 h 1000000, ()))
def pZ (p : E25) (m : Int) : E25 := (p.1.map (upL m), (p.2.1, ()))
theorem map_getD2 {α β : Type} {l : List α} {f : α → β} {i : Nat} {d : α} {d' : β} (hi : i < l.length) : (l.map f).getD i d' = f (l.getD i d) := by
  simp [List.getD_eq_getElem?_getD, List.getElem?_map, List.getElem?_eq_getElem hi]
theorem thick_map {l : List E70} {f : E70 → E70} (hf : ∀ k, (f k).1 = k.1) (i : Nat) : ((l.map f).getD i dL).1 = (l.getD i dL).1 := by
  by_cases hi : i < l.length
  · rw [map_getD2 (d := dL) hi]; exact hf _
  · rw [List.getD_eq_getElem?_getD, List.getElem?_eq_none (by simp; omega), List.getD_eq_getElem?_getD, List.getElem?_eq_none (by omega)]
theorem dep_thick {ls ls' : List E70} (h : ∀ i, (ls'.getD i dL).1 = (ls.getD i dL).1) (ms : List Int) : ∀ k i a, dep ls' ms k i a = dep ls ms k i a
  | 0, _, _ => rfl
  | k + 1, i, a => by
    simp only [dep, h i, dep_thick h ms k]
theorem thw_thick {p q : E25} (h : ∀ i, (q.1.getD i dL).1 = (p.1.getD i dL).1) (hl : q.1.length = p.1.length) (t : E29) (a : Int) (i : Nat) : thw q t a i = thw p t a i := by
  unfold thw
  rw [hl, dep_thick h]
theorem ok_map {p : E25} {f : E70 → E70} {w : E23} (h : okPl p = true) (hw : spB w 0 1000000 = true) (hf : ∀ k, okL k = true → okL (f k) = true) : okPl (p.1.map f, (w, ())) = true := by
  unfold okPl at *
  simp only [Bool.and_eq_true] at *
  refine ⟨⟨by simpa using h.1.1, hw⟩, List.all_eq_true.2 fun x hx => ?_⟩
  obtain ⟨k, hk, rfl⟩ := List.mem_map.1 hx
  exact hf k (List.all_eq_true.1 h.2 k hk)
theorem ok_warm {p : E25} (h : okPl p = true) : spB p.2.1 0 1000000 = true := by
  unfold okPl at h; simp only [Bool.and_eq_true] at h; exact h.1.2
section
variable {p : E25} {l : List E72} {a b : Int}
theorem ok_pX (h : okPl p = true) (ha : 0 ≤ a) (hab : a ≤ b) (hb : b ≤ 100) : okPl (pX p a b) = true := ok_map h (spB_cut (ok_warm h) ha hab hb) fun k hk => by
  unfold okL cutL at *
  simp only [Bool.and_eq_true] at *
  exact ⟨hk.1, spB_cut hk.2 ha hab hb⟩
theorem ok_pY (h : okPl p = true) {m : Int} (hm : 0 ≤ m) : okPl (pY p m) = true := by
  have := spB_up (ok_warm h) hm
  unfold okPl pY at *
  simp only [Bool.and_eq_true] at *
  exact ⟨⟨h.1.1, this⟩, h.2⟩
theorem ok_pZ (h : okPl p = true) {m : Int} (hm : 0 ≤ m) : okPl (pZ p m) = true := ok_map h (ok_warm h) fun k hk => by
  unfold okL upL at *
  simp only [Bool.and_eq_true] at *
  exact ⟨hk.1, spB_up hk.2 hm⟩
theorem ok_lX (h : l.all okY = true) (ha : 0 ≤ a) (hab : a ≤ b) (hb : b ≤ 100) : (l.map (cutY a b)).all okY = true := List.all_eq_true.2 fun x hx => by
  obtain ⟨k, hk, rfl⟩ := List.mem_map.1 hx
  have := List.all_eq_true.1 h k hk
  unfold okY cutY at *
  simp only [Bool.and_eq_true] at *
  exact ⟨⟨spB_cut this.1.1 ha hab hb, spB_cut this.1.2 ha hab hb⟩, spB_cut this.2 ha hab hb⟩
theorem ok_lY (h : l.all okY = true) {m : Int} (hm : 0 ≤ m) : (l.map (upY m)).all okY = true := List.all_eq_true.2 fun x hx => by
  obtain ⟨k, hk, rfl⟩ := List.mem_map.1 hx
  have := List.all_eq_true.1 h k hk
  unfold okY upY at *
  simp only [Bool.and_eq_true] at *
  exact ⟨this.1, spB_up this.2 hm⟩
end
theorem end_in {s u : E23} (h : s.1 ≤ u.1 ∧ u.1 ≤ u.2.1 ∧ u.2.1 ≤ s.2.1) (w : Bool) : (s.1 ≤ (bif w then u.1 else u.2.1) ∧ (bif w then u.1 else u.2.1) ≤ s.2.1) ∧ (s.1 ≤ (bif w then u.2.1 else u.1) ∧ (bif w then u.2.1 else u.1) ≤ s.2.1) := by
  cases w <;> simp only [cond_true, cond_false] <;> omega
/-- A truth of what is known better is one of what is known. -/
theorem tru_better {p : E25} {l : List E72} {a b : Int} (hp : okPl p = true) (hy : l.all okY = true) (ha : 0 ≤ a) (hab : a ≤ b) (hb : b ≤ 100) (w : Bool) : truB p l (eT w (pX p a b) (l.map (cutY a b))) = true := by
  have hlen : (pX p a b).1.length = p.1.length := by simp [pX]
  have hw := spB_iff.1 (ok_warm hp)
  have e1 : insI (eT w (pX p a b) (l.map (cutY a b))).1 p.1.length (fun i => (p.1.getD i dL).2.1) = true := insI_of (by simp [eT, pX]) fun i hi => by
    have hk := (okL_spec hp hi).2
    rw [eT_M (p := pX p a b) (by rw [hlen]; exact hi), show (pX p a b).1.getD i dL = cutL a b (p.1.getD i dL) from map_getD2 hi]
    exact (end_in (cut_in (s := (p.1.getD i dL).2.1) hk.2.1 ha hab hb) w).1
  have e2 : insI (eT w (pX p a b) (l.map (cutY a b))).2.1 l.length (fun i => p.2.1) = true := insI_of (by simp [eT]) fun i hi => by
    rw [eT_W (p := pX p a b) (by simpa using hi)]
    exact (end_in (cut_in (s := p.2.1) hw.2.1 ha hab hb) w).2
  have e3 : insI (eT w (pX p a b) (l.map (cutY a b))).2.2.1 l.length (fun i => (l.getD i dY).1) = true := insI_of (by simp [eT]) fun i hi => by
    have hk := (okY_spec hy hi).1
    rw [eT_S (p := pX p a b) (by simpa using hi), show (l.map (cutY a b)).getD i dY = cutY a b (l.getD i dY) from map_getD2 hi]
    exact (end_in (cut_in (s := (l.getD i dY).1) hk.2.1 ha hab hb) w).2
  have e4 : insI (eT w (pX p a b) (l.map (cutY a b))).2.2.2.1 l.length (fun i => (l.getD i dY).2.1) = true := insI_of (by simp [eT]) fun i hi => by
    have hk := (okY_spec hy hi).2.1
    rw [eT_I (p := pX p a b) (by simpa using hi), show (l.map (cutY a b)).getD i dY = cutY a b (l.getD i dY) from map_getD2 hi]
    exact (end_in (cut_in (s := (l.getD i dY).2.1) hk.2.1 ha hab hb) w).1
  have e5 : insI (eT w (pX p a b) (l.map (cutY a b))).2.2.2.2.1 l.length (fun i => (l.getD i dY).2.2.1) = true := insI_of (by simp [eT]) fun i hi => by
    have hk := (okY_spec hy hi).2.2
    rw [eT_N (p := pX p a b) (by simpa using hi), show (l.map (cutY a b)).getD i dY = cutY a b (l.getD i dY) from map_getD2 hi]
    exact (end_in (cut_in (s := (l.getD i dY).2.2.1) hk.2.1 ha hab hb) w).2
  unfold truB
  rw [e1, e2, e3, e4, e5]
  rfl
end Go.Proofs.YtbidmbjkjpdgdaaDoor.Abs

/-
  Plain laws of the ground layer: bounds of what is known better, of what is warmer, and of more ice.
-/
set_option linter.unusedVariables false
set_option linter.unusedSimpArgs false
set_option maxRecDepth 100000
namespace Go.Proofs.YtbidmbjkjpdgdaaDoor.Abs

theorem better_ok {p : E25} {l : List E72} {a b : Int} (hl : l.length ≤ 12) (hp : okPl p = true) (hy : l.all okY = true) (ha : 0 ≤ a) (hab : a ≤ b) (hb : b ≤ 100) {i : Nat} (hi : i < l.length) :
    ((kno p l i).1.1 ≤ (kno (pX p a b) (l.map (cutY a b)) i).1.1 ∧ (kno (pX p a b) (l.map (cutY a b)) i).1.2.1 ≤ (kno p l i).1.2.1) ∧ (kno p l i).2.1.1 ≤ (kno (pX p a b) (l.map (cutY a b)) i).2.1.1 ∧ (kno (pX p a b) (l.map (cutY a b)) i).2.1.2.1 ≤ (kno p l i).2.1.2.1 := by
  have T := fun w => tru_better (p := p) (l := l) hp hy ha hab hb w
  have ht : ∀ t, thw (pX p a b) t 0 i = thw p t 0 i := fun t => thw_thick (thick_map (f := cutL a b) fun _ => rfl) (by simp [pX]) t 0 i
  simp only [kno, ht]
  exact ⟨⟨thw_cold hl hp hy (T false) (Int.le_refl _) hi, thw_hot hl hp hy (T true) (Int.le_refl _) hi⟩, lef_cold hl hp hy (T false) (Int.le_refl _) (by omega), lef_hot hl hp hy (T true) (Int.le_refl _) (by omega)⟩
theorem up_ge {s : E23} {lo M m : Int} (h : spB s lo M = true) (hm : 0 ≤ m) (w : Bool) : (bif w then s.2.1 else s.1) ≤ (bif w then (up s m M).2.1 else (up s m M).1) ∧ (bif w then s.1 else s.2.1) ≤ (bif w then (up s m M).1 else (up s m M).2.1) := by
  rw [spB_iff] at h
  have h1 := cap_ge (M := M) (x := s.1) (m := m) (by omega) hm
  have h2 := cap_ge (M := M) (x := s.2.1) (m := m) (by omega) hm
  cases w <;> exact ⟨by assumption, by assumption⟩
theorem spY {l : List E72} (hy : l.all okY = true) {i : Nat} (hi : i < l.length) : spB (l.getD i dY).2.2.1 0 1000 = true := by
  obtain ⟨_, _, h⟩ := okY_spec hy hi
  rw [spB_iff]; exact h
theorem warmer_ok {p : E25} {l : List E72} {h m : Int} (hl : l.length ≤ 12) (hp : okPl p = true) (hy : l.all okY = true) (hh : 0 ≤ h) (hm : 0 ≤ m) (w : Bool) :
    (∀ i, i < l.length → thw p (eT w p l) 0 i ≤ thw (pY p h) (eT w (pY p h) (l.map (upY m))) 0 i) ∧ ∀ i, i ≤ l.length → (RL (eT w p l) 0 i).2 ≤ (RL (eT w (pY p h) (l.map (upY m))) 0 i).2 := by
  have hlen : (l.map (upY m)).length = l.length := by simp
  obtain ⟨T1, L1⟩ := tru_of hl hp hy (eT_true hp hy w)
  have hpY := ok_pY hp hh
  have hyY := ok_lY hy hm
  obtain ⟨T2, L2⟩ := tru_of (by rw [hlen]; exact hl) hpY hyY (eT_true hpY hyY w)
  rw [hlen] at T2
  have hw : Wrm (eT w p l) (eT w (pY p h) (l.map (upY m))) 0 0 l.length := by
    refine ⟨fun i hi => ?_, fun i hi => ?_⟩
    · rw [hea_of, hea_of, eT_W hi, eT_S hi, eT_W (p := pY p h) (by simpa using hi), eT_S (p := pY p h) (by simpa using hi), show (l.map (upY m)).getD i dY = upY m (l.getD i dY) from map_getD2 hi]
      have hW : eW w p ≤ eW w (pY p h) := (up_ge (ok_warm hp) hh w).1
      have e : eS w (upY m (l.getD i dY)) = eS w (l.getD i dY) := rfl
      rw [e]
      omega
    · have g := goe_mono (t := eT w p l) (u := eT w (pY p h) (l.map (upY m))) (i := i) (T2.winter i hi).1
        (by rw [eT_I hi, eT_I (p := pY p h) (by simpa using hi), show (l.map (upY m)).getD i dY = upY m (l.getD i dY) from map_getD2 hi]; exact Int.le_refl _)
        (by
          rw [eT_N hi, eT_N (p := pY p h) (by simpa using hi), show (l.map (upY m)).getD i dY = upY m (l.getD i dY) from map_getD2 hi]
          exact (up_ge (spY hy hi) hm w).1) (T2.snow i hi).2
      omega
  refine ⟨fun i hi => ?_, fun i hi => (RL_mono T1 T2 (Int.le_refl _) (Int.le_refl _) hw (Nat.le_refl _) i hi).2⟩
  have e : thw (pY p h) (eT w (pY p h) (l.map (upY m))) 0 i = thw p (eT w (pY p h) (l.map (upY m))) 0 i := rfl
  rw [e]
  exact thw_mono T1 T2 L1 L2 (fun j hj => by
    rw [eT_M hj, eT_M (p := pY p h) hj]; exact Int.le_refl _) (Int.le_refl _) (Int.le_refl _) hw (Nat.le_refl _) hi
theorem icier_ok {p : E25} {l : List E72} {m : Int} (hl : l.length ≤ 12) (hp : okPl p = true) (hy : l.all okY = true) (hm : 0 ≤ m) (w : Bool) {i : Nat} (hi : i < l.length) : thw (pZ p m) (eT w (pZ p m) l) 0 i ≤ thw p (eT w p l) 0 i := by
  have hlen : (pZ p m).1.length = p.1.length := by simp [pZ]
  obtain ⟨T1, L1⟩ := tru_of hl hp hy (eT_true hp hy w)
  have hpZ := ok_pZ hp hm
  obtain ⟨T2, L2⟩ := tru_of hl hpZ hy (eT_true hpZ hy w)
  have hth : ∀ j, ((pZ p m).1.getD j dL).1 = (p.1.getD j dL).1 := thick_map (f := upL m) fun _ => rfl
  have L3 : Lay p.1 (eT w (pZ p m) l).1 := ⟨by rw [L2.len, hlen], L1.pos, L1.few, L1.thick, fun j hj => L2.melt j (by rw [hlen]; exact hj)⟩
  rw [thw_thick hth hlen]
  refine thw_mono T2 T1 L3 L1 (fun j hj => ?_) (Int.le_refl _) (Int.le_refl _) ⟨fun j hj => ?_, fun j hj => ?_⟩ (Nat.le_refl _) hi
  · rw [eT_M hj, eT_M (p := pZ p m) (by rw [hlen]; exact hj), show (pZ p m).1.getD j dL = upL m (p.1.getD j dL) from map_getD2 hj]
    have hk := (okL_spec hp hj).2
    exact (up_ge (s := (p.1.getD j dL).2.1) (lo := 1) (M := 1000) (spB_iff.2 hk) hm w).2
  · rw [hea_of, hea_of, eT_W (p := pZ p m) hj, eT_S (p := pZ p m) hj, eT_W (p := p) hj, eT_S (p := p) hj]
    exact Int.le_refl _
  · unfold goe
    rw [eT_I (p := pZ p m) hj, eT_N (p := pZ p m) hj, eT_I (p := p) hj, eT_N (p := p) hj]
    exact Int.le_refl _
end Go.Proofs.YtbidmbjkjpdgdaaDoor.Abs

/-
  The law GroundMore, as a function of data, holds for every input.
-/
set_option linter.unusedVariables false
set_option linter.unusedSimpArgs false
set_option maxRecDepth 100000
namespace Go.Proofs.YtbidmbjkjpdgdaaDoor.Abs

theorem iter_go {α : Type} {step : α → Option (Nat × α)} {n k : Nat} (F : Nat → α) (Y : α) (hgo : ∀ i, i < n → step (F i) = some (0, F (i + 1))) (hend : step (F n) = some (k + 1, Y)) : ∀ (m i fuel : Nat), i + m = n → m < fuel → iter step fuel (F i) = some (k, Y)
  | _, _, 0, _, h => by omega
  | 0, i, fuel + 1, h, _ => by
    obtain rfl : i = n := by omega
    exact iter_out hend
  | m + 1, i, fuel + 1, h, hf => by
    rw [iter_one (hgo i (by omega))]
    exact iter_go F Y hgo hend m (i + 1) fuel (by omega) (by omega)
theorem take_mapS {α β : Type} {l : List α} {f : α → β} {i : Nat} {d : α} (hi : i < l.length) : (l.take (i + 1)).map f = (l.take i).map f ++ [f (l.getD i d)] := by
  rw [List.take_add_one, List.map_append, List.getD_eq_getElem?_getD, List.getElem?_eq_getElem hi]
  rfl
theorem wr1 {i : Nat} (h : i < 2 ^ 62) : IntKind.wrap .i64 ((i : Int) + 1) = ((i + 1 : Nat) : Int) := by rw [wr (by omega) (by omega)]; omega
theorem lt_int {i n : Nat} (h : i < n) : decide ((i : Int) < (n : Int)) = true := by simp; omega
theorem nlt_int (n : Nat) : decide ((n : Int) < (n : Int)) = false := by simp
theorem span33 (x y m M : Int) (h1 : -9000000000 ≤ x + m ∧ x + m ≤ 9000000000) (h2 : -9000000000 ≤ y + m ∧ y + m ≤ 9000000000) : g33_taliklaw01_span (if IntKind.wrap .i64 (x + m) < M then IntKind.wrap .i64 (x + m) else M) (if IntKind.wrap .i64 (y + m) < M then IntKind.wrap .i64 (y + m) else M) = some (up (x, (y, ())) m M) := by
  rw [wr (n := x + m) (by omega) (by omega), wr (n := y + m) (by omega) (by omega)]
  rfl
theorem more_l0 {p : E25} (hp : okPl p = true) (l : List E72) {a b : Int} (ha : 0 ≤ a) (hab : a ≤ b) (hb : b ≤ 100) (sn : Int) {me : Int} (hm : 0 ≤ me) (hm9 : me ≤ 1000) (r : Bool) (wx : E23) (y : E25) :
    g11_taliklaw01_GroundMore_l0_run ((l, (a, (b, (sn, (me, (r, (0, ()))))))), (p, (([], (wx, ())), (y, (([], p.2), ()))))) =
      some (0, ((l, (a, (b, (sn, (me, (r, ((p.1.length : Int), ()))))))), (p, ((p.1.map (cutL a b), (wx, ())), (y, ((p.1.map (upL me), p.2), ())))))) := by
  have hn := (okPl_len hp).2
  exact iter_go (step := g11_taliklaw01_GroundMore_l0_step) (n := p.1.length) (k := 0) (fun i => ((l, (a, (b, (sn, (me, (r, ((i : Int), ()))))))), (p, (((p.1.take i).map (cutL a b), (wx, ())), (y, (((p.1.take i).map (upL me), p.2), ())))))) _
    (fun i hi => by
      have hk := okL_spec hp hi
      have hN : g35_taliklaw01_narrow (p.1.getD i dL).2.1 a b = some (cut (p.1.getD i dL).2.1 a b) := narrow35 (spB_iff.2 (by omega)) ha hab hb
      have hS := span33 (p.1.getD i dL).2.1.1 (p.1.getD i dL).2.1.2.1 me 1000 (by omega) (by omega)
      have e1 : ∀ {β : Type} (x : β), decide (((p.1.take i).map (cutL a b)).length + [x].length ≤ LIM) = true := fun x => lim_ok (by simp; omega)
      have e2 : ∀ {β : Type} (x : β), decide (((p.1.take i).map (upL me)).length + [x].length ≤ LIM) = true := fun x => lim_ok (by simp; omega)
      rw [take_mapS (f := cutL a b) (d := dL) hi, take_mapS (f := upL me) (d := dL) hi]
      simp only [g11_taliklaw01_GroundMore_l0_step, lt_int hi, inside_lt hi, cond_true, getD_toNat, wr1 (i := i) (by omega)]
      rw [show (0, ((0, (0, ())), ())) = dL from rfl, hN]
      simp only [Option.bind_some, e1, cond_true]
      rw [hS]
      simp only [Option.bind_some, e2, cond_true]
      rfl)
    (by simp only [g11_taliklaw01_GroundMore_l0_step, nlt_int, cond_false, List.take_length])
    p.1.length 0 _ (by omega) (by simp [g11_taliklaw01_GroundMore_l0_fuel])
theorem more_l1 {l : List E72} (hl : l.length ≤ 12) (hy : l.all okY = true) (p : E25) {a b : Int} (ha : 0 ≤ a) (hab : a ≤ b) (hb : b ≤ 100) {sn : Int} (hs : 0 ≤ sn) (hs9 : sn ≤ 1000) (r : Bool) (x y z : E25) :
    g11_taliklaw01_GroundMore_l1_run ((l, (a, (b, (sn, (r, ([], ([], (0, ())))))))), (p, (x, (y, (z, ()))))) =
      some (0, ((l, (a, (b, (sn, (r, (l.map (cutY a b), (l.map (upY sn), ((l.length : Int), ())))))))), (p, (x, (y, (z, ())))))) := by
  exact iter_go (step := g11_taliklaw01_GroundMore_l1_step) (n := l.length) (k := 0) (fun i => ((l, (a, (b, (sn, (r, ((l.take i).map (cutY a b), ((l.take i).map (upY sn), ((i : Int), ())))))))), (p, (x, (y, (z, ())))))) _
    (fun i hi => by
      obtain ⟨k1, k2, k3⟩ := okY_spec hy hi
      have h1 : g35_taliklaw01_narrow (l.getD i dY).1 a b = some (cut (l.getD i dY).1 a b) := narrow35 (spB_iff.2 k1) ha hab hb
      have h2 : g35_taliklaw01_narrow (l.getD i dY).2.1 a b = some (cut (l.getD i dY).2.1 a b) := narrow35 (spB_iff.2 k2) ha hab hb
      have h3 : g35_taliklaw01_narrow (l.getD i dY).2.2.1 a b = some (cut (l.getD i dY).2.2.1 a b) := narrow35 (spB_iff.2 (by omega)) ha hab hb
      have hS := span33 (l.getD i dY).2.2.1.1 (l.getD i dY).2.2.1.2.1 sn 1000 (by omega) (by omega)
      have e1 : ∀ {β : Type} (x : β), decide (((l.take i).map (cutY a b)).length + [x].length ≤ LIM) = true := fun x => lim_ok (by simp; omega)
      have e2 : ∀ {β : Type} (x : β), decide (((l.take i).map (upY sn)).length + [x].length ≤ LIM) = true := fun x => lim_ok (by simp; omega)
      rw [take_mapS (f := cutY a b) (d := dY) hi, take_mapS (f := upY sn) (d := dY) hi]
      simp only [g11_taliklaw01_GroundMore_l1_step, lt_int hi, inside_lt hi, cond_true, getD_toNat, wr1 (i := i) (by omega)]
      rw [show ((0, (0, ())), ((0, (0, ())), ((0, (0, ())), ()))) = dY from rfl, h1]
      simp only [Option.bind_some]
      rw [h2]
      simp only [Option.bind_some]
      rw [h3]
      simp only [Option.bind_some, e1, cond_true]
      rw [hS]
      simp only [Option.bind_some, e2, cond_true]
      rfl)
    (by simp only [g11_taliklaw01_GroundMore_l1_step, nlt_int, cond_false, List.take_length])
    l.length 0 _ (by omega) (by simp [g11_taliklaw01_GroundMore_l1_fuel])
theorem within36 {u v : E23} (h1 : v.1 ≤ u.1) (h2 : u.2.1 ≤ v.2.1) : g36_taliklaw01_within u v = some true := by
  unfold g36_taliklaw01_within
  rw [decide_eq_true (show u.1 ≥ v.1 from h1), decide_eq_true h2]; rfl
theorem more_l2 {p : E25} {l : List E72} {a b h s m : Int} (hl : l.length ≤ 12) (hp : okPl p = true) (hy : l.all okY = true) (ha : 0 ≤ a) (hab : a ≤ b) (hb : b ≤ 100) (hh : 0 ≤ h) (hs : 0 ≤ s) (hm : 0 ≤ m) (r : Bool) (q x y z : E25) :
    ∃ u, g11_taliklaw01_GroundMore_l2_run ((l, (r, (Kno p l l.length, (Kno (pX p a b) (l.map (cutY a b)) l.length, (Kno (pY p h) (l.map (upY s)) l.length, (Kno (pZ p m) l l.length, (0, ()))))))), (q, (x, (y, (z, ()))))) = some (1, u) := by
  refine ⟨_, iter_go (step := g11_taliklaw01_GroundMore_l2_step) (n := l.length) (k := 1) (fun i => ((l, (r, (Kno p l l.length, (Kno (pX p a b) (l.map (cutY a b)) l.length, (Kno (pY p h) (l.map (upY s)) l.length, (Kno (pZ p m) l l.length, ((i : Int), ()))))))), (q, (x, (y, (z, ())))))) ((l, (r, (Kno p l l.length, (Kno (pX p a b) (l.map (cutY a b)) l.length, (Kno (pY p h) (l.map (upY s)) l.length, (Kno (pZ p m) l l.length, ((l.length : Int), ()))))))), (q, (x, (y, (z, ())))))
    (fun i hi => ?_) ?_ l.length 0 _ (by omega) (by simp [g11_taliklaw01_GroundMore_l2_fuel])⟩
  · obtain ⟨⟨b1, b2⟩, b3, b4⟩ := better_ok hl hp hy ha hab hb hi
    obtain ⟨c1, c2⟩ := warmer_ok (h := h) (m := s) hl hp hy hh hs false
    obtain ⟨c3, c4⟩ := warmer_ok (h := h) (m := s) hl hp hy hh hs true
    have k1 := c1 i hi
    have k2 := c3 i hi
    have k3 := c2 (i + 1) hi
    have k4 := c4 (i + 1) hi
    have d1 := icier_ok (m := m) hl hp hy hm false hi
    have d2 := icier_ok (m := m) hl hp hy hm true hi
    have w1 := within36 (u := (kno (pX p a b) (l.map (cutY a b)) i).1) (v := (kno p l i).1) b1 b2
    have w2 := within36 (u := (kno (pX p a b) (l.map (cutY a b)) i).2.1) (v := (kno p l i).2.1) b3 b4
    have n1 : decide ((kno (pY p h) (l.map (upY s)) i).1.1 < (kno p l i).1.1) = false := decide_eq_false (Int.not_lt.2 k1)
    have n2 : decide ((kno (pY p h) (l.map (upY s)) i).1.2.1 < (kno p l i).1.2.1) = false := decide_eq_false (Int.not_lt.2 k2)
    have n3 : decide ((kno (pY p h) (l.map (upY s)) i).2.1.1 < (kno p l i).2.1.1) = false := decide_eq_false (Int.not_lt.2 k3)
    have n4 : decide ((kno (pY p h) (l.map (upY s)) i).2.1.2.1 < (kno p l i).2.1.2.1) = false := decide_eq_false (Int.not_lt.2 k4)
    have n5 : decide ((kno (pZ p m) l i).1.1 > (kno p l i).1.1) = false := decide_eq_false (Int.not_lt.2 d1)
    have n6 : decide ((kno (pZ p m) l i).1.2.1 > (kno p l i).1.2.1) = false := decide_eq_false (Int.not_lt.2 d2)
    have g0 : decide (0 ≤ (i : Int)) = true := by simp
    simp only [g11_taliklaw01_GroundMore_l2_step, lt_int hi, g0, Bool.and_true, cond_true, cond_false, getD_toNat, Kno_len, Kno_getD hi, w1, w2, Option.bind_some, Bool.not_true, n1, n2, n3, n4, n5, n6, wr1 (i := i) (by omega)]
  · simp only [g11_taliklaw01_GroundMore_l2_step, nlt_int, cond_false]
theorem errOf_ok {p : E25} {l : List E72} (hl : l.length ≤ 12) (hp : okPl p = true) (hy : l.all okY = true) : errOf p l true = 0 := by
  unfold errOf
  rw [hp, hy, show decide ((l.length : Int) > 12) = false from decide_eq_false (by omega)]
  rfl
theorem more_true (p : E25) (l : List E72) (a b h s m : Int) : g11_taliklaw01_GroundMore p l a b h s m = some true := by
  unfold g11_taliklaw01_GroundMore
  rw [g13, known_true]
  simp only [Option.bind_some]
  cases hsh : decide (p.1.length ≤ 12) && decide (l.length ≤ 17) with
  | false => rfl
  | true =>
    simp only [Bool.not_true, cond_false]
    simp only [Bool.and_eq_true, decide_eq_true_eq] at hsh
    rw [g17 p l (by omega) (by omega)]
    simp only [Option.bind_some]
    by_cases he : errOf p l true = 0
    case neg =>
      rw [show (errOf p l true != 0) = true from by simpa using he]
      rfl
    obtain ⟨hl, _, hp, hy⟩ := errOf_zero he
    rw [he, show ((0 : Int) != 0) = false from rfl]
    simp only [cond_false]
    by_cases c1 : a < 0
    · rw [decide_eq_true c1]; rfl
    rw [decide_eq_false c1]
    by_cases c2 : a > b
    · rw [decide_eq_true c2]; rfl
    rw [decide_eq_false c2]
    by_cases c3 : b > 100
    · rw [decide_eq_true c3]; rfl
    rw [decide_eq_false c3]
    by_cases c4 : h < 0
    · rw [decide_eq_true c4]; rfl
    rw [decide_eq_false c4]
    by_cases c5 : h > 1000000
    · rw [decide_eq_true c5]; rfl
    rw [decide_eq_false c5]
    by_cases c6 : s < 0
    · rw [decide_eq_true c6]; rfl
    rw [decide_eq_false c6]
    by_cases c7 : s > 1000
    · rw [decide_eq_true c7]; rfl
    rw [decide_eq_false c7]
    by_cases c8 : m < 0
    · rw [decide_eq_true c8]; rfl
    rw [decide_eq_false c8]
    by_cases c9 : m > 1000
    · rw [decide_eq_true c9]; rfl
    rw [decide_eq_false c9]
    simp only [cond_false]
    have ha : 0 ≤ a := by omega
    have hab : a ≤ b := by omega
    have hb : b ≤ 100 := by omega
    have hw := okPl_warm hp
    have hN : g35_taliklaw01_narrow p.2.1 a b = some (cut p.2.1 a b) := narrow35 (ok_warm hp) ha hab hb
    have hS := span33 p.2.1.1 p.2.1.2.1 h 1000000 (by omega) (by omega)
    have L0 := more_l0 hp l ha hab hb s (me := m) (by omega) (by omega) false (cut p.2.1 a b) (p.1, (up p.2.1 h 1000000, p.2.2))
    have L1 := more_l1 hl hy p ha hab hb (sn := s) (by omega) (by omega) false (pX p a b) (pY p h) (pZ p m)
    rw [hN]
    simp only [Option.bind_some]
    rw [hS]
    simp only [Option.bind_some]
    have L0' : g11_taliklaw01_GroundMore_l0_run ((l, (a, (b, (s, (m, (false, (0, ()))))))), (p, (([], (cut p.2.1 a b, p.2.2)), ((p.1, (up (p.2.1.1, (p.2.1.2.1, ())) h 1000000, p.2.2)), (([], p.2), ()))))) = _ := L0
    rw [L0']
    simp only [Option.bind_some]
    have L1' : g11_taliklaw01_GroundMore_l1_run ((l, (a, (b, (s, (false, ([], ([], (0, ())))))))), (p, ((p.1.map (cutL a b), (cut p.2.1 a b, ())), ((p.1, (up p.2.1 h 1000000, p.2.2)), ((p.1.map (upL m), p.2), ()))))) = _ := L1
    rw [L1']
    simp only [Option.bind_some]
    have y1 := g23_ok (p := p) (l := l) he
    have y2 := g23_ok (p := pX p a b) (l := l.map (cutY a b)) (errOf_ok (by simpa using hl) (ok_pX hp ha hab hb) (ok_lX hy ha hab hb))
    have y3 := g23_ok (p := pY p h) (l := l.map (upY s)) (errOf_ok (by simpa using hl) (ok_pY hp (by omega)) (ok_lY hy (by omega)))
    have y4 := g23_ok (p := pZ p m) (l := l) (errOf_ok hl (ok_pZ hp (by omega)) hy)
    rw [List.length_map] at y2 y3
    have y2' : g23_ground_Years ((pX p a b).1, ((pX p a b).2.1, (pX p a b).2.2)) (l.map (cutY a b)) = _ := y2
    have y3' : g23_ground_Years ((pY p h).1, ((pY p h).2.1, (pY p h).2.2)) (l.map (upY s)) = _ := y3
    have y4' : g23_ground_Years ((pZ p m).1, (pZ p m).2) l = _ := y4
    obtain ⟨u, hu⟩ := more_l2 (p := p) (l := l) (a := a) (b := b) (h := h) (s := s) (m := m) hl hp hy ha hab hb (by omega) (by omega) (by omega) false p (pX p a b) (pY p h) (pZ p m)
    rw [y1, y2', y3', y4']
    simp only [Option.bind_some, show ((0 : Int) != 0) = false from rfl, cond_false, Kno_len, bne_self_eq_false]
    have hu' : g11_taliklaw01_GroundMore_l2_run ((l, (false, (Kno p l l.length, (Kno (pX p a b) (l.map (cutY a b)) l.length, (Kno (pY p h) (l.map (upY s)) l.length, (Kno (pZ p m) l l.length, (0, ()))))))), (p, (((pX p a b).1, ((pX p a b).2.1, (pX p a b).2.2)), (((pY p h).1, ((pY p h).2.1, (pY p h).2.2)), (((pZ p m).1, (pZ p m).2), ()))))) = _ := hu
    rw [hu']
    rfl
theorem g11_taliklaw01_GroundMore_true (x : Els [.dat T25, .dat (.list T72), .dat (.int .i64), .dat (.int .i64), .dat (.int .i64), .dat (.int .i64), .dat (.int .i64)]) : g11_taliklaw01_GroundMore x.1 x.2.1 x.2.2.1 x.2.2.2.1 x.2.2.2.2.1 x.2.2.2.2.2.1 x.2.2.2.2.2.2.1 = some true := more_true _ _ _ _ _ _ _
end Go.Proofs.YtbidmbjkjpdgdaaDoor.Abs

/-
  talik/taliklaw01.GroundMore: for every input the law returns true; its arguments read as they did. No condition.
-/
set_option linter.unusedVariables false
set_option maxRecDepth 100000
namespace Go.Proofs.YtbidmbjkjpdgdaaDoor.Abs.groundMore
open Go.ChangeShapes Go.WideShapes Go.RowKit
theorem own : ownKnob Tryd.prog.godebug = none := by kernel_rfl
theorem laidOut : laidOutB Tryd.prog = true := by kernel_rfl
theorem gTab : Tryd.prog.globalNamed "internal/strconv.uint64pow10" = some 0 := by kernel_rfl
theorem gTabType : (Tryd.prog.globals[0]?).map (·.type) = some 139 := by kernel_rfl
theorem cellsT : Tryd.prog.cellsOf 139 = 20 := by kernel_rfl
theorem cellsE : Tryd.prog.cellsOf 132 = 1 := by kernel_rfl
theorem undT : Tryd.prog.underlying 139 = some (.array 20 132) := by kernel_rfl
theorem undE : Tryd.prog.underlying 132 = some (.int .u64) := by kernel_rfl
theorem table {W : World} (h : laidMetH Tryd.prog Rows.groundMoreRow.laid W) : Lib.TabIs Tryd.prog W "internal/strconv.uint64pow10" .u64 [1, 10, 100, 1000, 10000, 100000, 1000000, 10000000, 100000000, 1000000000, 10000000000, 100000000000, 1000000000000, 10000000000000, 100000000000000, 1000000000000000, 10000000000000000, 100000000000000000, 1000000000000000000, 10000000000000000000] :=
  Lib.tabIs_of_head (rest := []) gTab gTabType undT undE cellsE cellsT (laidMet.tail (laidMet.tail (h)))
theorem tabOk {W : World} (h : laidMetH Tryd.prog Rows.groundMoreRow.laid W) : ∀ q ∈ TABS, ∃ e fr, W.heap[q.1]? = some (.cells q.2 e fr) := by
  have ht := table h
  unfold Lib.TabIs World.var? at ht
  rw [gTab] at ht
  simp only [Option.bind_some] at ht
  intro q hq
  have hq' : q = (0, _) := List.mem_singleton.1 hq
  subst hq'
  show ∃ e fr, W.heap[0]? = _
  split at ht
  · rename_i cs e fr hc
    exact ⟨e, fr, by rw [hc]; simp only [Option.some.injEq] at ht; rw [ht]; rfl⟩
  · cases ht
noncomputable def laidWorld (os : Os) : World :=
  { World.holding Tryd.prog os ⟨#[], #[], []⟩ with heap := ((((World.holding Tryd.prog os ⟨#[], #[], []⟩).heap.modify 1 fun | .cells _ t frozen => .cells #[.int .u8 0, .int .u8 1, .int .u8 28, .int .u8 2, .int .u8 29, .int .u8 14, .int .u8 24, .int .u8 3, .int .u8 30, .int .u8 22, .int .u8 20, .int .u8 15, .int .u8 25, .int .u8 17, .int .u8 4, .int .u8 8, .int .u8 31, .int .u8 27, .int .u8 13, .int .u8 23, .int .u8 21, .int .u8 19, .int .u8 16, .int .u8 7, .int .u8 26, .int .u8 12, .int .u8 18, .int .u8 6, .int .u8 11, .int .u8 5, .int .u8 10, .int .u8 9] t frozen | o => o).modify 2 fun | .cells _ t frozen => .cells #[.int .u8 0, .int .u8 1, .int .u8 56, .int .u8 2, .int .u8 57, .int .u8 49, .int .u8 28, .int .u8 3, .int .u8 61, .int .u8 58, .int .u8 42, .int .u8 50, .int .u8 38, .int .u8 29, .int .u8 17, .int .u8 4, .int .u8 62, .int .u8 47, .int .u8 59, .int .u8 36, .int .u8 45, .int .u8 43, .int .u8 51, .int .u8 22, .int .u8 53, .int .u8 39, .int .u8 33, .int .u8 30, .int .u8 24, .int .u8 18, .int .u8 12, .int .u8 5, .int .u8 63, .int .u8 55, .int .u8 48, .int .u8 27, .int .u8 60, .int .u8 41, .int .u8 37, .int .u8 16, .int .u8 46, .int .u8 35, .int .u8 44, .int .u8 21, .int .u8 52, .int .u8 32, .int .u8 23, .int .u8 11, .int .u8 54, .int .u8 26, .int .u8 40, .int .u8 15, .int .u8 34, .int .u8 20, .int .u8 31, .int .u8 10, .int .u8 25, .int .u8 14, .int .u8 19, .int .u8 9, .int .u8 13, .int .u8 8, .int .u8 7, .int .u8 6] t frozen | o => o).modify 0 fun | .cells _ t frozen => .cells #[.int .u64 1, .int .u64 10, .int .u64 100, .int .u64 1000, .int .u64 10000, .int .u64 100000, .int .u64 1000000, .int .u64 10000000, .int .u64 100000000, .int .u64 1000000000, .int .u64 10000000000, .int .u64 100000000000, .int .u64 1000000000000, .int .u64 10000000000000, .int .u64 100000000000000, .int .u64 1000000000000000, .int .u64 10000000000000000, .int .u64 100000000000000000, .int .u64 1000000000000000000, .int .u64 10000000000000000000] t frozen | o => o) }
theorem laid_met (os : Os) : laidMet Tryd.prog Rows.groundMoreRow.laid ((laidWorld os).forCall (fun _ _ => 0) ⟨#[], #[(Value.agg #[.slice none 0 0, .int .i64 0, .int .i64 0]), (Value.slice none 0 0), (Value.int .i64 0), (Value.int .i64 0), (Value.int .i64 0), (Value.int .i64 0), (Value.int .i64 0)], []⟩).memory :=
  laidMet_of_run' 8 (by kernel_rfl) (by kernel_rfl)
theorem reads (os : Os) {H : Type} (enc : TypeId × Value → H) : ∃ places, DataW.whole enc Tryd.prog ((laidWorld os).forCall (fun _ _ => 0) ⟨#[], #[(Value.agg #[.slice none 0 0, .int .i64 0, .int .i64 0]), (Value.slice none 0 0), (Value.int .i64 0), (Value.int .i64 0), (Value.int .i64 0), (Value.int .i64 0), (Value.int .i64 0)], []⟩).memory Tryd.f11.params.toList Rows.groundMoreSpec.vars false #[(Value.agg #[.slice none 0 0, .int .i64 0, .int .i64 0]), (Value.slice none 0 0), (Value.int .i64 0), (Value.int .i64 0), (Value.int .i64 0), (Value.int .i64 0), (Value.int .i64 0)].toList 16 = some ([.agg [.nil, .agg [.lit (.int .i64 0), .lit (.int .i64 0)]], .nil, .lit (.int .i64 0), .lit (.int .i64 0), .lit (.int .i64 0), .lit (.int .i64 0), .lit (.int .i64 0)], [], places) :=
  ⟨[], by kernel_rfl⟩
theorem spec_fn (H : Type) : (ds : List (DataW H)) → ds.length = Tryd.f11.params.toList.length → (Rows.groundMoreSpec.fn H ds).results = [.lit (.bool true)] ∧ (Rows.groundMoreSpec.fn H ds).args = ds ∧ (Rows.groundMoreSpec.fn H ds).vars = []
  | [], h => by rw [show Tryd.f11.params.toList.length = 7 from by kernel_rfl] at h; simp at h
  | [d0], h => by rw [show Tryd.f11.params.toList.length = 7 from by kernel_rfl] at h; simp at h
  | [d0, d1], h => by rw [show Tryd.f11.params.toList.length = 7 from by kernel_rfl] at h; simp at h
  | [d0, d1, d2], h => by rw [show Tryd.f11.params.toList.length = 7 from by kernel_rfl] at h; simp at h
  | [d0, d1, d2, d3], h => by rw [show Tryd.f11.params.toList.length = 7 from by kernel_rfl] at h; simp at h
  | [d0, d1, d2, d3, d4], h => by rw [show Tryd.f11.params.toList.length = 7 from by kernel_rfl] at h; simp at h
  | [d0, d1, d2, d3, d4, d5], h => by rw [show Tryd.f11.params.toList.length = 7 from by kernel_rfl] at h; simp at h
  | [d0, d1, d2, d3, d4, d5, d6], _ => ⟨rfl, rfl, rfl⟩
  | d0 :: d1 :: d2 :: d3 :: d4 :: d5 :: d6 :: _ :: _, h => by rw [show Tryd.f11.params.toList.length = 7 from by kernel_rfl] at h; simp at h
theorem contract (H : Type) (enc : TypeId × Value → H) (W : World) (base : Nat) (args : Array Value) (ds gs : List (DataW H)) (before : List MemPlace)
    (hval : ∀ (j : Nat) t v, Tryd.f11.params[j]? = some t → args[j]? = some v → Value.okWide Tryd.prog W .any base t v)
    (hW : DataW.Whole enc Tryd.prog Tryd.f11.params.toList Rows.groundMoreSpec.vars false W args.toList ds gs before) (hL : laidMetH Tryd.prog Rows.groundMoreRow.laid W) :
    Calls Tryd.prog 11 args W fun e W' => ∃ v, e = .returned v ∧ Rows.groundMoreSpec.post enc Tryd.prog Tryd.f11 false true false false W args v W' :=
  law_contract (n := 20) (fun x r h => g11_taliklaw01_GroundMore_lcall x r h) (fun x => g11_taliklaw01_GroundMore_true x) (by decide) (show Tryd.f11.resultTypes = #[4] by kernel_rfl) (by kernel_rfl) (by kernel_rfl) laidOut (by
    intro t ht
    have : (Tryd.f11.params.toList.all fun t => Tryd.prog.readableRec t && decide (t < Tryd.prog.types.size)) = true := by kernel_rfl
    have := List.all_eq_true.1 this t ht
    simpa using this) rfl spec_fn hval hW (tabOk hL)
theorem lifted (os : Os) (started : os.Started) (H : Type) (enc : TypeId × Value → H) (F : Stop.Interp) :
    ReturnsInHanded {} Tryd.checked os 11 .any ((OpenSpec.ofChange Rows.groundMoreSpec).preRow enc Tryd.prog Tryd.f11 Rows.groundMoreRow.domain false Rows.groundMoreRow.laid) (((OpenSpec.ofChange Rows.groundMoreSpec).at F).post enc Tryd.prog Tryd.f11 false true false false) := by
  obtain ⟨places, hx⟩ := reads os enc
  refine returnsInHanded_of_row (C := Tryd.checked) (s := OpenSpec.ofChange Rows.groundMoreSpec) own started (by kernel_rfl) Tryd.func11
    (witness_row_at (enc := enc) (C := Tryd.checked) false (laidWorld os) #[(Value.agg #[.slice none 0 0, .int .i64 0, .int .i64 0]), (Value.slice none 0 0), (Value.int .i64 0), (Value.int .i64 0), (Value.int .i64 0), (Value.int .i64 0), (Value.int .i64 0)] rfl (by kernel_rfl) (by kernel_rfl) (by kernel_rfl)
      (OpenSpec.preRow_of_cond 16 hx (by kernel_rfl) (fun k hk => by cases hk) (by kernel_rfl) (laid_met os))) ?_
  intro W base args ds gs before hval hW _ _ _ hL _ _
  exact contract H enc W base args ds gs before hval hW hL
theorem said : Rows.GroundMoreSaid :=
  OpenClaim.holds_of_cond 11 Tryd.f11 rfl rfl rfl rfl rfl rfl rfl ⟨rfl, rfl, rfl, rfl, rfl⟩ rfl rfl rfl rfl rfl (by kernel_rfl) Tryd.func11 (by kernel_rfl)
    (of_decide_eq_true (by kernel_rfl)) (by unfold Func.isWrapper; first | (rw [if_pos (by decide +kernel)]; kernel_rfl) | (rw [if_neg (by decide +kernel)]; exact ⟨rfl, rfl⟩))
    (fun os started H enc _ F => by rw [OpenClaim.pre_eq_preRow]; exact lifted os started H enc F)
theorem plain (f : FuncId) (fn : Func) (hf : Tryd.pinned.checked.prog.funcNamed "talik/taliklaw01.GroundMore" = some f) (hfn : Tryd.pinned.checked.prog.funcs[f]? = some fn) :
    false = Tryd.pinned.checked.prog.looks [] ∧ ∀ (j : Nat) t, fn.params[j]? = some t → Tryd.pinned.checked.prog.wantsStandIn t = false := by
  obtain rfl : f = 11 := Option.some.inj ((show Tryd.prog.funcNamed "talik/taliklaw01.GroundMore" = some 11 by kernel_rfl).symm.trans hf) |>.symm
  obtain rfl : fn = Tryd.f11 := (Option.some.inj (Tryd.func11.symm.trans hfn)).symm
  refine ⟨by kernel_rfl, fun j t ht => ?_⟩
  have h : (Tryd.f11.params.toList.all fun t => !Tryd.prog.wantsStandIn t) = true := by kernel_rfl
  have := List.all_eq_true.1 h t (by rw [← Array.getElem?_toList] at ht; exact List.mem_of_getElem? ht)
  exact (show Tryd.prog.wantsStandIn t = false by simpa using this)
theorem card : Rows.GroundMoreCardSaid :=
  Claim7.holds_tied_plain_at .later [] _ _ _ _ said (fun _ h => by cases h) (by kernel_rfl) (fun _ h => by cases h) groundMore_row_tie rfl ⟨rfl, rfl⟩ (by kernel_rfl) rfl plain (by kernel_rfl)
end Go.Proofs.YtbidmbjkjpdgdaaDoor.Abs.groundMore
namespace Go.Proofs.YtbidmbjkjpdgdaaDoor
theorem groundMore_card : Rows.GroundMoreCardSaid := Abs.groundMore.card
end Go.Proofs.YtbidmbjkjpdgdaaDoor
