import Derived.Test.YtcijddeommognaaDoorF3
import Derived.Test.YtcijddeommognaaDoorCards
import Derived.Test.YtcijddeommognaaDoorTie
import Derived.Test.YtcijddeommognaaDoorA3
import Derived.WalkKit
import Derived.ProofKit
import Derived.OpenShut
import Derived.Deep.DeepHandedRow
import Derived.Lib.LaidTab
import Derived.Stop.LaidErr
/-
  A law of the store layer as a typed function. Printed by a program of mine (gen.py).
-/
set_option linter.unusedVariables false
set_option maxRecDepth 100000
namespace Go.Proofs.YtcijddeommognaaDoor.Abs
open Go.Shelf Go.Sort
noncomputable def g3_taliklaw06_StoreKeeps_C : CalT := tabC [g15_taliklaw06_short_E, g20_taliklaw06_known_E, g16_talikref06_Store_E, g17_talikref06_Plan_E, g18_taliklaw06_ice_E, g19_taliklaw06_winter_E, g21_store_Run_E, g22_talikref06_Has_E, g23_talikref06_Arrives_E]
theorem g3_taliklaw06_StoreKeeps_CV : CV Tryd.prog g3_taliklaw06_StoreKeeps_C := tabC_valid (l := [g15_taliklaw06_short_E, g20_taliklaw06_known_E, g16_talikref06_Store_E, g17_talikref06_Plan_E, g18_taliklaw06_ice_E, g19_taliklaw06_winter_E, g21_store_Run_E, g22_talikref06_Has_E, g23_talikref06_Arrives_E]) ⟨g15_taliklaw06_short_valid, g20_taliklaw06_known_valid, g16_talikref06_Store_valid, g17_talikref06_Plan_valid, g18_taliklaw06_ice_valid, g19_taliklaw06_winter_valid, g21_store_Run_valid, g22_talikref06_Has_valid, g23_talikref06_Arrives_valid, trivial⟩
noncomputable def g3_taliklaw06_StoreKeeps_l0_c : Code := loopAt (bodyOf Tryd.f3) 0
noncomputable def g3_taliklaw06_StoreKeeps_l1_c : Code := loopAt (bodyOf Tryd.f3) 1
noncomputable def g3_taliklaw06_StoreKeeps_l2_c : Code := loopAt g3_taliklaw06_StoreKeeps_l1_c 0
noncomputable def g3_taliklaw06_StoreKeeps_l3_c : Code := loopAt g3_taliklaw06_StoreKeeps_l1_c 1
noncomputable def g3_taliklaw06_StoreKeeps_l0_S : SPat := ⟨[.any, .dat (.int .i64), .dat (.int .i64), .dat (.int .i64), .fix (.bptr 0 []), .any, .any, .any, .dat .bool, .fix (.bptr 1 []), .any, .dat (.int .i64), .dat (.int .i64), .dat (.int .i64), .any, .any, .any, .any, .any, .any, .any, .any, .any, .any, .any, .any, .any, .any, .any, .any, .any, .any, .any, .any, .any, .any, .any, .any, .any, .any, .any, .any, .any, .any, .any, .any, .any, .any, .any, .any, .any, .any, .any, .any, .any, .any, .any, .any, .any, .any, .any, .any, .any, .any, .any, .any, .any, .any, .any, .any, .any, .any, .any, .any, .any, .any, .any, .any, .any, .any, .any, .any, .any, .any, .any, .any, .any, .any, .any, .any, .any, .any, .any, .any, .any, .any, .any, .any, .any, .any, .any, .any, .any, .any, .any, .any, .any, .any, .any, .any, .any, .any, .any, .any, .any, .any, .any, .any, .any, .any, .any, .any, .any, .any, .any, .any, .any, .any, .any, .any, .any, .any, .any, .any, .any, .any, .any, .any, .any, .any, .any, .any, .any, .any, .any, .any, .any, .any, .any, .any, .any, .any, .any, .any, .any, .any, .any, .any, .any, .any, .any, .any, .any, .any, .any, .any, .any, .any, .any, .any, .any, .any, .any, .any, .any, .any, .any, .any, .any, .any, .any, .any, .any, .any, .any, .any, .any, .any, .any, .any, .any, .any, .any, .any, .any, .any, .any, .any, .any, .any, .any, .any, .any, .any, .any, .any, .any, .any, .any, .any, .any, .any, .any, .any, .any, .any, .any, .any, .any, .any, .any, .any, .any, .any, .any, .any, .any, .any, .any, .any, .any, .any, .any, .any, .any, .any, .any, .any, .any, .any, .any, .any, .any, .any, .any, .any, .any, .any, .any, .any, .any, .any, .any, .any, .any, .any, .any, .any, .any, .any, .any, .any, .any, .any, .any, .any, .any, .any, .any, .any, .any, .any, .any, .any, .any, .any, .any, .any], [.dat T27, .dat T33], 0⟩
abbrev TY101 : Type := ((Int × (Int × (Int × (Bool × (Int × (Int × (Int × Unit))))))) × (E27 × (E33 × Unit)))
abbrev TY102 : Type := (Nat × ((Int × (Int × (Int × (Bool × (Int × (Int × (Int × Unit))))))) × (E27 × (E33 × Unit))))
noncomputable def g3_taliklaw06_StoreKeeps_l0_step (s : TY101) : Option TY102 :=
  (bif (decide (s.1.2.2.2.2.2.2.1 < s.2.1.2.2.2.2.1)) then
  (bif (decide (0 ≤ s.1.2.1) && decide (s.1.2.1 < (List.length s.2.1.2.2.2.2.2.2.1 : Int))) then
    (bif (decide (0 ≤ s.1.2.2.2.2.2.2.1) && decide (s.1.2.2.2.2.2.2.1 < (List.length (List.getD s.2.1.2.2.2.2.2.2.1 (Int.toNat s.1.2.1) []) : Int))) then
      (bif (List.getD (List.getD s.2.1.2.2.2.2.2.2.1 (Int.toNat s.1.2.1) []) (Int.toNat s.1.2.2.2.2.2.2.1) false) then
        some (0, ((s.1.1, (s.1.2.1, (s.1.2.2.1, (s.1.2.2.2.1, (s.1.2.2.2.2.1, ((IntKind.wrap .i64 (s.1.2.2.2.2.2.1 + 1)), ((IntKind.wrap .i64 (s.1.2.2.2.2.2.2.1 + 1)), ()))))))), (s.2.1, (s.2.2.1, ()))))
        else
        some (0, ((s.1.1, (s.1.2.1, (s.1.2.2.1, (s.1.2.2.2.1, (s.1.2.2.2.2.1, (s.1.2.2.2.2.2.1, ((IntKind.wrap .i64 (s.1.2.2.2.2.2.2.1 + 1)), ()))))))), (s.2.1, (s.2.2.1, ())))))
      else
      none)
    else
    none)
  else
  some (1, ((s.1.1, (s.1.2.1, (s.1.2.2.1, (s.1.2.2.2.1, (s.1.2.2.2.2.1, (s.1.2.2.2.2.2.1, (s.1.2.2.2.2.2.2.1, ()))))))), (s.2.1, (s.2.2.1, ())))))
noncomputable def g3_taliklaw06_StoreKeeps_l0_fuel (s : TY101) : Nat := Int.toNat (s.2.1.2.2.2.2.1 - s.1.2.2.2.2.2.2.1) + 1
noncomputable def g3_taliklaw06_StoreKeeps_l0_run (s : TY101) : Option TY102 := iter g3_taliklaw06_StoreKeeps_l0_step (g3_taliklaw06_StoreKeeps_l0_fuel s) s
noncomputable def g3_taliklaw06_StoreKeeps_l0_L : LoopT := loopT g3_taliklaw06_StoreKeeps_l0_S [.exit 0] g3_taliklaw06_StoreKeeps_l0_run
noncomputable def g3_taliklaw06_StoreKeeps_l2_S : SPat := ⟨[.any, .dat (.int .i64), .dat (.int .i64), .dat (.int .i64), .fix (.bptr 0 []), .any, .any, .any, .dat .bool, .fix (.bptr 1 []), .any, .dat (.int .i64), .dat (.int .i64), .any, .dat (.int .i64), .dat (.int .i64), .dat (.int .i64), .any, .any, .any, .any, .any, .any, .any, .any, .any, .any, .any, .any, .any, .any, .any, .any, .any, .any, .any, .any, .any, .any, .any, .any, .any, .any, .any, .any, .any, .any, .any, .any, .any, .any, .any, .any, .any, .any, .any, .any, .any, .any, .any, .any, .any, .any, .any, .any, .any, .any, .any, .any, .any, .any, .any, .any, .any, .any, .any, .any, .any, .any, .any, .any, .any, .any, .any, .any, .any, .any, .any, .any, .any, .any, .any, .any, .any, .any, .any, .any, .any, .any, .any, .any, .any, .any, .any, .any, .any, .any, .any, .any, .any, .any, .any, .any, .any, .any, .any, .any, .any, .any, .any, .any, .any, .any, .any, .any, .any, .any, .any, .any, .any, .any, .any, .any, .any, .any, .any, .any, .any, .any, .any, .any, .any, .any, .any, .any, .any, .any, .any, .any, .any, .any, .any, .any, .any, .any, .any, .any, .any, .any, .any, .any, .any, .any, .any, .any, .any, .any, .any, .any, .any, .any, .any, .any, .any, .any, .any, .any, .any, .any, .any, .any, .any, .any, .any, .any, .any, .any, .any, .any, .any, .any, .any, .any, .any, .any, .any, .any, .any, .any, .any, .any, .any, .any, .any, .any, .any, .any, .any, .any, .any, .any, .any, .any, .any, .any, .any, .any, .any, .any, .any, .any, .any, .any, .any, .any, .any, .any, .any, .any, .any, .any, .any, .any, .any, .any, .any, .any, .any, .any, .any, .any, .any, .any, .any, .any, .any, .any, .any, .any, .any, .any, .any, .any, .any, .any, .any, .any, .any, .any, .any, .any, .any, .any, .any, .any, .any, .any, .any, .any, .any, .any, .any, .any, .any, .any, .any, .any, .any], [.dat T27, .dat T33], 0⟩
abbrev TY103 : Type := ((Int × (Int × (Int × (Bool × (Int × (Int × (Int × (Int × (Int × Unit))))))))) × (E27 × (E33 × Unit)))
abbrev TY104 : Type := (Nat × ((Int × (Int × (Int × (Bool × (Int × (Int × (Int × (Int × (Int × Unit))))))))) × (E27 × (E33 × Unit))))
noncomputable def g3_taliklaw06_StoreKeeps_l2_step (s : TY103) : Option TY104 :=
  (bif (decide (s.1.2.2.2.2.2.2.2.2.1 < (List.length s.2.1.2.2.2.2.2.1 : Int))) then
  (bif (decide (0 ≤ s.1.2.2.2.2.2.2.2.2.1) && decide (s.1.2.2.2.2.2.2.2.2.1 < (List.length s.2.2.1.1 : Int))) then
    (bif (decide (0 ≤ s.1.2.2.2.2.2.2.1) && decide (s.1.2.2.2.2.2.2.1 < (3 : Int))) then
      (bif (decide ((List.getD (List.getD s.2.2.1.1 (Int.toNat s.1.2.2.2.2.2.2.2.2.1) (List.replicate 3 0)) (Int.toNat s.1.2.2.2.2.2.2.1) 0) < 0)) then
        some (1, ((s.1.1, (s.1.2.1, (s.1.2.2.1, (false, (s.1.2.2.2.2.1, (s.1.2.2.2.2.2.1, (s.1.2.2.2.2.2.2.1, (s.1.2.2.2.2.2.2.2.1, (s.1.2.2.2.2.2.2.2.2.1, ()))))))))), (s.2.1, (s.2.2.1, ()))))
        else
        (bif (decide (0 ≤ s.1.2.2.2.2.2.2.2.2.1) && decide (s.1.2.2.2.2.2.2.2.2.1 < (List.length s.2.1.2.2.2.2.2.1 : Int))) then
          (bif (decide (0 ≤ s.1.2.2.2.2.2.2.1) && decide (s.1.2.2.2.2.2.2.1 < (3 : Int))) then
            (bif (decide ((List.getD (List.getD s.2.2.1.1 (Int.toNat s.1.2.2.2.2.2.2.2.2.1) (List.replicate 3 0)) (Int.toNat s.1.2.2.2.2.2.2.1) 0) > (List.getD (List.getD s.2.1.2.2.2.2.2.1 (Int.toNat s.1.2.2.2.2.2.2.2.2.1) (0, ((List.replicate 3 0), (0, ())))).2.1 (Int.toNat s.1.2.2.2.2.2.2.1) 0))) then
              some (1, ((s.1.1, (s.1.2.1, (s.1.2.2.1, (false, (s.1.2.2.2.2.1, (s.1.2.2.2.2.2.1, (s.1.2.2.2.2.2.2.1, (s.1.2.2.2.2.2.2.2.1, (s.1.2.2.2.2.2.2.2.2.1, ()))))))))), (s.2.1, (s.2.2.1, ()))))
              else
              (bif (decide ((List.getD (List.getD s.2.2.1.1 (Int.toNat s.1.2.2.2.2.2.2.2.2.1) (List.replicate 3 0)) (Int.toNat s.1.2.2.2.2.2.2.1) 0) > 0)) then
                (Option.bind (g22_talikref06_Has s.1.1 s.1.2.2.2.2.2.2.2.2.1) fun r13 =>
                  (bif (!r13) then
                    some (1, ((s.1.1, (s.1.2.1, (s.1.2.2.1, (false, (s.1.2.2.2.2.1, (s.1.2.2.2.2.2.1, (s.1.2.2.2.2.2.2.1, (s.1.2.2.2.2.2.2.2.1, (s.1.2.2.2.2.2.2.2.2.1, ()))))))))), (s.2.1, (s.2.2.1, ()))))
                    else
                    (Option.bind (g23_talikref06_Arrives s.2.1 s.1.2.2.2.2.2.2.2.2.1 s.1.2.1) fun r14 =>
                      (bif (decide (r14 < 0)) then
                        some (1, ((s.1.1, (s.1.2.1, (s.1.2.2.1, (false, (s.1.2.2.2.2.1, (s.1.2.2.2.2.2.1, (s.1.2.2.2.2.2.2.1, (s.1.2.2.2.2.2.2.2.1, (s.1.2.2.2.2.2.2.2.2.1, ()))))))))), (s.2.1, (s.2.2.1, ()))))
                        else
                        some (0, ((s.1.1, (s.1.2.1, (s.1.2.2.1, (s.1.2.2.2.1, ((IntKind.wrap .i64 (s.1.2.2.2.2.1 + (List.getD (List.getD s.2.2.1.1 (Int.toNat s.1.2.2.2.2.2.2.2.2.1) (List.replicate 3 0)) (Int.toNat s.1.2.2.2.2.2.2.1) 0))), (s.1.2.2.2.2.2.1, (s.1.2.2.2.2.2.2.1, ((IntKind.wrap .i64 (s.1.2.2.2.2.2.2.2.1 + (List.getD (List.getD s.2.2.1.1 (Int.toNat s.1.2.2.2.2.2.2.2.2.1) (List.replicate 3 0)) (Int.toNat s.1.2.2.2.2.2.2.1) 0))), ((IntKind.wrap .i64 (s.1.2.2.2.2.2.2.2.2.1 + 1)), ()))))))))), (s.2.1, (s.2.2.1, ()))))))))
                else
                some (0, ((s.1.1, (s.1.2.1, (s.1.2.2.1, (s.1.2.2.2.1, ((IntKind.wrap .i64 (s.1.2.2.2.2.1 + (List.getD (List.getD s.2.2.1.1 (Int.toNat s.1.2.2.2.2.2.2.2.2.1) (List.replicate 3 0)) (Int.toNat s.1.2.2.2.2.2.2.1) 0))), (s.1.2.2.2.2.2.1, (s.1.2.2.2.2.2.2.1, ((IntKind.wrap .i64 (s.1.2.2.2.2.2.2.2.1 + (List.getD (List.getD s.2.2.1.1 (Int.toNat s.1.2.2.2.2.2.2.2.2.1) (List.replicate 3 0)) (Int.toNat s.1.2.2.2.2.2.2.1) 0))), ((IntKind.wrap .i64 (s.1.2.2.2.2.2.2.2.2.1 + 1)), ()))))))))), (s.2.1, (s.2.2.1, ()))))))
            else
            none)
          else
          none))
      else
      none)
    else
    none)
  else
  some (2, ((s.1.1, (s.1.2.1, (s.1.2.2.1, (s.1.2.2.2.1, (s.1.2.2.2.2.1, (s.1.2.2.2.2.2.1, (s.1.2.2.2.2.2.2.1, (s.1.2.2.2.2.2.2.2.1, (s.1.2.2.2.2.2.2.2.2.1, ()))))))))), (s.2.1, (s.2.2.1, ())))))
noncomputable def g3_taliklaw06_StoreKeeps_l2_fuel (s : TY103) : Nat := Int.toNat ((List.length s.2.1.2.2.2.2.2.1 : Int) - s.1.2.2.2.2.2.2.2.2.1) + 1
noncomputable def g3_taliklaw06_StoreKeeps_l2_run (s : TY103) : Option TY104 := iter g3_taliklaw06_StoreKeeps_l2_step (g3_taliklaw06_StoreKeeps_l2_fuel s) s
noncomputable def g3_taliklaw06_StoreKeeps_l2_L : LoopT := loopT g3_taliklaw06_StoreKeeps_l2_S [.ret, .exit 4] g3_taliklaw06_StoreKeeps_l2_run
noncomputable def g3_taliklaw06_StoreKeeps_l3_S : SPat := ⟨[.any, .dat (.int .i64), .dat (.int .i64), .dat (.int .i64), .fix (.bptr 0 []), .any, .any, .any, .dat .bool, .fix (.bptr 1 []), .any, .dat (.int .i64), .dat (.int .i64), .any, .dat (.int .i64), .dat (.int .i64), .any, .any, .dat (.int .i64), .dat (.int .i64), .any, .any, .any, .any, .any, .any, .any, .any, .any, .any, .any, .any, .any, .any, .any, .any, .any, .any, .any, .any, .any, .any, .any, .any, .any, .any, .any, .any, .any, .any, .any, .any, .any, .any, .any, .any, .any, .any, .any, .any, .any, .any, .any, .any, .any, .any, .any, .any, .any, .any, .any, .any, .any, .any, .any, .any, .any, .any, .any, .any, .any, .any, .any, .any, .any, .any, .any, .any, .any, .any, .any, .any, .any, .any, .any, .any, .any, .any, .any, .any, .any, .any, .any, .any, .any, .any, .any, .any, .any, .any, .any, .any, .any, .any, .any, .any, .any, .any, .any, .any, .any, .any, .any, .any, .any, .any, .any, .any, .any, .any, .any, .any, .any, .any, .any, .any, .any, .any, .any, .any, .any, .any, .any, .any, .any, .any, .any, .any, .any, .any, .any, .any, .any, .any, .any, .any, .any, .any, .any, .any, .any, .any, .any, .any, .any, .any, .any, .any, .any, .any, .any, .any, .any, .any, .any, .any, .any, .any, .any, .any, .any, .any, .any, .any, .any, .any, .any, .any, .any, .any, .any, .any, .any, .any, .any, .any, .any, .any, .any, .any, .any, .any, .any, .any, .any, .any, .any, .any, .any, .any, .any, .any, .any, .any, .any, .any, .any, .any, .any, .any, .any, .any, .any, .any, .any, .any, .any, .any, .any, .any, .any, .any, .any, .any, .any, .any, .any, .any, .any, .any, .any, .any, .any, .any, .any, .any, .any, .any, .any, .any, .any, .any, .any, .any, .any, .any, .any, .any, .any, .any, .any, .any, .any, .any, .any, .any, .any, .any, .any, .any, .any, .any, .any, .any, .any, .any, .any, .any], [.dat T27, .dat T33], 0⟩
abbrev TY105 : Type := ((Int × (Int × (Int × (Bool × (Int × (Int × (Int × (Int × (Int × (Int × Unit)))))))))) × (E27 × (E33 × Unit)))
abbrev TY106 : Type := (Nat × ((Int × (Int × (Int × (Bool × (Int × (Int × (Int × (Int × (Int × (Int × Unit)))))))))) × (E27 × (E33 × Unit))))
noncomputable def g3_taliklaw06_StoreKeeps_l3_step (s : TY105) : Option TY106 :=
  (bif (decide (s.1.2.2.2.2.2.2.2.2.2.1 < s.2.1.2.2.2.1)) then
  (bif (decide (0 ≤ s.1.2.2.2.2.2.2.2.2.2.1) && decide (s.1.2.2.2.2.2.2.2.2.2.1 < (List.length s.2.2.1.2.1 : Int))) then
    (bif (decide (0 ≤ s.1.2.2.2.2.2.2.1) && decide (s.1.2.2.2.2.2.2.1 < (3 : Int))) then
      (bif (decide (0 ≤ s.1.2.2.2.2.2.2.2.2.2.1) && decide (s.1.2.2.2.2.2.2.2.2.2.1 < (List.length s.2.2.1.2.2.1 : Int))) then
        (bif (decide (0 ≤ s.1.2.2.2.2.2.2.1) && decide (s.1.2.2.2.2.2.2.1 < (3 : Int))) then
          (bif (decide (0 ≤ s.1.2.2.1) && decide (s.1.2.2.1 < (List.length s.2.1.2.2.2.2.2.2.2.1 : Int))) then
            (bif (decide (0 ≤ s.1.2.2.2.2.2.2.2.2.2.1) && decide (s.1.2.2.2.2.2.2.2.2.2.1 < (List.length (List.getD s.2.1.2.2.2.2.2.2.2.1 (Int.toNat s.1.2.2.1) []) : Int))) then
              (bif (decide (0 ≤ s.1.2.2.2.2.2.2.1) && decide (s.1.2.2.2.2.2.2.1 < (3 : Int))) then
                (bif (decide ((List.getD (List.getD s.2.2.1.2.1 (Int.toNat s.1.2.2.2.2.2.2.2.2.2.1) (List.replicate 3 0)) (Int.toNat s.1.2.2.2.2.2.2.1) 0) < 0)) then
                  some (1, ((s.1.1, (s.1.2.1, (s.1.2.2.1, (false, (s.1.2.2.2.2.1, (s.1.2.2.2.2.2.1, (s.1.2.2.2.2.2.2.1, (s.1.2.2.2.2.2.2.2.1, (s.1.2.2.2.2.2.2.2.2.1, (s.1.2.2.2.2.2.2.2.2.2.1, ())))))))))), (s.2.1, (s.2.2.1, ()))))
                  else
                  (bif (decide (0 ≤ s.1.2.2.2.2.2.2.1) && decide (s.1.2.2.2.2.2.2.1 < (3 : Int))) then
                    (bif (decide ((List.getD (List.getD s.2.2.1.2.1 (Int.toNat s.1.2.2.2.2.2.2.2.2.2.1) (List.replicate 3 0)) (Int.toNat s.1.2.2.2.2.2.2.1) 0) > (List.getD s.2.1.2.1 (Int.toNat s.1.2.2.2.2.2.2.1) 0))) then
                      some (1, ((s.1.1, (s.1.2.1, (s.1.2.2.1, (false, (s.1.2.2.2.2.1, (s.1.2.2.2.2.2.1, (s.1.2.2.2.2.2.2.1, (s.1.2.2.2.2.2.2.2.1, (s.1.2.2.2.2.2.2.2.2.1, (s.1.2.2.2.2.2.2.2.2.2.1, ())))))))))), (s.2.1, (s.2.2.1, ()))))
                      else
                      (bif (decide ((List.getD (List.getD s.2.2.1.2.2.1 (Int.toNat s.1.2.2.2.2.2.2.2.2.2.1) (List.replicate 3 0)) (Int.toNat s.1.2.2.2.2.2.2.1) 0) < 0)) then
                        some (1, ((s.1.1, (s.1.2.1, (s.1.2.2.1, (false, (s.1.2.2.2.2.1, (s.1.2.2.2.2.2.1, (s.1.2.2.2.2.2.2.1, (s.1.2.2.2.2.2.2.2.1, (s.1.2.2.2.2.2.2.2.2.1, (s.1.2.2.2.2.2.2.2.2.2.1, ())))))))))), (s.2.1, (s.2.2.1, ()))))
                        else
                        (bif (decide ((List.getD (List.getD s.2.2.1.2.2.1 (Int.toNat s.1.2.2.2.2.2.2.2.2.2.1) (List.replicate 3 0)) (Int.toNat s.1.2.2.2.2.2.2.1) 0) > (List.getD (List.getD (List.getD s.2.1.2.2.2.2.2.2.2.1 (Int.toNat s.1.2.2.1) []) (Int.toNat s.1.2.2.2.2.2.2.2.2.2.1) (List.replicate 3 0)) (Int.toNat s.1.2.2.2.2.2.2.1) 0))) then
                          some (1, ((s.1.1, (s.1.2.1, (s.1.2.2.1, (false, (s.1.2.2.2.2.1, (s.1.2.2.2.2.2.1, (s.1.2.2.2.2.2.2.1, (s.1.2.2.2.2.2.2.2.1, (s.1.2.2.2.2.2.2.2.2.1, (s.1.2.2.2.2.2.2.2.2.2.1, ())))))))))), (s.2.1, (s.2.2.1, ()))))
                          else
                          (bif (decide ((List.getD (List.getD s.2.2.1.2.2.1 (Int.toNat s.1.2.2.2.2.2.2.2.2.2.1) (List.replicate 3 0)) (Int.toNat s.1.2.2.2.2.2.2.1) 0) > 0)) then
                            (bif (decide ((List.getD (List.getD s.2.2.1.2.1 (Int.toNat s.1.2.2.2.2.2.2.2.2.2.1) (List.replicate 3 0)) (Int.toNat s.1.2.2.2.2.2.2.1) 0) > 0)) then
                              some (1, ((s.1.1, (s.1.2.1, (s.1.2.2.1, (false, (s.1.2.2.2.2.1, (s.1.2.2.2.2.2.1, (s.1.2.2.2.2.2.2.1, (s.1.2.2.2.2.2.2.2.1, (s.1.2.2.2.2.2.2.2.2.1, (s.1.2.2.2.2.2.2.2.2.2.1, ())))))))))), (s.2.1, (s.2.2.1, ()))))
                              else
                              (bif (decide ((IntKind.wrap .i64 ((IntKind.wrap .i64 ((IntKind.wrap .i64 ((List.getD (List.getD s.2.2.1.2.1 (Int.toNat s.1.2.2.2.2.2.2.2.2.2.1) (List.replicate 3 0)) (Int.toNat s.1.2.2.2.2.2.2.1) 0) + (List.getD (List.getD (List.getD s.2.1.2.2.2.2.2.2.2.1 (Int.toNat s.1.2.2.1) []) (Int.toNat s.1.2.2.2.2.2.2.2.2.2.1) (List.replicate 3 0)) (Int.toNat s.1.2.2.2.2.2.2.1) 0))) - (List.getD (List.getD s.2.2.1.2.2.1 (Int.toNat s.1.2.2.2.2.2.2.2.2.2.1) (List.replicate 3 0)) (Int.toNat s.1.2.2.2.2.2.2.1) 0))) - s.1.2.2.2.2.2.2.2.2.1)) < 0)) then
                                some (1, ((s.1.1, (s.1.2.1, (s.1.2.2.1, (false, (s.1.2.2.2.2.1, (s.1.2.2.2.2.2.1, (s.1.2.2.2.2.2.2.1, (s.1.2.2.2.2.2.2.2.1, (s.1.2.2.2.2.2.2.2.2.1, (s.1.2.2.2.2.2.2.2.2.2.1, ())))))))))), (s.2.1, (s.2.2.1, ()))))
                                else
                                (bif (decide ((IntKind.wrap .i64 ((IntKind.wrap .i64 ((IntKind.wrap .i64 ((List.getD (List.getD s.2.2.1.2.1 (Int.toNat s.1.2.2.2.2.2.2.2.2.2.1) (List.replicate 3 0)) (Int.toNat s.1.2.2.2.2.2.2.1) 0) + (List.getD (List.getD (List.getD s.2.1.2.2.2.2.2.2.2.1 (Int.toNat s.1.2.2.1) []) (Int.toNat s.1.2.2.2.2.2.2.2.2.2.1) (List.replicate 3 0)) (Int.toNat s.1.2.2.2.2.2.2.1) 0))) - (List.getD (List.getD s.2.2.1.2.2.1 (Int.toNat s.1.2.2.2.2.2.2.2.2.2.1) (List.replicate 3 0)) (Int.toNat s.1.2.2.2.2.2.2.1) 0))) - s.1.2.2.2.2.2.2.2.2.1)) > 0)) then
                                  (bif (decide (s.1.2.2.2.2.2.2.2.2.2.1 ≥ s.2.1.2.2.2.2.1)) then
                                    some (1, ((s.1.1, (s.1.2.1, (s.1.2.2.1, (false, (s.1.2.2.2.2.1, (s.1.2.2.2.2.2.1, (s.1.2.2.2.2.2.2.1, (s.1.2.2.2.2.2.2.2.1, (s.1.2.2.2.2.2.2.2.2.1, (s.1.2.2.2.2.2.2.2.2.2.1, ())))))))))), (s.2.1, (s.2.2.1, ()))))
                                    else
                                    (bif (decide (0 ≤ s.1.2.1) && decide (s.1.2.1 < (List.length s.2.1.2.2.2.2.2.2.1 : Int))) then
                                      (bif (decide (0 ≤ s.1.2.2.2.2.2.2.2.2.2.1) && decide (s.1.2.2.2.2.2.2.2.2.2.1 < (List.length (List.getD s.2.1.2.2.2.2.2.2.1 (Int.toNat s.1.2.1) []) : Int))) then
                                        (bif (!(List.getD (List.getD s.2.1.2.2.2.2.2.2.1 (Int.toNat s.1.2.1) []) (Int.toNat s.1.2.2.2.2.2.2.2.2.2.1) false)) then
                                          some (1, ((s.1.1, (s.1.2.1, (s.1.2.2.1, (false, (s.1.2.2.2.2.1, (s.1.2.2.2.2.2.1, (s.1.2.2.2.2.2.2.1, (s.1.2.2.2.2.2.2.2.1, (s.1.2.2.2.2.2.2.2.2.1, (s.1.2.2.2.2.2.2.2.2.2.1, ())))))))))), (s.2.1, (s.2.2.1, ()))))
                                          else
                                          some (0, ((s.1.1, (s.1.2.1, (s.1.2.2.1, (s.1.2.2.2.1, (s.1.2.2.2.2.1, (s.1.2.2.2.2.2.1, (s.1.2.2.2.2.2.2.1, ((IntKind.wrap .i64 ((IntKind.wrap .i64 (s.1.2.2.2.2.2.2.2.1 - (List.getD (List.getD (List.getD s.2.1.2.2.2.2.2.2.2.1 (Int.toNat s.1.2.2.1) []) (Int.toNat s.1.2.2.2.2.2.2.2.2.2.1) (List.replicate 3 0)) (Int.toNat s.1.2.2.2.2.2.2.1) 0))) + (List.getD (List.getD s.2.2.1.2.2.1 (Int.toNat s.1.2.2.2.2.2.2.2.2.2.1) (List.replicate 3 0)) (Int.toNat s.1.2.2.2.2.2.2.1) 0))), ((List.getD (List.getD s.2.2.1.2.1 (Int.toNat s.1.2.2.2.2.2.2.2.2.2.1) (List.replicate 3 0)) (Int.toNat s.1.2.2.2.2.2.2.1) 0), ((IntKind.wrap .i64 (s.1.2.2.2.2.2.2.2.2.2.1 + 1)), ())))))))))), (s.2.1, (s.2.2.1, ())))))
                                        else
                                        none)
                                      else
                                      none))
                                  else
                                  some (0, ((s.1.1, (s.1.2.1, (s.1.2.2.1, (s.1.2.2.2.1, (s.1.2.2.2.2.1, (s.1.2.2.2.2.2.1, (s.1.2.2.2.2.2.2.1, ((IntKind.wrap .i64 ((IntKind.wrap .i64 (s.1.2.2.2.2.2.2.2.1 - (List.getD (List.getD (List.getD s.2.1.2.2.2.2.2.2.2.1 (Int.toNat s.1.2.2.1) []) (Int.toNat s.1.2.2.2.2.2.2.2.2.2.1) (List.replicate 3 0)) (Int.toNat s.1.2.2.2.2.2.2.1) 0))) + (List.getD (List.getD s.2.2.1.2.2.1 (Int.toNat s.1.2.2.2.2.2.2.2.2.2.1) (List.replicate 3 0)) (Int.toNat s.1.2.2.2.2.2.2.1) 0))), ((List.getD (List.getD s.2.2.1.2.1 (Int.toNat s.1.2.2.2.2.2.2.2.2.2.1) (List.replicate 3 0)) (Int.toNat s.1.2.2.2.2.2.2.1) 0), ((IntKind.wrap .i64 (s.1.2.2.2.2.2.2.2.2.2.1 + 1)), ())))))))))), (s.2.1, (s.2.2.1, ())))))))
                            else
                            (bif (decide ((IntKind.wrap .i64 ((IntKind.wrap .i64 ((IntKind.wrap .i64 ((List.getD (List.getD s.2.2.1.2.1 (Int.toNat s.1.2.2.2.2.2.2.2.2.2.1) (List.replicate 3 0)) (Int.toNat s.1.2.2.2.2.2.2.1) 0) + (List.getD (List.getD (List.getD s.2.1.2.2.2.2.2.2.2.1 (Int.toNat s.1.2.2.1) []) (Int.toNat s.1.2.2.2.2.2.2.2.2.2.1) (List.replicate 3 0)) (Int.toNat s.1.2.2.2.2.2.2.1) 0))) - (List.getD (List.getD s.2.2.1.2.2.1 (Int.toNat s.1.2.2.2.2.2.2.2.2.2.1) (List.replicate 3 0)) (Int.toNat s.1.2.2.2.2.2.2.1) 0))) - s.1.2.2.2.2.2.2.2.2.1)) < 0)) then
                              some (1, ((s.1.1, (s.1.2.1, (s.1.2.2.1, (false, (s.1.2.2.2.2.1, (s.1.2.2.2.2.2.1, (s.1.2.2.2.2.2.2.1, (s.1.2.2.2.2.2.2.2.1, (s.1.2.2.2.2.2.2.2.2.1, (s.1.2.2.2.2.2.2.2.2.2.1, ())))))))))), (s.2.1, (s.2.2.1, ()))))
                              else
                              (bif (decide ((IntKind.wrap .i64 ((IntKind.wrap .i64 ((IntKind.wrap .i64 ((List.getD (List.getD s.2.2.1.2.1 (Int.toNat s.1.2.2.2.2.2.2.2.2.2.1) (List.replicate 3 0)) (Int.toNat s.1.2.2.2.2.2.2.1) 0) + (List.getD (List.getD (List.getD s.2.1.2.2.2.2.2.2.2.1 (Int.toNat s.1.2.2.1) []) (Int.toNat s.1.2.2.2.2.2.2.2.2.2.1) (List.replicate 3 0)) (Int.toNat s.1.2.2.2.2.2.2.1) 0))) - (List.getD (List.getD s.2.2.1.2.2.1 (Int.toNat s.1.2.2.2.2.2.2.2.2.2.1) (List.replicate 3 0)) (Int.toNat s.1.2.2.2.2.2.2.1) 0))) - s.1.2.2.2.2.2.2.2.2.1)) > 0)) then
                                (bif (decide (s.1.2.2.2.2.2.2.2.2.2.1 ≥ s.2.1.2.2.2.2.1)) then
                                  some (1, ((s.1.1, (s.1.2.1, (s.1.2.2.1, (false, (s.1.2.2.2.2.1, (s.1.2.2.2.2.2.1, (s.1.2.2.2.2.2.2.1, (s.1.2.2.2.2.2.2.2.1, (s.1.2.2.2.2.2.2.2.2.1, (s.1.2.2.2.2.2.2.2.2.2.1, ())))))))))), (s.2.1, (s.2.2.1, ()))))
                                  else
                                  (bif (decide (0 ≤ s.1.2.1) && decide (s.1.2.1 < (List.length s.2.1.2.2.2.2.2.2.1 : Int))) then
                                    (bif (decide (0 ≤ s.1.2.2.2.2.2.2.2.2.2.1) && decide (s.1.2.2.2.2.2.2.2.2.2.1 < (List.length (List.getD s.2.1.2.2.2.2.2.2.1 (Int.toNat s.1.2.1) []) : Int))) then
                                      (bif (!(List.getD (List.getD s.2.1.2.2.2.2.2.2.1 (Int.toNat s.1.2.1) []) (Int.toNat s.1.2.2.2.2.2.2.2.2.2.1) false)) then
                                        some (1, ((s.1.1, (s.1.2.1, (s.1.2.2.1, (false, (s.1.2.2.2.2.1, (s.1.2.2.2.2.2.1, (s.1.2.2.2.2.2.2.1, (s.1.2.2.2.2.2.2.2.1, (s.1.2.2.2.2.2.2.2.2.1, (s.1.2.2.2.2.2.2.2.2.2.1, ())))))))))), (s.2.1, (s.2.2.1, ()))))
                                        else
                                        some (0, ((s.1.1, (s.1.2.1, (s.1.2.2.1, (s.1.2.2.2.1, (s.1.2.2.2.2.1, (s.1.2.2.2.2.2.1, (s.1.2.2.2.2.2.2.1, ((IntKind.wrap .i64 ((IntKind.wrap .i64 (s.1.2.2.2.2.2.2.2.1 - (List.getD (List.getD (List.getD s.2.1.2.2.2.2.2.2.2.1 (Int.toNat s.1.2.2.1) []) (Int.toNat s.1.2.2.2.2.2.2.2.2.2.1) (List.replicate 3 0)) (Int.toNat s.1.2.2.2.2.2.2.1) 0))) + (List.getD (List.getD s.2.2.1.2.2.1 (Int.toNat s.1.2.2.2.2.2.2.2.2.2.1) (List.replicate 3 0)) (Int.toNat s.1.2.2.2.2.2.2.1) 0))), ((List.getD (List.getD s.2.2.1.2.1 (Int.toNat s.1.2.2.2.2.2.2.2.2.2.1) (List.replicate 3 0)) (Int.toNat s.1.2.2.2.2.2.2.1) 0), ((IntKind.wrap .i64 (s.1.2.2.2.2.2.2.2.2.2.1 + 1)), ())))))))))), (s.2.1, (s.2.2.1, ())))))
                                      else
                                      none)
                                    else
                                    none))
                                else
                                some (0, ((s.1.1, (s.1.2.1, (s.1.2.2.1, (s.1.2.2.2.1, (s.1.2.2.2.2.1, (s.1.2.2.2.2.2.1, (s.1.2.2.2.2.2.2.1, ((IntKind.wrap .i64 ((IntKind.wrap .i64 (s.1.2.2.2.2.2.2.2.1 - (List.getD (List.getD (List.getD s.2.1.2.2.2.2.2.2.2.1 (Int.toNat s.1.2.2.1) []) (Int.toNat s.1.2.2.2.2.2.2.2.2.2.1) (List.replicate 3 0)) (Int.toNat s.1.2.2.2.2.2.2.1) 0))) + (List.getD (List.getD s.2.2.1.2.2.1 (Int.toNat s.1.2.2.2.2.2.2.2.2.2.1) (List.replicate 3 0)) (Int.toNat s.1.2.2.2.2.2.2.1) 0))), ((List.getD (List.getD s.2.2.1.2.1 (Int.toNat s.1.2.2.2.2.2.2.2.2.2.1) (List.replicate 3 0)) (Int.toNat s.1.2.2.2.2.2.2.1) 0), ((IntKind.wrap .i64 (s.1.2.2.2.2.2.2.2.2.2.1 + 1)), ())))))))))), (s.2.1, (s.2.2.1, ()))))))))))
                    else
                    none))
                else
                none)
              else
              none)
            else
            none)
          else
          none)
        else
        none)
      else
      none)
    else
    none)
  else
  some (2, ((s.1.1, (s.1.2.1, (s.1.2.2.1, (s.1.2.2.2.1, (s.1.2.2.2.2.1, (s.1.2.2.2.2.2.1, (s.1.2.2.2.2.2.2.1, (s.1.2.2.2.2.2.2.2.1, (s.1.2.2.2.2.2.2.2.2.1, (s.1.2.2.2.2.2.2.2.2.2.1, ())))))))))), (s.2.1, (s.2.2.1, ())))))
noncomputable def g3_taliklaw06_StoreKeeps_l3_fuel (s : TY105) : Nat := Int.toNat (s.2.1.2.2.2.1 - s.1.2.2.2.2.2.2.2.2.2.1) + 1
noncomputable def g3_taliklaw06_StoreKeeps_l3_run (s : TY105) : Option TY106 := iter g3_taliklaw06_StoreKeeps_l3_step (g3_taliklaw06_StoreKeeps_l3_fuel s) s
noncomputable def g3_taliklaw06_StoreKeeps_l3_L : LoopT := loopT g3_taliklaw06_StoreKeeps_l3_S [.ret, .exit 6] g3_taliklaw06_StoreKeeps_l3_run
noncomputable def g3_taliklaw06_StoreKeeps_l1_S : SPat := ⟨[.any, .dat (.int .i64), .dat (.int .i64), .dat (.int .i64), .fix (.bptr 0 []), .any, .any, .any, .dat .bool, .fix (.bptr 1 []), .any, .dat (.int .i64), .dat (.int .i64), .any, .dat (.int .i64), .any, .any, .any, .any, .any, .any, .any, .any, .any, .any, .any, .any, .any, .any, .any, .any, .any, .any, .any, .any, .any, .any, .any, .any, .any, .any, .any, .any, .any, .any, .any, .any, .any, .any, .any, .any, .any, .any, .any, .any, .any, .any, .any, .any, .any, .any, .any, .any, .any, .any, .any, .any, .any, .any, .any, .any, .any, .any, .any, .any, .any, .any, .any, .any, .any, .any, .any, .any, .any, .any, .any, .any, .any, .any, .any, .any, .any, .any, .any, .any, .any, .any, .any, .any, .any, .any, .any, .any, .any, .any, .any, .any, .any, .any, .any, .any, .any, .any, .any, .any, .any, .any, .any, .any, .any, .any, .any, .any, .any, .any, .any, .any, .any, .any, .any, .any, .any, .any, .any, .any, .any, .any, .any, .any, .any, .any, .any, .any, .any, .any, .any, .any, .any, .any, .any, .any, .any, .any, .any, .any, .any, .any, .any, .any, .any, .any, .any, .any, .any, .any, .any, .any, .any, .any, .any, .any, .any, .any, .any, .any, .any, .any, .any, .any, .any, .any, .any, .any, .any, .any, .any, .any, .any, .any, .any, .any, .any, .any, .any, .any, .any, .any, .any, .any, .any, .any, .any, .any, .any, .any, .any, .any, .any, .any, .any, .any, .any, .any, .any, .any, .any, .any, .any, .any, .any, .any, .any, .any, .any, .any, .any, .any, .any, .any, .any, .any, .any, .any, .any, .any, .any, .any, .any, .any, .any, .any, .any, .any, .any, .any, .any, .any, .any, .any, .any, .any, .any, .any, .any, .any, .any, .any, .any, .any, .any, .any, .any, .any, .any, .any, .any, .any, .any, .any, .any, .any, .any, .any, .any, .any, .any, .any, .any], [.dat T27, .dat T33], 0⟩
noncomputable def g3_taliklaw06_StoreKeeps_l1_step (s : TY101) : Option TY102 :=
  (bif (decide (s.1.2.2.2.2.2.2.1 < 3)) then
  (bif (decide (0 ≤ s.1.2.2.2.2.2.2.1) && decide (s.1.2.2.2.2.2.2.1 < (3 : Int))) then
    (Option.bind (g3_taliklaw06_StoreKeeps_l2_run ((s.1.1, (s.1.2.1, (s.1.2.2.1, (s.1.2.2.2.1, (s.1.2.2.2.2.1, (s.1.2.2.2.2.2.1, (s.1.2.2.2.2.2.2.1, ((List.getD s.2.1.1 (Int.toNat s.1.2.2.2.2.2.2.1) 0), (0, ()))))))))), (s.2.1, (s.2.2.1, ())))) fun q15 =>
      (natK q15.1
        (some (1, ((q15.2.1.1, (q15.2.1.2.1, (q15.2.1.2.2.1, (q15.2.1.2.2.2.1, (q15.2.1.2.2.2.2.1, (q15.2.1.2.2.2.2.2.1, (q15.2.1.2.2.2.2.2.2.1, ()))))))), (q15.2.2.1, (q15.2.2.2.1, ())))))
        (fun _ => (bif (decide (0 ≤ q15.2.1.2.2.2.2.2.2.1) && decide (q15.2.1.2.2.2.2.2.2.1 < (3 : Int))) then
          (Option.bind (g3_taliklaw06_StoreKeeps_l3_run ((q15.2.1.1, (q15.2.1.2.1, (q15.2.1.2.2.1, (q15.2.1.2.2.2.1, (q15.2.1.2.2.2.2.1, (q15.2.1.2.2.2.2.2.1, (q15.2.1.2.2.2.2.2.2.1, (q15.2.1.2.2.2.2.2.2.2.1, ((List.getD q15.2.2.1.1 (Int.toNat q15.2.1.2.2.2.2.2.2.1) 0), (0, ())))))))))), (q15.2.2.1, (q15.2.2.2.1, ())))) fun q16 =>
            (natK q16.1
              (some (1, ((q16.2.1.1, (q16.2.1.2.1, (q16.2.1.2.2.1, (q16.2.1.2.2.2.1, (q16.2.1.2.2.2.2.1, (q16.2.1.2.2.2.2.2.1, (q16.2.1.2.2.2.2.2.2.1, ()))))))), (q16.2.2.1, (q16.2.2.2.1, ())))))
              (fun _ => (bif (decide (0 ≤ (IntKind.wrap .i64 (q16.2.2.1.2.2.2.1 - 1))) && decide ((IntKind.wrap .i64 (q16.2.2.1.2.2.2.1 - 1)) < (List.length q16.2.2.2.1.2.1 : Int))) then
                (bif (decide (0 ≤ q16.2.1.2.2.2.2.2.2.1) && decide (q16.2.1.2.2.2.2.2.2.1 < (3 : Int))) then
                  (bif (q16.2.1.2.2.2.2.2.2.2.1 != (List.getD (List.getD q16.2.2.2.1.2.1 (Int.toNat (IntKind.wrap .i64 (q16.2.2.1.2.2.2.1 - 1))) (List.replicate 3 0)) (Int.toNat q16.2.1.2.2.2.2.2.2.1) 0)) then
                    some (1, ((q16.2.1.1, (q16.2.1.2.1, (q16.2.1.2.2.1, (false, (q16.2.1.2.2.2.2.1, (q16.2.1.2.2.2.2.2.1, (q16.2.1.2.2.2.2.2.2.1, ()))))))), (q16.2.2.1, (q16.2.2.2.1, ()))))
                    else
                    some (0, ((q16.2.1.1, (q16.2.1.2.1, (q16.2.1.2.2.1, (q16.2.1.2.2.2.1, (q16.2.1.2.2.2.2.1, (q16.2.1.2.2.2.2.2.1, ((IntKind.wrap .i64 (q16.2.1.2.2.2.2.2.2.1 + 1)), ()))))))), (q16.2.2.1, (q16.2.2.2.1, ())))))
                  else
                  none)
                else
                none))))
          else
          none))))
    else
    none)
  else
  some (2, ((s.1.1, (s.1.2.1, (s.1.2.2.1, (s.1.2.2.2.1, (s.1.2.2.2.2.1, (s.1.2.2.2.2.2.1, (s.1.2.2.2.2.2.2.1, ()))))))), (s.2.1, (s.2.2.1, ())))))
noncomputable def g3_taliklaw06_StoreKeeps_l1_fuel (s : TY101) : Nat := Int.toNat (3 - s.1.2.2.2.2.2.2.1) + 1
noncomputable def g3_taliklaw06_StoreKeeps_l1_run (s : TY101) : Option TY102 := iter g3_taliklaw06_StoreKeeps_l1_step (g3_taliklaw06_StoreKeeps_l1_fuel s) s
noncomputable def g3_taliklaw06_StoreKeeps_l1_L : LoopT := loopT g3_taliklaw06_StoreKeeps_l1_S [.ret, .exit 2] g3_taliklaw06_StoreKeeps_l1_run
noncomputable def g3_taliklaw06_StoreKeeps (a0 : E27) (a1 : Int) (a2 : Int) (a3 : Int) : Option Bool :=
  (Option.bind (g15_taliklaw06_short a0) fun r1 =>
  (bif (!r1) then
    (Option.bind g20_taliklaw06_known fun r2 =>
      some r2)
    else
    (Option.bind (g16_talikref06_Store a0) fun r3 =>
      (bif (!r3) then
        (Option.bind g20_taliklaw06_known fun r4 =>
          some r4)
        else
        (Option.bind (g17_talikref06_Plan a0 a1) fun r5 =>
          (bif (!r5) then
            (Option.bind g20_taliklaw06_known fun r6 =>
              some r6)
            else
            (Option.bind (g18_taliklaw06_ice a0 a2) fun r7 =>
              (bif (!r7) then
                (Option.bind g20_taliklaw06_known fun r8 =>
                  some r8)
                else
                (Option.bind (g19_taliklaw06_winter a0 a3) fun r9 =>
                  (bif (!r9) then
                    (Option.bind g20_taliklaw06_known fun r10 =>
                      some r10)
                    else
                    (Option.bind (g21_store_Run a0 a1 a2 a3) fun r11 =>
                      (bif (r11.2.1 != 0) then
                        some false
                        else
                        (bif ((List.length r11.1.1 : Int) != (List.length a0.2.2.2.2.2.1 : Int)) then
                          some false
                          else
                          (bif ((List.length r11.1.2.1 : Int) != a0.2.2.2.1) then
                            some false
                            else
                            (bif ((List.length r11.1.2.2.1 : Int) != a0.2.2.2.1) then
                              some false
                              else
                              (Option.bind (g3_taliklaw06_StoreKeeps_l0_run ((a1, (a2, (a3, (false, (0, (0, (0, ()))))))), (a0, (r11.1, ())))) fun q12 =>
                                (Option.bind (g3_taliklaw06_StoreKeeps_l1_run ((q12.2.1.1, (q12.2.1.2.1, (q12.2.1.2.2.1, (q12.2.1.2.2.2.1, (q12.2.1.2.2.2.2.1, (q12.2.1.2.2.2.2.2.1, (0, ()))))))), (q12.2.2.1, (q12.2.2.2.1, ())))) fun q17 =>
                                  (natK q17.1
                                    (some q17.2.1.2.2.2.1)
                                    (fun _ => (bif (decide (q17.2.1.2.2.2.2.1 ≤ (IntKind.wrap .i64 (q17.2.1.2.2.2.2.2.1 * q17.2.2.1.2.2.1)))) then
                                      (Option.bind g20_taliklaw06_known fun r18 =>
                                        some r18)
                                      else
                                      some false))))))))))))))))))))
noncomputable def g3_taliklaw06_StoreKeeps_E : CEnt := pureE 3 [.dat T27, .dat (.int .i64), .dat (.int .i64), .dat (.int .i64)] (.dat .bool) fun x => g3_taliklaw06_StoreKeeps x.1 x.2.1 x.2.2.1 x.2.2.2.1
theorem g3_taliklaw06_StoreKeeps_l0_V : LValid 0 Tryd.prog (.loop g3_taliklaw06_StoreKeeps_l0_c) g3_taliklaw06_StoreKeeps_l0_L false := by
  have hb : ∀ s, codeR Tryd.prog g3_taliklaw06_StoreKeeps_C g3_taliklaw06_StoreKeeps_l0_c [] (g3_taliklaw06_StoreKeeps_l0_S.encE s) (g3_taliklaw06_StoreKeeps_l0_S.encB s) (kst g3_taliklaw06_StoreKeeps_l0_S [.exit 0]) = g3_taliklaw06_StoreKeeps_l0_step s := by
    intro s; kernel_rfl
  have hL : LV 0 Tryd.prog false (loopsOf g3_taliklaw06_StoreKeeps_l0_c) [] := by unfold LV; cases loopsOf g3_taliklaw06_StoreKeeps_l0_c <;> trivial
  exact loopT_valid (fuel := g3_taliklaw06_StoreKeeps_l0_fuel) mixed g3_taliklaw06_StoreKeeps_CV hL (by kernel_rfl) (by decide) rfl hb (fun s r h => h)
theorem g3_taliklaw06_StoreKeeps_l2_V : LValid 0 Tryd.prog (.loop g3_taliklaw06_StoreKeeps_l2_c) g3_taliklaw06_StoreKeeps_l2_L false := by
  have hb : ∀ s, codeR Tryd.prog g3_taliklaw06_StoreKeeps_C g3_taliklaw06_StoreKeeps_l2_c [] (g3_taliklaw06_StoreKeeps_l2_S.encE s) (g3_taliklaw06_StoreKeeps_l2_S.encB s) (kst g3_taliklaw06_StoreKeeps_l2_S [.ret, .exit 4]) = g3_taliklaw06_StoreKeeps_l2_step s := by
    intro s; kernel_rfl
  have hL : LV 0 Tryd.prog false (loopsOf g3_taliklaw06_StoreKeeps_l2_c) [] := by unfold LV; cases loopsOf g3_taliklaw06_StoreKeeps_l2_c <;> trivial
  exact loopT_valid (fuel := g3_taliklaw06_StoreKeeps_l2_fuel) mixed g3_taliklaw06_StoreKeeps_CV hL (by kernel_rfl) (by decide) rfl hb (fun s r h => h)
theorem g3_taliklaw06_StoreKeeps_l3_V : LValid 0 Tryd.prog (.loop g3_taliklaw06_StoreKeeps_l3_c) g3_taliklaw06_StoreKeeps_l3_L false := by
  have hb : ∀ s, codeR Tryd.prog g3_taliklaw06_StoreKeeps_C g3_taliklaw06_StoreKeeps_l3_c [] (g3_taliklaw06_StoreKeeps_l3_S.encE s) (g3_taliklaw06_StoreKeeps_l3_S.encB s) (kst g3_taliklaw06_StoreKeeps_l3_S [.ret, .exit 6]) = g3_taliklaw06_StoreKeeps_l3_step s := by
    intro s; kernel_rfl
  have hL : LV 0 Tryd.prog false (loopsOf g3_taliklaw06_StoreKeeps_l3_c) [] := by unfold LV; cases loopsOf g3_taliklaw06_StoreKeeps_l3_c <;> trivial
  exact loopT_valid (fuel := g3_taliklaw06_StoreKeeps_l3_fuel) mixed g3_taliklaw06_StoreKeeps_CV hL (by kernel_rfl) (by decide) rfl hb (fun s r h => h)
theorem g3_taliklaw06_StoreKeeps_l1_V : LValid 0 Tryd.prog (.loop g3_taliklaw06_StoreKeeps_l1_c) g3_taliklaw06_StoreKeeps_l1_L false := by
  have hb : ∀ s, codeR Tryd.prog g3_taliklaw06_StoreKeeps_C g3_taliklaw06_StoreKeeps_l1_c [g3_taliklaw06_StoreKeeps_l2_L, g3_taliklaw06_StoreKeeps_l3_L] (g3_taliklaw06_StoreKeeps_l1_S.encE s) (g3_taliklaw06_StoreKeeps_l1_S.encB s) (kst g3_taliklaw06_StoreKeeps_l1_S [.ret, .exit 2]) = g3_taliklaw06_StoreKeeps_l1_step s := by
    intro s; kernel_rfl
  have hl : loopsOf g3_taliklaw06_StoreKeeps_l1_c = [.loop g3_taliklaw06_StoreKeeps_l2_c, .loop g3_taliklaw06_StoreKeeps_l3_c] := by kernel_rfl
  have hL : LV 0 Tryd.prog false (loopsOf g3_taliklaw06_StoreKeeps_l1_c) [g3_taliklaw06_StoreKeeps_l2_L, g3_taliklaw06_StoreKeeps_l3_L] := by rw [hl]; exact ⟨g3_taliklaw06_StoreKeeps_l2_V, g3_taliklaw06_StoreKeeps_l3_V, trivial⟩
  exact loopT_valid (fuel := g3_taliklaw06_StoreKeeps_l1_fuel) mixed g3_taliklaw06_StoreKeeps_CV hL (by kernel_rfl) (by decide) rfl hb (fun s r h => h)
theorem g3_taliklaw06_StoreKeeps_LV : LV 0 Tryd.prog false (loopsOf (bodyOf Tryd.f3)) [g3_taliklaw06_StoreKeeps_l0_L, g3_taliklaw06_StoreKeeps_l1_L] := by
  have hl : loopsOf (bodyOf Tryd.f3) = [.loop g3_taliklaw06_StoreKeeps_l0_c, .loop g3_taliklaw06_StoreKeeps_l1_c] := by kernel_rfl
  rw [hl]; exact ⟨g3_taliklaw06_StoreKeeps_l0_V, g3_taliklaw06_StoreKeeps_l1_V, trivial⟩
theorem g3_taliklaw06_StoreKeeps_ent : Ent Tryd.prog 3 := ⟨by decide, enters_of Tryd.func3 (by kernel_rfl) rfl⟩
theorem g3_taliklaw06_StoreKeeps_hev : ∀ x, fnR Tryd.prog g3_taliklaw06_StoreKeeps_C [g3_taliklaw06_StoreKeeps_l0_L, g3_taliklaw06_StoreKeeps_l1_L] Tryd.f3 (bodyOf Tryd.f3) (encs [.dat T27, .dat (.int .i64), .dat (.int .i64), .dat (.int .i64)] x) ⟨[], [], 0⟩ (frzF (.dat .bool)) = g3_taliklaw06_StoreKeeps x.1 x.2.1 x.2.2.1 x.2.2.2.1 := by
  intro x; kernel_rfl
theorem g3_taliklaw06_StoreKeeps_lcall : ∀ x r, (fun x : Els [.dat T27, .dat (.int .i64), .dat (.int .i64), .dat (.int .i64)] => g3_taliklaw06_StoreKeeps x.1 x.2.1 x.2.2.1 x.2.2.2.1) x = some r → LCall 0 Tryd.prog 3 (encs [.dat T27, .dat (.int .i64), .dat (.int .i64), .dat (.int .i64)] x) ⟨[], [], 0⟩ (.d .bool r) ⟨[], [], 0⟩ := frz_lcall (R := .dat .bool) mixed Tryd.func3 rfl g3_taliklaw06_StoreKeeps_ent g3_taliklaw06_StoreKeeps_CV g3_taliklaw06_StoreKeeps_LV (by kernel_rfl) (by kernel_rfl) g3_taliklaw06_StoreKeeps_hev

end Go.Proofs.YtcijddeommognaaDoor.Abs

/-
  Plain laws of the store layer: faults, and the first thing to run out.
-/
set_option linter.unusedVariables false
set_option linter.unusedSimpArgs false
set_option maxRecDepth 100000
namespace Go.Proofs.YtcijddeommognaaDoor.Abs

/-- The first place below `n` at which something is so. -/
def fnd (b : Nat → Bool) (n : Nat) : Option Nat := (List.range n).find? b
theorem fnd_none {b : Nat → Bool} {n : Nat} : fnd b n = none ↔ ∀ l, l < n → b l = false := by
  unfold fnd
  rw [List.find?_eq_none]
  constructor
  · intro h l hl; have := h l (List.mem_range.2 hl); simpa using this
  · intro h l hl; simp [h l (List.mem_range.1 hl)]
theorem fnd_is {b : Nat → Bool} {n j : Nat} (h1 : j < n) (h2 : b j = true) (h3 : ∀ l, l < j → b l = false) : fnd b n = some j := by
  unfold fnd
  rw [List.find?_range_eq_some]
  exact ⟨h2, List.mem_range.2 h1, fun l hl => by simp [h3 l hl]⟩
theorem fnd_some {b : Nat → Bool} {n j : Nat} (h : fnd b n = some j) : j < n ∧ b j = true ∧ ∀ l, l < j → b l = false := by
  cases hq : fnd b n with
  | none => rw [hq] at h; cases h
  | some i =>
    unfold fnd at h
    rw [List.find?_range_eq_some] at h
    exact ⟨List.mem_range.1 h.2.1, h.1, fun l hl => by have := h.2.2 l hl; simpa using this⟩
theorem fnd_ge {b : Nat → Bool} {n j : Nat} (h1 : j < n) (h2 : b j = true) : ∃ i, i ≤ j ∧ fnd b n = some i := by
  cases h : fnd b n with
  | none => rw [fnd_none.1 h j h1] at h2; cases h2
  | some i =>
    refine ⟨i, ?_, rfl⟩
    apply Classical.byContradiction
    intro hn
    rw [(fnd_some h).2.2 j (by omega)] at h2; cases h2
def orX {α β : Type} (o : Option Nat) (X : Nat → α) (Y : α) (k1 k2 : Nat) : Option (Nat × α) := match o with
  | some j => some (k1, X j)
  | none => some (k2, Y)
theorem iter_fnd {α : Type} {step : α → Option (Nat × α)} {n k1 k2 fuel : Nat} {bad : Nat → Bool} (F X : Nat → α) (Y : α) (hgo : ∀ i, i < n → step (F i) = some (bif bad i then (k1 + 1, X i) else (0, F (i + 1)))) (hend : step (F n) = some (k2 + 1, Y)) (hf : n < fuel) :
    iter step fuel (F 0) = orX (α := α) (β := α) (fnd bad n) X Y k1 k2 := by
  rcases iter_fn F X Y hgo hend hf with ⟨j, h1, h2, h3, h4⟩ | ⟨h1, h2⟩
  · rw [fnd_is h1 h2 h3, h4]; rfl
  · rw [fnd_none.2 h1, h2]; rfl

/-- The first kind that is lacking. -/
def kO (g : List Int) : Option Nat := fnd (fun k => decide (g.getD k 0 > 0)) 3
/-- The first week in which something is. -/
def wO (l : List (List Int)) : Option Nat := fnd (fun w => (kO (l.getD w z3)).isSome) l.length
/-- What is lacking of a store. -/
def lkM (s : E27) (p i n : Nat) : List (List Int) := (traceM s p i n).2.2.1
def nO (s : E27) (p i : Nat) : Option Nat := fnd (fun n => (wO (lkM s p i n)).isSome) s.2.2.2.2.2.2.2.1.length
def iO (s : E27) (p : Nat) : Option Nat := fnd (fun i => (nO s p i).isSome) s.2.2.2.2.2.2.1.length
def noF : E44 := (false, (0, (0, (0, (0, ())))))
def fW (l : List (List Int)) (i n w : Nat) : E44 := (true, ((i : Int), ((n : Int), ((w : Int), (((kO (l.getD w z3)).getD 0 : Nat) : Int), ()))))
def fN (s : E27) (p i n : Nat) : E44 := fW (lkM s p i n) i n ((wO (lkM s p i n)).getD 0)
def fI (s : E27) (p i : Nat) : E44 := fN s p i ((nO s p i).getD 0)
/-- The fault of a plan. -/
def faultM (s : E27) (p : Nat) : E44 := match iO s p with
  | some i => fI s p i
  | none => noF

theorem fault_l3 (p i n w x1 x2 x3 x4 : Int) (L : List (List Int)) (m j : Int) (s : E27) (e : E44) (g : List Int) :
    g55_store_fault_l3_run ((p, (i, (n, (w, (x1, (x2, (x3, (x4, (L, (m, (j, (0, ())))))))))))), (s, (e, (g, ())))) =
      orX (β := E44) (kO g) (fun k => ((p, (i, (n, (w, (x1, (x2, (x3, (x4, (L, (m, (j, ((k : Int), ())))))))))))), (s, ((true, (i, (n, (w, ((k : Int), ()))))), (g, ())))))
        ((p, (i, (n, (w, (x1, (x2, (x3, (x4, (L, (m, (j, (3, ())))))))))))), (s, (e, (g, ())))) 0 1 := by
  exact iter_fnd (step := g55_store_fault_l3_step) (n := 3) (bad := fun k => decide (g.getD k 0 > 0))
    (fun k => ((p, (i, (n, (w, (x1, (x2, (x3, (x4, (L, (m, (j, ((k : Int), ())))))))))))), (s, (e, (g, ()))))) _ _
    (fun k hk => by
      have h3 := lt_int hk
      simp only [g55_store_fault_l3_step, show ((3 : Nat) : Int) = 3 from rfl, three_lt' hk, ge0, Bool.and_true, cond_true, getD_toNat, wr1 (i := k) (by omega)]
      cases decide (g.getD k 0 > 0) <;> rfl)
    rfl (by simp [g55_store_fault_l3_fuel])
theorem fault_l2 (p i n x1 x2 x3 x4 : Int) (L : List (List Int)) (hL : L.length < 2 ^ 40) (s : E27) (e : E44) :
    g55_store_fault_l2_run ((p, (i, (n, (x1, (x2, (x3, (x4, (L, ((L.length : Int), (0, ())))))))))), (s, (e, ()))) =
      orX (β := E44) (wO L) (fun w => ((p, (i, (n, (x1, (x2, (x3, (x4, (L, ((L.length : Int), ((w : Int), ())))))))))), (s, ((true, (i, (n, ((w : Int), ((((kO (L.getD w z3)).getD 0 : Nat) : Int), ()))))), ()))))
        ((p, (i, (n, (x1, (x2, (x3, (x4, (L, ((L.length : Int), ((L.length : Int), ())))))))))), (s, (e, ()))) 0 1 := by
  exact iter_fnd (step := g55_store_fault_l2_step) (n := L.length) (bad := fun w => (kO (L.getD w z3)).isSome)
    (fun w => ((p, (i, (n, (x1, (x2, (x3, (x4, (L, ((L.length : Int), ((w : Int), ())))))))))), (s, (e, ())))) _ _
    (fun w hw => by
      simp only [g55_store_fault_l2_step, lt_int hw, ge0, Bool.and_true, cond_true, getD_toNat]
      rw [fault_l3, show List.replicate 3 (0 : Int) = z3 from rfl]
      cases h : kO (L.getD w z3) with
      | some k => rfl
      | none => simp only [orX, Option.bind_some, natK, wr1 (i := w) (by omega)]; rfl)
    (by simp only [g55_store_fault_l2_step, nlt_int, cond_false]) (by simp [g55_store_fault_l2_fuel])
theorem fault_l1 {s : E27} (hs : OkS s) (wf : WfS s) {p : Nat} (hp : p < 2 ^ shN s) {i : Nat} (hi : i < s.2.2.2.2.2.2.1.length) (x1 x2 : Int) (e : E44) :
    g55_store_fault_l1_run (((p : Int), ((i : Int), (x1, (x2, ((s.2.2.2.2.2.2.2.1.length : Int), (0, ())))))), (s, (e, ()))) =
      orX (β := E44) (nO s p i) (fun n => (((p : Int), ((i : Int), (x1, (x2, ((s.2.2.2.2.2.2.2.1.length : Int), ((n : Int), ())))))), (s, (fN s p i n, ()))))
        (((p : Int), ((i : Int), (x1, (x2, ((s.2.2.2.2.2.2.2.1.length : Int), ((s.2.2.2.2.2.2.2.1.length : Int), ())))))), (s, (e, ()))) 0 1 := by
  have hnw := hs.nwin.2
  exact iter_fnd (step := g55_store_fault_l1_step) (n := s.2.2.2.2.2.2.2.1.length) (bad := fun n => (wO (lkM s p i n)).isSome)
    (fun n => (((p : Int), ((i : Int), (x1, (x2, ((s.2.2.2.2.2.2.2.1.length : Int), ((n : Int), ())))))), (s, (e, ())))) _ _
    (fun n hn => by
      have hl := (trace_lens hs wf (i := i) hp hn).2.2
      have hw := (win_len hs wf hn).2
      simp only [g55_store_fault_l1_step, lt_int hn, cond_true, trace54 hs wf hp hi hn, Option.bind_some]
      rw [fault_l2 _ _ _ _ _ _ _ _ (by rw [hl]; omega)]
      rw [show (traceM s p i n).2.2.1 = lkM s p i n from rfl]
      cases h : wO (lkM s p i n) with
      | some w =>
        simp only [orX, Option.bind_some, natK, Option.isSome_some, cond_true, fN, fW, h, Option.getD_some]
      | none => simp only [orX, Option.bind_some, natK, wr1 (i := n) (by omega)]; rfl)
    (by simp only [g55_store_fault_l1_step, nlt_int, cond_false]) (by simp [g55_store_fault_l1_fuel])
theorem fault_l0 {s : E27} (hs : OkS s) (wf : WfS s) {p : Nat} (hp : p < 2 ^ shN s) (e : E44) :
    g55_store_fault_l0_run (((p : Int), ((s.2.2.2.2.2.2.1.length : Int), (0, ()))), (s, (e, ()))) =
      orX (β := E44) (iO s p) (fun i => (((p : Int), ((s.2.2.2.2.2.2.1.length : Int), ((i : Int), ()))), (s, (fI s p i, ()))))
        (((p : Int), ((s.2.2.2.2.2.2.1.length : Int), ((s.2.2.2.2.2.2.1.length : Int), ()))), (s, (e, ()))) 0 1 := by
  have hni := hs.nices.2
  exact iter_fnd (step := g55_store_fault_l0_step) (n := s.2.2.2.2.2.2.1.length) (bad := fun i => (nO s p i).isSome)
    (fun i => (((p : Int), ((s.2.2.2.2.2.2.1.length : Int), ((i : Int), ()))), (s, (e, ())))) _ _
    (fun i hi => by
      simp only [g55_store_fault_l0_step, lt_int hi, cond_true]
      rw [fault_l1 hs wf hp hi]
      cases h : nO s p i with
      | some n => simp only [orX, Option.bind_some, natK, Option.isSome_some, cond_true, fI, h, Option.getD_some]
      | none => simp only [orX, Option.bind_some, natK, wr1 (i := i) (by omega)]; rfl)
    (by simp only [g55_store_fault_l0_step, nlt_int, cond_false]) (by simp [g55_store_fault_l0_fuel])
theorem fault55 {s : E27} (hs : OkS s) (wf : WfS s) {p : Nat} (hp : p < 2 ^ shN s) : g55_store_fault s (p : Int) = some (faultM s p) := by
  unfold g55_store_fault faultM
  rw [fault_l0 hs wf hp]
  cases iO s p <;> rfl
theorem fault24_ok {s : E27} (h : ShortS s) (hs : OkS s) (wf : WfS s) {p : Nat} (hp : p < 2 ^ shN s) : g24_store_Fault s (p : Int) = some (faultM s p, (0, ())) := by
  unfold g24_store_Fault
  rw [(valid51 s h).val hs]
  simp only [Option.bind_some, Bool.not_true, cond_false]
  rw [(planned52 s h.n10 _).val (nat_okp hp)]
  simp only [Option.bind_some, Bool.not_true, cond_false, fault55 hs wf hp]
theorem fault24_bad {s : E27} (h : ShortS s) {p : Int} (hb : ¬ (OkS s ∧ OkP s p)) : g24_store_Fault s p = some (noF, (2, ())) := by
  unfold g24_store_Fault
  by_cases hs : OkS s
  · rw [(valid51 s h).val hs]
    simp only [Option.bind_some, Bool.not_true, cond_false]
    rw [(planned52 s h.n10 _).nval (fun hp => hb ⟨hs, hp⟩)]; rfl
  · rw [(valid51 s h).nval hs]; rfl

/-! ### The reference's faults -/
theorem lack_l1 (l : List (List Int)) (a b : Int) (c : Bool) (w : Nat) (hw : w < l.length) :
    g56_talikref06_Lack_l1_run ((l, (a, (b, (c, ((w : Int), (0, ())))))), ()) =
      orX (β := E44) (kO (l.getD w z3)) (fun k => ((l, ((w : Int), ((k : Int), (true, ((w : Int), ((k : Int), ())))))), ())) ((l, (a, (b, (c, ((w : Int), (3, ())))))), ()) 0 1 := by
  exact iter_fnd (step := g56_talikref06_Lack_l1_step) (n := 3) (bad := fun k => decide ((l.getD w z3).getD k 0 > 0))
    (fun k => ((l, (a, (b, (c, ((w : Int), ((k : Int), ())))))), ())) _ _
    (fun k hk => by
      have h3 := lt_int hk
      simp only [g56_talikref06_Lack_l1_step, show ((3 : Nat) : Int) = 3 from rfl, three_lt' hk, lt_int hw, ge0, Bool.and_true, cond_true, getD_toNat, wr1 (i := k) (by omega)]
      rw [show List.replicate 3 (0 : Int) = z3 from rfl]
      cases decide ((l.getD w z3).getD k 0 > 0) <;> rfl)
    rfl (by simp [g56_talikref06_Lack_l1_fuel])
/-- The first week and kind of which something is lacking. -/
def lackA (l : List (List Int)) : Int × (Int × (Bool × Unit)) := match wO l with
  | some w => ((w : Int), ((((kO (l.getD w z3)).getD 0 : Nat) : Int), (true, ())))
  | none => (0, (0, (false, ())))
theorem lack56 (l : List (List Int)) (hl : l.length < 2 ^ 40) : g56_talikref06_Lack l = some (lackA l) := by
  have K := iter_fnd (step := g56_talikref06_Lack_l0_step) (n := l.length) (bad := fun w => (kO (l.getD w z3)).isSome) (k1 := 0) (k2 := 1) (fuel := g56_talikref06_Lack_l0_fuel ((l, (0, (0, (false, (0, ()))))), ()))
    (fun w => ((l, (0, (0, (false, ((w : Int), ()))))), ())) (fun w => ((l, ((w : Int), ((((kO (l.getD w z3)).getD 0 : Nat) : Int), (true, ((w : Int), ()))))), ())) ((l, (0, (0, (false, ((l.length : Int), ()))))), ())
    (fun w hw => by
      simp only [g56_talikref06_Lack_l0_step, lt_int hw, cond_true]
      rw [lack_l1 _ _ _ _ _ hw]
      cases h : kO (l.getD w z3) with
      | some k => rfl
      | none => simp only [orX, Option.bind_some, natK, wr1 (i := w) (by omega)]; rfl)
    (by simp only [g56_talikref06_Lack_l0_step, nlt_int, cond_false]) (by simp [g56_talikref06_Lack_l0_fuel])
  have K : g56_talikref06_Lack_l0_run ((l, (0, (0, (false, (0, ()))))), ()) = _ := K
  unfold g56_talikref06_Lack lackA
  rw [K]
  unfold wO
  cases fnd (fun w => (kO (l.getD w z3)).isSome) l.length <;> rfl
end Go.Proofs.YtcijddeommognaaDoor.Abs

/-
  Plain laws of the store layer: the reference's faults; the first thing to run out, of both.
-/
set_option linter.unusedVariables false
set_option linter.unusedSimpArgs false
set_option maxRecDepth 100000
namespace Go.Proofs.YtcijddeommognaaDoor.Abs

theorem rfault_l1 {s : E27} (hs : OkS s) (wf : WfS s) {p : Nat} (hp : p < 2 ^ shN s) {i : Nat} (hi : i < s.2.2.2.2.2.2.1.length) (e : E44) :
    g26_talikref06_Fault_l1_run (((p : Int), ((i : Int), (0, ()))), (s, (e, ()))) =
      orX (β := E44) (nO s p i) (fun n => (((p : Int), ((i : Int), ((n : Int), ()))), (s, (fN s p i n, ()))))
        (((p : Int), ((i : Int), ((s.2.2.2.2.2.2.2.1.length : Int), ()))), (s, (e, ()))) 0 1 := by
  have hnw := hs.nwin.2
  exact iter_fnd (step := g26_talikref06_Fault_l1_step) (n := s.2.2.2.2.2.2.2.1.length) (bad := fun n => (wO (lkM s p i n)).isSome)
    (fun n => (((p : Int), ((i : Int), ((n : Int), ()))), (s, (e, ())))) _ _
    (fun n hn => by
      have hl := (trace_lens hs wf (i := i) hp hn).2.2
      have hw := (win_len hs wf hn).2
      simp only [g26_talikref06_Fault_l1_step, lt_int hn, cond_true, run38 hs wf hp hi hn, Option.bind_some]
      rw [lack56 _ (by rw [hl]; omega)]
      rw [show (traceM s p i n).2.2.1 = lkM s p i n from rfl]
      simp only [Option.bind_some, lackA]
      cases h : wO (lkM s p i n) with
      | some w =>
        simp only [Option.isSome_some, cond_true, fN, fW, h, Option.getD_some]
      | none => simp only [cond_false, Option.isSome_none, wr1 (i := n) (by omega)])
    (by simp only [g26_talikref06_Fault_l1_step, nlt_int, cond_false]) (by simp [g26_talikref06_Fault_l1_fuel])
theorem rfault26 {s : E27} (hs : OkS s) (wf : WfS s) {p : Nat} (hp : p < 2 ^ shN s) : g26_talikref06_Fault s (p : Int) = some (faultM s p) := by
  have hni := hs.nices.2
  have K := iter_fnd (step := g26_talikref06_Fault_l0_step) (n := s.2.2.2.2.2.2.1.length) (bad := fun i => (nO s p i).isSome) (k1 := 0) (k2 := 1) (fuel := g26_talikref06_Fault_l0_fuel (((p : Int), (0, ())), (s, (noF, ()))))
    (fun i => (((p : Int), ((i : Int), ())), (s, (noF, ())))) (fun i => (((p : Int), ((i : Int), ())), (s, (fI s p i, ())))) (((p : Int), ((s.2.2.2.2.2.2.1.length : Int), ())), (s, (noF, ())))
    (fun i hi => by
      simp only [g26_talikref06_Fault_l0_step, lt_int hi, cond_true]
      rw [rfault_l1 hs wf hp hi]
      cases h : nO s p i with
      | some n => simp only [orX, Option.bind_some, natK, Option.isSome_some, cond_true, fI, h, Option.getD_some]
      | none => simp only [orX, Option.bind_some, natK, wr1 (i := i) (by omega)]; rfl)
    (by simp only [g26_talikref06_Fault_l0_step, nlt_int, cond_false]) (by simp [g26_talikref06_Fault_l0_fuel])
  have K : g26_talikref06_Fault_l0_run (((p : Int), (0, ())), (s, ((false, (0, (0, (0, (0, ()))))), ()))) = _ := K
  unfold g26_talikref06_Fault faultM
  rw [K]
  unfold iO
  cases fnd (fun i => (nO s p i).isSome) s.2.2.2.2.2.2.1.length <;> rfl

/-! ### What is lacking is never less than nothing -/
theorem mx_nonneg (a : Int) : 0 ≤ mx a := by unfold mx; split <;> omega
theorem run_la (s : E27) (il : List Bool) (wl : List (List Int)) (p : Nat) : ∀ w, ∀ g ∈ (runM s il wl p w).2.2.2, ∃ y n, g = lackM y n
  | 0, g, h => by simp [runM] at h
  | w + 1, g, h => by
    simp only [runM, weekM, List.mem_append, List.mem_singleton] at h
    rcases h with h | h
    · exact run_la s il wl p w g h
    · exact ⟨_, _, h⟩
theorem lack_nonneg (y n : List Int) (k : Nat) : 0 ≤ (lackM y n).getD k 0 := by
  match k with
  | 0 => exact mx_nonneg _
  | 1 => exact mx_nonneg _
  | 2 => exact mx_nonneg _
  | k + 3 => simp [lackM]
theorem lk_nonneg (s : E27) (p i n w k : Nat) : 0 ≤ ((lkM s p i n).getD w z3).getD k 0 := by
  by_cases h : w < (lkM s p i n).length
  · obtain ⟨y, m, e⟩ := run_la s (ice s i) (win s n) p _ _ (getD_mem (d := z3) h)
    have e : (lkM s p i n).getD w z3 = lackM y m := e
    rw [e]; exact lack_nonneg y m k
  · have e : (lkM s p i n).getD w z3 = z3 := by rw [List.getD_eq_getElem?_getD, List.getElem?_eq_none (by omega)]; rfl
    rw [e]
    match k with
    | 0 => decide
    | 1 => decide
    | 2 => decide
    | k + 3 => simp [z3]

/-! ### The first thing to run out -/
abbrev Acc := Int × Int × Bool
def upd (a : Acc) (w k : Int) : Acc := bif !a.2.2 || decide (w < a.1) || (w == a.1 && decide (k < a.2.1)) then (w, k, true) else a
def updL (a : Acc) (l : List (List Int)) : Acc := match wO l with
  | some w => upd a (w : Int) (((kO (l.getD w z3)).getD 0 : Nat) : Int)
  | none => a
def firstN (s : E27) (p i : Nat) (a : Acc) : Nat → Acc
  | 0 => a
  | n + 1 => updL (firstN s p i a n) (lkM s p i n)
def firstI (s : E27) (p : Nat) : Nat → Acc
  | 0 => (0, 0, false)
  | i + 1 => firstN s p i (firstI s p i) s.2.2.2.2.2.2.2.1.length
theorem rfirst_l1 {s : E27} (hs : OkS s) (wf : WfS s) {p : Nat} (hp : p < 2 ^ shN s) {i : Nat} (hi : i < s.2.2.2.2.2.2.1.length) (a : Acc) :
    g27_talikref06_First_l1_run (((p : Int), (a.1, (a.2.1, (a.2.2, ((i : Int), (0, ())))))), (s, ())) =
      some (0, (((p : Int), ((firstN s p i a s.2.2.2.2.2.2.2.1.length).1, ((firstN s p i a s.2.2.2.2.2.2.2.1.length).2.1, ((firstN s p i a s.2.2.2.2.2.2.2.1.length).2.2, ((i : Int), ((s.2.2.2.2.2.2.2.1.length : Int), ())))))), (s, ()))) := by
  have hnw := hs.nwin.2
  exact iter_run (step := g27_talikref06_First_l1_step) (n := s.2.2.2.2.2.2.2.1.length) (k := 0)
    (fun n => (((p : Int), ((firstN s p i a n).1, ((firstN s p i a n).2.1, ((firstN s p i a n).2.2, ((i : Int), ((n : Int), ())))))), (s, ()))) _
    (fun n hn => by
      have hl := (trace_lens hs wf (i := i) hp hn).2.2
      have hw := (win_len hs wf hn).2
      simp only [g27_talikref06_First_l1_step, lt_int hn, cond_true, run38 hs wf hp hi hn, Option.bind_some]
      rw [lack56 _ (by rw [hl]; omega)]
      rw [show (traceM s p i n).2.2.1 = lkM s p i n from rfl]
      simp only [Option.bind_some, lackA, firstN, updL]
      generalize firstN s p i a n = b
      obtain ⟨b1, b2, b3⟩ := b
      cases h : wO (lkM s p i n) with
      | some w =>
        simp only [upd, cond_true, wr1 (i := n) (by omega)]
        cases b3 with
        | false => rfl
        | true =>
          cases decide ((w : Int) < b1) with
          | true => rfl
          | false =>
            cases ((w : Int) == b1) with
            | false => rfl
            | true => cases decide ((((kO ((lkM s p i n).getD w z3)).getD 0 : Nat) : Int) < b2) <;> rfl
      | none => simp only [cond_false, wr1 (i := n) (by omega)])
    (by simp only [g27_talikref06_First_l1_step, nlt_int, cond_false]) (by simp [g27_talikref06_First_l1_fuel])
theorem rfirst27 {s : E27} (hs : OkS s) (wf : WfS s) {p : Nat} (hp : p < 2 ^ shN s) : g27_talikref06_First s (p : Int) = some ((firstI s p s.2.2.2.2.2.2.1.length).1, ((firstI s p s.2.2.2.2.2.2.1.length).2.1, ((firstI s p s.2.2.2.2.2.2.1.length).2.2, ()))) := by
  have hni := hs.nices.2
  have K := iter_run (step := g27_talikref06_First_l0_step) (n := s.2.2.2.2.2.2.1.length) (k := 0) (fuel := g27_talikref06_First_l0_fuel (((p : Int), (0, (0, (false, (0, ()))))), (s, ())))
    (fun i => (((p : Int), ((firstI s p i).1, ((firstI s p i).2.1, ((firstI s p i).2.2, ((i : Int), ()))))), (s, ())))
    (((p : Int), ((firstI s p s.2.2.2.2.2.2.1.length).1, ((firstI s p s.2.2.2.2.2.2.1.length).2.1, ((firstI s p s.2.2.2.2.2.2.1.length).2.2, ((s.2.2.2.2.2.2.1.length : Int), ()))))), (s, ()))
    (fun i hi => by
      simp only [g27_talikref06_First_l0_step, lt_int hi, cond_true]
      rw [rfirst_l1 hs wf hp hi (firstI s p i)]
      simp only [Option.bind_some, wr1 (i := i) (by omega)]
      rfl)
    (by simp only [g27_talikref06_First_l0_step, nlt_int, cond_false]) (by simp [g27_talikref06_First_l0_fuel])
  have K : g27_talikref06_First_l0_run (((p : Int), (0, (0, (false, (0, ()))))), (s, ())) = _ := K
  unfold g27_talikref06_First
  rw [K]; rfl

/-! ### The program's -/
theorem first_l3 (p : Int) (a : Acc) (i w x1 x2 x3 x4 : Int) (L : List (List Int)) (m j : Int) (s : E27) (g : List Int) (hg : ∀ k, 0 ≤ g.getD k 0) :
    g25_store_First_l3_run ((p, (a.1, (a.2.1, (a.2.2, (i, (w, (x1, (x2, (x3, (x4, (L, (m, (j, (0, ())))))))))))))), (s, (g, ()))) =
      orX (β := E44) (kO g) (fun k => ((p, ((upd a w (k : Int)).1, ((upd a w (k : Int)).2.1, ((upd a w (k : Int)).2.2, (i, (w, (x1, (x2, (x3, (x4, (L, (m, (j, ((k : Int), ())))))))))))))), (s, (g, ()))))
        ((p, (a.1, (a.2.1, (a.2.2, (i, (w, (x1, (x2, (x3, (x4, (L, (m, (j, (3, ())))))))))))))), (s, (g, ()))) 0 1 := by
  exact iter_fnd (step := g25_store_First_l3_step) (n := 3) (bad := fun k => decide (g.getD k 0 > 0))
    (fun k => ((p, (a.1, (a.2.1, (a.2.2, (i, (w, (x1, (x2, (x3, (x4, (L, (m, (j, ((k : Int), ())))))))))))))), (s, (g, ())))) _ _
    (fun k hk => by
      have h3 := lt_int hk
      simp only [g25_store_First_l3_step, show ((3 : Nat) : Int) = 3 from rfl, three_lt' hk, ge0, Bool.and_true, cond_true, getD_toNat, wr1 (i := k) (by omega)]
      have := hg k
      by_cases h0 : g.getD k 0 = 0
      · rw [h0]; rfl
      · rw [show (g.getD k 0 == 0) = false by simpa using h0, decide_eq_true (show g.getD k 0 > 0 by omega)]
        obtain ⟨a1, a2, a3⟩ := a
        simp only [cond_false, cond_true, upd]
        cases a3 with
        | false => rfl
        | true =>
          cases decide (w < a1) with
          | true => rfl
          | false =>
            cases (w == a1) with
            | false => rfl
            | true => cases decide ((k : Int) < a2) <;> rfl)
    rfl (by simp [g25_store_First_l3_fuel])
theorem first_l2 (p : Int) (a : Acc) (i x1 x2 x3 x4 : Int) (L : List (List Int)) (hL : L.length < 2 ^ 40) (hg : ∀ w k, 0 ≤ (L.getD w z3).getD k 0) (s : E27) :
    ∃ e j, g25_store_First_l2_run ((p, (a.1, (a.2.1, (a.2.2, (i, (x1, (x2, (x3, (x4, (L, ((L.length : Int), (0, ())))))))))))), (s, ())) =
      some (e, ((p, ((updL a L).1, ((updL a L).2.1, ((updL a L).2.2, (i, (x1, (x2, (x3, (x4, (L, ((L.length : Int), (j, ())))))))))))), (s, ()))) := by
  have K := iter_fnd (step := g25_store_First_l2_step) (n := L.length) (bad := fun w => (kO (L.getD w z3)).isSome) (k1 := 0) (k2 := 0) (fuel := g25_store_First_l2_fuel ((p, (a.1, (a.2.1, (a.2.2, (i, (x1, (x2, (x3, (x4, (L, ((L.length : Int), (0, ())))))))))))), (s, ())))
    (fun w => ((p, (a.1, (a.2.1, (a.2.2, (i, (x1, (x2, (x3, (x4, (L, ((L.length : Int), ((w : Int), ())))))))))))), (s, ())))
    (fun w => ((p, ((upd a (w : Int) (((kO (L.getD w z3)).getD 0 : Nat) : Int)).1, ((upd a (w : Int) (((kO (L.getD w z3)).getD 0 : Nat) : Int)).2.1, ((upd a (w : Int) (((kO (L.getD w z3)).getD 0 : Nat) : Int)).2.2, (i, (x1, (x2, (x3, (x4, (L, ((L.length : Int), ((w : Int), ())))))))))))), (s, ())))
    ((p, (a.1, (a.2.1, (a.2.2, (i, (x1, (x2, (x3, (x4, (L, ((L.length : Int), ((L.length : Int), ())))))))))))), (s, ()))
    (fun w hw => by
      simp only [g25_store_First_l2_step, lt_int hw, ge0, Bool.and_true, cond_true, getD_toNat]
      rw [show List.replicate 3 (0 : Int) = z3 from rfl, first_l3 p a i (w : Int) x1 x2 x3 x4 L (L.length : Int) (w : Int) s _ (hg w)]
      cases h : kO (L.getD w z3) with
      | some k => rfl
      | none => simp only [orX, Option.bind_some, natK, wr1 (i := w) (by omega)]; rfl)
    (by simp only [g25_store_First_l2_step, nlt_int, cond_false]) (by simp [g25_store_First_l2_fuel])
  have K : g25_store_First_l2_run ((p, (a.1, (a.2.1, (a.2.2, (i, (x1, (x2, (x3, (x4, (L, ((L.length : Int), (0, ())))))))))))), (s, ())) = _ := K
  rw [K]
  unfold updL wO
  cases fnd (fun w => (kO (L.getD w z3)).isSome) L.length with
  | some w => exact ⟨_, _, rfl⟩
  | none => exact ⟨_, _, rfl⟩
theorem first_l1 {s : E27} (hs : OkS s) (wf : WfS s) {p : Nat} (hp : p < 2 ^ shN s) {i : Nat} (hi : i < s.2.2.2.2.2.2.1.length) (x1 x2 : Int) (a : Acc) :
    g25_store_First_l1_run (((p : Int), (a.1, (a.2.1, (a.2.2, ((i : Int), (x1, (x2, ((s.2.2.2.2.2.2.2.1.length : Int), (0, ()))))))))), (s, ())) =
      some (0, (((p : Int), ((firstN s p i a s.2.2.2.2.2.2.2.1.length).1, ((firstN s p i a s.2.2.2.2.2.2.2.1.length).2.1, ((firstN s p i a s.2.2.2.2.2.2.2.1.length).2.2, ((i : Int), (x1, (x2, ((s.2.2.2.2.2.2.2.1.length : Int), ((s.2.2.2.2.2.2.2.1.length : Int), ()))))))))), (s, ()))) := by
  have hnw := hs.nwin.2
  exact iter_run (step := g25_store_First_l1_step) (n := s.2.2.2.2.2.2.2.1.length) (k := 0)
    (fun n => (((p : Int), ((firstN s p i a n).1, ((firstN s p i a n).2.1, ((firstN s p i a n).2.2, ((i : Int), (x1, (x2, ((s.2.2.2.2.2.2.2.1.length : Int), ((n : Int), ()))))))))), (s, ()))) _
    (fun n hn => by
      have hl := (trace_lens hs wf (i := i) hp hn).2.2
      have hw := (win_len hs wf hn).2
      simp only [g25_store_First_l1_step, lt_int hn, cond_true, trace54 hs wf hp hi hn, Option.bind_some]
      obtain ⟨e, j, h1⟩ := first_l2 (p : Int) (firstN s p i a n) (i : Int) x1 x2 (s.2.2.2.2.2.2.2.1.length : Int) (n : Int) (lkM s p i n) (by rw [show (lkM s p i n).length = _ from hl]; omega) (lk_nonneg s p i n) s
      rw [show (traceM s p i n).2.2.1 = lkM s p i n from rfl, h1]
      simp only [Option.bind_some, wr1 (i := n) (by omega)]
      rfl)
    (by simp only [g25_store_First_l1_step, nlt_int, cond_false]) (by simp [g25_store_First_l1_fuel])
theorem first25_ok {s : E27} (h : ShortS s) (hs : OkS s) (wf : WfS s) {p : Nat} (hp : p < 2 ^ shN s) : g25_store_First s (p : Int) = some (bif (firstI s p s.2.2.2.2.2.2.1.length).2.2 then ((firstI s p s.2.2.2.2.2.2.1.length).1, ((firstI s p s.2.2.2.2.2.2.1.length).2.1, (0, ()))) else (0, (0, (5, ())))) := by
  have hni := hs.nices.2
  have K := iter_run (step := g25_store_First_l0_step) (n := s.2.2.2.2.2.2.1.length) (k := 0) (fuel := g25_store_First_l0_fuel (((p : Int), (0, (0, (false, ((s.2.2.2.2.2.2.1.length : Int), (0, ())))))), (s, ())))
    (fun i => (((p : Int), ((firstI s p i).1, ((firstI s p i).2.1, ((firstI s p i).2.2, ((s.2.2.2.2.2.2.1.length : Int), ((i : Int), ())))))), (s, ())))
    (((p : Int), ((firstI s p s.2.2.2.2.2.2.1.length).1, ((firstI s p s.2.2.2.2.2.2.1.length).2.1, ((firstI s p s.2.2.2.2.2.2.1.length).2.2, ((s.2.2.2.2.2.2.1.length : Int), ((s.2.2.2.2.2.2.1.length : Int), ())))))), (s, ()))
    (fun i hi => by
      simp only [g25_store_First_l0_step, lt_int hi, cond_true]
      rw [first_l1 hs wf hp hi _ _ (firstI s p i)]
      simp only [Option.bind_some, wr1 (i := i) (by omega)]
      rfl)
    (by simp only [g25_store_First_l0_step, nlt_int, cond_false]) (by simp [g25_store_First_l0_fuel])
  have K : g25_store_First_l0_run (((p : Int), (0, (0, (false, ((s.2.2.2.2.2.2.1.length : Int), (0, ())))))), (s, ())) = _ := K
  unfold g25_store_First
  rw [(valid51 s h).val hs]
  simp only [Option.bind_some, Bool.not_true, cond_false]
  rw [(planned52 s h.n10 _).val (nat_okp hp)]
  simp only [Option.bind_some, Bool.not_true, cond_false]
  rw [K]
  simp only [Option.bind_some]
  cases (firstI s p s.2.2.2.2.2.2.1.length).2.2 <;> rfl
theorem first25_bad {s : E27} (h : ShortS s) {p : Int} (hb : ¬ (OkS s ∧ OkP s p)) : g25_store_First s p = some (0, (0, (2, ()))) := by
  unfold g25_store_First
  by_cases hs : OkS s
  · rw [(valid51 s h).val hs]
    simp only [Option.bind_some, Bool.not_true, cond_false]
    rw [(planned52 s h.n10 _).nval (fun hp => hb ⟨hs, hp⟩)]; rfl
  · rw [(valid51 s h).nval hs]; rfl
end Go.Proofs.YtcijddeommognaaDoor.Abs

/-
  Plain laws of the store layer: no goods are lost.
-/
set_option linter.unusedVariables false
set_option linter.unusedSimpArgs false
set_option maxRecDepth 100000
namespace Go.Proofs.YtcijddeommognaaDoor.Abs

/-- All that is landed of a kind. -/
def colS (l : List (List Int)) (k : Nat) : Int := (l.map fun g => g.getD k 0).sum
theorem colS_set (k : Nat) (v : List Int) : ∀ (l : List (List Int)) (i : Nat), i < l.length → colS (l.set i v) k = colS l k - (l.getD i z3).getD k 0 + v.getD k 0
  | [], i, h => by simp at h
  | g :: l, 0, _ => by
    simp only [colS, List.set_cons_zero, List.map_cons, List.sum_cons, List.getD_cons_zero]; omega
  | g :: l, i + 1, h => by
    have := colS_set k v l i (by simpa using h)
    simp only [colS, List.set_cons_succ, List.map_cons, List.sum_cons, List.getD_cons_succ] at *
    omega
theorem colS_take_succ (l : List (List Int)) (k : Nat) {j : Nat} (h : j < l.length) : colS (l.take (j + 1)) k = colS (l.take j) k + (l.getD j z3).getD k 0 := by
  have e : l.getD j z3 = l[j] := by rw [List.getD_eq_getElem?_getD, List.getElem?_eq_getElem h]; rfl
  unfold colS
  rw [e, List.take_add_one, List.getElem?_eq_getElem h, List.map_append, List.sum_append]
  simp
theorem colS_zero (n k : Nat) : colS (List.replicate n [0, 0, 0]) k = 0 := by
  have e : ([0, 0, 0] : List Int).getD k 0 = 0 := by
    match k with
    | 0 => rfl
    | 1 => rfl
    | 2 => rfl
    | k + 3 => simp
  induction n with
  | zero => rfl
  | succ n ih =>
    simp only [colS, List.replicate_succ, List.map_cons, List.sum_cons, e] at *
    omega
/-- What landing keeps. -/
structure Kept (x y : LS) : Prop where
  bal : ∀ k, k < 3 → y.2.1.getD k 0 - colS y.2.2 k = x.2.1.getD k 0 - colS x.2.2 k
  up : ∀ k, k < 3 → x.2.1.getD k 0 ≤ y.2.1.getD k 0
  all : y.1 + colS y.2.2 0 + colS y.2.2 1 + colS y.2.2 2 = x.1 + colS x.2.2 0 + colS x.2.2 1 + colS x.2.2 2
theorem Kept.refl (x : LS) : Kept x x := ⟨fun _ _ => rfl, fun _ _ => Int.le_refl _, rfl⟩
theorem Kept.trans {x y z : LS} (h : Kept x y) (h' : Kept y z) : Kept x z :=
  ⟨fun k hk => (h'.bal k hk).trans (h.bal k hk), fun k hk => Int.le_trans (h.up k hk) (h'.up k hk), h'.all.trans h.all⟩
theorem landOne_kept {s : E27} {x : LS} (h : LInv s x) {i : Nat} (hi : i < shN s) : Kept x (landOne s x i) := by
  have hl : i < x.2.2.length := by rw [h.len]; exact hi
  obtain ⟨K1, _⟩ := landM_b3 h hi
  have c : ∀ k, k < 3 → colS (landOne s x i).2.2 k = colS x.2.2 k + (landM s x i).getD k 0 := fun k hk => by
    simp only [landOne]
    rw [colS_set _ _ _ _ hl]
    have e : (add3 (x.2.2.getD i z3) (landM s x i)).getD k 0 = (x.2.2.getD i z3).getD k 0 + (landM s x i).getD k 0 := by
      match k, hk with
      | 0, _ => rfl
      | 1, _ => rfl
      | 2, _ => rfl
    rw [e]; omega
  have d : ∀ k, k < 3 → (landOne s x i).2.1.getD k 0 = x.2.1.getD k 0 + (landM s x i).getD k 0 := fun k hk => by
    match k, hk with
    | 0, _ => rfl
    | 1, _ => rfl
    | 2, _ => rfl
  have p : ∀ k, k < 3 → 0 ≤ (landM s x i).getD k 0 := fun k hk => by
    match k, hk with
    | 0, _ => exact K1.b0.1
    | 1, _ => exact K1.b1.1
    | 2, _ => exact K1.b2.1
  refine ⟨fun k hk => ?_, fun k hk => ?_, ?_⟩
  · rw [c k hk, d k hk]; omega
  · rw [d k hk]; have := p k hk; omega
  · rw [c 0 (by omega), c 1 (by omega), c 2 (by omega)]
    simp only [landOne, sum3]
    omega
theorem land_kept {s : E27} : ∀ {x : LS} (h : LInv s x) (q : List Nat), (∀ i ∈ q, i < shN s) → Kept x (q.foldl (landOne s) x)
  | x, h, [], _ => Kept.refl x
  | x, h, i :: q, hq => (landOne_kept h (hq i (by simp))).trans (land_kept (x := landOne s x i) (landOne_inv h (hq i (by simp))) q fun j hj => hq j (by simp [hj]))
theorem land_other {s : E27} {j : Nat} : ∀ {x : LS} (q : List Nat), j ∉ q → (q.foldl (landOne s) x).2.2.getD j z3 = x.2.2.getD j z3
  | x, [], _ => rfl
  | x, i :: q, hq => by
    have h1 : i ≠ j := fun e => hq (by simp [e])
    rw [List.foldl_cons, land_other q (fun hj => hq (by simp [hj]))]
    simp only [landOne]
    exact getD_set_ne h1
theorem Qu_bit (s : E27) (il : List Bool) (p : Nat) : ∀ w, ∀ i ∈ Qu s il p w, p.testBit i = true
  | 0, i, h => by simp [Qu] at h
  | w + 1, i, h => by
    simp only [Qu, newQ, List.mem_append, List.mem_filter, Bool.and_eq_true] at h
    rcases h with h | h
    · exact Qu_bit s il p w i h
    · exact h.2.1
/-- A ship that is not ordered, or has not come, has landed nothing. -/
theorem run_none {s : E27} (il : List Bool) (wl : List (List Int)) (p : Nat) {i : Nat} (hi : i < shN s) : ∀ w, (p.testBit i && openB s il i w) = false → (runM s il wl p w).2.1.getD i z3 = z3
  | 0, _ => by
    simp only [runM]
    rw [List.getD_eq_getElem?_getD, List.getElem?_replicate, if_pos hi]; rfl
  | w + 1, h => by
    have h' : (p.testBit i && openB s il i w) = false := by
      cases hb : p.testBit i with
      | false => rfl
      | true =>
        rw [hb] at h
        cases ho : openB s il i w with
        | false => rfl
        | true => rw [openB_mono (Nat.le_succ w) ho] at h; cases h
    have ih := run_none il wl p hi w h'
    simp only [runM, weekM, landW]
    cases opn s il w with
    | false => exact ih
    | true =>
      simp only [cond_true]
      rw [land_other]
      · exact ih
      · intro hq
        rw [Qu_bit s il p _ i hq, Qu_open s il p _ i hq] at h; cases h
/-! ### Week by week -/
/-- What there is in a week, before it is taken. -/
def fullM (s : E27) (il : List Bool) (wl : List (List Int)) (p w : Nat) : List Int := (landW s il p (runM s il wl p w) w).2.1
theorem st_getD (s : E27) (il : List Bool) (wl : List (List Int)) (p : Nat) {w : Nat} : ∀ W, w < W → (runM s il wl p W).2.2.1.length = W → (∀ v, v ≤ W → (runM s il wl p v).2.2.1.length = v) → (runM s il wl p W).2.2.1.getD w z3 = restM (fullM s il wl p w) (wl.getD w z3)
  | 0, h, _, _ => by omega
  | W + 1, h, _, hl => by
    have hW := hl W (by omega)
    simp only [runM, weekM]
    by_cases e : w = W
    · subst e
      rw [List.getD_eq_getElem?_getD, List.getElem?_append_right (by omega), hW]; simp [fullM]
    · rw [List.getD_eq_getElem?_getD, List.getElem?_append_left (by omega), ← List.getD_eq_getElem?_getD]
      exact st_getD s il wl p W (by omega) hW fun v hv => hl v (by omega)
theorem la_getD (s : E27) (il : List Bool) (wl : List (List Int)) (p : Nat) {w : Nat} : ∀ W, w < W → (∀ v, v ≤ W → (runM s il wl p v).2.2.2.length = v) → (runM s il wl p W).2.2.2.getD w z3 = lackM (fullM s il wl p w) (wl.getD w z3)
  | 0, h, _ => by omega
  | W + 1, h, hl => by
    have hW := hl W (by omega)
    simp only [runM, weekM]
    by_cases e : w = W
    · subst e
      rw [List.getD_eq_getElem?_getD, List.getElem?_append_right (by omega), hW]; simp [fullM]
    · rw [List.getD_eq_getElem?_getD, List.getElem?_append_left (by omega), ← List.getD_eq_getElem?_getD]
      exact la_getD s il wl p W (by omega) fun v hv => hl v (by omega)
theorem lack_getD (a b : List Int) {k : Nat} (hk : k < 3) : (lackM a b).getD k 0 = mx (b.getD k 0 - a.getD k 0) := by
  match k, hk with
  | 0, _ => rfl
  | 1, _ => rfl
  | 2, _ => rfl
theorem restq_getD (a b : List Int) {k : Nat} (hk : k < 3) : (restM a b).getD k 0 = mx (a.getD k 0 - b.getD k 0) := by
  match k, hk with
  | 0, _ => rfl
  | 1, _ => rfl
  | 2, _ => rfl
theorem b3_at {X a : List Int} (h : B3 X a) {k : Nat} (hk : k < 3) : 0 ≤ a.getD k 0 ∧ a.getD k 0 ≤ X.getD k 0 := by
  match k, hk with
  | 0, _ => exact h.b0
  | 1, _ => exact h.b1
  | 2, _ => exact h.b2
/-- What holds of a run with an ice, in a winter. -/
structure Runs (s : E27) (il : List Bool) (wl : List (List Int)) (p : Nat) : Prop where
  inv : ∀ w, w ≤ wl.length → RInv s w (runM s il wl p w)
  full : ∀ w, w < wl.length → B3 s.2.1 (fullM s il wl p w)
  up : ∀ w, w < wl.length → ∀ k, k < 3 → (runM s il wl p w).1.getD k 0 ≤ (fullM s il wl p w).getD k 0
  shut : ∀ w, w < wl.length → opn s il w = false → fullM s il wl p w = (runM s il wl p w).1
  col : ∀ w, w < wl.length → ∀ k, k < 3 → colS (runM s il wl p (w + 1)).2.1 k = colS (runM s il wl p w).2.1 k + (fullM s il wl p w).getD k 0 - (runM s il wl p w).1.getD k 0
  sum : ∀ w, w < wl.length → colS (runM s il wl p (w + 1)).2.1 0 + colS (runM s il wl p (w + 1)).2.1 1 + colS (runM s il wl p (w + 1)).2.1 2 ≤ colS (runM s il wl p w).2.1 0 + colS (runM s il wl p w).2.1 1 + colS (runM s il wl p w).2.1 2 + (bif opn s il w then s.2.2.1 else 0)
  stocks : ∀ w, w < wl.length → (runM s il wl p wl.length).2.2.1.getD w z3 = restM (fullM s il wl p w) (wl.getD w z3)
  lacks : ∀ w, w < wl.length → (runM s il wl p wl.length).2.2.2.getD w z3 = lackM (fullM s il wl p w) (wl.getD w z3)
theorem runs {s : E27} (hs : OkS s) (wf : WfS s) (il : List Bool) {wl : List (List Int)} (hw : WinOk s wl) {p : Nat} (hp : p < 2 ^ shN s) : Runs s il wl p := by
  have inv := fun w h => run_inv hs wf il hw hp w h
  have kept : ∀ w, w < wl.length → Kept (s.2.2.1, (runM s il wl p w).1, (runM s il wl p w).2.1) (landW s il p (runM s il wl p w) w) := fun w h => by
    unfold landW
    cases opn s il w with
    | true => exact land_kept ((inv w (by omega)).linv hs) _ (Qu_lt s il hp _)
    | false => exact Kept.refl _
  refine ⟨inv, fun w h => (landW_inv hs il hp (inv w (by omega))).yard, fun w h => (kept w h).up, fun w h ho => ?_, fun w h k hk => ?_, fun w h => ?_, fun w h => ?_, fun w h => ?_⟩
  · unfold fullM landW; rw [ho]; rfl
  · have := (kept w h).bal k hk
    simp only [runM, weekM, fullM] at *
    omega
  · have hall := (kept w h).all
    have hl := (landW_inv hs il hp (inv w (by omega))).left.1
    simp only [runM, weekM] at *
    cases ho : opn s il w with
    | true => simp only [cond_true]; omega
    | false =>
      have e : landW s il p (runM s il wl p w) w = (s.2.2.1, (runM s il wl p w).1, (runM s il wl p w).2.1) := by unfold landW; rw [ho]; rfl
      rw [e]
      simp only [cond_false]; omega
  · exact st_getD s il wl p wl.length h (inv _ (Nat.le_refl _)).st fun v hv => (inv v hv).st
  · exact la_getD s il wl p wl.length h fun v hv => (inv v hv).la
/-- The sums of what is needed and of what is lacking. -/
def needS (wl : List (List Int)) (k : Nat) : Nat → Int
  | 0 => 0
  | w + 1 => needS wl k w + (wl.getD w z3).getD k 0
def lackS (s : E27) (il : List Bool) (wl : List (List Int)) (p k : Nat) : Nat → Int
  | 0 => 0
  | w + 1 => lackS s il wl p k w + (lackM (fullM s il wl p w) (wl.getD w z3)).getD k 0
theorem mx_sub (a b : Int) : mx (a - b) = a - b + mx (b - a) := by unfold mx; split <;> split <;> omega
/-- THE THEOREM OF GOODS. -/
theorem balance {s : E27} {il : List Bool} {wl : List (List Int)} {p : Nat} (R : Runs s il wl p) {k : Nat} (hk : k < 3) : ∀ w, w ≤ wl.length → s.1.getD k 0 + colS (runM s il wl p w).2.1 k = (runM s il wl p w).1.getD k 0 + needS wl k w - lackS s il wl p k w
  | 0, _ => by simp only [runM, needS, lackS, colS_zero]; omega
  | w + 1, h => by
    have ih := balance R hk w (by omega)
    have hc := R.col w (by omega) k hk
    have e1 : (runM s il wl p (w + 1)).1.getD k 0 = mx ((fullM s il wl p w).getD k 0 - (wl.getD w z3).getD k 0) := restq_getD _ _ hk
    have e2 := lack_getD (fullM s il wl p w) (wl.getD w z3) hk
    have e3 := mx_sub ((fullM s il wl p w).getD k 0) ((wl.getD w z3).getD k 0)
    simp only [needS, lackS]
    omega
end Go.Proofs.YtcijddeommognaaDoor.Abs

/-
  StoreKeeps: the plain law.
-/
set_option linter.unusedVariables false
set_option linter.unusedSimpArgs false
set_option maxRecDepth 100000
namespace Go.Proofs.YtcijddeommognaaDoor.Abs
theorem mul_bd' {a b A B : Int} (ha : 0 ≤ a ∧ a ≤ A) (hb : In b 0 B) : 0 ≤ a * b ∧ a * b ≤ A * B :=
  ⟨Int.mul_nonneg ha.1 hb.1, Int.mul_le_mul ha.2 hb.2 hb.1 (Int.le_trans ha.1 ha.2)⟩
/-- How many weeks have open water. -/
def openN (s : E27) (il : List Bool) : Nat → Nat
  | 0 => 0
  | w + 1 => bif opn s il w then openN s il w + 1 else openN s il w
theorem openN_le (s : E27) (il : List Bool) : ∀ w, openN s il w ≤ w
  | 0 => Nat.le_refl _
  | w + 1 => by
    have := openN_le s il w
    simp only [openN]
    cases opn s il w with
    | true => simp only [cond_true]; omega
    | false => simp only [cond_false]; omega
theorem opn_land {s : E27} {il : List Bool} (hil : (il.length : Int) = s.2.2.2.2.1) {w : Nat} (h : opn s il w = true) : w < il.length := by
  unfold opn at h
  simp only [Bool.and_eq_true, decide_eq_true_eq] at h
  omega
theorem openN_more {s : E27} {il : List Bool} (hil : (il.length : Int) = s.2.2.2.2.1) : ∀ d, openN s il (il.length + d) = openN s il il.length
  | 0 => rfl
  | d + 1 => by
    rw [← Nat.add_assoc]
    simp only [openN]
    cases h : opn s il (il.length + d) with
    | true => have := opn_land hil h; omega
    | false => exact openN_more hil d
theorem land_sum {s : E27} (hs : OkS s) {il : List Bool} {wl : List (List Int)} {p : Nat} (R : Runs s il wl p) : ∀ w, w ≤ wl.length → colS (runM s il wl p w).2.1 0 + colS (runM s il wl p w).2.1 1 + colS (runM s il wl p w).2.1 2 ≤ (openN s il w : Int) * s.2.2.1
  | 0, _ => by simp [runM, colS_zero, openN]
  | w + 1, h => by
    have ih := land_sum hs R w (by omega)
    have hsum := R.sum w (by omega)
    simp only [openN]
    cases ho : opn s il w with
    | true =>
      rw [ho] at hsum
      simp only [cond_true] at hsum ⊢
      have e : ((openN s il w + 1 : Nat) : Int) * s.2.2.1 = (openN s il w : Int) * s.2.2.1 + s.2.2.1 := by
        rw [Int.natCast_add, Int.add_mul]; simp
      rw [e]; omega
    | false =>
      rw [ho] at hsum
      simp only [cond_false] at hsum ⊢
      omega
theorem keeps_l0 {s : E27} (hs : OkS s) (p n : Int) {i : Nat} (hi : i < s.2.2.2.2.2.2.1.length) (r : Bool) (x : E33) :
    g3_taliklaw06_StoreKeeps_l0_run ((p, ((i : Int), (n, (r, (0, (0, (0, ()))))))), (s, (x, ()))) = some (0, ((p, ((i : Int), (n, (r, (0, ((openN s (ice s i) (ice s i).length : Int), (((ice s i).length : Int), ()))))))), (s, (x, ())))) := by
  have hil : ((ice s i).length : Int) = s.2.2.2.2.1 := hs.ices _ (getD_mem hi)
  have hl8 : s.2.2.2.2.1 ≤ 8 := hs.land.2
  have K := iter_run (step := g3_taliklaw06_StoreKeeps_l0_step) (n := (ice s i).length) (k := 0) (fuel := g3_taliklaw06_StoreKeeps_l0_fuel ((p, ((i : Int), (n, (r, (0, (0, (0, ()))))))), (s, (x, ()))))
    (fun w => ((p, ((i : Int), (n, (r, (0, ((openN s (ice s i) w : Int), ((w : Int), ()))))))), (s, (x, ()))))
    ((p, ((i : Int), (n, (r, (0, ((openN s (ice s i) (ice s i).length : Int), (((ice s i).length : Int), ()))))))), (s, (x, ())))
    (fun w hw => by
      have h0 : decide ((w : Int) < s.2.2.2.2.1) = true := decide_eq_true (by omega)
      have h1 : decide ((w : Int) < ((s.2.2.2.2.2.2.1.getD i []).length : Int)) = true := lt_int hw
      have h2 : (s.2.2.2.2.2.2.1.getD i []).getD w false = opn s (ice s i) w := (opn_eq s (ice s i) hil w).symm
      have h3 := openN_le s (ice s i) w
      simp only [g3_taliklaw06_StoreKeeps_l0_step, h0, h1, lt_int hi, ge0, Bool.and_true, cond_true, getD_toNat, Int.toNat_natCast, h2, openN, wr1 (i := w) (by omega)]
      cases opn s (ice s i) w with
      | true => simp only [cond_true, wr1 (i := openN s (ice s i) w) (by omega)]
      | false => rfl)
    (by
      have h0 : decide ((((ice s i).length : Nat) : Int) < s.2.2.2.2.1) = false := decide_eq_false (by omega)
      simp only [g3_taliklaw06_StoreKeeps_l0_step, h0, cond_false])
    (by simp only [g3_taliklaw06_StoreKeeps_l0_fuel]; omega)
  exact K
theorem keeps_l2 {s : E27} (hs : OkS s) (wf : WfS s) {p i n : Nat} (hp : p < 2 ^ shN s) (hi : i < s.2.2.2.2.2.2.1.length) (hn : n < s.2.2.2.2.2.2.2.1.length) (r : Bool) (a o : Int) (ha : 0 ≤ a ∧ a ≤ 20000) {k : Nat} (hk : k < 3) :
    g3_taliklaw06_StoreKeeps_l2_run (((p : Int), ((i : Int), ((n : Int), (r, (a, (o, ((k : Int), (s.1.getD k 0, (0, ()))))))))), (s, (traceM s p i n, ()))) =
      some (1, (((p : Int), ((i : Int), ((n : Int), (r, (a + colS (traceM s p i n).1 k, (o, ((k : Int), (s.1.getD k 0 + colS (traceM s p i n).1 k, ((shN s : Int), ()))))))))), (s, (traceM s p i n, ())))) ∧ 0 ≤ colS (traceM s p i n).1 k ∧ colS (traceM s p i n).1 k ≤ 6000 := by
  have hns := shN_le hs
  have hil : ((ice s i).length : Int) = s.2.2.2.2.1 := hs.ices _ (getD_mem hi)
  have hp40 : p < 2 ^ 40 := Nat.lt_of_lt_of_le hp (Nat.pow_le_pow_right (by decide) (by omega))
  have I := run_inv hs wf (ice s i) (winOk hs wf hn) hp (win s n).length (Nat.le_refl _)
  have hst : In (s.1.getD k 0) 0 1000 := by
    match k, hk with
    | 0, _ => exact hs.stock.1
    | 1, _ => exact hs.stock.2.1
    | 2, _ => exact hs.stock.2.2
  have hlen : (traceM s p i n).1.length = shN s := I.len
  have hb : ∀ j, j < shN s → 0 ≤ ((traceM s p i n).1.getD j z3).getD k 0 ∧ ((traceM s p i n).1.getD j z3).getD k 0 ≤ (cg s j).getD k 0 := fun j hj => b3_at (I.ld j hj) hk
  have hc : ∀ j, j < shN s → (cg s j).getD k 0 ≤ 1000 := fun j hj => by
    have := (hs.cg hj).le
    match k, hk with
    | 0, _ => exact this.1
    | 1, _ => exact this.2.1
    | 2, _ => exact this.2.2
  have hbd : ∀ j, j ≤ shN s → 0 ≤ colS ((traceM s p i n).1.take j) k ∧ colS ((traceM s p i n).1.take j) k ≤ 1000 * (j : Int) := fun j => by
    induction j with
    | zero => intro _; simp [colS]
    | succ j ih =>
      intro h
      rw [colS_take_succ _ _ (by omega)]
      have := ih (by omega); have := hb j (by omega); have := hc j (by omega)
      omega
  have hfin : (traceM s p i n).1.take (shN s) = (traceM s p i n).1 := List.take_of_length_le (by omega)
  have K := iter_run (step := g3_taliklaw06_StoreKeeps_l2_step) (n := shN s) (k := 1) (fuel := g3_taliklaw06_StoreKeeps_l2_fuel (((p : Int), ((i : Int), ((n : Int), (r, (a, (o, ((k : Int), (s.1.getD k 0, (0, ()))))))))), (s, (traceM s p i n, ()))))
    (fun j => (((p : Int), ((i : Int), ((n : Int), (r, (a + colS ((traceM s p i n).1.take j) k, (o, ((k : Int), (s.1.getD k 0 + colS ((traceM s p i n).1.take j) k, ((j : Int), ()))))))))), (s, (traceM s p i n, ()))))
    ((((p : Int), ((i : Int), ((n : Int), (r, (a + colS (traceM s p i n).1 k, (o, ((k : Int), (s.1.getD k 0 + colS (traceM s p i n).1 k, ((shN s : Int), ()))))))))), (s, (traceM s p i n, ()))))
    (fun j hj => by
      have e0 : decide ((j : Int) < (s.2.2.2.2.2.1.length : Int)) = true := lt_int hj
      have e1 : decide ((j : Int) < ((traceM s p i n).1.length : Int)) = true := lt_int (by omega)
      have h1 := hb j hj
      have h2 := hbd j (by omega)
      have h3 := hc j hj
      obtain ⟨hst0, hst1⟩ := hst
      have e2 : ((traceM s p i n).1.getD j (List.replicate 3 0)).getD k 0 = ((traceM s p i n).1.getD j z3).getD k 0 := rfl
      have e3 : (s.2.2.2.2.2.1.getD j (0, ((List.replicate 3 0), (0, ())))).2.1.getD k 0 = (cg s j).getD k 0 := rfl
      have hn0 : (((traceM s p i n).1.getD j z3).getD k 0 > 0) → p.testBit j = true ∧ ∃ a : Int, g23_talikref06_Arrives s (j : Int) (i : Int) = some a ∧ decide (a < 0) = false := fun hpos => by
        cases hb2 : (p.testBit j && openB s (ice s i) j (win s n).length) with
        | false =>
          have : (traceM s p i n).1.getD j z3 = z3 := run_none _ _ p hj _ hb2
          rw [this] at hpos
          match k, hk with
          | 0, _ => exact absurd hpos (by decide)
          | 1, _ => exact absurd hpos (by decide)
          | 2, _ => exact absurd hpos (by decide)
        | true =>
          simp only [Bool.and_eq_true] at hb2
          obtain ⟨a, a1, a2⟩ := arrives23 hs hj hi
          refine ⟨hb2.1, a, a1, decide_eq_false ?_⟩
          rcases a2 with ⟨v, _, _, rfl⟩ | ⟨a3, _⟩
          · omega
          · obtain ⟨v, v1, v2, v3⟩ := (openB_iff _ _ _ _).1 hb2.2
            rw [(openB_iff _ _ _ _).2 ⟨v, opn_land hil v3, v2, v3⟩] at a3; cases a3
      rw [colS_take_succ _ _ (by omega)]
      simp only [g3_taliklaw06_StoreKeeps_l2_step, e0, e1, lt_int hk, three_lt' hk, ge0, Bool.and_true, cond_true, getD_toNat, e2, e3, wr1 (i := j) (by omega)]
      generalize ((traceM s p i n).1.getD j z3).getD k 0 = g at *
      rw [wr (n := a + colS ((traceM s p i n).1.take j) k + g) (by omega) (by omega), wr (n := s.1.getD k 0 + colS ((traceM s p i n).1.take j) k + g) (by omega) (by omega), Int.add_assoc, Int.add_assoc]
      rw [decide_eq_false (show ¬ g < 0 by omega), decide_eq_false (show ¬ g > (cg s j).getD k 0 by omega)]
      simp only [cond_false]
      by_cases hpos : g > 0
      · obtain ⟨b1, av, b2, b3⟩ := hn0 hpos
        rw [decide_eq_true hpos]
        simp only [cond_true, has22 p j hp40 (by omega), b1, Option.bind_some, Bool.not_true, cond_false, b2, b3]
      · rw [decide_eq_false hpos]
        rfl)
    (by
      have e0 : decide ((shN s : Int) < (s.2.2.2.2.2.1.length : Int)) = false := nlt_int _
      simp only [g3_taliklaw06_StoreKeeps_l2_step, e0, cond_false, hfin])
    (by simp only [g3_taliklaw06_StoreKeeps_l2_fuel, shN]; omega)
  have e0 : colS ((traceM s p i n).1.take 0) k = 0 := by simp [colS]
  rw [e0, Int.add_zero, Int.add_zero] at K
  have hb2 := hbd (shN s) (Nat.le_refl _)
  rw [hfin] at hb2
  exact ⟨K, hb2.1, by omega⟩
theorem keeps_l3_step {s : E27} {p i n w k : Nat} (hil : ((ice s i).length : Int) = s.2.2.2.2.1) (hi : i < s.2.2.2.2.2.2.1.length) (hn : n < s.2.2.2.2.2.2.2.1.length) (hW : ((win s n).length : Int) = s.2.2.2.1) (hw : w < (win s n).length) (hw30 : (win s n).length ≤ 30) (hk : k < 3) (r : Bool) (a o : Int) (x : E33)
    (h1 : x.2.1.length = (win s n).length) (h2 : x.2.2.1.length = (win s n).length) (sum before now lk need full : Int)
    (en : (x.2.1.getD w z3).getD k 0 = now) (el : (x.2.2.1.getD w z3).getD k 0 = lk) (ee : ((win s n).getD w z3).getD k 0 = need)
    (d1 : now = mx (full - need)) (d2 : lk = mx (need - full)) (d3 : 0 ≤ need ∧ need ≤ 1000) (d4 : 0 ≤ full ∧ full ≤ s.2.1.getD k 0) (d5 : s.2.1.getD k 0 ≤ 1000) (d6 : 0 ≤ before ∧ before ≤ full) (d7 : opn s (ice s i) w = false → full = before) (d8 : -100000 ≤ sum ∧ sum ≤ 100000) :
    g3_taliklaw06_StoreKeeps_l3_step (((p : Int), ((i : Int), ((n : Int), (r, (a, (o, ((k : Int), (sum, (before, ((w : Int), ())))))))))), (s, (x, ()))) =
      some (0, (((p : Int), ((i : Int), ((n : Int), (r, (a, (o, ((k : Int), (sum - need + lk, (now, (((w + 1 : Nat) : Int), ())))))))))), (s, (x, ())))) := by
  have b1 : 0 ≤ now ∧ now ≤ full := by rw [d1]; unfold mx; split <;> omega
  have b2 : 0 ≤ lk ∧ lk ≤ need := by rw [d2]; unfold mx; split <;> omega
  have b3 : now + need - lk = full := by rw [d1, d2]; unfold mx; split <;> split <;> omega
  have b4 : lk > 0 → ¬ now > 0 := by rw [d1, d2]; unfold mx; split <;> split <;> omega
  have e0 : decide ((w : Int) < s.2.2.2.1) = true := decide_eq_true (by omega)
  have e1 : decide ((w : Int) < (x.2.1.length : Int)) = true := lt_int (by omega)
  have e2 : decide ((w : Int) < (x.2.2.1.length : Int)) = true := lt_int (by omega)
  have e3 : decide ((w : Int) < ((s.2.2.2.2.2.2.2.1.getD n []).length : Int)) = true := lt_int hw
  have en' : (x.2.1.getD w (List.replicate 3 0)).getD k 0 = now := en
  have el' : (x.2.2.1.getD w (List.replicate 3 0)).getD k 0 = lk := el
  have ee' : ((s.2.2.2.2.2.2.2.1.getD n []).getD w (List.replicate 3 0)).getD k 0 = need := ee
  simp only [g3_taliklaw06_StoreKeeps_l3_step, e0, e1, e2, e3, lt_int hi, lt_int hn, lt_int hk, three_lt' hk, ge0, Bool.and_true, cond_true, getD_toNat, Int.toNat_natCast, en', el', ee', wr1 (i := w) (by omega)]
  rw [wr (n := now + need) (by omega) (by omega), wr (n := now + need - lk) (by omega) (by omega), wr (n := now + need - lk - before) (by omega) (by omega), wr (n := sum - need) (by omega) (by omega), wr (n := sum - need + lk) (by omega) (by omega), b3]
  rw [decide_eq_false (show ¬ now < 0 by omega), decide_eq_false (show ¬ now > s.2.1.getD k 0 by omega), decide_eq_false (show ¬ lk < 0 by omega), decide_eq_false (show ¬ lk > need by omega), decide_eq_false (show ¬ full - before < 0 by omega)]
  simp only [cond_false]
  by_cases hc : full - before > 0
  · have ho : opn s (ice s i) w = true := by
      cases ho : opn s (ice s i) w with
      | true => rfl
      | false => have := d7 ho; omega
    have hwl := opn_land hil ho
    have e4 : decide ((w : Int) ≥ s.2.2.2.2.1) = false := decide_eq_false (by omega)
    have e5 : decide ((w : Int) < ((s.2.2.2.2.2.2.1.getD i []).length : Int)) = true := lt_int hwl
    have e6 : (s.2.2.2.2.2.2.1.getD i []).getD w false = true := (opn_eq s (ice s i) hil w).symm.trans ho
    rw [decide_eq_true hc]
    simp only [cond_true, e4, cond_false, e5, e6, Bool.not_true]
    by_cases hl : lk > 0
    · rw [decide_eq_true hl, decide_eq_false (b4 hl)]; rfl
    · rw [decide_eq_false hl]; rfl
  · rw [decide_eq_false hc]
    by_cases hl : lk > 0
    · rw [decide_eq_true hl, decide_eq_false (b4 hl)]; rfl
    · rw [decide_eq_false hl]; rfl
theorem keeps_l3 {s : E27} (hs : OkS s) (wf : WfS s) {p i n : Nat} (hp : p < 2 ^ shN s) (hi : i < s.2.2.2.2.2.2.1.length) (hn : n < s.2.2.2.2.2.2.2.1.length) (r : Bool) (a o : Int) {k : Nat} (hk : k < 3) (sum : Int) (hsum : -1000 ≤ sum ∧ sum ≤ 10000) :
    g3_taliklaw06_StoreKeeps_l3_run (((p : Int), ((i : Int), ((n : Int), (r, (a, (o, ((k : Int), (sum, (s.1.getD k 0, (0, ())))))))))), (s, (traceM s p i n, ()))) =
      some (1, (((p : Int), ((i : Int), ((n : Int), (r, (a, (o, ((k : Int), (sum - needS (win s n) k (win s n).length + lackS s (ice s i) (win s n) p k (win s n).length, ((runM s (ice s i) (win s n) p (win s n).length).1.getD k 0, (((win s n).length : Int), ())))))))))), (s, (traceM s p i n, ())))) := by
  have hil : ((ice s i).length : Int) = s.2.2.2.2.1 := hs.ices _ (getD_mem hi)
  have hW := win_len hs wf hn
  have hw : WinOk s (win s n) := winOk hs wf hn
  have R := runs hs wf (ice s i) hw hp
  have hI := R.inv (win s n).length (Nat.le_refl _)
  have h1 : (traceM s p i n).2.1.length = (win s n).length := hI.st
  have h2 : (traceM s p i n).2.2.1.length = (win s n).length := hI.la
  have hY : s.2.1.getD k 0 ≤ 1000 := by
    have := hs.yard.le
    match k, hk with
    | 0, _ => exact this.1
    | 1, _ => exact this.2.1
    | 2, _ => exact this.2.2
  have need : ∀ w, w < (win s n).length → 0 ≤ ((win s n).getD w z3).getD k 0 ∧ ((win s n).getD w z3).getD k 0 ≤ 1000 := fun w h => by
    have e2 : [(1000 : Int), 1000, 1000].getD k 0 = 1000 := by match k, hk with | 0, _ => rfl | 1, _ => rfl | 2, _ => rfl
    have := b3_at (hw.ok _ (getD_mem (d := z3) h)) hk
    rw [e2] at this; exact this
  have lkb : ∀ w, w < (win s n).length → 0 ≤ (lackM (fullM s (ice s i) (win s n) p w) ((win s n).getD w z3)).getD k 0 ∧ (lackM (fullM s (ice s i) (win s n) p w) ((win s n).getD w z3)).getD k 0 ≤ 1000 := fun w h => by
    have h3 := need w h
    have h4 := b3_at (R.full w h) hk
    rw [lack_getD _ _ hk]
    unfold mx; split <;> omega
  have nb : ∀ w, w ≤ (win s n).length → 0 ≤ needS (win s n) k w ∧ needS (win s n) k w ≤ 1000 * (w : Int) := fun w => by
    induction w with
    | zero => intro _; simp [needS]
    | succ w ih => intro h; have := ih (by omega); have := need w (by omega); simp only [needS]; omega
  have lb : ∀ w, w ≤ (win s n).length → 0 ≤ lackS s (ice s i) (win s n) p k w ∧ lackS s (ice s i) (win s n) p k w ≤ 1000 * (w : Int) := fun w => by
    induction w with
    | zero => intro _; simp [lackS]
    | succ w ih => intro h; have := ih (by omega); have := lkb w (by omega); simp only [lackS]; omega
  have K := iter_run (step := g3_taliklaw06_StoreKeeps_l3_step) (n := (win s n).length) (k := 1) (fuel := g3_taliklaw06_StoreKeeps_l3_fuel (((p : Int), ((i : Int), ((n : Int), (r, (a, (o, ((k : Int), (sum, (s.1.getD k 0, (0, ())))))))))), (s, (traceM s p i n, ()))))
    (fun w => (((p : Int), ((i : Int), ((n : Int), (r, (a, (o, ((k : Int), (sum - needS (win s n) k w + lackS s (ice s i) (win s n) p k w, ((runM s (ice s i) (win s n) p w).1.getD k 0, ((w : Int), ())))))))))), (s, (traceM s p i n, ()))))
    (((p : Int), ((i : Int), ((n : Int), (r, (a, (o, ((k : Int), (sum - needS (win s n) k (win s n).length + lackS s (ice s i) (win s n) p k (win s n).length, ((runM s (ice s i) (win s n) p (win s n).length).1.getD k 0, (((win s n).length : Int), ())))))))))), (s, (traceM s p i n, ())))
    (fun w hlt => by
      have hn1 := nb w (by omega)
      have hl1 := lb w (by omega)
      have hN := need w hlt
      have hF := b3_at (R.full w hlt) hk
      have hB := b3_at (R.inv w (by omega)).yard hk
      rw [keeps_l3_step hil hi hn hW.1 hlt hW.2 hk r a o (traceM s p i n) h1 h2 (sum - needS (win s n) k w + lackS s (ice s i) (win s n) p k w) ((runM s (ice s i) (win s n) p w).1.getD k 0)
        ((restM (fullM s (ice s i) (win s n) p w) ((win s n).getD w z3)).getD k 0) ((lackM (fullM s (ice s i) (win s n) p w) ((win s n).getD w z3)).getD k 0) (((win s n).getD w z3).getD k 0) ((fullM s (ice s i) (win s n) p w).getD k 0)
        (by rw [show (traceM s p i n).2.1.getD w z3 = _ from R.stocks w hlt]) (by rw [show (traceM s p i n).2.2.1.getD w z3 = _ from R.lacks w hlt]) rfl (restq_getD _ _ hk) (lack_getD _ _ hk) hN hF hY ⟨hB.1, R.up w hlt k hk⟩ (fun ho => by rw [R.shut w hlt ho]) (by omega)]
      simp only [needS, lackS]
      rw [show sum - needS (win s n) k w + lackS s (ice s i) (win s n) p k w - ((win s n).getD w z3).getD k 0 + (lackM (fullM s (ice s i) (win s n) p w) ((win s n).getD w z3)).getD k 0 = sum - (needS (win s n) k w + ((win s n).getD w z3).getD k 0) + (lackS s (ice s i) (win s n) p k w + (lackM (fullM s (ice s i) (win s n) p w) ((win s n).getD w z3)).getD k 0) by omega]
      rfl)
    (by
      have e0 : decide ((((win s n).length : Nat) : Int) < s.2.2.2.1) = false := decide_eq_false (by have := hW.1; omega)
      simp only [g3_taliklaw06_StoreKeeps_l3_step, e0, cond_false])
    (by simp only [g3_taliklaw06_StoreKeeps_l3_fuel]; have := hW.1; omega)
  simp only [needS, lackS] at K
  rw [Int.sub_zero, Int.add_zero] at K
  exact K
theorem keeps_l1 {s : E27} (hs : OkS s) (wf : WfS s) {p i n : Nat} (hp : p < 2 ^ shN s) (hi : i < s.2.2.2.2.2.2.1.length) (hn : n < s.2.2.2.2.2.2.2.1.length) (r : Bool) (o : Int) :
    g3_taliklaw06_StoreKeeps_l1_run (((p : Int), ((i : Int), ((n : Int), (r, (0, (o, (0, ()))))))), (s, (traceM s p i n, ()))) =
      some (1, (((p : Int), ((i : Int), ((n : Int), (r, (colS (traceM s p i n).1 0 + colS (traceM s p i n).1 1 + colS (traceM s p i n).1 2, (o, (3, ()))))))), (s, (traceM s p i n, ())))) := by
  have hW := win_len hs wf hn
  have hw : WinOk s (win s n) := winOk hs wf hn
  have R := runs hs wf (ice s i) hw hp
  have hI := R.inv (win s n).length (Nat.le_refl _)
  have hpos : 0 < (win s n).length := by have := hs.weeks.1; have := hW.1; omega
  have step : ∀ (a : Int) (k : Nat) (hk : k < 3), 0 ≤ a ∧ a ≤ 12000 → g3_taliklaw06_StoreKeeps_l1_step (((p : Int), ((i : Int), ((n : Int), (r, (a, (o, ((k : Int), ()))))))), (s, (traceM s p i n, ()))) = some (0, (((p : Int), ((i : Int), ((n : Int), (r, (a + colS (traceM s p i n).1 k, (o, (((k + 1 : Nat) : Int), ()))))))), (s, (traceM s p i n, ())))) := fun a k hk ha => by
    obtain ⟨L2, c1, c2⟩ := keeps_l2 hs wf hp hi hn r a o (by omega) hk
    have hst : In (s.1.getD k 0) 0 1000 := by
      match k, hk with
      | 0, _ => exact hs.stock.1
      | 1, _ => exact hs.stock.2.1
      | 2, _ => exact hs.stock.2.2
    obtain ⟨hst0, hst1⟩ := hst
    have L3 := keeps_l3 hs wf hp hi hn r (a + colS (traceM s p i n).1 k) o hk (s.1.getD k 0 + colS (traceM s p i n).1 k) (by omega)
    have hB := balance R hk (win s n).length (Nat.le_refl _)
    have e1 : (IntKind.wrap .i64 (s.2.2.2.1 - 1)) = (((win s n).length - 1 : Nat) : Int) := by
      rw [wr (by have := hW.1; omega) (by have := hW.1; omega)]; have := hW.1; omega
    have h1 : (traceM s p i n).2.1.length = (win s n).length := hI.st
    have e2 : decide ((((win s n).length - 1 : Nat) : Int) < ((traceM s p i n).2.1.length : Int)) = true := lt_int (by omega)
    have e3 : ((traceM s p i n).2.1.getD ((win s n).length - 1) (List.replicate 3 0)).getD k 0 = (runM s (ice s i) (win s n) p (win s n).length).1.getD k 0 := by
      have h2 := R.stocks ((win s n).length - 1) (by omega)
      have h3 : (traceM s p i n).2.1.getD ((win s n).length - 1) (List.replicate 3 0) = restM (fullM s (ice s i) (win s n) p ((win s n).length - 1)) ((win s n).getD ((win s n).length - 1) z3) := h2
      rw [h3]
      have h4 : runM s (ice s i) (win s n) p (win s n).length = runM s (ice s i) (win s n) p ((win s n).length - 1 + 1) := by rw [show (win s n).length - 1 + 1 = (win s n).length by omega]
      rw [h4]; rfl
    have e4 : s.1.getD k 0 + colS (traceM s p i n).1 k - needS (win s n) k (win s n).length + lackS s (ice s i) (win s n) p k (win s n).length = (runM s (ice s i) (win s n) p (win s n).length).1.getD k 0 := by
      have : colS (traceM s p i n).1 k = colS (runM s (ice s i) (win s n) p (win s n).length).2.1 k := rfl
      omega
    simp only [g3_taliklaw06_StoreKeeps_l1_step, three_lt' hk, lt_int hk, ge0, Bool.and_true, cond_true, getD_toNat, L2, Option.bind_some, natK, L3, e1, e2, e3, e4, bne_self_eq_false, cond_false, wr1 (i := k) (by omega)]
  obtain ⟨_, a1, a2⟩ := keeps_l2 hs wf hp hi hn r 0 o (by omega) (k := 0) (by omega)
  obtain ⟨_, b1, b2⟩ := keeps_l2 hs wf hp hi hn r 0 o (by omega) (k := 1) (by omega)
  have S0 := step 0 0 (by omega) (by omega)
  have S1 := step (colS (traceM s p i n).1 0) 1 (by omega) (by omega)
  have S2 := step (colS (traceM s p i n).1 0 + colS (traceM s p i n).1 1) 2 (by omega) (by omega)
  rw [Int.zero_add] at S0
  unfold g3_taliklaw06_StoreKeeps_l1_run
  rw [show g3_taliklaw06_StoreKeeps_l1_fuel (((p : Int), ((i : Int), ((n : Int), (r, (0, (o, (0, ()))))))), (s, (traceM s p i n, ()))) = 4 from rfl]
  rw [show ((0 : Int), (o, ((0 : Int), ()))) = (0, (o, (((0 : Nat) : Int), ()))) from rfl, iter_one S0, iter_one S1, iter_one S2]
  rfl
theorem g3_taliklaw06_StoreKeeps_true : ∀ x : Els [.dat T27, .dat (.int .i64), .dat (.int .i64), .dat (.int .i64)], wfs [.dat T27, .dat (.int .i64), .dat (.int .i64), .dat (.int .i64)] x → g3_taliklaw06_StoreKeeps x.1 x.2.1 x.2.2.1 x.2.2.2.1 = some true := by
  rintro ⟨s, p, i, n, _⟩ ⟨hwf, _⟩
  have wf := wf27 hwf
  show g3_taliklaw06_StoreKeeps s p i n = some true
  unfold g3_taliklaw06_StoreKeeps
  by_cases h : ShortS s
  case neg =>
    rw [(short15 s).nval h]
    simp only [Option.bind_some, Bool.not_false, cond_true, known20]
  rw [(short15 s).val h]
  simp only [Option.bind_some, Bool.not_true, cond_false]
  by_cases hs : OkS s
  case neg =>
    rw [(store16 s h).nval hs]
    simp only [Option.bind_some, Bool.not_false, cond_true, known20]
  rw [(store16 s h).val hs]
  simp only [Option.bind_some, Bool.not_true, cond_false]
  by_cases h1 : OkP s p
  case neg =>
    rw [(plan17 s h.n10 _).nval h1]
    simp only [Option.bind_some, Bool.not_false, cond_true, known20]
  rw [(plan17 s h.n10 _).val h1]
  simp only [Option.bind_some, Bool.not_true, cond_false]
  by_cases h2 : In i 0 ((s.2.2.2.2.2.2.1.length : Int) - 1)
  case neg =>
    rw [(ice18 _ _).nval h2]
    simp only [Option.bind_some, Bool.not_false, cond_true, known20]
  rw [(ice18 _ _).val h2]
  simp only [Option.bind_some, Bool.not_true, cond_false]
  by_cases h3 : In n 0 ((s.2.2.2.2.2.2.2.1.length : Int) - 1)
  case neg =>
    rw [(winter19 _ _).nval h3]
    simp only [Option.bind_some, Bool.not_false, cond_true, known20]
  rw [(winter19 _ _).val h3]
  obtain ⟨p, rfl, hp⟩ := okp_nat h1
  obtain ⟨i, rfl, hi⟩ := in_lt h2
  obtain ⟨n, rfl, hn⟩ := in_lt h3
  have hil : ((ice s i).length : Int) = s.2.2.2.2.1 := hs.ices _ (getD_mem hi)
  have hW := win_len hs wf hn
  have hw : WinOk s (win s n) := winOk hs wf hn
  have R := runs hs wf (ice s i) hw hp
  obtain ⟨t1, t2, t3⟩ := trace_lens hs wf (i := i) hp hn
  have e1 : (((traceM s p i n).1.length : Int) != (s.2.2.2.2.2.1.length : Int)) = false := by rw [t1]; simp [shN]
  have e2 : (((traceM s p i n).2.1.length : Int) != s.2.2.2.1) = false := by rw [t2, hW.1]; simp
  have e3 : (((traceM s p i n).2.2.1.length : Int) != s.2.2.2.1) = false := by rw [t3, hW.1]; simp
  simp only [Option.bind_some, Bool.not_true, cond_false, run21_ok h hs wf hp hi hn, show ((0 : Int) != 0) = false from rfl, e1, e2, e3, keeps_l0 hs _ _ hi, keeps_l1 hs wf hp hi hn, natK, known20]
  have hsum := land_sum hs R (win s n).length (Nat.le_refl _)
  have hop : openN s (ice s i) (win s n).length = openN s (ice s i) (ice s i).length := by
    have hlw := hs.lw
    have := openN_more (il := ice s i) hil ((win s n).length - (ice s i).length)
    rw [show (ice s i).length + ((win s n).length - (ice s i).length) = (win s n).length by have := hW.1; omega] at this
    exact this
  rw [hop] at hsum
  have hon := openN_le s (ice s i) (ice s i).length
  have hl8 : s.2.2.2.2.1 ≤ 8 := hs.land.2
  have hop8 : (openN s (ice s i) (ice s i).length : Int) ≤ 8 := by
    have h8 : ((ice s i).length : Int) ≤ 8 := by rw [hil]; exact hl8
    omega
  have hm := mul_bd' (a := (openN s (ice s i) (ice s i).length : Int)) (A := 8) ⟨Int.natCast_nonneg _, hop8⟩ hs.rate
  have hsum : colS (traceM s p i n).1 0 + colS (traceM s p i n).1 1 + colS (traceM s p i n).1 2 ≤ (openN s (ice s i) (ice s i).length : Int) * s.2.2.1 := hsum
  rw [wr (n := (openN s (ice s i) (ice s i).length : Int) * s.2.2.1) (by omega) (by omega), decide_eq_true hsum]
  rfl
end Go.Proofs.YtcijddeommognaaDoor.Abs

/-
  talik/taliklaw06.StoreKeeps: for every input the law returns true; its arguments read as they did. No condition.
-/
set_option linter.unusedVariables false
set_option maxRecDepth 100000
namespace Go.Proofs.YtcijddeommognaaDoor.Abs.storeKeeps
open Go.ChangeShapes Go.WideShapes Go.RowKit
theorem own : ownKnob Tryd.prog.godebug = none := by kernel_rfl
theorem laidOut : laidOutB Tryd.prog = true := by kernel_rfl
theorem gTab : Tryd.prog.globalNamed "internal/strconv.uint64pow10" = some 0 := by kernel_rfl
theorem gTabType : (Tryd.prog.globals[0]?).map (·.type) = some 153 := by kernel_rfl
theorem cellsT : Tryd.prog.cellsOf 153 = 20 := by kernel_rfl
theorem cellsE : Tryd.prog.cellsOf 143 = 1 := by kernel_rfl
theorem undT : Tryd.prog.underlying 153 = some (.array 20 143) := by kernel_rfl
theorem undE : Tryd.prog.underlying 143 = some (.int .u64) := by kernel_rfl
theorem table {W : World} (h : laidMetH Tryd.prog Rows.storeKeepsRow.laid W) : Lib.TabIs Tryd.prog W "internal/strconv.uint64pow10" .u64 [1, 10, 100, 1000, 10000, 100000, 1000000, 10000000, 100000000, 1000000000, 10000000000, 100000000000, 1000000000000, 10000000000000, 100000000000000, 1000000000000000, 10000000000000000, 100000000000000000, 1000000000000000000, 10000000000000000000] :=
  Lib.tabIs_of_head (rest := []) gTab gTabType undT undE cellsE cellsT (laidMet.tail (laidMet.tail (h)))
theorem tabOk {W : World} (h : laidMetH Tryd.prog Rows.storeKeepsRow.laid W) : ∀ q ∈ TABS, ∃ e fr, W.heap[q.1]? = some (.cells q.2 e fr) := by
  have ht := table h
  unfold Lib.TabIs World.var? at ht
  rw [gTab] at ht
  simp only [Option.bind_some] at ht
  intro q hq
  have hq' : q = (0, _) := List.mem_singleton.1 hq
  subst hq'
  show ∃ e fr, W.heap[0]? = _
  split at ht
  · rename_i cs e fr hc
    exact ⟨e, fr, by rw [hc]; simp only [Option.some.injEq] at ht; rw [ht]; rfl⟩
  · cases ht
noncomputable def laidWorld (os : Os) : World :=
  { World.holding Tryd.prog os ⟨#[], #[], []⟩ with heap := ((((World.holding Tryd.prog os ⟨#[], #[], []⟩).heap.modify 2 fun | .cells _ t frozen => .cells #[.int .u8 0, .int .u8 1, .int .u8 28, .int .u8 2, .int .u8 29, .int .u8 14, .int .u8 24, .int .u8 3, .int .u8 30, .int .u8 22, .int .u8 20, .int .u8 15, .int .u8 25, .int .u8 17, .int .u8 4, .int .u8 8, .int .u8 31, .int .u8 27, .int .u8 13, .int .u8 23, .int .u8 21, .int .u8 19, .int .u8 16, .int .u8 7, .int .u8 26, .int .u8 12, .int .u8 18, .int .u8 6, .int .u8 11, .int .u8 5, .int .u8 10, .int .u8 9] t frozen | o => o).modify 3 fun | .cells _ t frozen => .cells #[.int .u8 0, .int .u8 1, .int .u8 56, .int .u8 2, .int .u8 57, .int .u8 49, .int .u8 28, .int .u8 3, .int .u8 61, .int .u8 58, .int .u8 42, .int .u8 50, .int .u8 38, .int .u8 29, .int .u8 17, .int .u8 4, .int .u8 62, .int .u8 47, .int .u8 59, .int .u8 36, .int .u8 45, .int .u8 43, .int .u8 51, .int .u8 22, .int .u8 53, .int .u8 39, .int .u8 33, .int .u8 30, .int .u8 24, .int .u8 18, .int .u8 12, .int .u8 5, .int .u8 63, .int .u8 55, .int .u8 48, .int .u8 27, .int .u8 60, .int .u8 41, .int .u8 37, .int .u8 16, .int .u8 46, .int .u8 35, .int .u8 44, .int .u8 21, .int .u8 52, .int .u8 32, .int .u8 23, .int .u8 11, .int .u8 54, .int .u8 26, .int .u8 40, .int .u8 15, .int .u8 34, .int .u8 20, .int .u8 31, .int .u8 10, .int .u8 25, .int .u8 14, .int .u8 19, .int .u8 9, .int .u8 13, .int .u8 8, .int .u8 7, .int .u8 6] t frozen | o => o).modify 0 fun | .cells _ t frozen => .cells #[.int .u64 1, .int .u64 10, .int .u64 100, .int .u64 1000, .int .u64 10000, .int .u64 100000, .int .u64 1000000, .int .u64 10000000, .int .u64 100000000, .int .u64 1000000000, .int .u64 10000000000, .int .u64 100000000000, .int .u64 1000000000000, .int .u64 10000000000000, .int .u64 100000000000000, .int .u64 1000000000000000, .int .u64 10000000000000000, .int .u64 100000000000000000, .int .u64 1000000000000000000, .int .u64 10000000000000000000] t frozen | o => o) }
theorem laid_met (os : Os) : laidMet Tryd.prog Rows.storeKeepsRow.laid ((laidWorld os).forCall (fun _ _ => 0) ⟨#[], #[(Value.agg #[.int .i64 0, .int .i64 0, .int .i64 0, .int .i64 0, .int .i64 0, .int .i64 0, .int .i64 0, .int .i64 0, .int .i64 0, .slice none 0 0, .slice none 0 0, .slice none 0 0]), (Value.int .i64 0), (Value.int .i64 0), (Value.int .i64 0)], []⟩).memory :=
  laidMet_of_run' 8 (by kernel_rfl) (by kernel_rfl)
theorem reads (os : Os) {H : Type} (enc : TypeId × Value → H) : ∃ places, DataW.whole enc Tryd.prog ((laidWorld os).forCall (fun _ _ => 0) ⟨#[], #[(Value.agg #[.int .i64 0, .int .i64 0, .int .i64 0, .int .i64 0, .int .i64 0, .int .i64 0, .int .i64 0, .int .i64 0, .int .i64 0, .slice none 0 0, .slice none 0 0, .slice none 0 0]), (Value.int .i64 0), (Value.int .i64 0), (Value.int .i64 0)], []⟩).memory Tryd.f3.params.toList Rows.storeKeepsSpec.vars false #[(Value.agg #[.int .i64 0, .int .i64 0, .int .i64 0, .int .i64 0, .int .i64 0, .int .i64 0, .int .i64 0, .int .i64 0, .int .i64 0, .slice none 0 0, .slice none 0 0, .slice none 0 0]), (Value.int .i64 0), (Value.int .i64 0), (Value.int .i64 0)].toList 16 = some ([.agg [.agg [.lit (.int .i64 0), .lit (.int .i64 0), .lit (.int .i64 0)], .agg [.lit (.int .i64 0), .lit (.int .i64 0), .lit (.int .i64 0)], .lit (.int .i64 0), .lit (.int .i64 0), .lit (.int .i64 0), .nil, .nil, .nil], .lit (.int .i64 0), .lit (.int .i64 0), .lit (.int .i64 0)], [], places) :=
  ⟨[], by kernel_rfl⟩
theorem spec_fn (H : Type) : (ds : List (DataW H)) → ds.length = Tryd.f3.params.toList.length → (Rows.storeKeepsSpec.fn H ds).results = [.lit (.bool true)] ∧ (Rows.storeKeepsSpec.fn H ds).args = ds ∧ (Rows.storeKeepsSpec.fn H ds).vars = []
  | [], h => by rw [show Tryd.f3.params.toList.length = 4 from by kernel_rfl] at h; simp at h
  | [d0], h => by rw [show Tryd.f3.params.toList.length = 4 from by kernel_rfl] at h; simp at h
  | [d0, d1], h => by rw [show Tryd.f3.params.toList.length = 4 from by kernel_rfl] at h; simp at h
  | [d0, d1, d2], h => by rw [show Tryd.f3.params.toList.length = 4 from by kernel_rfl] at h; simp at h
  | [d0, d1, d2, d3], _ => ⟨rfl, rfl, rfl⟩
  | d0 :: d1 :: d2 :: d3 :: _ :: _, h => by rw [show Tryd.f3.params.toList.length = 4 from by kernel_rfl] at h; simp at h
theorem contract (H : Type) (enc : TypeId × Value → H) (W : World) (base : Nat) (args : Array Value) (ds gs : List (DataW H)) (before : List MemPlace)
    (hval : ∀ (j : Nat) t v, Tryd.f3.params[j]? = some t → args[j]? = some v → Value.okWide Tryd.prog W .any base t v)
    (hW : DataW.Whole enc Tryd.prog Tryd.f3.params.toList Rows.storeKeepsSpec.vars false W args.toList ds gs before) (hL : laidMetH Tryd.prog Rows.storeKeepsRow.laid W) :
    Calls Tryd.prog 3 args W fun e W' => ∃ v, e = .returned v ∧ Rows.storeKeepsSpec.post enc Tryd.prog Tryd.f3 false true false false W args v W' :=
  law_contract (n := 20) (fun x r h => g3_taliklaw06_StoreKeeps_lcall x r h) (fun x hx => g3_taliklaw06_StoreKeeps_true x hx) (by decide) (show Tryd.f3.resultTypes = #[4] by kernel_rfl) (by kernel_rfl) (by kernel_rfl) laidOut (by
    intro t ht
    have : (Tryd.f3.params.toList.all fun t => Tryd.prog.readableRec t && decide (t < Tryd.prog.types.size)) = true := by kernel_rfl
    have := List.all_eq_true.1 this t ht
    simpa using this) rfl spec_fn hval hW (tabOk hL)
theorem lifted (os : Os) (started : os.Started) (H : Type) (enc : TypeId × Value → H) (F : Stop.Interp) :
    ReturnsInHanded {} Tryd.checked os 3 .any ((OpenSpec.ofChange Rows.storeKeepsSpec).preRow enc Tryd.prog Tryd.f3 Rows.storeKeepsRow.domain false Rows.storeKeepsRow.laid) (((OpenSpec.ofChange Rows.storeKeepsSpec).at F).post enc Tryd.prog Tryd.f3 false true false false) := by
  obtain ⟨places, hx⟩ := reads os enc
  refine returnsInHanded_of_row (C := Tryd.checked) (s := OpenSpec.ofChange Rows.storeKeepsSpec) own started (by kernel_rfl) Tryd.func3
    (witness_row_at (enc := enc) (C := Tryd.checked) false (laidWorld os) #[(Value.agg #[.int .i64 0, .int .i64 0, .int .i64 0, .int .i64 0, .int .i64 0, .int .i64 0, .int .i64 0, .int .i64 0, .int .i64 0, .slice none 0 0, .slice none 0 0, .slice none 0 0]), (Value.int .i64 0), (Value.int .i64 0), (Value.int .i64 0)] rfl (by kernel_rfl) (by kernel_rfl) (by kernel_rfl)
      (OpenSpec.preRow_of_cond 16 hx (by kernel_rfl) (fun k hk => by cases hk) (by kernel_rfl) (laid_met os))) ?_
  intro W base args ds gs before hval hW _ _ _ hL _ _
  exact contract H enc W base args ds gs before hval hW hL
theorem said : Rows.StoreKeepsSaid :=
  OpenClaim.holds_of_cond 3 Tryd.f3 rfl rfl rfl rfl rfl rfl rfl ⟨rfl, rfl, rfl, rfl, rfl⟩ rfl rfl rfl rfl rfl (by kernel_rfl) Tryd.func3 (by kernel_rfl)
    (of_decide_eq_true (by kernel_rfl)) (by unfold Func.isWrapper; first | (rw [if_pos (by decide +kernel)]; kernel_rfl) | (rw [if_neg (by decide +kernel)]; exact ⟨rfl, rfl⟩))
    (fun os started H enc _ F => by rw [OpenClaim.pre_eq_preRow]; exact lifted os started H enc F)
theorem plain (f : FuncId) (fn : Func) (hf : Tryd.pinned.checked.prog.funcNamed "talik/taliklaw06.StoreKeeps" = some f) (hfn : Tryd.pinned.checked.prog.funcs[f]? = some fn) :
    true = Tryd.pinned.checked.prog.looks [] ∧ ∀ (j : Nat) t, fn.params[j]? = some t → Tryd.pinned.checked.prog.wantsStandIn t = false := by
  obtain rfl : f = 3 := Option.some.inj ((show Tryd.prog.funcNamed "talik/taliklaw06.StoreKeeps" = some 3 by kernel_rfl).symm.trans hf) |>.symm
  obtain rfl : fn = Tryd.f3 := (Option.some.inj (Tryd.func3.symm.trans hfn)).symm
  refine ⟨by kernel_rfl, fun j t ht => ?_⟩
  have h : (Tryd.f3.params.toList.all fun t => !Tryd.prog.wantsStandIn t) = true := by kernel_rfl
  have := List.all_eq_true.1 h t (by rw [← Array.getElem?_toList] at ht; exact List.mem_of_getElem? ht)
  exact (show Tryd.prog.wantsStandIn t = false by simpa using this)
theorem card : Rows.StoreKeepsCardSaid :=
  Claim7.holds_tied_plain_at .later [] _ _ _ _ said (fun _ h => by cases h) (by kernel_rfl) (fun _ h => by cases h) storeKeeps_row_tie rfl ⟨rfl, rfl⟩ (by kernel_rfl) rfl plain (by kernel_rfl)
end Go.Proofs.YtcijddeommognaaDoor.Abs.storeKeeps
namespace Go.Proofs.YtcijddeommognaaDoor
theorem storeKeeps_card : Rows.StoreKeepsCardSaid := Abs.storeKeeps.card
end Go.Proofs.YtcijddeommognaaDoor
