import Derived.Test.YtibmgbalfhfcdaaDoorF3
import Derived.Test.YtibmgbalfhfcdaaDoorP2
import Derived.Test.YtibmgbalfhfcdaaDoorA3
import Derived.Test.YtibmgbalfhfcdaaDoorP1
import Derived.Test.YtibmgbalfhfcdaaDoorCards
import Derived.Test.YtibmgbalfhfcdaaDoorTie
import Derived.WalkKit
import Derived.ProofKit
import Derived.OpenShut
import Derived.Deep.DeepHandedRow
import Derived.Lib.LaidTab
import Derived.Stop.LaidErr
set_option linter.unusedVariables false
set_option maxRecDepth 100000
namespace Go.Proofs.YtibmgbalfhfcdaaDoor.Abs
open Go.Shelf Go.Sort
noncomputable def G4_C : CalT := tabC [G11_E, G15_E, G12_E, G13_E, G21_E, G22_E, G23_E, G24_E, G16_E, g25_sense_Least_E, G27_E, g26_sense_Known_E, g28_sense_Where_E, G18_E, G29_E]
theorem G4_CV : CV Tryd.prog G4_C := tabC_valid (l := _) ⟨G11_valid, G15_valid, G12_valid, G13_valid, G21_valid, G22_valid, G23_valid, G24_valid, G16_valid, g25_sense_Least_valid, G27_valid, g26_sense_Known_valid, g28_sense_Where_valid, G18_valid, G29_valid, trivial⟩
noncomputable def G4_l0_c : Code := loopAt (bodyOf Tryd.f4) 0
noncomputable def G4_l1_c : Code := loopAt (bodyOf Tryd.f4) 1
noncomputable def G4_l0_S : SPat := ⟨[.any, .any, .any, .dat (.int .i64), .dat (.int .i64), .fix (.bptr 0 []), .any, .fix (.bptr 1 []), .any, .any, .dat .bool, .fix (.bptr 2 []), .any, .any, .dat (.list T26), .any, .dat (.list (.int .i64)), .any, .fix (.bptr 3 []), .any, .dat (.int .i64), .any, .any, .any, .any, .any, .any, .any, .any, .any, .any, .any, .any, .any, .any, .any, .any, .any, .any, .any, .any, .any, .any, .any, .any, .any, .any, .any, .any, .any, .any, .any, .any, .any, .any, .any, .any, .any, .any, .any, .any, .any, .any, .any, .any, .any, .any, .any, .any, .any, .any, .any, .any, .any, .any, .any, .any, .any, .any, .any, .any, .any, .any, .any, .any, .any, .any, .any, .any, .any, .any, .any, .any, .any, .any, .any, .any, .any, .any, .any, .any, .any, .any, .any, .any, .any, .any, .any, .any, .any, .any, .any, .any, .any, .any, .any, .any, .any, .any, .any, .any, .any, .any, .any, .any, .any, .any, .any, .any, .any, .any, .any, .any, .any, .any, .any, .any, .any, .any, .any, .any, .any, .any, .any, .any, .any, .any, .any, .any, .any, .any, .any, .any, .any, .any, .any, .any, .any, .any, .any, .any, .any, .any, .any, .any, .any, .any, .any, .any, .any, .any, .any, .any, .any, .any, .any, .any, .any, .any, .any, .any, .any, .any, .any, .any, .any, .any, .any, .any, .any, .any, .any, .any, .any, .any, .any, .any, .any, .any, .any, .any, .any, .any, .any, .any, .any, .any, .any, .any, .any, .any, .any, .any, .any, .any, .any, .any, .any, .any, .any, .any, .any, .any, .any, .any, .any, .any, .any, .any, .any, .any, .any, .any, .any, .any, .any, .any, .any, .any, .any, .any, .any, .any, .any, .any, .any, .any], [.dat T23, .dat T30, .dat T26, .dat T56], 0⟩
abbrev TY108 : Type := ((Int × (Int × (Bool × ((List E26) × ((List Int) × (Int × Unit)))))) × (E23 × (E30 × (E26 × (E56 × Unit)))))
abbrev TY109 : Type := (Nat × ((Int × (Int × (Bool × ((List E26) × ((List Int) × (Int × Unit)))))) × (E23 × (E30 × (E26 × (E56 × Unit))))))
noncomputable def G4_l0_step (s : TY108) : Option TY109 :=
  (bif (decide (s.1.2.2.2.2.2.1 < (List.length s.1.2.2.2.1 : Int))) then
  (bif (decide (0 ≤ s.1.2.2.2.2.2.1) && decide (s.1.2.2.2.2.2.1 < (List.length s.1.2.2.2.1 : Int))) then
    (Option.bind (G18 s.2.1 (List.getD s.1.2.2.2.1 (Int.toNat s.1.2.2.2.2.2.1) ([], ([], ())))) fun r25 =>
      (bif (!r25) then
        some (1, ((s.1.1, (s.1.2.1, (false, (s.1.2.2.2.1, (s.1.2.2.2.2.1, (s.1.2.2.2.2.2.1, ())))))), (s.2.1, (s.2.2.1, (s.2.2.2.1, (s.2.2.2.2.1, ()))))))
        else
        (bif (decide (0 ≤ s.1.2.2.2.2.2.1) && decide (s.1.2.2.2.2.2.1 < (List.length s.1.2.2.2.1 : Int))) then
          (Option.bind (G27 (List.getD s.1.2.2.2.1 (Int.toNat s.1.2.2.2.2.2.1) ([], ([], ())))) fun r26 =>
            (Option.bind (G27 s.2.2.2.1) fun r27 =>
              (bif (decide (r26 > r27)) then
                some (1, ((s.1.1, (s.1.2.1, (false, (s.1.2.2.2.1, (s.1.2.2.2.2.1, (s.1.2.2.2.2.2.1, ())))))), (s.2.1, (s.2.2.1, (s.2.2.2.1, (s.2.2.2.2.1, ()))))))
                else
                some (0, ((s.1.1, (s.1.2.1, (s.1.2.2.1, (s.1.2.2.2.1, (s.1.2.2.2.2.1, ((IntKind.wrap .i64 (s.1.2.2.2.2.2.1 + 1)), ())))))), (s.2.1, (s.2.2.1, (s.2.2.2.1, (s.2.2.2.2.1, ())))))))))
          else
          none)))
    else
    none)
  else
  some (2, ((s.1.1, (s.1.2.1, (s.1.2.2.1, (s.1.2.2.2.1, (s.1.2.2.2.2.1, (s.1.2.2.2.2.2.1, ())))))), (s.2.1, (s.2.2.1, (s.2.2.2.1, (s.2.2.2.2.1, ())))))))
noncomputable def G4_l0_fuel (s : TY108) : Nat := Int.toNat ((List.length s.1.2.2.2.1 : Int) - s.1.2.2.2.2.2.1) + 1
noncomputable def G4_l0_run (s : TY108) : Option TY109 := iter G4_l0_step (G4_l0_fuel s) s
noncomputable def G4_l0_L : LoopT := loopT G4_l0_S [.ret, .exit 0] G4_l0_run
noncomputable def G4_l1_S : SPat := ⟨[.any, .any, .any, .dat (.int .i64), .dat (.int .i64), .fix (.bptr 0 []), .any, .fix (.bptr 1 []), .any, .any, .dat .bool, .fix (.bptr 2 []), .any, .any, .any, .any, .dat (.list (.int .i64)), .any, .fix (.bptr 3 []), .any, .any, .dat (.int .i64), .any, .any, .any, .any, .any, .any, .any, .any, .any, .any, .any, .any, .any, .any, .any, .any, .any, .any, .any, .any, .any, .any, .any, .any, .any, .any, .any, .any, .any, .any, .any, .any, .any, .any, .any, .any, .any, .any, .any, .any, .any, .any, .any, .any, .any, .any, .any, .any, .any, .any, .any, .any, .any, .any, .any, .any, .any, .any, .any, .any, .any, .any, .any, .any, .any, .any, .any, .any, .any, .any, .any, .any, .any, .any, .any, .any, .any, .any, .any, .any, .any, .any, .any, .any, .any, .any, .any, .any, .any, .any, .any, .any, .any, .any, .any, .any, .any, .any, .any, .any, .any, .any, .any, .any, .any, .any, .any, .any, .any, .any, .any, .any, .any, .any, .any, .any, .any, .any, .any, .any, .any, .any, .any, .any, .any, .any, .any, .any, .any, .any, .any, .any, .any, .any, .any, .any, .any, .any, .any, .any, .any, .any, .any, .any, .any, .any, .any, .any, .any, .any, .any, .any, .any, .any, .any, .any, .any, .any, .any, .any, .any, .any, .any, .any, .any, .any, .any, .any, .any, .any, .any, .any, .any, .any, .any, .any, .any, .any, .any, .any, .any, .any, .any, .any, .any, .any, .any, .any, .any, .any, .any, .any, .any, .any, .any, .any, .any, .any, .any, .any, .any, .any, .any, .any, .any, .any, .any, .any, .any, .any, .any, .any, .any, .any, .any, .any, .any, .any, .any, .any, .any, .any, .any, .any, .any], [.dat T23, .dat T30, .dat T26, .dat T56], 0⟩
abbrev TY110 : Type := ((Int × (Int × (Bool × ((List Int) × (Int × Unit))))) × (E23 × (E30 × (E26 × (E56 × Unit)))))
abbrev TY111 : Type := (Nat × ((Int × (Int × (Bool × ((List Int) × (Int × Unit))))) × (E23 × (E30 × (E26 × (E56 × Unit))))))
noncomputable def G4_l1_step (s : TY110) : Option TY111 :=
  (bif (decide (s.1.2.2.2.2.1 < (List.length s.1.2.2.2.1 : Int))) then
  (bif (decide (s.1.2.2.2.2.1 < (List.length s.2.1.2.2.2.2.1 : Int))) then
    (Option.bind (G29 s.2.2.2.1.1 s.1.2.2.2.2.1) fun r29 =>
      (bif r29 then
        (bif (decide (0 ≤ s.1.2.2.2.2.1) && decide (s.1.2.2.2.2.1 < (List.length s.1.2.2.2.1 : Int))) then
          (bif ((List.getD s.1.2.2.2.1 (Int.toNat s.1.2.2.2.2.1) 0) == 1) then
            some (1, ((s.1.1, (s.1.2.1, (false, (s.1.2.2.2.1, (s.1.2.2.2.2.1, ()))))), (s.2.1, (s.2.2.1, (s.2.2.2.1, (s.2.2.2.2.1, ()))))))
            else
            (bif (decide (0 ≤ s.1.2.2.2.2.1) && decide (s.1.2.2.2.2.1 < (List.length s.1.2.2.2.1 : Int))) then
              (bif ((List.getD s.1.2.2.2.1 (Int.toNat s.1.2.2.2.2.1) 0) == 3) then
                some (0, ((s.1.1, (s.1.2.1, (s.1.2.2.1, (s.1.2.2.2.1, ((IntKind.wrap .i64 (s.1.2.2.2.2.1 + 1)), ()))))), (s.2.1, (s.2.2.1, (s.2.2.2.1, (s.2.2.2.2.1, ()))))))
                else
                some (0, ((s.1.1, (s.1.2.1, (s.1.2.2.1, (s.1.2.2.2.1, ((IntKind.wrap .i64 (s.1.2.2.2.2.1 + 1)), ()))))), (s.2.1, (s.2.2.1, (s.2.2.2.1, (s.2.2.2.2.1, ())))))))
              else
              none))
          else
          none)
        else
        (bif (decide (s.1.2.2.2.2.1 ≥ (List.length s.2.1.2.2.2.2.1 : Int))) then
          (Option.bind (G29 s.2.2.2.1.2.1 (IntKind.wrap .i64 (s.1.2.2.2.2.1 - (List.length s.2.1.2.2.2.2.1 : Int)))) fun r30 =>
            (bif (decide (0 ≤ s.1.2.2.2.2.1) && decide (s.1.2.2.2.2.1 < (List.length s.1.2.2.2.1 : Int))) then
              (bif ((List.getD s.1.2.2.2.1 (Int.toNat s.1.2.2.2.2.1) 0) == 1) then
                (bif r30 then
                  some (1, ((s.1.1, (s.1.2.1, (false, (s.1.2.2.2.1, (s.1.2.2.2.2.1, ()))))), (s.2.1, (s.2.2.1, (s.2.2.2.1, (s.2.2.2.2.1, ()))))))
                  else
                  (bif (decide (0 ≤ s.1.2.2.2.2.1) && decide (s.1.2.2.2.2.1 < (List.length s.1.2.2.2.1 : Int))) then
                    (bif ((List.getD s.1.2.2.2.1 (Int.toNat s.1.2.2.2.2.1) 0) == 3) then
                      (bif (!r30) then
                        some (1, ((s.1.1, (s.1.2.1, (false, (s.1.2.2.2.1, (s.1.2.2.2.2.1, ()))))), (s.2.1, (s.2.2.1, (s.2.2.2.1, (s.2.2.2.2.1, ()))))))
                        else
                        some (0, ((s.1.1, (s.1.2.1, (s.1.2.2.1, (s.1.2.2.2.1, ((IntKind.wrap .i64 (s.1.2.2.2.2.1 + 1)), ()))))), (s.2.1, (s.2.2.1, (s.2.2.2.1, (s.2.2.2.2.1, ())))))))
                      else
                      some (0, ((s.1.1, (s.1.2.1, (s.1.2.2.1, (s.1.2.2.2.1, ((IntKind.wrap .i64 (s.1.2.2.2.2.1 + 1)), ()))))), (s.2.1, (s.2.2.1, (s.2.2.2.1, (s.2.2.2.2.1, ())))))))
                    else
                    none))
                else
                (bif (decide (0 ≤ s.1.2.2.2.2.1) && decide (s.1.2.2.2.2.1 < (List.length s.1.2.2.2.1 : Int))) then
                  (bif ((List.getD s.1.2.2.2.1 (Int.toNat s.1.2.2.2.2.1) 0) == 3) then
                    (bif (!r30) then
                      some (1, ((s.1.1, (s.1.2.1, (false, (s.1.2.2.2.1, (s.1.2.2.2.2.1, ()))))), (s.2.1, (s.2.2.1, (s.2.2.2.1, (s.2.2.2.2.1, ()))))))
                      else
                      some (0, ((s.1.1, (s.1.2.1, (s.1.2.2.1, (s.1.2.2.2.1, ((IntKind.wrap .i64 (s.1.2.2.2.2.1 + 1)), ()))))), (s.2.1, (s.2.2.1, (s.2.2.2.1, (s.2.2.2.2.1, ())))))))
                    else
                    some (0, ((s.1.1, (s.1.2.1, (s.1.2.2.1, (s.1.2.2.2.1, ((IntKind.wrap .i64 (s.1.2.2.2.2.1 + 1)), ()))))), (s.2.1, (s.2.2.1, (s.2.2.2.1, (s.2.2.2.2.1, ())))))))
                  else
                  none))
              else
              none))
          else
          (bif (decide (0 ≤ s.1.2.2.2.2.1) && decide (s.1.2.2.2.2.1 < (List.length s.1.2.2.2.1 : Int))) then
            (bif ((List.getD s.1.2.2.2.1 (Int.toNat s.1.2.2.2.2.1) 0) == 1) then
              (bif (decide (0 ≤ s.1.2.2.2.2.1) && decide (s.1.2.2.2.2.1 < (List.length s.1.2.2.2.1 : Int))) then
                (bif ((List.getD s.1.2.2.2.1 (Int.toNat s.1.2.2.2.2.1) 0) == 3) then
                  some (1, ((s.1.1, (s.1.2.1, (false, (s.1.2.2.2.1, (s.1.2.2.2.2.1, ()))))), (s.2.1, (s.2.2.1, (s.2.2.2.1, (s.2.2.2.2.1, ()))))))
                  else
                  some (0, ((s.1.1, (s.1.2.1, (s.1.2.2.1, (s.1.2.2.2.1, ((IntKind.wrap .i64 (s.1.2.2.2.2.1 + 1)), ()))))), (s.2.1, (s.2.2.1, (s.2.2.2.1, (s.2.2.2.2.1, ())))))))
                else
                none)
              else
              (bif (decide (0 ≤ s.1.2.2.2.2.1) && decide (s.1.2.2.2.2.1 < (List.length s.1.2.2.2.1 : Int))) then
                (bif ((List.getD s.1.2.2.2.1 (Int.toNat s.1.2.2.2.2.1) 0) == 3) then
                  some (1, ((s.1.1, (s.1.2.1, (false, (s.1.2.2.2.1, (s.1.2.2.2.2.1, ()))))), (s.2.1, (s.2.2.1, (s.2.2.2.1, (s.2.2.2.2.1, ()))))))
                  else
                  some (0, ((s.1.1, (s.1.2.1, (s.1.2.2.1, (s.1.2.2.2.1, ((IntKind.wrap .i64 (s.1.2.2.2.2.1 + 1)), ()))))), (s.2.1, (s.2.2.1, (s.2.2.2.1, (s.2.2.2.2.1, ())))))))
                else
                none))
            else
            none))))
    else
    (bif (decide (s.1.2.2.2.2.1 ≥ (List.length s.2.1.2.2.2.2.1 : Int))) then
      (Option.bind (G29 s.2.2.2.1.2.1 (IntKind.wrap .i64 (s.1.2.2.2.2.1 - (List.length s.2.1.2.2.2.2.1 : Int)))) fun r31 =>
        (bif (decide (0 ≤ s.1.2.2.2.2.1) && decide (s.1.2.2.2.2.1 < (List.length s.1.2.2.2.1 : Int))) then
          (bif ((List.getD s.1.2.2.2.1 (Int.toNat s.1.2.2.2.2.1) 0) == 1) then
            (bif r31 then
              some (1, ((s.1.1, (s.1.2.1, (false, (s.1.2.2.2.1, (s.1.2.2.2.2.1, ()))))), (s.2.1, (s.2.2.1, (s.2.2.2.1, (s.2.2.2.2.1, ()))))))
              else
              (bif (decide (0 ≤ s.1.2.2.2.2.1) && decide (s.1.2.2.2.2.1 < (List.length s.1.2.2.2.1 : Int))) then
                (bif ((List.getD s.1.2.2.2.1 (Int.toNat s.1.2.2.2.2.1) 0) == 3) then
                  (bif (!r31) then
                    some (1, ((s.1.1, (s.1.2.1, (false, (s.1.2.2.2.1, (s.1.2.2.2.2.1, ()))))), (s.2.1, (s.2.2.1, (s.2.2.2.1, (s.2.2.2.2.1, ()))))))
                    else
                    some (0, ((s.1.1, (s.1.2.1, (s.1.2.2.1, (s.1.2.2.2.1, ((IntKind.wrap .i64 (s.1.2.2.2.2.1 + 1)), ()))))), (s.2.1, (s.2.2.1, (s.2.2.2.1, (s.2.2.2.2.1, ())))))))
                  else
                  some (0, ((s.1.1, (s.1.2.1, (s.1.2.2.1, (s.1.2.2.2.1, ((IntKind.wrap .i64 (s.1.2.2.2.2.1 + 1)), ()))))), (s.2.1, (s.2.2.1, (s.2.2.2.1, (s.2.2.2.2.1, ())))))))
                else
                none))
            else
            (bif (decide (0 ≤ s.1.2.2.2.2.1) && decide (s.1.2.2.2.2.1 < (List.length s.1.2.2.2.1 : Int))) then
              (bif ((List.getD s.1.2.2.2.1 (Int.toNat s.1.2.2.2.2.1) 0) == 3) then
                (bif (!r31) then
                  some (1, ((s.1.1, (s.1.2.1, (false, (s.1.2.2.2.1, (s.1.2.2.2.2.1, ()))))), (s.2.1, (s.2.2.1, (s.2.2.2.1, (s.2.2.2.2.1, ()))))))
                  else
                  some (0, ((s.1.1, (s.1.2.1, (s.1.2.2.1, (s.1.2.2.2.1, ((IntKind.wrap .i64 (s.1.2.2.2.2.1 + 1)), ()))))), (s.2.1, (s.2.2.1, (s.2.2.2.1, (s.2.2.2.2.1, ())))))))
                else
                some (0, ((s.1.1, (s.1.2.1, (s.1.2.2.1, (s.1.2.2.2.1, ((IntKind.wrap .i64 (s.1.2.2.2.2.1 + 1)), ()))))), (s.2.1, (s.2.2.1, (s.2.2.2.1, (s.2.2.2.2.1, ())))))))
              else
              none))
          else
          none))
      else
      (bif (decide (0 ≤ s.1.2.2.2.2.1) && decide (s.1.2.2.2.2.1 < (List.length s.1.2.2.2.1 : Int))) then
        (bif ((List.getD s.1.2.2.2.1 (Int.toNat s.1.2.2.2.2.1) 0) == 1) then
          (bif (decide (0 ≤ s.1.2.2.2.2.1) && decide (s.1.2.2.2.2.1 < (List.length s.1.2.2.2.1 : Int))) then
            (bif ((List.getD s.1.2.2.2.1 (Int.toNat s.1.2.2.2.2.1) 0) == 3) then
              some (1, ((s.1.1, (s.1.2.1, (false, (s.1.2.2.2.1, (s.1.2.2.2.2.1, ()))))), (s.2.1, (s.2.2.1, (s.2.2.2.1, (s.2.2.2.2.1, ()))))))
              else
              some (0, ((s.1.1, (s.1.2.1, (s.1.2.2.1, (s.1.2.2.2.1, ((IntKind.wrap .i64 (s.1.2.2.2.2.1 + 1)), ()))))), (s.2.1, (s.2.2.1, (s.2.2.2.1, (s.2.2.2.2.1, ())))))))
            else
            none)
          else
          (bif (decide (0 ≤ s.1.2.2.2.2.1) && decide (s.1.2.2.2.2.1 < (List.length s.1.2.2.2.1 : Int))) then
            (bif ((List.getD s.1.2.2.2.1 (Int.toNat s.1.2.2.2.2.1) 0) == 3) then
              some (1, ((s.1.1, (s.1.2.1, (false, (s.1.2.2.2.1, (s.1.2.2.2.2.1, ()))))), (s.2.1, (s.2.2.1, (s.2.2.2.1, (s.2.2.2.2.1, ()))))))
              else
              some (0, ((s.1.1, (s.1.2.1, (s.1.2.2.1, (s.1.2.2.2.1, ((IntKind.wrap .i64 (s.1.2.2.2.2.1 + 1)), ()))))), (s.2.1, (s.2.2.1, (s.2.2.2.1, (s.2.2.2.2.1, ())))))))
            else
            none))
        else
        none)))
  else
  some (2, ((s.1.1, (s.1.2.1, (s.1.2.2.1, (s.1.2.2.2.1, (s.1.2.2.2.2.1, ()))))), (s.2.1, (s.2.2.1, (s.2.2.2.1, (s.2.2.2.2.1, ())))))))
noncomputable def G4_l1_fuel (s : TY110) : Nat := Int.toNat ((List.length s.1.2.2.2.1 : Int) - s.1.2.2.2.2.1) + 1
noncomputable def G4_l1_run (s : TY110) : Option TY111 := iter G4_l1_step (G4_l1_fuel s) s
noncomputable def G4_l1_L : LoopT := loopT G4_l1_S [.ret, .exit 2] G4_l1_run
noncomputable def G4 (a0 : E23) (a1 : (List E72)) (a2 : E30) (a3 : Int) (a4 : Int) : Option Bool :=
  (Option.bind (G11 a0 a1) fun r1 =>
  (bif (!r1) then
    (Option.bind G15 fun r2 =>
      some r2)
    else
    (Option.bind (G12 ([], ([], ())) a2) fun r3 =>
      (bif (!r3) then
        (Option.bind G15 fun r4 =>
          some r4)
        else
        (Option.bind (G13 a0 a1) fun r5 =>
          (bif (r5 != 0) then
            (Option.bind G15 fun r6 =>
              some r6)
            else
            (Option.bind (G21 a0 a2) fun r7 =>
              (bif (!r7) then
                (Option.bind G15 fun r8 =>
                  some r8)
                else
                (Option.bind (G22 a0 a1 a2) fun r9 =>
                  (bif (!r9) then
                    (Option.bind G15 fun r10 =>
                      some r10)
                    else
                    (Option.bind (G23 a0) fun r11 =>
                      (bif (decide (r11 > 7)) then
                        (Option.bind G15 fun r12 =>
                          some r12)
                        else
                        (bif (decide (a3 < 0)) then
                          (Option.bind G15 fun r13 =>
                            some r13)
                          else
                          (bif (decide (a3 ≥ a0.2.2.2.1)) then
                            (Option.bind G15 fun r14 =>
                              some r14)
                            else
                            (bif (decide (a4 < 0)) then
                              (Option.bind G15 fun r15 =>
                                some r15)
                              else
                              (bif (decide (a4 > 200)) then
                                (Option.bind G15 fun r16 =>
                                  some r16)
                                else
                                (Option.bind (G24 a2) fun r17 =>
                                  (Option.bind (G16 a0 a1 r17) fun r18 =>
                                    (Option.bind (g25_sense_Least a0 a1) fun r19 =>
                                      (Option.bind (G27 r17) fun r20 =>
                                        (Option.bind (g26_sense_Known a0 a1 r20) fun r21 =>
                                          (Option.bind (G27 r17) fun r22 =>
                                            (Option.bind (g28_sense_Where a0 a1 r22 a3 a4) fun r23 =>
                                              (bif (r18.2.1 != 0) then
                                                some false
                                                else
                                                (bif (!r18.1) then
                                                  some false
                                                  else
                                                  (bif (r19.2.1 != 0) then
                                                    some false
                                                    else
                                                    (bif (r21.2.1 != 0) then
                                                      some false
                                                      else
                                                      (bif (r23.2.1 != 0) then
                                                        some false
                                                        else
                                                        (bif ((List.length r19.1 : Int) == 0) then
                                                          some false
                                                          else
                                                          (bif (decide ((List.length r19.1 : Int) > 200)) then
                                                            some false
                                                            else
                                                            (Option.bind (G23 a0) fun r24 =>
                                                              (bif ((List.length r21.1 : Int) != r24) then
                                                                some false
                                                                else
                                                                (Option.bind (G4_l0_run ((a3, (a4, (false, (r19.1, (r21.1, (0, ())))))), (a0, (a2, (r17, (r23.1, ())))))) fun q28 =>
                                                                  (natK q28.1
                                                                    (some q28.2.1.2.2.1)
                                                                    (fun _ => (Option.bind (G4_l1_run ((q28.2.1.1, (q28.2.1.2.1, (q28.2.1.2.2.1, (q28.2.1.2.2.2.2.1, (0, ()))))), (q28.2.2.1, (q28.2.2.2.1, (q28.2.2.2.2.1, (q28.2.2.2.2.2.1, ())))))) fun q32 =>
                                                                      (natK q32.1
                                                                        (some q32.2.1.2.2.1)
                                                                        (fun _ => (bif (decide (0 ≤ q32.2.1.1) && decide (q32.2.1.1 < (List.length q32.2.2.2.1.1 : Int))) then
                                                                          (bif (decide (0 ≤ q32.2.1.1) && decide (q32.2.1.1 < (List.length q32.2.2.2.1.2.1 : Int))) then
                                                                            (bif (decide ((IntKind.wrap .i64 ((List.getD q32.2.2.2.1.1 (Int.toNat q32.2.1.1) 0) + (IntKind.wrap .i64 ((List.getD q32.2.2.2.1.2.1 (Int.toNat q32.2.1.1) 0) * q32.2.1.2.1)))) ≥ q32.2.2.2.2.2.1.1)) then
                                                                              (bif (decide ((IntKind.wrap .i64 ((List.getD q32.2.2.2.1.1 (Int.toNat q32.2.1.1) 0) + (IntKind.wrap .i64 ((List.getD q32.2.2.2.1.2.1 (Int.toNat q32.2.1.1) 0) * q32.2.1.2.1)))) ≤ q32.2.2.2.2.2.1.2.1)) then
                                                                                (Option.bind G15 fun r33 =>
                                                                                  some r33)
                                                                                else
                                                                                some false)
                                                                              else
                                                                              some false)
                                                                            else
                                                                            none)
                                                                          else
                                                                          none)))))))))))))))))))))))))))))))))))))))
theorem G4_l0_V : LValid 0 Tryd.prog (.loop G4_l0_c) G4_l0_L false := by
  exact loopT_valid (fuel := G4_l0_fuel) mixed G4_CV (lvNil _) (by kernel_rfl) (by decide) rfl (by intro s; kernel_rfl) (fun s r h => h)
theorem G4_l1_V : LValid 0 Tryd.prog (.loop G4_l1_c) G4_l1_L false := by
  exact loopT_valid (fuel := G4_l1_fuel) mixed G4_CV (lvNil _) (by kernel_rfl) (by decide) rfl (by intro s; kernel_rfl) (fun s r h => h)
theorem G4_LV : LV 0 Tryd.prog false (loopsOf (bodyOf Tryd.f4)) [G4_l0_L, G4_l1_L] := by
  have hl : loopsOf (bodyOf Tryd.f4) = [.loop G4_l0_c, .loop G4_l1_c] := by kernel_rfl
  rw [hl]; exact ⟨G4_l0_V, G4_l1_V, trivial⟩
theorem G4_ent : Ent Tryd.prog 4 := ⟨by decide, enters_of Tryd.func4 (by kernel_rfl) rfl⟩
theorem G4_hev : ∀ x, fnR Tryd.prog G4_C [G4_l0_L, G4_l1_L] Tryd.f4 (bodyOf Tryd.f4) (encs [.dat T23, .dat (.list T72), .dat T30, .dat (.int .i64), .dat (.int .i64)] x) ⟨[], [], 0⟩ (frzF (.dat .bool)) = G4 x.1 x.2.1 x.2.2.1 x.2.2.2.1 x.2.2.2.2.1 := by
  intro x; kernel_rfl
theorem G4_lcall : ∀ x r, (fun x : Els [.dat T23, .dat (.list T72), .dat T30, .dat (.int .i64), .dat (.int .i64)] => G4 x.1 x.2.1 x.2.2.1 x.2.2.2.1 x.2.2.2.2.1) x = some r → LCall 0 Tryd.prog 4 (encs [.dat T23, .dat (.list T72), .dat T30, .dat (.int .i64), .dat (.int .i64)] x) ⟨[], [], 0⟩ (.d .bool r) ⟨[], [], 0⟩ := frz_lcall (R := .dat .bool) mixed Tryd.func4 rfl G4_ent G4_CV G4_LV (by kernel_rfl) (by kernel_rfl) G4_hev
end Go.Proofs.YtibmgbalfhfcdaaDoor.Abs
set_option linter.unusedVariables false
set_option linter.unusedSimpArgs false
set_option maxRecDepth 100000
namespace Go.Proofs.YtibmgbalfhfcdaaDoor.Abs
open Classical
def ofT (t : E30) : E26 := (ups (t.2.2.1).length (fun i => (t.2.2.1).getD i 0 != 0), (ups (t.2.1).length (fun i => (t.2.1).getD i 0 != 0), ()))
theorem of_eq (t : E30) (h1 : (t.2.2.1).length ≤ 1000) (h2 : (t.2.1).length ≤ 1000) : G24 t = some (ofT t) := by
  unfold G24
  have l0 : G24_l0_run ((0, ()), (t, (([], ([], ())), (([], ([], ())), ())))) = some (0, (((((t.2.2.1).length : Nat) : Int), ()), (t, (([], ([], ())), ((ups (t.2.2.1).length (fun i => (t.2.2.1).getD i 0 != 0), ([], ())), ()))))) :=
    iter_run (step := G24_l0_step) (n := (t.2.2.1).length) (k := 0) (fuel := G24_l0_fuel ((0, ()), (t, (([], ([], ())), (([], ([], ())), ())))))
      (fun k => (((k : Int), ()), (t, (([], ([], ())), ((ups k (fun i => (t.2.2.1).getD i 0 != 0), ([], ())), ()))))) _ (fun k hk => by
        have hu := ups_len k (fun i => (t.2.2.1).getD i 0 != 0)
        unfold G24_l0_step
        simp only [lt_int hk, ge0, Bool.and_self, cond_true, getD_toNat, wr1 (i := k) (by omega), lim_ok (n := (ups k (fun i => (t.2.2.1).getD i 0 != 0)).length) (m := List.length [(k : Int)]) (by omega) (by simp)]
        rw [ups_succ]
        cases (t.2.2.1).getD k 0 != 0 with
        | true => rfl
        | false => simp only [cond_false, List.append_nil]) (by
        unfold G24_l0_step
        simp only [nlt_int, cond_false]) (by unfold G24_l0_fuel; simp)
  have l1 : G24_l1_run ((0, ()), (t, (([], ([], ())), ((ups (t.2.2.1).length (fun i => (t.2.2.1).getD i 0 != 0), ([], ())), ())))) = some (0, (((((t.2.1).length : Nat) : Int), ()), (t, (([], ([], ())), (ofT t, ()))))) :=
    iter_run (step := G24_l1_step) (n := (t.2.1).length) (k := 0) (fuel := G24_l1_fuel ((0, ()), (t, (([], ([], ())), ((ups (t.2.2.1).length (fun i => (t.2.2.1).getD i 0 != 0), ([], ())), ())))))
      (fun k => (((k : Int), ()), (t, (([], ([], ())), ((ups (t.2.2.1).length (fun i => (t.2.2.1).getD i 0 != 0), (ups k (fun i => (t.2.1).getD i 0 != 0), ())), ()))))) _ (fun k hk => by
        have hu := ups_len k (fun i => (t.2.1).getD i 0 != 0)
        unfold G24_l1_step
        simp only [lt_int hk, ge0, Bool.and_self, cond_true, getD_toNat, wr1 (i := k) (by omega), lim_ok (n := (ups k (fun i => (t.2.1).getD i 0 != 0)).length) (m := List.length [(k : Int)]) (by omega) (by simp)]
        rw [ups_succ]
        cases (t.2.1).getD k 0 != 0 with
        | true => rfl
        | false => simp only [cond_false, List.append_nil]) (by
        unfold G24_l1_step
        simp only [nlt_int, cond_false]; rfl) (by unfold G24_l1_fuel; simp)
  rw [l0]
  simp only [Option.bind_some]
  rw [l1]
  rfl
theorem ofT_ok {s : E23} {t : E30} (hs : StrOk s) (ht : TrOk s t) : CauseOk s (ofT t) := by
  have h1 := ht.ld
  have h2 := ht.lr
  have h3 := hs.depths
  exact ⟨ups_rising (by omega), ups_rising (by omega)⟩
theorem ofT_own (t : E30) : Own t (ofT t) := ⟨fun i hi hz => ups_mem.2 ⟨i, hi, by simpa using hz, rfl⟩, fun k hk hz => ups_mem.2 ⟨k, hk, by simpa using hz, rfl⟩⟩
attribute [local irreducible] G15 G13 G16 g28_sense_Where g25_sense_Least g26_sense_Known G18 G12 G24 G21 G22 G29 G27
theorem many_c {s : E23} (hs : StrOk s) {c : E26} (hc : CauseOk s c) : G27 c = some (((c.1).length + (c.2.1).length : Nat) : Int) := by
  have := cause_len hs hc
  have := nC_le hs
  unfold G27
  rw [wr (by omega) (by omega)]
  congr 1
theorem true_l0 {s : E23} {l : List E72} (hs : StrOk s) {out : List E26} {m : Nat} (ho : out = (exs s l (comb (nC s) (nC s) m 0)).map (causeOf s)) {c : E26} (hc : CauseOk s c) (hm : m ≤ (c.1).length + (c.2.1).length) (hl : out.length ≤ 1000) (x1 x2 : Int) (x3 : Bool) (w : List Int) (t : E30) (p : E56) :
    G4_l0_run ((x1, (x2, (x3, (out, (w, (0, ())))))), (s, (t, (c, (p, ()))))) = some (1, ((x1, (x2, (x3, (out, (w, ((out.length : Int), ())))))), (s, (t, (c, (p, ())))))) := by
  have hcl := cause_len hs hc
  have hn := nC_le hs
  exact iter_run (step := G4_l0_step) (n := out.length) (k := 1) (fuel := G4_l0_fuel ((x1, (x2, (x3, (out, (w, (0, ())))))), (s, (t, (c, (p, ()))))))
    (fun i => ((x1, (x2, (x3, (out, (w, ((i : Int), ())))))), (s, (t, (c, (p, ())))))) _ (fun i hi => by
      obtain ⟨h1, h2, h3⟩ := least_mem hs ho (getD_mem hi (d := ([], ([], ()))))
      have hcl2 := cause_len hs h1
      have hle : decide ((((out.getD i ([], ([], ()))).1.length + (out.getD i ([], ([], ()))).2.1.length : Nat) : Int) > (((c.1).length + (c.2.1).length : Nat) : Int)) = false := decide_eq_false (by omega)
      unfold G4_l0_step
      simp only [lt_int hi, ge0, Bool.and_self, cond_true, getD_toNat, wr1 (i := i) (by omega), (rcause_tells hs _ (show (out.getD i ([], ([], ()))).1.length < 2 ^ 62 by omega) (show (out.getD i ([], ([], ()))).2.1.length < 2 ^ 62 by omega)).val h1, Option.bind_some, Bool.not_true, cond_false, many_c hs h1, many_c hs hc, hle]) (by
      unfold G4_l0_step
      simp only [nlt_int, cond_false]) (by unfold G4_l0_fuel; simp)
theorem true_l1 {s : E23} (hs : StrOk s) {c : E26} (hc : CauseOk s c) {P : Nat → Prop} {w : List Int} (hw : KnowsW P (nC s) w) (hP : P (bitsOf s c)) (x1 x2 : Int) (x3 : Bool) (t : E30) (p : E56) :
    G4_l1_run ((x1, (x2, (x3, (w, (0, ()))))), (s, (t, (c, (p, ()))))) = some (1, ((x1, (x2, (x3, (w, ((w.length : Int), ()))))), (s, (t, (c, (p, ())))))) := by
  have hcl := cause_len hs hc
  have hn := nC_le hs
  have hwl := hw.len
  have hlen := hs.len
  have hS := has_tells (c.1)
  refine iter_run (step := G4_l1_step) (n := w.length) (k := 1) (fuel := G4_l1_fuel ((x1, (x2, (x3, (w, (0, ()))))), (s, (t, (c, (p, ()))))))
    (fun i => ((x1, (x2, (x3, (w, ((i : Int), ()))))), (s, (t, (c, (p, ())))))) _ (fun i hi => ?_) (by
      unfold G4_l1_step
      simp only [nlt_int, cond_false]) (by unfold G4_l1_fuel; simp)
  have hword : ((bitsOf s c).testBit i = true → (w.getD i 0 == 1) = false) ∧ ((bitsOf s c).testBit i = false → (w.getD i 0 == 3) = false) := by
    rcases hw.word i (by omega) with ⟨e, h⟩ | ⟨e, _, h⟩ | ⟨e, _⟩
    · rw [e]
      have := h _ hP
      exact ⟨fun h' => (by rw [h'] at this; cases this), fun _ => rfl⟩
    · rw [e]
      have := h _ hP
      exact ⟨fun _ => rfl, fun h' => (by rw [h'] at this; cases this)⟩
    · rw [e]; exact ⟨fun _ => rfl, fun _ => rfl⟩
  unfold G4_l1_step
  by_cases hin : i < (s.2.2.2.2.1).length
  · have d1 : decide ((i : Int) < ((s.2.2.2.2.1).length : Int)) = true := lt_int hin
    have d2 : decide ((i : Int) ≥ ((s.2.2.2.2.1).length : Int)) = false := decide_eq_false (by omega)
    rw [bit_s hc hin] at hword
    by_cases hm : (i : Int) ∈ c.1
    · have w1 := hword.1 (decide_eq_true hm)
      simp only [lt_int hi, ge0, Bool.and_self, cond_true, getD_toNat, wr1 (i := i) (by omega), d1, (hS (i : Int) (by omega)).val hm, Option.bind_some, w1, cond_false]
      cases w.getD i 0 == 3 <;> rfl
    · have w3 := hword.2 (decide_eq_false hm)
      simp only [lt_int hi, ge0, Bool.and_self, cond_true, getD_toNat, wr1 (i := i) (by omega), d1, d2, (hS (i : Int) (by omega)).nval hm, Option.bind_some, w3, cond_false]
      cases w.getD i 0 == 1 <;> rfl
  · have d1 : decide ((i : Int) < ((s.2.2.2.2.1).length : Int)) = false := decide_eq_false (by omega)
    have d2 : decide ((i : Int) ≥ ((s.2.2.2.2.1).length : Int)) = true := decide_eq_true (by omega)
    have hw' : IntKind.wrap .i64 ((i : Int) - ((s.2.2.2.2.1).length : Int)) = ((i - (s.2.2.2.2.1).length : Nat) : Int) := by rw [wr (by omega) (by omega)]; omega
    have hb : (bitsOf s c).testBit i = decide (((i - (s.2.2.2.2.1).length : Nat) : Int) ∈ c.2.1) := by
      rw [← bit_d hc, show (s.2.2.2.2.1).length + (i - (s.2.2.2.2.1).length) = i by omega]
    rw [hb] at hword
    have hD := has_tells (c.2.1) ((i - (s.2.2.2.2.1).length : Nat) : Int) (by omega)
    by_cases hm : ((i - (s.2.2.2.2.1).length : Nat) : Int) ∈ c.2.1
    · have w1 := hword.1 (decide_eq_true hm)
      simp only [lt_int hi, ge0, Bool.and_self, cond_true, getD_toNat, wr1 (i := i) (by omega), d1, d2, hw', hD.val hm, Option.bind_some, w1, cond_false]
      cases w.getD i 0 == 3 <;> rfl
    · have w3 := hword.2 (decide_eq_false hm)
      simp only [lt_int hi, ge0, Bool.and_self, cond_true, getD_toNat, wr1 (i := i) (by omega), d1, d2, hw', hD.nval hm, Option.bind_some, w3, cond_false]
      cases w.getD i 0 == 1 <;> rfl
attribute [local irreducible] G4_l0_run G4_l1_run
theorem law4 (s : E23) (l : List E72) (t : E30) (depth week : Int) : G4 s l t depth week = some true := by
  unfold G4
  by_cases h1 : (s.2.2.2.2.1).length ≤ 12 ∧ l.length ≤ 29
  case neg =>
    rw [short_tells, decide_eq_false h1]
    simp only [Option.bind_some, Bool.not_false, cond_true, known_ok]
  simp only [short_tells, decide_eq_true h1, Option.bind_some, Bool.not_true, cond_false]
  by_cases h2 : Sized ([], ([], ())) t
  case neg =>
    simp only [(sized_tells _ _).nval h2, Option.bind_some, Bool.not_false, cond_true, known_ok]
  simp only [(sized_tells _ _).val h2, Option.bind_some, Bool.not_true, cond_false]
  have t1 := h2.tt
  have t2 := h2.tr
  have t3 := h2.td
  have n00 : ((0 : Int) != 0) = false := rfl
  have n20 : ((2 : Int) != 0) = true := rfl
  have n30 : ((3 : Int) != 0) = true := rfl
  rcases wanted_eq s l (by omega) (by omega) with ⟨hl, e⟩ | ⟨hl, hn, e⟩ | ⟨hsl, e⟩
  · simp only [e, Option.bind_some, n30, cond_true, known_ok]
  · simp only [e, Option.bind_some, n20, cond_true, known_ok]
  have hs := hsl.2.1
  have hsl1 := hsl.1
  have hdep := hs.depths
  have hlen := hs.len
  simp only [e, Option.bind_some, n00, cond_false]
  by_cases ht : TrOk s t
  case neg =>
    simp only [(truth_tells hs t).nval ht, Option.bind_some, Bool.not_false, cond_true, known_ok]
  simp only [(truth_tells hs t).val ht, Option.bind_some, Bool.not_true, cond_false]
  by_cases hag : Ag s l t
  case neg =>
    simp only [(ragrees_tells hs hsl.2.2 (by omega) ht).nval hag, Option.bind_some, Bool.not_false, cond_true, known_ok]
  simp only [(ragrees_tells hs hsl.2.2 (by omega) ht).val hag, Option.bind_some, Bool.not_true, cond_false]
  have ec : G23 s = some ((nC s : Nat) : Int) := by
    unfold G23 nC
    rw [wr (by omega) (by omega)]
    congr 1
    omega
  simp only [ec, Option.bind_some]
  by_cases h7 : ((nC s : Nat) : Int) > 7
  · simp only [decide_eq_true h7, cond_true, known_ok, Option.bind_some]
  simp only [decide_eq_false h7, cond_false]
  by_cases q3 : depth < 0
  · simp only [decide_eq_true q3, cond_true, known_ok, Option.bind_some]
  by_cases q4 : depth ≥ s.2.2.2.1
  · simp only [decide_eq_false q3, cond_false, decide_eq_true q4, cond_true, known_ok, Option.bind_some]
  by_cases q5 : week < 0
  · simp only [decide_eq_false q3, decide_eq_false q4, cond_false, decide_eq_true q5, cond_true, known_ok, Option.bind_some]
  by_cases q6 : week > 200
  · simp only [decide_eq_false q3, decide_eq_false q4, decide_eq_false q5, cond_false, decide_eq_true q6, cond_true, known_ok, Option.bind_some]
  have hc := ofT_ok hs ht
  have hfor := (for_iff hs hsl.2.2 hc t).2 ⟨ht, ofT_own t, hag⟩
  have hE := hfor.ex
  have hcl := cause_len hs hc
  simp only [decide_eq_false q3, decide_eq_false q4, decide_eq_false q5, decide_eq_false q6, cond_false, of_eq t (by omega) (by omega), Option.bind_some, many_c hs hc]
  generalize hcc : ofT t = c at hc hfor hE hcl
  have ex : G16 s l c = some (true, (0, ())) := by
    rcases sexplains_eq s l c (by omega) (by omega) (by omega) with ⟨h, _⟩ | ⟨_, h, _⟩ | ⟨_, _, b, h, hb⟩
    · omega
    · exact absurd ⟨hsl, hc⟩ h
    · rw [h, hb.2 hE]
  have hmem := least_has hs hc hE
  have hfit : Fits s l ((c.1).length + (c.2.1).length) (bitsOf s c) := by
    refine ⟨(allC_mem (by omega)).2 ⟨low_bits hc, ?_⟩, hE⟩
    have := cause_cnt s (bitsOf s c)
    rw [cause_bits hs hc] at this
    omega
  have le : ∃ out m, m ≤ (c.1).length + (c.2.1).length ∧ out = (exs s l (comb (nC s) (nC s) m 0)).map (causeOf s) ∧ (0 < out.length ∧ out.length ≤ 128) ∧ g25_sense_Least s l = some (out, (0, ())) := by
    rcases sleast_eq s l (by omega) with ⟨h, _⟩ | ⟨_, h, _⟩ | ⟨_, ⟨h, _⟩ | ⟨out, ⟨m, hm, hless, hne, ho⟩, el⟩⟩
    · omega
    · exact absurd hsl h
    · have := h _ hcl
      rw [this] at hmem
      cases hmem
    · refine ⟨out, m, ?_, ho, ?_, el⟩
      · apply Classical.byContradiction
        intro hlt
        rw [hless _ (by omega)] at hmem
        cases hmem
      · rw [ho, List.length_map]
        have h1 := comb_len (nC s) (nC s) m 0
        have h2 : 2 ^ nC s ≤ 2 ^ 7 := Nat.pow_le_pow_right (by decide) (by omega)
        have h3 : (exs s l (comb (nC s) (nC s) m 0)).length ≤ (comb (nC s) (nC s) m 0).length := List.length_filter_le _ _
        have h4 := List.length_pos_iff.2 hne
        omega
  obtain ⟨out, m, hm, ho, hol, el⟩ := le
  have hl0 : ((out.length : Int) == 0) = false := beq_eq_false_iff_ne.2 (by omega)
  have hl2 : decide ((out.length : Int) > 200) = false := decide_eq_false (by omega)
  have hmi : 0 ≤ (((c.1).length + (c.2.1).length : Nat) : Int) ∧ (((c.1).length + (c.2.1).length : Nat) : Int) ≤ ((nC s : Nat) : Int) := ⟨by omega, by omega⟩
  have kn : ∃ w, KnowsW (Fits s l ((c.1).length + (c.2.1).length)) (nC s) w ∧ g26_sense_Known s l (((c.1).length + (c.2.1).length : Nat) : Int) = some (w, (0, ())) := by
    rcases sknown_eq s l (((c.1).length + (c.2.1).length : Nat) : Int) (by omega) with ⟨h, _⟩ | ⟨_, h, _⟩ | ⟨_, _, ⟨h, _⟩ | ⟨w, _, hw, ek⟩⟩
    · omega
    · exact absurd ⟨hsl, hmi⟩ h
    · rw [Int.toNat_natCast] at h
      exact absurd hfit (h _)
    · rw [Int.toNat_natCast] at hw
      exact ⟨w, hw, ek⟩
  obtain ⟨w, hw, ek⟩ := kn
  have hWok : WhOk s (((c.1).length + (c.2.1).length : Nat) : Int) depth week := ⟨hmi, ⟨by omega, by omega⟩, by omega, by omega⟩
  have hdn : depth.toNat < (s.2.2.2.1).toNat := by omega
  have hval : ValA s l (((c.1).length + (c.2.1).length : Nat) : Int) depth week ((t.1).getD depth.toNat 0 + (t.2.1).getD depth.toNat 0 * week) :=
    ⟨bitsOf s c, by rw [Int.toNat_natCast]; exact hfit.1, hE, _, _, hfor.dc hdn, rfl⟩
  have wh : ∃ p, g28_sense_Where s l (((c.1).length + (c.2.1).length : Nat) : Int) depth week = some (p, (0, ())) ∧ p.1 ≤ (t.1).getD depth.toNat 0 + (t.2.1).getD depth.toNat 0 * week ∧ (t.1).getD depth.toNat 0 + (t.2.1).getD depth.toNat 0 * week ≤ p.2.1 := by
    rcases swhere_eq s l (((c.1).length + (c.2.1).length : Nat) : Int) depth week (by omega) with ⟨h, _⟩ | ⟨_, h, _⟩ | ⟨_, _, ⟨h, _⟩ | ⟨p, hp, ep⟩⟩
    · omega
    · exact absurd ⟨hsl, hWok⟩ h
    · exact absurd hval (h _)
    · have := (hp.1 rfl).2.2 _ hval
      exact ⟨p, ep, this.1, this.2⟩
  obtain ⟨p, ep, hp1, hp2⟩ := wh
  have hwl : ((w.length : Int) != ((nC s : Nat) : Int)) = false := beqn_f (by rw [hw.len])
  have l0 := true_l0 (l := l) hs ho hc hm (by omega) depth week false w t p
  have l1 := true_l1 hs hc hw hfit depth week false t p
  have b1 := ht.t_ hdn
  have b2 := ht.r_ hdn
  have hwm := hs.warm
  have hmm := mulb (m := (t.2.1).getD depth.toNat 0) (w := week) (by omega) (by omega) (by omega) (by omega)
  have hi1 : (decide (0 ≤ depth) && decide (depth < ((t.1).length : Int))) = true := by
    have := ht.lt
    rw [decide_eq_true (show 0 ≤ depth by omega), decide_eq_true (show depth < ((t.1).length : Int) by omega)]; rfl
  have hi2 : (decide (0 ≤ depth) && decide (depth < ((t.2.1).length : Int))) = true := by
    have := ht.lr
    rw [decide_eq_true (show 0 ≤ depth by omega), decide_eq_true (show depth < ((t.2.1).length : Int) by omega)]; rfl
  have w1 : IntKind.wrap .i64 ((t.2.1).getD depth.toNat 0 * week) = (t.2.1).getD depth.toNat 0 * week := wr (by omega) (by omega)
  have w2 : IntKind.wrap .i64 ((t.1).getD depth.toNat 0 + (t.2.1).getD depth.toNat 0 * week) = (t.1).getD depth.toNat 0 + (t.2.1).getD depth.toNat 0 * week := wr (by omega) (by omega)
  simp only [ex, el, ek, ep, many_c hs hc, Option.bind_some, n00, cond_false, Bool.not_true, hl0, hl2, hwl, l0, l1, natK, hi1, hi2, cond_true, w1, w2, decide_eq_true (show (t.1).getD depth.toNat 0 + (t.2.1).getD depth.toNat 0 * week ≥ p.1 from hp1), decide_eq_true hp2, known_ok]
theorem G4_true : ∀ x : Els [.dat T23, .dat (.list T72), .dat T30, .dat (.int .i64), .dat (.int .i64)], wfs [.dat T23, .dat (.list T72), .dat T30, .dat (.int .i64), .dat (.int .i64)] x → G4 x.1 x.2.1 x.2.2.1 x.2.2.2.1 x.2.2.2.2.1 = some true := fun x _ => law4 _ _ _ _ _
end Go.Proofs.YtibmgbalfhfcdaaDoor.Abs
set_option linter.unusedVariables false
set_option maxRecDepth 100000
namespace Go.Proofs.YtibmgbalfhfcdaaDoor.Abs.senseTrue
open Go.ChangeShapes Go.WideShapes Go.RowKit
theorem own : ownKnob Tryd.prog.godebug = none := by kernel_rfl
theorem laidOut : laidOutB Tryd.prog = true := by kernel_rfl
theorem gTab : Tryd.prog.globalNamed "internal/strconv.uint64pow10" = some 0 := by kernel_rfl
theorem gTabType : (Tryd.prog.globals[0]?).map (·.type) = some 171 := by kernel_rfl
theorem cellsT : Tryd.prog.cellsOf 171 = 20 := by kernel_rfl
theorem cellsE : Tryd.prog.cellsOf 162 = 1 := by kernel_rfl
theorem undT : Tryd.prog.underlying 171 = some (.array 20 162) := by kernel_rfl
theorem undE : Tryd.prog.underlying 162 = some (.int .u64) := by kernel_rfl
theorem table {W : World} (h : laidMetH Tryd.prog Rows.senseTrueRow.laid W) : Lib.TabIs Tryd.prog W "internal/strconv.uint64pow10" .u64 [1, 10, 100, 1000, 10000, 100000, 1000000, 10000000, 100000000, 1000000000, 10000000000, 100000000000, 1000000000000, 10000000000000, 100000000000000, 1000000000000000, 10000000000000000, 100000000000000000, 1000000000000000000, 10000000000000000000] :=
  Lib.tabIs_of_head (rest := []) gTab gTabType undT undE cellsE cellsT (laidMet.tail (laidMet.tail (h)))
theorem tabOk {W : World} (h : laidMetH Tryd.prog Rows.senseTrueRow.laid W) : ∀ q ∈ TABS, ∃ e fr, W.heap[q.1]? = some (.cells q.2 e fr) := by
  have ht := table h
  unfold Lib.TabIs World.var? at ht
  rw [gTab] at ht
  simp only [Option.bind_some] at ht
  intro q hq
  have hq' : q = (0, _) := List.mem_singleton.1 hq
  subst hq'
  show ∃ e fr, W.heap[0]? = _
  split at ht
  · rename_i cs e fr hc
    exact ⟨e, fr, by rw [hc]; simp only [Option.some.injEq] at ht; rw [ht]; rfl⟩
  · cases ht
noncomputable def laidWorld (os : Os) : World :=
  { World.holding Tryd.prog os ⟨#[], #[], []⟩ with heap := ((((World.holding Tryd.prog os ⟨#[], #[], []⟩).heap.modify 2 fun | .cells _ t frozen => .cells #[.int .u8 0, .int .u8 1, .int .u8 28, .int .u8 2, .int .u8 29, .int .u8 14, .int .u8 24, .int .u8 3, .int .u8 30, .int .u8 22, .int .u8 20, .int .u8 15, .int .u8 25, .int .u8 17, .int .u8 4, .int .u8 8, .int .u8 31, .int .u8 27, .int .u8 13, .int .u8 23, .int .u8 21, .int .u8 19, .int .u8 16, .int .u8 7, .int .u8 26, .int .u8 12, .int .u8 18, .int .u8 6, .int .u8 11, .int .u8 5, .int .u8 10, .int .u8 9] t frozen | o => o).modify 3 fun | .cells _ t frozen => .cells #[.int .u8 0, .int .u8 1, .int .u8 56, .int .u8 2, .int .u8 57, .int .u8 49, .int .u8 28, .int .u8 3, .int .u8 61, .int .u8 58, .int .u8 42, .int .u8 50, .int .u8 38, .int .u8 29, .int .u8 17, .int .u8 4, .int .u8 62, .int .u8 47, .int .u8 59, .int .u8 36, .int .u8 45, .int .u8 43, .int .u8 51, .int .u8 22, .int .u8 53, .int .u8 39, .int .u8 33, .int .u8 30, .int .u8 24, .int .u8 18, .int .u8 12, .int .u8 5, .int .u8 63, .int .u8 55, .int .u8 48, .int .u8 27, .int .u8 60, .int .u8 41, .int .u8 37, .int .u8 16, .int .u8 46, .int .u8 35, .int .u8 44, .int .u8 21, .int .u8 52, .int .u8 32, .int .u8 23, .int .u8 11, .int .u8 54, .int .u8 26, .int .u8 40, .int .u8 15, .int .u8 34, .int .u8 20, .int .u8 31, .int .u8 10, .int .u8 25, .int .u8 14, .int .u8 19, .int .u8 9, .int .u8 13, .int .u8 8, .int .u8 7, .int .u8 6] t frozen | o => o).modify 0 fun | .cells _ t frozen => .cells #[.int .u64 1, .int .u64 10, .int .u64 100, .int .u64 1000, .int .u64 10000, .int .u64 100000, .int .u64 1000000, .int .u64 10000000, .int .u64 100000000, .int .u64 1000000000, .int .u64 10000000000, .int .u64 100000000000, .int .u64 1000000000000, .int .u64 10000000000000, .int .u64 100000000000000, .int .u64 1000000000000000, .int .u64 10000000000000000, .int .u64 100000000000000000, .int .u64 1000000000000000000, .int .u64 10000000000000000000] t frozen | o => o) }
theorem laid_met (os : Os) : laidMet Tryd.prog Rows.senseTrueRow.laid ((laidWorld os).forCall (fun _ _ => 0) ⟨#[], #[(Value.agg #[.int .i64 0, .int .i64 0, .int .i64 0, .int .i64 0, .slice none 0 0]), (Value.slice none 0 0), (Value.agg #[.slice none 0 0, .slice none 0 0, .slice none 0 0]), (Value.int .i64 0), (Value.int .i64 0)], []⟩).memory :=
  laidMet_of_run' 8 (by kernel_rfl) (by kernel_rfl)
theorem reads (os : Os) {H : Type} (enc : TypeId × Value → H) : ∃ places, DataW.whole enc Tryd.prog ((laidWorld os).forCall (fun _ _ => 0) ⟨#[], #[(Value.agg #[.int .i64 0, .int .i64 0, .int .i64 0, .int .i64 0, .slice none 0 0]), (Value.slice none 0 0), (Value.agg #[.slice none 0 0, .slice none 0 0, .slice none 0 0]), (Value.int .i64 0), (Value.int .i64 0)], []⟩).memory Tryd.f4.params.toList Rows.senseTrueSpec.vars false #[(Value.agg #[.int .i64 0, .int .i64 0, .int .i64 0, .int .i64 0, .slice none 0 0]), (Value.slice none 0 0), (Value.agg #[.slice none 0 0, .slice none 0 0, .slice none 0 0]), (Value.int .i64 0), (Value.int .i64 0)].toList 16 = some ([.agg [.lit (.int .i64 0), .lit (.int .i64 0), .lit (.int .i64 0), .lit (.int .i64 0), .nil], .nil, .agg [.nil, .nil, .nil], .lit (.int .i64 0), .lit (.int .i64 0)], [], places) :=
  ⟨[], by kernel_rfl⟩
theorem spec_fn (H : Type) : (ds : List (DataW H)) → ds.length = Tryd.f4.params.toList.length → (Rows.senseTrueSpec.fn H ds).results = [.lit (.bool true)] ∧ (Rows.senseTrueSpec.fn H ds).args = ds ∧ (Rows.senseTrueSpec.fn H ds).vars = []
  | [], h => by rw [show Tryd.f4.params.toList.length = 5 from by kernel_rfl] at h; simp at h
  | [d0], h => by rw [show Tryd.f4.params.toList.length = 5 from by kernel_rfl] at h; simp at h
  | [d0, d1], h => by rw [show Tryd.f4.params.toList.length = 5 from by kernel_rfl] at h; simp at h
  | [d0, d1, d2], h => by rw [show Tryd.f4.params.toList.length = 5 from by kernel_rfl] at h; simp at h
  | [d0, d1, d2, d3], h => by rw [show Tryd.f4.params.toList.length = 5 from by kernel_rfl] at h; simp at h
  | [d0, d1, d2, d3, d4], _ => ⟨rfl, rfl, rfl⟩
  | d0 :: d1 :: d2 :: d3 :: d4 :: _ :: _, h => by rw [show Tryd.f4.params.toList.length = 5 from by kernel_rfl] at h; simp at h
theorem contract (H : Type) (enc : TypeId × Value → H) (W : World) (base : Nat) (args : Array Value) (ds gs : List (DataW H)) (before : List MemPlace)
    (hval : ∀ (j : Nat) t v, Tryd.f4.params[j]? = some t → args[j]? = some v → Value.okWide Tryd.prog W .any base t v)
    (hW : DataW.Whole enc Tryd.prog Tryd.f4.params.toList Rows.senseTrueSpec.vars false W args.toList ds gs before) (hL : laidMetH Tryd.prog Rows.senseTrueRow.laid W) :
    Calls Tryd.prog 4 args W fun e W' => ∃ v, e = .returned v ∧ Rows.senseTrueSpec.post enc Tryd.prog Tryd.f4 false true false false W args v W' :=
  law_contract (n := 20) (fun x r h => G4_lcall x r h) (fun x hx => G4_true x hx) (by decide) (show Tryd.f4.resultTypes = #[4] by kernel_rfl) (by kernel_rfl) (by kernel_rfl) laidOut (by
    intro t ht
    have : (Tryd.f4.params.toList.all fun t => Tryd.prog.readableRec t && decide (t < Tryd.prog.types.size)) = true := by kernel_rfl
    have := List.all_eq_true.1 this t ht
    simpa using this) rfl spec_fn hval hW (tabOk hL)
theorem lifted (os : Os) (started : os.Started) (H : Type) (enc : TypeId × Value → H) (F : Stop.Interp) :
    ReturnsInHanded {} Tryd.checked os 4 .any ((OpenSpec.ofChange Rows.senseTrueSpec).preRow enc Tryd.prog Tryd.f4 Rows.senseTrueRow.domain false Rows.senseTrueRow.laid) (((OpenSpec.ofChange Rows.senseTrueSpec).at F).post enc Tryd.prog Tryd.f4 false true false false) := by
  obtain ⟨places, hx⟩ := reads os enc
  refine returnsInHanded_of_row (C := Tryd.checked) (s := OpenSpec.ofChange Rows.senseTrueSpec) own started (by kernel_rfl) Tryd.func4
    (witness_row_at (enc := enc) (C := Tryd.checked) false (laidWorld os) #[(Value.agg #[.int .i64 0, .int .i64 0, .int .i64 0, .int .i64 0, .slice none 0 0]), (Value.slice none 0 0), (Value.agg #[.slice none 0 0, .slice none 0 0, .slice none 0 0]), (Value.int .i64 0), (Value.int .i64 0)] rfl (by kernel_rfl) (by kernel_rfl) (by kernel_rfl)
      (OpenSpec.preRow_of_cond 16 hx (by kernel_rfl) (fun k hk => by cases hk) (by kernel_rfl) (laid_met os))) ?_
  intro W base args ds gs before hval hW _ _ _ hL _ _
  exact contract H enc W base args ds gs before hval hW hL
theorem said : Rows.SenseTrueSaid :=
  OpenClaim.holds_of_cond 4 Tryd.f4 rfl rfl rfl rfl rfl rfl rfl ⟨rfl, rfl, rfl, rfl, rfl⟩ rfl rfl rfl rfl rfl (by kernel_rfl) Tryd.func4 (by kernel_rfl)
    (of_decide_eq_true (by kernel_rfl)) (by unfold Func.isWrapper; first | (rw [if_pos (by decide +kernel)]; kernel_rfl) | (rw [if_neg (by decide +kernel)]; exact ⟨rfl, rfl⟩))
    (fun os started H enc _ F => by rw [OpenClaim.pre_eq_preRow]; exact lifted os started H enc F)
theorem plain (f : FuncId) (fn : Func) (hf : Tryd.pinned.checked.prog.funcNamed "talik/taliklaw05.SenseTrue" = some f) (hfn : Tryd.pinned.checked.prog.funcs[f]? = some fn) :
    false = Tryd.pinned.checked.prog.looks [] ∧ ∀ (j : Nat) t, fn.params[j]? = some t → Tryd.pinned.checked.prog.wantsStandIn t = false := by
  obtain rfl : f = 4 := Option.some.inj ((show Tryd.prog.funcNamed "talik/taliklaw05.SenseTrue" = some 4 by kernel_rfl).symm.trans hf) |>.symm
  obtain rfl : fn = Tryd.f4 := (Option.some.inj (Tryd.func4.symm.trans hfn)).symm
  refine ⟨by kernel_rfl, fun j t ht => ?_⟩
  have h : (Tryd.f4.params.toList.all fun t => !Tryd.prog.wantsStandIn t) = true := by kernel_rfl
  have := List.all_eq_true.1 h t (by rw [← Array.getElem?_toList] at ht; exact List.mem_of_getElem? ht)
  exact (show Tryd.prog.wantsStandIn t = false by simpa using this)
theorem card : Rows.SenseTrueCardSaid :=
  Claim7.holds_tied_plain_at .later [] _ _ _ _ said (fun _ h => by cases h) (by kernel_rfl) (fun _ h => by cases h) senseTrue_row_tie rfl ⟨rfl, rfl⟩ (by kernel_rfl) rfl plain (by kernel_rfl)
end Go.Proofs.YtibmgbalfhfcdaaDoor.Abs.senseTrue
namespace Go.Proofs.YtibmgbalfhfcdaaDoor
theorem senseTrue_card : Rows.SenseTrueCardSaid := Abs.senseTrue.card
end Go.Proofs.YtibmgbalfhfcdaaDoor
