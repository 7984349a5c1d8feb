import Derived.Test.YtibmgbalfhfcdaaDoorF3
import Derived.Test.YtibmgbalfhfcdaaDoorP2
import Derived.Test.YtibmgbalfhfcdaaDoorA3
import Derived.Test.YtibmgbalfhfcdaaDoorP1
import Derived.Test.YtibmgbalfhfcdaaDoorCards
import Derived.Test.YtibmgbalfhfcdaaDoorTie
import Derived.WalkKit
import Derived.ProofKit
import Derived.OpenShut
import Derived.Deep.DeepHandedRow
import Derived.Lib.LaidTab
import Derived.Stop.LaidErr
set_option linter.unusedVariables false
set_option maxRecDepth 100000
namespace Go.Proofs.YtibmgbalfhfcdaaDoor.Abs
open Go.Shelf Go.Sort
noncomputable def G8_C : CalT := tabC [G11_E, G15_E, G12_E, G13_E, G18_E, G23_E, G29_E, G16_E, g28_sense_Where_E]
theorem G8_CV : CV Tryd.prog G8_C := tabC_valid (l := _) ⟨G11_valid, G15_valid, G12_valid, G13_valid, G18_valid, G23_valid, G29_valid, G16_valid, g28_sense_Where_valid, trivial⟩
noncomputable def G8_l0_c : Code := loopAt (bodyOf Tryd.f8) 0
noncomputable def G8_l0_S : SPat := ⟨[.any, .dat (.list T72), .any, .dat (.int .i64), .any, .dat (.int .i64), .dat (.int .i64), .fix (.bptr 0 []), .any, .fix (.bptr 1 []), .any, .any, .any, .any, .any, .own 1 T72, .fix (.bptr 3 []), .dat (.int .i64), .any, .any, .any, .any, .any, .any, .any, .any, .any, .any, .any, .any, .any, .any, .any, .any, .any, .any, .any, .any, .any, .any, .any, .any, .any, .any, .any, .any, .any, .any, .any, .any, .any, .any, .any, .any, .any, .any, .any, .any, .any, .any, .any, .any, .any, .any, .any, .any, .any, .any, .any, .any, .any, .any, .any, .any, .any, .any, .any, .any, .any, .any, .any, .any, .any, .any, .any, .any, .any, .any, .any, .any, .any, .any, .any, .any, .any, .any, .any, .any, .any, .any, .any, .any, .any, .any, .any, .any, .any, .any, .any, .any, .any, .any, .any, .any, .any, .any, .any, .any, .any, .any, .any, .any, .any, .any, .any, .any, .any, .any, .any, .any, .any, .any, .any, .any, .any, .any, .any, .any, .any, .any, .any, .any, .any, .any, .any, .any, .any, .any, .any, .any, .any, .any, .any, .any, .any, .any, .any, .any, .any, .any, .any, .any, .any, .any, .any, .any, .any, .any, .any, .any, .any, .any, .any, .any, .any, .any, .any, .any, .any, .any, .any, .any, .any, .any, .any, .any, .any, .any, .any, .any, .any, .any, .any, .any, .any, .any, .any, .any, .any, .any, .any, .any, .any, .any, .any, .any, .any, .any, .any, .any, .any, .any, .any, .any, .any, .any, .any, .any, .any, .any, .any, .any], [.dat T23, .dat T26, .dat T72, .cons (.own 0 (.int .i64)) (.cons (.dat (.list (.int .i64))) (.nil))], 2⟩
abbrev TY142 : Type := (((List E72) × (Int × (Int × (Int × ((List E72) × (Int × Unit)))))) × (E23 × (E26 × (E72 × (((List Int) × ((List Int) × Unit)) × Unit)))))
abbrev TY143 : Type := (Nat × (((List E72) × (Int × (Int × (Int × ((List E72) × (Int × Unit)))))) × (E23 × (E26 × (E72 × (((List Int) × ((List Int) × Unit)) × Unit))))))
noncomputable def G8_l0_step (s : TY142) : Option TY143 :=
  (bif (decide (s.1.2.2.2.2.2.1 < (List.length s.2.1.2.2.2.2.1 : Int))) then
  (bif (s.1.2.2.2.2.2.1 == s.1.2.1) then
    (bif (decide (List.length s.2.2.2.2.1.1 + List.length [s.1.2.2.2.2.2.1] ≤ LIM)) then
      some (0, ((s.1.1, (s.1.2.1, (s.1.2.2.1, (s.1.2.2.2.1, (s.1.2.2.2.2.1, ((IntKind.wrap .i64 (s.1.2.2.2.2.2.1 + 1)), ())))))), (s.2.1, (s.2.2.1, (s.2.2.2.1, (((s.2.2.2.2.1.1 ++ [s.1.2.2.2.2.2.1]), s.2.2.2.2.1.2), ()))))))
      else
      none)
    else
    (Option.bind (G29 s.2.2.1.1 s.1.2.2.2.2.2.1) fun r41 =>
      (bif r41 then
        (bif (decide (List.length s.2.2.2.2.1.1 + List.length [s.1.2.2.2.2.2.1] ≤ LIM)) then
          some (0, ((s.1.1, (s.1.2.1, (s.1.2.2.1, (s.1.2.2.2.1, (s.1.2.2.2.2.1, ((IntKind.wrap .i64 (s.1.2.2.2.2.2.1 + 1)), ())))))), (s.2.1, (s.2.2.1, (s.2.2.2.1, (((s.2.2.2.2.1.1 ++ [s.1.2.2.2.2.2.1]), s.2.2.2.2.1.2), ()))))))
          else
          none)
        else
        some (0, ((s.1.1, (s.1.2.1, (s.1.2.2.1, (s.1.2.2.2.1, (s.1.2.2.2.2.1, ((IntKind.wrap .i64 (s.1.2.2.2.2.2.1 + 1)), ())))))), (s.2.1, (s.2.2.1, (s.2.2.2.1, (s.2.2.2.2.1, ())))))))))
  else
  some (1, ((s.1.1, (s.1.2.1, (s.1.2.2.1, (s.1.2.2.2.1, (s.1.2.2.2.2.1, (s.1.2.2.2.2.2.1, ())))))), (s.2.1, (s.2.2.1, (s.2.2.2.1, (s.2.2.2.2.1, ())))))))
noncomputable def G8_l0_fuel (s : TY142) : Nat := Int.toNat ((List.length s.2.1.2.2.2.2.1 : Int) - s.1.2.2.2.2.2.1) + 1
noncomputable def G8_l0_run (s : TY142) : Option TY143 := iter G8_l0_step (G8_l0_fuel s) s
noncomputable def G8_l0_L : LoopT := loopT G8_l0_S [.exit 0] G8_l0_run
noncomputable def G8_k0_S0 : SPat := ⟨[.any, .dat (.list T72), .any, .dat (.int .i64), .any, .dat (.int .i64), .dat (.int .i64), .fix (.bptr 0 []), .any, .fix (.bptr 1 []), .any, .fix (.bptr 2 []), .any, .any, .any, .any, .any, .any, .any, .any, .any, .any, .any, .any, .any, .any, .any, .any, .any, .any, .any, .any, .any, .any, .any, .any, .any, .any, .any, .any, .any, .any, .any, .any, .any, .any, .any, .any, .any, .any, .any, .any, .any, .any, .any, .any, .any, .any, .any, .any, .any, .any, .any, .any, .any, .any, .any, .any, .any, .any, .any, .any, .any, .any, .any, .any, .any, .any, .any, .any, .any, .any, .any, .any, .any, .any, .any, .any, .any, .any, .any, .any, .any, .any, .any, .any, .any, .any, .any, .any, .any, .any, .any, .any, .any, .any, .any, .any, .any, .any, .any, .any, .any, .any, .any, .any, .any, .any, .any, .any, .any, .any, .any, .any, .any, .any, .any, .any, .any, .any, .any, .any, .any, .any, .any, .any, .any, .any, .any, .any, .any, .any, .any, .any, .any, .any, .any, .any, .any, .any, .any, .any, .any, .any, .any, .any, .any, .any, .any, .any, .any, .any, .any, .any, .any, .any, .any, .any, .any, .any, .any, .any, .any, .any, .any, .any, .any, .any, .any, .any, .any, .any, .any, .any, .any, .any, .any, .any, .any, .any, .any, .any, .any, .any, .any, .any, .any, .any, .any, .any, .any, .any, .any, .any, .any, .any, .any, .any, .any, .any, .any, .any, .any, .any, .any, .any, .any, .any, .any, .any, .any, .any], [.dat T23, .dat T26, .dat T72], 0⟩
noncomputable def G8_k0_S1 : SPat := ⟨[.any, .dat (.list T72), .any, .dat (.int .i64), .any, .dat (.int .i64), .dat (.int .i64), .fix (.bptr 0 []), .any, .fix (.bptr 1 []), .any, .fix (.bptr 2 []), .any, .any, .any, .any, .any, .any, .any, .any, .any, .any, .any, .any, .any, .any, .any, .any, .any, .any, .any, .any, .any, .any, .any, .any, .any, .any, .any, .any, .any, .any, .any, .any, .any, .any, .any, .any, .any, .any, .any, .any, .any, .any, .any, .any, .any, .any, .any, .any, .any, .any, .any, .any, .any, .any, .any, .any, .any, .any, .any, .any, .any, .any, .any, .any, .any, .any, .any, .any, .any, .any, .any, .dat .bool, .any, .any, .any, .any, .any, .any, .any, .any, .any, .any, .any, .any, .any, .any, .any, .any, .any, .any, .any, .any, .any, .any, .any, .any, .any, .any, .any, .any, .any, .any, .any, .any, .any, .any, .any, .any, .any, .any, .any, .any, .any, .any, .any, .any, .any, .any, .any, .any, .any, .any, .any, .any, .any, .any, .any, .any, .any, .any, .any, .any, .any, .any, .any, .any, .any, .any, .any, .any, .any, .any, .any, .any, .any, .any, .any, .any, .any, .any, .any, .any, .any, .any, .any, .any, .any, .any, .any, .any, .any, .any, .any, .any, .any, .any, .any, .any, .any, .any, .any, .any, .any, .any, .any, .any, .any, .any, .any, .any, .any, .any, .any, .any, .any, .any, .any, .any, .any, .any, .any, .any, .any, .any, .any, .any, .any, .any, .any, .any, .any, .any, .any, .any, .any, .any, .any, .any, .any, .any], [.dat T23, .dat T26, .dat T72], 0⟩
abbrev TY144 : Type := (((List E72) × (Int × (Int × (Int × Unit)))) × (E23 × (E26 × (E72 × Unit))))
abbrev TY145 : Type := (Nat × (((List E72) × (Int × (Int × (Int × (Bool × Unit))))) × (E23 × (E26 × (E72 × Unit)))))
noncomputable def G8_k0_run (s : TY144) : Option TY145 :=
  (Option.bind (G11 s.2.1 s.1.1) fun r27 =>
  (bif (!r27) then
    some (0, ((s.1.1, (s.1.2.1, (s.1.2.2.1, (s.1.2.2.2.1, (true, ()))))), (s.2.1, (s.2.2.1, (s.2.2.2.1, ())))))
    else
    (Option.bind (G12 s.2.2.1 ([], ([], ([], ())))) fun r28 =>
      (bif (!r28) then
        some (0, ((s.1.1, (s.1.2.1, (s.1.2.2.1, (s.1.2.2.2.1, (true, ()))))), (s.2.1, (s.2.2.1, (s.2.2.2.1, ())))))
        else
        (Option.bind (G13 s.2.1 s.1.1) fun r29 =>
          (bif (r29 != 0) then
            some (0, ((s.1.1, (s.1.2.1, (s.1.2.2.1, (s.1.2.2.2.1, (true, ()))))), (s.2.1, (s.2.2.1, (s.2.2.2.1, ())))))
            else
            (Option.bind (G18 s.2.1 s.2.2.1) fun r30 =>
              (bif (!r30) then
                some (0, ((s.1.1, (s.1.2.1, (s.1.2.2.1, (s.1.2.2.2.1, (true, ()))))), (s.2.1, (s.2.2.1, (s.2.2.2.1, ())))))
                else
                (Option.bind (G23 s.2.1) fun r31 =>
                  (bif (decide (r31 > 7)) then
                    some (0, ((s.1.1, (s.1.2.1, (s.1.2.2.1, (s.1.2.2.2.1, (true, ()))))), (s.2.1, (s.2.2.1, (s.2.2.2.1, ())))))
                    else
                    (bif (decide (s.1.2.1 < 0)) then
                      some (0, ((s.1.1, (s.1.2.1, (s.1.2.2.1, (s.1.2.2.2.1, (true, ()))))), (s.2.1, (s.2.2.1, (s.2.2.2.1, ())))))
                      else
                      (bif (decide (s.1.2.1 ≥ (List.length s.2.1.2.2.2.2.1 : Int))) then
                        some (0, ((s.1.1, (s.1.2.1, (s.1.2.2.1, (s.1.2.2.2.1, (true, ()))))), (s.2.1, (s.2.2.1, (s.2.2.2.1, ())))))
                        else
                        (bif (decide (s.1.2.2.1 < 0)) then
                          some (0, ((s.1.1, (s.1.2.1, (s.1.2.2.1, (s.1.2.2.2.1, (true, ()))))), (s.2.1, (s.2.2.1, (s.2.2.2.1, ())))))
                          else
                          (bif (decide (s.1.2.2.1 ≥ s.2.1.2.2.2.1)) then
                            some (0, ((s.1.1, (s.1.2.1, (s.1.2.2.1, (s.1.2.2.2.1, (true, ()))))), (s.2.1, (s.2.2.1, (s.2.2.2.1, ())))))
                            else
                            (bif (decide (s.1.2.2.2.1 < 0)) then
                              some (0, ((s.1.1, (s.1.2.1, (s.1.2.2.1, (s.1.2.2.2.1, (true, ()))))), (s.2.1, (s.2.2.1, (s.2.2.2.1, ())))))
                              else
                              some (0, ((s.1.1, (s.1.2.1, (s.1.2.2.1, (s.1.2.2.2.1, ((decide (s.1.2.2.2.1 > 200)), ()))))), (s.2.1, (s.2.2.1, (s.2.2.2.1, ()))))))))))))))))))))
noncomputable def G8_k0_L : LoopT := cutT G8_k0_S0 G8_k0_S1 [.normal] G8_k0_run
noncomputable def G8_k1_S0 : SPat := ⟨[.any, .dat (.list T72), .any, .any, .any, .dat (.int .i64), .dat (.int .i64), .fix (.bptr 0 []), .any, .any, .any, .any, .any, .any, .any, .own 0 T72, .any, .any, .dat .bool, .dat (.int .i64), .dat .bool, .dat (.int .i64), .dat .bool, .dat (.int .i64), .any, .any, .any, .any, .any, .any, .any, .any, .any, .any, .any, .any, .any, .any, .any, .any, .any, .any, .any, .any, .any, .any, .any, .any, .any, .any, .any, .any, .any, .any, .any, .any, .any, .any, .any, .any, .any, .any, .any, .any, .any, .any, .any, .any, .any, .any, .any, .any, .any, .any, .any, .any, .any, .any, .any, .any, .any, .any, .any, .any, .any, .any, .any, .any, .any, .any, .any, .any, .any, .any, .any, .any, .any, .any, .any, .any, .any, .any, .any, .any, .any, .any, .any, .any, .any, .any, .any, .any, .any, .any, .any, .any, .any, .any, .any, .any, .any, .any, .any, .any, .any, .any, .any, .any, .any, .any, .any, .any, .any, .any, .any, .any, .any, .any, .any, .any, .any, .any, .any, .any, .any, .any, .any, .any, .any, .any, .any, .any, .any, .any, .any, .any, .any, .any, .any, .any, .any, .any, .any, .any, .any, .any, .any, .any, .any, .any, .any, .any, .any, .any, .any, .any, .any, .any, .any, .any, .any, .any, .any, .any, .any, .any, .any, .any, .any, .any, .any, .any, .any, .any, .any, .any, .any, .any, .any, .any, .any, .any, .any, .any, .any, .any, .any, .any, .any, .any, .any, .any, .any, .any, .any, .any, .any, .any, .any, .any, .any, .any], [.dat T23, .dat T26, .dat T72, .cons (.own 1 (.int .i64)) (.cons (.dat (.list (.int .i64))) (.nil))], 2⟩
noncomputable def G8_k1_S1 : SPat := ⟨[.any, .dat (.list T72), .any, .any, .any, .dat (.int .i64), .dat (.int .i64), .fix (.bptr 0 []), .any, .any, .any, .any, .any, .any, .any, .own 0 T72, .any, .any, .any, .any, .any, .any, .any, .any, .any, .any, .any, .any, .any, .any, .any, .any, .any, .any, .any, .any, .any, .any, .any, .any, .any, .any, .any, .any, .any, .any, .any, .any, .any, .any, .any, .any, .any, .any, .any, .any, .any, .any, .any, .any, .any, .any, .any, .any, .any, .any, .any, .any, .any, .any, .any, .any, .any, .any, .any, .any, .any, .any, .any, .any, .any, .any, .any, .any, .any, .any, .any, .any, .any, .any, .any, .any, .any, .any, .any, .any, .any, .any, .any, .any, .any, .any, .any, .any, .any, .any, .any, .any, .any, .any, .any, .any, .any, .any, .any, .any, .any, .any, .any, .any, .any, .any, .any, .any, .any, .any, .any, .any, .any, .any, .any, .any, .any, .any, .any, .any, .any, .any, .any, .any, .any, .any, .any, .any, .any, .any, .any, .any, .any, .any, .any, .any, .any, .any, .any, .any, .any, .any, .any, .any, .any, .any, .any, .any, .dat .bool, .any, .any, .any, .any, .any, .any, .any, .any, .any, .any, .any, .any, .any, .any, .any, .any, .any, .any, .any, .any, .any, .any, .any, .any, .any, .any, .any, .any, .any, .any, .any, .any, .any, .any, .any, .any, .any, .any, .any, .any, .any, .any, .any, .any, .any, .any, .any, .any, .any, .any, .any, .any, .any, .any, .any, .any, .any], [.dat T23, .dat T26, .dat T72, .cons (.own 1 (.int .i64)) (.cons (.dat (.list (.int .i64))) (.nil))], 2⟩
abbrev TY146 : Type := (((List E72) × (Int × (Int × ((List E72) × (Bool × (Int × (Bool × (Int × (Bool × (Int × Unit)))))))))) × (E23 × (E26 × (E72 × (((List Int) × ((List Int) × Unit)) × Unit)))))
abbrev TY147 : Type := (Nat × (((List E72) × (Int × (Int × ((List E72) × (Bool × Unit))))) × (E23 × (E26 × (E72 × (((List Int) × ((List Int) × Unit)) × Unit))))))
noncomputable def G8_k1_run (s : TY146) : Option TY147 :=
  (bif (s.1.2.2.2.2.2.1 != 0) then
  some (0, ((s.1.1, (s.1.2.1, (s.1.2.2.1, (s.1.2.2.2.1, (true, ()))))), (s.2.1, (s.2.2.1, (s.2.2.2.1, (s.2.2.2.2.1, ()))))))
  else
  (bif (s.1.2.2.2.2.2.2.2.1 != 0) then
    some (0, ((s.1.1, (s.1.2.1, (s.1.2.2.1, (s.1.2.2.2.1, (true, ()))))), (s.2.1, (s.2.2.1, (s.2.2.2.1, (s.2.2.2.2.1, ()))))))
    else
    (bif (s.1.2.2.2.2.2.2.2.2.2.1 != 0) then
      some (0, ((s.1.1, (s.1.2.1, (s.1.2.2.1, (s.1.2.2.2.1, (true, ()))))), (s.2.1, (s.2.2.1, (s.2.2.2.1, (s.2.2.2.2.1, ()))))))
      else
      (bif s.1.2.2.2.2.1 then
        (bif (!s.1.2.2.2.2.2.2.1) then
          some (0, ((s.1.1, (s.1.2.1, (s.1.2.2.1, (s.1.2.2.2.1, (true, ()))))), (s.2.1, (s.2.2.1, (s.2.2.2.1, (s.2.2.2.2.1, ()))))))
          else
          (bif s.1.2.2.2.2.2.2.2.2.1 then
            some (0, ((s.1.1, (s.1.2.1, (s.1.2.2.1, (s.1.2.2.2.1, ((!s.1.2.2.2.2.1), ()))))), (s.2.1, (s.2.2.1, (s.2.2.2.1, (s.2.2.2.2.1, ()))))))
            else
            some (0, ((s.1.1, (s.1.2.1, (s.1.2.2.1, (s.1.2.2.2.1, (false, ()))))), (s.2.1, (s.2.2.1, (s.2.2.2.1, (s.2.2.2.2.1, ()))))))))
        else
        (bif s.1.2.2.2.2.2.2.2.2.1 then
          some (0, ((s.1.1, (s.1.2.1, (s.1.2.2.1, (s.1.2.2.2.1, ((!s.1.2.2.2.2.1), ()))))), (s.2.1, (s.2.2.1, (s.2.2.2.1, (s.2.2.2.2.1, ()))))))
          else
          some (0, ((s.1.1, (s.1.2.1, (s.1.2.2.1, (s.1.2.2.2.1, (false, ()))))), (s.2.1, (s.2.2.1, (s.2.2.2.1, (s.2.2.2.2.1, ())))))))))))
noncomputable def G8_k1_L : LoopT := cutT G8_k1_S0 G8_k1_S1 [.normal] G8_k1_run
noncomputable def G8_k2_S0 : SPat := ⟨[.any, .any, .any, .any, .any, .any, .any, .any, .any, .any, .any, .any, .any, .any, .any, .any, .any, .any, .any, .any, .any, .any, .any, .any, .fix (.bptr 4 []), .dat (.int .i64), .fix (.bptr 5 []), .dat (.int .i64), .any, .any, .any, .any, .any, .any, .any, .any, .any, .any, .any, .any, .any, .any, .any, .any, .any, .any, .any, .any, .any, .any, .any, .any, .any, .any, .any, .any, .any, .any, .any, .any, .any, .any, .any, .any, .any, .any, .any, .any, .any, .any, .any, .any, .any, .any, .any, .any, .any, .any, .any, .any, .any, .any, .any, .any, .any, .any, .any, .any, .any, .any, .any, .any, .any, .any, .any, .any, .any, .any, .any, .any, .any, .any, .any, .any, .any, .any, .any, .any, .any, .any, .any, .any, .any, .any, .any, .any, .any, .any, .any, .any, .any, .any, .any, .any, .any, .any, .any, .any, .any, .any, .any, .any, .any, .any, .any, .any, .any, .any, .any, .any, .any, .any, .any, .any, .any, .any, .any, .any, .any, .any, .any, .any, .any, .any, .any, .any, .any, .any, .any, .any, .any, .any, .any, .any, .any, .any, .any, .any, .any, .any, .any, .any, .any, .any, .any, .any, .any, .any, .any, .any, .any, .any, .any, .any, .any, .any, .any, .any, .any, .any, .any, .any, .any, .any, .any, .any, .any, .any, .any, .any, .any, .any, .any, .any, .any, .any, .any, .any, .any, .any, .any, .any, .any, .any, .any, .any, .any, .any, .any, .any, .any, .any], [.dat T23, .dat T26, .dat T72, .cons (.own 0 (.int .i64)) (.cons (.dat (.list (.int .i64))) (.nil)), .dat T56, .dat T56], 1⟩
noncomputable def G8_k2_S1 : SPat := ⟨[.any, .any, .any, .any, .any, .any, .any, .any, .any, .any, .any, .any, .any, .any, .any, .any, .any, .any, .any, .any, .any, .any, .any, .any, .fix (.bptr 4 []), .any, .fix (.bptr 5 []), .dat (.int .i64), .any, .any, .any, .any, .any, .any, .any, .any, .any, .any, .any, .any, .any, .any, .any, .any, .any, .any, .any, .any, .any, .any, .any, .any, .any, .any, .any, .any, .any, .any, .any, .any, .any, .any, .any, .any, .any, .any, .any, .any, .any, .any, .any, .any, .any, .any, .any, .any, .any, .any, .any, .any, .any, .any, .any, .any, .any, .any, .any, .any, .any, .any, .any, .any, .any, .any, .any, .any, .any, .any, .any, .any, .any, .any, .any, .any, .any, .any, .any, .any, .any, .any, .any, .any, .any, .any, .any, .any, .any, .any, .any, .any, .any, .any, .any, .any, .any, .any, .any, .any, .any, .any, .any, .any, .any, .any, .any, .any, .any, .any, .any, .any, .any, .any, .any, .any, .any, .any, .any, .any, .any, .any, .any, .any, .any, .any, .any, .any, .any, .any, .any, .any, .any, .any, .any, .any, .any, .any, .any, .any, .any, .any, .any, .any, .any, .any, .any, .any, .any, .any, .any, .any, .any, .any, .any, .any, .any, .any, .any, .any, .any, .any, .any, .any, .any, .any, .any, .any, .any, .any, .any, .any, .any, .any, .dat .bool, .any, .any, .any, .any, .any, .any, .any, .any, .any, .any, .any, .any, .any, .any, .any, .any, .any, .any, .any], [.dat T23, .dat T26, .dat T72, .cons (.own 0 (.int .i64)) (.cons (.dat (.list (.int .i64))) (.nil)), .dat T56, .dat T56], 1⟩
abbrev TY148 : Type := ((Int × (Int × Unit)) × (E23 × (E26 × (E72 × (((List Int) × ((List Int) × Unit)) × (E56 × (E56 × Unit)))))))
abbrev TY149 : Type := (Nat × ((Int × (Bool × Unit)) × (E23 × (E26 × (E72 × (((List Int) × ((List Int) × Unit)) × (E56 × (E56 × Unit))))))))
noncomputable def G8_k2_run (s : TY148) : Option TY149 :=
  (bif (s.1.1 != 0) then
  (bif (s.1.1 != 5) then
    some (0, ((s.1.2.1, (true, ())), (s.2.1, (s.2.2.1, (s.2.2.2.1, (s.2.2.2.2.1, (s.2.2.2.2.2.1, (s.2.2.2.2.2.2.1, ()))))))))
    else
    (bif (s.1.2.1 != 0) then
      (bif (s.1.2.1 != 5) then
        some (0, ((s.1.2.1, (true, ())), (s.2.1, (s.2.2.1, (s.2.2.2.1, (s.2.2.2.2.1, (s.2.2.2.2.2.1, (s.2.2.2.2.2.2.1, ()))))))))
        else
        (bif (s.1.2.1 == 0) then
          some (0, ((s.1.2.1, ((s.1.1 != 0), ())), (s.2.1, (s.2.2.1, (s.2.2.2.1, (s.2.2.2.2.1, (s.2.2.2.2.2.1, (s.2.2.2.2.2.2.1, ()))))))))
          else
          some (0, ((s.1.2.1, (false, ())), (s.2.1, (s.2.2.1, (s.2.2.2.1, (s.2.2.2.2.1, (s.2.2.2.2.2.1, (s.2.2.2.2.2.2.1, ()))))))))))
      else
      (bif (s.1.2.1 == 0) then
        some (0, ((s.1.2.1, ((s.1.1 != 0), ())), (s.2.1, (s.2.2.1, (s.2.2.2.1, (s.2.2.2.2.1, (s.2.2.2.2.2.1, (s.2.2.2.2.2.2.1, ()))))))))
        else
        some (0, ((s.1.2.1, (false, ())), (s.2.1, (s.2.2.1, (s.2.2.2.1, (s.2.2.2.2.1, (s.2.2.2.2.2.1, (s.2.2.2.2.2.2.1, ())))))))))))
  else
  (bif (s.1.2.1 != 0) then
    (bif (s.1.2.1 != 5) then
      some (0, ((s.1.2.1, (true, ())), (s.2.1, (s.2.2.1, (s.2.2.2.1, (s.2.2.2.2.1, (s.2.2.2.2.2.1, (s.2.2.2.2.2.2.1, ()))))))))
      else
      (bif (s.1.2.1 == 0) then
        some (0, ((s.1.2.1, ((s.1.1 != 0), ())), (s.2.1, (s.2.2.1, (s.2.2.2.1, (s.2.2.2.2.1, (s.2.2.2.2.2.1, (s.2.2.2.2.2.2.1, ()))))))))
        else
        some (0, ((s.1.2.1, (false, ())), (s.2.1, (s.2.2.1, (s.2.2.2.1, (s.2.2.2.2.1, (s.2.2.2.2.2.1, (s.2.2.2.2.2.2.1, ()))))))))))
    else
    (bif (s.1.2.1 == 0) then
      some (0, ((s.1.2.1, ((s.1.1 != 0), ())), (s.2.1, (s.2.2.1, (s.2.2.2.1, (s.2.2.2.2.1, (s.2.2.2.2.2.1, (s.2.2.2.2.2.2.1, ()))))))))
      else
      some (0, ((s.1.2.1, (false, ())), (s.2.1, (s.2.2.1, (s.2.2.2.1, (s.2.2.2.2.1, (s.2.2.2.2.2.1, (s.2.2.2.2.2.2.1, ())))))))))))
noncomputable def G8_k2_L : LoopT := cutT G8_k2_S0 G8_k2_S1 [.normal] G8_k2_run
noncomputable def G8_k3_S0 : SPat := ⟨[.any, .any, .any, .any, .any, .any, .any, .any, .any, .any, .any, .any, .any, .any, .any, .any, .any, .any, .any, .any, .any, .any, .any, .any, .fix (.bptr 4 []), .any, .fix (.bptr 5 []), .dat (.int .i64), .any, .any, .any, .any, .any, .any, .any, .any, .any, .any, .any, .any, .any, .any, .any, .any, .any, .any, .any, .any, .any, .any, .any, .any, .any, .any, .any, .any, .any, .any, .any, .any, .any, .any, .any, .any, .any, .any, .any, .any, .any, .any, .any, .any, .any, .any, .any, .any, .any, .any, .any, .any, .any, .any, .any, .any, .any, .any, .any, .any, .any, .any, .any, .any, .any, .any, .any, .any, .any, .any, .any, .any, .any, .any, .any, .any, .any, .any, .any, .any, .any, .any, .any, .any, .any, .any, .any, .any, .any, .any, .any, .any, .any, .any, .any, .any, .any, .any, .any, .any, .any, .any, .any, .any, .any, .any, .any, .any, .any, .any, .any, .any, .any, .any, .any, .any, .any, .any, .any, .any, .any, .any, .any, .any, .any, .any, .any, .any, .any, .any, .any, .any, .any, .any, .any, .any, .any, .any, .any, .any, .any, .any, .any, .any, .any, .any, .any, .any, .any, .any, .any, .any, .any, .any, .any, .any, .any, .any, .any, .any, .any, .any, .any, .any, .any, .any, .any, .any, .any, .any, .any, .any, .any, .any, .any, .any, .any, .any, .any, .any, .any, .any, .any, .any, .any, .any, .any, .any, .any, .any, .any, .any, .any, .any], [.dat T23, .dat T26, .dat T72, .cons (.own 0 (.int .i64)) (.cons (.dat (.list (.int .i64))) (.nil)), .dat T56, .dat T56], 1⟩
noncomputable def G8_k3_S1 : SPat := ⟨[.any, .any, .any, .any, .any, .any, .any, .any, .any, .any, .any, .any, .any, .any, .dat .bool, .any, .any, .any, .any, .any, .any, .any, .any, .any, .any, .any, .any, .any, .any, .any, .any, .any, .any, .any, .any, .any, .any, .any, .any, .any, .any, .any, .any, .any, .any, .any, .any, .any, .any, .any, .any, .any, .any, .any, .any, .any, .any, .any, .any, .any, .any, .any, .any, .any, .any, .any, .any, .any, .any, .any, .any, .any, .any, .any, .any, .any, .any, .any, .any, .any, .any, .any, .any, .any, .any, .any, .any, .any, .any, .any, .any, .any, .any, .any, .any, .any, .any, .any, .any, .any, .any, .any, .any, .any, .any, .any, .any, .any, .any, .any, .any, .any, .any, .any, .any, .any, .any, .any, .any, .any, .any, .any, .any, .any, .any, .any, .any, .any, .any, .any, .any, .any, .any, .any, .any, .any, .any, .any, .any, .any, .any, .any, .any, .any, .any, .any, .any, .any, .any, .any, .any, .any, .any, .any, .any, .any, .any, .any, .any, .any, .any, .any, .any, .any, .any, .any, .any, .any, .any, .any, .any, .any, .any, .any, .any, .any, .any, .any, .any, .any, .any, .any, .any, .any, .any, .any, .any, .any, .any, .any, .any, .any, .any, .any, .any, .any, .any, .any, .any, .any, .any, .any, .any, .any, .any, .any, .any, .any, .any, .any, .any, .any, .any, .any, .any, .any, .any, .any, .any, .any, .any, .any], [.dat T23, .dat T26, .dat T72, .cons (.own 0 (.int .i64)) (.cons (.dat (.list (.int .i64))) (.nil)), .dat T56, .dat T56], 1⟩
abbrev TY150 : Type := ((Int × Unit) × (E23 × (E26 × (E72 × (((List Int) × ((List Int) × Unit)) × (E56 × (E56 × Unit)))))))
abbrev TY151 : Type := (Nat × ((Bool × Unit) × (E23 × (E26 × (E72 × (((List Int) × ((List Int) × Unit)) × (E56 × (E56 × Unit))))))))
noncomputable def G8_k3_run (s : TY150) : Option TY151 :=
  (bif (s.1.1 != 0) then
  (Option.bind G15 fun r62 =>
    some (0, ((r62, ()), (s.2.1, (s.2.2.1, (s.2.2.2.1, (s.2.2.2.2.1, (s.2.2.2.2.2.1, (s.2.2.2.2.2.2.1, ())))))))))
  else
  (bif (decide (s.2.2.2.2.2.2.1.1 ≥ s.2.2.2.2.2.1.1)) then
    (bif (decide (s.2.2.2.2.2.2.1.2.1 ≤ s.2.2.2.2.2.1.2.1)) then
      (Option.bind G15 fun r63 =>
        some (0, ((r63, ()), (s.2.1, (s.2.2.1, (s.2.2.2.1, (s.2.2.2.2.1, (s.2.2.2.2.2.1, (s.2.2.2.2.2.2.1, ())))))))))
      else
      some (0, ((false, ()), (s.2.1, (s.2.2.1, (s.2.2.2.1, (s.2.2.2.2.1, (s.2.2.2.2.2.1, (s.2.2.2.2.2.2.1, ())))))))))
    else
    some (0, ((false, ()), (s.2.1, (s.2.2.1, (s.2.2.2.1, (s.2.2.2.2.1, (s.2.2.2.2.2.1, (s.2.2.2.2.2.2.1, ()))))))))))
noncomputable def G8_k3_L : LoopT := cutT G8_k3_S0 G8_k3_S1 [.normal] G8_k3_run
noncomputable def G8 (a0 : E23) (a1 : (List E72)) (a2 : E26) (a3 : Int) (a4 : E72) (a5 : Int) (a6 : Int) : Option Bool :=
  (Option.bind (G8_k0_run ((a1, (a3, (a5, (a6, ())))), (a0, (a2, (a4, ()))))) fun q32 =>
  (bif q32.2.1.2.2.2.2.1 then
    (Option.bind G15 fun r34 =>
      some r34)
    else
    (bif (decide (List.length ([] : List E72) + List.length q32.2.1.1 ≤ LIM)) then
      (bif (decide (List.length (([] : List E72) ++ q32.2.1.1) + List.length [q32.2.2.2.2.1] ≤ LIM)) then
        (Option.bind (G13 q32.2.2.1 ((([] : List E72) ++ q32.2.1.1) ++ [q32.2.2.2.2.1])) fun r38 =>
          (bif (r38 != 0) then
            (Option.bind G15 fun r40 =>
              some r40)
            else
            (Option.bind (G8_l0_run ((q32.2.1.1, (q32.2.1.2.1, (q32.2.1.2.2.1, (q32.2.1.2.2.2.1, (((([] : List E72) ++ q32.2.1.1) ++ [q32.2.2.2.2.1]), (0, ())))))), (q32.2.2.1, (q32.2.2.2.1, (q32.2.2.2.2.1, (([], (q32.2.2.2.1.2.1, ())), ())))))) fun q43 =>
              (Option.bind (G16 q43.2.2.1 q43.2.1.1 q43.2.2.2.1) fun r45 =>
                (Option.bind (G16 q43.2.2.1 q43.2.1.1 q43.2.2.2.2.2.1) fun r47 =>
                  (Option.bind (G16 q43.2.2.1 q43.2.1.2.2.2.2.1 q43.2.2.2.1) fun r49 =>
                    (Option.bind (G8_k1_run ((q43.2.1.1, (q43.2.1.2.2.1, (q43.2.1.2.2.2.1, (q43.2.1.2.2.2.2.1, (r45.1, (r45.2.1, (r47.1, (r47.2.1, (r49.1, (r49.2.1, ())))))))))), (q43.2.2.1, (q43.2.2.2.1, (q43.2.2.2.2.1, (q43.2.2.2.2.2.1, ())))))) fun q51 =>
                      (bif q51.2.1.2.2.2.2.1 then
                        some false
                        else
                        (Option.bind (g28_sense_Where q51.2.2.1 q51.2.1.1 1 q51.2.1.2.1 q51.2.1.2.2.1) fun r53 =>
                          (Option.bind (g28_sense_Where q51.2.2.1 q51.2.1.2.2.2.1 1 q51.2.1.2.1 q51.2.1.2.2.1) fun r55 =>
                            (Option.bind (G8_k2_run ((r53.2.1, (r55.2.1, ())), (q51.2.2.1, (q51.2.2.2.1, (q51.2.2.2.2.1, (q51.2.2.2.2.2.1, (r53.1, (r55.1, ())))))))) fun q57 =>
                              (bif q57.2.1.2.1 then
                                some false
                                else
                                (Option.bind (G8_k3_run ((q57.2.1.1, ()), (q57.2.2.1, (q57.2.2.2.1, (q57.2.2.2.2.1, (q57.2.2.2.2.2.1, (q57.2.2.2.2.2.2.1, (q57.2.2.2.2.2.2.2.1, ())))))))) fun q64 =>
                                  some q64.2.1.1)))))))))))))
        else
        none)
      else
      none)))
theorem G8_l0_V : LValid 0 Tryd.prog (.loop G8_l0_c) G8_l0_L false := by
  exact loopT_valid (fuel := G8_l0_fuel) mixed G8_CV (lvNil _) (by kernel_rfl) (by decide) rfl (by intro s; kernel_rfl) (fun s r h => h)
noncomputable def G8_k0_J : Jn := (.whole [])
theorem G8_k0_JV : JV 0 Tryd.prog false (G8_k0_J) (seqL (seqL (seqR (bodyOf Tryd.f8)))) := jv_nil
theorem G8_k0_V : LValid 0 Tryd.prog (seqL (seqL (seqR (bodyOf Tryd.f8)))) (G8_k0_L) false :=
  cutT_valid (ev := jnT Tryd.prog G8_C (G8_k0_J) (seqL (seqL (seqR (bodyOf Tryd.f8))))) (jnT_valid mixed G8_CV (G8_k0_JV)) (by kernel_rfl) (by kernel_rfl) (by decide) (by decide) (by intro s; kernel_rfl)
noncomputable def G8_k1_J : Jn := (.whole [])
theorem G8_k1_JV : JV 0 Tryd.prog false (G8_k1_J) (seqL (seqL (seqR (seqR (seqR (seqR (seqR (seqR (seqR (seqR (seqR (bodyOf Tryd.f8)))))))))))) := jv_nil
theorem G8_k1_V : LValid 0 Tryd.prog (seqL (seqL (seqR (seqR (seqR (seqR (seqR (seqR (seqR (seqR (seqR (bodyOf Tryd.f8)))))))))))) (G8_k1_L) false :=
  cutT_valid (ev := jnT Tryd.prog G8_C (G8_k1_J) (seqL (seqL (seqR (seqR (seqR (seqR (seqR (seqR (seqR (seqR (seqR (bodyOf Tryd.f8))))))))))))) (jnT_valid mixed G8_CV (G8_k1_JV)) (by kernel_rfl) (by kernel_rfl) (by decide) (by decide) (by intro s; kernel_rfl)
noncomputable def G8_k2_J : Jn := (.whole [])
theorem G8_k2_JV : JV 0 Tryd.prog false (G8_k2_J) (seqL (seqL (seqR (seqR (seqR (seqR (seqR (seqR (seqR (seqR (seqR (seqR (seqR (seqR (bodyOf Tryd.f8))))))))))))))) := jv_nil
theorem G8_k2_V : LValid 0 Tryd.prog (seqL (seqL (seqR (seqR (seqR (seqR (seqR (seqR (seqR (seqR (seqR (seqR (seqR (seqR (bodyOf Tryd.f8))))))))))))))) (G8_k2_L) false :=
  cutT_valid (ev := jnT Tryd.prog G8_C (G8_k2_J) (seqL (seqL (seqR (seqR (seqR (seqR (seqR (seqR (seqR (seqR (seqR (seqR (seqR (seqR (bodyOf Tryd.f8)))))))))))))))) (jnT_valid mixed G8_CV (G8_k2_JV)) (by kernel_rfl) (by kernel_rfl) (by decide) (by decide) (by intro s; kernel_rfl)
noncomputable def G8_k3_J : Jn := (.whole [])
theorem G8_k3_JV : JV 0 Tryd.prog false (G8_k3_J) (seqL (seqR (seqR (seqR (seqR (seqR (seqR (seqR (seqR (seqR (seqR (seqR (seqR (seqR (bodyOf Tryd.f8))))))))))))))) := jv_nil
theorem G8_k3_V : LValid 0 Tryd.prog (seqL (seqR (seqR (seqR (seqR (seqR (seqR (seqR (seqR (seqR (seqR (seqR (seqR (seqR (bodyOf Tryd.f8))))))))))))))) (G8_k3_L) false :=
  cutT_valid (ev := jnT Tryd.prog G8_C (G8_k3_J) (seqL (seqR (seqR (seqR (seqR (seqR (seqR (seqR (seqR (seqR (seqR (seqR (seqR (seqR (bodyOf Tryd.f8)))))))))))))))) (jnT_valid mixed G8_CV (G8_k3_JV)) (by kernel_rfl) (by kernel_rfl) (by decide) (by decide) (by intro s; kernel_rfl)
noncomputable def G8_J : Jn := (.seq (.whole []) (.seq (.seq (.cut G8_k0_L) (.whole [])) (.seq (.whole []) (.seq (.whole []) (.seq (.whole []) (.seq (.whole [G8_l0_L]) (.seq (.whole []) (.seq (.whole []) (.seq (.whole []) (.seq (.seq (.cut G8_k1_L) (.whole [])) (.seq (.whole []) (.seq (.whole []) (.seq (.seq (.cut G8_k2_L) (.whole [])) (.seq (.cut G8_k3_L) (.whole [])))))))))))))))
theorem G8_JV : JV 0 Tryd.prog false (G8_J) (bodyOf Tryd.f8) := (jv_seq (by kernel_rfl) jv_nil (jv_seq (by kernel_rfl) (jv_seq (by kernel_rfl) (jv_cut G8_k0_V) jv_nil) (jv_seq (by kernel_rfl) jv_nil (jv_seq (by kernel_rfl) jv_nil (jv_seq (by kernel_rfl) jv_nil (jv_seq (by kernel_rfl) (jv_whole (show LV 0 Tryd.prog false (loopsOf (seqL (seqR (seqR (seqR (seqR (seqR (bodyOf Tryd.f8)))))))) [G8_l0_L] from by rw [show loopsOf (seqL (seqR (seqR (seqR (seqR (seqR (bodyOf Tryd.f8))))))) = [.loop G8_l0_c] from by kernel_rfl]; exact ⟨G8_l0_V, trivial⟩)) (jv_seq (by kernel_rfl) jv_nil (jv_seq (by kernel_rfl) jv_nil (jv_seq (by kernel_rfl) jv_nil (jv_seq (by kernel_rfl) (jv_seq (by kernel_rfl) (jv_cut G8_k1_V) jv_nil) (jv_seq (by kernel_rfl) jv_nil (jv_seq (by kernel_rfl) jv_nil (jv_seq (by kernel_rfl) (jv_seq (by kernel_rfl) (jv_cut G8_k2_V) jv_nil) (jv_seq (by kernel_rfl) (jv_cut G8_k3_V) jv_nil))))))))))))))
theorem G8_ent : Ent Tryd.prog 8 := ⟨by decide, enters_of Tryd.func8 (by kernel_rfl) rfl⟩
theorem G8_hev : ∀ x, fnE (jnT Tryd.prog G8_C (G8_J) (bodyOf Tryd.f8)) Tryd.prog Tryd.f8 (encs [.dat T23, .dat (.list T72), .dat T26, .dat (.int .i64), .dat T72, .dat (.int .i64), .dat (.int .i64)] x) ⟨[], [], 0⟩ (frzF (.dat .bool)) = G8 x.1 x.2.1 x.2.2.1 x.2.2.2.1 x.2.2.2.2.1 x.2.2.2.2.2.1 x.2.2.2.2.2.2.1 := by
  intro x; kernel_rfl
theorem G8_lcall : ∀ x r, (fun x : Els [.dat T23, .dat (.list T72), .dat T26, .dat (.int .i64), .dat T72, .dat (.int .i64), .dat (.int .i64)] => G8 x.1 x.2.1 x.2.2.1 x.2.2.2.1 x.2.2.2.2.1 x.2.2.2.2.2.1 x.2.2.2.2.2.2.1) x = some r → LCall 0 Tryd.prog 8 (encs [.dat T23, .dat (.list T72), .dat T26, .dat (.int .i64), .dat T72, .dat (.int .i64), .dat (.int .i64)] x) ⟨[], [], 0⟩ (.d .bool r) ⟨[], [], 0⟩ := frz_lcallE (ev := (jnT Tryd.prog G8_C (G8_J) (bodyOf Tryd.f8))) (R := .dat .bool) Tryd.func8 rfl G8_ent (jnT_valid mixed G8_CV (G8_JV)) (by kernel_rfl) (by kernel_rfl) G8_hev
end Go.Proofs.YtibmgbalfhfcdaaDoor.Abs
set_option linter.unusedVariables false
set_option linter.unusedSimpArgs false
set_option maxRecDepth 100000
namespace Go.Proofs.YtibmgbalfhfcdaaDoor.Abs
open Classical
theorem dc_bits {s : E23} {l : List E72} (hs : StrOk s) {b b' : Nat} (h : ∀ j, b.testBit j = true → b'.testBit j = true) {d : Nat} {m T : Int} (hd : DC s l b d m T) : DC s l b' d m T := by
  have h1 : moD s b d ≤ moD s b' d := by
    have := hs.warm
    unfold moD
    have := h ((s.2.2.2.2.1).length + d)
    cases hb : b.testBit ((s.2.2.2.2.1).length + d) with
    | true => rw [this hb]; exact Int.le_refl _
    | false => cases b'.testBit ((s.2.2.2.2.1).length + d) <;> simp <;> omega
  refine ⟨⟨by have := hd.1; omega, by have := hd.1; omega⟩, hd.2.1, fun i hi he => ?_⟩
  obtain ⟨q, q1, q2, q3⟩ := hd.2.2 i hi he
  have h2 : moS s b i ≤ moS s b' i := by
    have := hs.drift
    unfold moS
    have := h i
    cases hb : b.testBit i with
    | true => rw [this hb]; exact Int.le_refl _
    | false => cases b'.testBit i <;> simp <;> omega
  exact ⟨q, by omega, by omega, q3⟩
theorem dc_more {s : E23} {l : List E72} {r : E72} {b d : Nat} {m T : Int} (hd : DC s (l ++ [r]) b d m T) : DC s l b d m T := by
  refine ⟨hd.1, hd.2.1, fun i hi he => ?_⟩
  obtain ⟨q, q1, q2, q3⟩ := hd.2.2 i hi he
  refine ⟨q, q1, q2, ?_⟩
  unfold agr at q3 ⊢
  rw [List.all_append, Bool.and_eq_true] at q3
  exact q3.1
theorem ex_more {s : E23} {l : List E72} {r : E72} {b : Nat} (h : Ex s (l ++ [r]) b) : Ex s l b := fun d hd => by
  obtain ⟨m, T, h1⟩ := h d hd
  exact ⟨m, T, dc_more h1⟩
attribute [local irreducible] G15 G13 G16 g28_sense_Where G18 G12
def withS (s : E23) (c : E26) (i : Nat) : E26 := (ups (s.2.2.2.2.1).length (fun j => decide (j = i ∨ (j : Int) ∈ c.1)), (c.2.1, ()))
theorem more_loop {s : E23} {l l2 : List E72} (hs : StrOk s) {c : E26} (h3 : (c.1).length < 2 ^ 62) (i : Nat) (x1 x2 : Int) (r : E72) :
    G8_l0_run ((l, ((i : Int), (x1, (x2, (l2, (0, ())))))), (s, (c, (r, (([], (c.2.1, ())), ()))))) = some (0, ((l, ((i : Int), (x1, (x2, (l2, (((s.2.2.2.2.1).length : Int), ())))))), (s, (c, (r, (withS s c i, ())))))) := by
  have hlen := hs.len
  exact iter_run (step := G8_l0_step) (n := (s.2.2.2.2.1).length) (k := 0) (fuel := G8_l0_fuel ((l, ((i : Int), (x1, (x2, (l2, (0, ())))))), (s, (c, (r, (([], (c.2.1, ())), ()))))))
    (fun k => ((l, ((i : Int), (x1, (x2, (l2, ((k : Int), ())))))), (s, (c, (r, ((ups k (fun j => decide (j = i ∨ (j : Int) ∈ c.1)), (c.2.1, ())), ())))))) ((l, ((i : Int), (x1, (x2, (l2, (((s.2.2.2.2.1).length : Int), ())))))), (s, (c, (r, (withS s c i, ()))))) (fun k hk => by
      have hu := ups_len k (fun j => decide (j = i ∨ (j : Int) ∈ c.1))
      unfold G8_l0_step
      simp only [lt_int hk, cond_true, wr1 (i := k) (by omega), lim_ok (n := (ups k (fun j => decide (j = i ∨ (j : Int) ∈ c.1))).length) (m := List.length [(k : Int)]) (by omega) (by simp)]
      rw [ups_succ]
      by_cases hki : k = i
      · subst hki
        rw [beq_self_eq_true, cond_true, decide_eq_true (Or.inl rfl), cond_true]
      · rw [beq_eq_false_iff_ne.2 (show (k : Int) ≠ (i : Int) by omega), cond_false]
        by_cases hm : (k : Int) ∈ c.1
        · rw [(has_tells _ _ h3).val hm, decide_eq_true (Or.inr hm)]
          rfl
        · rw [(has_tells _ _ h3).nval hm, decide_eq_false (fun h => h.elim hki hm)]
          simp only [Option.bind_some, cond_false, List.append_nil]) (by
      unfold G8_l0_step
      simp only [nlt_int, cond_false]; rfl) (by unfold G8_l0_fuel; simp)
theorem withS_ok {s : E23} {c : E26} (hc : CauseOk s c) (i : Nat) : CauseOk s (withS s c i) := ⟨ups_rising (Int.le_refl _), hc.2⟩
theorem withS_bits {s : E23} {c : E26} (hc : CauseOk s c) (i : Nat) : ∀ j, (bitsOf s c).testBit j = true → (bitsOf s (withS s c i)).testBit j = true := by
  intro j hj
  rw [bitsOf_bit hc] at hj
  rw [bitsOf_bit (withS_ok hc i)]
  rcases Bool.or_eq_true_iff.1 hj with h | h
  · have := of_decide_eq_true h
    have hb := rising_mem hc.1 this
    rw [decide_eq_true (show (j : Int) ∈ (withS s c i).1 from ups_mem.2 ⟨j, by omega, decide_eq_true (Or.inr this), rfl⟩)]
    rfl
  · have h2 := of_decide_eq_true h
    rw [decide_eq_true (show (s.2.2.2.2.1).length ≤ j ∧ ((j - (s.2.2.2.2.1).length : Nat) : Int) ∈ (withS s c i).2.1 from h2), Bool.or_true]
attribute [local irreducible] G8_l0_run
theorem law8 (s : E23) (l : List E72) (c : E26) (sensor : Int) (rd : E72) (depth week : Int) : G8 s l c sensor rd depth week = some true := by
  unfold G8 G8_k0_run
  by_cases h1 : (s.2.2.2.2.1).length ≤ 12 ∧ l.length ≤ 29
  case neg =>
    rw [short_tells, decide_eq_false h1]
    simp only [Option.bind_some, Bool.not_false, cond_true, known_ok]
  simp only [short_tells, decide_eq_true h1, Option.bind_some, Bool.not_true, cond_false]
  by_cases h2 : Sized c ([], ([], ([], ())))
  case neg =>
    simp only [(sized_tells _ _).nval h2, Option.bind_some, Bool.not_false, cond_true, known_ok]
  simp only [(sized_tells _ _).val h2, Option.bind_some, Bool.not_true, cond_false]
  have t4 := h2.s
  have t5 := h2.d
  have n00 : ((0 : Int) != 0) = false := rfl
  have n20 : ((2 : Int) != 0) = true := rfl
  have n30 : ((3 : Int) != 0) = true := rfl
  have n50 : ((5 : Int) != 0) = true := rfl
  have e55 : ((5 : Int) == 5) = true := rfl
  have n55 : ((5 : Int) != 5) = false := rfl
  have e00 : ((0 : Int) == 0) = true := rfl
  have e50 : ((5 : Int) == 0) = false := rfl
  rcases wanted_eq s l (by omega) (by omega) with ⟨hl, e⟩ | ⟨hl, hn, e⟩ | ⟨hsl, e⟩
  · simp only [e, Option.bind_some, n30, cond_true, known_ok]
  · simp only [e, Option.bind_some, n20, cond_true, known_ok]
  have hs := hsl.2.1
  have hsl1 := hsl.1
  simp only [e, Option.bind_some, n00, cond_false]
  by_cases hc : CauseOk s c
  case neg =>
    simp only [(rcause_tells hs c (by omega) (by omega)).nval hc, Option.bind_some, Bool.not_false, cond_true, known_ok]
  simp only [(rcause_tells hs c (by omega) (by omega)).val hc, Option.bind_some, Bool.not_true, cond_false]
  have hdep := hs.depths
  have hlen := hs.len
  have ec : G23 s = some ((nC s : Nat) : Int) := by
    unfold G23 nC
    rw [wr (by omega) (by omega)]
    congr 1
    omega
  simp only [ec, Option.bind_some]
  by_cases h7 : ((nC s : Nat) : Int) > 7
  · simp only [decide_eq_true h7, cond_true, known_ok, Option.bind_some]
  simp only [decide_eq_false h7, cond_false]
  by_cases q1 : sensor < 0
  · simp only [decide_eq_true q1, cond_true, known_ok, Option.bind_some]
  by_cases q2 : sensor ≥ ((s.2.2.2.2.1).length : Int)
  · simp only [decide_eq_false q1, cond_false, decide_eq_true q2, cond_true, known_ok, Option.bind_some]
  by_cases q3 : depth < 0
  · simp only [decide_eq_false q1, decide_eq_false q2, cond_false, decide_eq_true q3, cond_true, known_ok, Option.bind_some]
  by_cases q4 : depth ≥ s.2.2.2.1
  · simp only [decide_eq_false q1, decide_eq_false q2, decide_eq_false q3, cond_false, decide_eq_true q4, cond_true, known_ok, Option.bind_some]
  by_cases q5 : week < 0
  · simp only [decide_eq_false q1, decide_eq_false q2, decide_eq_false q3, decide_eq_false q4, cond_false, decide_eq_true q5, cond_true, known_ok, Option.bind_some]
  by_cases q6 : week > 200
  · simp only [decide_eq_false q1, decide_eq_false q2, decide_eq_false q3, decide_eq_false q4, decide_eq_false q5, cond_false, decide_eq_true q6, cond_true, known_ok, Option.bind_some]
  simp only [decide_eq_false q1, decide_eq_false q2, decide_eq_false q3, decide_eq_false q4, decide_eq_false q5, decide_eq_false q6, Option.bind_some, cond_false, List.nil_append, lim_ok (n := List.length ([] : List E72)) (m := l.length) (by simp) (by omega), lim_ok (n := l.length) (m := List.length [rd]) (by omega) (by simp), cond_true]
  have hml : (l ++ [rd]).length = l.length + 1 := by simp
  rcases wanted_eq s (l ++ [rd]) (by omega) (by omega) with ⟨hl, e'⟩ | ⟨hl, hn, e'⟩ | ⟨hsl', e'⟩
  · simp only [e', Option.bind_some, n30, cond_true, known_ok]
  · simp only [e', Option.bind_some, n20, cond_true, known_ok]
  have hsl1' := hsl'.1
  simp only [e', Option.bind_some, n00, cond_false]
  obtain ⟨i, rfl⟩ : ∃ i : Nat, sensor = (i : Int) := ⟨sensor.toNat, by omega⟩
  rw [more_loop hs (by omega) i]
  simp only [Option.bind_some]
  have hx := withS_ok hc i
  have hxl := cause_len hs hx
  have hcl := cause_len hs hc
  have nc := nC_le hs
  have exq : ∀ (l' : List E72) (c' : E26), SlOk s l' → CauseOk s c' → ∃ b, G16 s l' c' = some (b, (0, ())) ∧ (b = true ↔ Ex s l' (bitsOf s c')) := by
    intro l' c' hl' hc'
    have := cause_len hs hc'
    have hl1 := hl'.1
    rcases sexplains_eq s l' c' (by omega) (by omega) (by omega) with ⟨h, _⟩ | ⟨_, h, _⟩ | ⟨_, _, h⟩
    · omega
    · exact absurd ⟨hl', hc'⟩ h
    · exact h
  obtain ⟨a, ea, ha⟩ := exq l c hsl hc
  obtain ⟨b, eb, hb⟩ := exq l (withS s c i) hsl hx
  obtain ⟨d, ed, hd⟩ := exq (l ++ [rd]) c hsl' hc
  have hab : a = true → b = true := fun h => hb.2 fun k hk => by
    obtain ⟨m, T, hT⟩ := ha.1 h k hk
    exact ⟨m, T, dc_bits hs (withS_bits hc i) hT⟩
  have hda : d = true → a = true := fun h => ha.2 (ex_more (hd.1 h))
  have k1 : G8_k1_run ((l, (depth, (week, (l ++ [rd], (a, (0, (b, (0, (d, (0, ())))))))))), (s, (c, (rd, (withS s c i, ()))))) = some (0, ((l, (depth, (week, (l ++ [rd], (false, ()))))), (s, (c, (rd, (withS s c i, ())))))) := by
    unfold G8_k1_run
    simp only [n00, cond_false]
    cases a with
    | true => rw [hab rfl]; cases d <;> rfl
    | false =>
      cases d with
      | true => exact absurd (hda rfl) (by decide)
      | false => cases b <;> rfl
  simp only [ea, eb, ed, Option.bind_some, k1, cond_false]
  have hWok : WhOk s 1 depth week := ⟨⟨by omega, by unfold nC; omega⟩, ⟨by omega, by omega⟩, by omega, by omega⟩
  have whq : ∀ l', SlOk s l' → ((∀ x, ¬ ValA s l' 1 depth week x) ∧ g28_sense_Where s l' 1 depth week = some ((0, (0, ())), (5, ()))) ∨ ∃ q, Lim (ValA s l' 1 depth week) q true ∧ g28_sense_Where s l' 1 depth week = some (q, (0, ())) := by
    intro l' hl'
    have hl1 := hl'.1
    rcases swhere_eq s l' 1 depth week (by omega) with ⟨h, _⟩ | ⟨_, h, _⟩ | ⟨_, _, h⟩
    · omega
    · exact absurd ⟨hl', hWok⟩ h
    · exact h
  have hmono : ∀ x, ValA s (l ++ [rd]) 1 depth week x → ValA s l 1 depth week x := fun x ⟨b, hb, hE, m, T, hT, hx⟩ => ⟨b, hb, ex_more hE, m, T, dc_more hT, hx⟩
  rcases whq l hsl with ⟨w1, w2⟩ | ⟨p, w1, w2⟩
  · rcases whq (l ++ [rd]) hsl' with ⟨w3, w4⟩ | ⟨q, w3, w4⟩
    · simp only [w2, w4, Option.bind_some, G8_k2_run, G8_k3_run, n50, n55, e50, cond_true, cond_false, known_ok]
    · exact absurd (hmono _ (w3.1 rfl).1) (w1 _)
  · rcases whq (l ++ [rd]) hsl' with ⟨w3, w4⟩ | ⟨q, w3, w4⟩
    · simp only [w2, w4, Option.bind_some, G8_k2_run, G8_k3_run, n50, n55, n00, e50, cond_true, cond_false, known_ok]
    · have z1 := (w1.1 rfl).2.2 _ (hmono _ (w3.1 rfl).1)
      have z2 := (w1.1 rfl).2.2 _ (hmono _ (w3.1 rfl).2.1)
      simp only [w2, w4, Option.bind_some, G8_k2_run, G8_k3_run, n50, n55, n00, e00, cond_true, cond_false, decide_eq_true (show q.1 ≥ p.1 from z1.1), decide_eq_true (show q.2.1 ≤ p.2.1 from z2.2), known_ok]
theorem G8_true : ∀ x : Els [.dat T23, .dat (.list T72), .dat T26, .dat (.int .i64), .dat T72, .dat (.int .i64), .dat (.int .i64)], wfs [.dat T23, .dat (.list T72), .dat T26, .dat (.int .i64), .dat T72, .dat (.int .i64), .dat (.int .i64)] x → G8 x.1 x.2.1 x.2.2.1 x.2.2.2.1 x.2.2.2.2.1 x.2.2.2.2.2.1 x.2.2.2.2.2.2.1 = some true := fun x _ => law8 _ _ _ _ _ _ _
end Go.Proofs.YtibmgbalfhfcdaaDoor.Abs
set_option linter.unusedVariables false
set_option maxRecDepth 100000
namespace Go.Proofs.YtibmgbalfhfcdaaDoor.Abs.senseMore
open Go.ChangeShapes Go.WideShapes Go.RowKit
theorem own : ownKnob Tryd.prog.godebug = none := by kernel_rfl
theorem laidOut : laidOutB Tryd.prog = true := by kernel_rfl
theorem gTab : Tryd.prog.globalNamed "internal/strconv.uint64pow10" = some 0 := by kernel_rfl
theorem gTabType : (Tryd.prog.globals[0]?).map (·.type) = some 171 := by kernel_rfl
theorem cellsT : Tryd.prog.cellsOf 171 = 20 := by kernel_rfl
theorem cellsE : Tryd.prog.cellsOf 162 = 1 := by kernel_rfl
theorem undT : Tryd.prog.underlying 171 = some (.array 20 162) := by kernel_rfl
theorem undE : Tryd.prog.underlying 162 = some (.int .u64) := by kernel_rfl
theorem table {W : World} (h : laidMetH Tryd.prog Rows.senseMoreRow.laid W) : Lib.TabIs Tryd.prog W "internal/strconv.uint64pow10" .u64 [1, 10, 100, 1000, 10000, 100000, 1000000, 10000000, 100000000, 1000000000, 10000000000, 100000000000, 1000000000000, 10000000000000, 100000000000000, 1000000000000000, 10000000000000000, 100000000000000000, 1000000000000000000, 10000000000000000000] :=
  Lib.tabIs_of_head (rest := []) gTab gTabType undT undE cellsE cellsT (laidMet.tail (laidMet.tail (h)))
theorem tabOk {W : World} (h : laidMetH Tryd.prog Rows.senseMoreRow.laid W) : ∀ q ∈ TABS, ∃ e fr, W.heap[q.1]? = some (.cells q.2 e fr) := by
  have ht := table h
  unfold Lib.TabIs World.var? at ht
  rw [gTab] at ht
  simp only [Option.bind_some] at ht
  intro q hq
  have hq' : q = (0, _) := List.mem_singleton.1 hq
  subst hq'
  show ∃ e fr, W.heap[0]? = _
  split at ht
  · rename_i cs e fr hc
    exact ⟨e, fr, by rw [hc]; simp only [Option.some.injEq] at ht; rw [ht]; rfl⟩
  · cases ht
noncomputable def laidWorld (os : Os) : World :=
  { World.holding Tryd.prog os ⟨#[], #[], []⟩ with heap := ((((World.holding Tryd.prog os ⟨#[], #[], []⟩).heap.modify 2 fun | .cells _ t frozen => .cells #[.int .u8 0, .int .u8 1, .int .u8 28, .int .u8 2, .int .u8 29, .int .u8 14, .int .u8 24, .int .u8 3, .int .u8 30, .int .u8 22, .int .u8 20, .int .u8 15, .int .u8 25, .int .u8 17, .int .u8 4, .int .u8 8, .int .u8 31, .int .u8 27, .int .u8 13, .int .u8 23, .int .u8 21, .int .u8 19, .int .u8 16, .int .u8 7, .int .u8 26, .int .u8 12, .int .u8 18, .int .u8 6, .int .u8 11, .int .u8 5, .int .u8 10, .int .u8 9] t frozen | o => o).modify 3 fun | .cells _ t frozen => .cells #[.int .u8 0, .int .u8 1, .int .u8 56, .int .u8 2, .int .u8 57, .int .u8 49, .int .u8 28, .int .u8 3, .int .u8 61, .int .u8 58, .int .u8 42, .int .u8 50, .int .u8 38, .int .u8 29, .int .u8 17, .int .u8 4, .int .u8 62, .int .u8 47, .int .u8 59, .int .u8 36, .int .u8 45, .int .u8 43, .int .u8 51, .int .u8 22, .int .u8 53, .int .u8 39, .int .u8 33, .int .u8 30, .int .u8 24, .int .u8 18, .int .u8 12, .int .u8 5, .int .u8 63, .int .u8 55, .int .u8 48, .int .u8 27, .int .u8 60, .int .u8 41, .int .u8 37, .int .u8 16, .int .u8 46, .int .u8 35, .int .u8 44, .int .u8 21, .int .u8 52, .int .u8 32, .int .u8 23, .int .u8 11, .int .u8 54, .int .u8 26, .int .u8 40, .int .u8 15, .int .u8 34, .int .u8 20, .int .u8 31, .int .u8 10, .int .u8 25, .int .u8 14, .int .u8 19, .int .u8 9, .int .u8 13, .int .u8 8, .int .u8 7, .int .u8 6] t frozen | o => o).modify 0 fun | .cells _ t frozen => .cells #[.int .u64 1, .int .u64 10, .int .u64 100, .int .u64 1000, .int .u64 10000, .int .u64 100000, .int .u64 1000000, .int .u64 10000000, .int .u64 100000000, .int .u64 1000000000, .int .u64 10000000000, .int .u64 100000000000, .int .u64 1000000000000, .int .u64 10000000000000, .int .u64 100000000000000, .int .u64 1000000000000000, .int .u64 10000000000000000, .int .u64 100000000000000000, .int .u64 1000000000000000000, .int .u64 10000000000000000000] t frozen | o => o) }
theorem laid_met (os : Os) : laidMet Tryd.prog Rows.senseMoreRow.laid ((laidWorld os).forCall (fun _ _ => 0) ⟨#[], #[(Value.agg #[.int .i64 0, .int .i64 0, .int .i64 0, .int .i64 0, .slice none 0 0]), (Value.slice none 0 0), (Value.agg #[.slice none 0 0, .slice none 0 0]), (Value.int .i64 0), (Value.agg #[.int .i64 0, .int .i64 0, .int .i64 0]), (Value.int .i64 0), (Value.int .i64 0)], []⟩).memory :=
  laidMet_of_run' 8 (by kernel_rfl) (by kernel_rfl)
theorem reads (os : Os) {H : Type} (enc : TypeId × Value → H) : ∃ places, DataW.whole enc Tryd.prog ((laidWorld os).forCall (fun _ _ => 0) ⟨#[], #[(Value.agg #[.int .i64 0, .int .i64 0, .int .i64 0, .int .i64 0, .slice none 0 0]), (Value.slice none 0 0), (Value.agg #[.slice none 0 0, .slice none 0 0]), (Value.int .i64 0), (Value.agg #[.int .i64 0, .int .i64 0, .int .i64 0]), (Value.int .i64 0), (Value.int .i64 0)], []⟩).memory Tryd.f8.params.toList Rows.senseMoreSpec.vars false #[(Value.agg #[.int .i64 0, .int .i64 0, .int .i64 0, .int .i64 0, .slice none 0 0]), (Value.slice none 0 0), (Value.agg #[.slice none 0 0, .slice none 0 0]), (Value.int .i64 0), (Value.agg #[.int .i64 0, .int .i64 0, .int .i64 0]), (Value.int .i64 0), (Value.int .i64 0)].toList 16 = some ([.agg [.lit (.int .i64 0), .lit (.int .i64 0), .lit (.int .i64 0), .lit (.int .i64 0), .nil], .nil, .agg [.nil, .nil], .lit (.int .i64 0), .agg [.lit (.int .i64 0), .lit (.int .i64 0), .lit (.int .i64 0)], .lit (.int .i64 0), .lit (.int .i64 0)], [], places) :=
  ⟨[], by kernel_rfl⟩
theorem spec_fn (H : Type) : (ds : List (DataW H)) → ds.length = Tryd.f8.params.toList.length → (Rows.senseMoreSpec.fn H ds).results = [.lit (.bool true)] ∧ (Rows.senseMoreSpec.fn H ds).args = ds ∧ (Rows.senseMoreSpec.fn H ds).vars = []
  | [], h => by rw [show Tryd.f8.params.toList.length = 7 from by kernel_rfl] at h; simp at h
  | [d0], h => by rw [show Tryd.f8.params.toList.length = 7 from by kernel_rfl] at h; simp at h
  | [d0, d1], h => by rw [show Tryd.f8.params.toList.length = 7 from by kernel_rfl] at h; simp at h
  | [d0, d1, d2], h => by rw [show Tryd.f8.params.toList.length = 7 from by kernel_rfl] at h; simp at h
  | [d0, d1, d2, d3], h => by rw [show Tryd.f8.params.toList.length = 7 from by kernel_rfl] at h; simp at h
  | [d0, d1, d2, d3, d4], h => by rw [show Tryd.f8.params.toList.length = 7 from by kernel_rfl] at h; simp at h
  | [d0, d1, d2, d3, d4, d5], h => by rw [show Tryd.f8.params.toList.length = 7 from by kernel_rfl] at h; simp at h
  | [d0, d1, d2, d3, d4, d5, d6], _ => ⟨rfl, rfl, rfl⟩
  | d0 :: d1 :: d2 :: d3 :: d4 :: d5 :: d6 :: _ :: _, h => by rw [show Tryd.f8.params.toList.length = 7 from by kernel_rfl] at h; simp at h
theorem contract (H : Type) (enc : TypeId × Value → H) (W : World) (base : Nat) (args : Array Value) (ds gs : List (DataW H)) (before : List MemPlace)
    (hval : ∀ (j : Nat) t v, Tryd.f8.params[j]? = some t → args[j]? = some v → Value.okWide Tryd.prog W .any base t v)
    (hW : DataW.Whole enc Tryd.prog Tryd.f8.params.toList Rows.senseMoreSpec.vars false W args.toList ds gs before) (hL : laidMetH Tryd.prog Rows.senseMoreRow.laid W) :
    Calls Tryd.prog 8 args W fun e W' => ∃ v, e = .returned v ∧ Rows.senseMoreSpec.post enc Tryd.prog Tryd.f8 false true false false W args v W' :=
  law_contract (n := 20) (fun x r h => G8_lcall x r h) (fun x hx => G8_true x hx) (by decide) (show Tryd.f8.resultTypes = #[4] by kernel_rfl) (by kernel_rfl) (by kernel_rfl) laidOut (by
    intro t ht
    have : (Tryd.f8.params.toList.all fun t => Tryd.prog.readableRec t && decide (t < Tryd.prog.types.size)) = true := by kernel_rfl
    have := List.all_eq_true.1 this t ht
    simpa using this) rfl spec_fn hval hW (tabOk hL)
theorem lifted (os : Os) (started : os.Started) (H : Type) (enc : TypeId × Value → H) (F : Stop.Interp) :
    ReturnsInHanded {} Tryd.checked os 8 .any ((OpenSpec.ofChange Rows.senseMoreSpec).preRow enc Tryd.prog Tryd.f8 Rows.senseMoreRow.domain false Rows.senseMoreRow.laid) (((OpenSpec.ofChange Rows.senseMoreSpec).at F).post enc Tryd.prog Tryd.f8 false true false false) := by
  obtain ⟨places, hx⟩ := reads os enc
  refine returnsInHanded_of_row (C := Tryd.checked) (s := OpenSpec.ofChange Rows.senseMoreSpec) own started (by kernel_rfl) Tryd.func8
    (witness_row_at (enc := enc) (C := Tryd.checked) false (laidWorld os) #[(Value.agg #[.int .i64 0, .int .i64 0, .int .i64 0, .int .i64 0, .slice none 0 0]), (Value.slice none 0 0), (Value.agg #[.slice none 0 0, .slice none 0 0]), (Value.int .i64 0), (Value.agg #[.int .i64 0, .int .i64 0, .int .i64 0]), (Value.int .i64 0), (Value.int .i64 0)] rfl (by kernel_rfl) (by kernel_rfl) (by kernel_rfl)
      (OpenSpec.preRow_of_cond 16 hx (by kernel_rfl) (fun k hk => by cases hk) (by kernel_rfl) (laid_met os))) ?_
  intro W base args ds gs before hval hW _ _ _ hL _ _
  exact contract H enc W base args ds gs before hval hW hL
theorem said : Rows.SenseMoreSaid :=
  OpenClaim.holds_of_cond 8 Tryd.f8 rfl rfl rfl rfl rfl rfl rfl ⟨rfl, rfl, rfl, rfl, rfl⟩ rfl rfl rfl rfl rfl (by kernel_rfl) Tryd.func8 (by kernel_rfl)
    (of_decide_eq_true (by kernel_rfl)) (by unfold Func.isWrapper; first | (rw [if_pos (by decide +kernel)]; kernel_rfl) | (rw [if_neg (by decide +kernel)]; exact ⟨rfl, rfl⟩))
    (fun os started H enc _ F => by rw [OpenClaim.pre_eq_preRow]; exact lifted os started H enc F)
theorem plain (f : FuncId) (fn : Func) (hf : Tryd.pinned.checked.prog.funcNamed "talik/taliklaw05.SenseMore" = some f) (hfn : Tryd.pinned.checked.prog.funcs[f]? = some fn) :
    false = Tryd.pinned.checked.prog.looks [] ∧ ∀ (j : Nat) t, fn.params[j]? = some t → Tryd.pinned.checked.prog.wantsStandIn t = false := by
  obtain rfl : f = 8 := Option.some.inj ((show Tryd.prog.funcNamed "talik/taliklaw05.SenseMore" = some 8 by kernel_rfl).symm.trans hf) |>.symm
  obtain rfl : fn = Tryd.f8 := (Option.some.inj (Tryd.func8.symm.trans hfn)).symm
  refine ⟨by kernel_rfl, fun j t ht => ?_⟩
  have h : (Tryd.f8.params.toList.all fun t => !Tryd.prog.wantsStandIn t) = true := by kernel_rfl
  have := List.all_eq_true.1 h t (by rw [← Array.getElem?_toList] at ht; exact List.mem_of_getElem? ht)
  exact (show Tryd.prog.wantsStandIn t = false by simpa using this)
theorem card : Rows.SenseMoreCardSaid :=
  Claim7.holds_tied_plain_at .later [] _ _ _ _ said (fun _ h => by cases h) (by kernel_rfl) (fun _ h => by cases h) senseMore_row_tie rfl ⟨rfl, rfl⟩ (by kernel_rfl) rfl plain (by kernel_rfl)
end Go.Proofs.YtibmgbalfhfcdaaDoor.Abs.senseMore
namespace Go.Proofs.YtibmgbalfhfcdaaDoor
theorem senseMore_card : Rows.SenseMoreCardSaid := Abs.senseMore.card
end Go.Proofs.YtibmgbalfhfcdaaDoor
