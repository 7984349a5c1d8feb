import Derived.Test.YtibmgbalfhfcdaaDoorF3
import Derived.Test.YtibmgbalfhfcdaaDoorP2
import Derived.Test.YtibmgbalfhfcdaaDoorA3
import Derived.Test.YtibmgbalfhfcdaaDoorP1
import Derived.Test.YtibmgbalfhfcdaaDoorCards
import Derived.Test.YtibmgbalfhfcdaaDoorTie
import Derived.WalkKit
import Derived.ProofKit
import Derived.OpenShut
import Derived.Deep.DeepHandedRow
import Derived.Lib.LaidTab
import Derived.Stop.LaidErr
set_option linter.unusedVariables false
set_option maxRecDepth 100000
namespace Go.Proofs.YtibmgbalfhfcdaaDoor.Abs
open Go.Shelf Go.Sort
noncomputable def G7_C : CalT := tabC [G11_E, G15_E, G13_E, G23_E, G30_E, G14_E, g26_sense_Known_E, g28_sense_Where_E, G34_E, G36_E, G35_E, G37_E]
theorem G7_CV : CV Tryd.prog G7_C := tabC_valid (l := _) ⟨G11_valid, G15_valid, G13_valid, G23_valid, G30_valid, G14_valid, g26_sense_Known_valid, g28_sense_Where_valid, G34_valid, G36_valid, G35_valid, G37_valid, trivial⟩
noncomputable def G7_k0_S0 : SPat := ⟨[.any, .dat (.list T72), .dat (.int .i64), .dat (.int .i64), .dat (.int .i64), .fix (.bptr 0 []), .any, .any, .any, .any, .any, .any, .any, .any, .any, .any, .any, .any, .any, .any, .any, .any, .any, .any, .any, .any, .any, .any, .any, .any, .any, .any, .any, .any, .any, .any, .any, .any, .any, .any, .any, .any, .any, .any, .any, .any, .any, .any, .any, .any, .any, .any, .any, .any, .any, .any, .any, .any, .any, .any, .any, .any, .any, .any, .any, .any, .any, .any, .any, .any, .any, .any, .any, .any, .any, .any, .any, .any, .any, .any, .any, .any, .any, .any, .any, .any, .any, .any, .any, .any, .any, .any, .any, .any, .any, .any, .any, .any, .any, .any, .any, .any, .any, .any, .any, .any, .any, .any, .any, .any, .any, .any, .any, .any, .any, .any, .any, .any, .any, .any, .any, .any, .any, .any, .any, .any, .any, .any, .any, .any, .any, .any, .any, .any, .any, .any, .any, .any, .any, .any, .any, .any, .any, .any, .any, .any, .any, .any, .any, .any, .any, .any, .any, .any, .any, .any, .any, .any, .any, .any, .any, .any, .any, .any, .any, .any, .any, .any, .any, .any, .any, .any, .any, .any, .any, .any, .any, .any, .any], [.dat T23], 0⟩
noncomputable def G7_k0_S1 : SPat := ⟨[.any, .dat (.list T72), .dat (.int .i64), .dat (.int .i64), .dat (.int .i64), .fix (.bptr 0 []), .any, .any, .any, .any, .any, .any, .any, .any, .any, .any, .any, .any, .any, .any, .any, .any, .any, .any, .any, .any, .any, .any, .any, .any, .any, .any, .any, .any, .any, .any, .dat .bool, .any, .any, .any, .any, .any, .any, .any, .any, .any, .any, .any, .any, .any, .any, .any, .any, .any, .any, .any, .any, .any, .any, .any, .any, .any, .any, .any, .any, .any, .any, .any, .any, .any, .any, .any, .any, .any, .any, .any, .any, .any, .any, .any, .any, .any, .any, .any, .any, .any, .any, .any, .any, .any, .any, .any, .any, .any, .any, .any, .any, .any, .any, .any, .any, .any, .any, .any, .any, .any, .any, .any, .any, .any, .any, .any, .any, .any, .any, .any, .any, .any, .any, .any, .any, .any, .any, .any, .any, .any, .any, .any, .any, .any, .any, .any, .any, .any, .any, .any, .any, .any, .any, .any, .any, .any, .any, .any, .any, .any, .any, .any, .any, .any, .any, .any, .any, .any, .any, .any, .any, .any, .any, .any, .any, .any, .any, .any, .any, .any, .any, .any, .any, .any, .any, .any, .any, .any, .any, .any, .any, .any, .any], [.dat T23], 0⟩
abbrev TY135 : Type := (Nat × (((List E72) × (Int × (Int × (Int × (Bool × Unit))))) × (E23 × Unit)))
noncomputable def G7_k0_run (s : (((List E72) × (Int × (Int × (Int × Unit)))) × (E23 × Unit))) : Option TY135 :=
  (Option.bind (G11 s.2.1 s.1.1) fun r18 =>
  (bif (!r18) then
    some (0, ((s.1.1, (s.1.2.1, (s.1.2.2.1, (s.1.2.2.2.1, (true, ()))))), (s.2.1, ())))
    else
    (Option.bind (G13 s.2.1 s.1.1) fun r19 =>
      (bif (r19 == 0) then
        (Option.bind (G23 s.2.1) fun r20 =>
          (Option.bind (G30 r20) fun r21 =>
            (Option.bind (G14 s.2.1 s.1.1 (IntKind.wrap .i64 ((4 : Int) * r21))) fun r22 =>
              some (0, ((s.1.1, (s.1.2.1, (s.1.2.2.1, (s.1.2.2.2.1, ((!r22), ()))))), (s.2.1, ()))))))
        else
        some (0, ((s.1.1, (s.1.2.1, (s.1.2.2.1, (s.1.2.2.2.1, (false, ()))))), (s.2.1, ())))))))
noncomputable def G7_k0_L : LoopT := cutT G7_k0_S0 G7_k0_S1 [.normal] G7_k0_run
noncomputable def G7_k1_S0 : SPat := ⟨[.any, .dat (.list T72), .dat (.int .i64), .dat (.int .i64), .dat (.int .i64), .fix (.bptr 0 []), .any, .any, .any, .any, .any, .dat (.list (.int .i64)), .dat (.int .i64), .fix (.bptr 1 []), .dat (.int .i64), .dat (.int .i64), .any, .any, .any, .any, .any, .any, .any, .any, .any, .any, .any, .any, .any, .any, .any, .any, .any, .any, .any, .any, .any, .any, .any, .any, .any, .any, .any, .any, .any, .any, .any, .any, .any, .any, .any, .any, .any, .any, .any, .any, .any, .any, .any, .any, .any, .any, .any, .any, .any, .any, .any, .any, .any, .any, .any, .any, .any, .any, .any, .any, .any, .any, .any, .any, .any, .any, .any, .any, .any, .any, .any, .any, .any, .any, .any, .any, .any, .any, .any, .any, .any, .any, .any, .any, .any, .any, .any, .any, .any, .any, .any, .any, .any, .any, .any, .any, .any, .any, .any, .any, .any, .any, .any, .any, .any, .any, .any, .any, .any, .any, .any, .any, .any, .any, .any, .any, .any, .any, .any, .any, .any, .any, .any, .any, .any, .any, .any, .any, .any, .any, .any, .any, .any, .any, .any, .any, .any, .any, .any, .any, .any, .any, .any, .any, .any, .any, .any, .any, .any, .any, .any, .any, .any, .any, .any, .any, .any, .any, .any, .any, .any, .any, .any], [.dat T23, .dat T56], 0⟩
noncomputable def G7_k1_S1 : SPat := ⟨[.any, .dat (.list T72), .dat (.int .i64), .dat (.int .i64), .dat (.int .i64), .fix (.bptr 0 []), .any, .any, .any, .any, .any, .dat (.list (.int .i64)), .dat (.int .i64), .fix (.bptr 1 []), .dat (.int .i64), .dat (.int .i64), .any, .any, .any, .any, .any, .any, .any, .any, .any, .any, .any, .any, .any, .any, .any, .any, .any, .any, .any, .any, .any, .any, .any, .any, .any, .any, .any, .any, .any, .any, .any, .any, .any, .any, .any, .any, .any, .any, .any, .any, .any, .any, .any, .any, .any, .any, .any, .any, .any, .any, .any, .any, .dat .bool, .any, .any, .any, .any, .any, .any, .any, .any, .any, .any, .any, .any, .any, .any, .any, .any, .any, .any, .any, .any, .any, .any, .any, .any, .any, .any, .any, .any, .any, .any, .any, .any, .any, .any, .any, .any, .any, .any, .any, .any, .any, .any, .any, .any, .any, .any, .any, .any, .any, .any, .any, .any, .any, .any, .any, .any, .any, .any, .any, .any, .any, .any, .any, .any, .any, .any, .any, .any, .any, .any, .any, .any, .any, .any, .any, .any, .any, .any, .any, .any, .any, .any, .any, .any, .any, .any, .any, .any, .any, .any, .any, .any, .any, .any, .any, .any, .any, .any, .any, .any, .any, .any, .any, .any, .any, .any, .any, .any, .any, .any], [.dat T23, .dat T56], 0⟩
abbrev TY136 : Type := (((List E72) × (Int × (Int × (Int × ((List Int) × (Int × (Int × (Int × Unit)))))))) × (E23 × (E56 × Unit)))
abbrev TY137 : Type := (Nat × (((List E72) × (Int × (Int × (Int × ((List Int) × (Int × (Int × (Int × (Bool × Unit))))))))) × (E23 × (E56 × Unit))))
noncomputable def G7_k1_run (s : TY136) : Option TY137 :=
  (bif (s.1.2.2.2.2.2.2.2.1 == 0) then
  (bif (decide (s.1.2.1 < 0)) then
    some (0, ((s.1.1, (s.1.2.1, (s.1.2.2.1, (s.1.2.2.2.1, (s.1.2.2.2.2.1, (s.1.2.2.2.2.2.1, (s.1.2.2.2.2.2.2.1, (s.1.2.2.2.2.2.2.2.1, (true, ()))))))))), (s.2.1, (s.2.2.1, ()))))
    else
    (Option.bind (G23 s.2.1) fun r37 =>
      some (0, ((s.1.1, (s.1.2.1, (s.1.2.2.1, (s.1.2.2.2.1, (s.1.2.2.2.2.1, (s.1.2.2.2.2.2.1, (s.1.2.2.2.2.2.2.1, (s.1.2.2.2.2.2.2.2.1, ((decide (s.1.2.1 > r37)), ()))))))))), (s.2.1, (s.2.2.1, ()))))))
  else
  some (0, ((s.1.1, (s.1.2.1, (s.1.2.2.1, (s.1.2.2.2.1, (s.1.2.2.2.2.1, (s.1.2.2.2.2.2.1, (s.1.2.2.2.2.2.2.1, (s.1.2.2.2.2.2.2.2.1, (false, ()))))))))), (s.2.1, (s.2.2.1, ())))))
noncomputable def G7_k1_L : LoopT := cutT G7_k1_S0 G7_k1_S1 [.normal] G7_k1_run
noncomputable def G7_k2_S0 : SPat := ⟨[.any, .dat (.list T72), .dat (.int .i64), .dat (.int .i64), .dat (.int .i64), .fix (.bptr 0 []), .any, .any, .any, .any, .any, .dat (.list (.int .i64)), .dat (.int .i64), .fix (.bptr 1 []), .dat (.int .i64), .dat (.int .i64), .any, .any, .any, .any, .any, .any, .any, .any, .any, .any, .any, .any, .any, .any, .any, .any, .any, .any, .any, .any, .any, .any, .any, .any, .any, .any, .any, .any, .any, .any, .any, .any, .any, .any, .any, .any, .any, .any, .any, .any, .any, .any, .any, .any, .any, .any, .any, .any, .any, .any, .any, .any, .any, .any, .any, .any, .any, .any, .any, .any, .any, .any, .any, .any, .any, .any, .any, .any, .any, .any, .any, .any, .any, .any, .any, .any, .any, .any, .any, .any, .any, .any, .any, .any, .any, .any, .any, .any, .any, .any, .any, .any, .any, .any, .any, .any, .any, .any, .any, .any, .any, .any, .any, .any, .any, .any, .any, .any, .any, .any, .any, .any, .any, .any, .any, .any, .any, .any, .any, .any, .any, .any, .any, .any, .any, .any, .any, .any, .any, .any, .any, .any, .any, .any, .any, .any, .any, .any, .any, .any, .any, .any, .any, .any, .any, .any, .any, .any, .any, .any, .any, .any, .any, .any, .any, .any, .any, .any, .any, .any, .any, .any, .any], [.dat T23, .dat T56], 0⟩
noncomputable def G7_k2_S1 : SPat := ⟨[.any, .dat (.list T72), .dat (.int .i64), .dat (.int .i64), .dat (.int .i64), .fix (.bptr 0 []), .any, .any, .any, .any, .any, .dat (.list (.int .i64)), .dat (.int .i64), .fix (.bptr 1 []), .dat (.int .i64), .dat (.int .i64), .any, .any, .any, .any, .any, .any, .any, .any, .any, .any, .any, .any, .any, .any, .any, .any, .any, .any, .any, .any, .any, .any, .any, .any, .any, .any, .any, .any, .any, .any, .any, .any, .any, .any, .any, .any, .any, .any, .any, .any, .any, .any, .any, .any, .any, .any, .any, .any, .any, .any, .any, .any, .any, .any, .any, .any, .any, .any, .any, .any, .any, .any, .any, .any, .any, .any, .any, .any, .any, .any, .any, .any, .any, .any, .any, .any, .any, .any, .any, .any, .any, .any, .any, .any, .any, .any, .any, .any, .any, .any, .any, .any, .any, .any, .any, .any, .any, .any, .any, .any, .any, .any, .any, .any, .any, .any, .any, .any, .any, .any, .any, .any, .any, .any, .any, .any, .any, .any, .any, .any, .any, .any, .any, .any, .any, .any, .any, .any, .any, .any, .any, .any, .any, .any, .any, .any, .any, .any, .any, .any, .any, .any, .any, .any, .any, .any, .any, .any, .any, .any, .any, .any, .any, .any, .any, .any, .any, .any, .any, .any, .any, .any, .any], [.dat T23, .dat T56], 0⟩
abbrev TY138 : Type := (Nat × (((List E72) × (Int × (Int × (Int × ((List Int) × (Int × (Int × (Int × Unit)))))))) × (E23 × (E56 × Unit))))
noncomputable def G7_k2_run (s : TY136) : Option TY138 :=
  (Option.bind (G7_k1_run ((s.1.1, (s.1.2.1, (s.1.2.2.1, (s.1.2.2.2.1, (s.1.2.2.2.2.1, (s.1.2.2.2.2.2.1, (s.1.2.2.2.2.2.2.1, (s.1.2.2.2.2.2.2.2.1, ())))))))), (s.2.1, (s.2.2.1, ())))) fun q39 =>
  (bif q39.2.1.2.2.2.2.2.2.2.2.1 then
    some (0, ((q39.2.1.1, (q39.2.1.2.1, (q39.2.1.2.2.1, (q39.2.1.2.2.2.1, (q39.2.1.2.2.2.2.1, (q39.2.1.2.2.2.2.2.1, (q39.2.1.2.2.2.2.2.2.1, (2, ())))))))), (q39.2.2.1, (q39.2.2.2.1, ()))))
    else
    some (0, ((q39.2.1.1, (q39.2.1.2.1, (q39.2.1.2.2.1, (q39.2.1.2.2.2.1, (q39.2.1.2.2.2.2.1, (q39.2.1.2.2.2.2.2.1, (q39.2.1.2.2.2.2.2.2.1, (q39.2.1.2.2.2.2.2.2.2.1, ())))))))), (q39.2.2.1, (q39.2.2.2.1, ()))))))
noncomputable def G7_k2_L : LoopT := cutT G7_k2_S0 G7_k2_S1 [.normal] G7_k2_run
noncomputable def G7_k3_S0 : SPat := ⟨[.any, .any, .any, .any, .any, .any, .any, .any, .any, .any, .any, .dat (.list (.int .i64)), .dat (.int .i64), .fix (.bptr 1 []), .dat (.int .i64), .dat (.int .i64), .any, .any, .any, .any, .any, .any, .any, .any, .any, .any, .any, .any, .any, .any, .any, .any, .any, .any, .any, .any, .any, .any, .any, .any, .any, .any, .any, .any, .any, .any, .any, .any, .any, .any, .any, .any, .any, .any, .any, .any, .any, .any, .any, .any, .any, .any, .any, .any, .any, .any, .any, .any, .any, .any, .any, .any, .any, .any, .any, .any, .any, .any, .any, .any, .any, .any, .any, .any, .any, .any, .any, .any, .any, .any, .any, .any, .any, .any, .any, .any, .any, .any, .any, .any, .any, .any, .any, .any, .any, .any, .any, .any, .any, .any, .any, .any, .any, .any, .any, .any, .any, .any, .any, .any, .any, .any, .any, .any, .any, .any, .any, .any, .any, .any, .any, .any, .any, .any, .any, .any, .any, .any, .any, .any, .any, .any, .any, .any, .any, .any, .any, .any, .any, .any, .any, .any, .any, .any, .any, .any, .any, .any, .any, .any, .any, .any, .any, .any, .any, .any, .any, .any, .any, .any, .any, .any, .any, .any, .any, .any, .any, .any, .any], [.dat T23, .dat T56], 0⟩
noncomputable def G7_k3_S1 : SPat := ⟨[.any, .any, .any, .any, .any, .any, .any, .any, .any, .any, .dat .bool, .any, .any, .any, .any, .any, .any, .any, .any, .any, .any, .any, .any, .any, .any, .any, .any, .any, .any, .any, .any, .any, .any, .any, .any, .any, .any, .any, .any, .any, .any, .any, .any, .any, .any, .any, .any, .any, .any, .any, .any, .any, .any, .any, .any, .any, .any, .any, .any, .any, .any, .any, .any, .any, .any, .any, .any, .any, .any, .any, .any, .any, .any, .any, .any, .any, .any, .any, .any, .any, .any, .any, .any, .any, .any, .any, .any, .any, .any, .any, .any, .any, .any, .any, .any, .any, .any, .any, .any, .any, .any, .any, .any, .any, .any, .any, .any, .any, .any, .any, .any, .any, .any, .any, .any, .any, .any, .any, .any, .any, .any, .any, .any, .any, .any, .any, .any, .any, .any, .any, .any, .any, .any, .any, .any, .any, .any, .any, .any, .any, .any, .any, .any, .any, .any, .any, .any, .any, .any, .any, .any, .any, .any, .any, .any, .any, .any, .any, .any, .any, .any, .any, .any, .any, .any, .any, .any, .any, .any, .any, .any, .any, .any, .any, .any, .any, .any, .any, .any], [.dat T23, .dat T56], 0⟩
noncomputable def G7_k3_run (s : (((List Int) × (Int × (Int × (Int × Unit)))) × (E23 × (E56 × Unit)))) : Option (Nat × ((Bool × Unit) × (E23 × (E56 × Unit)))) :=
  (bif (s.1.2.1 == s.1.2.2.2.1) then
  (bif (s.1.2.2.1 == s.1.2.2.2.1) then
    (bif ((List.length s.1.1 : Int) == 0) then
      (bif ((s.2.2.1.1 == 0) && ((s.2.2.1.2.1 == 0) && true)) then
        (Option.bind G15 fun r44 =>
          some (0, ((r44, ()), (s.2.1, (s.2.2.1, ())))))
        else
        some (0, ((false, ()), (s.2.1, (s.2.2.1, ())))))
      else
      some (0, ((false, ()), (s.2.1, (s.2.2.1, ())))))
    else
    some (0, ((false, ()), (s.2.1, (s.2.2.1, ())))))
  else
  some (0, ((false, ()), (s.2.1, (s.2.2.1, ())))))
noncomputable def G7_k3_L : LoopT := cutT G7_k3_S0 G7_k3_S1 [.normal] G7_k3_run
noncomputable def G7_k4_S0 : SPat := ⟨[.any, .dat (.list T72), .any, .dat (.int .i64), .dat (.int .i64), .fix (.bptr 0 []), .any, .any, .any, .any, .any, .dat (.list (.int .i64)), .dat (.int .i64), .fix (.bptr 1 []), .dat (.int .i64), .any, .dat (.list T26), .any, .any, .any, .any, .any, .any, .any, .any, .any, .any, .any, .any, .any, .any, .any, .any, .any, .any, .any, .any, .any, .any, .any, .any, .any, .any, .any, .any, .any, .any, .any, .any, .any, .any, .any, .any, .any, .any, .any, .any, .any, .any, .any, .any, .any, .any, .any, .any, .any, .any, .any, .any, .any, .any, .any, .any, .any, .any, .any, .any, .any, .any, .any, .any, .any, .any, .any, .any, .any, .any, .any, .any, .any, .any, .any, .any, .any, .any, .any, .any, .any, .any, .any, .any, .any, .any, .any, .any, .any, .any, .any, .any, .any, .any, .any, .any, .any, .any, .any, .any, .any, .any, .any, .any, .any, .any, .any, .any, .any, .any, .any, .any, .any, .any, .any, .any, .any, .any, .any, .any, .any, .any, .any, .any, .any, .any, .any, .any, .any, .any, .any, .any, .any, .any, .any, .any, .any, .any, .any, .any, .any, .any, .any, .any, .any, .any, .any, .any, .any, .any, .any, .any, .any, .any, .any, .any, .any, .any, .any, .any, .any, .any], [.dat T23, .dat T56], 0⟩
noncomputable def G7_k4_S1 : SPat := ⟨[.any, .dat (.list T72), .any, .dat (.int .i64), .dat (.int .i64), .fix (.bptr 0 []), .any, .any, .any, .any, .any, .any, .any, .fix (.bptr 1 []), .dat (.int .i64), .any, .dat (.list T26), .any, .any, .any, .any, .any, .any, .any, .any, .any, .any, .any, .any, .any, .any, .any, .any, .any, .any, .any, .any, .any, .any, .any, .any, .any, .any, .any, .any, .any, .any, .any, .any, .any, .any, .any, .any, .any, .any, .any, .any, .any, .any, .any, .any, .any, .any, .any, .any, .any, .any, .any, .any, .any, .any, .any, .any, .any, .any, .any, .any, .any, .any, .any, .any, .any, .any, .any, .any, .any, .any, .any, .any, .any, .any, .any, .any, .any, .any, .any, .any, .any, .any, .any, .any, .any, .any, .any, .any, .any, .any, .any, .any, .any, .any, .any, .any, .any, .any, .any, .any, .any, .any, .any, .any, .any, .any, .any, .dat .bool, .any, .any, .any, .any, .any, .any, .any, .any, .any, .any, .any, .any, .any, .any, .any, .any, .any, .any, .any, .any, .any, .any, .any, .any, .any, .any, .any, .any, .any, .any, .any, .any, .any, .any, .any, .any, .any, .any, .any, .any, .any, .any, .any, .any, .any, .any, .any, .any, .any, .any, .any, .any, .any, .any], [.dat T23, .dat T56], 0⟩
abbrev TY139 : Type := (((List E72) × (Int × (Int × ((List Int) × (Int × (Int × ((List E26) × Unit))))))) × (E23 × (E56 × Unit)))
abbrev TY140 : Type := (Nat × (((List E72) × (Int × (Int × (Int × ((List E26) × (Bool × Unit)))))) × (E23 × (E56 × Unit))))
noncomputable def G7_k4_run (s : TY139) : Option TY140 :=
  (bif ((List.length s.1.2.2.2.2.2.2.1 : Int) == 0) then
  (bif (s.1.2.2.2.2.1 != 5) then
    some (0, ((s.1.1, (s.1.2.1, (s.1.2.2.1, (s.1.2.2.2.2.2.1, (s.1.2.2.2.2.2.2.1, (true, ())))))), (s.2.1, (s.2.2.1, ()))))
    else
    (bif ((List.length s.1.2.2.2.1 : Int) != 0) then
      some (0, ((s.1.1, (s.1.2.1, (s.1.2.2.1, (s.1.2.2.2.2.2.1, (s.1.2.2.2.2.2.2.1, (true, ())))))), (s.2.1, (s.2.2.1, ()))))
      else
      (bif (decide ((List.length s.1.2.2.2.2.2.2.1 : Int) > 0)) then
        (bif (s.1.2.2.2.2.1 != 0) then
          some (0, ((s.1.1, (s.1.2.1, (s.1.2.2.1, (s.1.2.2.2.2.2.1, (s.1.2.2.2.2.2.2.1, (true, ())))))), (s.2.1, (s.2.2.1, ()))))
          else
          (Option.bind (G36 s.2.1 s.1.2.2.2.2.2.2.1) fun r60 =>
            (Option.bind (G35 s.1.2.2.2.1 r60) fun r61 =>
              some (0, ((s.1.1, (s.1.2.1, (s.1.2.2.1, (s.1.2.2.2.2.2.1, (s.1.2.2.2.2.2.2.1, ((!r61), ())))))), (s.2.1, (s.2.2.1, ())))))))
        else
        some (0, ((s.1.1, (s.1.2.1, (s.1.2.2.1, (s.1.2.2.2.2.2.1, (s.1.2.2.2.2.2.2.1, (false, ())))))), (s.2.1, (s.2.2.1, ())))))))
  else
  (bif (decide ((List.length s.1.2.2.2.2.2.2.1 : Int) > 0)) then
    (bif (s.1.2.2.2.2.1 != 0) then
      some (0, ((s.1.1, (s.1.2.1, (s.1.2.2.1, (s.1.2.2.2.2.2.1, (s.1.2.2.2.2.2.2.1, (true, ())))))), (s.2.1, (s.2.2.1, ()))))
      else
      (Option.bind (G36 s.2.1 s.1.2.2.2.2.2.2.1) fun r62 =>
        (Option.bind (G35 s.1.2.2.2.1 r62) fun r63 =>
          some (0, ((s.1.1, (s.1.2.1, (s.1.2.2.1, (s.1.2.2.2.2.2.1, (s.1.2.2.2.2.2.2.1, ((!r63), ())))))), (s.2.1, (s.2.2.1, ())))))))
    else
    some (0, ((s.1.1, (s.1.2.1, (s.1.2.2.1, (s.1.2.2.2.2.2.1, (s.1.2.2.2.2.2.2.1, (false, ())))))), (s.2.1, (s.2.2.1, ()))))))
noncomputable def G7_k4_L : LoopT := cutT G7_k4_S0 G7_k4_S1 [.normal] G7_k4_run
noncomputable def G7_k5_S0 : SPat := ⟨[.any, .dat (.list T72), .any, .dat (.int .i64), .dat (.int .i64), .fix (.bptr 0 []), .any, .any, .any, .any, .any, .any, .any, .fix (.bptr 1 []), .dat (.int .i64), .any, .dat (.list T26), .any, .any, .any, .any, .any, .any, .any, .any, .any, .any, .any, .any, .any, .any, .any, .any, .any, .any, .any, .any, .any, .any, .any, .any, .any, .any, .any, .any, .any, .any, .any, .any, .any, .any, .any, .any, .any, .any, .any, .any, .any, .any, .any, .any, .any, .any, .any, .any, .any, .any, .any, .any, .any, .any, .any, .any, .any, .any, .any, .any, .any, .any, .any, .any, .any, .any, .any, .any, .any, .any, .any, .any, .any, .any, .any, .any, .any, .any, .any, .any, .any, .any, .any, .any, .any, .any, .any, .any, .any, .any, .any, .any, .any, .any, .any, .any, .any, .any, .any, .any, .any, .any, .any, .any, .any, .any, .any, .any, .any, .any, .any, .any, .any, .any, .any, .any, .any, .any, .any, .any, .any, .any, .any, .any, .any, .any, .any, .any, .any, .any, .any, .any, .any, .any, .any, .any, .any, .any, .any, .any, .any, .any, .any, .any, .any, .any, .any, .any, .any, .any, .any, .any, .any, .any, .any, .any, .any, .any, .any, .any, .any, .any], [.dat T23, .dat T56], 0⟩
noncomputable def G7_k5_S1 : SPat := ⟨[.any, .dat (.list T72), .any, .dat (.int .i64), .dat (.int .i64), .fix (.bptr 0 []), .any, .any, .any, .any, .any, .any, .any, .fix (.bptr 1 []), .dat (.int .i64), .any, .dat (.list T26), .any, .any, .any, .any, .any, .any, .any, .any, .any, .any, .any, .any, .any, .any, .any, .any, .any, .any, .any, .any, .any, .any, .any, .any, .any, .any, .any, .any, .any, .any, .any, .any, .any, .any, .any, .any, .any, .any, .any, .any, .any, .any, .any, .any, .any, .any, .any, .any, .any, .any, .any, .any, .any, .any, .any, .any, .any, .any, .any, .any, .any, .any, .any, .any, .any, .any, .any, .any, .any, .any, .any, .any, .any, .any, .any, .any, .any, .any, .any, .any, .any, .any, .any, .any, .any, .any, .any, .any, .any, .any, .any, .any, .any, .any, .any, .any, .any, .any, .any, .any, .any, .any, .any, .any, .any, .any, .any, .any, .any, .any, .any, .any, .any, .any, .any, .any, .any, .any, .any, .any, .any, .any, .any, .dat .bool, .any, .any, .any, .any, .any, .any, .any, .any, .any, .any, .any, .any, .any, .any, .any, .any, .any, .any, .any, .any, .any, .any, .any, .any, .any, .any, .any, .any, .any, .any, .any, .any, .any, .any, .any, .any, .any, .any], [.dat T23, .dat T56], 0⟩
abbrev TY141 : Type := (((List E72) × (Int × (Int × (Int × ((List E26) × Unit))))) × (E23 × (E56 × Unit)))
noncomputable def G7_k5_run (s : TY141) : Option TY140 :=
  (bif (decide (s.1.2.1 < 0)) then
  some (0, ((s.1.1, (s.1.2.1, (s.1.2.2.1, (s.1.2.2.2.1, (s.1.2.2.2.2.1, (true, ())))))), (s.2.1, (s.2.2.1, ()))))
  else
  (bif (decide (s.1.2.1 ≥ s.2.1.2.2.2.1)) then
    some (0, ((s.1.1, (s.1.2.1, (s.1.2.2.1, (s.1.2.2.2.1, (s.1.2.2.2.2.1, (true, ())))))), (s.2.1, (s.2.2.1, ()))))
    else
    (bif (decide (s.1.2.2.1 < 0)) then
      some (0, ((s.1.1, (s.1.2.1, (s.1.2.2.1, (s.1.2.2.2.1, (s.1.2.2.2.2.1, (true, ())))))), (s.2.1, (s.2.2.1, ()))))
      else
      some (0, ((s.1.1, (s.1.2.1, (s.1.2.2.1, (s.1.2.2.2.1, (s.1.2.2.2.2.1, ((decide (s.1.2.2.1 > 200)), ())))))), (s.2.1, (s.2.2.1, ())))))))
noncomputable def G7_k5_L : LoopT := cutT G7_k5_S0 G7_k5_S1 [.normal] G7_k5_run
noncomputable def G7_k6_S0 : SPat := ⟨[.any, .any, .any, .any, .any, .any, .any, .any, .any, .any, .any, .any, .any, .fix (.bptr 1 []), .dat (.int .i64), .any, .any, .any, .any, .any, .any, .any, .any, .any, .any, .any, .any, .any, .any, .any, .any, .any, .any, .any, .any, .any, .any, .any, .any, .any, .any, .any, .any, .any, .any, .any, .any, .any, .any, .any, .any, .any, .any, .any, .any, .any, .any, .any, .any, .any, .any, .any, .any, .any, .any, .any, .any, .any, .any, .any, .any, .any, .any, .any, .any, .any, .any, .any, .any, .any, .any, .any, .any, .any, .any, .any, .any, .any, .any, .any, .any, .any, .any, .any, .any, .any, .any, .any, .any, .any, .any, .any, .any, .any, .any, .any, .any, .any, .any, .any, .any, .any, .any, .any, .any, .any, .any, .any, .any, .any, .any, .any, .any, .any, .any, .any, .any, .any, .any, .any, .any, .any, .any, .any, .any, .any, .any, .any, .any, .any, .any, .any, .any, .any, .any, .any, .any, .any, .any, .any, .any, .any, .any, .any, .any, .any, .any, .any, .any, .any, .any, .any, .any, .any, .any, .any, .any, .any, .any, .any, .any, .any, .any, .any, .any, .any, .any, .any, .any], [.dat T23, .dat T56], 0⟩
noncomputable def G7_k6_S1 : SPat := ⟨[.any, .any, .any, .any, .any, .any, .any, .any, .any, .any, .dat .bool, .any, .any, .any, .any, .any, .any, .any, .any, .any, .any, .any, .any, .any, .any, .any, .any, .any, .any, .any, .any, .any, .any, .any, .any, .any, .any, .any, .any, .any, .any, .any, .any, .any, .any, .any, .any, .any, .any, .any, .any, .any, .any, .any, .any, .any, .any, .any, .any, .any, .any, .any, .any, .any, .any, .any, .any, .any, .any, .any, .any, .any, .any, .any, .any, .any, .any, .any, .any, .any, .any, .any, .any, .any, .any, .any, .any, .any, .any, .any, .any, .any, .any, .any, .any, .any, .any, .any, .any, .any, .any, .any, .any, .any, .any, .any, .any, .any, .any, .any, .any, .any, .any, .any, .any, .any, .any, .any, .any, .any, .any, .any, .any, .any, .any, .any, .any, .any, .any, .any, .any, .any, .any, .any, .any, .any, .any, .any, .any, .any, .any, .any, .any, .any, .any, .any, .any, .any, .any, .any, .any, .any, .any, .any, .any, .any, .any, .any, .any, .any, .any, .any, .any, .any, .any, .any, .any, .any, .any, .any, .any, .any, .any, .any, .any, .any, .any, .any, .any], [.dat T23, .dat T56], 0⟩
noncomputable def G7_k6_run (s : ((Int × Unit) × (E23 × (E56 × Unit)))) : Option (Nat × ((Bool × Unit) × (E23 × (E56 × Unit)))) :=
  (bif (s.1.1 == 2) then
  (bif ((s.2.2.1.1 == 0) && ((s.2.2.1.2.1 == 0) && true)) then
    (Option.bind G15 fun r73 =>
      some (0, ((r73, ()), (s.2.1, (s.2.2.1, ())))))
    else
    some (0, ((false, ()), (s.2.1, (s.2.2.1, ())))))
  else
  some (0, ((false, ()), (s.2.1, (s.2.2.1, ())))))
noncomputable def G7_k6_L : LoopT := cutT G7_k6_S0 G7_k6_S1 [.normal] G7_k6_run
noncomputable def G7_k7_S0 : SPat := ⟨[.any, .any, .any, .any, .any, .any, .any, .any, .any, .any, .any, .any, .any, .fix (.bptr 1 []), .dat (.int .i64), .any, .any, .any, .any, .any, .any, .any, .any, .any, .any, .any, .any, .any, .any, .any, .any, .any, .any, .any, .any, .any, .any, .any, .any, .any, .any, .any, .any, .any, .any, .any, .any, .any, .any, .any, .any, .any, .any, .any, .any, .any, .any, .any, .any, .any, .any, .any, .any, .any, .any, .any, .any, .any, .any, .any, .any, .any, .any, .any, .any, .any, .any, .any, .any, .any, .any, .any, .any, .any, .any, .any, .any, .any, .any, .any, .any, .any, .any, .any, .any, .any, .any, .any, .any, .any, .any, .any, .any, .any, .any, .any, .any, .any, .any, .any, .any, .any, .any, .any, .any, .any, .any, .any, .any, .any, .any, .any, .any, .any, .any, .any, .any, .any, .any, .any, .any, .any, .any, .any, .any, .any, .any, .any, .any, .any, .any, .any, .any, .any, .any, .any, .any, .any, .any, .any, .any, .any, .any, .any, .any, .any, .any, .any, .any, .any, .any, .any, .any, .any, .any, .any, .any, .any, .any, .any, .any, .any, .any, .any, .any, .any, .any, .any, .any], [.dat T23, .dat T56], 0⟩
noncomputable def G7_k7_S1 : SPat := ⟨[.any, .any, .any, .any, .any, .any, .any, .any, .any, .any, .dat .bool, .any, .any, .any, .any, .any, .any, .any, .any, .any, .any, .any, .any, .any, .any, .any, .any, .any, .any, .any, .any, .any, .any, .any, .any, .any, .any, .any, .any, .any, .any, .any, .any, .any, .any, .any, .any, .any, .any, .any, .any, .any, .any, .any, .any, .any, .any, .any, .any, .any, .any, .any, .any, .any, .any, .any, .any, .any, .any, .any, .any, .any, .any, .any, .any, .any, .any, .any, .any, .any, .any, .any, .any, .any, .any, .any, .any, .any, .any, .any, .any, .any, .any, .any, .any, .any, .any, .any, .any, .any, .any, .any, .any, .any, .any, .any, .any, .any, .any, .any, .any, .any, .any, .any, .any, .any, .any, .any, .any, .any, .any, .any, .any, .any, .any, .any, .any, .any, .any, .any, .any, .any, .any, .any, .any, .any, .any, .any, .any, .any, .any, .any, .any, .any, .any, .any, .any, .any, .any, .any, .any, .any, .any, .any, .any, .any, .any, .any, .any, .any, .any, .any, .any, .any, .any, .any, .any, .any, .any, .any, .any, .any, .any, .any, .any, .any, .any, .any, .any], [.dat T23, .dat T56], 0⟩
noncomputable def G7_k7_run (s : ((Int × Unit) × (E23 × (E56 × Unit)))) : Option (Nat × ((Bool × Unit) × (E23 × (E56 × Unit)))) :=
  (bif (s.1.1 == 5) then
  (bif ((s.2.2.1.1 == 0) && ((s.2.2.1.2.1 == 0) && true)) then
    (Option.bind G15 fun r78 =>
      some (0, ((r78, ()), (s.2.1, (s.2.2.1, ())))))
    else
    some (0, ((false, ()), (s.2.1, (s.2.2.1, ())))))
  else
  some (0, ((false, ()), (s.2.1, (s.2.2.1, ())))))
noncomputable def G7_k7_L : LoopT := cutT G7_k7_S0 G7_k7_S1 [.normal] G7_k7_run
noncomputable def G7_k8_S0 : SPat := ⟨[.any, .dat (.list T72), .any, .dat (.int .i64), .dat (.int .i64), .fix (.bptr 0 []), .any, .any, .any, .any, .any, .any, .any, .fix (.bptr 1 []), .dat (.int .i64), .any, .dat (.list T26), .any, .any, .any, .any, .any, .any, .any, .any, .any, .any, .any, .any, .any, .any, .any, .any, .any, .any, .any, .any, .any, .any, .any, .any, .any, .any, .any, .any, .any, .any, .any, .any, .any, .any, .any, .any, .any, .any, .any, .any, .any, .any, .any, .any, .any, .any, .any, .any, .any, .any, .any, .any, .any, .any, .any, .any, .any, .any, .any, .any, .any, .any, .any, .any, .any, .any, .any, .any, .any, .any, .any, .any, .any, .any, .any, .any, .any, .any, .any, .any, .any, .any, .any, .any, .any, .any, .any, .any, .any, .any, .any, .any, .any, .any, .any, .any, .any, .any, .any, .any, .any, .any, .any, .any, .any, .any, .any, .any, .any, .any, .any, .any, .any, .any, .any, .any, .any, .any, .any, .any, .any, .any, .any, .any, .any, .any, .any, .any, .any, .any, .any, .any, .any, .any, .any, .any, .any, .any, .any, .any, .any, .any, .any, .any, .any, .any, .any, .any, .any, .any, .any, .any, .any, .any, .any, .any, .any, .any, .any, .any, .any, .any], [.dat T23, .dat T56], 0⟩
noncomputable def G7_k8_S1 : SPat := ⟨[.any, .any, .any, .any, .any, .any, .any, .any, .any, .any, .dat .bool, .any, .any, .any, .any, .any, .any, .any, .any, .any, .any, .any, .any, .any, .any, .any, .any, .any, .any, .any, .any, .any, .any, .any, .any, .any, .any, .any, .any, .any, .any, .any, .any, .any, .any, .any, .any, .any, .any, .any, .any, .any, .any, .any, .any, .any, .any, .any, .any, .any, .any, .any, .any, .any, .any, .any, .any, .any, .any, .any, .any, .any, .any, .any, .any, .any, .any, .any, .any, .any, .any, .any, .any, .any, .any, .any, .any, .any, .any, .any, .any, .any, .any, .any, .any, .any, .any, .any, .any, .any, .any, .any, .any, .any, .any, .any, .any, .any, .any, .any, .any, .any, .any, .any, .any, .any, .any, .any, .any, .any, .any, .any, .any, .any, .any, .any, .any, .any, .any, .any, .any, .any, .any, .any, .any, .any, .any, .any, .any, .any, .any, .any, .any, .any, .any, .any, .any, .any, .any, .any, .any, .any, .any, .any, .any, .any, .any, .any, .any, .any, .any, .any, .any, .any, .any, .any, .any, .any, .any, .any, .any, .any, .any, .any, .any, .any, .any, .any, .any], [.dat T23, .dat T56], 0⟩
noncomputable def G7_k8_run (s : TY141) : Option (Nat × ((Bool × Unit) × (E23 × (E56 × Unit)))) :=
  (bif (s.1.2.2.2.1 == 0) then
  (Option.bind (G37 s.2.1 s.1.1 s.1.2.2.2.2.1 s.1.2.1 s.1.2.2.1) fun r84 =>
    (bif ((s.2.2.1.1 == r84.1) && ((s.2.2.1.2.1 == r84.2.1) && true)) then
      (Option.bind G15 fun r85 =>
        some (0, ((r85, ()), (s.2.1, (s.2.2.1, ())))))
      else
      some (0, ((false, ()), (s.2.1, (s.2.2.1, ()))))))
  else
  some (0, ((false, ()), (s.2.1, (s.2.2.1, ())))))
noncomputable def G7_k8_L : LoopT := cutT G7_k8_S0 G7_k8_S1 [.normal] G7_k8_run
noncomputable def G7 (a0 : E23) (a1 : (List E72)) (a2 : Int) (a3 : Int) (a4 : Int) : Option Bool :=
  (Option.bind (G7_k0_run ((a1, (a2, (a3, (a4, ())))), (a0, ()))) fun q26 =>
  (bif q26.2.1.2.2.2.2.1 then
    (Option.bind G15 fun r27 =>
      some r27)
    else
    (Option.bind (g26_sense_Known q26.2.2.1 q26.2.1.1 q26.2.1.2.1) fun r29 =>
      (Option.bind (g28_sense_Where q26.2.2.1 q26.2.1.1 q26.2.1.2.1 q26.2.1.2.2.1 q26.2.1.2.2.2.1) fun r31 =>
        (Option.bind (G13 q26.2.2.1 q26.2.1.1) fun r33 =>
          (Option.bind (G7_k2_run ((q26.2.1.1, (q26.2.1.2.1, (q26.2.1.2.2.1, (q26.2.1.2.2.2.1, (r29.1, (r29.2.1, (r31.2.1, (r33, ())))))))), (q26.2.2.1, (r31.1, ())))) fun q40 =>
            (bif (q40.2.1.2.2.2.2.2.2.2.1 != 0) then
              (Option.bind (G7_k3_run ((q40.2.1.2.2.2.2.1, (q40.2.1.2.2.2.2.2.1, (q40.2.1.2.2.2.2.2.2.1, (q40.2.1.2.2.2.2.2.2.2.1, ())))), (q40.2.2.1, (q40.2.2.2.1, ())))) fun q45 =>
                some q45.2.1.1)
              else
              (Option.bind (G34 q40.2.2.1 q40.2.1.1 q40.2.1.2.1) fun r47 =>
                (Option.bind (G7_k4_run ((q40.2.1.1, (q40.2.1.2.2.1, (q40.2.1.2.2.2.1, (q40.2.1.2.2.2.2.1, (q40.2.1.2.2.2.2.2.1, (q40.2.1.2.2.2.2.2.2.1, (r47, ()))))))), (q40.2.2.1, (q40.2.2.2.1, ())))) fun q65 =>
                  (bif q65.2.1.2.2.2.2.2.1 then
                    some false
                    else
                    (Option.bind (G7_k5_run ((q65.2.1.1, (q65.2.1.2.1, (q65.2.1.2.2.1, (q65.2.1.2.2.2.1, (q65.2.1.2.2.2.2.1, ()))))), (q65.2.2.1, (q65.2.2.2.1, ())))) fun q70 =>
                      (bif q70.2.1.2.2.2.2.2.1 then
                        (Option.bind (G7_k6_run ((q70.2.1.2.2.2.1, ()), (q70.2.2.1, (q70.2.2.2.1, ())))) fun q74 =>
                          some q74.2.1.1)
                        else
                        (bif ((List.length q70.2.1.2.2.2.2.1 : Int) == 0) then
                          (Option.bind (G7_k7_run ((q70.2.1.2.2.2.1, ()), (q70.2.2.1, (q70.2.2.2.1, ())))) fun q79 =>
                            some q79.2.1.1)
                          else
                          (Option.bind (G7_k8_run ((q70.2.1.1, (q70.2.1.2.1, (q70.2.1.2.2.1, (q70.2.1.2.2.2.1, (q70.2.1.2.2.2.2.1, ()))))), (q70.2.2.1, (q70.2.2.2.1, ())))) fun q86 =>
                            some q86.2.1.1))))))))))))))
noncomputable def G7_k0_J : Jn := (.whole [])
theorem G7_k0_JV : JV 0 Tryd.prog false (G7_k0_J) (seqL (seqL (seqR (bodyOf Tryd.f7)))) := jv_nil
theorem G7_k0_V : LValid 0 Tryd.prog (seqL (seqL (seqR (bodyOf Tryd.f7)))) (G7_k0_L) false :=
  cutT_valid (ev := jnT Tryd.prog G7_C (G7_k0_J) (seqL (seqL (seqR (bodyOf Tryd.f7))))) (jnT_valid mixed G7_CV (G7_k0_JV)) (by kernel_rfl) (by kernel_rfl) (by decide) (by decide) (by intro s; kernel_rfl)
noncomputable def G7_k1_J : Jn := (.whole [])
theorem G7_k1_JV : JV 0 Tryd.prog false (G7_k1_J) (seqL (seqL (seqR (seqR (seqR (seqR (seqR (bodyOf Tryd.f7)))))))) := jv_nil
theorem G7_k1_V : LValid 0 Tryd.prog (seqL (seqL (seqR (seqR (seqR (seqR (seqR (bodyOf Tryd.f7)))))))) (G7_k1_L) false :=
  cutT_valid (ev := jnT Tryd.prog G7_C (G7_k1_J) (seqL (seqL (seqR (seqR (seqR (seqR (seqR (bodyOf Tryd.f7))))))))) (jnT_valid mixed G7_CV (G7_k1_JV)) (by kernel_rfl) (by kernel_rfl) (by decide) (by decide) (by intro s; kernel_rfl)
noncomputable def G7_k2_J : Jn := (.seq (.cut G7_k1_L) (.whole []))
theorem G7_k2_JV : JV 0 Tryd.prog false (G7_k2_J) (seqL (seqR (seqR (seqR (seqR (seqR (bodyOf Tryd.f7))))))) := (jv_seq (by kernel_rfl) (jv_cut G7_k1_V) jv_nil)
theorem G7_k2_V : LValid 0 Tryd.prog (seqL (seqR (seqR (seqR (seqR (seqR (bodyOf Tryd.f7))))))) (G7_k2_L) false :=
  cutT_valid (ev := jnT Tryd.prog G7_C (G7_k2_J) (seqL (seqR (seqR (seqR (seqR (seqR (bodyOf Tryd.f7)))))))) (jnT_valid mixed G7_CV (G7_k2_JV)) (by kernel_rfl) (by kernel_rfl) (by decide) (by decide) (by intro s; kernel_rfl)
noncomputable def G7_k3_J : Jn := (.whole [])
theorem G7_k3_JV : JV 0 Tryd.prog false (G7_k3_J) (seqL (conL (seqR (seqL (seqR (seqR (seqR (seqR (seqR (seqR (bodyOf Tryd.f7))))))))))) := jv_nil
theorem G7_k3_V : LValid 0 Tryd.prog (seqL (conL (seqR (seqL (seqR (seqR (seqR (seqR (seqR (seqR (bodyOf Tryd.f7))))))))))) (G7_k3_L) false :=
  cutT_valid (ev := jnT Tryd.prog G7_C (G7_k3_J) (seqL (conL (seqR (seqL (seqR (seqR (seqR (seqR (seqR (seqR (bodyOf Tryd.f7)))))))))))) (jnT_valid mixed G7_CV (G7_k3_JV)) (by kernel_rfl) (by kernel_rfl) (by decide) (by decide) (by intro s; kernel_rfl)
noncomputable def G7_k4_J : Jn := (.whole [])
theorem G7_k4_JV : JV 0 Tryd.prog false (G7_k4_J) (seqL (seqL (seqR (seqR (seqR (seqR (seqR (seqR (seqR (seqR (bodyOf Tryd.f7))))))))))) := jv_nil
theorem G7_k4_V : LValid 0 Tryd.prog (seqL (seqL (seqR (seqR (seqR (seqR (seqR (seqR (seqR (seqR (bodyOf Tryd.f7))))))))))) (G7_k4_L) false :=
  cutT_valid (ev := jnT Tryd.prog G7_C (G7_k4_J) (seqL (seqL (seqR (seqR (seqR (seqR (seqR (seqR (seqR (seqR (bodyOf Tryd.f7)))))))))))) (jnT_valid mixed G7_CV (G7_k4_JV)) (by kernel_rfl) (by kernel_rfl) (by decide) (by decide) (by intro s; kernel_rfl)
noncomputable def G7_k5_J : Jn := (.whole [])
theorem G7_k5_JV : JV 0 Tryd.prog false (G7_k5_J) (seqL (seqL (seqR (seqR (seqR (seqR (seqR (seqR (seqR (seqR (seqR (bodyOf Tryd.f7)))))))))))) := jv_nil
theorem G7_k5_V : LValid 0 Tryd.prog (seqL (seqL (seqR (seqR (seqR (seqR (seqR (seqR (seqR (seqR (seqR (bodyOf Tryd.f7)))))))))))) (G7_k5_L) false :=
  cutT_valid (ev := jnT Tryd.prog G7_C (G7_k5_J) (seqL (seqL (seqR (seqR (seqR (seqR (seqR (seqR (seqR (seqR (seqR (bodyOf Tryd.f7))))))))))))) (jnT_valid mixed G7_CV (G7_k5_JV)) (by kernel_rfl) (by kernel_rfl) (by decide) (by decide) (by intro s; kernel_rfl)
noncomputable def G7_k6_J : Jn := (.whole [])
theorem G7_k6_JV : JV 0 Tryd.prog false (G7_k6_J) (seqL (conL (seqR (seqL (seqR (seqR (seqR (seqR (seqR (seqR (seqR (seqR (seqR (bodyOf Tryd.f7)))))))))))))) := jv_nil
theorem G7_k6_V : LValid 0 Tryd.prog (seqL (conL (seqR (seqL (seqR (seqR (seqR (seqR (seqR (seqR (seqR (seqR (seqR (bodyOf Tryd.f7)))))))))))))) (G7_k6_L) false :=
  cutT_valid (ev := jnT Tryd.prog G7_C (G7_k6_J) (seqL (conL (seqR (seqL (seqR (seqR (seqR (seqR (seqR (seqR (seqR (seqR (seqR (bodyOf Tryd.f7))))))))))))))) (jnT_valid mixed G7_CV (G7_k6_JV)) (by kernel_rfl) (by kernel_rfl) (by decide) (by decide) (by intro s; kernel_rfl)
noncomputable def G7_k7_J : Jn := (.whole [])
theorem G7_k7_JV : JV 0 Tryd.prog false (G7_k7_J) (seqL (conL (seqR (seqL (seqR (seqR (seqR (seqR (seqR (seqR (seqR (seqR (seqR (seqR (bodyOf Tryd.f7))))))))))))))) := jv_nil
theorem G7_k7_V : LValid 0 Tryd.prog (seqL (conL (seqR (seqL (seqR (seqR (seqR (seqR (seqR (seqR (seqR (seqR (seqR (seqR (bodyOf Tryd.f7))))))))))))))) (G7_k7_L) false :=
  cutT_valid (ev := jnT Tryd.prog G7_C (G7_k7_J) (seqL (conL (seqR (seqL (seqR (seqR (seqR (seqR (seqR (seqR (seqR (seqR (seqR (seqR (bodyOf Tryd.f7)))))))))))))))) (jnT_valid mixed G7_CV (G7_k7_JV)) (by kernel_rfl) (by kernel_rfl) (by decide) (by decide) (by intro s; kernel_rfl)
noncomputable def G7_k8_J : Jn := (.whole [])
theorem G7_k8_JV : JV 0 Tryd.prog false (G7_k8_J) (seqL (seqR (seqR (seqR (seqR (seqR (seqR (seqR (seqR (seqR (seqR (seqR (bodyOf Tryd.f7))))))))))))) := jv_nil
theorem G7_k8_V : LValid 0 Tryd.prog (seqL (seqR (seqR (seqR (seqR (seqR (seqR (seqR (seqR (seqR (seqR (seqR (bodyOf Tryd.f7))))))))))))) (G7_k8_L) false :=
  cutT_valid (ev := jnT Tryd.prog G7_C (G7_k8_J) (seqL (seqR (seqR (seqR (seqR (seqR (seqR (seqR (seqR (seqR (seqR (seqR (bodyOf Tryd.f7)))))))))))))) (jnT_valid mixed G7_CV (G7_k8_JV)) (by kernel_rfl) (by kernel_rfl) (by decide) (by decide) (by intro s; kernel_rfl)
noncomputable def G7_J : Jn := (.seq (.whole []) (.seq (.seq (.cut G7_k0_L) (.whole [])) (.seq (.whole []) (.seq (.whole []) (.seq (.whole []) (.seq (.cut G7_k2_L) (.seq (.seq (.whole []) (.cond (.seq (.cut G7_k3_L) (.whole [])) (.whole []))) (.seq (.whole []) (.seq (.seq (.cut G7_k4_L) (.whole [])) (.seq (.seq (.cut G7_k5_L) (.cond (.seq (.cut G7_k6_L) (.whole [])) (.whole []))) (.seq (.seq (.whole []) (.cond (.seq (.cut G7_k7_L) (.whole [])) (.whole []))) (.seq (.cut G7_k8_L) (.whole [])))))))))))))
theorem G7_JV : JV 0 Tryd.prog false (G7_J) (bodyOf Tryd.f7) := (jv_seq (by kernel_rfl) jv_nil (jv_seq (by kernel_rfl) (jv_seq (by kernel_rfl) (jv_cut G7_k0_V) jv_nil) (jv_seq (by kernel_rfl) jv_nil (jv_seq (by kernel_rfl) jv_nil (jv_seq (by kernel_rfl) jv_nil (jv_seq (by kernel_rfl) (jv_cut G7_k2_V) (jv_seq (by kernel_rfl) (jv_seq (by kernel_rfl) jv_nil (jv_con (by kernel_rfl) (jv_seq (by kernel_rfl) (jv_cut G7_k3_V) jv_nil) jv_nil)) (jv_seq (by kernel_rfl) jv_nil (jv_seq (by kernel_rfl) (jv_seq (by kernel_rfl) (jv_cut G7_k4_V) jv_nil) (jv_seq (by kernel_rfl) (jv_seq (by kernel_rfl) (jv_cut G7_k5_V) (jv_con (by kernel_rfl) (jv_seq (by kernel_rfl) (jv_cut G7_k6_V) jv_nil) jv_nil)) (jv_seq (by kernel_rfl) (jv_seq (by kernel_rfl) jv_nil (jv_con (by kernel_rfl) (jv_seq (by kernel_rfl) (jv_cut G7_k7_V) jv_nil) jv_nil)) (jv_seq (by kernel_rfl) (jv_cut G7_k8_V) jv_nil))))))))))))
theorem G7_ent : Ent Tryd.prog 7 := ⟨by decide, enters_of Tryd.func7 (by kernel_rfl) rfl⟩
theorem G7_hev : ∀ x, fnE (jnT Tryd.prog G7_C (G7_J) (bodyOf Tryd.f7)) Tryd.prog Tryd.f7 (encs [.dat T23, .dat (.list T72), .dat (.int .i64), .dat (.int .i64), .dat (.int .i64)] x) ⟨[], [], 0⟩ (frzF (.dat .bool)) = G7 x.1 x.2.1 x.2.2.1 x.2.2.2.1 x.2.2.2.2.1 := by
  intro x; kernel_rfl
theorem G7_lcall : ∀ x r, (fun x : Els [.dat T23, .dat (.list T72), .dat (.int .i64), .dat (.int .i64), .dat (.int .i64)] => G7 x.1 x.2.1 x.2.2.1 x.2.2.2.1 x.2.2.2.2.1) x = some r → LCall 0 Tryd.prog 7 (encs [.dat T23, .dat (.list T72), .dat (.int .i64), .dat (.int .i64), .dat (.int .i64)] x) ⟨[], [], 0⟩ (.d .bool r) ⟨[], [], 0⟩ := frz_lcallE (ev := (jnT Tryd.prog G7_C (G7_J) (bodyOf Tryd.f7))) (R := .dat .bool) Tryd.func7 rfl G7_ent (jnT_valid mixed G7_CV (G7_JV)) (by kernel_rfl) (by kernel_rfl) G7_hev
end Go.Proofs.YtibmgbalfhfcdaaDoor.Abs
set_option linter.unusedVariables false
set_option linter.unusedSimpArgs false
set_option maxRecDepth 100000
namespace Go.Proofs.YtibmgbalfhfcdaaDoor.Abs
open Classical
attribute [local irreducible] G15 G13 g26_sense_Known g28_sense_Where G34 G36 G35 G37 G14 G30 G23
theorem known_tail {s : E23} {l : List E72} (hsl : SlOk s l) {most : Int} (hm : 0 ≤ most ∧ most ≤ ((nC s : Nat) : Int)) (depth week : Int) {w : List Int} {e f : Int} {p : E56} (hk : g26_sense_Known s l most = some (w, (e, ()))) (hw : g28_sense_Where s l most depth week = some (p, (f, ()))) :
    (Option.bind (G34 s l most) fun r47 =>
                (Option.bind (G7_k4_run ((l, (depth, (week, (w, (e, (f, (r47, ()))))))), (s, (p, ())))) fun q65 =>
                  (bif q65.2.1.2.2.2.2.2.1 then
                    some false
                    else
                    (Option.bind (G7_k5_run ((q65.2.1.1, (q65.2.1.2.1, (q65.2.1.2.2.1, (q65.2.1.2.2.2.1, (q65.2.1.2.2.2.2.1, ()))))), (q65.2.2.1, (q65.2.2.2.1, ())))) fun q70 =>
                      (bif q70.2.1.2.2.2.2.2.1 then
                        (Option.bind (G7_k6_run ((q70.2.1.2.2.2.1, ()), (q70.2.2.1, (q70.2.2.2.1, ())))) fun q74 =>
                          some q74.2.1.1)
                        else
                        (bif ((List.length q70.2.1.2.2.2.2.1 : Int) == 0) then
                          (Option.bind (G7_k7_run ((q70.2.1.2.2.2.1, ()), (q70.2.2.1, (q70.2.2.2.1, ())))) fun q79 =>
                            some q79.2.1.1)
                          else
                          (Option.bind (G7_k8_run ((q70.2.1.1, (q70.2.1.2.1, (q70.2.1.2.2.1, (q70.2.1.2.2.2.1, (q70.2.1.2.2.2.2.1, ()))))), (q70.2.2.1, (q70.2.2.2.1, ())))) fun q86 =>
                            some q86.2.1.1))))))) = some true := by
  have hs := hsl.2.1
  have hsl1 := hsl.1
  have hn10 := nC_le hs
  have hdep := hs.depths
  obtain ⟨mo, rfl⟩ : ∃ mo : Nat, most = (mo : Int) := ⟨most.toNat, by omega⟩
  have hmo : mo ≤ nC s := by omega
  have hall := allC_len (nC s) hn10 mo hmo
  have hel := exs_len s l (allC (nC s) mo)
  rw [all_eq hs hsl.2.2 (by omega) hmo]
  simp only [Option.bind_some]
  have n00 : ((0 : Int) != 0) = false := rfl
  have n55 : ((5 : Int) != 5) = false := rfl
  have e00 : ((0 : Int) == 0) = true := rfl
  have e22 : ((2 : Int) == 2) = true := rfl
  have e55 : ((5 : Int) == 5) = true := rfl
  have pz : (((0 : Int) == 0) && (((0 : Int) == 0) && true)) = true := rfl
  have hlow : ∀ b ∈ exs s l (allC (nC s) mo), low b (nC s) := fun b hb => ((allC_mem (by omega)).1 (exs_mem.1 hb).1).1
  have hWh : (¬ ((0 ≤ depth ∧ depth < s.2.2.2.1) ∧ 0 ≤ week ∧ week ≤ 200) ∧ p = (0, (0, ())) ∧ f = 2) ∨ (((0 ≤ depth ∧ depth < s.2.2.2.1) ∧ 0 ≤ week ∧ week ≤ 200) ∧ (((∀ x, ¬ ValA s l (mo : Int) depth week x) ∧ p = (0, (0, ())) ∧ f = 5) ∨ (Lim (ValA s l (mo : Int) depth week) p true ∧ f = 0))) := by
    rcases swhere_eq s l (mo : Int) depth week (by omega) with ⟨h, _⟩ | ⟨_, h, e1⟩ | ⟨_, h, h1⟩
    · omega
    · rw [hw] at e1
      simp only [Option.some.injEq, Prod.mk.injEq, and_true] at e1
      exact .inl ⟨fun hh => h ⟨hsl, hm, hh.1, hh.2⟩, e1.1, e1.2⟩
    · refine .inr ⟨⟨h.2.1, h.2.2⟩, ?_⟩
      rcases h1 with ⟨h2, e1⟩ | ⟨q, h2, e1⟩
      · rw [hw] at e1
        simp only [Option.some.injEq, Prod.mk.injEq, and_true] at e1
        exact .inl ⟨h2, e1.1, e1.2⟩
      · rw [hw] at e1
        simp only [Option.some.injEq, Prod.mk.injEq, and_true] at e1
        obtain ⟨rfl, rfl⟩ := e1
        exact .inr ⟨h2, rfl⟩
  have hKn : ((∀ b, ¬ Fits s l mo b) ∧ w = [] ∧ e = 5) ∨ ((∃ b, Fits s l mo b) ∧ KnowsW (Fits s l mo) (nC s) w ∧ e = 0) := by
    rcases sknown_eq s l (mo : Int) (by omega) with ⟨h, _⟩ | ⟨_, h, _⟩ | ⟨_, _, ⟨h, e1⟩ | ⟨w', h1, h2, e1⟩⟩
    · omega
    · exact absurd ⟨hsl, hm⟩ h
    · rw [hk] at e1
      simp only [Option.some.injEq, Prod.mk.injEq, and_true] at e1
      exact .inl ⟨h, e1.1, e1.2⟩
    · rw [hk] at e1
      simp only [Option.some.injEq, Prod.mk.injEq, and_true] at e1
      obtain ⟨rfl, rfl⟩ := e1
      exact .inr ⟨h1, h2, rfl⟩
  have k4 : ∀ all : List E26, all = (exs s l (allC (nC s) mo)).map (causeOf s) → G7_k4_run ((l, (depth, (week, (w, (e, (f, (all, ()))))))), (s, (p, ()))) = some (0, ((l, (depth, (week, (f, (all, (false, ())))))), (s, (p, ())))) := by
    intro all hal
    unfold G7_k4_run
    rcases hKn with ⟨h1, rfl, rfl⟩ | ⟨⟨b0, hb0⟩, h2, rfl⟩
    · have he : all = [] := by
        rw [hal]
        have : exs s l (allC (nC s) mo) = [] := by
          apply List.eq_nil_iff_forall_not_mem.2
          intro b hb
          exact h1 b (fits_mem.1 hb)
        rw [this]; rfl
      rw [he]
      rfl
    · have hne : exs s l (allC (nC s) mo) ≠ [] := List.ne_nil_of_mem (fits_mem.2 hb0)
      have hpos := List.length_pos_iff.2 hne
      obtain ⟨w', e1, e2⟩ := rknown_eq hs (bs := exs s l (allC (nC s) mo)) (by omega) hne hlow
      have hww : w = w' := knowsW_unique h2 (by
        have : (fun b => b ∈ exs s l (allC (nC s) mo)) = Fits s l mo := funext fun b => propext fits_mem
        rw [this] at e2; exact e2)
      subst hww
      have hl0 : ((all.length : Int) == 0) = false := beq_eq_false_iff_ne.2 (by rw [hal, List.length_map]; omega)
      have hl1 : decide ((all.length : Int) > 0) = true := decide_eq_true (by rw [hal, List.length_map]; omega)
      simp only [hl0, hl1, cond_false, cond_true, n00]
      rw [hal, e1]
      simp only [Option.bind_some]
      rw [samewords_self w (by rw [h2.len]; omega)]
      rfl
  rw [k4 _ rfl]
  simp only [Option.bind_some, cond_false]
  have hgood : ¬ ((0 ≤ depth ∧ depth < s.2.2.2.1) ∧ 0 ≤ week ∧ week ≤ 200) → ∃ a, G7_k5_run ((l, (depth, (week, (f, ((exs s l (allC (nC s) mo)).map (causeOf s), ()))))), (s, (p, ()))) = some (0, ((l, (depth, (week, (f, ((exs s l (allC (nC s) mo)).map (causeOf s), (a, ())))))), (s, (p, ())))) ∧ a = true := by
    intro hh
    unfold G7_k5_run
    by_cases q3 : depth < 0
    · exact ⟨true, by simp only [decide_eq_true q3, cond_true], rfl⟩
    by_cases q4 : depth ≥ s.2.2.2.1
    · exact ⟨true, by simp only [decide_eq_false q3, decide_eq_true q4, cond_true, cond_false], rfl⟩
    by_cases q5 : week < 0
    · exact ⟨true, by simp only [decide_eq_false q3, decide_eq_false q4, decide_eq_true q5, cond_true, cond_false], rfl⟩
    by_cases q6 : week > 200
    · exact ⟨true, by simp only [decide_eq_false q3, decide_eq_false q4, decide_eq_false q5, decide_eq_true q6, cond_true, cond_false], rfl⟩
    exact absurd ⟨⟨by omega, by omega⟩, by omega, by omega⟩ hh
  rcases hWh with ⟨hbad, rfl, rfl⟩ | ⟨hok, hres⟩
  · obtain ⟨a, e5, rfl⟩ := hgood hbad
    rw [e5]
    simp only [Option.bind_some, cond_true, G7_k6_run, e22, pz, known_ok]
  · have e5 : G7_k5_run ((l, (depth, (week, (f, ((exs s l (allC (nC s) mo)).map (causeOf s), ()))))), (s, (p, ()))) = some (0, ((l, (depth, (week, (f, ((exs s l (allC (nC s) mo)).map (causeOf s), (false, ())))))), (s, (p, ())))) := by
      unfold G7_k5_run
      simp only [decide_eq_false (show ¬ depth < 0 by omega), decide_eq_false (show ¬ depth ≥ s.2.2.2.1 by omega), decide_eq_false (show ¬ week < 0 by omega), decide_eq_false (show ¬ week > 200 by omega), cond_false]
    rw [e5]
    simp only [Option.bind_some, cond_false]
    obtain ⟨d, rfl⟩ : ∃ d : Nat, depth = (d : Int) := ⟨depth.toNat, by omega⟩
    have hVA : ∀ x, ValA s l (mo : Int) (d : Int) week x ↔ ∃ b ∈ exs s l (allC (nC s) mo), Val s l b d week x := fun x => by
      unfold ValA
      rw [Int.toNat_natCast, Int.toNat_natCast]
      exact ⟨fun ⟨b, hb, hE, hv⟩ => ⟨b, exs_mem.2 ⟨hb, hE⟩, hv⟩, fun ⟨b, hb, hv⟩ => ⟨b, (exs_mem.1 hb).1, (exs_mem.1 hb).2, hv⟩⟩
    by_cases hne : exs s l (allC (nC s) mo) = []
    · rcases hres with ⟨_, rfl, rfl⟩ | ⟨h1, _⟩
      · rw [hne]
        have hz : ((List.length (([] : List Nat).map (causeOf s)) : Int) == 0) = true := rfl
        simp only [hz, cond_true, G7_k7_run, e55, pz, known_ok, Option.bind_some]
      · obtain ⟨b, hb, _⟩ := (hVA _).1 (h1.1 rfl).1
        rw [hne] at hb
        cases hb
    · have hpos := List.length_pos_iff.2 hne
      have hl0 : ((((exs s l (allC (nC s) mo)).map (causeOf s)).length : Int) == 0) = false := beq_eq_false_iff_ne.2 (by rw [List.length_map]; omega)
      simp only [hl0, cond_false]
      obtain ⟨b0, hb0⟩ := List.exists_mem_of_ne_nil _ hne
      have hex : ∃ x, ValA s l (mo : Int) (d : Int) week x := by
        obtain ⟨m, T, hT⟩ := (exs_mem.1 hb0).2 d (by omega)
        exact ⟨_, (hVA _).2 ⟨b0, hb0, m, T, hT, rfl⟩⟩
      rcases hres with ⟨h1, _⟩ | ⟨h1, rfl⟩
      · obtain ⟨x, hx⟩ := hex
        exact absurd hx (h1 x)
      · obtain ⟨q, e6, h2⟩ := rwhere_eq hs hsl.2.2 (show l.length ≤ 1000 by omega) (bs := exs s l (allC (nC s) mo)) (by omega) hlow d hok.2
        have h3 : Lim (ValA s l (mo : Int) (d : Int) week) q true := by
          rcases h2 with ⟨h2, _⟩ | h2
          · obtain ⟨x, hx⟩ := hex
            exact absurd ((hVA x).1 hx) (h2 x)
          · exact h2.iff fun x => (hVA x).symm
        obtain ⟨a1, a2, a3⟩ := h1.1 rfl
        obtain ⟨b1, b2, b3⟩ := h3.1 rfl
        have c1 := a3 _ b1
        have c2 := a3 _ b2
        have c3 := b3 _ a1
        have c4 := b3 _ a2
        have hp1 : (p.1 == q.1) = true := beq_iff_eq.2 (by omega)
        have hp2 : (p.2.1 == q.2.1) = true := beq_iff_eq.2 (by omega)
        simp only [G7_k8_run, e00, cond_true, e6, Option.bind_some, hp1, hp2, Bool.and_self, known_ok]
theorem law7 (s : E23) (l : List E72) (most depth week : Int) : G7 s l most depth week = some true := by
  unfold G7 G7_k0_run
  by_cases h1 : (s.2.2.2.2.1).length ≤ 12 ∧ l.length ≤ 29
  case neg =>
    rw [short_tells, decide_eq_false h1]
    simp only [Option.bind_some, Bool.not_false, cond_true, known_ok]
  simp only [short_tells, decide_eq_true h1, Option.bind_some, Bool.not_true, cond_false]
  have n00 : ((0 : Int) != 0) = false := rfl
  have n20 : ((2 : Int) != 0) = true := rfl
  have n30 : ((3 : Int) != 0) = true := rfl
  have e00 : ((0 : Int) == 0) = true := rfl
  have e20 : ((2 : Int) == 0) = false := rfl
  have e30 : ((3 : Int) == 0) = false := rfl
  have el0 : ((List.length ([] : List Int) : Int) == 0) = true := rfl
  have pz : (((0 : Int) == 0) && (((0 : Int) == 0) && true)) = true := rfl
  rcases wanted_eq s l (by omega) (by omega) with ⟨hl, e⟩ | ⟨hl, hn, e⟩ | ⟨hsl, e⟩
  · rcases sknown_eq s l most (by omega) with ⟨_, ek⟩ | ⟨h, _⟩ | ⟨h, _⟩
    · rcases swhere_eq s l most depth week (by omega) with ⟨_, ew⟩ | ⟨h, _⟩ | ⟨h, _⟩
      · simp only [e, ek, ew, Option.bind_some, e30, cond_false, G7_k1_run, G7_k2_run, G7_k3_run, n30, cond_true, beq_self_eq_true, el0, pz, known_ok]
        rfl
      · omega
      · have := h.1; omega
    · omega
    · have := h.1; omega
  · rcases sknown_eq s l most (by omega) with ⟨h, _⟩ | ⟨_, _, ek⟩ | ⟨h, _⟩
    · omega
    · rcases swhere_eq s l most depth week (by omega) with ⟨h, _⟩ | ⟨_, _, ew⟩ | ⟨h, _⟩
      · omega
      · simp only [e, ek, ew, Option.bind_some, e20, cond_false, G7_k1_run, G7_k2_run, G7_k3_run, n20, cond_true, beq_self_eq_true, el0, pz, known_ok]
        rfl
      · exact absurd h hn
    · exact absurd h hn
  have hs := hsl.2.1
  have hsl1 := hsl.1
  have hn10 := nC_le hs
  have hp10 : 2 ^ nC s ≤ 2 ^ 10 := Nat.pow_le_pow_right (by decide) hn10
  have hp : IntKind.wrap .i64 ((4 : Int) * ((2 ^ nC s : Nat) : Int)) ≠ 0 := by
    have := Nat.two_pow_pos (nC s)
    rw [wr (by omega) (by omega)]
    omega
  obtain ⟨lb, elb⟩ := light_some hs hsl.2.2 (by omega) hp
  simp only [e, Option.bind_some, e00, cond_true, causes_eq hs, power_eq hn10, elb]
  cases lb with
  | false => simp only [Bool.not_false, cond_true, known_ok, Option.bind_some]
  | true =>
    simp only [Bool.not_true, cond_false]
    by_cases hm : 0 ≤ most ∧ most ≤ ((nC s : Nat) : Int)
    · obtain ⟨w, ke, hk⟩ : ∃ w ke, g26_sense_Known s l most = some (w, (ke, ())) := by
        rcases sknown_eq s l most (by omega) with ⟨_, h⟩ | ⟨_, _, h⟩ | ⟨_, _, ⟨_, h⟩ | ⟨w, _, _, h⟩⟩
        · exact ⟨_, _, h⟩
        · exact ⟨_, _, h⟩
        · exact ⟨_, _, h⟩
        · exact ⟨_, _, h⟩
      obtain ⟨p, f, hw⟩ : ∃ p f, g28_sense_Where s l most depth week = some (p, (f, ())) := by
        rcases swhere_eq s l most depth week (by omega) with ⟨_, h⟩ | ⟨_, _, h⟩ | ⟨_, _, ⟨_, h⟩ | ⟨w, _, h⟩⟩
        · exact ⟨_, _, h⟩
        · exact ⟨_, _, h⟩
        · exact ⟨_, _, h⟩
        · exact ⟨_, _, h⟩
      simp only [hk, hw, Option.bind_some, G7_k2_run, G7_k1_run, e00, cond_true, decide_eq_false (show ¬ most < 0 by omega), cond_false, causes_eq hs, decide_eq_false (show ¬ most > ((nC s : Nat) : Int) by omega), n00]
      exact known_tail hsl hm depth week hk hw
    · have ek : g26_sense_Known s l most = some ([], (2, ())) := by
        rcases sknown_eq s l most (by omega) with ⟨h, _⟩ | ⟨_, _, h⟩ | ⟨_, h, _⟩
        · omega
        · exact h
        · exact absurd h hm
      have ew : g28_sense_Where s l most depth week = some ((0, (0, ())), (2, ())) := by
        rcases swhere_eq s l most depth week (by omega) with ⟨h, _⟩ | ⟨_, _, h⟩ | ⟨_, h, _⟩
        · omega
        · exact h
        · exact absurd h.1 hm
      by_cases hneg : most < 0
      · simp only [ek, ew, Option.bind_some, G7_k2_run, G7_k1_run, G7_k3_run, e00, cond_true, decide_eq_true hneg, n20, beq_self_eq_true, el0, pz, known_ok]
        rfl
      · simp only [ek, ew, Option.bind_some, G7_k2_run, G7_k1_run, G7_k3_run, e00, cond_true, cond_false, decide_eq_false hneg, causes_eq hs, decide_eq_true (show most > ((nC s : Nat) : Int) by omega), n20, beq_self_eq_true, el0, pz, known_ok]
        rfl
theorem G7_true : ∀ x : Els [.dat T23, .dat (.list T72), .dat (.int .i64), .dat (.int .i64), .dat (.int .i64)], wfs [.dat T23, .dat (.list T72), .dat (.int .i64), .dat (.int .i64), .dat (.int .i64)] x → G7 x.1 x.2.1 x.2.2.1 x.2.2.2.1 x.2.2.2.2.1 = some true := fun x _ => law7 _ _ _ _ _
end Go.Proofs.YtibmgbalfhfcdaaDoor.Abs
set_option linter.unusedVariables false
set_option maxRecDepth 100000
namespace Go.Proofs.YtibmgbalfhfcdaaDoor.Abs.senseKnown
open Go.ChangeShapes Go.WideShapes Go.RowKit
theorem own : ownKnob Tryd.prog.godebug = none := by kernel_rfl
theorem laidOut : laidOutB Tryd.prog = true := by kernel_rfl
theorem gTab : Tryd.prog.globalNamed "internal/strconv.uint64pow10" = some 0 := by kernel_rfl
theorem gTabType : (Tryd.prog.globals[0]?).map (·.type) = some 171 := by kernel_rfl
theorem cellsT : Tryd.prog.cellsOf 171 = 20 := by kernel_rfl
theorem cellsE : Tryd.prog.cellsOf 162 = 1 := by kernel_rfl
theorem undT : Tryd.prog.underlying 171 = some (.array 20 162) := by kernel_rfl
theorem undE : Tryd.prog.underlying 162 = some (.int .u64) := by kernel_rfl
theorem table {W : World} (h : laidMetH Tryd.prog Rows.senseKnownRow.laid W) : Lib.TabIs Tryd.prog W "internal/strconv.uint64pow10" .u64 [1, 10, 100, 1000, 10000, 100000, 1000000, 10000000, 100000000, 1000000000, 10000000000, 100000000000, 1000000000000, 10000000000000, 100000000000000, 1000000000000000, 10000000000000000, 100000000000000000, 1000000000000000000, 10000000000000000000] :=
  Lib.tabIs_of_head (rest := []) gTab gTabType undT undE cellsE cellsT (laidMet.tail (laidMet.tail (h)))
theorem tabOk {W : World} (h : laidMetH Tryd.prog Rows.senseKnownRow.laid W) : ∀ q ∈ TABS, ∃ e fr, W.heap[q.1]? = some (.cells q.2 e fr) := by
  have ht := table h
  unfold Lib.TabIs World.var? at ht
  rw [gTab] at ht
  simp only [Option.bind_some] at ht
  intro q hq
  have hq' : q = (0, _) := List.mem_singleton.1 hq
  subst hq'
  show ∃ e fr, W.heap[0]? = _
  split at ht
  · rename_i cs e fr hc
    exact ⟨e, fr, by rw [hc]; simp only [Option.some.injEq] at ht; rw [ht]; rfl⟩
  · cases ht
noncomputable def laidWorld (os : Os) : World :=
  { World.holding Tryd.prog os ⟨#[], #[], []⟩ with heap := ((((World.holding Tryd.prog os ⟨#[], #[], []⟩).heap.modify 2 fun | .cells _ t frozen => .cells #[.int .u8 0, .int .u8 1, .int .u8 28, .int .u8 2, .int .u8 29, .int .u8 14, .int .u8 24, .int .u8 3, .int .u8 30, .int .u8 22, .int .u8 20, .int .u8 15, .int .u8 25, .int .u8 17, .int .u8 4, .int .u8 8, .int .u8 31, .int .u8 27, .int .u8 13, .int .u8 23, .int .u8 21, .int .u8 19, .int .u8 16, .int .u8 7, .int .u8 26, .int .u8 12, .int .u8 18, .int .u8 6, .int .u8 11, .int .u8 5, .int .u8 10, .int .u8 9] t frozen | o => o).modify 3 fun | .cells _ t frozen => .cells #[.int .u8 0, .int .u8 1, .int .u8 56, .int .u8 2, .int .u8 57, .int .u8 49, .int .u8 28, .int .u8 3, .int .u8 61, .int .u8 58, .int .u8 42, .int .u8 50, .int .u8 38, .int .u8 29, .int .u8 17, .int .u8 4, .int .u8 62, .int .u8 47, .int .u8 59, .int .u8 36, .int .u8 45, .int .u8 43, .int .u8 51, .int .u8 22, .int .u8 53, .int .u8 39, .int .u8 33, .int .u8 30, .int .u8 24, .int .u8 18, .int .u8 12, .int .u8 5, .int .u8 63, .int .u8 55, .int .u8 48, .int .u8 27, .int .u8 60, .int .u8 41, .int .u8 37, .int .u8 16, .int .u8 46, .int .u8 35, .int .u8 44, .int .u8 21, .int .u8 52, .int .u8 32, .int .u8 23, .int .u8 11, .int .u8 54, .int .u8 26, .int .u8 40, .int .u8 15, .int .u8 34, .int .u8 20, .int .u8 31, .int .u8 10, .int .u8 25, .int .u8 14, .int .u8 19, .int .u8 9, .int .u8 13, .int .u8 8, .int .u8 7, .int .u8 6] t frozen | o => o).modify 0 fun | .cells _ t frozen => .cells #[.int .u64 1, .int .u64 10, .int .u64 100, .int .u64 1000, .int .u64 10000, .int .u64 100000, .int .u64 1000000, .int .u64 10000000, .int .u64 100000000, .int .u64 1000000000, .int .u64 10000000000, .int .u64 100000000000, .int .u64 1000000000000, .int .u64 10000000000000, .int .u64 100000000000000, .int .u64 1000000000000000, .int .u64 10000000000000000, .int .u64 100000000000000000, .int .u64 1000000000000000000, .int .u64 10000000000000000000] t frozen | o => o) }
theorem laid_met (os : Os) : laidMet Tryd.prog Rows.senseKnownRow.laid ((laidWorld os).forCall (fun _ _ => 0) ⟨#[], #[(Value.agg #[.int .i64 0, .int .i64 0, .int .i64 0, .int .i64 0, .slice none 0 0]), (Value.slice none 0 0), (Value.int .i64 0), (Value.int .i64 0), (Value.int .i64 0)], []⟩).memory :=
  laidMet_of_run' 8 (by kernel_rfl) (by kernel_rfl)
theorem reads (os : Os) {H : Type} (enc : TypeId × Value → H) : ∃ places, DataW.whole enc Tryd.prog ((laidWorld os).forCall (fun _ _ => 0) ⟨#[], #[(Value.agg #[.int .i64 0, .int .i64 0, .int .i64 0, .int .i64 0, .slice none 0 0]), (Value.slice none 0 0), (Value.int .i64 0), (Value.int .i64 0), (Value.int .i64 0)], []⟩).memory Tryd.f7.params.toList Rows.senseKnownSpec.vars false #[(Value.agg #[.int .i64 0, .int .i64 0, .int .i64 0, .int .i64 0, .slice none 0 0]), (Value.slice none 0 0), (Value.int .i64 0), (Value.int .i64 0), (Value.int .i64 0)].toList 16 = some ([.agg [.lit (.int .i64 0), .lit (.int .i64 0), .lit (.int .i64 0), .lit (.int .i64 0), .nil], .nil, .lit (.int .i64 0), .lit (.int .i64 0), .lit (.int .i64 0)], [], places) :=
  ⟨[], by kernel_rfl⟩
theorem spec_fn (H : Type) : (ds : List (DataW H)) → ds.length = Tryd.f7.params.toList.length → (Rows.senseKnownSpec.fn H ds).results = [.lit (.bool true)] ∧ (Rows.senseKnownSpec.fn H ds).args = ds ∧ (Rows.senseKnownSpec.fn H ds).vars = []
  | [], h => by rw [show Tryd.f7.params.toList.length = 5 from by kernel_rfl] at h; simp at h
  | [d0], h => by rw [show Tryd.f7.params.toList.length = 5 from by kernel_rfl] at h; simp at h
  | [d0, d1], h => by rw [show Tryd.f7.params.toList.length = 5 from by kernel_rfl] at h; simp at h
  | [d0, d1, d2], h => by rw [show Tryd.f7.params.toList.length = 5 from by kernel_rfl] at h; simp at h
  | [d0, d1, d2, d3], h => by rw [show Tryd.f7.params.toList.length = 5 from by kernel_rfl] at h; simp at h
  | [d0, d1, d2, d3, d4], _ => ⟨rfl, rfl, rfl⟩
  | d0 :: d1 :: d2 :: d3 :: d4 :: _ :: _, h => by rw [show Tryd.f7.params.toList.length = 5 from by kernel_rfl] at h; simp at h
theorem contract (H : Type) (enc : TypeId × Value → H) (W : World) (base : Nat) (args : Array Value) (ds gs : List (DataW H)) (before : List MemPlace)
    (hval : ∀ (j : Nat) t v, Tryd.f7.params[j]? = some t → args[j]? = some v → Value.okWide Tryd.prog W .any base t v)
    (hW : DataW.Whole enc Tryd.prog Tryd.f7.params.toList Rows.senseKnownSpec.vars false W args.toList ds gs before) (hL : laidMetH Tryd.prog Rows.senseKnownRow.laid W) :
    Calls Tryd.prog 7 args W fun e W' => ∃ v, e = .returned v ∧ Rows.senseKnownSpec.post enc Tryd.prog Tryd.f7 false true false false W args v W' :=
  law_contract (n := 20) (fun x r h => G7_lcall x r h) (fun x hx => G7_true x hx) (by decide) (show Tryd.f7.resultTypes = #[4] by kernel_rfl) (by kernel_rfl) (by kernel_rfl) laidOut (by
    intro t ht
    have : (Tryd.f7.params.toList.all fun t => Tryd.prog.readableRec t && decide (t < Tryd.prog.types.size)) = true := by kernel_rfl
    have := List.all_eq_true.1 this t ht
    simpa using this) rfl spec_fn hval hW (tabOk hL)
theorem lifted (os : Os) (started : os.Started) (H : Type) (enc : TypeId × Value → H) (F : Stop.Interp) :
    ReturnsInHanded {} Tryd.checked os 7 .any ((OpenSpec.ofChange Rows.senseKnownSpec).preRow enc Tryd.prog Tryd.f7 Rows.senseKnownRow.domain false Rows.senseKnownRow.laid) (((OpenSpec.ofChange Rows.senseKnownSpec).at F).post enc Tryd.prog Tryd.f7 false true false false) := by
  obtain ⟨places, hx⟩ := reads os enc
  refine returnsInHanded_of_row (C := Tryd.checked) (s := OpenSpec.ofChange Rows.senseKnownSpec) own started (by kernel_rfl) Tryd.func7
    (witness_row_at (enc := enc) (C := Tryd.checked) false (laidWorld os) #[(Value.agg #[.int .i64 0, .int .i64 0, .int .i64 0, .int .i64 0, .slice none 0 0]), (Value.slice none 0 0), (Value.int .i64 0), (Value.int .i64 0), (Value.int .i64 0)] rfl (by kernel_rfl) (by kernel_rfl) (by kernel_rfl)
      (OpenSpec.preRow_of_cond 16 hx (by kernel_rfl) (fun k hk => by cases hk) (by kernel_rfl) (laid_met os))) ?_
  intro W base args ds gs before hval hW _ _ _ hL _ _
  exact contract H enc W base args ds gs before hval hW hL
theorem said : Rows.SenseKnownSaid :=
  OpenClaim.holds_of_cond 7 Tryd.f7 rfl rfl rfl rfl rfl rfl rfl ⟨rfl, rfl, rfl, rfl, rfl⟩ rfl rfl rfl rfl rfl (by kernel_rfl) Tryd.func7 (by kernel_rfl)
    (of_decide_eq_true (by kernel_rfl)) (by unfold Func.isWrapper; first | (rw [if_pos (by decide +kernel)]; kernel_rfl) | (rw [if_neg (by decide +kernel)]; exact ⟨rfl, rfl⟩))
    (fun os started H enc _ F => by rw [OpenClaim.pre_eq_preRow]; exact lifted os started H enc F)
theorem plain (f : FuncId) (fn : Func) (hf : Tryd.pinned.checked.prog.funcNamed "talik/taliklaw05.SenseKnown" = some f) (hfn : Tryd.pinned.checked.prog.funcs[f]? = some fn) :
    false = Tryd.pinned.checked.prog.looks [] ∧ ∀ (j : Nat) t, fn.params[j]? = some t → Tryd.pinned.checked.prog.wantsStandIn t = false := by
  obtain rfl : f = 7 := Option.some.inj ((show Tryd.prog.funcNamed "talik/taliklaw05.SenseKnown" = some 7 by kernel_rfl).symm.trans hf) |>.symm
  obtain rfl : fn = Tryd.f7 := (Option.some.inj (Tryd.func7.symm.trans hfn)).symm
  refine ⟨by kernel_rfl, fun j t ht => ?_⟩
  have h : (Tryd.f7.params.toList.all fun t => !Tryd.prog.wantsStandIn t) = true := by kernel_rfl
  have := List.all_eq_true.1 h t (by rw [← Array.getElem?_toList] at ht; exact List.mem_of_getElem? ht)
  exact (show Tryd.prog.wantsStandIn t = false by simpa using this)
theorem card : Rows.SenseKnownCardSaid :=
  Claim7.holds_tied_plain_at .later [] _ _ _ _ said (fun _ h => by cases h) (by kernel_rfl) (fun _ h => by cases h) senseKnown_row_tie rfl ⟨rfl, rfl⟩ (by kernel_rfl) rfl plain (by kernel_rfl)
end Go.Proofs.YtibmgbalfhfcdaaDoor.Abs.senseKnown
namespace Go.Proofs.YtibmgbalfhfcdaaDoor
theorem senseKnown_card : Rows.SenseKnownCardSaid := Abs.senseKnown.card
end Go.Proofs.YtibmgbalfhfcdaaDoor
