import Derived.Test.YtibmgbalfhfcdaaDoorF3
import Derived.Test.YtibmgbalfhfcdaaDoorP1
import Derived.Test.YtibmgbalfhfcdaaDoorA3
import Derived.Test.YtibmgbalfhfcdaaDoorCards
import Derived.Test.YtibmgbalfhfcdaaDoorTie
import Derived.WalkKit
import Derived.ProofKit
import Derived.OpenShut
import Derived.Deep.DeepHandedRow
import Derived.Lib.LaidTab
import Derived.Stop.LaidErr
set_option linter.unusedVariables false
set_option maxRecDepth 100000
namespace Go.Proofs.YtibmgbalfhfcdaaDoor.Abs
open Go.Shelf Go.Sort
noncomputable def G3_C : CalT := tabC [G11_E, G15_E, G12_E, G13_E, G14_E, G16_E, G17_E, G18_E, G19_E, G20_E]
theorem G3_CV : CV Tryd.prog G3_C := tabC_valid (l := _) ⟨G11_valid, G15_valid, G12_valid, G13_valid, G14_valid, G16_valid, G17_valid, G18_valid, G19_valid, G20_valid, trivial⟩
noncomputable def G3_k0_S0 : SPat := ⟨[.any, .dat (.list T72), .any, .fix (.bptr 0 []), .any, .fix (.bptr 1 []), .any, .any, .any, .any, .any, .any, .any, .any, .any, .any, .any, .any, .any, .any, .any, .any, .any, .any, .any, .any, .any, .any, .any, .any, .any, .any, .any, .any, .any, .any, .any, .any, .any, .any, .any, .any, .any, .any, .any, .any, .any, .any, .any, .any, .any, .any, .any, .any, .any, .any, .any, .any, .any, .any, .any, .any, .any, .any, .any, .any, .any, .any, .any, .any, .any, .any, .any, .any, .any, .any, .any, .any, .any, .any, .any, .any, .any, .any, .any, .any, .any, .any, .any, .any, .any, .any, .any, .any, .any, .any, .any, .any, .any, .any, .any, .any, .any, .any, .any, .any, .any, .any, .any, .any, .any, .any, .any, .any, .any, .any, .any, .any, .any, .any], [.dat T23, .dat T26], 0⟩
noncomputable def G3_k0_S1 : SPat := ⟨[.any, .dat (.list T72), .any, .fix (.bptr 0 []), .any, .fix (.bptr 1 []), .any, .any, .any, .any, .any, .any, .any, .any, .any, .any, .any, .any, .any, .any, .any, .any, .any, .any, .any, .any, .any, .any, .any, .any, .any, .any, .any, .any, .any, .dat .bool, .any, .any, .any, .any, .any, .any, .any, .any, .any, .any, .any, .any, .any, .any, .any, .any, .any, .any, .any, .any, .any, .any, .any, .any, .any, .any, .any, .any, .any, .any, .any, .any, .any, .any, .any, .any, .any, .any, .any, .any, .any, .any, .any, .any, .any, .any, .any, .any, .any, .any, .any, .any, .any, .any, .any, .any, .any, .any, .any, .any, .any, .any, .any, .any, .any, .any, .any, .any, .any, .any, .any, .any, .any, .any, .any, .any, .any, .any, .any, .any, .any, .any, .any, .any], [.dat T23, .dat T26], 0⟩
noncomputable def G3_k0_run (s : (((List E72) × Unit) × (E23 × (E26 × Unit)))) : Option (Nat × (((List E72) × (Bool × Unit)) × (E23 × (E26 × Unit)))) :=
  (Option.bind (G11 s.2.1 s.1.1) fun r16 =>
  (bif (!r16) then
    some (0, ((s.1.1, (true, ())), (s.2.1, (s.2.2.1, ()))))
    else
    (Option.bind (G12 s.2.2.1 ([], ([], ([], ())))) fun r17 =>
      (bif (!r17) then
        some (0, ((s.1.1, (true, ())), (s.2.1, (s.2.2.1, ()))))
        else
        (Option.bind (G13 s.2.1 s.1.1) fun r18 =>
          (bif (r18 == 0) then
            (Option.bind (G14 s.2.1 s.1.1 4) fun r19 =>
              some (0, ((s.1.1, ((!r19), ())), (s.2.1, (s.2.2.1, ())))))
            else
            some (0, ((s.1.1, (false, ())), (s.2.1, (s.2.2.1, ()))))))))))
noncomputable def G3_k0_L : LoopT := cutT G3_k0_S0 G3_k0_S1 [.normal] G3_k0_run
noncomputable def G3_k1_S0 : SPat := ⟨[.any, .dat (.list T72), .any, .fix (.bptr 0 []), .any, .fix (.bptr 1 []), .any, .dat .bool, .dat (.int .i64), .fix (.bptr 2 []), .dat (.int .i64), .dat (.int .i64), .any, .any, .any, .any, .any, .any, .any, .any, .any, .any, .any, .any, .any, .any, .any, .any, .any, .any, .any, .any, .any, .any, .any, .any, .any, .any, .any, .any, .any, .any, .any, .any, .any, .any, .any, .any, .any, .any, .any, .any, .any, .any, .any, .any, .any, .any, .any, .any, .any, .any, .any, .any, .any, .any, .any, .any, .any, .any, .any, .any, .any, .any, .any, .any, .any, .any, .any, .any, .any, .any, .any, .any, .any, .any, .any, .any, .any, .any, .any, .any, .any, .any, .any, .any, .any, .any, .any, .any, .any, .any, .any, .any, .any, .any, .any, .any, .any, .any, .any, .any, .any, .any, .any, .any, .any, .any, .any, .any], [.dat T23, .dat T26, .dat T30], 0⟩
noncomputable def G3_k1_S1 : SPat := ⟨[.any, .dat (.list T72), .any, .fix (.bptr 0 []), .any, .fix (.bptr 1 []), .any, .dat .bool, .dat (.int .i64), .fix (.bptr 2 []), .dat (.int .i64), .dat (.int .i64), .any, .any, .any, .any, .any, .any, .any, .any, .any, .any, .any, .any, .any, .any, .any, .any, .any, .any, .any, .any, .any, .any, .any, .any, .any, .any, .any, .any, .any, .any, .any, .any, .any, .any, .any, .any, .any, .any, .any, .any, .any, .any, .any, .any, .any, .any, .any, .any, .any, .dat .bool, .any, .any, .any, .any, .any, .any, .any, .any, .any, .any, .any, .any, .any, .any, .any, .any, .any, .any, .any, .any, .any, .any, .any, .any, .any, .any, .any, .any, .any, .any, .any, .any, .any, .any, .any, .any, .any, .any, .any, .any, .any, .any, .any, .any, .any, .any, .any, .any, .any, .any, .any, .any, .any, .any, .any, .any, .any, .any], [.dat T23, .dat T26, .dat T30], 0⟩
abbrev TY102 : Type := (((List E72) × (Bool × (Int × (Int × (Int × Unit))))) × (E23 × (E26 × (E30 × Unit))))
abbrev TY103 : Type := (Nat × (((List E72) × (Bool × (Int × (Int × (Int × (Bool × Unit)))))) × (E23 × (E26 × (E30 × Unit)))))
noncomputable def G3_k1_run (s : TY102) : Option TY103 :=
  (bif (s.1.2.2.2.2.1 == 0) then
  (Option.bind (G18 s.2.1 s.2.2.1) fun r34 =>
    some (0, ((s.1.1, (s.1.2.1, (s.1.2.2.1, (s.1.2.2.2.1, (s.1.2.2.2.2.1, ((!r34), ())))))), (s.2.1, (s.2.2.1, (s.2.2.2.1, ()))))))
  else
  some (0, ((s.1.1, (s.1.2.1, (s.1.2.2.1, (s.1.2.2.2.1, (s.1.2.2.2.2.1, (false, ())))))), (s.2.1, (s.2.2.1, (s.2.2.2.1, ()))))))
noncomputable def G3_k1_L : LoopT := cutT G3_k1_S0 G3_k1_S1 [.normal] G3_k1_run
noncomputable def G3_k2_S0 : SPat := ⟨[.any, .dat (.list T72), .any, .fix (.bptr 0 []), .any, .fix (.bptr 1 []), .any, .dat .bool, .dat (.int .i64), .fix (.bptr 2 []), .dat (.int .i64), .dat (.int .i64), .any, .any, .any, .any, .any, .any, .any, .any, .any, .any, .any, .any, .any, .any, .any, .any, .any, .any, .any, .any, .any, .any, .any, .any, .any, .any, .any, .any, .any, .any, .any, .any, .any, .any, .any, .any, .any, .any, .any, .any, .any, .any, .any, .any, .any, .any, .any, .any, .any, .any, .any, .any, .any, .any, .any, .any, .any, .any, .any, .any, .any, .any, .any, .any, .any, .any, .any, .any, .any, .any, .any, .any, .any, .any, .any, .any, .any, .any, .any, .any, .any, .any, .any, .any, .any, .any, .any, .any, .any, .any, .any, .any, .any, .any, .any, .any, .any, .any, .any, .any, .any, .any, .any, .any, .any, .any, .any, .any], [.dat T23, .dat T26, .dat T30], 0⟩
noncomputable def G3_k2_S1 : SPat := ⟨[.any, .dat (.list T72), .any, .fix (.bptr 0 []), .any, .fix (.bptr 1 []), .any, .dat .bool, .dat (.int .i64), .fix (.bptr 2 []), .dat (.int .i64), .dat (.int .i64), .any, .any, .any, .any, .any, .any, .any, .any, .any, .any, .any, .any, .any, .any, .any, .any, .any, .any, .any, .any, .any, .any, .any, .any, .any, .any, .any, .any, .any, .any, .any, .any, .any, .any, .any, .any, .any, .any, .any, .any, .any, .any, .any, .any, .any, .any, .any, .any, .any, .any, .any, .any, .any, .any, .any, .any, .any, .any, .any, .any, .any, .any, .any, .any, .any, .any, .any, .any, .any, .any, .any, .any, .any, .any, .any, .any, .any, .any, .any, .any, .any, .any, .any, .any, .any, .any, .any, .any, .any, .any, .any, .any, .any, .any, .any, .any, .any, .any, .any, .any, .any, .any, .any, .any, .any, .any, .any, .any], [.dat T23, .dat T26, .dat T30], 0⟩
abbrev TY104 : Type := (Nat × (((List E72) × (Bool × (Int × (Int × (Int × Unit))))) × (E23 × (E26 × (E30 × Unit)))))
noncomputable def G3_k2_run (s : TY102) : Option TY104 :=
  (Option.bind (G3_k1_run ((s.1.1, (s.1.2.1, (s.1.2.2.1, (s.1.2.2.2.1, (s.1.2.2.2.2.1, ()))))), (s.2.1, (s.2.2.1, (s.2.2.2.1, ()))))) fun q36 =>
  (bif q36.2.1.2.2.2.2.2.1 then
    some (0, ((q36.2.1.1, (q36.2.1.2.1, (q36.2.1.2.2.1, (q36.2.1.2.2.2.1, (2, ()))))), (q36.2.2.1, (q36.2.2.2.1, (q36.2.2.2.2.1, ())))))
    else
    some (0, ((q36.2.1.1, (q36.2.1.2.1, (q36.2.1.2.2.1, (q36.2.1.2.2.2.1, (q36.2.1.2.2.2.2.1, ()))))), (q36.2.2.1, (q36.2.2.2.1, (q36.2.2.2.2.1, ())))))))
noncomputable def G3_k2_L : LoopT := cutT G3_k2_S0 G3_k2_S1 [.normal] G3_k2_run
noncomputable def G3_k3_S0 : SPat := ⟨[.any, .any, .any, .any, .any, .any, .any, .dat .bool, .dat (.int .i64), .fix (.bptr 2 []), .dat (.int .i64), .dat (.int .i64), .any, .any, .any, .any, .any, .any, .any, .any, .any, .any, .any, .any, .any, .any, .any, .any, .any, .any, .any, .any, .any, .any, .any, .any, .any, .any, .any, .any, .any, .any, .any, .any, .any, .any, .any, .any, .any, .any, .any, .any, .any, .any, .any, .any, .any, .any, .any, .any, .any, .any, .any, .any, .any, .any, .any, .any, .any, .any, .any, .any, .any, .any, .any, .any, .any, .any, .any, .any, .any, .any, .any, .any, .any, .any, .any, .any, .any, .any, .any, .any, .any, .any, .any, .any, .any, .any, .any, .any, .any, .any, .any, .any, .any, .any, .any, .any, .any, .any, .any, .any, .any, .any, .any, .any, .any, .any, .any, .any], [.dat T23, .dat T26, .dat T30], 0⟩
noncomputable def G3_k3_S1 : SPat := ⟨[.any, .any, .any, .any, .any, .any, .dat .bool, .any, .any, .any, .any, .any, .any, .any, .any, .any, .any, .any, .any, .any, .any, .any, .any, .any, .any, .any, .any, .any, .any, .any, .any, .any, .any, .any, .any, .any, .any, .any, .any, .any, .any, .any, .any, .any, .any, .any, .any, .any, .any, .any, .any, .any, .any, .any, .any, .any, .any, .any, .any, .any, .any, .any, .any, .any, .any, .any, .any, .any, .any, .any, .any, .any, .any, .any, .any, .any, .any, .any, .any, .any, .any, .any, .any, .any, .any, .any, .any, .any, .any, .any, .any, .any, .any, .any, .any, .any, .any, .any, .any, .any, .any, .any, .any, .any, .any, .any, .any, .any, .any, .any, .any, .any, .any, .any, .any, .any, .any, .any, .any, .any], [.dat T23, .dat T26, .dat T30], 0⟩
noncomputable def G3_k3_run (s : ((Bool × (Int × (Int × (Int × Unit)))) × (E23 × (E26 × (E30 × Unit))))) : Option (Nat × ((Bool × Unit) × (E23 × (E26 × (E30 × Unit))))) :=
  (bif (s.1.2.1 == s.1.2.2.2.1) then
  (bif (s.1.2.2.1 == s.1.2.2.2.1) then
    (bif (!s.1.1) then
      (Option.bind (G19 s.2.2.2.1 ([], ([], ([], ())))) fun r44 =>
        (bif r44 then
          (Option.bind G15 fun r45 =>
            some (0, ((r45, ()), (s.2.1, (s.2.2.1, (s.2.2.2.1, ()))))))
          else
          some (0, ((false, ()), (s.2.1, (s.2.2.1, (s.2.2.2.1, ())))))))
      else
      some (0, ((false, ()), (s.2.1, (s.2.2.1, (s.2.2.2.1, ()))))))
    else
    some (0, ((false, ()), (s.2.1, (s.2.2.1, (s.2.2.2.1, ()))))))
  else
  some (0, ((false, ()), (s.2.1, (s.2.2.1, (s.2.2.2.1, ()))))))
noncomputable def G3_k3_L : LoopT := cutT G3_k3_S0 G3_k3_S1 [.normal] G3_k3_run
noncomputable def G3_k4_S0 : SPat := ⟨[.any, .any, .any, .any, .any, .any, .any, .dat .bool, .dat (.int .i64), .fix (.bptr 2 []), .dat (.int .i64), .any, .fix (.bptr 3 []), .dat .bool, .any, .any, .any, .any, .any, .any, .any, .any, .any, .any, .any, .any, .any, .any, .any, .any, .any, .any, .any, .any, .any, .any, .any, .any, .any, .any, .any, .any, .any, .any, .any, .any, .any, .any, .any, .any, .any, .any, .any, .any, .any, .any, .any, .any, .any, .any, .any, .any, .any, .any, .any, .any, .any, .any, .any, .any, .any, .any, .any, .any, .any, .any, .any, .any, .any, .any, .any, .any, .any, .any, .any, .any, .any, .any, .any, .any, .any, .any, .any, .any, .any, .any, .any, .any, .any, .any, .any, .any, .any, .any, .any, .any, .any, .any, .any, .any, .any, .any, .any, .any, .any, .any, .any, .any, .any, .any], [.dat T23, .dat T26, .dat T30, .dat T30], 0⟩
noncomputable def G3_k4_S1 : SPat := ⟨[.any, .any, .any, .any, .any, .any, .any, .any, .any, .fix (.bptr 2 []), .dat (.int .i64), .any, .fix (.bptr 3 []), .dat .bool, .any, .any, .any, .any, .any, .any, .any, .any, .any, .any, .any, .any, .any, .any, .any, .any, .any, .any, .any, .any, .any, .any, .any, .any, .any, .any, .any, .any, .any, .any, .any, .any, .any, .any, .any, .any, .any, .any, .any, .any, .any, .any, .any, .any, .any, .any, .any, .any, .any, .any, .any, .any, .any, .any, .any, .any, .any, .any, .any, .any, .any, .any, .any, .any, .any, .any, .any, .any, .any, .any, .any, .any, .any, .any, .any, .any, .any, .any, .any, .any, .any, .any, .any, .dat .bool, .any, .any, .any, .any, .any, .any, .any, .any, .any, .any, .any, .any, .any, .any, .any, .any, .any, .any, .any, .any, .any, .any], [.dat T23, .dat T26, .dat T30, .dat T30], 0⟩
abbrev TY105 : Type := (Nat × ((Int × (Bool × (Bool × Unit))) × (E23 × (E26 × (E30 × (E30 × Unit))))))
noncomputable def G3_k4_run (s : ((Bool × (Int × (Int × (Bool × Unit)))) × (E23 × (E26 × (E30 × (E30 × Unit)))))) : Option TY105 :=
  (bif (s.1.2.1 != 0) then
  some (0, ((s.1.2.2.1, (s.1.2.2.2.1, (true, ()))), (s.2.1, (s.2.2.1, (s.2.2.2.1, (s.2.2.2.2.1, ()))))))
  else
  some (0, ((s.1.2.2.1, (s.1.2.2.2.1, ((!(s.1.1 == s.1.2.2.2.1)), ()))), (s.2.1, (s.2.2.1, (s.2.2.2.1, (s.2.2.2.2.1, ())))))))
noncomputable def G3_k4_L : LoopT := cutT G3_k4_S0 G3_k4_S1 [.normal] G3_k4_run
noncomputable def G3_k5_S0 : SPat := ⟨[.any, .any, .any, .any, .any, .any, .any, .any, .any, .fix (.bptr 2 []), .dat (.int .i64), .any, .any, .any, .any, .any, .any, .any, .any, .any, .any, .any, .any, .any, .any, .any, .any, .any, .any, .any, .any, .any, .any, .any, .any, .any, .any, .any, .any, .any, .any, .any, .any, .any, .any, .any, .any, .any, .any, .any, .any, .any, .any, .any, .any, .any, .any, .any, .any, .any, .any, .any, .any, .any, .any, .any, .any, .any, .any, .any, .any, .any, .any, .any, .any, .any, .any, .any, .any, .any, .any, .any, .any, .any, .any, .any, .any, .any, .any, .any, .any, .any, .any, .any, .any, .any, .any, .any, .any, .any, .any, .any, .any, .any, .any, .any, .any, .any, .any, .any, .any, .any, .any, .any, .any, .any, .any, .any, .any, .any], [.dat T23, .dat T26, .dat T30, .dat T30], 0⟩
noncomputable def G3_k5_S1 : SPat := ⟨[.any, .any, .any, .any, .any, .any, .dat .bool, .any, .any, .any, .any, .any, .any, .any, .any, .any, .any, .any, .any, .any, .any, .any, .any, .any, .any, .any, .any, .any, .any, .any, .any, .any, .any, .any, .any, .any, .any, .any, .any, .any, .any, .any, .any, .any, .any, .any, .any, .any, .any, .any, .any, .any, .any, .any, .any, .any, .any, .any, .any, .any, .any, .any, .any, .any, .any, .any, .any, .any, .any, .any, .any, .any, .any, .any, .any, .any, .any, .any, .any, .any, .any, .any, .any, .any, .any, .any, .any, .any, .any, .any, .any, .any, .any, .any, .any, .any, .any, .any, .any, .any, .any, .any, .any, .any, .any, .any, .any, .any, .any, .any, .any, .any, .any, .any, .any, .any, .any, .any, .any, .any], [.dat T23, .dat T26, .dat T30, .dat T30], 0⟩
noncomputable def G3_k5_run (s : ((Int × Unit) × (E23 × (E26 × (E30 × (E30 × Unit)))))) : Option (Nat × ((Bool × Unit) × (E23 × (E26 × (E30 × (E30 × Unit)))))) :=
  (bif (s.1.1 == 5) then
  (Option.bind (G19 s.2.2.2.1 ([], ([], ([], ())))) fun r56 =>
    (bif r56 then
      (Option.bind G15 fun r57 =>
        some (0, ((r57, ()), (s.2.1, (s.2.2.1, (s.2.2.2.1, (s.2.2.2.2.1, ())))))))
      else
      some (0, ((false, ()), (s.2.1, (s.2.2.1, (s.2.2.2.1, (s.2.2.2.2.1, ()))))))))
  else
  some (0, ((false, ()), (s.2.1, (s.2.2.1, (s.2.2.2.1, (s.2.2.2.2.1, ())))))))
noncomputable def G3_k5_L : LoopT := cutT G3_k5_S0 G3_k5_S1 [.normal] G3_k5_run
noncomputable def G3_k6_S0 : SPat := ⟨[.any, .any, .any, .any, .any, .any, .any, .any, .any, .fix (.bptr 2 []), .dat (.int .i64), .any, .fix (.bptr 3 []), .any, .any, .any, .any, .any, .any, .any, .any, .any, .any, .any, .any, .any, .any, .any, .any, .any, .any, .any, .any, .any, .any, .any, .any, .any, .any, .any, .any, .any, .any, .any, .any, .any, .any, .any, .any, .any, .any, .any, .any, .any, .any, .any, .any, .any, .any, .any, .any, .any, .any, .any, .any, .any, .any, .any, .any, .any, .any, .any, .any, .any, .any, .any, .any, .any, .any, .any, .any, .any, .any, .any, .any, .any, .any, .any, .any, .any, .any, .any, .any, .any, .any, .any, .any, .any, .any, .any, .any, .any, .any, .any, .any, .any, .any, .any, .any, .any, .any, .any, .any, .any, .any, .any, .any, .any, .any, .any], [.dat T23, .dat T26, .dat T30, .dat T30], 0⟩
noncomputable def G3_k6_S1 : SPat := ⟨[.any, .any, .any, .any, .any, .any, .dat .bool, .any, .any, .any, .any, .any, .any, .any, .any, .any, .any, .any, .any, .any, .any, .any, .any, .any, .any, .any, .any, .any, .any, .any, .any, .any, .any, .any, .any, .any, .any, .any, .any, .any, .any, .any, .any, .any, .any, .any, .any, .any, .any, .any, .any, .any, .any, .any, .any, .any, .any, .any, .any, .any, .any, .any, .any, .any, .any, .any, .any, .any, .any, .any, .any, .any, .any, .any, .any, .any, .any, .any, .any, .any, .any, .any, .any, .any, .any, .any, .any, .any, .any, .any, .any, .any, .any, .any, .any, .any, .any, .any, .any, .any, .any, .any, .any, .any, .any, .any, .any, .any, .any, .any, .any, .any, .any, .any, .any, .any, .any, .any, .any, .any], [.dat T23, .dat T26, .dat T30, .dat T30], 0⟩
noncomputable def G3_k6_run (s : ((Int × Unit) × (E23 × (E26 × (E30 × (E30 × Unit)))))) : Option (Nat × ((Bool × Unit) × (E23 × (E26 × (E30 × (E30 × Unit)))))) :=
  (bif (s.1.1 == 0) then
  (Option.bind (G19 s.2.2.2.1 s.2.2.2.2.1) fun r63 =>
    (bif r63 then
      (Option.bind G15 fun r64 =>
        some (0, ((r64, ()), (s.2.1, (s.2.2.1, (s.2.2.2.1, (s.2.2.2.2.1, ())))))))
      else
      some (0, ((false, ()), (s.2.1, (s.2.2.1, (s.2.2.2.1, (s.2.2.2.2.1, ()))))))))
  else
  some (0, ((false, ()), (s.2.1, (s.2.2.1, (s.2.2.2.1, (s.2.2.2.2.1, ())))))))
noncomputable def G3_k6_L : LoopT := cutT G3_k6_S0 G3_k6_S1 [.normal] G3_k6_run
noncomputable def G3 (a0 : E23) (a1 : (List E72)) (a2 : E26) : Option Bool :=
  (Option.bind (G3_k0_run ((a1, ()), (a0, (a2, ())))) fun q23 =>
  (bif q23.2.1.2.1 then
    (Option.bind G15 fun r24 =>
      some r24)
    else
    (Option.bind (G16 q23.2.2.1 q23.2.1.1 q23.2.2.2.1) fun r26 =>
      (Option.bind (G17 q23.2.2.1 q23.2.1.1 q23.2.2.2.1) fun r28 =>
        (Option.bind (G13 q23.2.2.1 q23.2.1.1) fun r30 =>
          (Option.bind (G3_k2_run ((q23.2.1.1, (r26.1, (r26.2.1, (r28.2.1, (r30, ()))))), (q23.2.2.1, (q23.2.2.2.1, (r28.1, ()))))) fun q37 =>
            (bif (q37.2.1.2.2.2.2.1 != 0) then
              (Option.bind (G3_k3_run ((q37.2.1.2.1, (q37.2.1.2.2.1, (q37.2.1.2.2.2.1, (q37.2.1.2.2.2.2.1, ())))), (q37.2.2.1, (q37.2.2.2.1, (q37.2.2.2.2.1, ()))))) fun q46 =>
                some q46.2.1.1)
              else
              (Option.bind (G20 q37.2.2.1 q37.2.1.1 q37.2.2.2.1) fun r48 =>
                (Option.bind (G3_k4_run ((q37.2.1.2.1, (q37.2.1.2.2.1, (q37.2.1.2.2.2.1, (r48.2.1, ())))), (q37.2.2.1, (q37.2.2.2.1, (q37.2.2.2.2.1, (r48.1, ())))))) fun q49 =>
                  (bif q49.2.1.2.2.1 then
                    some false
                    else
                    (bif (!q49.2.1.2.1) then
                      (Option.bind (G3_k5_run ((q49.2.1.1, ()), (q49.2.2.1, (q49.2.2.2.1, (q49.2.2.2.2.1, (q49.2.2.2.2.2.1, ())))))) fun q58 =>
                        some q58.2.1.1)
                      else
                      (Option.bind (G3_k6_run ((q49.2.1.1, ()), (q49.2.2.1, (q49.2.2.2.1, (q49.2.2.2.2.1, (q49.2.2.2.2.2.1, ())))))) fun q65 =>
                        some q65.2.1.1))))))))))))
noncomputable def G3_k0_J : Jn := (.whole [])
theorem G3_k0_JV : JV 0 Tryd.prog false (G3_k0_J) (seqL (seqL (seqR (bodyOf Tryd.f3)))) := jv_nil
theorem G3_k0_V : LValid 0 Tryd.prog (seqL (seqL (seqR (bodyOf Tryd.f3)))) (G3_k0_L) false :=
  cutT_valid (ev := jnT Tryd.prog G3_C (G3_k0_J) (seqL (seqL (seqR (bodyOf Tryd.f3))))) (jnT_valid mixed G3_CV (G3_k0_JV)) (by kernel_rfl) (by kernel_rfl) (by decide) (by decide) (by intro s; kernel_rfl)
noncomputable def G3_k1_J : Jn := (.whole [])
theorem G3_k1_JV : JV 0 Tryd.prog false (G3_k1_J) (seqL (seqL (seqR (seqR (seqR (seqR (seqR (bodyOf Tryd.f3)))))))) := jv_nil
theorem G3_k1_V : LValid 0 Tryd.prog (seqL (seqL (seqR (seqR (seqR (seqR (seqR (bodyOf Tryd.f3)))))))) (G3_k1_L) false :=
  cutT_valid (ev := jnT Tryd.prog G3_C (G3_k1_J) (seqL (seqL (seqR (seqR (seqR (seqR (seqR (bodyOf Tryd.f3))))))))) (jnT_valid mixed G3_CV (G3_k1_JV)) (by kernel_rfl) (by kernel_rfl) (by decide) (by decide) (by intro s; kernel_rfl)
noncomputable def G3_k2_J : Jn := (.seq (.cut G3_k1_L) (.whole []))
theorem G3_k2_JV : JV 0 Tryd.prog false (G3_k2_J) (seqL (seqR (seqR (seqR (seqR (seqR (bodyOf Tryd.f3))))))) := (jv_seq (by kernel_rfl) (jv_cut G3_k1_V) jv_nil)
theorem G3_k2_V : LValid 0 Tryd.prog (seqL (seqR (seqR (seqR (seqR (seqR (bodyOf Tryd.f3))))))) (G3_k2_L) false :=
  cutT_valid (ev := jnT Tryd.prog G3_C (G3_k2_J) (seqL (seqR (seqR (seqR (seqR (seqR (bodyOf Tryd.f3)))))))) (jnT_valid mixed G3_CV (G3_k2_JV)) (by kernel_rfl) (by kernel_rfl) (by decide) (by decide) (by intro s; kernel_rfl)
noncomputable def G3_k3_J : Jn := (.whole [])
theorem G3_k3_JV : JV 0 Tryd.prog false (G3_k3_J) (seqL (conL (seqR (seqL (seqR (seqR (seqR (seqR (seqR (seqR (bodyOf Tryd.f3))))))))))) := jv_nil
theorem G3_k3_V : LValid 0 Tryd.prog (seqL (conL (seqR (seqL (seqR (seqR (seqR (seqR (seqR (seqR (bodyOf Tryd.f3))))))))))) (G3_k3_L) false :=
  cutT_valid (ev := jnT Tryd.prog G3_C (G3_k3_J) (seqL (conL (seqR (seqL (seqR (seqR (seqR (seqR (seqR (seqR (bodyOf Tryd.f3)))))))))))) (jnT_valid mixed G3_CV (G3_k3_JV)) (by kernel_rfl) (by kernel_rfl) (by decide) (by decide) (by intro s; kernel_rfl)
noncomputable def G3_k4_J : Jn := (.whole [])
theorem G3_k4_JV : JV 0 Tryd.prog false (G3_k4_J) (seqL (seqL (seqR (seqR (seqR (seqR (seqR (seqR (seqR (seqR (bodyOf Tryd.f3))))))))))) := jv_nil
theorem G3_k4_V : LValid 0 Tryd.prog (seqL (seqL (seqR (seqR (seqR (seqR (seqR (seqR (seqR (seqR (bodyOf Tryd.f3))))))))))) (G3_k4_L) false :=
  cutT_valid (ev := jnT Tryd.prog G3_C (G3_k4_J) (seqL (seqL (seqR (seqR (seqR (seqR (seqR (seqR (seqR (seqR (bodyOf Tryd.f3)))))))))))) (jnT_valid mixed G3_CV (G3_k4_JV)) (by kernel_rfl) (by kernel_rfl) (by decide) (by decide) (by intro s; kernel_rfl)
noncomputable def G3_k5_J : Jn := (.whole [])
theorem G3_k5_JV : JV 0 Tryd.prog false (G3_k5_J) (seqL (conL (seqR (seqL (seqR (seqR (seqR (seqR (seqR (seqR (seqR (seqR (seqR (bodyOf Tryd.f3)))))))))))))) := jv_nil
theorem G3_k5_V : LValid 0 Tryd.prog (seqL (conL (seqR (seqL (seqR (seqR (seqR (seqR (seqR (seqR (seqR (seqR (seqR (bodyOf Tryd.f3)))))))))))))) (G3_k5_L) false :=
  cutT_valid (ev := jnT Tryd.prog G3_C (G3_k5_J) (seqL (conL (seqR (seqL (seqR (seqR (seqR (seqR (seqR (seqR (seqR (seqR (seqR (bodyOf Tryd.f3))))))))))))))) (jnT_valid mixed G3_CV (G3_k5_JV)) (by kernel_rfl) (by kernel_rfl) (by decide) (by decide) (by intro s; kernel_rfl)
noncomputable def G3_k6_J : Jn := (.whole [])
theorem G3_k6_JV : JV 0 Tryd.prog false (G3_k6_J) (seqL (seqR (seqR (seqR (seqR (seqR (seqR (seqR (seqR (seqR (seqR (bodyOf Tryd.f3)))))))))))) := jv_nil
theorem G3_k6_V : LValid 0 Tryd.prog (seqL (seqR (seqR (seqR (seqR (seqR (seqR (seqR (seqR (seqR (seqR (bodyOf Tryd.f3)))))))))))) (G3_k6_L) false :=
  cutT_valid (ev := jnT Tryd.prog G3_C (G3_k6_J) (seqL (seqR (seqR (seqR (seqR (seqR (seqR (seqR (seqR (seqR (seqR (bodyOf Tryd.f3))))))))))))) (jnT_valid mixed G3_CV (G3_k6_JV)) (by kernel_rfl) (by kernel_rfl) (by decide) (by decide) (by intro s; kernel_rfl)
noncomputable def G3_J : Jn := (.seq (.whole []) (.seq (.seq (.cut G3_k0_L) (.whole [])) (.seq (.whole []) (.seq (.whole []) (.seq (.whole []) (.seq (.cut G3_k2_L) (.seq (.seq (.whole []) (.cond (.seq (.cut G3_k3_L) (.whole [])) (.whole []))) (.seq (.whole []) (.seq (.seq (.cut G3_k4_L) (.whole [])) (.seq (.seq (.whole []) (.cond (.seq (.cut G3_k5_L) (.whole [])) (.whole []))) (.seq (.cut G3_k6_L) (.whole []))))))))))))
theorem G3_JV : JV 0 Tryd.prog false (G3_J) (bodyOf Tryd.f3) := (jv_seq (by kernel_rfl) jv_nil (jv_seq (by kernel_rfl) (jv_seq (by kernel_rfl) (jv_cut G3_k0_V) jv_nil) (jv_seq (by kernel_rfl) jv_nil (jv_seq (by kernel_rfl) jv_nil (jv_seq (by kernel_rfl) jv_nil (jv_seq (by kernel_rfl) (jv_cut G3_k2_V) (jv_seq (by kernel_rfl) (jv_seq (by kernel_rfl) jv_nil (jv_con (by kernel_rfl) (jv_seq (by kernel_rfl) (jv_cut G3_k3_V) jv_nil) jv_nil)) (jv_seq (by kernel_rfl) jv_nil (jv_seq (by kernel_rfl) (jv_seq (by kernel_rfl) (jv_cut G3_k4_V) jv_nil) (jv_seq (by kernel_rfl) (jv_seq (by kernel_rfl) jv_nil (jv_con (by kernel_rfl) (jv_seq (by kernel_rfl) (jv_cut G3_k5_V) jv_nil) jv_nil)) (jv_seq (by kernel_rfl) (jv_cut G3_k6_V) jv_nil)))))))))))
theorem G3_ent : Ent Tryd.prog 3 := ⟨by decide, enters_of Tryd.func3 (by kernel_rfl) rfl⟩
theorem G3_hev : ∀ x, fnE (jnT Tryd.prog G3_C (G3_J) (bodyOf Tryd.f3)) Tryd.prog Tryd.f3 (encs [.dat T23, .dat (.list T72), .dat T26] x) ⟨[], [], 0⟩ (frzF (.dat .bool)) = G3 x.1 x.2.1 x.2.2.1 := by
  intro x; kernel_rfl
theorem G3_lcall : ∀ x r, (fun x : Els [.dat T23, .dat (.list T72), .dat T26] => G3 x.1 x.2.1 x.2.2.1) x = some r → LCall 0 Tryd.prog 3 (encs [.dat T23, .dat (.list T72), .dat T26] x) ⟨[], [], 0⟩ (.d .bool r) ⟨[], [], 0⟩ := frz_lcallE (ev := (jnT Tryd.prog G3_C (G3_J) (bodyOf Tryd.f3))) (R := .dat .bool) Tryd.func3 rfl G3_ent (jnT_valid mixed G3_CV (G3_JV)) (by kernel_rfl) (by kernel_rfl) G3_hev
end Go.Proofs.YtibmgbalfhfcdaaDoor.Abs
set_option linter.unusedVariables false
set_option linter.unusedSimpArgs false
set_option maxRecDepth 100000
namespace Go.Proofs.YtibmgbalfhfcdaaDoor.Abs
open Classical
theorem beqn_f {a b : Int} (h : a = b) : (a != b) = false := by simp [h]
theorem beqn_t {a b : Int} (h : a ≠ b) : (a != b) = true := by simp [h]
def atN (s : E23) (i : Nat) : Nat := ((s.2.2.2.2.1).getD i 0).toNat
theorem at_ok {s : E23} (hs : StrOk s) {i : Nat} (hi : i < (s.2.2.2.2.1).length) : (((atN s i : Nat) : Int) = (s.2.2.2.2.1).getD i 0) ∧ atN s i < (s.2.2.2.1).toNat := by
  have := hs.at_ _ (getD_mem hi (d := 0))
  unfold atN
  omega
theorem rd_i {s : E23} {r : E72} (hr : RdOk s r) : ∃ i : Nat, r.1 = (i : Int) ∧ i < (s.2.2.2.2.1).length := ⟨(r.1).toNat, by have := hr.1; omega, by have := hr.1; have := hr.2.1; omega⟩
structure Sized (c : E26) (t : E30) : Prop where
  s : (c.1).length ≤ 12
  d : (c.2.1).length ≤ 12
  tt : (t.1).length ≤ 12
  tr : (t.2.1).length ≤ 12
  td : (t.2.2.1).length ≤ 12
theorem sized_tells (c : E26) (t : E30) : Tells (G12 c t) (Sized c t) := by
  unfold G12
  have h := tells_cond (p := ((c.1).length : Int) ≤ 12) (fun _ => tells_cond (p := ((c.2.1).length : Int) ≤ 12) (fun _ => tells_cond (p := ((t.1).length : Int) ≤ 12) (fun _ => tells_cond (p := ((t.2.1).length : Int) ≤ 12) (fun _ => tells_dec (p := ((t.2.2.1).length : Int) ≤ 12)))))
  exact h.iff ⟨fun h => ⟨by omega, by omega, by omega, by omega, by omega⟩, fun h => by have := h.s; have := h.d; have := h.tt; have := h.tr; have := h.td; omega⟩
end Go.Proofs.YtibmgbalfhfcdaaDoor.Abs
set_option linter.unusedVariables false
set_option linter.unusedSimpArgs false
set_option maxRecDepth 100000
namespace Go.Proofs.YtibmgbalfhfcdaaDoor.Abs
open Classical
theorem given_eq (s : E23) (l : List E72) (c : E26) (h0 : l.length < 2 ^ 62) (h1 : (c.1).length < 2 ^ 62) (h2 : (c.2.1).length < 2 ^ 62) :
    (24 < l.length ∧ G49 s l c = some (.inl (((), (3, ())), (c, ())))) ∨ (l.length ≤ 24 ∧ ¬ (SlOk s l ∧ CauseOk s c) ∧ G49 s l c = some (.inl (((), (2, ())), (c, ())))) ∨ (SlOk s l ∧ CauseOk s c ∧ G49 s l c = some (.inr (((), (0, ())), (c, (s, ([], (XX s l, ()))))))) := by
  unfold G49
  by_cases hl : l.length ≤ 24
  case neg =>
    rw [decide_eq_true (p := (l.length : Int) > 24) (by omega)]
    exact .inl ⟨by omega, rfl⟩
  right
  rw [decide_eq_false (p := (l.length : Int) > 24) (by omega), cond_false]
  by_cases hs : StrOk s
  case neg =>
    rw [(valid_tells s).nval hs]
    exact .inl ⟨hl, fun h => hs h.1.2.1, rfl⟩
  rw [(valid_tells s).val hs]
  simp only [Option.bind_some, Bool.not_true, cond_false]
  rw [cf81 l s hs h0]
  simp only [Option.bind_some]
  cases ha : l.any (fun r => !decide (RdOk s r)) with
  | true =>
    refine .inl ⟨hl, fun h => ?_, rfl⟩
    rw [List.any_eq_true] at ha
    obtain ⟨x, hx, hx'⟩ := ha
    rw [decide_eq_true (h.1.2.2 x hx)] at hx'
    cases hx'
  | false =>
    have hr : RdsOk s l := by
      intro r hr
      have := List.any_eq_false.1 ha r hr
      simpa using this
    simp only [cond_false]
    rcases bits_eq hs l c h1 h2 with ⟨hc, e, _⟩ | ⟨hc, e⟩
    · have e' : G50 (s, (l, ((), ()))) c [] = some (true, (XX s l, (c, ([], ())))) := by
        unfold G50
        rw [show G51 ((s, (l, ((), ()))).1, ((s, (l, ((), ()))).2.1, ((), (s, (l, ((), ()))).2.2.2))) c = _ from e]
        rfl
      rw [e']
      exact .inr ⟨⟨hl, hs, hr⟩, hc, rfl⟩
    · have e' : G50 (s, (l, ((), ()))) c [] = some (false, (XX s l, (c, ([], ())))) := by
        unfold G50
        rw [show G51 ((s, (l, ((), ()))).1, ((s, (l, ((), ()))).2.1, ((), (s, (l, ((), ()))).2.2.2))) c = _ from e]
        rfl
      rw [e']
      exact .inl ⟨hl, fun h => hc h.2, rfl⟩
theorem given1_eq (s : E23) (l : List E72) (c : E26) : G49_v1 s l c = G49 s l c := rfl
theorem sexplains_eq (s : E23) (l : List E72) (c : E26) (h0 : l.length < 2 ^ 62) (h1 : (c.1).length < 2 ^ 62) (h2 : (c.2.1).length < 2 ^ 62) :
    (24 < l.length ∧ G16 s l c = some (false, (3, ()))) ∨ (l.length ≤ 24 ∧ ¬ (SlOk s l ∧ CauseOk s c) ∧ G16 s l c = some (false, (2, ()))) ∨ (SlOk s l ∧ CauseOk s c ∧ ∃ b, G16 s l c = some (b, (0, ())) ∧ (b = true ↔ Ex s l (bitsOf s c))) := by
  unfold G16
  rcases given_eq s l c h0 h1 h2 with ⟨h, e⟩ | ⟨h, h', e⟩ | ⟨hsl, hc, e⟩
  · rw [e]; exact .inl ⟨h, rfl⟩
  · rw [e]; exact .inr (.inl ⟨h, h', rfl⟩)
  · rw [e]
    refine .inr (.inr ⟨hsl, hc, ?_⟩)
    rcases bits_eq hsl.2.1 l c h1 h2 with ⟨_, eb, hb⟩ | ⟨hn, _⟩
    · obtain ⟨r, M', ee, hr, _⟩ := explains_eq hsl.2.1 hsl.2.2 (by have := hsl.1; omega) hb (memo_nil s l)
      show ∃ b, (Option.bind (G51 (XX s l) c) fun r5 => Option.bind (G52 r5.1 (XX s l) []) fun r6 => some (r6.1, ((0 : Int), ()))) = some (b, (0, ())) ∧ (b = true ↔ Ex s l (bitsOf s c))
      rw [eb]
      simp only [Option.bind_some]
      rw [ee]
      exact ⟨r, rfl, hr⟩
    · exact absurd hc hn
def LeastT (s : E23) (l : List E72) (b d : Nat) (T : Int) : Prop := (∃ m, DC s l b d m T) ∧ ∀ m T', DC s l b d m T' → T ≤ T'
def LeastR (s : E23) (l : List E72) (b d : Nat) (T R : Int) : Prop := DC s l b d R T ∧ ∀ m, DC s l b d m T → R ≤ m
def LeastD (s : E23) (l : List E72) (b i : Nat) (T R q : Int) : Prop := (-(moS s b i) ≤ q ∧ q ≤ moS s b i) ∧ agr s l i T (R + q) = true ∧ ∀ q', -(moS s b i) ≤ q' → agr s l i T (R + q') = true → q' ≤ moS s b i → q ≤ q'
theorem DC.bd {s : E23} {l : List E72} (hs : StrOk s) {b d : Nat} {m T : Int} (h : DC s l b d m T) : (-20 ≤ m ∧ m ≤ 20) ∧ 2000 ≤ T ∧ T ≤ 3200 := by
  have := moD_bd hs b d
  have h1 := h.1
  exact ⟨by omega, h.2.1⟩
theorem rate_k {m : Int} (h : -20 ≤ m ∧ m ≤ 20) : ∃ k : Nat, k < 41 ∧ m = (k : Int) - 20 := ⟨(m + 20).toNat, by omega, by omega⟩
theorem SpanIs.low {s : E23} {l : List E72} (hs : StrOk s) {b d : Nat} {m : Int} {q : E56} (h : SpanIs s l b d m q) : (0 ≤ q.1 ∧ DC s l b d m q.1 ∧ ∀ T, DC s l b d m T → q.1 ≤ T) ∨ (q.1 = -1 ∧ ∀ T, ¬ DC s l b d m T) := by
  rcases h with ⟨h1, h2, h3⟩ | ⟨h1, rfl⟩
  · exact .inl ⟨by have := (h1.bd hs).2; omega, h1, fun T hT => (h3 T hT).1⟩
  · exact .inr ⟨rfl, h1⟩
theorem wit_l1 {s : E23} {l : List E72} (hs : StrOk s) {b d : Nat} {v : E94} (hv : AnsIs s l b d v) (hc : ∃ m T, DC s l b d m T) (x1 x2 x3 x4 : Int) (R : TY27) :
    ∃ T i, G17_l1_run ((x1, (x2, (3200, (0, (x3, (x4, (v.1, (0, ())))))))), R.2) = some (0, ((x1, (x2, (T, (0, (x3, (x4, (v.1, (i, ())))))))), R.2)) ∧ LeastT s l b d T := by
  unfold G17_l1_run
  obtain ⟨q, e, T, i, rfl, h1, h0, h2, h3⟩ := iter_inv (step := G17_l1_step) (k := 0) (n := 41)
    (fun i st => ∃ T : Int, st = ((x1, (x2, (T, (0, (x3, (x4, (v.1, ((i : Int), ())))))))), R.2) ∧ T ≤ 3200 ∧ 0 ≤ T ∧ (∀ j, j < i → 0 ≤ (v.1.getD j (0, (0, ()))).1 → T ≤ (v.1.getD j (0, (0, ()))).1) ∧ (T = 3200 ∨ ∃ j, j < i ∧ (v.1.getD j (0, (0, ()))).1 = T))
    (fun st => ∃ T i : Int, st = ((x1, (x2, (T, (0, (x3, (x4, (v.1, (i, ())))))))), R.2) ∧ T ≤ 3200 ∧ 0 ≤ T ∧ (∀ j, j < 41 → 0 ≤ (v.1.getD j (0, (0, ()))).1 → T ≤ (v.1.getD j (0, (0, ()))).1) ∧ (T = 3200 ∨ ∃ j, j < 41 ∧ (v.1.getD j (0, (0, ()))).1 = T))
    (by
      rintro i st ⟨T, rfl, h1, h0, h2, h3⟩ hi
      unfold G17_l1_step
      have e0 : decide ((i : Int) < 41) = true := decide_eq_true (by omega)
      simp only [e0, ge0, Bool.and_self, cond_true, getD_toNat, wr1 (i := i) (by omega)]
      by_cases hq : 0 ≤ (v.1.getD i (0, (0, ()))).1
      · rw [decide_eq_true (p := (v.1.getD i (0, (0, ()))).1 ≥ 0) hq, cond_true]
        refine ⟨_, rfl, _, rfl, ?_, ?_, fun j hj hj0 => ?_, ?_⟩
        · split <;> omega
        · split <;> omega
        · rcases Nat.lt_succ_iff_lt_or_eq.1 hj with h | h
          · have := h2 j h hj0
            split <;> omega
          · subst h; split <;> omega
        · split
          · exact .inr ⟨i, by omega, rfl⟩
          · rcases h3 with h | ⟨j, hj, h⟩
            · exact .inl h
            · exact .inr ⟨j, by omega, h⟩
      · rw [decide_eq_false (p := (v.1.getD i (0, (0, ()))).1 ≥ 0) hq, cond_false]
        refine ⟨_, rfl, T, rfl, h1, h0, fun j hj hj0 => ?_, ?_⟩
        · rcases Nat.lt_succ_iff_lt_or_eq.1 hj with h | h
          · exact h2 j h hj0
          · subst h; exact absurd hj0 hq
        · rcases h3 with h | ⟨j, hj, h⟩
          · exact .inl h
          · exact .inr ⟨j, by omega, h⟩)
    (by
      rintro st ⟨T, rfl, h1, h0, h2, h3⟩
      unfold G17_l1_step
      have e0 : decide (((41 : Nat) : Int) < 41) = false := by decide
      simp only [e0, cond_false]
      exact ⟨_, rfl, T, _, rfl, h1, h0, h2, h3⟩)
    41 0 (G17_l1_fuel ((x1, (x2, (3200, (0, (x3, (x4, (v.1, (0, ())))))))), R.2)) ((x1, (x2, (3200, (0, (x3, (x4, (v.1, (0, ())))))))), R.2) (by omega) (by unfold G17_l1_fuel; simp) ⟨3200, rfl, by omega, by omega, fun j hj => absurd hj (by omega), .inl rfl⟩
  refine ⟨T, i, e, ?_⟩
  have hle : ∀ m T', DC s l b d m T' → T ≤ T' := by
    intro m T' hT'
    obtain ⟨k, hk, rfl⟩ := rate_k (hT'.bd hs).1
    rcases (hv.span k hk).low hs with ⟨a1, a2, a3⟩ | ⟨_, a2⟩
    · have := a3 T' hT'
      have := h2 k hk a1
      omega
    · exact absurd hT' (a2 T')
  refine ⟨?_, hle⟩
  rcases h3 with rfl | ⟨j, hj, h⟩
  · obtain ⟨m, T', hT'⟩ := hc
    have h4 := hle m T' hT'
    have h5 := (hT'.bd hs).2
    have : T' = 3200 := by omega
    subst this
    exact ⟨m, hT'⟩
  · rcases (hv.span j hj).low hs with ⟨a1, a2, a3⟩ | ⟨a1, _⟩
    · rw [h] at a2
      exact ⟨_, a2⟩
    · omega
theorem wit_l2 {s : E23} {l : List E72} (hs : StrOk s) {b d : Nat} {v : E94} (hv : AnsIs s l b d v) {T : Int} (hT : LeastT s l b d T) (x1 x2 x3 x4 : Int) (R : TY27) :
    ∃ m i, G17_l2_run ((x1, (x2, (T, (0, (x3, (x4, (v.1, (0, ())))))))), R.2) = some (0, ((x1, (x2, (T, (m, (x3, (x4, (v.1, (i, ())))))))), R.2)) ∧ LeastR s l b d T m := by
  unfold G17_l2_run
  have key := iter_fn (step := G17_l2_step) (n := 41) (k1 := 0) (k2 := 0) (fuel := G17_l2_fuel ((x1, (x2, (T, (0, (x3, (x4, (v.1, (0, ())))))))), R.2))
    (bad := fun i => (v.1.getD i (0, (0, ()))).1 == T)
    (fun i => ((x1, (x2, (T, (0, (x3, (x4, (v.1, ((i : Int), ())))))))), R.2)) (fun i => ((x1, (x2, (T, ((i : Int) - 20, (x3, (x4, (v.1, ((i : Int), ())))))))), R.2)) ((x1, (x2, (T, (0, (x3, (x4, (v.1, (((41 : Nat) : Int), ())))))))), R.2) (fun i hi => by
      unfold G17_l2_step
      have e0 : decide ((i : Int) < 41) = true := decide_eq_true (by omega)
      simp only [e0, ge0, Bool.and_self, cond_true, getD_toNat, wr1 (i := i) (by omega)]
      rw [wr (n := (i : Int) - 20) (by omega) (by omega)]
      cases (v.1.getD i (0, (0, ()))).1 == T <;> rfl) (by
      unfold G17_l2_step
      have e0 : decide (((41 : Nat) : Int) < 41) = false := by decide
      simp only [e0, cond_false]) (by unfold G17_l2_fuel; simp)
  have hbd := (hT.1.choose_spec.bd hs).2
  rcases key with ⟨j, hj, hb, hbef, he⟩ | ⟨hall, he⟩
  · refine ⟨_, _, he, ?_⟩
    have hb' : (v.1.getD j (0, (0, ()))).1 = T := by simpa using hb
    constructor
    · rcases (hv.span j hj).low hs with ⟨a1, a2, a3⟩ | ⟨a1, _⟩
      · rwa [hb'] at a2
      · omega
    · intro m hm
      obtain ⟨k, hk, rfl⟩ := rate_k (hm.bd hs).1
      rcases (hv.span k hk).low hs with ⟨a1, a2, a3⟩ | ⟨_, a2⟩
      · have h4 := a3 T hm
        have h5 := hT.2 _ _ a2
        by_cases hkj : k < j
        · have := beq_eq_false_iff_ne.1 (hbef k hkj)
          omega
        · omega
      · exact absurd hm (a2 _)
  · exfalso
    obtain ⟨m, hm⟩ := hT.1
    obtain ⟨k, hk, rfl⟩ := rate_k (hm.bd hs).1
    rcases (hv.span k hk).low hs with ⟨a1, a2, a3⟩ | ⟨_, a2⟩
    · have h4 := a3 T hm
      have h5 := hT.2 _ _ a2
      have := beq_eq_false_iff_ne.1 (hall k hk)
      omega
    · exact absurd hm (a2 _)
def DrSo (s : E23) (l : List E72) (b : Nat) (Ts Rs L : List Int) (p : Nat → Prop) : Prop := ∀ i, i < (s.2.2.2.2.1).length → p i → LeastD s l b i (Ts.getD (atN s i) 0) (Rs.getD (atN s i) 0) (L.getD i 0)
theorem wit_l3 {s : E23} {l : List E72} (hs : StrOk s) (hl : RdsOk s l) (hn : l.length ≤ 1000) {b d : Nat} (hb : b < 2 ^ 62) (hd : d < (s.2.2.2.1).toNat) {T m : Int} (hDC : DC s l b d m T) (c : E26) (z : E30) (s' : E23) (M : List (E56 × E94)) (L Ts Rs : List Int) (hL : L.length = (s.2.2.2.2.1).length) (ans : E94) (x3 x4 : Int) (hT : Ts.getD d 0 = T) (hR : Rs.getD d 0 = m)
    (h : DrSo s l b Ts Rs L fun i => atN s i < d) :
    ∃ L', G17_l3_run (((b : Int), ((d : Int), (T, (m, (x3, (x4, ((s.2.2.2.2.1), (((s.2.2.2.2.1).length : Int), (0, ()))))))))), (s, (c, (z, (s', (M, (XX s l, (L, ((Ts, (Rs, ((s.2.2.2.2.1).length, ()))), (ans, ())))))))))) = some (0, (((b : Int), ((d : Int), (T, (m, (x3, (x4, ((s.2.2.2.2.1), (((s.2.2.2.2.1).length : Int), (((s.2.2.2.2.1).length : Int), ()))))))))), (s, (c, (z, (s', (M, (XX s l, (L', ((Ts, (Rs, ((s.2.2.2.2.1).length, ()))), (ans, ()))))))))))) ∧ L'.length = (s.2.2.2.2.1).length ∧ DrSo s l b Ts Rs L' (fun i => atN s i < d + 1) := by
  unfold G17_l3_run
  have hlen := hs.len
  obtain ⟨q, e, L', rfl, h1, h2⟩ := iter_inv (step := G17_l3_step) (k := 0) (n := (s.2.2.2.2.1).length)
    (fun i st => ∃ L' : List Int, st = (((b : Int), ((d : Int), (T, (m, (x3, (x4, ((s.2.2.2.2.1), (((s.2.2.2.2.1).length : Int), ((i : Int), ()))))))))), (s, (c, (z, (s', (M, (XX s l, (L', ((Ts, (Rs, ((s.2.2.2.2.1).length, ()))), (ans, ())))))))))) ∧ L'.length = (s.2.2.2.2.1).length ∧ DrSo s l b Ts Rs L' (fun j => atN s j < d ∨ (j < i ∧ atN s j = d)))
    (fun st => ∃ L' : List Int, st = (((b : Int), ((d : Int), (T, (m, (x3, (x4, ((s.2.2.2.2.1), (((s.2.2.2.2.1).length : Int), (((s.2.2.2.2.1).length : Int), ()))))))))), (s, (c, (z, (s', (M, (XX s l, (L', ((Ts, (Rs, ((s.2.2.2.2.1).length, ()))), (ans, ())))))))))) ∧ L'.length = (s.2.2.2.2.1).length ∧ DrSo s l b Ts Rs L' (fun i => atN s i < d + 1))
    (by
      rintro i st ⟨L', rfl, h1, h2⟩ hi
      obtain ⟨ha, ha'⟩ := at_ok hs hi
      unfold G17_l3_step
      simp only [lt_int hi, ge0, Bool.and_self, cond_true, getD_toNat, wr1 (i := i) (by omega), Int.toNat_natCast]
      by_cases he : (s.2.2.2.2.1).getD i 0 = (d : Int)
      · rw [beq_iff_eq.2 he, cond_true]
        have hbd := hDC.bd hs
        rcases drift_eq hs hl hn (i := i) (b := b) (by omega) hb (T := T) (m := m) (by omega) (by omega) with ⟨q, q1, q2, q3, q4, q5⟩ | ⟨q1, _⟩
        · rw [show G55 ((XX s l).1, ((XX s l).2.1, ((), (XX s l).2.2.2))) (i : Int) (b : Int) T m = _ from q5]
          have e1 : decide (i < L'.length) = true := decide_eq_true (by omega)
          simp only [Option.bind_some, e1, cond_true]
          refine ⟨_, rfl, _, rfl, by rw [List.length_set]; exact h1, fun j hj hp => ?_⟩
          rw [set_getD _ _ _ _ _ (by omega)]
          by_cases hji : j = i
          · subst hji
            rw [if_pos rfl]
            have e3 : atN s j = d := by omega
            rw [e3, hT, hR]
            refine ⟨⟨q1, q2⟩, q3, fun q' a1 a2 a3 => ?_⟩
            apply Classical.byContradiction
            intro hq
            rw [q4 q' a1 (by omega)] at a2
            cases a2
          · rw [if_neg hji]
            refine h2 j hj ?_
            rcases hp with hp | ⟨hp, hp'⟩
            · exact .inl hp
            · exact .inr ⟨by omega, hp'⟩
        · obtain ⟨q, a1, a2, a3⟩ := hDC.2.2 i hi he
          rw [q1 q a1 a2] at a3
          cases a3
      · rw [beq_eq_false_iff_ne.2 he, cond_false]
        refine ⟨_, rfl, L', rfl, h1, fun j hj hp => h2 j hj ?_⟩
        rcases hp with hp | ⟨hp, hp'⟩
        · exact .inl hp
        · rcases Nat.lt_succ_iff_lt_or_eq.1 hp with h | h
          · exact .inr ⟨h, hp'⟩
          · subst h; omega)
    (by
      rintro st ⟨L', rfl, h1, h2⟩
      unfold G17_l3_step
      simp only [nlt_int, cond_false]
      refine ⟨_, rfl, L', rfl, h1, fun j hj hp => h2 j hj ?_⟩
      have : atN s j < d ∨ atN s j = d := by omega
      rcases this with h | h
      · exact .inl h
      · exact .inr ⟨hj, h⟩)
    (s.2.2.2.2.1).length 0 (G17_l3_fuel (((b : Int), ((d : Int), (T, (m, (x3, (x4, ((s.2.2.2.2.1), (((s.2.2.2.2.1).length : Int), (0, ()))))))))), (s, (c, (z, (s', (M, (XX s l, (L, ((Ts, (Rs, ((s.2.2.2.2.1).length, ()))), (ans, ())))))))))))
    (((b : Int), ((d : Int), (T, (m, (x3, (x4, ((s.2.2.2.2.1), (((s.2.2.2.2.1).length : Int), (0, ()))))))))), (s, (c, (z, (s', (M, (XX s l, (L, ((Ts, (Rs, ((s.2.2.2.2.1).length, ()))), (ans, ()))))))))))
    (by omega) (by unfold G17_l3_fuel; simp) ⟨L, rfl, hL, fun j hj hp => h j hj (by omega)⟩
  exact ⟨L', e, h1, h2⟩
structure WitAt (s : E23) (l : List E72) (b d : Nat) (Ts Rs : List Int) : Prop where
  t : LeastT s l b d (Ts.getD d 0)
  r : LeastR s l b d (Ts.getD d 0) (Rs.getD d 0)
theorem getD_snoc {α : Type} (xs : List α) (x d : α) (j : Nat) : (xs ++ [x]).getD j d = if j < xs.length then xs.getD j d else if j = xs.length then x else d := by
  simp only [List.getD_eq_getElem?_getD]
  by_cases h : j < xs.length
  · rw [if_pos h, List.getElem?_append_left h]
  · rw [if_neg h, List.getElem?_append_right (by omega)]
    by_cases h2 : j = xs.length
    · subst h2; simp
    · rw [if_neg h2, List.getElem?_eq_none (by simp; omega)]; rfl
structure WitIs (s : E23) (l : List E72) (b : Nat) (t : E30) : Prop where
  lt : (t.1).length = (s.2.2.2.1).toNat
  lr : (t.2.1).length = (s.2.2.2.1).toNat
  ld : (t.2.2.1).length = (s.2.2.2.2.1).length
  at_ : ∀ d, d < (s.2.2.2.1).toNat → WitAt s l b d (t.1) (t.2.1)
  dr : DrSo s l b (t.1) (t.2.1) (t.2.2.1) fun _ => True
theorem wit_l0 {s : E23} {l : List E72} (hs : StrOk s) (hl : RdsOk s l) (hn : l.length ≤ 1000) {b : Nat} (hb : b < 2 ^ 62) (hE : Ex s l b) (c : E26) (z : E30) (s' : E23) {M : List (E56 × E94)} (hM : MemoOk s l M) :
    ∃ q, G17_l0_run (((b : Int), (s.2.2.2.1, (0, ()))), (s, (c, (z, (s', (M, (XX s l, (List.replicate (s.2.2.2.2.1).length 0, (([], ([], ((s.2.2.2.2.1).length, ()))), ()))))))))) = some (0, q) ∧ ∃ k M' L Ts Rs, q = (((b : Int), (s.2.2.2.1, (k, ()))), (s, (c, (z, (s', (M', (XX s l, (L, ((Ts, (Rs, ((s.2.2.2.2.1).length, ()))), ()))))))))) ∧ WitIs s l b (Ts, (Rs, (L, ()))) := by
  unfold G17_l0_run
  have hlen := hs.len
  have hdep := hs.depths
  refine iter_inv (step := G17_l0_step) (k := 0) (n := (s.2.2.2.1).toNat)
    (fun d st => ∃ M' L Ts Rs, st = (((b : Int), (s.2.2.2.1, ((d : Int), ()))), (s, (c, (z, (s', (M', (XX s l, (L, ((Ts, (Rs, ((s.2.2.2.2.1).length, ()))), ()))))))))) ∧ MemoOk s l M' ∧ L.length = (s.2.2.2.2.1).length ∧ Ts.length = d ∧ Rs.length = d ∧ (∀ j, j < d → WitAt s l b j Ts Rs) ∧ DrSo s l b Ts Rs L fun i => atN s i < d)
    (fun q => ∃ k M' L Ts Rs, q = (((b : Int), (s.2.2.2.1, (k, ()))), (s, (c, (z, (s', (M', (XX s l, (L, ((Ts, (Rs, ((s.2.2.2.2.1).length, ()))), ()))))))))) ∧ WitIs s l b (Ts, (Rs, (L, ()))))
    (by
      rintro d st ⟨M', L, Ts, Rs, rfl, hM', h1, h2, h3, h4, h5⟩ hd
      obtain ⟨v, M2, e1, e2, e3⟩ := depth_eq hs hl hn hb (d := d) (by omega) hM'
      obtain ⟨T, i, f1, f2⟩ := wit_l1 hs e2 (hE d (by omega)) (b : Int) (d : Int) (s.2.2.2.1) (d : Int) ((0, (0, (0, (0, (0, (0, ([], (0, ()))))))) ), (s, (c, (z, (s', (M2, (XX s l, (L, ((Ts, (Rs, ((s.2.2.2.2.1).length, ()))), (v, ()))))))))))
      obtain ⟨m, i2, g1, g2⟩ := wit_l2 hs e2 f2 (b : Int) (d : Int) (s.2.2.2.1) (d : Int) ((0, (0, (0, (0, (0, (0, ([], (0, ()))))))) ), (s, (c, (z, (s', (M2, (XX s l, (L, ((Ts, (Rs, ((s.2.2.2.2.1).length, ()))), (v, ()))))))))))
      have hT : (Ts ++ [T]).getD d 0 = T := by rw [getD_snoc, if_neg (by omega), if_pos (by omega)]
      have hR : (Rs ++ [m]).getD d 0 = m := by rw [getD_snoc, if_neg (by omega), if_pos (by omega)]
      have old : ∀ j, j < d → (Ts ++ [T]).getD j 0 = Ts.getD j 0 ∧ (Rs ++ [m]).getD j 0 = Rs.getD j 0 := fun j hj => ⟨by rw [getD_snoc, if_pos (by omega)], by rw [getD_snoc, if_pos (by omega)]⟩
      obtain ⟨L', k1, k2, k3⟩ := wit_l3 hs hl hn hb hd g2.1 c z s' M2 L (Ts ++ [T]) (Rs ++ [m]) h1 v (s.2.2.2.1) (d : Int) hT hR (fun i hi hp => by
        rw [(old _ hp).1, (old _ hp).2]; exact h5 i hi hp)
      have hlt : decide ((d : Int) < s.2.2.2.1) = true := decide_eq_true (by omega)
      unfold G17_l0_step
      simp only [hlt, cond_true, wr1 (i := d) (by omega)]
      rw [show G54 (d : Int) (b : Int) ((XX s l).1, ((XX s l).2.1, ((), (XX s l).2.2.2))) M' = _ from e1]
      simp only [Option.bind_some]
      rw [show G17_l1_run (((b : Int), ((d : Int), (3200, (0, (s.2.2.2.1, ((d : Int), (v.1, (0, ())))))))), (s, (c, (z, (s', (M2, (((XX s l).1, ((XX s l).2.1, ((), (XX s l).2.2.2))), (L, ((Ts, (Rs, ((s.2.2.2.2.1).length, ()))), (v, ())))))))))) = _ from f1]
      simp only [Option.bind_some]
      rw [show G17_l2_run (((b : Int), ((d : Int), (T, (0, (s.2.2.2.1, ((d : Int), (v.1, (0, ())))))))), (s, (c, (z, (s', (M2, (((XX s l).1, ((XX s l).2.1, ((), (XX s l).2.2.2))), (L, ((Ts, (Rs, ((s.2.2.2.2.1).length, ()))), (v, ())))))))))) = _ from g1]
      simp only [Option.bind_some, lim_ok (n := Ts.length) (m := List.length [T]) (by omega) (by simp), lim_ok (n := Rs.length) (m := List.length [m]) (by omega) (by simp), cond_true]
      rw [show G17_l3_run (((b : Int), ((d : Int), (T, (m, (s.2.2.2.1, ((d : Int), ((s.2.2.2.2.1), (((s.2.2.2.2.1).length : Int), (0, ()))))))))), (s, (c, (z, (s', (M2, (((XX s l).1, ((XX s l).2.1, ((), (XX s l).2.2.2))), (L, (((Ts ++ [T]), ((Rs ++ [m]), ((s.2.2.2.2.1).length, ()))), (v, ()))))))))) ) = _ from k1]
      simp only [Option.bind_some, wr1 (i := d) (by omega)]
      refine ⟨_, rfl, M2, L', Ts ++ [T], Rs ++ [m], rfl, e3, k2, by simp [h2], by simp [h3], fun j hj => ?_, k3⟩
      rcases Nat.lt_succ_iff_lt_or_eq.1 hj with h | h
      · have := h4 j h
        exact ⟨by rw [(old j h).1]; exact this.t, by rw [(old j h).1, (old j h).2]; exact this.r⟩
      · subst h
        exact ⟨by rw [hT]; exact f2, by rw [hT, hR]; exact g2⟩)
    (by
      rintro st ⟨M', L, Ts, Rs, rfl, hM', h1, h2, h3, h4, h5⟩
      have hlt : decide ((((s.2.2.2.1).toNat : Nat) : Int) < s.2.2.2.1) = false := decide_eq_false (by omega)
      unfold G17_l0_step
      simp only [hlt, cond_false]
      exact ⟨_, rfl, _, M', L, Ts, Rs, rfl, h2, h3, h1, h4, fun i hi _ => h5 i hi (at_ok hs hi).2⟩)
    (s.2.2.2.1).toNat 0 (G17_l0_fuel (((b : Int), (s.2.2.2.1, (0, ()))), (s, (c, (z, (s', (M, (XX s l, (List.replicate (s.2.2.2.2.1).length 0, (([], ([], ((s.2.2.2.2.1).length, ()))), ()))))))))))
    (((b : Int), (s.2.2.2.1, (0, ()))), (s, (c, (z, (s', (M, (XX s l, (List.replicate (s.2.2.2.2.1).length 0, (([], ([], ((s.2.2.2.2.1).length, ()))), ())))))))))
    (by omega) (by unfold G17_l0_fuel; simp only; omega) ⟨M, _, [], [], rfl, hM, by simp, rfl, rfl, fun j hj => absurd hj (by omega), fun i hi hp => absurd hp (by omega)⟩
theorem switness_eq (s : E23) (l : List E72) (c : E26) (h0 : l.length < 2 ^ 62) (h1 : (c.1).length < 2 ^ 62) (h2 : (c.2.1).length < 2 ^ 62) :
    (24 < l.length ∧ G17 s l c = some (([], ([], ([], ()))), (3, ()))) ∨ (l.length ≤ 24 ∧ ¬ (SlOk s l ∧ CauseOk s c) ∧ G17 s l c = some (([], ([], ([], ()))), (2, ()))) ∨ (SlOk s l ∧ CauseOk s c ∧ ((¬ Ex s l (bitsOf s c) ∧ G17 s l c = some (([], ([], ([], ()))), (5, ()))) ∨ (Ex s l (bitsOf s c) ∧ ∃ t, G17 s l c = some (t, (0, ())) ∧ WitIs s l (bitsOf s c) t))) := by
  unfold G17
  rw [given1_eq]
  rcases given_eq s l c h0 h1 h2 with ⟨h, e⟩ | ⟨h, h', e⟩ | ⟨hsl, hc, e⟩
  · rw [e]; exact .inl ⟨h, rfl⟩
  · rw [e]; exact .inr (.inl ⟨h, h', rfl⟩)
  · rw [e]
    refine .inr (.inr ⟨hsl, hc, ?_⟩)
    have hn : l.length ≤ 1000 := by have := hsl.1; omega
    have hlen := hsl.2.1.len
    rcases bits_eq hsl.2.1 l c h1 h2 with ⟨_, eb, hb⟩ | ⟨hn, _⟩
    · obtain ⟨r, M', ee, hr, hM'⟩ := explains_eq hsl.2.1 hsl.2.2 hn hb (memo_nil s l)
      simp only [Option.bind_some, altK]
      rw [show G51 ((XX s l).1, ((XX s l).2.1, ((), (XX s l).2.2.2))) c = _ from eb]
      have e0 : ((0 : Int) != 0) = false := rfl
      simp only [e0, cond_false, Option.bind_some]
      rw [show G52 (bitsOf s c : Int) ((XX s l).1, ((XX s l).2.1, ((), (XX s l).2.2.2))) [] = _ from ee]
      simp only [Option.bind_some]
      cases r with
      | false => exact .inl ⟨fun h => (by have := hr.2 h; cases this), rfl⟩
      | true =>
        have hE := hr.1 rfl
        refine .inr ⟨hE, ?_⟩
        obtain ⟨q, f1, k, M2, L, Ts, Rs, rfl, hw⟩ := wit_l0 hsl.2.1 hsl.2.2 hn hb hE c ([], ([], ([], ()))) s hM'
        have e1 : (decide ((0 : Int) ≤ ((s.2.2.2.2.1).length : Int)) && decide (((s.2.2.2.2.1).length : Int) ≤ (LIM : Int)) && decide (((s.2.2.2.2.1).length : Int) = ((s.2.2.2.2.1).length : Int))) = true := by
          have : (LIM : Int) ≥ 100000 := by decide
          simp; omega
        simp only [Bool.not_true, cond_false, e1, cond_true, Int.toNat_natCast]
        rw [show G17_l0_run (((bitsOf s c : Int), (s.2.2.2.1, (0, ()))), (s, (c, (([], ([], ([], ()))), (s, (M', (((XX s l).1, ((XX s l).2.1, ((), (XX s l).2.2.2))), (List.replicate (s.2.2.2.2.1).length 0, (([], ([], ((s.2.2.2.2.1).length, ()))), ()))))))))) = _ from f1]
        have hL : L.length = (s.2.2.2.2.1).length := hw.ld
        simp only [Option.bind_some, hL, Nat.le_refl, decide_true, Bool.and_true, cond_true]
        have e2 : (decide ((0 : Int) ≤ ((s.2.2.2.2.1).length : Int)) && decide (((s.2.2.2.2.1).length : Int) ≤ (LIM : Int))) = true := by simpa using e1
        have : List.take (s.2.2.2.2.1).length L = L := by rw [← hL, List.take_length]
        rw [this]
        refine ⟨_, ?_, hw⟩
        first | rfl | (rw [e2]; rfl)
    · exact absurd hc hn
end Go.Proofs.YtibmgbalfhfcdaaDoor.Abs
set_option linter.unusedVariables false
set_option linter.unusedSimpArgs false
set_option maxRecDepth 100000
namespace Go.Proofs.YtibmgbalfhfcdaaDoor.Abs
open Classical
theorem rising_mem {L : List Int} {B x : Int} (h : Rising L B) (hx : x ∈ L) : 0 ≤ x ∧ x < B := by
  obtain ⟨i, hi, rfl⟩ := mem_getD.1 hx
  exact (h i hi).1
theorem bit_s {s : E23} {c : E26} (hc : CauseOk s c) {i : Nat} (hi : i < (s.2.2.2.2.1).length) : (bitsOf s c).testBit i = decide ((i : Int) ∈ c.1) := by
  rw [bitsOf_bit hc]
  have : decide ((s.2.2.2.2.1).length ≤ i ∧ ((i - (s.2.2.2.2.1).length : Nat) : Int) ∈ c.2.1) = false := decide_eq_false fun h => by omega
  rw [this, Bool.or_false]
theorem bit_d {s : E23} {c : E26} (hc : CauseOk s c) (d : Nat) : (bitsOf s c).testBit ((s.2.2.2.2.1).length + d) = decide ((d : Int) ∈ c.2.1) := by
  rw [bitsOf_bit hc]
  have h1 : decide ((((s.2.2.2.2.1).length + d : Nat) : Int) ∈ c.1) = false := decide_eq_false fun h => by have := rising_mem hc.1 h; omega
  have h2 : (s.2.2.2.2.1).length + d - (s.2.2.2.2.1).length = d := by omega
  rw [h1, h2, Bool.false_or, decide_eq_decide]
  exact ⟨fun h => h.2, fun h => ⟨by omega, h⟩⟩
theorem moS_c {s : E23} {c : E26} (hc : CauseOk s c) {i : Nat} (hi : i < (s.2.2.2.2.1).length) : moS s (bitsOf s c) i = if (i : Int) ∈ c.1 then s.2.1 else 0 := by
  unfold moS
  rw [bit_s hc hi]
  by_cases h : (i : Int) ∈ c.1
  · rw [decide_eq_true h, if_pos h]; rfl
  · rw [decide_eq_false h, if_neg h]; rfl
theorem moD_c {s : E23} {c : E26} (hc : CauseOk s c) (d : Nat) : moD s (bitsOf s c) d = if (d : Int) ∈ c.2.1 then s.2.2.1 else 0 := by
  unfold moD
  rw [bit_d hc]
  by_cases h : (d : Int) ∈ c.2.1
  · rw [decide_eq_true h, if_pos h]; rfl
  · rw [decide_eq_false h, if_neg h]; rfl
structure For (s : E23) (l : List E72) (b : Nat) (t : E30) : Prop where
  lt : (t.1).length = (s.2.2.2.1).toNat
  lr : (t.2.1).length = (s.2.2.2.1).toNat
  ld : (t.2.2.1).length = (s.2.2.2.2.1).length
  ft : ∀ d, d < (s.2.2.2.1).toNat → 2000 ≤ (t.1).getD d 0 ∧ (t.1).getD d 0 ≤ 3200
  fr : ∀ d, d < (s.2.2.2.1).toNat → -(moD s b d) ≤ (t.2.1).getD d 0 ∧ (t.2.1).getD d 0 ≤ moD s b d
  fd : ∀ i, i < (s.2.2.2.2.1).length → (-(moS s b i) ≤ (t.2.2.1).getD i 0 ∧ (t.2.2.1).getD i 0 ≤ moS s b i) ∧ agr s l i ((t.1).getD (atN s i) 0) ((t.2.1).getD (atN s i) 0 + (t.2.2.1).getD i 0) = true
theorem For.dc {s : E23} {l : List E72} {b : Nat} {t : E30} (h : For s l b t) {d : Nat} (hd : d < (s.2.2.2.1).toNat) : DC s l b d ((t.2.1).getD d 0) ((t.1).getD d 0) :=
  ⟨h.fr d hd, h.ft d hd, fun i hi he => by
    have e : atN s i = d := by unfold atN; rw [he]; simp
    have := h.fd i hi
    rw [e] at this
    exact ⟨_, this.1.1, this.1.2, this.2⟩⟩
theorem For.ex {s : E23} {l : List E72} {b : Nat} {t : E30} (h : For s l b t) : Ex s l b := fun d hd => ⟨_, _, h.dc (d := d) (by omega)⟩
theorem WitIs.for_ {s : E23} {l : List E72} (hs : StrOk s) {b : Nat} {t : E30} (h : WitIs s l b t) : For s l b t :=
  ⟨h.lt, h.lr, h.ld, fun d hd => ((h.at_ d hd).r.1.bd hs).2, fun d hd => (h.at_ d hd).r.1.1, fun i hi => ⟨(h.dr i hi trivial).1, (h.dr i hi trivial).2.1⟩⟩
inductive Pos
  | t (k : Nat)
  | r (k : Nat)
  | d (i : Nat)
def Pos.val (t : E30) : Pos → Int
  | .t k => (t.1).getD k 0
  | .r k => (t.2.1).getD k 0
  | .d i => (t.2.2.1).getD i 0
def Pos.need (s : E23) : Pos → List Pos
  | .t _ => []
  | .r k => [.t k]
  | .d i => [.t (atN s i), .r (atN s i)]
def Pos.ok (s : E23) : Pos → Prop
  | .t k => k < (s.2.2.2.1).toNat
  | .r k => k < (s.2.2.2.1).toNat
  | .d i => i < (s.2.2.2.2.1).length
end Go.Proofs.YtibmgbalfhfcdaaDoor.Abs
set_option linter.unusedVariables false
set_option linter.unusedSimpArgs false
set_option maxRecDepth 100000
namespace Go.Proofs.YtibmgbalfhfcdaaDoor.Abs
open Classical
def farOf (s : E23) (r : E72) : Int := s.1 + (s.2.1 + s.2.2.1) * r.2.1
theorem far_bd {s : E23} (hs : StrOk s) {r : E72} (hr : RdOk s r) : 0 ≤ farOf s r ∧ farOf s r ≤ 12100 := by
  have h1 := hs.err
  have h2 := hs.drift
  have h3 := hs.warm
  have h4 := mulb (m := s.2.1 + s.2.2.1) (w := r.2.1) (by omega) (by omega) hr.2.2.1 hr.2.2.2.1
  have h5 : 0 ≤ (s.2.1 + s.2.2.1) * r.2.1 := Int.mul_nonneg (by omega) hr.2.2.1
  unfold farOf
  omega
theorem agr1_far {s : E23} (hs : StrOk s) {r : E72} (hr : RdOk s r) {T m : Int} (hm : -(s.2.1 + s.2.2.1) ≤ m ∧ m ≤ s.2.1 + s.2.2.1) (h : agr1 s r T m = true) : r.2.2.1 - farOf s r ≤ T ∧ T ≤ r.2.2.1 + farOf s r := by
  unfold agr1 at h
  simp only [Bool.and_eq_true, decide_eq_true_eq] at h
  have a1 := Int.mul_le_mul_of_nonneg_right hm.1 hr.2.2.1
  have a2 := Int.mul_le_mul_of_nonneg_right hm.2 hr.2.2.1
  rw [Int.neg_mul] at a1
  unfold farOf
  omega
def InB (s : E23) (l : List E72) (d : Nat) (q : E56) : Prop := (2000 ≤ q.1 ∧ q.1 ≤ 20000) ∧ (-20000 ≤ q.2.1 ∧ q.2.1 ≤ 3200) ∧ ∀ b m T, DC s l b d m T → q.1 ≤ T ∧ T ≤ q.2.1
theorem dc_far {s : E23} {l : List E72} (hs : StrOk s) (hl : RdsOk s l) {b d : Nat} {m T : Int} (h : DC s l b d m T) {r : E72} (hr : r ∈ l) {i : Nat} (hi : r.1 = (i : Int)) (hi' : i < (s.2.2.2.2.1).length) (he : (s.2.2.2.2.1).getD i 0 = (d : Int)) : r.2.2.1 - farOf s r ≤ T ∧ T ≤ r.2.2.1 + farOf s r := by
  obtain ⟨q, q1, q2, q3⟩ := h.2.2 i hi' he
  have h1 := h.1
  have hS : moS s b i ≤ s.2.1 := by have := hs.drift; unfold moS; cases b.testBit i <;> simp <;> omega
  have hD : moD s b d ≤ s.2.2.1 := by have := hs.warm; unfold moD; cases b.testBit ((s.2.2.2.2.1).length + d) <;> simp <;> omega
  unfold agr at q3
  rw [List.all_eq_true] at q3
  have := q3 r hr
  rw [beq_iff_eq.2 hi] at this
  exact agr1_far hs (hl r hr) (m := m + q) (by omega) (by simpa using this)
theorem bounds_eq {s : E23} {l : List E72} (hs : StrOk s) (hl : RdsOk s l) (hn : l.length ≤ 1000) (d : Nat) : ∃ q, G84 s l d = some q ∧ InB s l d q := by
  unfold G84
  obtain ⟨st, e, q, i, rfl, h1, h2, h3⟩ := iter_inv (step := G84_l0_step) (k := 0) (n := l.length)
    (fun i st => ∃ q : E56, st = ((l, ((d : Int), ((i : Int), ()))), (s, ((0, (0, ())), (q, ())))) ∧ InB s l d q)
    (fun st => ∃ (q : E56) (i : Int), st = ((l, ((d : Int), (i, ()))), (s, ((0, (0, ())), (q, ())))) ∧ InB s l d q)
    (by
      rintro i st ⟨q, rfl, h1, h2, h3⟩ hi
      have hr := hl _ (getD_mem hi (d := (0, (0, (0, ())))))
      have hm := getD_mem hi (d := ((0, (0, (0, ()))) : E72))
      unfold G84_l0_step
      simp only [lt_int hi, ge0, Bool.and_self, cond_true, getD_toNat, wr1 (i := i) (by omega)]
      generalize l.getD i (0, (0, (0, ()))) = r at hr hm ⊢
      obtain ⟨j, hj, hj'⟩ := rd_i hr
      have hf := far_bd hs hr
      have e1 := hs.err
      have e2 := hs.drift
      have e3 := hs.warm
      have e4 := mulb (m := s.2.1 + s.2.2.1) (w := r.2.1) (by omega) (by omega) hr.2.2.1 hr.2.2.2.1
      have e5 := hr.2.2.2.2
      simp only [hj, ge0, lt_int hj', Bool.and_self, cond_true, getD_toNat]
      by_cases he : (s.2.2.2.2.1).getD j 0 = (d : Int)
      · rw [beq_iff_eq.2 he, cond_true]
        rw [wr (n := s.2.1 + s.2.2.1) (by omega) (by omega), wr (n := (s.2.1 + s.2.2.1) * r.2.1) (by omega) (by omega), wr (n := s.1 + (s.2.1 + s.2.2.1) * r.2.1) (by omega) (by omega)]
        rw [show s.1 + (s.2.1 + s.2.2.1) * r.2.1 = farOf s r from rfl]
        rw [wr (n := r.2.2.1 - farOf s r) (by omega) (by omega), wr (n := r.2.2.1 + farOf s r) (by omega) (by omega)]
        refine ⟨_, rfl, _, rfl, ⟨?_, ?_⟩, ⟨?_, ?_⟩, fun b m T hT => ?_⟩
        · simp only; split <;> omega
        · simp only; split <;> omega
        · simp only; split <;> omega
        · simp only; split <;> omega
        · have a1 := h3 b m T hT
          have a2 := dc_far hs hl hT hm hj hj' he
          constructor
          · simp only
            split <;> omega
          · simp only
            split <;> omega
      · rw [beq_eq_false_iff_ne.2 he, cond_false]
        exact ⟨_, rfl, _, rfl, h1, h2, h3⟩)
    (by
      rintro st ⟨q, rfl, h⟩
      unfold G84_l0_step
      simp only [nlt_int, cond_false]
      exact ⟨_, rfl, q, _, rfl, h⟩)
    l.length 0 (G84_l0_fuel ((l, ((d : Int), (0, ()))), (s, ((0, (0, ())), ((2000, (3200, ())), ()))))) ((l, ((d : Int), (0, ()))), (s, ((0, (0, ())), ((2000, (3200, ())), ())))) (by omega) (by unfold G84_l0_fuel; simp) ⟨_, rfl, ⟨by simp, by simp⟩, ⟨by simp, by simp⟩, fun b m T hT => (hT.bd hs).2⟩
  rw [show G84_l0_run ((l, ((d : Int), (0, ()))), (s, ((0, (0, ())), ((2000, (3200, ())), ())))) = _ from e]
  exact ⟨q, rfl, h1, h2, h3⟩
theorem work_some {s : E23} {l : List E72} (hs : StrOk s) (hl : RdsOk s l) (hn : l.length ≤ 1000) : ∃ n, G44 s l = some n := by
  have hdep := hs.depths
  unfold G44
  obtain ⟨st, e, h⟩ := iter_inv (step := G44_l0_step) (k := 0) (n := (s.2.2.2.1).toNat)
    (fun i st => ∃ n : Int, st = ((l, (n, ((i : Int), ()))), (s, ())))
    (fun st => True)
    (by
      rintro i st ⟨n, rfl⟩ hi
      obtain ⟨q, e, _⟩ := bounds_eq hs hl hn i
      have hlt : decide ((i : Int) < s.2.2.2.1) = true := decide_eq_true (by omega)
      unfold G44_l0_step
      simp only [hlt, cond_true, e, Option.bind_some, wr1 (i := i) (by omega)]
      exact ⟨_, rfl, _, rfl⟩)
    (by
      rintro st ⟨n, rfl⟩
      have hlt : decide (((s.2.2.2.1.toNat : Nat) : Int) < s.2.2.2.1) = false := decide_eq_false (by omega)
      unfold G44_l0_step
      simp only [hlt, cond_false]
      exact ⟨_, rfl, trivial⟩)
    (s.2.2.2.1).toNat 0 (G44_l0_fuel ((l, (1, (0, ()))), (s, ()))) ((l, (1, (0, ()))), (s, ())) (by omega) (by unfold G44_l0_fuel; simp only; omega) ⟨1, rfl⟩
  rw [show G44_l0_run ((l, (1, (0, ()))), (s, ())) = _ from e]
  exact ⟨_, rfl⟩
theorem light_some {s : E23} {l : List E72} (hs : StrOk s) (hl : RdsOk s l) (hn : l.length ≤ 1000) {n : Int} (h0 : n ≠ 0) : ∃ b, G14 s l n = some b := by
  unfold G14
  obtain ⟨w, e⟩ := work_some hs hl hn
  rw [e, decide_eq_false h0]
  exact ⟨_, rfl⟩
def okR (s : E23) (i T m : Int) (r : E72) : Bool := !(r.1 == i) || agr1 s r T m
theorem agr_idx {s : E23} {l : List E72} {i T m : Int} (d : E72) : agr s l i T m = true ↔ ∀ j, j < l.length → okR s i T m (l.getD j d) = true := by
  unfold agr
  rw [List.all_eq_true]
  exact (forall_getD d).symm
theorem rdrift_l1 {s : E23} {l : List E72} (hs : StrOk s) (hl : RdsOk s l) (hn : l.length ≤ 1000) {T m : Int} (hT : 2000 ≤ T ∧ T ≤ 3200) {q : Int} (hm : -60 ≤ m + q ∧ m + q ≤ 60) (hm2 : -40 ≤ m ∧ m ≤ 40) (i : Nat) (x1 x2 : Int) (x3 : Bool) :
    ∃ k u, G92_l1_run ((l, ((i : Int), (T, (m, (x1, (x2, (x3, (q, (true, (0, ())))))))))), (s, ())) = some (k, ((l, ((i : Int), (T, (m, (x1, (x2, (x3, (q, (agr s l i T (m + q), (u, ())))))))))), (s, ()))) := by
  have hw3 := hs.err
  unfold G92_l1_run
  obtain ⟨k, st, e, a, u, rfl, ha⟩ := iter_ex (step := G92_l1_step) (n := l.length)
    (fun j st => ∃ a, st = ((l, ((i : Int), (T, (m, (x1, (x2, (x3, (q, (a, ((j : Int), ())))))))))), (s, ())) ∧ (a = true ↔ ∀ j', j' < j → okR s i T (m + q) (l.getD j' (0, (0, (0, ())))) = true))
    (fun k st => ∃ a u, st = ((l, ((i : Int), (T, (m, (x1, (x2, (x3, (q, (a, (u, ())))))))))), (s, ())) ∧ (a = true ↔ ∀ j', j' < l.length → okR s i T (m + q) (l.getD j' (0, (0, (0, ())))) = true))
    (by
      rintro j st ⟨a, rfl, ha⟩ hj
      have hr := hl _ (getD_mem hj (d := (0, (0, (0, ())))))
      cases a with
      | false =>
        unfold G92_l1_step
        simp only [lt_int hj, cond_true, cond_false]
        refine .inr ⟨0, _, rfl, false, _, rfl, ⟨fun h => (by cases h), fun h => ?_⟩⟩
        exact ha.2 fun j' hj' => h j' (by omega)
      | true =>
        have hall := ha.1 rfl
        left
        unfold G92_l1_step
        simp only [lt_int hj, ge0, Bool.and_self, cond_true, getD_toNat, wr1 (i := j) (by omega)]
        have nxt : ∀ b, (b = true ↔ okR s i T (m + q) (l.getD j (0, (0, (0, ())))) = true) → (b = true ↔ ∀ j', j' < j + 1 → okR s i T (m + q) (l.getD j' (0, (0, (0, ())))) = true) := fun b hb => by
          rw [hb]
          refine ⟨fun h j' hj' => ?_, fun h => h j (by omega)⟩
          rcases Nat.lt_succ_iff_lt_or_eq.1 hj' with h' | h'
          · exact hall j' h'
          · rw [h']; exact h
        by_cases he : (l.getD j (0, (0, (0, ())))).1 = (i : Int)
        · rw [beq_iff_eq.2 he, cond_true]
          have hmm := mulb (m := m + q) (w := (l.getD j (0, (0, (0, ())))).2.1) (by omega) (by omega) hr.2.2.1 hr.2.2.2.1
          rw [wr (n := m + q) (by omega) (by omega), wr (n := (m + q) * (l.getD j (0, (0, (0, ())))).2.1) (by omega) (by omega), wr (n := T + (m + q) * (l.getD j (0, (0, (0, ())))).2.1) (by omega) (by omega), wr (by omega) (by omega), wr (by omega) (by omega), rin_tells]
          refine ⟨_, rfl, _, rfl, nxt _ ?_⟩
          unfold okR agr1
          rw [beq_iff_eq.2 he]
          simp only [Bool.not_true, Bool.false_or, Bool.and_eq_true, decide_eq_true_eq]
          omega
        · rw [beq_eq_false_iff_ne.2 he, cond_false]
          refine ⟨_, rfl, _, rfl, nxt _ ?_⟩
          unfold okR
          rw [beq_eq_false_iff_ne.2 he]
          simp)
    (by
      rintro st ⟨a, rfl, ha⟩
      unfold G92_l1_step
      simp only [nlt_int, cond_false]
      exact ⟨0, _, rfl, a, _, rfl, ha⟩)
    l.length 0 (G92_l1_fuel ((l, ((i : Int), (T, (m, (x1, (x2, (x3, (q, (true, (0, ())))))))))), (s, ()))) ((l, ((i : Int), (T, (m, (x1, (x2, (x3, (q, (true, (0, ())))))))))), (s, ())) (by omega) (by unfold G92_l1_fuel; simp) ⟨true, rfl, by simp⟩
  have : a = agr s l i T (m + q) := Bool.eq_iff_iff.2 (ha.trans (agr_idx _).symm)
  subst this
  exact ⟨k, u, e⟩
theorem rdrift_eq {s : E23} {l : List E72} (hs : StrOk s) (hl : RdsOk s l) (hn : l.length ≤ 1000) (i : Nat) {T m mo : Int} (hT : 2000 ≤ T ∧ T ≤ 3200) (hm : -40 ≤ m ∧ m ≤ 40) (hmo : 0 ≤ mo ∧ mo ≤ 20) :
    (∃ q, -mo ≤ q ∧ q ≤ mo ∧ agr s l i T (m + q) = true ∧ (∀ q', -mo ≤ q' → q' < q → agr s l i T (m + q') = false) ∧ G92 s l i T m mo = some (q, (true, ()))) ∨
      ((∀ q, -mo ≤ q → q ≤ mo → agr s l i T (m + q) = false) ∧ G92 s l i T m mo = some (0, (false, ()))) := by
  unfold G92
  rw [wr (n := 0 - mo) (by omega) (by omega)]
  have key := iter_fn (step := G92_l0_step) (n := (2 * mo + 1).toNat) (k1 := 0) (k2 := 1) (fuel := G92_l0_fuel ((l, ((i : Int), (T, (m, (mo, (0, (false, (0 - mo, ())))))))), (s, ())))
    (bad := fun k => agr s l i T (m + ((k : Int) - mo)))
    (fun k => ((l, ((i : Int), (T, (m, (mo, (0, (false, ((k : Int) - mo, ())))))))), (s, ())))
    (fun k => ((l, ((i : Int), (T, (m, (mo, ((k : Int) - mo, (true, ((k : Int) - mo, ())))))))), (s, ())))
    ((l, ((i : Int), (T, (m, (mo, (0, (false, ((((2 * mo + 1).toNat : Nat) : Int) - mo, ())))))))), (s, ())) (fun k hk => by
      have hk' : (k : Int) ≤ 2 * mo := by omega
      have hle : decide ((k : Int) - mo ≤ mo) = true := decide_eq_true (by omega)
      obtain ⟨k', u, e⟩ := rdrift_l1 hs hl hn hT (q := (k : Int) - mo) (by omega) hm i mo 0 false
      unfold G92_l0_step
      simp only [hle, cond_true]
      rw [e]
      simp only [Option.bind_some]
      rw [wr (n := (k : Int) - mo + 1) (by omega) (by omega)]
      cases agr s l i T (m + ((k : Int) - mo)) with
      | true => rfl
      | false =>
        have e : (k : Int) - mo + 1 = ((k + 1 : Nat) : Int) - mo := by omega
        rw [e]; rfl) (by
      have hle : decide ((((2 * mo + 1).toNat : Nat) : Int) - mo ≤ mo) = false := decide_eq_false (by omega)
      unfold G92_l0_step
      simp only [hle, cond_false]) (by unfold G92_l0_fuel; omega)
  have e0 : (((0 : Nat) : Int) - mo) = 0 - mo := rfl
  rcases key with ⟨k, hk, hb, hbelow, he⟩ | ⟨hall, he⟩
  · left
    rw [show G92_l0_run ((l, ((i : Int), (T, (m, (mo, (0, (false, (0 - mo, ())))))))), (s, ())) = _ from he]
    refine ⟨(k : Int) - mo, by omega, by omega, hb, fun q' h1 h2 => ?_, rfl⟩
    have := hbelow (q' + mo).toNat (by omega)
    have e : (((q' + mo).toNat : Nat) : Int) - mo = q' := by omega
    rw [e] at this
    exact this
  · right
    rw [show G92_l0_run ((l, ((i : Int), (T, (m, (mo, (0, (false, (0 - mo, ())))))))), (s, ())) = _ from he]
    refine ⟨fun q h1 h2 => ?_, rfl⟩
    have := hall (q + mo).toNat (by omega)
    have e : (((q + mo).toNat : Nat) : Int) - mo = q := by omega
    rw [e] at this
    exact this
def cntA (s : E23) (d : Nat) : Nat → Nat
  | 0 => 0
  | i + 1 => cntA s d i + (if atN s i = d then 1 else 0)
theorem cntA_le (s : E23) (d : Nat) : ∀ i, cntA s d i ≤ i
  | 0 => Nat.le_refl _
  | i + 1 => by have := cntA_le s d i; simp only [cntA]; split <;> omega
theorem cntA_mono (s : E23) (d : Nat) {i : Nat} : ∀ j, i ≤ j → cntA s d i ≤ cntA s d j
  | 0, h => by have : i = 0 := by omega
               subst this; exact Nat.le_refl _
  | j + 1, h => by
    rcases Nat.lt_or_eq_of_le h with h | h
    · have := cntA_mono s d (i := i) j (by omega)
      simp only [cntA]; omega
    · subst h; exact Nat.le_refl _
def LeastL (s : E23) (l : List E72) (b d : Nat) (T m : Int) (L : List Int) (n : Nat) : Prop := L.length = cntA s d n ∧ ∀ i, i < n → atN s i = d → LeastD s l b i T m (L.getD (cntA s d i) 0)
theorem least_eq {s : E23} {l : List E72} (hs : StrOk s) (hl : RdsOk s l) (hn : l.length ≤ 1000) {c : E26} (hc : CauseOk s c) (h3 : (c.1).length < 2 ^ 62) (d : Nat) {T m : Int} (hT : 2000 ≤ T ∧ T ≤ 3200) (hm : -40 ≤ m ∧ m ≤ 40) :
    (Can s l (bitsOf s c) d T m ∧ ∃ L, G59 s l c d T m = some (L, (true, ())) ∧ LeastL s l (bitsOf s c) d T m L (s.2.2.2.2.1).length) ∨ (¬ Can s l (bitsOf s c) d T m ∧ G59 s l c d T m = some ([], (false, ()))) := by
  have hlen := hs.len
  unfold G59
  obtain ⟨k, st, e, h⟩ := iter_ex (step := G59_l0_step) (n := (s.2.2.2.2.1).length)
    (fun i st => ∃ L, st = ((l, ((d : Int), (T, (m, ([], (false, (L, ((i : Int), ())))))))), (s, (c, ()))) ∧ LeastL s l (bitsOf s c) d T m L i)
    (fun k st => (∃ L i, k = 1 ∧ st = ((l, ((d : Int), (T, (m, ([], (false, (L, ((i : Int), ())))))))), (s, (c, ()))) ∧ LeastL s l (bitsOf s c) d T m L (s.2.2.2.2.1).length) ∨ (∃ L i, k = 0 ∧ st = ((l, ((d : Int), (T, (m, ([], (false, (L, ((i : Int), ())))))))), (s, (c, ()))) ∧ ¬ Can s l (bitsOf s c) d T m))
    (by
      rintro i st ⟨L, rfl, h1, h2⟩ hi
      obtain ⟨ha, ha'⟩ := at_ok hs hi
      unfold G59_l0_step
      simp only [lt_int hi, ge0, Bool.and_self, cond_true, getD_toNat, wr1 (i := i) (by omega)]
      by_cases he : atN s i = d
      case neg =>
        rw [beqn_t (a := (s.2.2.2.2.1).getD i 0) (b := (d : Int)) (by omega), cond_true]
        refine .inl ⟨_, rfl, L, rfl, by simp only [cntA, if_neg he]; omega, fun j hj hp => ?_⟩
        rcases Nat.lt_succ_iff_lt_or_eq.1 hj with h | h
        · exact h2 j h hp
        · subst h; exact absurd hp he
      rw [beqn_f (a := (s.2.2.2.2.1).getD i 0) (b := (d : Int)) (by omega), cond_false]
      have hcl := cntA_le s d i
      have fin : ∀ mo, moS s (bitsOf s c) i = mo →
          (∃ s' : TY92, (Option.bind (G92 s l (i : Int) T m mo) fun r2 => (bif (!r2.2.1) then some (1, ((l, ((d : Int), (T, (m, ([], (false, (L, ((i : Int), ())))))))), (s, (c, ())))) else (bif (decide (List.length L + List.length [r2.1] ≤ LIM)) then some (0, ((l, ((d : Int), (T, (m, ([], (false, (L ++ [r2.1], (((i + 1 : Nat) : Int), ())))))))), (s, (c, ())))) else none))) = some (0, s') ∧ ∃ L, s' = ((l, ((d : Int), (T, (m, ([], (false, (L, (((i + 1 : Nat) : Int), ())))))))), (s, (c, ()))) ∧ LeastL s l (bitsOf s c) d T m L (i + 1)) ∨
          (∃ (k : Nat) (s' : TY92), (Option.bind (G92 s l (i : Int) T m mo) fun r2 => (bif (!r2.2.1) then some (1, ((l, ((d : Int), (T, (m, ([], (false, (L, ((i : Int), ())))))))), (s, (c, ())))) else (bif (decide (List.length L + List.length [r2.1] ≤ LIM)) then some (0, ((l, ((d : Int), (T, (m, ([], (false, (L ++ [r2.1], (((i + 1 : Nat) : Int), ())))))))), (s, (c, ())))) else none))) = some (k + 1, s') ∧ ((∃ L i, k = 1 ∧ s' = ((l, ((d : Int), (T, (m, ([], (false, (L, ((i : Int), ())))))))), (s, (c, ()))) ∧ LeastL s l (bitsOf s c) d T m L (s.2.2.2.2.1).length) ∨ (∃ L i, k = 0 ∧ s' = ((l, ((d : Int), (T, (m, ([], (false, (L, ((i : Int), ())))))))), (s, (c, ()))) ∧ ¬ Can s l (bitsOf s c) d T m))) := by
        intro mo hmo
        have hb := moS_bd hs (bitsOf s c) i
        rcases rdrift_eq hs hl hn i hT hm (mo := mo) (by omega) with ⟨q, q1, q2, q3, q4, q5⟩ | ⟨q1, q2⟩
        · left
          rw [q5]
          simp only [Option.bind_some, Bool.not_true, cond_false, lim_ok (n := L.length) (m := List.length [q]) (by omega) (by simp), cond_true]
          refine ⟨_, rfl, _, rfl, by simp only [List.length_append, List.length_singleton, cntA, if_pos he]; omega, fun j hj hp => ?_⟩
          rw [getD_snoc]
          rcases Nat.lt_succ_iff_lt_or_eq.1 hj with h | h
          · have hlt : cntA s d j < cntA s d i := by
              have := cntA_mono s d (i := j + 1) i (by omega)
              simp only [cntA, if_pos hp] at this
              omega
            rw [if_pos (by omega)]
            exact h2 j h hp
          · subst h
            rw [if_neg (by omega), if_pos (by omega)]
            subst hmo
            refine ⟨⟨q1, q2⟩, q3, fun q' a1 a2 a3 => ?_⟩
            apply Classical.byContradiction
            intro hq
            rw [q4 q' a1 (by omega)] at a2
            cases a2
        · right
          rw [q2]
          refine ⟨0, _, rfl, .inr ⟨_, _, rfl, rfl, fun hcan => ?_⟩⟩
          obtain ⟨q, a1, a2, a3⟩ := hcan i hi (by omega)
          rw [q1 q (by omega) (by omega)] at a3
          cases a3
      by_cases hm' : (i : Int) ∈ c.1
      · rw [(has_tells _ _ h3).val hm']
        exact fin _ (by rw [moS_c hc hi, if_pos hm'])
      · rw [(has_tells _ _ h3).nval hm']
        exact fin _ (by rw [moS_c hc hi, if_neg hm']))
    (by
      rintro st ⟨L, rfl, h⟩
      unfold G59_l0_step
      simp only [nlt_int, cond_false]
      exact ⟨1, _, rfl, .inl ⟨L, _, rfl, rfl, h⟩⟩)
    (s.2.2.2.2.1).length 0 (G59_l0_fuel ((l, ((d : Int), (T, (m, ([], (false, ([], (0, ())))))))), (s, (c, ())))) ((l, ((d : Int), (T, (m, ([], (false, ([], (0, ())))))))), (s, (c, ()))) (by omega) (by unfold G59_l0_fuel; simp) ⟨[], rfl, rfl, fun j hj => absurd hj (by omega)⟩
  rw [show G59_l0_run ((l, ((d : Int), (T, (m, ([], (false, ([], (0, ())))))))), (s, (c, ()))) = _ from e]
  rcases h with ⟨L, i, rfl, rfl, h⟩ | ⟨L, i, rfl, rfl, h⟩
  · refine .inl ⟨fun j hj hp => ?_, L, rfl, h⟩
    obtain ⟨ha, ha'⟩ := at_ok hs hj
    have := h.2 j hj (by omega)
    exact ⟨_, this.1.1, this.1.2, this.2.1⟩
  · exact .inr ⟨h, rfl⟩
end Go.Proofs.YtibmgbalfhfcdaaDoor.Abs
set_option linter.unusedVariables false
set_option linter.unusedSimpArgs false
set_option maxRecDepth 100000
namespace Go.Proofs.YtibmgbalfhfcdaaDoor.Abs
open Classical
theorem hc_can {s : E23} {l : List E72} {b d : Nat} {m T : Int} : DC s l b d m T ↔ (-(moD s b d) ≤ m ∧ m ≤ moD s b d) ∧ (2000 ≤ T ∧ T ≤ 3200) ∧ Can s l b d T m := Iff.rfl
theorem first_l1 {s : E23} {l : List E72} (hs : StrOk s) (hl : RdsOk s l) (hn : l.length ≤ 1000) {c : E26} (hc : CauseOk s c) (h3 : (c.1).length < 2 ^ 62) (d : Nat) {T : Int} (hT : 2000 ≤ T ∧ T ≤ 3200) (B : E56) :
    (∃ m, LeastR s l (bitsOf s c) d T m ∧ ∃ m', G58_l1_run ((l, ((d : Int), (false, (moD s (bitsOf s c) d, (T, (0 - moD s (bitsOf s c) d, ())))))), (s, (c, ((0, (0, ())), (B, ()))))) = some (0, ((l, ((d : Int), (true, (moD s (bitsOf s c) d, (T, (m', ())))))), (s, (c, ((T, (m, ())), (B, ()))))))) ∨
    ((∀ m, ¬ DC s l (bitsOf s c) d m T) ∧ ∃ m', G58_l1_run ((l, ((d : Int), (false, (moD s (bitsOf s c) d, (T, (0 - moD s (bitsOf s c) d, ())))))), (s, (c, ((0, (0, ())), (B, ()))))) = some (1, ((l, ((d : Int), (false, (moD s (bitsOf s c) d, (T, (m', ())))))), (s, (c, ((0, (0, ())), (B, ()))))))) := by
  have hmo := moD_bd hs (bitsOf s c) d
  have hdc : ∀ m, DC s l (bitsOf s c) d m T ↔ (-(moD s (bitsOf s c) d) ≤ m ∧ m ≤ moD s (bitsOf s c) d) ∧ Can s l (bitsOf s c) d T m := fun m => by
    rw [hc_can]; exact ⟨fun h => ⟨h.1, h.2.2⟩, fun h => ⟨h.1, hT, h.2⟩⟩
  unfold LeastR
  simp only [hdc]
  generalize moD s (bitsOf s c) d = mo at hmo ⊢
  have key := iter_fn (step := G58_l1_step) (n := (2 * mo + 1).toNat) (k1 := 0) (k2 := 1) (fuel := G58_l1_fuel ((l, ((d : Int), (false, (mo, (T, (0 - mo, ())))))), (s, (c, ((0, (0, ())), (B, ()))))))
    (bad := fun k => decide (Can s l (bitsOf s c) d T ((k : Int) - mo)))
    (fun k => ((l, ((d : Int), (false, (mo, (T, ((k : Int) - mo, ())))))), (s, (c, ((0, (0, ())), (B, ()))))))
    (fun k => ((l, ((d : Int), (true, (mo, (T, ((k : Int) - mo, ())))))), (s, (c, ((T, ((k : Int) - mo, ())), (B, ()))))))
    ((l, ((d : Int), (false, (mo, (T, ((((2 * mo + 1).toNat : Nat) : Int) - mo, ())))))), (s, (c, ((0, (0, ())), (B, ()))))) (fun k hk => by
      have hk' : (k : Int) ≤ 2 * mo := by omega
      have hle : decide ((k : Int) - mo ≤ mo) = true := decide_eq_true (by omega)
      unfold G58_l1_step
      simp only [hle, cond_true]
      rw [wr (n := (k : Int) - mo + 1) (by omega) (by omega)]
      rcases least_eq hs hl hn hc h3 d hT (m := (k : Int) - mo) (by omega) with ⟨h1, L, h2, _⟩ | ⟨h1, h2⟩
      · rw [h2, decide_eq_true h1]; rfl
      · rw [h2, decide_eq_false h1]
        have e : (k : Int) - mo + 1 = ((k + 1 : Nat) : Int) - mo := by omega
        rw [e]; rfl) (by
      have hle : decide ((((2 * mo + 1).toNat : Nat) : Int) - mo ≤ mo) = false := decide_eq_false (by omega)
      unfold G58_l1_step
      simp only [hle, cond_false]) (by unfold G58_l1_fuel; omega)
  have e0 : (((0 : Nat) : Int) - mo) = 0 - mo := rfl
  rcases key with ⟨k, hk, hb, hbelow, he⟩ | ⟨hall, he⟩
  · left
    refine ⟨(k : Int) - mo, ⟨⟨⟨by omega, by omega⟩, of_decide_eq_true hb⟩, fun m hm => ?_⟩, _, he⟩
    apply Classical.byContradiction
    intro hlt
    have := of_decide_eq_false (hbelow (m + mo).toNat (by omega))
    have e : (((m + mo).toNat : Nat) : Int) - mo = m := by omega
    rw [e] at this
    exact this hm.2
  · right
    refine ⟨fun m hm => ?_, _, he⟩
    have := of_decide_eq_false (hall (m + mo).toNat (by omega))
    have e : (((m + mo).toNat : Nat) : Int) - mo = m := by omega
    rw [e] at this
    exact this hm.2
theorem first_eq {s : E23} {l : List E72} (hs : StrOk s) (hl : RdsOk s l) (hn : l.length ≤ 1000) {c : E26} (hc : CauseOk s c) (h3 : (c.1).length < 2 ^ 62) (h4 : (c.2.1).length < 2 ^ 62) (d : Nat) :
    (∃ T m, LeastT s l (bitsOf s c) d T ∧ LeastR s l (bitsOf s c) d T m ∧ G58 s l c d = some ((T, (m, ())), (true, ()))) ∨ ((∀ m T, ¬ DC s l (bitsOf s c) d m T) ∧ G58 s l c d = some ((0, (0, ())), (false, ()))) := by
  have hmo := moD_bd hs (bitsOf s c) d
  obtain ⟨B, eB, hB1, hB2, hB3⟩ := bounds_eq hs hl hn d
  have main : (∃ T m, LeastT s l (bitsOf s c) d T ∧ LeastR s l (bitsOf s c) d T m ∧ (Option.bind (G58_l0_run ((l, ((d : Int), (false, (moD s (bitsOf s c) d, (B.1, ()))))), (s, (c, ((0, (0, ())), (B, ())))))) fun q5 => (natK q5.1 (some (q5.2.2.2.2.1, (q5.2.1.2.2.1, ()))) (fun _ => some (((0 : Int), ((0 : Int), ())), (false, ()))))) = some ((T, (m, ())), (true, ()))) ∨
      ((∀ m T, ¬ DC s l (bitsOf s c) d m T) ∧ (Option.bind (G58_l0_run ((l, ((d : Int), (false, (moD s (bitsOf s c) d, (B.1, ()))))), (s, (c, ((0, (0, ())), (B, ())))))) fun q5 => (natK q5.1 (some (q5.2.2.2.2.1, (q5.2.1.2.2.1, ()))) (fun _ => some (((0 : Int), ((0 : Int), ())), (false, ()))))) = some ((0, (0, ())), (false, ()))) := by
    have hall : ∀ k : Nat, k < (B.2.1 - B.1 + 1).toNat → 2000 ≤ B.1 + (k : Int) ∧ B.1 + (k : Int) ≤ 3200 := fun k hk => by omega
    have R : ∀ k : Nat, ∃ X : TY96, k < (B.2.1 - B.1 + 1).toNat → (¬ (∃ m, DC s l (bitsOf s c) d m (B.1 + (k : Int))) → G58_l0_step ((l, ((d : Int), (false, (moD s (bitsOf s c) d, (B.1 + (k : Int), ()))))), (s, (c, ((0, (0, ())), (B, ()))))) = some (0, ((l, ((d : Int), (false, (moD s (bitsOf s c) d, (B.1 + ((k + 1 : Nat) : Int), ()))))), (s, (c, ((0, (0, ())), (B, ()))))))) ∧ ((∃ m, DC s l (bitsOf s c) d m (B.1 + (k : Int))) → G58_l0_step ((l, ((d : Int), (false, (moD s (bitsOf s c) d, (B.1 + (k : Int), ()))))), (s, (c, ((0, (0, ())), (B, ()))))) = some (1, X) ∧ X.1.2.2.1 = true ∧ ∃ m, X.2.2.2.1 = (B.1 + (k : Int), (m, ())) ∧ LeastR s l (bitsOf s c) d (B.1 + (k : Int)) m) := by
      intro k
      by_cases hk : k < (B.2.1 - B.1 + 1).toNat
      case neg => exact ⟨((l, ((d : Int), (false, (0, (0, ()))))), (s, (c, ((0, (0, ())), (B, ()))))), fun h => absurd h hk⟩
      have hT := hall k hk
      have hle : decide (B.1 + (k : Int) ≤ B.2.1) = true := decide_eq_true (by omega)
      unfold G58_l0_step
      simp only [hle, cond_true]
      rw [wr (n := 0 - moD s (bitsOf s c) d) (by omega) (by omega)]
      rcases first_l1 hs hl hn hc h3 d hT B with ⟨m, h1, m', h2⟩ | ⟨h1, m', h2⟩
      · rw [h2]
        exact ⟨_, fun _ => ⟨fun h => absurd ⟨m, h1.1⟩ h, fun _ => ⟨rfl, rfl, m, rfl, h1⟩⟩⟩
      · rw [h2]
        refine ⟨((l, ((d : Int), (false, (0, (0, ()))))), (s, (c, ((0, (0, ())), (B, ()))))), fun _ => ⟨fun _ => ?_, fun ⟨m, hm⟩ => absurd hm (h1 m)⟩⟩
        simp only [Option.bind_some, natK]
        rw [wr (n := B.1 + (k : Int) + 1) (by omega) (by omega)]
        have e : B.1 + (k : Int) + 1 = B.1 + ((k + 1 : Nat) : Int) := by omega
        rw [e]
    have key := iter_fn (step := G58_l0_step) (n := (B.2.1 - B.1 + 1).toNat) (k1 := 0) (k2 := 1) (fuel := G58_l0_fuel ((l, ((d : Int), (false, (moD s (bitsOf s c) d, (B.1, ()))))), (s, (c, ((0, (0, ())), (B, ()))))))
      (bad := fun k => decide (∃ m, DC s l (bitsOf s c) d m (B.1 + (k : Int))))
      (fun k => ((l, ((d : Int), (false, (moD s (bitsOf s c) d, (B.1 + (k : Int), ()))))), (s, (c, ((0, (0, ())), (B, ()))))))
      (fun k => (R k).choose)
      ((l, ((d : Int), (false, (moD s (bitsOf s c) d, (B.1 + (((B.2.1 - B.1 + 1).toNat : Nat) : Int), ()))))), (s, (c, ((0, (0, ())), (B, ()))))) (fun k hk => by
        have := (R k).choose_spec hk
        by_cases h : ∃ m, DC s l (bitsOf s c) d m (B.1 + (k : Int))
        · rw [decide_eq_true h]; exact (this.2 h).1
        · rw [decide_eq_false h]; exact this.1 h) (by
        have hle : decide (B.1 + (((B.2.1 - B.1 + 1).toNat : Nat) : Int) ≤ B.2.1) = false := decide_eq_false (by omega)
        unfold G58_l0_step
        simp only [hle, cond_false]) (by unfold G58_l0_fuel; omega)
    have e0 : B.1 + ((0 : Nat) : Int) = B.1 := by omega
    simp only [e0] at key
    rcases key with ⟨k, hk, hb, hbelow, he⟩ | ⟨hno, he⟩
    · left
      rw [show G58_l0_run ((l, ((d : Int), (false, (moD s (bitsOf s c) d, (B.1, ()))))), (s, (c, ((0, (0, ())), (B, ()))))) = _ from he]
      have hex := of_decide_eq_true hb
      obtain ⟨_, h2, m, h5, h6⟩ := ((R k).choose_spec hk).2 hex
      refine ⟨B.1 + (k : Int), m, ⟨hex, fun m' T' hT' => ?_⟩, h6, ?_⟩
      · apply Classical.byContradiction
        intro hlt
        have hin := hB3 _ _ _ hT'
        have := of_decide_eq_false (hbelow (T' - B.1).toNat (by omega))
        have e : B.1 + (((T' - B.1).toNat : Nat) : Int) = T' := by omega
        rw [e] at this
        exact this ⟨m', hT'⟩
      · simp only [Option.bind_some, natK]
        rw [h2, h5]
    · right
      rw [show G58_l0_run ((l, ((d : Int), (false, (moD s (bitsOf s c) d, (B.1, ()))))), (s, (c, ((0, (0, ())), (B, ()))))) = _ from he]
      refine ⟨fun m T hT => ?_, rfl⟩
      have hin := hB3 _ _ _ hT
      have := of_decide_eq_false (hno (T - B.1).toNat (by omega))
      have e : B.1 + (((T - B.1).toNat : Nat) : Int) = T := by omega
      rw [e] at this
      exact this ⟨m, hT⟩
  unfold G58
  by_cases hm : (d : Int) ∈ c.2.1
  · rw [(has_tells _ _ h4).val hm]
    simp only [Option.bind_some, cond_true, eB]
    have : moD s (bitsOf s c) d = s.2.2.1 := by rw [moD_c hc, if_pos hm]
    rw [this] at main
    exact main
  · rw [(has_tells _ _ h4).nval hm]
    simp only [Option.bind_some, cond_false, eB]
    have : moD s (bitsOf s c) d = 0 := by rw [moD_c hc, if_neg hm]
    rw [this] at main
    exact main
theorem rwit_l1 {s : E23} {l : List E72} (hs : StrOk s) {b d : Nat} {T m : Int} (c : E26) (z : E30) (D L Ts Rs : List Int) (hD : LeastL s l b d T m D (s.2.2.2.2.1).length) (hL : L.length = (s.2.2.2.2.1).length) (x1 : Bool) (B : E56) (hT : Ts.getD d 0 = T) (hR : Rs.getD d 0 = m)
    (h : DrSo s l b Ts Rs L fun i => atN s i < d) :
    ∃ L' u v, G20_l1_run ((l, (x1, ((d : Int), (D, (0, (0, ())))))), (s, (c, (z, (L, ((Ts, (Rs, ((s.2.2.2.2.1).length, ()))), (B, ()))))))) = some (0, ((l, (x1, ((d : Int), (D, (u, (v, ())))))), (s, (c, (z, (L', ((Ts, (Rs, ((s.2.2.2.2.1).length, ()))), (B, ())))))))) ∧ L'.length = (s.2.2.2.2.1).length ∧ DrSo s l b Ts Rs L' (fun i => atN s i < d + 1) := by
  have hlen := hs.len
  obtain ⟨q, e, L', u, v, rfl, h1, h2⟩ := iter_inv (step := G20_l1_step) (k := 0) (n := (s.2.2.2.2.1).length)
    (fun i st => ∃ L', st = ((l, (x1, ((d : Int), (D, (((cntA s d i : Nat) : Int), ((i : Int), ())))))), (s, (c, (z, (L', ((Ts, (Rs, ((s.2.2.2.2.1).length, ()))), (B, ()))))))) ∧ L'.length = (s.2.2.2.2.1).length ∧ DrSo s l b Ts Rs L' (fun j => atN s j < d ∨ (j < i ∧ atN s j = d)))
    (fun st => ∃ L' u v, st = ((l, (x1, ((d : Int), (D, (u, (v, ())))))), (s, (c, (z, (L', ((Ts, (Rs, ((s.2.2.2.2.1).length, ()))), (B, ()))))))) ∧ L'.length = (s.2.2.2.2.1).length ∧ DrSo s l b Ts Rs L' (fun i => atN s i < d + 1))
    (by
      rintro i st ⟨L', rfl, h1, h2⟩ hi
      obtain ⟨ha, ha'⟩ := at_ok hs hi
      have hcl := cntA_le s d i
      unfold G20_l1_step
      simp only [lt_int hi, ge0, Bool.and_self, cond_true, getD_toNat, wr1 (i := i) (by omega), Int.toNat_natCast]
      by_cases he : atN s i = d
      · rw [beq_iff_eq.2 (show (s.2.2.2.2.1).getD i 0 = (d : Int) by omega), cond_true]
        have hcm := cntA_mono s d (i := i + 1) (s.2.2.2.2.1).length (by omega)
        simp only [cntA, if_pos he] at hcm
        have hDl := hD.1
        have e1 : decide (i < L'.length) = true := decide_eq_true (by omega)
        simp only [lt_int (show cntA s d i < D.length by omega), cond_true, e1, wr1 (i := cntA s d i) (by omega)]
        refine ⟨_, rfl, L'.set i (D.getD (cntA s d i) 0), by simp only [cntA, if_pos he], by rw [List.length_set]; exact h1, fun j hj hp => ?_⟩
        rw [set_getD _ _ _ _ _ (by omega)]
        by_cases hji : j = i
        · subst hji
          rw [if_pos rfl, he, hT, hR]
          exact hD.2 j hi he
        · rw [if_neg hji]
          refine h2 j hj ?_
          rcases hp with hp | ⟨hp, hp'⟩
          · exact .inl hp
          · exact .inr ⟨by omega, hp'⟩
      · rw [beq_eq_false_iff_ne.2 (show (s.2.2.2.2.1).getD i 0 ≠ (d : Int) by omega), cond_false]
        refine ⟨_, rfl, L', by simp only [cntA, if_neg he, Nat.add_zero], h1, fun j hj hp => h2 j hj ?_⟩
        rcases hp with hp | ⟨hp, hp'⟩
        · exact .inl hp
        · rcases Nat.lt_succ_iff_lt_or_eq.1 hp with h | h
          · exact .inr ⟨h, hp'⟩
          · subst h; exact absurd hp' he)
    (by
      rintro st ⟨L', rfl, h1, h2⟩
      unfold G20_l1_step
      simp only [nlt_int, cond_false]
      refine ⟨_, rfl, L', _, _, rfl, h1, fun j hj hp => h2 j hj ?_⟩
      have : atN s j < d ∨ atN s j = d := by omega
      rcases this with h | h
      · exact .inl h
      · exact .inr ⟨hj, h⟩)
    (s.2.2.2.2.1).length 0 (G20_l1_fuel ((l, (x1, ((d : Int), (D, (0, (0, ())))))), (s, (c, (z, (L, ((Ts, (Rs, ((s.2.2.2.2.1).length, ()))), (B, ()))))))))
    ((l, (x1, ((d : Int), (D, (0, (0, ())))))), (s, (c, (z, (L, ((Ts, (Rs, ((s.2.2.2.2.1).length, ()))), (B, ()))))))) (by omega) (by unfold G20_l1_fuel; simp) ⟨L, rfl, hL, fun j hj hp => h j hj (by omega)⟩
  exact ⟨L', u, v, e, h1, h2⟩
theorem rwitness_eq {s : E23} {l : List E72} (hs : StrOk s) (hl : RdsOk s l) (hn : l.length ≤ 1000) {c : E26} (hc : CauseOk s c) (h3 : (c.1).length < 2 ^ 62) (h4 : (c.2.1).length < 2 ^ 62) :
    (¬ Ex s l (bitsOf s c) ∧ G20 s l c = some (([], ([], ([], ()))), (false, ()))) ∨ (∃ t, WitIs s l (bitsOf s c) t ∧ G20 s l c = some (t, (true, ()))) := by
  have hlen := hs.len
  have hdep := hs.depths
  have e1 : (decide ((0 : Int) ≤ ((s.2.2.2.2.1).length : Int)) && decide (((s.2.2.2.2.1).length : Int) ≤ (LIM : Int)) && decide (((s.2.2.2.2.1).length : Int) = ((s.2.2.2.2.1).length : Int))) = true := by
    have : (LIM : Int) ≥ 100000 := by decide
    simp; omega
  unfold G20
  rw [e1, cond_true]
  obtain ⟨k, q, e, h⟩ := iter_ex (step := G20_l0_step) (n := (s.2.2.2.1).toNat)
    (fun d st => ∃ L Ts Rs, st = ((l, (false, ((d : Int), ()))), (s, (c, (([], ([], ([], ()))), (L, ((Ts, (Rs, ((s.2.2.2.2.1).length, ()))), ())))))) ∧ L.length = (s.2.2.2.2.1).length ∧ Ts.length = d ∧ Rs.length = d ∧ (∀ j, j < d → WitAt s l (bitsOf s c) j Ts Rs) ∧ DrSo s l (bitsOf s c) Ts Rs L fun i => atN s i < d)
    (fun k q => (k = 0 ∧ q.1.2.1 = false ∧ q.2.2.2.1 = ([], ([], ([], ()))) ∧ ¬ Ex s l (bitsOf s c)) ∨ (k = 1 ∧ ∃ u L Ts Rs, q = ((l, (false, (u, ()))), (s, (c, (([], ([], ([], ()))), (L, ((Ts, (Rs, ((s.2.2.2.2.1).length, ()))), ())))))) ∧ WitIs s l (bitsOf s c) (Ts, (Rs, (L, ())))))
    (by
      rintro d st ⟨L, Ts, Rs, rfl, h1, h2, h5, h6, h7⟩ hd
      have hlt : decide ((d : Int) < s.2.2.2.1) = true := decide_eq_true (by omega)
      unfold G20_l0_step
      simp only [hlt, cond_true, wr1 (i := d) (by omega)]
      rcases first_eq hs hl hn hc h3 h4 d with ⟨T, m, f1, f2, f3⟩ | ⟨f1, f2⟩
      · left
        have hb := f2.1.bd hs
        rw [f3]
        simp only [Option.bind_some, Bool.not_true, cond_false, lim_ok (n := Ts.length) (m := List.length [T]) (by omega) (by simp), lim_ok (n := Rs.length) (m := List.length [m]) (by omega) (by simp), cond_true]
        rcases least_eq hs hl hn hc h3 d (T := T) (m := m) hb.2 (by omega) with ⟨_, D, g1, g2⟩ | ⟨g1, _⟩
        · have hT : (Ts ++ [T]).getD d 0 = T := by rw [getD_snoc, if_neg (by omega), if_pos (by omega)]
          have hR : (Rs ++ [m]).getD d 0 = m := by rw [getD_snoc, if_neg (by omega), if_pos (by omega)]
          have old : ∀ j, j < d → (Ts ++ [T]).getD j 0 = Ts.getD j 0 ∧ (Rs ++ [m]).getD j 0 = Rs.getD j 0 := fun j hj => ⟨by rw [getD_snoc, if_pos (by omega)], by rw [getD_snoc, if_pos (by omega)]⟩
          rw [g1]
          simp only [Option.bind_some]
          obtain ⟨L', u, v, k1, k2, k3⟩ := rwit_l1 hs c ([], ([], ([], ()))) D L (Ts ++ [T]) (Rs ++ [m]) g2 h1 false (T, (m, ())) hT hR (fun i hi hp => by
            rw [(old _ hp).1, (old _ hp).2]; exact h7 i hi hp)
          rw [k1]
          simp only [Option.bind_some, wr1 (i := d) (by omega)]
          refine ⟨_, rfl, L', Ts ++ [T], Rs ++ [m], rfl, k2, by simp [h2], by simp [h5], fun j hj => ?_, k3⟩
          rcases Nat.lt_succ_iff_lt_or_eq.1 hj with h | h
          · have := h6 j h
            exact ⟨by rw [(old j h).1]; exact this.t, by rw [(old j h).1, (old j h).2]; exact this.r⟩
          · subst h
            exact ⟨by rw [hT]; exact f1, by rw [hT, hR]; exact f2⟩
        · exact absurd f2.1.2.2 g1
      · right
        rw [f2]
        refine ⟨0, _, rfl, .inl ⟨rfl, rfl, rfl, fun hE => ?_⟩⟩
        obtain ⟨m, T, hT⟩ := hE d (by omega)
        exact f1 m T hT)
    (by
      rintro st ⟨L, Ts, Rs, rfl, h1, h2, h5, h6, h7⟩
      have hlt : decide (((s.2.2.2.1.toNat : Nat) : Int) < s.2.2.2.1) = false := decide_eq_false (by omega)
      unfold G20_l0_step
      simp only [hlt, cond_false]
      exact ⟨1, _, rfl, .inr ⟨rfl, _, L, Ts, Rs, rfl, h2, h5, h1, h6, fun i hi _ => h7 i hi (at_ok hs hi).2⟩⟩)
    (s.2.2.2.1).toNat 0 (G20_l0_fuel ((l, (false, (0, ()))), (s, (c, (([], ([], ([], ()))), (List.replicate (s.2.2.2.2.1).length 0, (([], ([], ((s.2.2.2.2.1).length, ()))), ())))))))
    ((l, (false, (0, ()))), (s, (c, (([], ([], ([], ()))), (List.replicate (s.2.2.2.2.1).length 0, (([], ([], ((s.2.2.2.2.1).length, ()))), ())))))) (by omega) (by unfold G20_l0_fuel; simp only; omega) ⟨_, [], [], rfl, by simp, rfl, rfl, fun j hj => absurd hj (by omega), fun i hi hp => absurd hp (by omega)⟩
  simp only [Int.toNat_natCast]
  rw [show G20_l0_run ((l, (false, (0, ()))), (s, (c, (([], ([], ([], ()))), (List.replicate (s.2.2.2.2.1).length 0, (([], ([], ((s.2.2.2.2.1).length, ()))), ())))))) = _ from e]
  rcases h with ⟨rfl, h5, h6, h7⟩ | ⟨rfl, u, L, Ts, Rs, rfl, hw⟩
  · left
    refine ⟨h7, ?_⟩
    simp only [Option.bind_some, natK]
    rw [h5, h6]
  · right
    have hL : L.length = (s.2.2.2.2.1).length := hw.ld
    refine ⟨_, hw, ?_⟩
    simp only [Option.bind_some, natK, hL, Nat.le_refl, decide_true, Bool.and_true, cond_true]
    have : List.take (s.2.2.2.2.1).length L = L := by rw [← hL, List.take_length]
    rw [this]
theorem list_eq {a b : List Int} (h : a.length = b.length) (h2 : ∀ i, i < a.length → a.getD i 0 = b.getD i 0) : a = b := by
  apply List.ext_getElem h
  intro i h1 h3
  have := h2 i h1
  rwa [List.getD_eq_getElem?_getD, List.getD_eq_getElem?_getD, List.getElem?_eq_getElem h1, List.getElem?_eq_getElem h3] at this
theorem wit_unique {s : E23} {l : List E72} (hs : StrOk s) {b : Nat} {t t' : E30} (h : WitIs s l b t) (h' : WitIs s l b t') : t = t' := by
  have e1 : ∀ d, d < (s.2.2.2.1).toNat → (t.1).getD d 0 = (t'.1).getD d 0 := fun d hd => by
    have a := (h.at_ d hd).t
    have b := (h'.at_ d hd).t
    have := a.2 _ _ b.1.choose_spec
    have := b.2 _ _ a.1.choose_spec
    omega
  have e2 : ∀ d, d < (s.2.2.2.1).toNat → (t.2.1).getD d 0 = (t'.2.1).getD d 0 := fun d hd => by
    have a := (h.at_ d hd).r
    have b := (h'.at_ d hd).r
    rw [← e1 d hd] at b
    have := a.2 _ b.1
    have := b.2 _ a.1
    omega
  have e3 : ∀ i, i < (s.2.2.2.2.1).length → (t.2.2.1).getD i 0 = (t'.2.2.1).getD i 0 := fun i hi => by
    have a := h.dr i hi trivial
    have b := h'.dr i hi trivial
    obtain ⟨_, hd⟩ := at_ok hs hi
    rw [← e1 _ hd, ← e2 _ hd] at b
    have := a.2.2 _ b.1.1 b.2.1 b.1.2
    have := b.2.2 _ a.1.1 a.2.1 a.1.2
    omega
  obtain ⟨T, R, D, u⟩ := t
  obtain ⟨T', R', D', u'⟩ := t'
  have q1 : T = T' := list_eq (h.lt.trans h'.lt.symm) fun i hi => e1 i (by have := h.lt; simp only at this; omega)
  have q2 : R = R' := list_eq (h.lr.trans h'.lr.symm) fun i hi => e2 i (by have := h.lr; simp only at this; omega)
  have q3 : D = D' := list_eq (h.ld.trans h'.ld.symm) fun i hi => e3 i (by have := h.ld; simp only at this; omega)
  subst q1; subst q2; subst q3
  rfl
theorem same_tells (a b : List Int) (h1 : a.length < 2 ^ 62) : Tells (G57 a b) (a = b) := by
  unfold G57
  by_cases h : a.length = b.length
  case neg =>
    rw [beqn_t (a := (a.length : Int)) (b := (b.length : Int)) (by omega)]
    exact tells_f fun e => h (by rw [e])
  rw [beqn_f (a := (a.length : Int)) (b := (b.length : Int)) (by omega), cond_false]
  have key := iter_fn (step := G57_l0_step) (n := a.length) (k1 := 0) (k2 := 1) (fuel := G57_l0_fuel ((a, (b, (false, (0, ())))), ()))
    (bad := fun i => a.getD i 0 != b.getD i 0)
    (fun i => ((a, (b, (false, ((i : Int), ())))), ())) (fun i => ((a, (b, (false, ((i : Int), ())))), ())) ((a, (b, (false, ((a.length : Int), ())))), ()) (fun i hi => by
      unfold G57_l0_step
      simp only [lt_int hi, lt_int (show i < b.length by omega), ge0, Bool.and_self, cond_true, getD_toNat, wr1 (i := i) (by omega)]
      cases a.getD i 0 != b.getD i 0 <;> rfl) (by
      unfold G57_l0_step
      simp only [nlt_int, cond_false]) (by unfold G57_l0_fuel; simp)
  rcases key with ⟨j, hj, hb, _, he⟩ | ⟨hall, he⟩
  · rw [show G57_l0_run ((a, (b, (false, (0, ())))), ()) = _ from he]
    refine tells_f fun e => ?_
    subst e
    simp at hb
  · rw [show G57_l0_run ((a, (b, (false, (0, ())))), ()) = _ from he]
    exact tells_t (list_eq h fun i hi => by simpa using hall i hi)
theorem sametruth_tells (a b : E30) (h1 : (a.1).length < 2 ^ 62) (h2 : (a.2.1).length < 2 ^ 62) (h3 : (a.2.2.1).length < 2 ^ 62) : Tells (G19 a b) (a = b) := by
  unfold G19
  refine (tells_and (same_tells a.1 b.1 h1) fun _ => tells_and (same_tells a.2.1 b.2.1 h2) fun _ => tells_bind (same_tells a.2.2.1 b.2.2.1 h3)).iff ⟨fun ⟨e1, e2, e3⟩ => ?_, fun e => by rw [e]; exact ⟨rfl, rfl, rfl⟩⟩
  obtain ⟨T, R, D, u⟩ := a
  obtain ⟨T', R', D', u'⟩ := b
  simp only at e1 e2 e3
  subst e1; subst e2; subst e3
  rfl
end Go.Proofs.YtibmgbalfhfcdaaDoor.Abs
set_option linter.unusedVariables false
set_option linter.unusedSimpArgs false
set_option maxRecDepth 100000
namespace Go.Proofs.YtibmgbalfhfcdaaDoor.Abs
open Classical
attribute [local irreducible] G15 G13 G16 G17 G18 G12 G14 G20 G19
theorem law3 (s : E23) (l : List E72) (c : E26) : G3 s l c = some true := by
  have fin0 : ∀ l' x, (Option.bind (some ((0 : Nat), ((l', (true, ())), x)) : Option (Nat × (((List E72) × (Bool × Unit)) × (E23 × (E26 × Unit))))) fun q23 => (bif q23.2.1.2.1 then Option.bind G15 fun r24 => some r24 else some false)) = some true := fun l' x => by simp only [Option.bind_some, cond_true, known_ok]
  unfold G3 G3_k0_run
  by_cases h1 : (s.2.2.2.2.1).length ≤ 12 ∧ l.length ≤ 29
  case neg =>
    rw [short_tells, decide_eq_false h1]
    simp only [Option.bind_some, Bool.not_false, cond_true, known_ok]
  simp only [short_tells, decide_eq_true h1, Option.bind_some, Bool.not_true, cond_false]
  by_cases h2 : Sized c ([], ([], ([], ())))
  case neg =>
    simp only [(sized_tells _ _).nval h2, Option.bind_some, Bool.not_false, cond_true, known_ok]
  simp only [(sized_tells _ _).val h2, Option.bind_some, Bool.not_true, cond_false]
  have t4 := h2.s
  have t5 := h2.d
  have e00 : ((0 : Int) == 0) = true := rfl
  have e20 : ((2 : Int) == 0) = false := rfl
  have e30 : ((3 : Int) == 0) = false := rfl
  have n00 : ((0 : Int) != 0) = false := rfl
  have n20 : ((2 : Int) != 0) = true := rfl
  have n30 : ((3 : Int) != 0) = true := rfl
  have n50 : ((5 : Int) != 0) = true := rfl
  have e55 : ((5 : Int) == 5) = true := rfl
  have st0 : G19 ([], ([], ([], ()))) ([], ([], ([], ()))) = some true := (sametruth_tells _ _ (by simp) (by simp) (by simp)).val rfl
  rcases wanted_eq s l (by omega) (by omega) with ⟨hl, e⟩ | ⟨hl, hn, e⟩ | ⟨hsl, e⟩
  · rcases sexplains_eq s l c (by omega) (by omega) (by omega) with ⟨_, ex⟩ | ⟨h, _⟩ | ⟨h, _⟩
    · rcases switness_eq s l c (by omega) (by omega) (by omega) with ⟨_, ew⟩ | ⟨h, _⟩ | ⟨h, _⟩
      · simp only [e, ex, ew, Option.bind_some, e30, cond_false, n30, cond_true, G3_k1_run, G3_k2_run, G3_k3_run, beq_self_eq_true, Bool.not_false, st0, known_ok]
      · omega
      · have := h.1; omega
    · omega
    · have := h.1; omega
  · rcases sexplains_eq s l c (by omega) (by omega) (by omega) with ⟨h, _⟩ | ⟨_, _, ex⟩ | ⟨h, _⟩
    · omega
    · rcases switness_eq s l c (by omega) (by omega) (by omega) with ⟨h, _⟩ | ⟨_, _, ew⟩ | ⟨h, _⟩
      · omega
      · simp only [e, ex, ew, Option.bind_some, e20, cond_false, n20, cond_true, G3_k1_run, G3_k2_run, G3_k3_run, beq_self_eq_true, Bool.not_false, st0, known_ok]
      · exact absurd h hn
    · exact absurd h hn
  have hs := hsl.2.1
  have hsl1 := hsl.1
  obtain ⟨lb, el⟩ := light_some hs hsl.2.2 (by omega) (n := 4) (by decide)
  simp only [e, Option.bind_some, e00, cond_true, el]
  cases lb with
  | false => simp only [Bool.not_false, cond_true, known_ok, Option.bind_some]
  | true =>
    simp only [Bool.not_true, cond_false]
    by_cases hc : CauseOk s c
    · rcases sexplains_eq s l c (by omega) (by omega) (by omega) with ⟨h, _⟩ | ⟨_, h, _⟩ | ⟨_, _, xb, ex, hxb⟩
      · omega
      · exact absurd ⟨hsl, hc⟩ h
      rcases switness_eq s l c (by omega) (by omega) (by omega) with ⟨h, _⟩ | ⟨_, h, _⟩ | ⟨_, _, hw⟩
      · omega
      · exact absurd ⟨hsl, hc⟩ h
      rcases rwitness_eq hs hsl.2.2 (by omega) hc (by omega) (by omega) with ⟨hne, rw_⟩ | ⟨t, ht, rw_⟩
      · rcases hw with ⟨_, ew⟩ | ⟨hE, _⟩
        · have hxf : xb = false := by cases xb with | true => exact absurd (hxb.1 rfl) hne | false => rfl
          subst hxf
          simp only [ex, ew, e, Option.bind_some, G3_k1_run, G3_k2_run, G3_k4_run, G3_k5_run, e00, cond_true, (rcause_tells hs c (by omega) (by omega)).val hc, Bool.not_true, cond_false, n00, rw_, beq_self_eq_true, Bool.not_false, e55, st0, known_ok]
        · exact absurd hE hne
      · have hE := (ht.for_ hs).ex
        rcases hw with ⟨hne, _⟩ | ⟨_, t', ew, ht'⟩
        · exact absurd hE hne
        · have hxt : xb = true := hxb.2 hE
          subst hxt
          have htt := wit_unique hs ht' ht
          subst htt
          have hdep := hs.depths
          have hlen := hs.len
          have l1 := ht.lt
          have l2 := ht.lr
          have l3 := ht.ld
          have st1 : G19 t' t' = some true := (sametruth_tells _ _ (by omega) (by omega) (by omega)).val rfl
          simp only [ex, ew, e, Option.bind_some, G3_k1_run, G3_k2_run, G3_k4_run, G3_k6_run, e00, cond_true, (rcause_tells hs c (by omega) (by omega)).val hc, Bool.not_true, cond_false, n00, rw_, beq_self_eq_true, Bool.not_false, st1, known_ok]
    · rcases sexplains_eq s l c (by omega) (by omega) (by omega) with ⟨h, _⟩ | ⟨_, _, ex⟩ | ⟨_, h, _⟩
      · omega
      · rcases switness_eq s l c (by omega) (by omega) (by omega) with ⟨h, _⟩ | ⟨_, _, ew⟩ | ⟨_, h, _⟩
        · omega
        · simp only [ex, ew, e, Option.bind_some, G3_k1_run, G3_k2_run, G3_k3_run, e00, cond_true, (rcause_tells hs c (by omega) (by omega)).nval hc, Bool.not_false, n20, beq_self_eq_true, st0, known_ok]
        · exact absurd h hc
      · exact absurd h hc
theorem G3_true : ∀ x : Els [.dat T23, .dat (.list T72), .dat T26], wfs [.dat T23, .dat (.list T72), .dat T26] x → G3 x.1 x.2.1 x.2.2.1 = some true := fun x _ => law3 _ _ _
end Go.Proofs.YtibmgbalfhfcdaaDoor.Abs
set_option linter.unusedVariables false
set_option maxRecDepth 100000
namespace Go.Proofs.YtibmgbalfhfcdaaDoor.Abs.senseExplains
open Go.ChangeShapes Go.WideShapes Go.RowKit
theorem own : ownKnob Tryd.prog.godebug = none := by kernel_rfl
theorem laidOut : laidOutB Tryd.prog = true := by kernel_rfl
theorem gTab : Tryd.prog.globalNamed "internal/strconv.uint64pow10" = some 0 := by kernel_rfl
theorem gTabType : (Tryd.prog.globals[0]?).map (·.type) = some 171 := by kernel_rfl
theorem cellsT : Tryd.prog.cellsOf 171 = 20 := by kernel_rfl
theorem cellsE : Tryd.prog.cellsOf 162 = 1 := by kernel_rfl
theorem undT : Tryd.prog.underlying 171 = some (.array 20 162) := by kernel_rfl
theorem undE : Tryd.prog.underlying 162 = some (.int .u64) := by kernel_rfl
theorem table {W : World} (h : laidMetH Tryd.prog Rows.senseExplainsRow.laid W) : Lib.TabIs Tryd.prog W "internal/strconv.uint64pow10" .u64 [1, 10, 100, 1000, 10000, 100000, 1000000, 10000000, 100000000, 1000000000, 10000000000, 100000000000, 1000000000000, 10000000000000, 100000000000000, 1000000000000000, 10000000000000000, 100000000000000000, 1000000000000000000, 10000000000000000000] :=
  Lib.tabIs_of_head (rest := []) gTab gTabType undT undE cellsE cellsT (laidMet.tail (laidMet.tail (h)))
theorem tabOk {W : World} (h : laidMetH Tryd.prog Rows.senseExplainsRow.laid W) : ∀ q ∈ TABS, ∃ e fr, W.heap[q.1]? = some (.cells q.2 e fr) := by
  have ht := table h
  unfold Lib.TabIs World.var? at ht
  rw [gTab] at ht
  simp only [Option.bind_some] at ht
  intro q hq
  have hq' : q = (0, _) := List.mem_singleton.1 hq
  subst hq'
  show ∃ e fr, W.heap[0]? = _
  split at ht
  · rename_i cs e fr hc
    exact ⟨e, fr, by rw [hc]; simp only [Option.some.injEq] at ht; rw [ht]; rfl⟩
  · cases ht
noncomputable def laidWorld (os : Os) : World :=
  { World.holding Tryd.prog os ⟨#[], #[], []⟩ with heap := ((((World.holding Tryd.prog os ⟨#[], #[], []⟩).heap.modify 2 fun | .cells _ t frozen => .cells #[.int .u8 0, .int .u8 1, .int .u8 28, .int .u8 2, .int .u8 29, .int .u8 14, .int .u8 24, .int .u8 3, .int .u8 30, .int .u8 22, .int .u8 20, .int .u8 15, .int .u8 25, .int .u8 17, .int .u8 4, .int .u8 8, .int .u8 31, .int .u8 27, .int .u8 13, .int .u8 23, .int .u8 21, .int .u8 19, .int .u8 16, .int .u8 7, .int .u8 26, .int .u8 12, .int .u8 18, .int .u8 6, .int .u8 11, .int .u8 5, .int .u8 10, .int .u8 9] t frozen | o => o).modify 3 fun | .cells _ t frozen => .cells #[.int .u8 0, .int .u8 1, .int .u8 56, .int .u8 2, .int .u8 57, .int .u8 49, .int .u8 28, .int .u8 3, .int .u8 61, .int .u8 58, .int .u8 42, .int .u8 50, .int .u8 38, .int .u8 29, .int .u8 17, .int .u8 4, .int .u8 62, .int .u8 47, .int .u8 59, .int .u8 36, .int .u8 45, .int .u8 43, .int .u8 51, .int .u8 22, .int .u8 53, .int .u8 39, .int .u8 33, .int .u8 30, .int .u8 24, .int .u8 18, .int .u8 12, .int .u8 5, .int .u8 63, .int .u8 55, .int .u8 48, .int .u8 27, .int .u8 60, .int .u8 41, .int .u8 37, .int .u8 16, .int .u8 46, .int .u8 35, .int .u8 44, .int .u8 21, .int .u8 52, .int .u8 32, .int .u8 23, .int .u8 11, .int .u8 54, .int .u8 26, .int .u8 40, .int .u8 15, .int .u8 34, .int .u8 20, .int .u8 31, .int .u8 10, .int .u8 25, .int .u8 14, .int .u8 19, .int .u8 9, .int .u8 13, .int .u8 8, .int .u8 7, .int .u8 6] t frozen | o => o).modify 0 fun | .cells _ t frozen => .cells #[.int .u64 1, .int .u64 10, .int .u64 100, .int .u64 1000, .int .u64 10000, .int .u64 100000, .int .u64 1000000, .int .u64 10000000, .int .u64 100000000, .int .u64 1000000000, .int .u64 10000000000, .int .u64 100000000000, .int .u64 1000000000000, .int .u64 10000000000000, .int .u64 100000000000000, .int .u64 1000000000000000, .int .u64 10000000000000000, .int .u64 100000000000000000, .int .u64 1000000000000000000, .int .u64 10000000000000000000] t frozen | o => o) }
theorem laid_met (os : Os) : laidMet Tryd.prog Rows.senseExplainsRow.laid ((laidWorld os).forCall (fun _ _ => 0) ⟨#[], #[(Value.agg #[.int .i64 0, .int .i64 0, .int .i64 0, .int .i64 0, .slice none 0 0]), (Value.slice none 0 0), (Value.agg #[.slice none 0 0, .slice none 0 0])], []⟩).memory :=
  laidMet_of_run' 8 (by kernel_rfl) (by kernel_rfl)
theorem reads (os : Os) {H : Type} (enc : TypeId × Value → H) : ∃ places, DataW.whole enc Tryd.prog ((laidWorld os).forCall (fun _ _ => 0) ⟨#[], #[(Value.agg #[.int .i64 0, .int .i64 0, .int .i64 0, .int .i64 0, .slice none 0 0]), (Value.slice none 0 0), (Value.agg #[.slice none 0 0, .slice none 0 0])], []⟩).memory Tryd.f3.params.toList Rows.senseExplainsSpec.vars false #[(Value.agg #[.int .i64 0, .int .i64 0, .int .i64 0, .int .i64 0, .slice none 0 0]), (Value.slice none 0 0), (Value.agg #[.slice none 0 0, .slice none 0 0])].toList 16 = some ([.agg [.lit (.int .i64 0), .lit (.int .i64 0), .lit (.int .i64 0), .lit (.int .i64 0), .nil], .nil, .agg [.nil, .nil]], [], places) :=
  ⟨[], by kernel_rfl⟩
theorem spec_fn (H : Type) : (ds : List (DataW H)) → ds.length = Tryd.f3.params.toList.length → (Rows.senseExplainsSpec.fn H ds).results = [.lit (.bool true)] ∧ (Rows.senseExplainsSpec.fn H ds).args = ds ∧ (Rows.senseExplainsSpec.fn H ds).vars = []
  | [], h => by rw [show Tryd.f3.params.toList.length = 3 from by kernel_rfl] at h; simp at h
  | [d0], h => by rw [show Tryd.f3.params.toList.length = 3 from by kernel_rfl] at h; simp at h
  | [d0, d1], h => by rw [show Tryd.f3.params.toList.length = 3 from by kernel_rfl] at h; simp at h
  | [d0, d1, d2], _ => ⟨rfl, rfl, rfl⟩
  | d0 :: d1 :: d2 :: _ :: _, h => by rw [show Tryd.f3.params.toList.length = 3 from by kernel_rfl] at h; simp at h
theorem contract (H : Type) (enc : TypeId × Value → H) (W : World) (base : Nat) (args : Array Value) (ds gs : List (DataW H)) (before : List MemPlace)
    (hval : ∀ (j : Nat) t v, Tryd.f3.params[j]? = some t → args[j]? = some v → Value.okWide Tryd.prog W .any base t v)
    (hW : DataW.Whole enc Tryd.prog Tryd.f3.params.toList Rows.senseExplainsSpec.vars false W args.toList ds gs before) (hL : laidMetH Tryd.prog Rows.senseExplainsRow.laid W) :
    Calls Tryd.prog 3 args W fun e W' => ∃ v, e = .returned v ∧ Rows.senseExplainsSpec.post enc Tryd.prog Tryd.f3 false true false false W args v W' :=
  law_contract (n := 20) (fun x r h => G3_lcall x r h) (fun x hx => G3_true x hx) (by decide) (show Tryd.f3.resultTypes = #[4] by kernel_rfl) (by kernel_rfl) (by kernel_rfl) laidOut (by
    intro t ht
    have : (Tryd.f3.params.toList.all fun t => Tryd.prog.readableRec t && decide (t < Tryd.prog.types.size)) = true := by kernel_rfl
    have := List.all_eq_true.1 this t ht
    simpa using this) rfl spec_fn hval hW (tabOk hL)
theorem lifted (os : Os) (started : os.Started) (H : Type) (enc : TypeId × Value → H) (F : Stop.Interp) :
    ReturnsInHanded {} Tryd.checked os 3 .any ((OpenSpec.ofChange Rows.senseExplainsSpec).preRow enc Tryd.prog Tryd.f3 Rows.senseExplainsRow.domain false Rows.senseExplainsRow.laid) (((OpenSpec.ofChange Rows.senseExplainsSpec).at F).post enc Tryd.prog Tryd.f3 false true false false) := by
  obtain ⟨places, hx⟩ := reads os enc
  refine returnsInHanded_of_row (C := Tryd.checked) (s := OpenSpec.ofChange Rows.senseExplainsSpec) own started (by kernel_rfl) Tryd.func3
    (witness_row_at (enc := enc) (C := Tryd.checked) false (laidWorld os) #[(Value.agg #[.int .i64 0, .int .i64 0, .int .i64 0, .int .i64 0, .slice none 0 0]), (Value.slice none 0 0), (Value.agg #[.slice none 0 0, .slice none 0 0])] rfl (by kernel_rfl) (by kernel_rfl) (by kernel_rfl)
      (OpenSpec.preRow_of_cond 16 hx (by kernel_rfl) (fun k hk => by cases hk) (by kernel_rfl) (laid_met os))) ?_
  intro W base args ds gs before hval hW _ _ _ hL _ _
  exact contract H enc W base args ds gs before hval hW hL
theorem said : Rows.SenseExplainsSaid :=
  OpenClaim.holds_of_cond 3 Tryd.f3 rfl rfl rfl rfl rfl rfl rfl ⟨rfl, rfl, rfl, rfl, rfl⟩ rfl rfl rfl rfl rfl (by kernel_rfl) Tryd.func3 (by kernel_rfl)
    (of_decide_eq_true (by kernel_rfl)) (by unfold Func.isWrapper; first | (rw [if_pos (by decide +kernel)]; kernel_rfl) | (rw [if_neg (by decide +kernel)]; exact ⟨rfl, rfl⟩))
    (fun os started H enc _ F => by rw [OpenClaim.pre_eq_preRow]; exact lifted os started H enc F)
theorem plain (f : FuncId) (fn : Func) (hf : Tryd.pinned.checked.prog.funcNamed "talik/taliklaw05.SenseExplains" = some f) (hfn : Tryd.pinned.checked.prog.funcs[f]? = some fn) :
    false = Tryd.pinned.checked.prog.looks [] ∧ ∀ (j : Nat) t, fn.params[j]? = some t → Tryd.pinned.checked.prog.wantsStandIn t = false := by
  obtain rfl : f = 3 := Option.some.inj ((show Tryd.prog.funcNamed "talik/taliklaw05.SenseExplains" = some 3 by kernel_rfl).symm.trans hf) |>.symm
  obtain rfl : fn = Tryd.f3 := (Option.some.inj (Tryd.func3.symm.trans hfn)).symm
  refine ⟨by kernel_rfl, fun j t ht => ?_⟩
  have h : (Tryd.f3.params.toList.all fun t => !Tryd.prog.wantsStandIn t) = true := by kernel_rfl
  have := List.all_eq_true.1 h t (by rw [← Array.getElem?_toList] at ht; exact List.mem_of_getElem? ht)
  exact (show Tryd.prog.wantsStandIn t = false by simpa using this)
theorem card : Rows.SenseExplainsCardSaid :=
  Claim7.holds_tied_plain_at .later [] _ _ _ _ said (fun _ h => by cases h) (by kernel_rfl) (fun _ h => by cases h) senseExplains_row_tie rfl ⟨rfl, rfl⟩ (by kernel_rfl) rfl plain (by kernel_rfl)
end Go.Proofs.YtibmgbalfhfcdaaDoor.Abs.senseExplains
namespace Go.Proofs.YtibmgbalfhfcdaaDoor
theorem senseExplains_card : Rows.SenseExplainsCardSaid := Abs.senseExplains.card
end Go.Proofs.YtibmgbalfhfcdaaDoor
