/-
  A law of the ground layer as a typed function. Printed by a program of mine (gen.py).
-/
import Derived.Test.YtbidmbjkjpdgdaaDoorGf2
import Derived.Test.YtbidmbjkjpdgdaaDoorAbsJ
set_option linter.unusedVariables false
set_option maxRecDepth 100000
namespace Go.Proofs.YtbidmbjkjpdgdaaDoor.Abs
open Go.Shelf Go.Sort
noncomputable def g10_taliklaw01_GroundRivals_C : CalT := tabC [g22_taliklaw01_fair_E, g15_taliklaw01_known_E, g29_ground_Allow_E, g33_taliklaw01_span_E, g34_taliklaw01_deep_E, g30_ground_Need_E, g19_talikref01_Follow_E, g28_talikref01_First_E, g26_talikref01_End_E]
theorem g10_taliklaw01_GroundRivals_CV : CV Tryd.prog g10_taliklaw01_GroundRivals_C := tabC_valid ⟨g22_taliklaw01_fair_valid, g15_taliklaw01_known_valid, g29_ground_Allow_valid, g33_taliklaw01_span_valid, g34_taliklaw01_deep_valid, g30_ground_Need_valid, g19_talikref01_Follow_valid, g28_talikref01_First_valid, g26_talikref01_End_valid, trivial⟩
noncomputable def g10_taliklaw01_GroundRivals_k0_S0 : SPat := ⟨[.any, .dat (.list T72), .dat (.int .i64), .dat (.int .i64), .dat (.int .i64), .any, .fix (.bptr 0 []), .any, .any, .any, .any, .fix (.bptr 1 []), .any, .any, .any, .any, .any, .any, .any, .any, .any, .any, .any, .any, .any, .any, .any, .any, .any, .any, .any, .any, .any, .any, .any, .any, .any, .any, .any, .any, .any, .any, .any, .any, .any, .any, .any, .any, .any, .any, .any, .any, .any, .any, .any, .any, .any, .any, .any, .any, .any, .any, .any, .any, .any, .any, .any, .any, .any, .any, .any, .any, .any, .any, .any, .any, .any, .any, .any, .any, .any, .any, .any, .any, .any, .any, .any, .any, .any, .any, .any, .any, .any, .any, .any, .any, .any, .any, .any, .any, .any, .any, .any, .any, .any, .any, .any, .any, .any, .any, .any, .any, .any, .any, .any, .any, .any, .any, .any, .any, .any, .any, .any, .any, .any, .any, .any, .any, .any, .any, .any, .any, .any, .any, .any, .any, .any, .any, .any, .any, .any, .any, .any, .any, .any, .any, .any, .any, .any, .any, .any, .any, .any, .any, .any, .any], [.dat T25, .dat T29], 0⟩
noncomputable def g10_taliklaw01_GroundRivals_k0_S1 : SPat := ⟨[.any, .dat (.list T72), .dat (.int .i64), .dat (.int .i64), .dat (.int .i64), .any, .fix (.bptr 0 []), .any, .any, .any, .any, .fix (.bptr 1 []), .any, .any, .any, .any, .any, .any, .any, .any, .any, .any, .any, .any, .any, .any, .any, .any, .any, .any, .any, .any, .any, .any, .any, .any, .any, .any, .any, .any, .any, .any, .any, .any, .any, .any, .any, .any, .any, .any, .dat .bool, .any, .any, .any, .any, .any, .any, .any, .any, .any, .any, .any, .any, .any, .any, .any, .any, .any, .any, .any, .any, .any, .any, .any, .any, .any, .any, .any, .any, .any, .any, .any, .any, .any, .any, .any, .any, .any, .any, .any, .any, .any, .any, .any, .any, .any, .any, .any, .any, .any, .any, .any, .any, .any, .any, .any, .any, .any, .any, .any, .any, .any, .any, .any, .any, .any, .any, .any, .any, .any, .any, .any, .any, .any, .any, .any, .any, .any, .any, .any, .any, .any, .any, .any, .any, .any, .any, .any, .any, .any, .any, .any, .any, .any, .any, .any, .any, .any, .any, .any, .any, .any, .any, .any, .any, .any], [.dat T25, .dat T29], 0⟩
noncomputable def g10_taliklaw01_GroundRivals_k0_run (s : (((List E72) × (Int × (Int × (Int × Unit)))) × (E25 × (E29 × Unit)))) : Option (Nat × (((List E72) × (Int × (Int × (Int × (Bool × Unit))))) × (E25 × (E29 × Unit)))) :=
  (Option.bind (g22_taliklaw01_fair s.2.1 s.1.1 s.2.2.1) fun r11 =>
  (bif (!r11) then
    some (0, ((s.1.1, (s.1.2.1, (s.1.2.2.1, (s.1.2.2.2.1, (true, ()))))), (s.2.1, (s.2.2.1, ()))))
    else
    (bif (decide (s.1.2.1 < 0)) then
      some (0, ((s.1.1, (s.1.2.1, (s.1.2.2.1, (s.1.2.2.2.1, (true, ()))))), (s.2.1, (s.2.2.1, ()))))
      else
      (bif (decide (s.1.2.1 > 2000000)) then
        some (0, ((s.1.1, (s.1.2.1, (s.1.2.2.1, (s.1.2.2.2.1, (true, ()))))), (s.2.1, (s.2.2.1, ()))))
        else
        (bif (decide (s.1.2.2.1 < 0)) then
          some (0, ((s.1.1, (s.1.2.1, (s.1.2.2.1, (s.1.2.2.2.1, (true, ()))))), (s.2.1, (s.2.2.1, ()))))
          else
          (bif (decide (s.1.2.2.1 > 1000000)) then
            some (0, ((s.1.1, (s.1.2.1, (s.1.2.2.1, (s.1.2.2.2.1, (true, ()))))), (s.2.1, (s.2.2.1, ()))))
            else
            (bif (decide (s.1.2.2.2.1 < 0)) then
              some (0, ((s.1.1, (s.1.2.1, (s.1.2.2.1, (s.1.2.2.2.1, (true, ()))))), (s.2.1, (s.2.2.1, ()))))
              else
              some (0, ((s.1.1, (s.1.2.1, (s.1.2.2.1, (s.1.2.2.2.1, ((decide (s.1.2.2.2.1 > 1000000)), ()))))), (s.2.1, (s.2.2.1, ())))))))))))
noncomputable def g10_taliklaw01_GroundRivals_k0_L : LoopT := cutT g10_taliklaw01_GroundRivals_k0_S0 g10_taliklaw01_GroundRivals_k0_S1 [.normal] g10_taliklaw01_GroundRivals_k0_run
noncomputable def g10_taliklaw01_GroundRivals_k1_S0 : SPat := ⟨[.any, .dat (.list T72), .dat (.int .i64), .dat (.int .i64), .dat (.int .i64), .any, .fix (.bptr 0 []), .any, .any, .any, .any, .fix (.bptr 1 []), .any, .dat (.int .i64), .dat (.int .i64), .any, .dat .bool, .dat .bool, .any, .any, .any, .any, .any, .any, .any, .any, .any, .any, .any, .any, .any, .any, .any, .any, .any, .any, .any, .any, .any, .any, .any, .any, .any, .any, .any, .any, .any, .any, .any, .any, .any, .any, .any, .any, .any, .any, .any, .any, .any, .any, .any, .any, .any, .any, .any, .any, .any, .any, .any, .any, .any, .any, .any, .any, .any, .any, .any, .any, .any, .any, .any, .any, .any, .any, .any, .any, .any, .any, .any, .any, .any, .any, .any, .any, .any, .any, .any, .any, .any, .any, .any, .any, .any, .any, .any, .any, .any, .any, .any, .any, .any, .any, .any, .any, .any, .any, .any, .any, .any, .any, .any, .any, .any, .any, .any, .any, .any, .any, .any, .any, .any, .any, .any, .any, .any, .any, .any, .any, .any, .any, .any, .any, .any, .any, .any, .any, .any, .any, .any, .any, .any, .any, .any, .any, .any, .any], [.dat T25, .dat T29, .cons (.dat (.list T70)) (.cons (.dat T23) (.dat .nil))], 0⟩
noncomputable def g10_taliklaw01_GroundRivals_k1_S1 : SPat := ⟨[.any, .dat (.list T72), .dat (.int .i64), .any, .dat (.int .i64), .any, .fix (.bptr 0 []), .any, .any, .any, .any, .fix (.bptr 1 []), .any, .any, .any, .any, .any, .any, .any, .any, .any, .any, .any, .any, .any, .any, .any, .any, .any, .any, .any, .any, .any, .any, .any, .any, .any, .any, .any, .any, .any, .any, .any, .any, .any, .any, .any, .any, .any, .any, .any, .any, .any, .any, .any, .any, .any, .any, .any, .any, .any, .any, .any, .any, .any, .any, .any, .any, .any, .any, .any, .any, .any, .any, .any, .any, .any, .any, .any, .any, .any, .any, .any, .any, .any, .any, .any, .any, .any, .any, .any, .any, .any, .any, .any, .any, .any, .any, .any, .dat .bool, .any, .any, .any, .any, .any, .any, .any, .any, .any, .any, .any, .any, .any, .any, .any, .any, .any, .any, .any, .any, .any, .any, .any, .any, .any, .any, .any, .any, .any, .any, .any, .any, .any, .any, .any, .any, .any, .any, .any, .any, .any, .any, .any, .any, .any, .any, .any, .any, .any, .any, .any, .any, .any, .any, .any, .any], [.dat T25, .dat T29, .cons (.dat (.list T70)) (.cons (.dat T23) (.dat .nil))], 0⟩
noncomputable def g10_taliklaw01_GroundRivals_k1_run (s : (((List E72) × (Int × (Int × (Int × (Int × (Int × (Bool × (Bool × Unit)))))))) × (E25 × (E29 × (((List E70) × (E23 × Unit)) × Unit))))) : Option (Nat × (((List E72) × (Int × (Int × (Bool × Unit)))) × (E25 × (E29 × (((List E70) × (E23 × Unit)) × Unit))))) :=
  (bif (!s.1.2.2.2.2.2.2.2.1) then
  some (0, ((s.1.1, (s.1.2.1, (s.1.2.2.2.1, (true, ())))), (s.2.1, (s.2.2.1, ((s.2.2.2.1.1, (s.2.2.2.1.2.1, s.2.2.2.1.2.2)), ())))))
  else
  (bif (s.1.2.2.2.2.2.1 != 0) then
    (bif (s.1.2.2.2.2.2.1 != 5) then
      some (0, ((s.1.1, (s.1.2.1, (s.1.2.2.2.1, (true, ())))), (s.2.1, (s.2.2.1, ((s.2.2.2.1.1, (s.2.2.2.1.2.1, s.2.2.2.1.2.2)), ())))))
      else
      (bif (s.1.2.2.2.2.2.1 == 0) then
        (bif (!(s.1.2.2.2.2.2.2.1 == (decide (s.1.2.2.1 > s.1.2.2.2.2.1)))) then
          some (0, ((s.1.1, (s.1.2.1, (s.1.2.2.2.1, (true, ())))), (s.2.1, (s.2.2.1, ((s.2.2.2.1.1, (s.2.2.2.1.2.1, s.2.2.2.1.2.2)), ())))))
          else
          (bif (s.1.2.2.2.2.2.1 == 5) then
            some (0, ((s.1.1, (s.1.2.1, (s.1.2.2.2.1, ((!s.1.2.2.2.2.2.2.1), ())))), (s.2.1, (s.2.2.1, ((s.2.2.2.1.1, (s.2.2.2.1.2.1, s.2.2.2.1.2.2)), ())))))
            else
            some (0, ((s.1.1, (s.1.2.1, (s.1.2.2.2.1, (false, ())))), (s.2.1, (s.2.2.1, ((s.2.2.2.1.1, (s.2.2.2.1.2.1, s.2.2.2.1.2.2)), ())))))))
        else
        (bif (s.1.2.2.2.2.2.1 == 5) then
          some (0, ((s.1.1, (s.1.2.1, (s.1.2.2.2.1, ((!s.1.2.2.2.2.2.2.1), ())))), (s.2.1, (s.2.2.1, ((s.2.2.2.1.1, (s.2.2.2.1.2.1, s.2.2.2.1.2.2)), ())))))
          else
          some (0, ((s.1.1, (s.1.2.1, (s.1.2.2.2.1, (false, ())))), (s.2.1, (s.2.2.1, ((s.2.2.2.1.1, (s.2.2.2.1.2.1, s.2.2.2.1.2.2)), ()))))))))
    else
    (bif (s.1.2.2.2.2.2.1 == 0) then
      (bif (!(s.1.2.2.2.2.2.2.1 == (decide (s.1.2.2.1 > s.1.2.2.2.2.1)))) then
        some (0, ((s.1.1, (s.1.2.1, (s.1.2.2.2.1, (true, ())))), (s.2.1, (s.2.2.1, ((s.2.2.2.1.1, (s.2.2.2.1.2.1, s.2.2.2.1.2.2)), ())))))
        else
        (bif (s.1.2.2.2.2.2.1 == 5) then
          some (0, ((s.1.1, (s.1.2.1, (s.1.2.2.2.1, ((!s.1.2.2.2.2.2.2.1), ())))), (s.2.1, (s.2.2.1, ((s.2.2.2.1.1, (s.2.2.2.1.2.1, s.2.2.2.1.2.2)), ())))))
          else
          some (0, ((s.1.1, (s.1.2.1, (s.1.2.2.2.1, (false, ())))), (s.2.1, (s.2.2.1, ((s.2.2.2.1.1, (s.2.2.2.1.2.1, s.2.2.2.1.2.2)), ())))))))
      else
      (bif (s.1.2.2.2.2.2.1 == 5) then
        some (0, ((s.1.1, (s.1.2.1, (s.1.2.2.2.1, ((!s.1.2.2.2.2.2.2.1), ())))), (s.2.1, (s.2.2.1, ((s.2.2.2.1.1, (s.2.2.2.1.2.1, s.2.2.2.1.2.2)), ())))))
        else
        some (0, ((s.1.1, (s.1.2.1, (s.1.2.2.2.1, (false, ())))), (s.2.1, (s.2.2.1, ((s.2.2.2.1.1, (s.2.2.2.1.2.1, s.2.2.2.1.2.2)), ())))))))))
noncomputable def g10_taliklaw01_GroundRivals_k1_L : LoopT := cutT g10_taliklaw01_GroundRivals_k1_S0 g10_taliklaw01_GroundRivals_k1_S1 [.normal] g10_taliklaw01_GroundRivals_k1_run
noncomputable def g10_taliklaw01_GroundRivals_k2_S0 : SPat := ⟨[.any, .dat (.list T72), .dat (.int .i64), .any, .dat (.int .i64), .any, .fix (.bptr 0 []), .any, .any, .any, .any, .fix (.bptr 1 []), .any, .any, .any, .any, .any, .any, .dat (.int .i64), .dat (.int .i64), .any, .any, .any, .any, .any, .any, .any, .any, .any, .any, .any, .any, .any, .any, .any, .any, .any, .any, .any, .any, .any, .any, .any, .any, .any, .any, .any, .any, .any, .any, .any, .any, .any, .any, .any, .any, .any, .any, .any, .any, .any, .any, .any, .any, .any, .any, .any, .any, .any, .any, .any, .any, .any, .any, .any, .any, .any, .any, .any, .any, .any, .any, .any, .any, .any, .any, .any, .any, .any, .any, .any, .any, .any, .any, .any, .any, .any, .any, .any, .any, .any, .any, .any, .any, .any, .any, .any, .any, .any, .any, .any, .any, .any, .any, .any, .any, .any, .any, .any, .any, .any, .any, .any, .any, .any, .any, .any, .any, .any, .any, .any, .any, .any, .any, .any, .any, .any, .any, .any, .any, .any, .any, .any, .any, .any, .any, .any, .any, .any, .any, .any, .any, .any, .any, .any, .any], [.dat T25, .dat T29, .cons (.dat (.list T70)) (.cons (.dat T23) (.dat .nil))], 0⟩
noncomputable def g10_taliklaw01_GroundRivals_k2_S1 : SPat := ⟨[.any, .dat (.list T72), .dat (.int .i64), .any, .dat (.int .i64), .any, .fix (.bptr 0 []), .any, .any, .any, .any, .fix (.bptr 1 []), .any, .any, .any, .any, .any, .any, .dat (.int .i64), .dat (.int .i64), .any, .any, .any, .any, .any, .any, .any, .any, .any, .any, .any, .any, .any, .any, .any, .any, .any, .any, .any, .any, .any, .any, .any, .any, .any, .any, .any, .any, .any, .any, .any, .any, .any, .any, .any, .any, .any, .any, .any, .any, .any, .any, .any, .any, .any, .any, .any, .any, .any, .any, .any, .any, .any, .any, .any, .any, .any, .any, .any, .any, .any, .any, .any, .any, .any, .any, .any, .any, .any, .any, .any, .any, .any, .any, .any, .any, .any, .any, .any, .any, .any, .any, .any, .any, .any, .any, .any, .any, .any, .any, .any, .any, .dat .bool, .any, .any, .any, .any, .any, .any, .any, .any, .any, .any, .any, .any, .any, .any, .any, .any, .any, .any, .any, .any, .any, .any, .any, .any, .any, .any, .any, .any, .any, .any, .any, .any, .any, .any, .any, .any, .any, .any, .any, .any, .any, .any, .any], [.dat T25, .dat T29, .cons (.dat (.list T70)) (.cons (.dat T23) (.dat .nil))], 0⟩
noncomputable def g10_taliklaw01_GroundRivals_k2_run (s : (((List E72) × (Int × (Int × (Int × (Int × Unit))))) × (E25 × (E29 × (((List E70) × (E23 × Unit)) × Unit))))) : Option (Nat × (((List E72) × (Int × (Int × (Int × (Int × (Bool × Unit)))))) × (E25 × (E29 × (((List E70) × (E23 × Unit)) × Unit))))) :=
  (bif (s.1.2.2.2.2.1 != 0) then
  some (0, ((s.1.1, (s.1.2.1, (s.1.2.2.1, (s.1.2.2.2.1, (s.1.2.2.2.2.1, ((s.1.2.2.2.2.1 != 5), ())))))), (s.2.1, (s.2.2.1, ((s.2.2.2.1.1, (s.2.2.2.1.2.1, s.2.2.2.1.2.2)), ())))))
  else
  some (0, ((s.1.1, (s.1.2.1, (s.1.2.2.1, (s.1.2.2.2.1, (s.1.2.2.2.2.1, (false, ())))))), (s.2.1, (s.2.2.1, ((s.2.2.2.1.1, (s.2.2.2.1.2.1, s.2.2.2.1.2.2)), ()))))))
noncomputable def g10_taliklaw01_GroundRivals_k2_L : LoopT := cutT g10_taliklaw01_GroundRivals_k2_S0 g10_taliklaw01_GroundRivals_k2_S1 [.normal] g10_taliklaw01_GroundRivals_k2_run
noncomputable def g10_taliklaw01_GroundRivals_k3_S0 : SPat := ⟨[.any, .any, .any, .any, .any, .any, .any, .any, .any, .any, .any, .any, .any, .any, .any, .any, .any, .any, .any, .any, .any, .dat .bool, .any, .any, .any, .any, .any, .any, .any, .any, .any, .any, .any, .any, .any, .any, .any, .any, .any, .any, .any, .any, .any, .any, .any, .any, .any, .any, .any, .any, .any, .any, .any, .any, .any, .any, .any, .any, .any, .any, .any, .any, .any, .any, .any, .any, .any, .any, .any, .any, .any, .any, .any, .any, .any, .any, .any, .any, .any, .any, .any, .any, .any, .any, .any, .any, .any, .any, .any, .any, .any, .any, .any, .any, .any, .any, .any, .any, .any, .any, .any, .any, .any, .any, .any, .any, .any, .any, .any, .any, .any, .any, .any, .any, .any, .any, .any, .any, .any, .any, .any, .any, .any, .any, .any, .any, .any, .any, .any, .any, .any, .any, .any, .any, .any, .any, .any, .any, .any, .any, .any, .any, .any, .any, .any, .any, .any, .any, .any, .any, .any, .any, .any, .any, .any, .any], [.dat T25, .dat T29, .cons (.dat (.list T70)) (.cons (.dat T23) (.dat .nil))], 0⟩
noncomputable def g10_taliklaw01_GroundRivals_k3_S1 : SPat := ⟨[.any, .any, .any, .any, .any, .any, .any, .any, .any, .any, .any, .any, .dat .bool, .any, .any, .any, .any, .any, .any, .any, .any, .any, .any, .any, .any, .any, .any, .any, .any, .any, .any, .any, .any, .any, .any, .any, .any, .any, .any, .any, .any, .any, .any, .any, .any, .any, .any, .any, .any, .any, .any, .any, .any, .any, .any, .any, .any, .any, .any, .any, .any, .any, .any, .any, .any, .any, .any, .any, .any, .any, .any, .any, .any, .any, .any, .any, .any, .any, .any, .any, .any, .any, .any, .any, .any, .any, .any, .any, .any, .any, .any, .any, .any, .any, .any, .any, .any, .any, .any, .any, .any, .any, .any, .any, .any, .any, .any, .any, .any, .any, .any, .any, .any, .any, .any, .any, .any, .any, .any, .any, .any, .any, .any, .any, .any, .any, .any, .any, .any, .any, .any, .any, .any, .any, .any, .any, .any, .any, .any, .any, .any, .any, .any, .any, .any, .any, .any, .any, .any, .any, .any, .any, .any, .any, .any, .any], [.dat T25, .dat T29, .cons (.dat (.list T70)) (.cons (.dat T23) (.dat .nil))], 0⟩
noncomputable def g10_taliklaw01_GroundRivals_k3_run (s : ((Bool × Unit) × (E25 × (E29 × (((List E70) × (E23 × Unit)) × Unit))))) : Option (Nat × ((Bool × Unit) × (E25 × (E29 × (((List E70) × (E23 × Unit)) × Unit))))) :=
  (bif s.1.1 then
  (Option.bind g15_taliklaw01_known fun r40 =>
    some (0, ((r40, ()), (s.2.1, (s.2.2.1, ((s.2.2.2.1.1, (s.2.2.2.1.2.1, s.2.2.2.1.2.2)), ()))))))
  else
  some (0, ((false, ()), (s.2.1, (s.2.2.1, ((s.2.2.2.1.1, (s.2.2.2.1.2.1, s.2.2.2.1.2.2)), ()))))))
noncomputable def g10_taliklaw01_GroundRivals_k3_L : LoopT := cutT g10_taliklaw01_GroundRivals_k3_S0 g10_taliklaw01_GroundRivals_k3_S1 [.normal] g10_taliklaw01_GroundRivals_k3_run
noncomputable def g10_taliklaw01_GroundRivals_k4_S0 : SPat := ⟨[.any, .any, .any, .any, .dat (.int .i64), .any, .any, .any, .any, .any, .any, .any, .any, .any, .any, .any, .any, .any, .dat (.int .i64), .any, .dat .bool, .dat .bool, .any, .any, .any, .any, .any, .any, .any, .any, .any, .any, .any, .any, .any, .any, .any, .any, .any, .any, .any, .any, .any, .any, .any, .any, .any, .any, .any, .any, .any, .any, .any, .any, .any, .any, .any, .any, .any, .any, .any, .any, .any, .any, .any, .any, .any, .any, .any, .any, .any, .any, .any, .any, .any, .any, .any, .any, .any, .any, .any, .any, .any, .any, .any, .any, .any, .any, .any, .any, .any, .any, .any, .any, .any, .any, .any, .any, .any, .any, .any, .any, .any, .any, .any, .any, .any, .any, .any, .any, .any, .any, .any, .any, .any, .any, .any, .any, .any, .any, .any, .any, .any, .any, .any, .any, .any, .any, .any, .any, .any, .any, .any, .any, .any, .any, .any, .any, .any, .any, .any, .any, .any, .any, .any, .any, .any, .any, .any, .any, .any, .any, .any, .any, .any, .any], [.dat T25, .dat T29, .cons (.dat (.list T70)) (.cons (.dat T23) (.dat .nil))], 0⟩
noncomputable def g10_taliklaw01_GroundRivals_k4_S1 : SPat := ⟨[.any, .any, .any, .any, .any, .any, .any, .any, .any, .any, .any, .any, .dat .bool, .any, .any, .any, .any, .any, .any, .any, .any, .any, .any, .any, .any, .any, .any, .any, .any, .any, .any, .any, .any, .any, .any, .any, .any, .any, .any, .any, .any, .any, .any, .any, .any, .any, .any, .any, .any, .any, .any, .any, .any, .any, .any, .any, .any, .any, .any, .any, .any, .any, .any, .any, .any, .any, .any, .any, .any, .any, .any, .any, .any, .any, .any, .any, .any, .any, .any, .any, .any, .any, .any, .any, .any, .any, .any, .any, .any, .any, .any, .any, .any, .any, .any, .any, .any, .any, .any, .any, .any, .any, .any, .any, .any, .any, .any, .any, .any, .any, .any, .any, .any, .any, .any, .any, .any, .any, .any, .any, .any, .any, .any, .any, .any, .any, .any, .any, .any, .any, .any, .any, .any, .any, .any, .any, .any, .any, .any, .any, .any, .any, .any, .any, .any, .any, .any, .any, .any, .any, .any, .any, .any, .any, .any, .any], [.dat T25, .dat T29, .cons (.dat (.list T70)) (.cons (.dat T23) (.dat .nil))], 0⟩
noncomputable def g10_taliklaw01_GroundRivals_k4_run (s : ((Int × (Int × (Bool × (Bool × Unit)))) × (E25 × (E29 × (((List E70) × (E23 × Unit)) × Unit))))) : Option (Nat × ((Bool × Unit) × (E25 × (E29 × (((List E70) × (E23 × Unit)) × Unit))))) :=
  (bif (decide (s.1.1 < s.1.2.1)) then
  (bif (s.1.2.2.2.1 == (decide (s.1.1 < s.1.2.1))) then
    (Option.bind g15_taliklaw01_known fun r46 =>
      some (0, ((r46, ()), (s.2.1, (s.2.2.1, ((s.2.2.2.1.1, (s.2.2.2.1.2.1, s.2.2.2.1.2.2)), ()))))))
    else
    some (0, ((false, ()), (s.2.1, (s.2.2.1, ((s.2.2.2.1.1, (s.2.2.2.1.2.1, s.2.2.2.1.2.2)), ()))))))
  else
  (bif (!s.1.2.2.1) then
    (bif (s.1.2.2.2.1 == (decide (s.1.1 < s.1.2.1))) then
      (Option.bind g15_taliklaw01_known fun r47 =>
        some (0, ((r47, ()), (s.2.1, (s.2.2.1, ((s.2.2.2.1.1, (s.2.2.2.1.2.1, s.2.2.2.1.2.2)), ()))))))
      else
      some (0, ((false, ()), (s.2.1, (s.2.2.1, ((s.2.2.2.1.1, (s.2.2.2.1.2.1, s.2.2.2.1.2.2)), ()))))))
    else
    some (0, ((false, ()), (s.2.1, (s.2.2.1, ((s.2.2.2.1.1, (s.2.2.2.1.2.1, s.2.2.2.1.2.2)), ())))))))
noncomputable def g10_taliklaw01_GroundRivals_k4_L : LoopT := cutT g10_taliklaw01_GroundRivals_k4_S0 g10_taliklaw01_GroundRivals_k4_S1 [.normal] g10_taliklaw01_GroundRivals_k4_run
noncomputable def g10_taliklaw01_GroundRivals (a0 : E25) (a1 : (List E72)) (a2 : Int) (a3 : Int) (a4 : Int) (a5 : E29) : Option Bool :=
  (Option.bind (g10_taliklaw01_GroundRivals_k0_run ((a1, (a2, (a3, (a4, ())))), (a0, (a5, ())))) fun q12 =>
  (bif q12.2.1.2.2.2.2.1 then
    (Option.bind g15_taliklaw01_known fun r14 =>
      some r14)
    else
    (Option.bind (g29_ground_Allow q12.2.2.1 q12.2.1.1 q12.2.1.2.1) fun r16 =>
      (Option.bind (g33_taliklaw01_span q12.2.1.2.2.1 q12.2.1.2.2.1) fun r18 =>
        (Option.bind (g34_taliklaw01_deep (q12.2.2.1.1, (r18, q12.2.2.1.2.2)) q12.2.1.1 q12.2.1.2.1) fun r20 =>
          (Option.bind (g10_taliklaw01_GroundRivals_k1_run ((q12.2.1.1, (q12.2.1.2.1, (q12.2.1.2.2.1, (q12.2.1.2.2.2.1, (r16.1, (r16.2.1, (r20.1, (r20.2.1, ())))))))), (q12.2.2.1, (q12.2.2.2.1, ((q12.2.2.1.1, (r18, q12.2.2.1.2.2)), ()))))) fun q22 =>
            (bif q22.2.1.2.2.2.1 then
              some false
              else
              (Option.bind (g30_ground_Need q22.2.2.1 q22.2.1.1 q22.2.1.2.1) fun r24 =>
                (Option.bind (g10_taliklaw01_GroundRivals_k2_run ((q22.2.1.1, (q22.2.1.2.1, (q22.2.1.2.2.1, (r24.1, (r24.2.1, ()))))), (q22.2.2.1, (q22.2.2.2.1, ((q22.2.2.2.2.1.1, (q22.2.2.2.2.1.2.1, q22.2.2.2.2.1.2.2)), ()))))) fun q26 =>
                  (bif q26.2.1.2.2.2.2.2.1 then
                    some false
                    else
                    (Option.bind (g19_talikref01_Follow q26.2.2.1 q26.2.2.2.1 q26.2.1.2.2.1) fun r29 =>
                      (Option.bind (g28_talikref01_First r29 q26.2.1.2.1) fun r30 =>
                        (Option.bind (g26_talikref01_End q26.2.2.1 q26.2.1.1 true) fun r34 =>
                          (Option.bind (g19_talikref01_Follow q26.2.2.1 r34 q26.2.1.2.2.1) fun r35 =>
                            (Option.bind (g28_talikref01_First r35 q26.2.1.2.1) fun r36 =>
                              (bif (q26.2.1.2.2.2.2.1 == 5) then
                                (Option.bind (g10_taliklaw01_GroundRivals_k3_run (((decide (r36 < (List.length q26.2.1.1 : Int))), ()), (q26.2.2.1, (q26.2.2.2.1, ((q26.2.2.2.2.1.1, (q26.2.2.2.2.1.2.1, q26.2.2.2.2.1.2.2)), ()))))) fun q41 =>
                                  some q41.2.1.1)
                                else
                                (Option.bind (g10_taliklaw01_GroundRivals_k4_run ((q26.2.1.2.2.1, (q26.2.1.2.2.2.1, ((decide (r30 < (List.length q26.2.1.1 : Int))), ((decide (r36 < (List.length q26.2.1.1 : Int))), ())))), (q26.2.2.1, (q26.2.2.2.1, ((q26.2.2.2.2.1.1, (q26.2.2.2.2.1.2.1, q26.2.2.2.2.1.2.2)), ()))))) fun q48 =>
                                  some q48.2.1.1)))))))))))))))))
noncomputable def g10_taliklaw01_GroundRivals_E : CEnt := pureE 10 [.dat T25, .dat (.list T72), .dat (.int .i64), .dat (.int .i64), .dat (.int .i64), .dat T29] (.dat .bool) fun x => g10_taliklaw01_GroundRivals x.1 x.2.1 x.2.2.1 x.2.2.2.1 x.2.2.2.2.1 x.2.2.2.2.2.1
noncomputable def g10_taliklaw01_GroundRivals_k0_J : Jn := (.whole [])
theorem g10_taliklaw01_GroundRivals_k0_JV : JV 0 Tryd.prog false g10_taliklaw01_GroundRivals_k0_J (seqL (seqL (seqR (bodyOf Tryd.f10)))) := jv_nil
theorem g10_taliklaw01_GroundRivals_k0_V : LValid 0 Tryd.prog (seqL (seqL (seqR (bodyOf Tryd.f10)))) g10_taliklaw01_GroundRivals_k0_L false :=
  cutT_valid (ev := jnT Tryd.prog g10_taliklaw01_GroundRivals_C g10_taliklaw01_GroundRivals_k0_J (seqL (seqL (seqR (bodyOf Tryd.f10))))) (jnT_valid mixed g10_taliklaw01_GroundRivals_CV g10_taliklaw01_GroundRivals_k0_JV) (by kernel_rfl) (by kernel_rfl) (by decide) (by decide) (by intro s; kernel_rfl)
noncomputable def g10_taliklaw01_GroundRivals_k1_J : Jn := (.whole [])
theorem g10_taliklaw01_GroundRivals_k1_JV : JV 0 Tryd.prog false g10_taliklaw01_GroundRivals_k1_J (seqL (seqL (seqR (seqR (seqR (seqR (seqR (seqR (bodyOf Tryd.f10))))))))) := jv_nil
theorem g10_taliklaw01_GroundRivals_k1_V : LValid 0 Tryd.prog (seqL (seqL (seqR (seqR (seqR (seqR (seqR (seqR (bodyOf Tryd.f10))))))))) g10_taliklaw01_GroundRivals_k1_L false :=
  cutT_valid (ev := jnT Tryd.prog g10_taliklaw01_GroundRivals_C g10_taliklaw01_GroundRivals_k1_J (seqL (seqL (seqR (seqR (seqR (seqR (seqR (seqR (bodyOf Tryd.f10)))))))))) (jnT_valid mixed g10_taliklaw01_GroundRivals_CV g10_taliklaw01_GroundRivals_k1_JV) (by kernel_rfl) (by kernel_rfl) (by decide) (by decide) (by intro s; kernel_rfl)
noncomputable def g10_taliklaw01_GroundRivals_k2_J : Jn := (.whole [])
theorem g10_taliklaw01_GroundRivals_k2_JV : JV 0 Tryd.prog false g10_taliklaw01_GroundRivals_k2_J (seqL (seqL (seqR (seqR (seqR (seqR (seqR (seqR (seqR (seqR (bodyOf Tryd.f10))))))))))) := jv_nil
theorem g10_taliklaw01_GroundRivals_k2_V : LValid 0 Tryd.prog (seqL (seqL (seqR (seqR (seqR (seqR (seqR (seqR (seqR (seqR (bodyOf Tryd.f10))))))))))) g10_taliklaw01_GroundRivals_k2_L false :=
  cutT_valid (ev := jnT Tryd.prog g10_taliklaw01_GroundRivals_C g10_taliklaw01_GroundRivals_k2_J (seqL (seqL (seqR (seqR (seqR (seqR (seqR (seqR (seqR (seqR (bodyOf Tryd.f10)))))))))))) (jnT_valid mixed g10_taliklaw01_GroundRivals_CV g10_taliklaw01_GroundRivals_k2_JV) (by kernel_rfl) (by kernel_rfl) (by decide) (by decide) (by intro s; kernel_rfl)
noncomputable def g10_taliklaw01_GroundRivals_k3_J : Jn := (.whole [])
theorem g10_taliklaw01_GroundRivals_k3_JV : JV 0 Tryd.prog false g10_taliklaw01_GroundRivals_k3_J (seqL (conL (seqR (seqL (seqR (seqR (seqR (seqR (seqR (seqR (seqR (seqR (seqR (seqR (seqR (bodyOf Tryd.f10)))))))))))))))) := jv_nil
theorem g10_taliklaw01_GroundRivals_k3_V : LValid 0 Tryd.prog (seqL (conL (seqR (seqL (seqR (seqR (seqR (seqR (seqR (seqR (seqR (seqR (seqR (seqR (seqR (bodyOf Tryd.f10)))))))))))))))) g10_taliklaw01_GroundRivals_k3_L false :=
  cutT_valid (ev := jnT Tryd.prog g10_taliklaw01_GroundRivals_C g10_taliklaw01_GroundRivals_k3_J (seqL (conL (seqR (seqL (seqR (seqR (seqR (seqR (seqR (seqR (seqR (seqR (seqR (seqR (seqR (bodyOf Tryd.f10))))))))))))))))) (jnT_valid mixed g10_taliklaw01_GroundRivals_CV g10_taliklaw01_GroundRivals_k3_JV) (by kernel_rfl) (by kernel_rfl) (by decide) (by decide) (by intro s; kernel_rfl)
noncomputable def g10_taliklaw01_GroundRivals_k4_J : Jn := (.whole [])
theorem g10_taliklaw01_GroundRivals_k4_JV : JV 0 Tryd.prog false g10_taliklaw01_GroundRivals_k4_J (seqL (seqR (seqR (seqR (seqR (seqR (seqR (seqR (seqR (seqR (seqR (seqR (seqR (bodyOf Tryd.f10)))))))))))))) := jv_nil
theorem g10_taliklaw01_GroundRivals_k4_V : LValid 0 Tryd.prog (seqL (seqR (seqR (seqR (seqR (seqR (seqR (seqR (seqR (seqR (seqR (seqR (seqR (bodyOf Tryd.f10)))))))))))))) g10_taliklaw01_GroundRivals_k4_L false :=
  cutT_valid (ev := jnT Tryd.prog g10_taliklaw01_GroundRivals_C g10_taliklaw01_GroundRivals_k4_J (seqL (seqR (seqR (seqR (seqR (seqR (seqR (seqR (seqR (seqR (seqR (seqR (seqR (bodyOf Tryd.f10))))))))))))))) (jnT_valid mixed g10_taliklaw01_GroundRivals_CV g10_taliklaw01_GroundRivals_k4_JV) (by kernel_rfl) (by kernel_rfl) (by decide) (by decide) (by intro s; kernel_rfl)
noncomputable def g10_taliklaw01_GroundRivals_J : Jn := (.seq (.whole []) (.seq (.seq (.cut g10_taliklaw01_GroundRivals_k0_L) (.whole [])) (.seq (.whole []) (.seq (.whole []) (.seq (.whole []) (.seq (.whole []) (.seq (.seq (.cut g10_taliklaw01_GroundRivals_k1_L) (.whole [])) (.seq (.whole []) (.seq (.seq (.cut g10_taliklaw01_GroundRivals_k2_L) (.whole [])) (.seq (.whole []) (.seq (.whole []) (.seq (.seq (.whole []) (.cond (.seq (.cut g10_taliklaw01_GroundRivals_k3_L) (.whole [])) (.whole []))) (.seq (.cut g10_taliklaw01_GroundRivals_k4_L) (.whole []))))))))))))))
theorem g10_taliklaw01_GroundRivals_JV : JV 0 Tryd.prog false g10_taliklaw01_GroundRivals_J (bodyOf Tryd.f10) := (jv_seq (by kernel_rfl) jv_nil (jv_seq (by kernel_rfl) (jv_seq (by kernel_rfl) (jv_cut g10_taliklaw01_GroundRivals_k0_V) jv_nil) (jv_seq (by kernel_rfl) jv_nil (jv_seq (by kernel_rfl) jv_nil (jv_seq (by kernel_rfl) jv_nil (jv_seq (by kernel_rfl) jv_nil (jv_seq (by kernel_rfl) (jv_seq (by kernel_rfl) (jv_cut g10_taliklaw01_GroundRivals_k1_V) jv_nil) (jv_seq (by kernel_rfl) jv_nil (jv_seq (by kernel_rfl) (jv_seq (by kernel_rfl) (jv_cut g10_taliklaw01_GroundRivals_k2_V) jv_nil) (jv_seq (by kernel_rfl) jv_nil (jv_seq (by kernel_rfl) jv_nil (jv_seq (by kernel_rfl) (jv_seq (by kernel_rfl) jv_nil (jv_con (by kernel_rfl) (jv_seq (by kernel_rfl) (jv_cut g10_taliklaw01_GroundRivals_k3_V) jv_nil) jv_nil)) (jv_seq (by kernel_rfl) (jv_cut g10_taliklaw01_GroundRivals_k4_V) jv_nil)))))))))))))
theorem g10_taliklaw01_GroundRivals_ent : Ent Tryd.prog 10 := ⟨by decide, enters_of Tryd.func10 (by kernel_rfl) rfl⟩
theorem g10_taliklaw01_GroundRivals_hev : ∀ x, fnE (jnT Tryd.prog g10_taliklaw01_GroundRivals_C g10_taliklaw01_GroundRivals_J (bodyOf Tryd.f10)) Tryd.prog Tryd.f10 (encs [.dat T25, .dat (.list T72), .dat (.int .i64), .dat (.int .i64), .dat (.int .i64), .dat T29] x) ⟨[], [], 0⟩ (frzF (.dat .bool)) = g10_taliklaw01_GroundRivals x.1 x.2.1 x.2.2.1 x.2.2.2.1 x.2.2.2.2.1 x.2.2.2.2.2.1 := by
  intro x; kernel_rfl
theorem g10_taliklaw01_GroundRivals_lcall : ∀ x r, (fun x : Els [.dat T25, .dat (.list T72), .dat (.int .i64), .dat (.int .i64), .dat (.int .i64), .dat T29] => g10_taliklaw01_GroundRivals x.1 x.2.1 x.2.2.1 x.2.2.2.1 x.2.2.2.2.1 x.2.2.2.2.2.1) x = some r → LCall 0 Tryd.prog 10 (encs [.dat T25, .dat (.list T72), .dat (.int .i64), .dat (.int .i64), .dat (.int .i64), .dat T29] x) ⟨[], [], 0⟩ (.d .bool r) ⟨[], [], 0⟩ := frz_lcallE (ev := (jnT Tryd.prog g10_taliklaw01_GroundRivals_C g10_taliklaw01_GroundRivals_J (bodyOf Tryd.f10))) (R := .dat .bool) Tryd.func10 rfl g10_taliklaw01_GroundRivals_ent (jnT_valid mixed g10_taliklaw01_GroundRivals_CV g10_taliklaw01_GroundRivals_JV) (by kernel_rfl) (by kernel_rfl) g10_taliklaw01_GroundRivals_hev

end Go.Proofs.YtbidmbjkjpdgdaaDoor.Abs
