/-
  A law of the ground layer as a typed function. Printed by a program of mine (gen.py).
-/
import Derived.Test.YtbidmbjkjpdgdaaDoorGf2
import Derived.Test.YtbidmbjkjpdgdaaDoorAbsJ
set_option linter.unusedVariables false
set_option maxRecDepth 100000
namespace Go.Proofs.YtbidmbjkjpdgdaaDoor.Abs
open Go.Shelf Go.Sort
noncomputable def g9_taliklaw01_GroundAllows_C : CalT := tabC [g13_taliklaw01_short_E, g15_taliklaw01_known_E, g29_ground_Allow_E, g30_ground_Need_E, g17_taliklaw01_wanted_E, g31_talikref01_Allow_E, g32_talikref01_Need_E]
theorem g9_taliklaw01_GroundAllows_CV : CV Tryd.prog g9_taliklaw01_GroundAllows_C := tabC_valid ⟨g13_taliklaw01_short_valid, g15_taliklaw01_known_valid, g29_ground_Allow_valid, g30_ground_Need_valid, g17_taliklaw01_wanted_valid, g31_talikref01_Allow_valid, g32_talikref01_Need_valid, trivial⟩
noncomputable def g9_taliklaw01_GroundAllows_k0_S0 : SPat := ⟨[.any, .dat (.list T72), .dat (.int .i64), .fix (.bptr 0 []), .any, .any, .any, .dat (.int .i64), .dat (.int .i64), .dat (.int .i64), .dat (.int .i64), .dat (.int .i64), .any, .any, .any, .any, .any, .any, .any, .any, .any, .any, .any, .any, .any, .any, .any, .any, .any, .any, .any, .any, .any, .any, .any, .any, .any, .any, .any, .any, .any, .any, .any, .any, .any, .any, .any, .any, .any, .any, .any, .any, .any, .any, .any, .any, .any, .any, .any, .any, .any, .any, .any, .any, .any, .any, .any, .any, .any, .any, .any, .any, .any, .any, .any, .any, .any, .any, .any, .any, .any, .any, .any, .any, .any, .any, .any, .any, .any, .any, .any, .any, .any, .any, .any, .any, .any, .any, .any, .any, .any, .any, .any, .any, .any, .any, .any, .any, .any, .any, .any, .any, .any, .any, .any, .any, .any, .any, .any, .any, .any, .any, .any, .any], [.dat T25], 0⟩
noncomputable def g9_taliklaw01_GroundAllows_k0_S1 : SPat := ⟨[.any, .dat (.list T72), .dat (.int .i64), .fix (.bptr 0 []), .any, .any, .any, .dat (.int .i64), .dat (.int .i64), .dat (.int .i64), .dat (.int .i64), .dat (.int .i64), .any, .any, .any, .any, .any, .any, .any, .any, .any, .any, .any, .any, .any, .any, .any, .any, .any, .any, .any, .any, .any, .any, .any, .any, .any, .any, .any, .any, .any, .any, .any, .any, .any, .dat .bool, .any, .any, .any, .any, .any, .any, .any, .any, .any, .any, .any, .any, .any, .any, .any, .any, .any, .any, .any, .any, .any, .any, .any, .any, .any, .any, .any, .any, .any, .any, .any, .any, .any, .any, .any, .any, .any, .any, .any, .any, .any, .any, .any, .any, .any, .any, .any, .any, .any, .any, .any, .any, .any, .any, .any, .any, .any, .any, .any, .any, .any, .any, .any, .any, .any, .any, .any, .any, .any, .any, .any, .any, .any, .any, .any, .any, .any, .any], [.dat T25], 0⟩
noncomputable def g9_taliklaw01_GroundAllows_k0_run (s : (((List E72) × (Int × (Int × (Int × (Int × (Int × (Int × Unit))))))) × (E25 × Unit))) : Option (Nat × (((List E72) × (Int × (Int × (Int × (Int × (Int × (Int × (Bool × Unit)))))))) × (E25 × Unit))) :=
  (bif (s.1.2.2.2.2.2.2.1 == 0) then
  (bif (decide (s.1.2.1 < 0)) then
    some (0, ((s.1.1, (s.1.2.1, (s.1.2.2.1, (s.1.2.2.2.1, (s.1.2.2.2.2.1, (s.1.2.2.2.2.2.1, (s.1.2.2.2.2.2.2.1, (true, ())))))))), (s.2.1, ())))
    else
    some (0, ((s.1.1, (s.1.2.1, (s.1.2.2.1, (s.1.2.2.2.1, (s.1.2.2.2.2.1, (s.1.2.2.2.2.2.1, (s.1.2.2.2.2.2.2.1, ((decide (s.1.2.1 > 2000000)), ())))))))), (s.2.1, ()))))
  else
  some (0, ((s.1.1, (s.1.2.1, (s.1.2.2.1, (s.1.2.2.2.1, (s.1.2.2.2.2.1, (s.1.2.2.2.2.2.1, (s.1.2.2.2.2.2.2.1, (false, ())))))))), (s.2.1, ()))))
noncomputable def g9_taliklaw01_GroundAllows_k0_L : LoopT := cutT g9_taliklaw01_GroundAllows_k0_S0 g9_taliklaw01_GroundAllows_k0_S1 [.normal] g9_taliklaw01_GroundAllows_k0_run
noncomputable def g9_taliklaw01_GroundAllows_k1_S0 : SPat := ⟨[.any, .dat (.list T72), .dat (.int .i64), .fix (.bptr 0 []), .any, .any, .any, .dat (.int .i64), .dat (.int .i64), .dat (.int .i64), .dat (.int .i64), .dat (.int .i64), .any, .any, .any, .any, .any, .any, .any, .any, .any, .any, .any, .any, .any, .any, .any, .any, .any, .any, .any, .any, .any, .any, .any, .any, .any, .any, .any, .any, .any, .any, .any, .any, .any, .any, .any, .any, .any, .any, .any, .any, .any, .any, .any, .any, .any, .any, .any, .any, .any, .any, .any, .any, .any, .any, .any, .any, .any, .any, .any, .any, .any, .any, .any, .any, .any, .any, .any, .any, .any, .any, .any, .any, .any, .any, .any, .any, .any, .any, .any, .any, .any, .any, .any, .any, .any, .any, .any, .any, .any, .any, .any, .any, .any, .any, .any, .any, .any, .any, .any, .any, .any, .any, .any, .any, .any, .any, .any, .any, .any, .any, .any, .any], [.dat T25], 0⟩
noncomputable def g9_taliklaw01_GroundAllows_k1_S1 : SPat := ⟨[.any, .dat (.list T72), .dat (.int .i64), .fix (.bptr 0 []), .any, .any, .any, .dat (.int .i64), .dat (.int .i64), .dat (.int .i64), .dat (.int .i64), .dat (.int .i64), .any, .any, .any, .any, .any, .any, .any, .any, .any, .any, .any, .any, .any, .any, .any, .any, .any, .any, .any, .any, .any, .any, .any, .any, .any, .any, .any, .any, .any, .any, .any, .any, .any, .any, .any, .any, .any, .any, .any, .any, .any, .any, .any, .any, .any, .any, .any, .any, .any, .any, .any, .any, .any, .any, .any, .any, .any, .any, .any, .any, .any, .any, .any, .any, .any, .any, .any, .any, .any, .any, .any, .any, .any, .any, .any, .any, .any, .any, .any, .any, .any, .any, .any, .any, .any, .any, .any, .any, .any, .any, .any, .any, .any, .any, .any, .any, .any, .any, .any, .any, .any, .any, .any, .any, .any, .any, .any, .any, .any, .any, .any, .any], [.dat T25], 0⟩
noncomputable def g9_taliklaw01_GroundAllows_k1_run (s : (((List E72) × (Int × (Int × (Int × (Int × (Int × (Int × Unit))))))) × (E25 × Unit))) : Option (Nat × (((List E72) × (Int × (Int × (Int × (Int × (Int × (Int × Unit))))))) × (E25 × Unit))) :=
  (Option.bind (g9_taliklaw01_GroundAllows_k0_run ((s.1.1, (s.1.2.1, (s.1.2.2.1, (s.1.2.2.2.1, (s.1.2.2.2.2.1, (s.1.2.2.2.2.2.1, (s.1.2.2.2.2.2.2.1, ()))))))), (s.2.1, ()))) fun q14 =>
  (bif q14.2.1.2.2.2.2.2.2.2.1 then
    some (0, ((q14.2.1.1, (q14.2.1.2.1, (q14.2.1.2.2.1, (q14.2.1.2.2.2.1, (q14.2.1.2.2.2.2.1, (q14.2.1.2.2.2.2.2.1, (2, ()))))))), (q14.2.2.1, ())))
    else
    some (0, ((q14.2.1.1, (q14.2.1.2.1, (q14.2.1.2.2.1, (q14.2.1.2.2.2.1, (q14.2.1.2.2.2.2.1, (q14.2.1.2.2.2.2.2.1, (q14.2.1.2.2.2.2.2.2.1, ()))))))), (q14.2.2.1, ())))))
noncomputable def g9_taliklaw01_GroundAllows_k1_L : LoopT := cutT g9_taliklaw01_GroundAllows_k1_S0 g9_taliklaw01_GroundAllows_k1_S1 [.normal] g9_taliklaw01_GroundAllows_k1_run
noncomputable def g9_taliklaw01_GroundAllows_k2_S0 : SPat := ⟨[.any, .any, .any, .any, .any, .any, .any, .dat (.int .i64), .dat (.int .i64), .dat (.int .i64), .dat (.int .i64), .dat (.int .i64), .any, .any, .any, .any, .any, .any, .any, .any, .any, .any, .any, .any, .any, .any, .any, .any, .any, .any, .any, .any, .any, .any, .any, .any, .any, .any, .any, .any, .any, .any, .any, .any, .any, .any, .any, .any, .any, .any, .any, .any, .any, .any, .any, .any, .any, .any, .any, .any, .any, .any, .any, .any, .any, .any, .any, .any, .any, .any, .any, .any, .any, .any, .any, .any, .any, .any, .any, .any, .any, .any, .any, .any, .any, .any, .any, .any, .any, .any, .any, .any, .any, .any, .any, .any, .any, .any, .any, .any, .any, .any, .any, .any, .any, .any, .any, .any, .any, .any, .any, .any, .any, .any, .any, .any, .any, .any, .any, .any, .any, .any, .any, .any], [.dat T25], 0⟩
noncomputable def g9_taliklaw01_GroundAllows_k2_S1 : SPat := ⟨[.any, .any, .any, .any, .any, .any, .dat .bool, .any, .any, .any, .any, .any, .any, .any, .any, .any, .any, .any, .any, .any, .any, .any, .any, .any, .any, .any, .any, .any, .any, .any, .any, .any, .any, .any, .any, .any, .any, .any, .any, .any, .any, .any, .any, .any, .any, .any, .any, .any, .any, .any, .any, .any, .any, .any, .any, .any, .any, .any, .any, .any, .any, .any, .any, .any, .any, .any, .any, .any, .any, .any, .any, .any, .any, .any, .any, .any, .any, .any, .any, .any, .any, .any, .any, .any, .any, .any, .any, .any, .any, .any, .any, .any, .any, .any, .any, .any, .any, .any, .any, .any, .any, .any, .any, .any, .any, .any, .any, .any, .any, .any, .any, .any, .any, .any, .any, .any, .any, .any, .any, .any, .any, .any, .any, .any], [.dat T25], 0⟩
noncomputable def g9_taliklaw01_GroundAllows_k2_run (s : ((Int × (Int × (Int × (Int × (Int × Unit))))) × (E25 × Unit))) : Option (Nat × ((Bool × Unit) × (E25 × Unit))) :=
  (bif (s.1.2.1 == s.1.2.2.2.2.1) then
  (bif (s.1.2.2.2.1 == s.1.2.2.2.2.1) then
    (bif (s.1.1 == 0) then
      (bif (s.1.2.2.1 == 0) then
        (Option.bind g15_taliklaw01_known fun r19 =>
          some (0, ((r19, ()), (s.2.1, ()))))
        else
        some (0, ((false, ()), (s.2.1, ()))))
      else
      some (0, ((false, ()), (s.2.1, ()))))
    else
    some (0, ((false, ()), (s.2.1, ()))))
  else
  some (0, ((false, ()), (s.2.1, ()))))
noncomputable def g9_taliklaw01_GroundAllows_k2_L : LoopT := cutT g9_taliklaw01_GroundAllows_k2_S0 g9_taliklaw01_GroundAllows_k2_S1 [.normal] g9_taliklaw01_GroundAllows_k2_run
noncomputable def g9_taliklaw01_GroundAllows_k3_S0 : SPat := ⟨[.any, .any, .any, .any, .any, .any, .any, .dat (.int .i64), .dat (.int .i64), .dat (.int .i64), .dat (.int .i64), .any, .dat (.int .i64), .dat (.int .i64), .any, .any, .any, .any, .any, .any, .any, .any, .any, .any, .any, .any, .any, .any, .any, .any, .any, .any, .any, .any, .any, .any, .any, .any, .any, .any, .any, .any, .any, .any, .any, .any, .any, .any, .any, .any, .any, .any, .any, .any, .any, .any, .any, .any, .any, .any, .any, .any, .any, .any, .any, .any, .any, .any, .any, .any, .any, .any, .any, .any, .any, .any, .any, .any, .any, .any, .any, .any, .any, .any, .any, .any, .any, .any, .any, .any, .any, .any, .any, .any, .any, .any, .any, .any, .any, .any, .any, .any, .any, .any, .any, .any, .any, .any, .any, .any, .any, .any, .any, .any, .any, .any, .any, .any, .any, .any, .any, .any, .any, .any], [.dat T25], 0⟩
noncomputable def g9_taliklaw01_GroundAllows_k3_S1 : SPat := ⟨[.any, .any, .any, .any, .any, .any, .any, .any, .any, .dat (.int .i64), .dat (.int .i64), .any, .any, .dat (.int .i64), .any, .any, .any, .any, .any, .any, .any, .any, .any, .any, .any, .any, .any, .any, .any, .any, .any, .any, .any, .any, .any, .any, .any, .any, .any, .any, .any, .any, .any, .any, .any, .any, .any, .any, .any, .any, .any, .any, .any, .any, .any, .any, .any, .any, .any, .any, .any, .any, .any, .any, .any, .any, .any, .any, .any, .any, .any, .any, .any, .any, .any, .any, .any, .any, .any, .any, .any, .any, .any, .any, .any, .any, .any, .any, .any, .any, .any, .any, .any, .any, .any, .any, .any, .dat .bool, .any, .any, .any, .any, .any, .any, .any, .any, .any, .any, .any, .any, .any, .any, .any, .any, .any, .any, .any, .any, .any, .any, .any, .any, .any, .any], [.dat T25], 0⟩
noncomputable def g9_taliklaw01_GroundAllows_k3_run (s : ((Int × (Int × (Int × (Int × (Int × (Int × Unit)))))) × (E25 × Unit))) : Option (Nat × ((Int × (Int × (Int × (Bool × Unit)))) × (E25 × Unit))) :=
  (bif (decide (s.1.2.2.2.2.1 < 0)) then
  (bif (s.1.2.1 != 5) then
    some (0, ((s.1.2.2.1, (s.1.2.2.2.1, (s.1.2.2.2.2.2.1, (true, ())))), (s.2.1, ())))
    else
    (bif (s.1.1 != 0) then
      some (0, ((s.1.2.2.1, (s.1.2.2.2.1, (s.1.2.2.2.2.2.1, (true, ())))), (s.2.1, ())))
      else
      (bif (decide (s.1.2.2.2.2.1 ≥ 0)) then
        (bif (s.1.2.1 != 0) then
          some (0, ((s.1.2.2.1, (s.1.2.2.2.1, (s.1.2.2.2.2.2.1, (true, ())))), (s.2.1, ())))
          else
          some (0, ((s.1.2.2.1, (s.1.2.2.2.1, (s.1.2.2.2.2.2.1, ((s.1.1 != s.1.2.2.2.2.1), ())))), (s.2.1, ()))))
        else
        some (0, ((s.1.2.2.1, (s.1.2.2.2.1, (s.1.2.2.2.2.2.1, (false, ())))), (s.2.1, ()))))))
  else
  (bif (decide (s.1.2.2.2.2.1 ≥ 0)) then
    (bif (s.1.2.1 != 0) then
      some (0, ((s.1.2.2.1, (s.1.2.2.2.1, (s.1.2.2.2.2.2.1, (true, ())))), (s.2.1, ())))
      else
      some (0, ((s.1.2.2.1, (s.1.2.2.2.1, (s.1.2.2.2.2.2.1, ((s.1.1 != s.1.2.2.2.2.1), ())))), (s.2.1, ()))))
    else
    some (0, ((s.1.2.2.1, (s.1.2.2.2.1, (s.1.2.2.2.2.2.1, (false, ())))), (s.2.1, ())))))
noncomputable def g9_taliklaw01_GroundAllows_k3_L : LoopT := cutT g9_taliklaw01_GroundAllows_k3_S0 g9_taliklaw01_GroundAllows_k3_S1 [.normal] g9_taliklaw01_GroundAllows_k3_run
noncomputable def g9_taliklaw01_GroundAllows_k4_S0 : SPat := ⟨[.any, .any, .any, .any, .any, .any, .any, .any, .any, .dat (.int .i64), .dat (.int .i64), .any, .any, .dat (.int .i64), .any, .any, .any, .any, .any, .any, .any, .any, .any, .any, .any, .any, .any, .any, .any, .any, .any, .any, .any, .any, .any, .any, .any, .any, .any, .any, .any, .any, .any, .any, .any, .any, .any, .any, .any, .any, .any, .any, .any, .any, .any, .any, .any, .any, .any, .any, .any, .any, .any, .any, .any, .any, .any, .any, .any, .any, .any, .any, .any, .any, .any, .any, .any, .any, .any, .any, .any, .any, .any, .any, .any, .any, .any, .any, .any, .any, .any, .any, .any, .any, .any, .any, .any, .any, .any, .any, .any, .any, .any, .any, .any, .any, .any, .any, .any, .any, .any, .any, .any, .any, .any, .any, .any, .any, .any, .any, .any, .any, .any, .any], [.dat T25], 0⟩
noncomputable def g9_taliklaw01_GroundAllows_k4_S1 : SPat := ⟨[.any, .any, .any, .any, .any, .any, .dat .bool, .any, .any, .any, .any, .any, .any, .any, .any, .any, .any, .any, .any, .any, .any, .any, .any, .any, .any, .any, .any, .any, .any, .any, .any, .any, .any, .any, .any, .any, .any, .any, .any, .any, .any, .any, .any, .any, .any, .any, .any, .any, .any, .any, .any, .any, .any, .any, .any, .any, .any, .any, .any, .any, .any, .any, .any, .any, .any, .any, .any, .any, .any, .any, .any, .any, .any, .any, .any, .any, .any, .any, .any, .any, .any, .any, .any, .any, .any, .any, .any, .any, .any, .any, .any, .any, .any, .any, .any, .any, .any, .any, .any, .any, .any, .any, .any, .any, .any, .any, .any, .any, .any, .any, .any, .any, .any, .any, .any, .any, .any, .any, .any, .any, .any, .any, .any, .any], [.dat T25], 0⟩
noncomputable def g9_taliklaw01_GroundAllows_k4_run (s : ((Int × (Int × (Int × Unit))) × (E25 × Unit))) : Option (Nat × ((Bool × Unit) × (E25 × Unit))) :=
  (bif (decide (s.1.2.2.1 < 0)) then
  (bif (s.1.2.1 == 5) then
    (bif (s.1.1 == 0) then
      (Option.bind g15_taliklaw01_known fun r35 =>
        some (0, ((r35, ()), (s.2.1, ()))))
      else
      (bif (decide (s.1.2.2.1 ≥ 0)) then
        (bif (s.1.2.1 == 0) then
          (bif (s.1.1 == s.1.2.2.1) then
            (Option.bind g15_taliklaw01_known fun r36 =>
              some (0, ((r36, ()), (s.2.1, ()))))
            else
            some (0, ((false, ()), (s.2.1, ()))))
          else
          some (0, ((false, ()), (s.2.1, ()))))
        else
        some (0, ((false, ()), (s.2.1, ())))))
    else
    (bif (decide (s.1.2.2.1 ≥ 0)) then
      (bif (s.1.2.1 == 0) then
        (bif (s.1.1 == s.1.2.2.1) then
          (Option.bind g15_taliklaw01_known fun r37 =>
            some (0, ((r37, ()), (s.2.1, ()))))
          else
          some (0, ((false, ()), (s.2.1, ()))))
        else
        some (0, ((false, ()), (s.2.1, ()))))
      else
      some (0, ((false, ()), (s.2.1, ())))))
  else
  (bif (decide (s.1.2.2.1 ≥ 0)) then
    (bif (s.1.2.1 == 0) then
      (bif (s.1.1 == s.1.2.2.1) then
        (Option.bind g15_taliklaw01_known fun r38 =>
          some (0, ((r38, ()), (s.2.1, ()))))
        else
        some (0, ((false, ()), (s.2.1, ()))))
      else
      some (0, ((false, ()), (s.2.1, ()))))
    else
    some (0, ((false, ()), (s.2.1, ())))))
noncomputable def g9_taliklaw01_GroundAllows_k4_L : LoopT := cutT g9_taliklaw01_GroundAllows_k4_S0 g9_taliklaw01_GroundAllows_k4_S1 [.normal] g9_taliklaw01_GroundAllows_k4_run
noncomputable def g9_taliklaw01_GroundAllows (a0 : E25) (a1 : (List E72)) (a2 : Int) : Option Bool :=
  (Option.bind (g13_taliklaw01_short a0 a1) fun r4 =>
  (bif (!r4) then
    (Option.bind g15_taliklaw01_known fun r6 =>
      some r6)
    else
    (Option.bind (g29_ground_Allow a0 a1 a2) fun r8 =>
      (Option.bind (g30_ground_Need a0 a1 a2) fun r10 =>
        (Option.bind (g17_taliklaw01_wanted a0 a1) fun r12 =>
          (Option.bind (g9_taliklaw01_GroundAllows_k1_run ((a1, (a2, (r8.1, (r8.2.1, (r10.1, (r10.2.1, (r12, ()))))))), (a0, ()))) fun q15 =>
            (bif (q15.2.1.2.2.2.2.2.2.1 != 0) then
              (Option.bind (g9_taliklaw01_GroundAllows_k2_run ((q15.2.1.2.2.1, (q15.2.1.2.2.2.1, (q15.2.1.2.2.2.2.1, (q15.2.1.2.2.2.2.2.1, (q15.2.1.2.2.2.2.2.2.1, ()))))), (q15.2.2.1, ()))) fun q20 =>
                some q20.2.1.1)
              else
              (Option.bind (g31_talikref01_Allow q15.2.2.1 q15.2.1.1 q15.2.1.2.1) fun r23 =>
                (Option.bind (g32_talikref01_Need q15.2.2.1 q15.2.1.1 q15.2.1.2.1) fun r24 =>
                  (Option.bind (g9_taliklaw01_GroundAllows_k3_run ((q15.2.1.2.2.1, (q15.2.1.2.2.2.1, (q15.2.1.2.2.2.2.1, (q15.2.1.2.2.2.2.2.1, (r23, (r24, ())))))), (q15.2.2.1, ()))) fun q26 =>
                    (bif q26.2.1.2.2.2.1 then
                      some false
                      else
                      (Option.bind (g9_taliklaw01_GroundAllows_k4_run ((q26.2.1.1, (q26.2.1.2.1, (q26.2.1.2.2.1, ()))), (q26.2.2.1, ()))) fun q39 =>
                        some q39.2.1.1))))))))))))
noncomputable def g9_taliklaw01_GroundAllows_E : CEnt := pureE 9 [.dat T25, .dat (.list T72), .dat (.int .i64)] (.dat .bool) fun x => g9_taliklaw01_GroundAllows x.1 x.2.1 x.2.2.1
noncomputable def g9_taliklaw01_GroundAllows_k0_J : Jn := (.whole [])
theorem g9_taliklaw01_GroundAllows_k0_JV : JV 0 Tryd.prog false g9_taliklaw01_GroundAllows_k0_J (seqL (seqL (seqR (seqR (seqR (seqR (seqR (bodyOf Tryd.f9)))))))) := jv_nil
theorem g9_taliklaw01_GroundAllows_k0_V : LValid 0 Tryd.prog (seqL (seqL (seqR (seqR (seqR (seqR (seqR (bodyOf Tryd.f9)))))))) g9_taliklaw01_GroundAllows_k0_L false :=
  cutT_valid (ev := jnT Tryd.prog g9_taliklaw01_GroundAllows_C g9_taliklaw01_GroundAllows_k0_J (seqL (seqL (seqR (seqR (seqR (seqR (seqR (bodyOf Tryd.f9))))))))) (jnT_valid mixed g9_taliklaw01_GroundAllows_CV g9_taliklaw01_GroundAllows_k0_JV) (by kernel_rfl) (by kernel_rfl) (by decide) (by decide) (by intro s; kernel_rfl)
noncomputable def g9_taliklaw01_GroundAllows_k1_J : Jn := (.seq (.cut g9_taliklaw01_GroundAllows_k0_L) (.whole []))
theorem g9_taliklaw01_GroundAllows_k1_JV : JV 0 Tryd.prog false g9_taliklaw01_GroundAllows_k1_J (seqL (seqR (seqR (seqR (seqR (seqR (bodyOf Tryd.f9))))))) := (jv_seq (by kernel_rfl) (jv_cut g9_taliklaw01_GroundAllows_k0_V) jv_nil)
theorem g9_taliklaw01_GroundAllows_k1_V : LValid 0 Tryd.prog (seqL (seqR (seqR (seqR (seqR (seqR (bodyOf Tryd.f9))))))) g9_taliklaw01_GroundAllows_k1_L false :=
  cutT_valid (ev := jnT Tryd.prog g9_taliklaw01_GroundAllows_C g9_taliklaw01_GroundAllows_k1_J (seqL (seqR (seqR (seqR (seqR (seqR (bodyOf Tryd.f9)))))))) (jnT_valid mixed g9_taliklaw01_GroundAllows_CV g9_taliklaw01_GroundAllows_k1_JV) (by kernel_rfl) (by kernel_rfl) (by decide) (by decide) (by intro s; kernel_rfl)
noncomputable def g9_taliklaw01_GroundAllows_k2_J : Jn := (.whole [])
theorem g9_taliklaw01_GroundAllows_k2_JV : JV 0 Tryd.prog false g9_taliklaw01_GroundAllows_k2_J (seqL (conL (seqR (seqL (seqR (seqR (seqR (seqR (seqR (seqR (bodyOf Tryd.f9))))))))))) := jv_nil
theorem g9_taliklaw01_GroundAllows_k2_V : LValid 0 Tryd.prog (seqL (conL (seqR (seqL (seqR (seqR (seqR (seqR (seqR (seqR (bodyOf Tryd.f9))))))))))) g9_taliklaw01_GroundAllows_k2_L false :=
  cutT_valid (ev := jnT Tryd.prog g9_taliklaw01_GroundAllows_C g9_taliklaw01_GroundAllows_k2_J (seqL (conL (seqR (seqL (seqR (seqR (seqR (seqR (seqR (seqR (bodyOf Tryd.f9)))))))))))) (jnT_valid mixed g9_taliklaw01_GroundAllows_CV g9_taliklaw01_GroundAllows_k2_JV) (by kernel_rfl) (by kernel_rfl) (by decide) (by decide) (by intro s; kernel_rfl)
noncomputable def g9_taliklaw01_GroundAllows_k3_J : Jn := (.whole [])
theorem g9_taliklaw01_GroundAllows_k3_JV : JV 0 Tryd.prog false g9_taliklaw01_GroundAllows_k3_J (seqL (seqL (seqR (seqR (seqR (seqR (seqR (seqR (seqR (seqR (bodyOf Tryd.f9))))))))))) := jv_nil
theorem g9_taliklaw01_GroundAllows_k3_V : LValid 0 Tryd.prog (seqL (seqL (seqR (seqR (seqR (seqR (seqR (seqR (seqR (seqR (bodyOf Tryd.f9))))))))))) g9_taliklaw01_GroundAllows_k3_L false :=
  cutT_valid (ev := jnT Tryd.prog g9_taliklaw01_GroundAllows_C g9_taliklaw01_GroundAllows_k3_J (seqL (seqL (seqR (seqR (seqR (seqR (seqR (seqR (seqR (seqR (bodyOf Tryd.f9)))))))))))) (jnT_valid mixed g9_taliklaw01_GroundAllows_CV g9_taliklaw01_GroundAllows_k3_JV) (by kernel_rfl) (by kernel_rfl) (by decide) (by decide) (by intro s; kernel_rfl)
noncomputable def g9_taliklaw01_GroundAllows_k4_J : Jn := (.whole [])
theorem g9_taliklaw01_GroundAllows_k4_JV : JV 0 Tryd.prog false g9_taliklaw01_GroundAllows_k4_J (seqL (seqR (seqR (seqR (seqR (seqR (seqR (seqR (seqR (seqR (bodyOf Tryd.f9))))))))))) := jv_nil
theorem g9_taliklaw01_GroundAllows_k4_V : LValid 0 Tryd.prog (seqL (seqR (seqR (seqR (seqR (seqR (seqR (seqR (seqR (seqR (bodyOf Tryd.f9))))))))))) g9_taliklaw01_GroundAllows_k4_L false :=
  cutT_valid (ev := jnT Tryd.prog g9_taliklaw01_GroundAllows_C g9_taliklaw01_GroundAllows_k4_J (seqL (seqR (seqR (seqR (seqR (seqR (seqR (seqR (seqR (seqR (bodyOf Tryd.f9)))))))))))) (jnT_valid mixed g9_taliklaw01_GroundAllows_CV g9_taliklaw01_GroundAllows_k4_JV) (by kernel_rfl) (by kernel_rfl) (by decide) (by decide) (by intro s; kernel_rfl)
noncomputable def g9_taliklaw01_GroundAllows_J : Jn := (.seq (.whole []) (.seq (.whole []) (.seq (.whole []) (.seq (.whole []) (.seq (.whole []) (.seq (.cut g9_taliklaw01_GroundAllows_k1_L) (.seq (.seq (.whole []) (.cond (.seq (.cut g9_taliklaw01_GroundAllows_k2_L) (.whole [])) (.whole []))) (.seq (.whole []) (.seq (.seq (.cut g9_taliklaw01_GroundAllows_k3_L) (.whole [])) (.seq (.cut g9_taliklaw01_GroundAllows_k4_L) (.whole [])))))))))))
theorem g9_taliklaw01_GroundAllows_JV : JV 0 Tryd.prog false g9_taliklaw01_GroundAllows_J (bodyOf Tryd.f9) := (jv_seq (by kernel_rfl) jv_nil (jv_seq (by kernel_rfl) jv_nil (jv_seq (by kernel_rfl) jv_nil (jv_seq (by kernel_rfl) jv_nil (jv_seq (by kernel_rfl) jv_nil (jv_seq (by kernel_rfl) (jv_cut g9_taliklaw01_GroundAllows_k1_V) (jv_seq (by kernel_rfl) (jv_seq (by kernel_rfl) jv_nil (jv_con (by kernel_rfl) (jv_seq (by kernel_rfl) (jv_cut g9_taliklaw01_GroundAllows_k2_V) jv_nil) jv_nil)) (jv_seq (by kernel_rfl) jv_nil (jv_seq (by kernel_rfl) (jv_seq (by kernel_rfl) (jv_cut g9_taliklaw01_GroundAllows_k3_V) jv_nil) (jv_seq (by kernel_rfl) (jv_cut g9_taliklaw01_GroundAllows_k4_V) jv_nil))))))))))
theorem g9_taliklaw01_GroundAllows_ent : Ent Tryd.prog 9 := ⟨by decide, enters_of Tryd.func9 (by kernel_rfl) rfl⟩
theorem g9_taliklaw01_GroundAllows_hev : ∀ x, fnE (jnT Tryd.prog g9_taliklaw01_GroundAllows_C g9_taliklaw01_GroundAllows_J (bodyOf Tryd.f9)) Tryd.prog Tryd.f9 (encs [.dat T25, .dat (.list T72), .dat (.int .i64)] x) ⟨[], [], 0⟩ (frzF (.dat .bool)) = g9_taliklaw01_GroundAllows x.1 x.2.1 x.2.2.1 := by
  intro x; kernel_rfl
theorem g9_taliklaw01_GroundAllows_lcall : ∀ x r, (fun x : Els [.dat T25, .dat (.list T72), .dat (.int .i64)] => g9_taliklaw01_GroundAllows x.1 x.2.1 x.2.2.1) x = some r → LCall 0 Tryd.prog 9 (encs [.dat T25, .dat (.list T72), .dat (.int .i64)] x) ⟨[], [], 0⟩ (.d .bool r) ⟨[], [], 0⟩ := frz_lcallE (ev := (jnT Tryd.prog g9_taliklaw01_GroundAllows_C g9_taliklaw01_GroundAllows_J (bodyOf Tryd.f9))) (R := .dat .bool) Tryd.func9 rfl g9_taliklaw01_GroundAllows_ent (jnT_valid mixed g9_taliklaw01_GroundAllows_CV g9_taliklaw01_GroundAllows_JV) (by kernel_rfl) (by kernel_rfl) g9_taliklaw01_GroundAllows_hev

end Go.Proofs.YtbidmbjkjpdgdaaDoor.Abs
