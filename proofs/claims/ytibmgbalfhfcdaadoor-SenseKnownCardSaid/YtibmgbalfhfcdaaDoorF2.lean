import Derived.Test.YtibmgbalfhfcdaaDoorF1
set_option linter.unusedVariables false
set_option maxRecDepth 100000
namespace Go.Proofs.YtibmgbalfhfcdaaDoor.Abs
open Go.Shelf Go.Sort
noncomputable def G17_C : CalT := tabC [G49_v1_E, G51_v1_E, G51_E, G52_E, G54_E, G55_E]
theorem G17_CV : CV Tryd.prog G17_C := tabC_valid (l := _) ⟨G49_v1_valid, G51_v1_valid, G51_valid, G52_valid, G54_valid, G55_valid, trivial⟩
noncomputable def G17_l0_c : Code := loopAt (bodyOf Tryd.f17) 0
noncomputable def G17_l1_c : Code := loopAt G17_l0_c 0
noncomputable def G17_l2_c : Code := loopAt G17_l0_c 1
noncomputable def G17_l3_c : Code := loopAt G17_l0_c 2
noncomputable def G17_l1_S : SPat := ⟨[.any, .any, .any, .fix (.bptr 0 []), .any, .any, .fix (.bptr 2 []), .any, .fix (.bptr 5 []), .any, .dat (.int .i64), .any, .fix (.bptr 7 []), .dat (.int .i64), .fix (.bptr 8 []), .dat (.int .i64), .dat (.int .i64), .any, .any, .any, .any, .any, .any, .any, .any, .any, .any, .any, .any, .any, .any, .any, .any, .any, .any, .any, .any, .any, .any, .any, .any, .any, .any, .any, .any, .any, .any, .any, .any, .any, .any, .dat (.int .i64), .dat (.int .i64), .any, .any, .any, .any, .any, .any, .any, .dat (.arr 41 T56), .dat (.int .i64), .any, .any, .any, .any, .any, .any, .any, .any, .any, .any, .any, .any, .any, .any, .any, .any, .any, .any, .any, .any, .any, .any, .any, .any, .any, .any, .any, .any, .any, .any, .any, .any, .any, .any, .any, .any, .any, .any, .any, .any, .any, .any, .any, .any, .any, .any, .any, .any, .any, .any, .any, .any, .any, .any, .any, .any, .any, .any, .any, .any, .any, .any], [.dat T23, .dat T26, .cons (.own 0 (.int .i64)) (.cons (.own 1 (.int .i64)) (.cons (.own 2 (.int .i64)) (.nil))), .dat T23, .map T56 T94, .cons (.dat T23) (.cons (.dat (.list T72)) (.cons (.fix (.mref 4)) (.nil))), .vrow 3 (.int .i64), .cons (.own 4 (.int .i64)) (.cons (.own 5 (.int .i64)) (.cons (.vec 3 6 (.int .i64)) (.nil))), .dat T94], 6⟩
abbrev TY27 : Type := ((Int × (Int × (Int × (Int × (Int × (Int × ((List E56) × (Int × Unit)))))))) × (E23 × (E26 × (((List Int) × ((List Int) × ((List Int) × Unit))) × (E23 × ((List (E56 × E94)) × ((E23 × ((List E72) × (Unit × Unit))) × ((List Int) × (((List Int) × ((List Int) × (Nat × Unit))) × (E94 × Unit))))))))))
abbrev TY28 : Type := (Nat × ((Int × (Int × (Int × (Int × (Int × (Int × ((List E56) × (Int × Unit)))))))) × (E23 × (E26 × (((List Int) × ((List Int) × ((List Int) × Unit))) × (E23 × ((List (E56 × E94)) × ((E23 × ((List E72) × (Unit × Unit))) × ((List Int) × (((List Int) × ((List Int) × (Nat × Unit))) × (E94 × Unit)))))))))))
noncomputable def G17_l1_step (s : TY27) : Option TY28 :=
  (bif (decide (s.1.2.2.2.2.2.2.2.1 < 41)) then
  (bif (decide (0 ≤ s.1.2.2.2.2.2.2.2.1) && decide (s.1.2.2.2.2.2.2.2.1 < (41 : Int))) then
    (bif (decide ((List.getD s.1.2.2.2.2.2.2.1 (Int.toNat s.1.2.2.2.2.2.2.2.1) (0, (0, ()))).1 ≥ 0)) then
      some (0, ((s.1.1, (s.1.2.1, ((if (List.getD s.1.2.2.2.2.2.2.1 (Int.toNat s.1.2.2.2.2.2.2.2.1) (0, (0, ()))).1 < s.1.2.2.1 then (List.getD s.1.2.2.2.2.2.2.1 (Int.toNat s.1.2.2.2.2.2.2.2.1) (0, (0, ()))).1 else s.1.2.2.1), (s.1.2.2.2.1, (s.1.2.2.2.2.1, (s.1.2.2.2.2.2.1, (s.1.2.2.2.2.2.2.1, ((IntKind.wrap .i64 (s.1.2.2.2.2.2.2.2.1 + 1)), ())))))))), (s.2.1, (s.2.2.1, (s.2.2.2.1, (s.2.2.2.2.1, (s.2.2.2.2.2.1, ((s.2.2.2.2.2.2.1.1, (s.2.2.2.2.2.2.1.2.1, ((), s.2.2.2.2.2.2.1.2.2.2))), (s.2.2.2.2.2.2.2.1, (s.2.2.2.2.2.2.2.2.1, (s.2.2.2.2.2.2.2.2.2.1, ())))))))))))
      else
      some (0, ((s.1.1, (s.1.2.1, (s.1.2.2.1, (s.1.2.2.2.1, (s.1.2.2.2.2.1, (s.1.2.2.2.2.2.1, (s.1.2.2.2.2.2.2.1, ((IntKind.wrap .i64 (s.1.2.2.2.2.2.2.2.1 + 1)), ())))))))), (s.2.1, (s.2.2.1, (s.2.2.2.1, (s.2.2.2.2.1, (s.2.2.2.2.2.1, ((s.2.2.2.2.2.2.1.1, (s.2.2.2.2.2.2.1.2.1, ((), s.2.2.2.2.2.2.1.2.2.2))), (s.2.2.2.2.2.2.2.1, (s.2.2.2.2.2.2.2.2.1, (s.2.2.2.2.2.2.2.2.2.1, ()))))))))))))
    else
    none)
  else
  some (1, ((s.1.1, (s.1.2.1, (s.1.2.2.1, (s.1.2.2.2.1, (s.1.2.2.2.2.1, (s.1.2.2.2.2.2.1, (s.1.2.2.2.2.2.2.1, (s.1.2.2.2.2.2.2.2.1, ())))))))), (s.2.1, (s.2.2.1, (s.2.2.2.1, (s.2.2.2.2.1, (s.2.2.2.2.2.1, ((s.2.2.2.2.2.2.1.1, (s.2.2.2.2.2.2.1.2.1, ((), s.2.2.2.2.2.2.1.2.2.2))), (s.2.2.2.2.2.2.2.1, (s.2.2.2.2.2.2.2.2.1, (s.2.2.2.2.2.2.2.2.2.1, ()))))))))))))
noncomputable def G17_l1_fuel (s : TY27) : Nat := Int.toNat (41 - s.1.2.2.2.2.2.2.2.1) + 1
noncomputable def G17_l1_run (s : TY27) : Option TY28 := iter G17_l1_step (G17_l1_fuel s) s
noncomputable def G17_l1_L : LoopT := loopT G17_l1_S [.exit 2] G17_l1_run
noncomputable def G17_l2_S : SPat := ⟨[.any, .any, .any, .fix (.bptr 0 []), .any, .any, .fix (.bptr 2 []), .any, .fix (.bptr 5 []), .any, .dat (.int .i64), .any, .fix (.bptr 7 []), .dat (.int .i64), .any, .dat (.int .i64), .dat (.int .i64), .any, .any, .any, .any, .any, .any, .any, .any, .any, .any, .any, .any, .any, .any, .any, .any, .any, .any, .any, .any, .any, .any, .any, .any, .any, .any, .any, .any, .any, .any, .any, .any, .any, .any, .dat (.int .i64), .dat (.int .i64), .any, .any, .any, .any, .any, .any, .any, .any, .any, .any, .any, .any, .any, .any, .any, .any, .any, .any, .any, .any, .dat (.arr 41 T56), .dat (.int .i64), .any, .any, .any, .any, .any, .any, .any, .any, .any, .any, .any, .any, .any, .any, .any, .any, .any, .any, .any, .any, .any, .any, .any, .any, .any, .any, .any, .any, .any, .any, .any, .any, .any, .any, .any, .any, .any, .any, .any, .any, .any, .any, .any, .any, .any, .any, .any, .any, .any], [.dat T23, .dat T26, .cons (.own 0 (.int .i64)) (.cons (.own 1 (.int .i64)) (.cons (.own 2 (.int .i64)) (.nil))), .dat T23, .map T56 T94, .cons (.dat T23) (.cons (.dat (.list T72)) (.cons (.fix (.mref 4)) (.nil))), .vrow 3 (.int .i64), .cons (.own 4 (.int .i64)) (.cons (.own 5 (.int .i64)) (.cons (.vec 3 6 (.int .i64)) (.nil))), .dat T94], 6⟩
noncomputable def G17_l2_step (s : TY27) : Option TY28 :=
  (bif (decide (s.1.2.2.2.2.2.2.2.1 < 41)) then
  (bif (decide (0 ≤ s.1.2.2.2.2.2.2.2.1) && decide (s.1.2.2.2.2.2.2.2.1 < (41 : Int))) then
    (bif ((List.getD s.1.2.2.2.2.2.2.1 (Int.toNat s.1.2.2.2.2.2.2.2.1) (0, (0, ()))).1 == s.1.2.2.1) then
      some (1, ((s.1.1, (s.1.2.1, (s.1.2.2.1, ((IntKind.wrap .i64 (s.1.2.2.2.2.2.2.2.1 - 20)), (s.1.2.2.2.2.1, (s.1.2.2.2.2.2.1, (s.1.2.2.2.2.2.2.1, (s.1.2.2.2.2.2.2.2.1, ())))))))), (s.2.1, (s.2.2.1, (s.2.2.2.1, (s.2.2.2.2.1, (s.2.2.2.2.2.1, ((s.2.2.2.2.2.2.1.1, (s.2.2.2.2.2.2.1.2.1, ((), s.2.2.2.2.2.2.1.2.2.2))), (s.2.2.2.2.2.2.2.1, (s.2.2.2.2.2.2.2.2.1, (s.2.2.2.2.2.2.2.2.2.1, ())))))))))))
      else
      some (0, ((s.1.1, (s.1.2.1, (s.1.2.2.1, (s.1.2.2.2.1, (s.1.2.2.2.2.1, (s.1.2.2.2.2.2.1, (s.1.2.2.2.2.2.2.1, ((IntKind.wrap .i64 (s.1.2.2.2.2.2.2.2.1 + 1)), ())))))))), (s.2.1, (s.2.2.1, (s.2.2.2.1, (s.2.2.2.2.1, (s.2.2.2.2.2.1, ((s.2.2.2.2.2.2.1.1, (s.2.2.2.2.2.2.1.2.1, ((), s.2.2.2.2.2.2.1.2.2.2))), (s.2.2.2.2.2.2.2.1, (s.2.2.2.2.2.2.2.2.1, (s.2.2.2.2.2.2.2.2.2.1, ()))))))))))))
    else
    none)
  else
  some (1, ((s.1.1, (s.1.2.1, (s.1.2.2.1, (s.1.2.2.2.1, (s.1.2.2.2.2.1, (s.1.2.2.2.2.2.1, (s.1.2.2.2.2.2.2.1, (s.1.2.2.2.2.2.2.2.1, ())))))))), (s.2.1, (s.2.2.1, (s.2.2.2.1, (s.2.2.2.2.1, (s.2.2.2.2.2.1, ((s.2.2.2.2.2.2.1.1, (s.2.2.2.2.2.2.1.2.1, ((), s.2.2.2.2.2.2.1.2.2.2))), (s.2.2.2.2.2.2.2.1, (s.2.2.2.2.2.2.2.2.1, (s.2.2.2.2.2.2.2.2.2.1, ()))))))))))))
noncomputable def G17_l2_fuel (s : TY27) : Nat := Int.toNat (41 - s.1.2.2.2.2.2.2.2.1) + 1
noncomputable def G17_l2_run (s : TY27) : Option TY28 := iter G17_l2_step (G17_l2_fuel s) s
noncomputable def G17_l2_L : LoopT := loopT G17_l2_S [.exit 4] G17_l2_run
noncomputable def G17_l3_S : SPat := ⟨[.any, .any, .any, .fix (.bptr 0 []), .any, .any, .fix (.bptr 2 []), .any, .fix (.bptr 5 []), .any, .dat (.int .i64), .any, .fix (.bptr 7 []), .dat (.int .i64), .any, .dat (.int .i64), .dat (.int .i64), .any, .any, .any, .any, .any, .any, .any, .any, .any, .any, .any, .any, .any, .any, .any, .any, .any, .any, .any, .any, .any, .any, .any, .any, .any, .any, .any, .any, .any, .any, .any, .any, .any, .any, .dat (.int .i64), .dat (.int .i64), .any, .any, .any, .any, .any, .any, .any, .any, .any, .any, .any, .any, .any, .any, .any, .any, .any, .any, .any, .any, .any, .any, .any, .any, .any, .any, .any, .any, .any, .any, .any, .any, .any, .any, .any, .any, .any, .any, .any, .any, .any, .any, .any, .any, .any, .dat (.list (.int .i64)), .dat (.int .i64), .dat (.int .i64), .any, .any, .any, .any, .any, .any, .any, .any, .any, .any, .any, .any, .any, .any, .any, .any, .any, .any, .any, .any, .any, .any, .any], [.dat T23, .dat T26, .cons (.own 0 (.int .i64)) (.cons (.own 1 (.int .i64)) (.cons (.own 2 (.int .i64)) (.nil))), .dat T23, .map T56 T94, .cons (.dat T23) (.cons (.dat (.list T72)) (.cons (.fix (.mref 4)) (.nil))), .vrow 3 (.int .i64), .cons (.own 4 (.int .i64)) (.cons (.own 5 (.int .i64)) (.cons (.vec 3 6 (.int .i64)) (.nil))), .dat T94], 6⟩
abbrev TY29 : Type := ((Int × (Int × (Int × (Int × (Int × (Int × ((List Int) × (Int × (Int × Unit))))))))) × (E23 × (E26 × (((List Int) × ((List Int) × ((List Int) × Unit))) × (E23 × ((List (E56 × E94)) × ((E23 × ((List E72) × (Unit × Unit))) × ((List Int) × (((List Int) × ((List Int) × (Nat × Unit))) × (E94 × Unit))))))))))
abbrev TY30 : Type := (Nat × ((Int × (Int × (Int × (Int × (Int × (Int × ((List Int) × (Int × (Int × Unit))))))))) × (E23 × (E26 × (((List Int) × ((List Int) × ((List Int) × Unit))) × (E23 × ((List (E56 × E94)) × ((E23 × ((List E72) × (Unit × Unit))) × ((List Int) × (((List Int) × ((List Int) × (Nat × Unit))) × (E94 × Unit)))))))))))
noncomputable def G17_l3_step (s : TY29) : Option TY30 :=
  (bif (decide (s.1.2.2.2.2.2.2.2.2.1 < s.1.2.2.2.2.2.2.2.1)) then
  (bif (decide (0 ≤ s.1.2.2.2.2.2.2.2.2.1) && decide (s.1.2.2.2.2.2.2.2.2.1 < (List.length s.1.2.2.2.2.2.2.1 : Int))) then
    (bif ((List.getD s.1.2.2.2.2.2.2.1 (Int.toNat s.1.2.2.2.2.2.2.2.2.1) 0) == s.1.2.1) then
      (Option.bind (G55 (s.2.2.2.2.2.2.1.1, (s.2.2.2.2.2.2.1.2.1, ((), s.2.2.2.2.2.2.1.2.2.2))) s.1.2.2.2.2.2.2.2.2.1 s.1.1 s.1.2.2.1 s.1.2.2.2.1) fun r10 =>
        (bif (decide (0 ≤ s.1.2.2.2.2.2.2.2.2.1) && decide (s.1.2.2.2.2.2.2.2.2.1 < (s.2.2.2.2.2.2.2.2.1.2.2.1 : Int))) then
          (bif (decide ((Int.toNat s.1.2.2.2.2.2.2.2.2.1) < List.length s.2.2.2.2.2.2.2.1)) then
            some (0, ((s.1.1, (s.1.2.1, (s.1.2.2.1, (s.1.2.2.2.1, (s.1.2.2.2.2.1, (s.1.2.2.2.2.2.1, (s.1.2.2.2.2.2.2.1, (s.1.2.2.2.2.2.2.2.1, ((IntKind.wrap .i64 (s.1.2.2.2.2.2.2.2.2.1 + 1)), ()))))))))), (s.2.1, (s.2.2.1, (s.2.2.2.1, (s.2.2.2.2.1, (s.2.2.2.2.2.1, ((s.2.2.2.2.2.2.1.1, (s.2.2.2.2.2.2.1.2.1, ((), s.2.2.2.2.2.2.1.2.2.2))), ((List.set s.2.2.2.2.2.2.2.1 (Int.toNat s.1.2.2.2.2.2.2.2.2.1) r10.1), (s.2.2.2.2.2.2.2.2.1, (s.2.2.2.2.2.2.2.2.2.1, ())))))))))))
            else
            none)
          else
          none))
      else
      some (0, ((s.1.1, (s.1.2.1, (s.1.2.2.1, (s.1.2.2.2.1, (s.1.2.2.2.2.1, (s.1.2.2.2.2.2.1, (s.1.2.2.2.2.2.2.1, (s.1.2.2.2.2.2.2.2.1, ((IntKind.wrap .i64 (s.1.2.2.2.2.2.2.2.2.1 + 1)), ()))))))))), (s.2.1, (s.2.2.1, (s.2.2.2.1, (s.2.2.2.2.1, (s.2.2.2.2.2.1, ((s.2.2.2.2.2.2.1.1, (s.2.2.2.2.2.2.1.2.1, ((), s.2.2.2.2.2.2.1.2.2.2))), (s.2.2.2.2.2.2.2.1, (s.2.2.2.2.2.2.2.2.1, (s.2.2.2.2.2.2.2.2.2.1, ()))))))))))))
    else
    none)
  else
  some (1, ((s.1.1, (s.1.2.1, (s.1.2.2.1, (s.1.2.2.2.1, (s.1.2.2.2.2.1, (s.1.2.2.2.2.2.1, (s.1.2.2.2.2.2.2.1, (s.1.2.2.2.2.2.2.2.1, (s.1.2.2.2.2.2.2.2.2.1, ()))))))))), (s.2.1, (s.2.2.1, (s.2.2.2.1, (s.2.2.2.2.1, (s.2.2.2.2.2.1, ((s.2.2.2.2.2.2.1.1, (s.2.2.2.2.2.2.1.2.1, ((), s.2.2.2.2.2.2.1.2.2.2))), (s.2.2.2.2.2.2.2.1, (s.2.2.2.2.2.2.2.2.1, (s.2.2.2.2.2.2.2.2.2.1, ()))))))))))))
noncomputable def G17_l3_fuel (s : TY29) : Nat := Int.toNat (s.1.2.2.2.2.2.2.2.1 - s.1.2.2.2.2.2.2.2.2.1) + 1
noncomputable def G17_l3_run (s : TY29) : Option TY30 := iter G17_l3_step (G17_l3_fuel s) s
noncomputable def G17_l3_L : LoopT := loopT G17_l3_S [.exit 6] G17_l3_run
noncomputable def G17_l0_S : SPat := ⟨[.any, .any, .any, .fix (.bptr 0 []), .any, .any, .fix (.bptr 2 []), .any, .fix (.bptr 5 []), .any, .dat (.int .i64), .any, .fix (.bptr 7 []), .any, .any, .any, .any, .any, .any, .any, .any, .any, .any, .any, .any, .any, .any, .any, .any, .any, .any, .any, .any, .any, .any, .any, .any, .any, .any, .any, .any, .any, .any, .any, .any, .any, .any, .any, .any, .any, .any, .dat (.int .i64), .dat (.int .i64), .any, .any, .any, .any, .any, .any, .any, .any, .any, .any, .any, .any, .any, .any, .any, .any, .any, .any, .any, .any, .any, .any, .any, .any, .any, .any, .any, .any, .any, .any, .any, .any, .any, .any, .any, .any, .any, .any, .any, .any, .any, .any, .any, .any, .any, .any, .any, .any, .any, .any, .any, .any, .any, .any, .any, .any, .any, .any, .any, .any, .any, .any, .any, .any, .any, .any, .any, .any, .any, .any, .any], [.dat T23, .dat T26, .cons (.own 0 (.int .i64)) (.cons (.own 1 (.int .i64)) (.cons (.own 2 (.int .i64)) (.nil))), .dat T23, .map T56 T94, .cons (.dat T23) (.cons (.dat (.list T72)) (.cons (.fix (.mref 4)) (.nil))), .vrow 3 (.int .i64), .cons (.own 4 (.int .i64)) (.cons (.own 5 (.int .i64)) (.cons (.vec 3 6 (.int .i64)) (.nil)))], 6⟩
abbrev TY31 : Type := ((Int × (Int × (Int × Unit))) × (E23 × (E26 × (((List Int) × ((List Int) × ((List Int) × Unit))) × (E23 × ((List (E56 × E94)) × ((E23 × ((List E72) × (Unit × Unit))) × ((List Int) × (((List Int) × ((List Int) × (Nat × Unit))) × Unit)))))))))
abbrev TY32 : Type := (Nat × ((Int × (Int × (Int × Unit))) × (E23 × (E26 × (((List Int) × ((List Int) × ((List Int) × Unit))) × (E23 × ((List (E56 × E94)) × ((E23 × ((List E72) × (Unit × Unit))) × ((List Int) × (((List Int) × ((List Int) × (Nat × Unit))) × Unit))))))))))
noncomputable def G17_l0_step (s : TY31) : Option TY32 :=
  (bif (decide (s.1.2.2.1 < s.1.2.1)) then
  (Option.bind (G54 s.1.2.2.1 s.1.1 (s.2.2.2.2.2.2.1.1, (s.2.2.2.2.2.2.1.2.1, ((), s.2.2.2.2.2.2.1.2.2.2))) s.2.2.2.2.2.1) fun r7 =>
    (Option.bind (G17_l1_run ((s.1.1, (s.1.2.2.1, (3200, (0, (s.1.2.1, (s.1.2.2.1, (r7.1.1, (0, ())))))))), (s.2.1, (s.2.2.1, (s.2.2.2.1, (s.2.2.2.2.1, (r7.2.2.1, ((r7.2.1.1, (r7.2.1.2.1, ((), r7.2.1.2.2.2))), (s.2.2.2.2.2.2.2.1, (s.2.2.2.2.2.2.2.2.1, (r7.1, ()))))))))))) fun q8 =>
      (Option.bind (G17_l2_run ((q8.2.1.1, (q8.2.1.2.1, (q8.2.1.2.2.1, (q8.2.1.2.2.2.1, (q8.2.1.2.2.2.2.1, (q8.2.1.2.2.2.2.2.1, (q8.2.2.2.2.2.2.2.2.2.2.1.1, (0, ())))))))), (q8.2.2.1, (q8.2.2.2.1, (q8.2.2.2.2.1, (q8.2.2.2.2.2.1, (q8.2.2.2.2.2.2.1, ((q8.2.2.2.2.2.2.2.1.1, (q8.2.2.2.2.2.2.2.1.2.1, ((), q8.2.2.2.2.2.2.2.1.2.2.2))), (q8.2.2.2.2.2.2.2.2.1, (q8.2.2.2.2.2.2.2.2.2.1, (q8.2.2.2.2.2.2.2.2.2.2.1, ()))))))))))) fun q9 =>
        (bif (decide (List.length q9.2.2.2.2.2.2.2.2.2.1.1 + List.length [q9.2.1.2.2.1] ≤ LIM)) then
          (bif (decide (List.length q9.2.2.2.2.2.2.2.2.2.1.2.1 + List.length [q9.2.1.2.2.2.1] ≤ LIM)) then
            (Option.bind (G17_l3_run ((q9.2.1.1, (q9.2.1.2.1, (q9.2.1.2.2.1, (q9.2.1.2.2.2.1, (q9.2.1.2.2.2.2.1, (q9.2.1.2.2.2.2.2.1, (q9.2.2.1.2.2.2.2.1, ((List.length q9.2.2.1.2.2.2.2.1 : Int), (0, ()))))))))), (q9.2.2.1, (q9.2.2.2.1, (q9.2.2.2.2.1, (q9.2.2.2.2.2.1, (q9.2.2.2.2.2.2.1, ((q9.2.2.2.2.2.2.2.1.1, (q9.2.2.2.2.2.2.2.1.2.1, ((), q9.2.2.2.2.2.2.2.1.2.2.2))), (q9.2.2.2.2.2.2.2.2.1, (((q9.2.2.2.2.2.2.2.2.2.1.1 ++ [q9.2.1.2.2.1]), ((q9.2.2.2.2.2.2.2.2.2.1.2.1 ++ [q9.2.1.2.2.2.1]), q9.2.2.2.2.2.2.2.2.2.1.2.2)), (q9.2.2.2.2.2.2.2.2.2.2.1, ()))))))))))) fun q11 =>
              some (0, ((q11.2.1.1, (q11.2.1.2.2.2.2.1, ((IntKind.wrap .i64 (q11.2.1.2.2.2.2.2.1 + 1)), ()))), (q11.2.2.1, (q11.2.2.2.1, (q11.2.2.2.2.1, (q11.2.2.2.2.2.1, (q11.2.2.2.2.2.2.1, ((q11.2.2.2.2.2.2.2.1.1, (q11.2.2.2.2.2.2.2.1.2.1, ((), q11.2.2.2.2.2.2.2.1.2.2.2))), (q11.2.2.2.2.2.2.2.2.1, (q11.2.2.2.2.2.2.2.2.2.1, ())))))))))))
            else
            none)
          else
          none))))
  else
  some (1, ((s.1.1, (s.1.2.1, (s.1.2.2.1, ()))), (s.2.1, (s.2.2.1, (s.2.2.2.1, (s.2.2.2.2.1, (s.2.2.2.2.2.1, ((s.2.2.2.2.2.2.1.1, (s.2.2.2.2.2.2.1.2.1, ((), s.2.2.2.2.2.2.1.2.2.2))), (s.2.2.2.2.2.2.2.1, (s.2.2.2.2.2.2.2.2.1, ())))))))))))
noncomputable def G17_l0_fuel (s : TY31) : Nat := Int.toNat (s.1.2.1 - s.1.2.2.1) + 1
noncomputable def G17_l0_run (s : TY31) : Option TY32 := iter G17_l0_step (G17_l0_fuel s) s
noncomputable def G17_l0_L : LoopT := loopT G17_l0_S [.exit 0] G17_l0_run
noncomputable def G17 (a0 : E23) (a1 : (List E72)) (a2 : E26) : Option (E30 × (Int × Unit)) :=
  (Option.bind (G49_v1 a0 a1 a2) fun r1 =>
  (altK r1
    (fun r2 => (bif (r2.1.2.1 != 0) then
      some (([], ([], ([], ()))), (r2.1.2.1, ()))
      else
      (Option.bind (G51_v1 r2.2.1) fun r4 =>
        none)))
    (fun r3 => (bif (r3.1.2.1 != 0) then
      some (([], ([], ([], ()))), (r3.1.2.1, ()))
      else
      (Option.bind (G51 (r3.2.2.2.2.1.1, (r3.2.2.2.2.1.2.1, ((), r3.2.2.2.2.1.2.2.2))) r3.2.1) fun r5 =>
        (Option.bind (G52 r5.1 (r3.2.2.2.2.1.1, (r3.2.2.2.2.1.2.1, ((), r3.2.2.2.2.1.2.2.2))) r3.2.2.2.1) fun r6 =>
          (bif (!r6.1) then
            some (([], ([], ([], ()))), (5, ()))
            else
            (bif (decide ((0 : Int) ≤ (List.length a0.2.2.2.2.1 : Int)) && decide ((List.length a0.2.2.2.2.1 : Int) ≤ (LIM : Int)) && decide ((List.length a0.2.2.2.2.1 : Int) = (List.length a0.2.2.2.2.1 : Int))) then
              (Option.bind (G17_l0_run ((r5.1, (a0.2.2.2.1, (0, ()))), (a0, (r3.2.1, (([], ([], ([], ()))), (r3.2.2.1, (r6.2.2.1, ((r6.2.1.1, (r6.2.1.2.1, ((), r6.2.1.2.2.2))), ((List.replicate (Int.toNat (List.length a0.2.2.2.2.1 : Int)) 0), (([], ([], ((Int.toNat (List.length a0.2.2.2.2.1 : Int)), ()))), ())))))))))) fun q12 =>
                (bif (((decide (q12.2.2.2.2.2.2.2.2.2.1.2.2.1 ≤ List.length q12.2.2.2.2.2.2.2.2.1)) && true) && true) then
                  some ((q12.2.2.2.2.2.2.2.2.2.1.1, (q12.2.2.2.2.2.2.2.2.2.1.2.1, ((List.take q12.2.2.2.2.2.2.2.2.2.1.2.2.1 q12.2.2.2.2.2.2.2.2.1), q12.2.2.2.2.2.2.2.2.2.1.2.2.2))), (0, ()))
                  else
                  none))
              else
              none))))))))
noncomputable def G17_E : CEnt := pureE 17 [.dat T23, .dat (.list T72), .dat T26] (.tup (.cons (.dat T30) (.cons (.dat (.int .i64)) (.nil)))) fun x => G17 x.1 x.2.1 x.2.2.1
theorem G17_l1_V : LValid 0 Tryd.prog (.loop G17_l1_c) G17_l1_L false := by
  exact loopT_valid (fuel := G17_l1_fuel) mixed G17_CV (lvNil _) (by kernel_rfl) (by decide) rfl (by intro s; kernel_rfl) (fun s r h => h)
theorem G17_l2_V : LValid 0 Tryd.prog (.loop G17_l2_c) G17_l2_L false := by
  exact loopT_valid (fuel := G17_l2_fuel) mixed G17_CV (lvNil _) (by kernel_rfl) (by decide) rfl (by intro s; kernel_rfl) (fun s r h => h)
theorem G17_l3_V : LValid 0 Tryd.prog (.loop G17_l3_c) G17_l3_L false := by
  exact loopT_valid (fuel := G17_l3_fuel) mixed G17_CV (lvNil _) (by kernel_rfl) (by decide) rfl (by intro s; kernel_rfl) (fun s r h => h)
theorem G17_l0_V : LValid 0 Tryd.prog (.loop G17_l0_c) G17_l0_L false := by
  have hb : ∀ s, codeR Tryd.prog G17_C G17_l0_c [G17_l1_L, G17_l2_L, G17_l3_L] (G17_l0_S.encE s) (G17_l0_S.encB s) (kst G17_l0_S [.exit 0]) = G17_l0_step s := by
    intro s; kernel_rfl
  have hl : loopsOf G17_l0_c = [.loop G17_l1_c, .loop G17_l2_c, .loop G17_l3_c] := by kernel_rfl
  have hL : LV 0 Tryd.prog false (loopsOf G17_l0_c) [G17_l1_L, G17_l2_L, G17_l3_L] := by rw [hl]; exact ⟨G17_l1_V, G17_l2_V, G17_l3_V, trivial⟩
  exact loopT_valid (fuel := G17_l0_fuel) mixed G17_CV hL (by kernel_rfl) (by decide) rfl hb (fun s r h => h)
theorem G17_LV : LV 0 Tryd.prog false (loopsOf (bodyOf Tryd.f17)) [G17_l0_L] := by
  have hl : loopsOf (bodyOf Tryd.f17) = [.loop G17_l0_c] := by kernel_rfl
  rw [hl]; exact ⟨G17_l0_V, trivial⟩
theorem G17_ent : Ent Tryd.prog 17 := ⟨by decide, enters_of Tryd.func17 (by kernel_rfl) rfl⟩
theorem G17_hev : ∀ x, fnR Tryd.prog G17_C [G17_l0_L] Tryd.f17 (bodyOf Tryd.f17) (encs [.dat T23, .dat (.list T72), .dat T26] x) ⟨[], [], 0⟩ (frzV (.tup (.cons (.dat T30) (.cons (.dat (.int .i64)) (.nil))))) = G17 x.1 x.2.1 x.2.2.1 := by
  intro x; kernel_rfl
theorem G17_valid : G17_E.Valid Tryd.prog :=
  pureE_valid (by kernel_rfl) (by kernel_rfl) G17_ent (frzV_lcall mixed Tryd.func17 rfl G17_ent G17_CV G17_LV (by kernel_rfl) (by kernel_rfl) G17_hev)
noncomputable def G62_C : CalT := tabC []
theorem G62_CV : CV Tryd.prog G62_C := tabC_valid (l := _) trivial
noncomputable def G62 (b0 : (E23 × ((List E72) × (Unit × Unit)))) (b1 : (List (E56 × E94))) : Option (Bool × ((E23 × ((List E72) × (Unit × Unit))) × ((List (E56 × E94)) × Unit))) :=
  some (true, ((b0.1, (b0.2.1, ((), b0.2.2.2))), (b1, ())))
abbrev G62_CS : CSpec := ⟨[.fix (.bptr 0 [])], [.cons (.dat T23) (.cons (.dat (.list T72)) (.cons (.fix (.mref 1)) (.nil))), .map T56 T94], 0, [.cons (.dat T23) (.cons (.dat (.list T72)) (.cons (.fix (.mref 1)) (.nil))), .map T56 T94], 0, .dat .bool⟩
noncomputable def G62_E : CEnt := boxE 62 G62_CS fun x => G62 x.2.1 x.2.2.1
theorem G62_LV : LV 2 Tryd.prog false (loopsOf (bodyOf Tryd.f62)) [] := by unfold LV; cases loopsOf (bodyOf Tryd.f62) <;> trivial
theorem G62_ent : Ent Tryd.prog 62 := ⟨by decide, enters_of Tryd.func62 (by kernel_rfl) rfl⟩
theorem G62_hev : ∀ x : G62_CS.In, fnR Tryd.prog G62_C [] Tryd.f62 (bodyOf Tryd.f62) (encs G62_CS.A x.1) ⟨encs G62_CS.I x.2, [], G62_CS.nt⟩ (finK G62_CS) = G62 x.2.1 x.2.2.1 := by
  intro x; kernel_rfl
theorem G62_valid : G62_E.Valid Tryd.prog :=
  boxE_valid (S := G62_CS) (by kernel_rfl) (.inr G62_ent) (fn_lcall (S := G62_CS) mixed Tryd.func62 rfl G62_ent G62_CV G62_LV (by kernel_rfl) (by kernel_rfl) G62_hev)
noncomputable def G49_v2_C : CalT := tabC [G83_E, G81_E, G62_E]
theorem G49_v2_CV : CV Tryd.prog G49_v2_C := tabC_valid (l := _) ⟨G83_valid, G81_valid, G62_valid, trivial⟩
abbrev TY33 : Type := (E23 × ((List (E56 × E94)) × ((E23 × ((List E72) × (Unit × Unit))) × Unit)))
noncomputable def G49_v2 (a0 : E23) (a1 : (List E72)) : Option (((Unit × (Int × Unit)) × Unit) ⊕ ((Unit × (Int × Unit)) × TY33)) :=
  (bif (decide ((List.length a1 : Int) > 24)) then
  some (Sum.inl (((), (3, ())), ()))
  else
  (Option.bind (G83 a0) fun r1 =>
    (bif (!r1) then
      some (Sum.inl (((), (2, ())), ()))
      else
      (Option.bind (G81 a1 a0) fun r2 =>
        (bif r2.1 then
          some (Sum.inl (((), (2, ())), ()))
          else
          (Option.bind (G62 (a0, (a1, ((), ()))) ([] : List (E56 × E94))) fun r3 =>
            (bif (!r3.1) then
              some (Sum.inl (((), (2, ())), ()))
              else
              some (Sum.inr (((), (0, ())), (r2.2.1, (r3.2.2.1, ((r3.2.1.1, (r3.2.1.2.1, ((), r3.2.1.2.2.2))), ()))))))))))))
abbrev G49_v2_CS : CSpec := ⟨[.dat T23, .dat (.list T72), .fix (.func (.func 62) .nil .nil)], [], 0, [], 0, .tup (.cons (.fix .pnil) (.cons (.dat (.int .i64)) (.nil)))⟩
abbrev G49_v2_O2 : List PTy := [.dat T23, .map T56 T94, .cons (.dat T23) (.cons (.dat (.list T72)) (.cons (.fix (.mref 1)) (.nil)))]
abbrev G49_v2_R2 : PTy := .tup (.cons (.fix (.bptr 2 [])) (.cons (.dat (.int .i64)) (.nil)))
noncomputable def G49_v2_E : CEnt := altE 49 G49_v2_CS G49_v2_O2 0 G49_v2_R2 fun x => G49_v2 x.1.1 x.1.2.1
theorem G49_v2_LV : LV 0 Tryd.prog false (loopsOf (bodyOf Tryd.f49)) [] := by unfold LV; cases loopsOf (bodyOf Tryd.f49) <;> trivial
theorem G49_v2_ent : Ent Tryd.prog 49 := ⟨by decide, enters_of Tryd.func49 (by kernel_rfl) rfl⟩
theorem G49_v2_hev : ∀ x : G49_v2_CS.In, fnR Tryd.prog G49_v2_C [] Tryd.f49 (bodyOf Tryd.f49) (encs G49_v2_CS.A x.1) ⟨encs G49_v2_CS.I x.2, [], G49_v2_CS.nt⟩ (finK2 G49_v2_CS G49_v2_O2 0 G49_v2_R2) = G49_v2 x.1.1 x.1.2.1 := by
  intro x; kernel_rfl
theorem G49_v2_valid : G49_v2_E.Valid Tryd.prog :=
  altE_valid (S := G49_v2_CS) (by kernel_rfl) (by kernel_rfl) (.inr G49_v2_ent) (alt_lcall (S := G49_v2_CS) mixed Tryd.func49 rfl G49_v2_ent G49_v2_CV G49_v2_LV (by kernel_rfl) (by kernel_rfl) (by kernel_rfl) (by kernel_rfl) G49_v2_hev)
noncomputable def G64_C : CalT := tabC []
theorem G64_CV : CV Tryd.prog G64_C := tabC_valid (l := _) trivial
noncomputable def G64 (a0 : E123) : Option Int :=
  some (IntKind.wrap .i64 ((List.length a0.1.2.2.2.2.1 : Int) + a0.1.2.2.2.1))
noncomputable def G64_E : CEnt := viewE 64 [.ip T123] (.dat (.int .i64)) fun x => G64 x.1
theorem G64_LV : LV 0 Tryd.prog false (loopsOf (bodyOf Tryd.f64)) [] := by unfold LV; cases loopsOf (bodyOf Tryd.f64) <;> trivial
theorem G64_ent : Ent Tryd.prog 64 := ⟨by decide, enters_of Tryd.func64 (by kernel_rfl) rfl⟩
theorem G64_hev : ∀ x, fnR Tryd.prog G64_C [] Tryd.f64 (bodyOf Tryd.f64) (encs [.ip T123] x) ⟨[], [], 0⟩ (frzF (.dat (.int .i64))) = G64 x.1 := by
  intro x; kernel_rfl
theorem G64_valid : G64_E.Valid Tryd.prog :=
  viewE_valid (by kernel_rfl) (by kernel_rfl) G64_ent (frz_lcall mixed Tryd.func64 rfl G64_ent G64_CV G64_LV (by kernel_rfl) (by kernel_rfl) G64_hev)
noncomputable def G63_C : CalT := tabC []
theorem G63_CV : CV Tryd.prog G63_C := tabC_valid (l := _) trivial
abbrev TY34 : Type := (Unit × ((E23 × ((List E72) × (Unit × Unit))) × ((List (E56 × E94)) × (Int × Unit))))
noncomputable def G63 (a0 : Int) (b1 : (E23 × ((List E72) × (Unit × Unit)))) (b2 : (List (E56 × E94))) : Option TY34 :=
  some ((), ((b1.1, (b1.2.1, ((), b1.2.2.2))), (b2, (a0, ()))))
abbrev G63_CS : CSpec := ⟨[.fix (.bptr 0 []), .dat (.int .i64)], [.cons (.dat T23) (.cons (.dat (.list T72)) (.cons (.fix (.mref 1)) (.nil))), .map T56 T94], 0, [.cons (.dat T23) (.cons (.dat (.list T72)) (.cons (.fix (.mref 1)) (.nil))), .map T56 T94, .fix (.bptr 0 []), .dat (.int .i64)], 0, .fix (.func (.func 93) .nil (.cons (.bptr 2 []) (.cons (.bptr 3 []) .nil)))⟩
noncomputable def G63_E : CEnt := boxE 63 G63_CS fun x => G63 x.1.1 x.2.1 x.2.2.1
theorem G63_LV : LV 2 Tryd.prog false (loopsOf (bodyOf Tryd.f63)) [] := by unfold LV; cases loopsOf (bodyOf Tryd.f63) <;> trivial
theorem G63_ent : Ent Tryd.prog 63 := ⟨by decide, enters_of Tryd.func63 (by kernel_rfl) rfl⟩
theorem G63_hev : ∀ x : G63_CS.In, fnR Tryd.prog G63_C [] Tryd.f63 (bodyOf Tryd.f63) (encs G63_CS.A x.1) ⟨encs G63_CS.I x.2, [], G63_CS.nt⟩ (finK G63_CS) = G63 x.1.1 x.2.1 x.2.2.1 := by
  intro x; kernel_rfl
theorem G63_valid : G63_E.Valid Tryd.prog :=
  boxE_valid (S := G63_CS) (by kernel_rfl) (.inr G63_ent) (fn_lcall (S := G63_CS) mixed Tryd.func63 rfl G63_ent G63_CV G63_LV (by kernel_rfl) (by kernel_rfl) G63_hev)
noncomputable def G65_C : CalT := tabC []
theorem G65_CV : CV Tryd.prog G65_C := tabC_valid (l := _) trivial
noncomputable def G65_l0_c : Code := loopAt (bodyOf Tryd.f65) 0
noncomputable def G65_l0_S : SPat := ⟨[.dat (.int .i64), .any, .any, .dat (.int .i64), .any, .any, .any, .any, .any, .any, .any, .any, .any], [], 0⟩
noncomputable def G65_l0_step (s : ((Int × (Int × Unit)) × Unit)) : Option (Nat × ((Int × (Int × Unit)) × Unit)) :=
  (bif (decide (s.1.1 > 0)) then
  some (0, (((IntKind.wrap .i64 (Int.tdiv s.1.1 2)), ((IntKind.wrap .i64 (s.1.2.1 + (Int.tmod s.1.1 2))), ())), ()))
  else
  some (1, ((s.1.1, (s.1.2.1, ())), ())))
noncomputable def G65_l0_fuel (s : ((Int × (Int × Unit)) × Unit)) : Nat := 100000
noncomputable def G65_l0_run (s : ((Int × (Int × Unit)) × Unit)) : Option (Nat × ((Int × (Int × Unit)) × Unit)) := iter G65_l0_step (G65_l0_fuel s) s
noncomputable def G65_l0_L : LoopT := loopT G65_l0_S [.exit 0] G65_l0_run
noncomputable def G65 (a0 : Int) : Option Int :=
  (Option.bind (G65_l0_run ((a0, (0, ())), ())) fun q1 =>
  some q1.2.1.2.1)
noncomputable def G65_E : CEnt := pureE 65 [.dat (.int .i64)] (.dat (.int .i64)) fun x => G65 x.1
theorem G65_l0_V : LValid 0 Tryd.prog (.loop G65_l0_c) G65_l0_L false := by
  exact loopT_valid (fuel := G65_l0_fuel) mixed G65_CV (lvNil _) (by kernel_rfl) (by decide) rfl (by intro s; kernel_rfl) (fun s r h => h)
theorem G65_LV : LV 0 Tryd.prog false (loopsOf (bodyOf Tryd.f65)) [G65_l0_L] := by
  have hl : loopsOf (bodyOf Tryd.f65) = [.loop G65_l0_c] := by kernel_rfl
  rw [hl]; exact ⟨G65_l0_V, trivial⟩
theorem G65_ent : Ent Tryd.prog 65 := ⟨by decide, enters_of Tryd.func65 (by kernel_rfl) rfl⟩
theorem G65_hev : ∀ x, fnR Tryd.prog G65_C [G65_l0_L] Tryd.f65 (bodyOf Tryd.f65) (encs [.dat (.int .i64)] x) ⟨[], [], 0⟩ (frzF (.dat (.int .i64))) = G65 x.1 := by
  intro x; kernel_rfl
theorem G65_valid : G65_E.Valid Tryd.prog :=
  pureE_valid (by kernel_rfl) (by kernel_rfl) G65_ent (frz_lcall mixed Tryd.func65 rfl G65_ent G65_CV G65_LV (by kernel_rfl) (by kernel_rfl) G65_hev)
noncomputable def G66_C : CalT := tabC [G64_E]
theorem G66_CV : CV Tryd.prog G66_C := tabC_valid (l := _) ⟨G64_valid, trivial⟩
noncomputable def G66_l0_c : Code := loopAt (bodyOf Tryd.f66) 0
noncomputable def G66_l0_S : SPat := ⟨[.ip T123, .dat (.int .i64), .any, .any, .fix (.bptr 0 []), .fix (.bptr 1 []), .any, .any, .dat (.int .i64), .dat (.int .i64), .any, .any, .any, .any, .any, .any, .any, .any, .any, .any, .any, .any, .any, .any, .any, .any, .any, .any, .any, .any, .any, .any, .any, .any, .any, .any, .any, .any, .any, .any, .any, .any, .any, .any, .any, .any, .any, .any], [.cons (.own 0 (.int .i64)) (.cons (.own 1 (.int .i64)) (.nil)), .cons (.own 2 (.int .i64)) (.cons (.own 3 (.int .i64)) (.nil))], 4⟩
abbrev TY35 : Type := (((List Int) × ((List Int) × Unit)) × (((List Int) × ((List Int) × Unit)) × Unit))
abbrev TY36 : Type := (Nat × ((E123 × (Int × (Int × (Int × Unit)))) × (((List Int) × ((List Int) × Unit)) × (((List Int) × ((List Int) × Unit)) × Unit))))
noncomputable def G66_l0_step (s : ((E123 × (Int × (Int × (Int × Unit)))) × TY35)) : Option TY36 :=
  (bif (decide (s.1.2.2.2.1 < s.1.2.2.1)) then
  (bif (!decide (s.1.2.2.2.1 < 0)) then
    (bif ((IntKind.wrap .i64 ((BitVec.toNat ((BitVec.ofInt (IntKind.bits .i64) (Int.fdiv s.1.2.1 (2 ^ (min (Int.toNat s.1.2.2.2.1) (IntKind.bits .i64))))) &&& (BitVec.ofInt (IntKind.bits .i64) 1)) : Nat) : Int)) == 0) then
      some (0, ((s.1.1, (s.1.2.1, (s.1.2.2.1, ((IntKind.wrap .i64 (s.1.2.2.2.1 + 1)), ())))), (s.2.1, (s.2.2.1, ()))))
      else
      (bif (decide (s.1.2.2.2.1 < (List.length s.1.1.1.2.2.2.2.1 : Int))) then
        (bif (decide (List.length s.2.2.1.1 + List.length [s.1.2.2.2.1] ≤ LIM)) then
          some (0, ((s.1.1, (s.1.2.1, (s.1.2.2.1, ((IntKind.wrap .i64 (s.1.2.2.2.1 + 1)), ())))), (s.2.1, (((s.2.2.1.1 ++ [s.1.2.2.2.1]), s.2.2.1.2), ()))))
          else
          none)
        else
        (bif (decide (List.length s.2.2.1.2.1 + List.length [(IntKind.wrap .i64 (s.1.2.2.2.1 - (List.length s.1.1.1.2.2.2.2.1 : Int)))] ≤ LIM)) then
          some (0, ((s.1.1, (s.1.2.1, (s.1.2.2.1, ((IntKind.wrap .i64 (s.1.2.2.2.1 + 1)), ())))), (s.2.1, ((s.2.2.1.1, ((s.2.2.1.2.1 ++ [(IntKind.wrap .i64 (s.1.2.2.2.1 - (List.length s.1.1.1.2.2.2.2.1 : Int)))]), s.2.2.1.2.2)), ()))))
          else
          none)))
    else
    none)
  else
  some (1, ((s.1.1, (s.1.2.1, (s.1.2.2.1, (s.1.2.2.2.1, ())))), (s.2.1, (s.2.2.1, ())))))
noncomputable def G66_l0_fuel (s : ((E123 × (Int × (Int × (Int × Unit)))) × TY35)) : Nat := Int.toNat (s.1.2.2.1 - s.1.2.2.2.1) + 1
noncomputable def G66_l0_run (s : ((E123 × (Int × (Int × (Int × Unit)))) × TY35)) : Option TY36 := iter G66_l0_step (G66_l0_fuel s) s
noncomputable def G66_l0_L : LoopT := loopT G66_l0_S [.exit 0] G66_l0_run
noncomputable def G66 (a0 : E123) (a1 : Int) : Option E26 :=
  (Option.bind (G64 a0) fun r1 =>
  (Option.bind (G66_l0_run ((a0, (a1, (r1, (0, ())))), (([], ([], ())), (([], ([], ())), ())))) fun q2 =>
    some q2.2.2.2.1))
noncomputable def G66_E : CEnt := view2E 66 [.ip T123, .dat (.int .i64)] (.cons (.own 0 (.int .i64)) (.cons (.own 1 (.int .i64)) (.nil))) fun x => G66 x.1 x.2.1
theorem G66_l0_V : LValid 0 Tryd.prog (.loop G66_l0_c) G66_l0_L false := by
  exact loopT_valid (fuel := G66_l0_fuel) mixed G66_CV (lvNil _) (by kernel_rfl) (by decide) rfl (by intro s; kernel_rfl) (fun s r h => h)
theorem G66_LV : LV 0 Tryd.prog false (loopsOf (bodyOf Tryd.f66)) [G66_l0_L] := by
  have hl : loopsOf (bodyOf Tryd.f66) = [.loop G66_l0_c] := by kernel_rfl
  rw [hl]; exact ⟨G66_l0_V, trivial⟩
theorem G66_ent : Ent Tryd.prog 66 := ⟨by decide, enters_of Tryd.func66 (by kernel_rfl) rfl⟩
theorem G66_hev : ∀ x, fnR Tryd.prog G66_C [G66_l0_L] Tryd.f66 (bodyOf Tryd.f66) (encs [.ip T123, .dat (.int .i64)] x) ⟨[], [], 0⟩ (finO [.ip T123, .dat (.int .i64)] 2 (.cons (.own 0 (.int .i64)) (.cons (.own 1 (.int .i64)) (.nil)))) = G66 x.1 x.2.1 := by
  intro x; kernel_rfl
theorem G66_valid : G66_E.Valid Tryd.prog :=
  view2E_valid (nt := 2) (by kernel_rfl) (by kernel_rfl) G66_ent (own_lcall mixed Tryd.func66 rfl G66_ent G66_CV G66_LV (by kernel_rfl) G66_hev)
noncomputable def G25_C : CalT := tabC [G65_E, G66_E]
theorem G25_CV : CV Tryd.prog G25_C := tabC_valid (l := _) ⟨G65_valid, G66_valid, trivial⟩
abbrev UT45 : Type := (Unit × (Unit × (Unit × (Unit × (Unit × (Unit × (Unit × (Unit × (Unit × (Unit × (Unit × (Unit × (Unit × (Unit × (Unit × (Unit × (Unit × (Unit × (Unit × (Unit × (Unit × (Unit × (Unit × (Unit × (Unit × (Unit × (Unit × (Unit × (Unit × (Unit × (Unit × (Unit × (Unit × (Unit × (Unit × (Unit × (Unit × (Unit × (Unit × (Unit × (Unit × (Unit × (Unit × (Unit × (Unit × Unit)))))))))))))))))))))))))))))))))))))))))))))
abbrev UC45 : (Unit × (Unit × (Unit × (Unit × (Unit × (Unit × (Unit × (Unit × (Unit × (Unit × (Unit × (Unit × (Unit × (Unit × (Unit × (Unit × (Unit × (Unit × (Unit × (Unit × (Unit × (Unit × (Unit × (Unit × (Unit × (Unit × (Unit × (Unit × (Unit × (Unit × (Unit × (Unit × (Unit × (Unit × (Unit × (Unit × (Unit × (Unit × (Unit × (Unit × (Unit × (Unit × (Unit × (Unit × (Unit × Unit))))))))))))))))))))))))))))))))))))))))))))) := ((), ((), ((), ((), ((), ((), ((), ((), ((), ((), ((), ((), ((), ((), ((), ((), ((), ((), ((), ((), ((), ((), ((), ((), ((), ((), ((), ((), ((), ((), ((), ((), ((), ((), ((), ((), ((), ((), ((), ((), ((), ((), ((), ((), ((), ())))))))))))))))))))))))))))))))))))))))))))))
abbrev TY37 : Type := ((Nat × UT45) × ((List E26) × (Int × ((E23 × ((List E72) × (Unit × Unit))) × ((List (E56 × E94)) × Unit)))))
noncomputable def G25 (a0 : Int) (b1 : (Nat × UT45)) (b2 : (List E26)) (b3 : Int) (b4 : (E23 × ((List E72) × (Unit × Unit)))) (b5 : (List (E56 × E94))) : Option (Bool × TY37) :=
  (natK b1.1
  ((bif (decide (b3 ≥ 0)) then
    (Option.bind (G65 a0) fun r1 =>
      (bif (decide (r1 > b3)) then
        some (false, ((4, UC45), (b2, (b3, ((b4.1, (b4.2.1, ((), b4.2.2.2))), (b5, ()))))))
        else
        (Option.bind (G65 a0) fun r2 =>
          (Option.bind (G66 (b4.1, (b4.2.1, ((), b4.2.2.2))) a0) fun r3 =>
            (bif (decide (List.length b2 + List.length [r3] ≤ LIM)) then
              some (true, ((0, UC45), ((b2 ++ [r3]), (r2, ((b4.1, (b4.2.1, ((), b4.2.2.2))), (b5, ()))))))
              else
              none)))))
    else
    (Option.bind (G65 a0) fun r4 =>
      (Option.bind (G66 (b4.1, (b4.2.1, ((), b4.2.2.2))) a0) fun r5 =>
        (bif (decide (List.length b2 + List.length [r5] ≤ LIM)) then
          some (true, ((0, UC45), ((b2 ++ [r5]), (r4, ((b4.1, (b4.2.1, ((), b4.2.2.2))), (b5, ()))))))
          else
          none)))))
  (fun _ => none))
abbrev AN35 : PTy := (.cons (.any) (.cons (.any) (.cons (.any) (.cons (.any) (.cons (.any) (.cons (.any) (.cons (.any) (.cons (.any) (.cons (.any) (.cons (.any) (.cons (.any) (.cons (.any) (.cons (.any) (.cons (.any) (.cons (.any) (.cons (.any) (.cons (.any) (.cons (.any) (.cons (.any) (.cons (.any) (.cons (.any) (.cons (.any) (.cons (.any) (.cons (.any) (.cons (.any) (.cons (.any) (.cons (.any) (.cons (.any) (.cons (.any) (.cons (.any) (.cons (.any) (.cons (.any) (.cons (.any) (.cons (.any) (.cons (.any) (.nil))))))))))))))))))))))))))))))))))))
abbrev G25_CS : CSpec := ⟨[.fix (.yref 0), .dat (.int .i64)], [.lp 25 0 (.cons (.any) (.cons (.any) (.cons (.any) (.cons (.any) (.cons (.any) (.cons (.any) (.cons (.fix (.bptr 1 [])) (.cons (.any) (.cons (.fix (.bptr 2 [])) (.cons (.fix (.bptr 3 [])) AN35)))))))))), .fix (.bptr 4 []), .own 0 T26, .dat (.int .i64), .cons (.dat T23) (.cons (.dat (.list T72)) (.cons (.fix (.mref 5)) (.nil))), .map T56 T94], 1, [.lp 25 0 (.cons (.any) (.cons (.any) (.cons (.any) (.cons (.any) (.cons (.any) (.cons (.any) (.cons (.fix (.bptr 1 [])) (.cons (.any) (.cons (.fix (.bptr 2 [])) (.cons (.fix (.bptr 3 [])) AN35)))))))))), .fix (.bptr 4 []), .own 0 T26, .dat (.int .i64), .cons (.dat T23) (.cons (.dat (.list T72)) (.cons (.fix (.mref 5)) (.nil))), .map T56 T94], 1, .dat .bool⟩
noncomputable def G25_E : CEnt := boxE YLD G25_CS fun x => G25 x.1.1 x.2.1 x.2.2.1 x.2.2.2.1 x.2.2.2.2.1 x.2.2.2.2.2.1
theorem G25_LV : LV 6 Tryd.prog true (loopsOf (rfBody (lcode 25 0))) [] := by unfold LV; cases loopsOf (rfBody (lcode 25 0)) <;> trivial
theorem G25_hev : ∀ x : G25_CS.In, roundR Tryd.prog G25_C [] 25 0 (encs G25_CS.A x.1) ⟨encs G25_CS.I x.2, [], G25_CS.nt⟩ (finK G25_CS) = G25 x.1.1 x.2.1 x.2.2.1 x.2.2.2.1 x.2.2.2.2.1 x.2.2.2.2.2.1 := by
  intro x; kernel_rfl
theorem G25_valid : G25_E.Valid Tryd.prog :=
  boxE_valid (S := G25_CS) (by kernel_rfl) (.inl rfl) (rd_lcall' (S := G25_CS) mixed G25_CV (by kernel_rfl) G25_LV ⟨_, rfl⟩ (by decide) (by kernel_rfl) (by kernel_rfl) G25_hev)
abbrev G94_CS : CSpec := ⟨[.dat (.int .i64), .dat (.int .i64), .dat (.int .i64), .fix (.bptr 0 []), .fix (.bptr 1 []), .fix (.bptr 2 [])], [.fix (.bptr 3 []), .fix (.yref 4), .fix (.func (.func 94) .nil (.cons (.bptr 0 []) (.cons (.bptr 1 []) (.cons (.bptr 2 []) .nil)))), .cons (.dat T23) (.cons (.dat (.list T72)) (.cons (.fix (.mref 5)) (.nil))), .lp 25 0 (.cons (.any) (.cons (.any) (.cons (.any) (.cons (.any) (.cons (.any) (.cons (.any) (.cons (.fix (.bptr 6 [])) (.cons (.any) (.cons (.fix (.bptr 7 [])) (.cons (.fix (.bptr 8 [])) AN35)))))))))), .map T56 T94, .fix (.bptr 3 []), .own 0 T26, .dat (.int .i64)], 1, [.fix (.bptr 3 []), .fix (.yref 4), .fix (.func (.func 94) .nil (.cons (.bptr 0 []) (.cons (.bptr 1 []) (.cons (.bptr 2 []) .nil)))), .cons (.dat T23) (.cons (.dat (.list T72)) (.cons (.fix (.mref 5)) (.nil))), .lp 25 0 (.cons (.any) (.cons (.any) (.cons (.any) (.cons (.any) (.cons (.any) (.cons (.any) (.cons (.fix (.bptr 6 [])) (.cons (.any) (.cons (.fix (.bptr 7 [])) (.cons (.fix (.bptr 8 [])) AN35)))))))))), .map T56 T94, .fix (.bptr 3 []), .own 0 T26, .dat (.int .i64)], 1, .dat .bool⟩
abbrev G94_RT : Type := G94_CS.In → Option G94_CS.Out
noncomputable def G94_C (rc : G94_RT) : CalT := tabC [G52_E, G25_E, G64_E, (boxE 94 G94_CS rc)]
theorem G94_CV (rc : G94_RT) (hr : (boxE 94 G94_CS rc).Valid Tryd.prog) : CV Tryd.prog (G94_C rc) := tabC_valid (l := _) ⟨G52_valid, G25_valid, G64_valid, hr, trivial⟩
noncomputable def G94_l0_c : Code := loopAt (bodyOf Tryd.f94) 0
abbrev PA38 : PTy := (.cons (.any) (.cons (.any) (.cons (.any) (.cons (.any) (.cons (.any) (.cons (.any) (.cons (.fix (.bptr 6 [])) (.cons (.any) (.cons (.fix (.bptr 7 [])) (.cons (.fix (.bptr 8 [])) AN35))))))))))
noncomputable def G94_l0_S : SPat := ⟨[.dat (.int .i64), .any, .dat (.int .i64), .fix (.bptr 0 []), .any, .fix (.bptr 2 []), .any, .any, .any, .dat .bool, .dat (.int .i64), .any, .any, .any, .any, .any, .any, .any, .any, .any, .any, .any, .any, .any, .any, .any, .any, .any, .any, .any, .any, .any, .any, .any, .any, .any, .any, .any, .any, .any], [.fix (.bptr 3 []), .fix (.yref 4), .fix (.func (.func 94) .nil (.cons (.bptr 0 []) (.cons (.bptr 1 []) (.cons (.bptr 2 []) .nil)))), .cons (.dat T23) (.cons (.dat (.list T72)) (.cons (.fix (.mref 5)) (.nil))), .lp 25 0 PA38, .map T56 T94, .fix (.bptr 3 []), .own 0 T26, .dat (.int .i64)], 1⟩
abbrev TY39 : Type := ((Int × (Int × (Bool × (Int × Unit)))) × ((E23 × ((List E72) × (Unit × Unit))) × ((Nat × UT45) × ((List (E56 × E94)) × ((List E26) × (Int × Unit))))))
abbrev TY40 : Type := (Nat × ((Int × (Int × (Bool × (Int × Unit)))) × ((E23 × ((List E72) × (Unit × Unit))) × ((Nat × UT45) × ((List (E56 × E94)) × ((List E26) × (Int × Unit)))))))
noncomputable def G94_l0_step (rc : G94_RT) (s : TY39) : Option TY40 :=
  (Option.bind (G64 (s.2.1.1, (s.2.1.2.1, ((), s.2.1.2.2.2)))) fun r3 =>
  (bif (decide (s.1.2.2.2.1 < r3)) then
    (bif (!decide (s.1.2.2.2.1 < 0)) then
      (Option.bind (rc (((IntKind.wrap .i64 (s.1.1 - 1)), ((IntKind.wrap .i64 (s.1.2.2.2.1 + 1)), ((IntKind.wrap .i64 ((BitVec.toNat ((BitVec.ofInt (IntKind.bits .i64) s.1.2.1) ||| (BitVec.ofInt (IntKind.bits .i64) (IntKind.wrap .i64 (1 * 2 ^ (min (Int.toNat s.1.2.2.2.1) (IntKind.bits .i64)))))) : Nat) : Int)), ()))), ((s.2.1.1, (s.2.1.2.1, ((), s.2.1.2.2.2))), ((s.2.2.1.1, UC45), (s.2.2.2.1, (s.2.2.2.2.1, (s.2.2.2.2.2.1, ()))))))) fun r4 =>
        (bif (!r4.1) then
          some (1, ((s.1.1, (s.1.2.1, (false, (s.1.2.2.2.1, ())))), ((r4.2.1.1, (r4.2.1.2.1, ((), r4.2.1.2.2.2))), ((r4.2.2.1.1, UC45), (r4.2.2.2.1, (r4.2.2.2.2.1, (r4.2.2.2.2.2.1, ())))))))
          else
          some (0, ((s.1.1, (s.1.2.1, (s.1.2.2.1, ((IntKind.wrap .i64 (s.1.2.2.2.1 + 1)), ())))), ((r4.2.1.1, (r4.2.1.2.1, ((), r4.2.1.2.2.2))), ((r4.2.2.1.1, UC45), (r4.2.2.2.1, (r4.2.2.2.2.1, (r4.2.2.2.2.2.1, ())))))))))
      else
      none)
    else
    some (2, ((s.1.1, (s.1.2.1, (s.1.2.2.1, (s.1.2.2.2.1, ())))), ((s.2.1.1, (s.2.1.2.1, ((), s.2.1.2.2.2))), ((s.2.2.1.1, UC45), (s.2.2.2.1, (s.2.2.2.2.1, (s.2.2.2.2.2.1, ())))))))))
noncomputable def G94_l0_fuel (s : TY39) : Nat := 100000
noncomputable def G94_l0_run (rc : G94_RT) (s : TY39) : Option TY40 := iter (G94_l0_step rc) (G94_l0_fuel s) s
noncomputable def G94_l0_L (rc : G94_RT) : LoopT := loopT G94_l0_S [.ret, .exit 0] (G94_l0_run rc)
noncomputable def G94_b (rc : G94_RT) (a0 : Int) (a1 : Int) (a2 : Int) (b3 : (E23 × ((List E72) × (Unit × Unit)))) (b4 : (Nat × UT45)) (b5 : (List (E56 × E94))) (b6 : (List E26)) (b7 : Int) : Option (Bool × ((E23 × ((List E72) × (Unit × Unit))) × ((Nat × UT45) × ((List (E56 × E94)) × ((List E26) × (Int × Unit)))))) :=
  (bif (a0 == 0) then
  (Option.bind (G52 a2 (b3.1, (b3.2.1, ((), b3.2.2.2))) b5) fun r1 =>
    (bif (!r1.1) then
      some (true, ((r1.2.1.1, (r1.2.1.2.1, ((), r1.2.1.2.2.2))), ((b4.1, UC45), (r1.2.2.1, (b6, (b7, ()))))))
      else
      (Option.bind (G25 a2 (b4.1, UC45) b6 b7 (r1.2.1.1, (r1.2.1.2.1, ((), r1.2.1.2.2.2))) r1.2.2.1) fun r2 =>
        some (r2.1, ((r2.2.2.2.2.1.1, (r2.2.2.2.2.1.2.1, ((), r2.2.2.2.2.1.2.2.2))), ((r2.2.1.1, UC45), (r2.2.2.2.2.2.1, (r2.2.2.1, (r2.2.2.2.1, ())))))))))
  else
  (Option.bind (G94_l0_run rc ((a0, (a2, (false, (a1, ())))), ((b3.1, (b3.2.1, ((), b3.2.2.2))), ((b4.1, UC45), (b5, (b6, (b7, ()))))))) fun q5 =>
    (natK q5.1
      (some (q5.2.1.2.2.1, ((q5.2.2.1.1, (q5.2.2.1.2.1, ((), q5.2.2.1.2.2.2))), ((q5.2.2.2.1.1, UC45), (q5.2.2.2.2.1, (q5.2.2.2.2.2.1, (q5.2.2.2.2.2.2.1, ())))))))
      (fun _ => some (true, ((q5.2.2.1.1, (q5.2.2.1.2.1, ((), q5.2.2.1.2.2.2))), ((q5.2.2.2.1.1, UC45), (q5.2.2.2.2.1, (q5.2.2.2.2.2.1, (q5.2.2.2.2.2.2.1, ()))))))))))
noncomputable def G94_fix : Nat → G94_RT := recF fun rc x => G94_b rc x.1.1 x.1.2.1 x.1.2.2.1 x.2.1 x.2.2.1 x.2.2.2.1 x.2.2.2.2.1 x.2.2.2.2.2.1
noncomputable def G94 (a0 : Int) (a1 : Int) (a2 : Int) (b3 : (E23 × ((List E72) × (Unit × Unit)))) (b4 : (Nat × UT45)) (b5 : (List (E56 × E94))) (b6 : (List E26)) (b7 : Int) : Option (Bool × ((E23 × ((List E72) × (Unit × Unit))) × ((Nat × UT45) × ((List (E56 × E94)) × ((List E26) × (Int × Unit)))))) := G94_fix 64 ((a0, (a1, (a2, ()))), (b3, (b4, (b5, (b6, (b7, ()))))))
noncomputable def G94_E : CEnt := boxE 94 G94_CS fun x => G94 x.1.1 x.1.2.1 x.1.2.2.1 x.2.1 x.2.2.1 x.2.2.2.1 x.2.2.2.2.1 x.2.2.2.2.2.1
theorem G94_l0_V (rc : G94_RT) (hr : (boxE 94 G94_CS rc).Valid Tryd.prog) : LValid 9 Tryd.prog (.loop G94_l0_c) (G94_l0_L rc) false := by
  have hb : ∀ s, codeR Tryd.prog (G94_C rc) G94_l0_c [] (G94_l0_S.encE s) (G94_l0_S.encB s) (kst G94_l0_S [.ret, .exit 0]) = G94_l0_step rc s := by
    intro s; kernel_rfl
  have hL : LV 9 Tryd.prog false (loopsOf G94_l0_c) [] := by unfold LV; cases loopsOf G94_l0_c <;> trivial
  exact loopT_valid (fuel := G94_l0_fuel) mixed (G94_CV rc hr) hL (by kernel_rfl) (by decide) rfl hb (fun s r h => h)
theorem G94_LV (rc : G94_RT) (hr : (boxE 94 G94_CS rc).Valid Tryd.prog) : LV 9 Tryd.prog false (loopsOf (bodyOf Tryd.f94)) [(G94_l0_L rc)] := by
  have hl : loopsOf (bodyOf Tryd.f94) = [.loop G94_l0_c] := by kernel_rfl
  rw [hl]; exact ⟨G94_l0_V rc hr, trivial⟩
theorem G94_ent : Ent Tryd.prog 94 := ⟨by decide, enters_of Tryd.func94 (by kernel_rfl) rfl⟩
theorem G94_hev (rc : G94_RT) : ∀ x : G94_CS.In, fnR Tryd.prog (G94_C rc) [(G94_l0_L rc)] Tryd.f94 (bodyOf Tryd.f94) (encs G94_CS.A x.1) ⟨encs G94_CS.I x.2, [], G94_CS.nt⟩ (finK G94_CS) = G94_b rc x.1.1 x.1.2.1 x.1.2.2.1 x.2.1 x.2.2.1 x.2.2.2.1 x.2.2.2.2.1 x.2.2.2.2.2.1 := by
  intro x; kernel_rfl
theorem G94_valid : G94_E.Valid Tryd.prog :=
  rec_valid (S := G94_CS) (body := fun rc x => G94_b rc x.1.1 x.1.2.1 x.1.2.2.1 x.2.1 x.2.2.1 x.2.2.2.1 x.2.2.2.2.1 x.2.2.2.2.2.1) (by kernel_rfl) (.inr G94_ent) (fun rc hr => fn_lcall (S := G94_CS) mixed Tryd.func94 rfl G94_ent (G94_CV rc hr) (G94_LV rc hr) (by kernel_rfl) (by kernel_rfl) (G94_hev rc)) 64
noncomputable def G93_C : CalT := tabC [G94_E]
theorem G93_CV : CV Tryd.prog G93_C := tabC_valid (l := _) ⟨G94_valid, trivial⟩
noncomputable def G93_l0_c : Code := loopAt (bodyOf Tryd.f93) 0
abbrev PA41 : PTy := (.cons (.any) (.cons (.any) (.cons (.any) (.cons (.any) (.cons (.any) (.cons (.any) (.cons (.fix (.bptr 3 [])) (.cons (.any) (.cons (.fix (.bptr 4 [])) (.cons (.fix (.bptr 5 [])) AN35))))))))))
noncomputable def G93_l0_S : SPat := ⟨[.any, .any, .any, .any, .fix (.bptr 9 []), .any, .any, .any, .dat (.int .i64), .dat (.int .i64), .any, .any, .any, .any, .any, .any, .any], [.lp 25 0 PA41, .fix (.bptr 6 []), .dat (.int .i64), .fix (.bptr 6 []), .own 0 T26, .dat (.int .i64), .cons (.dat T23) (.cons (.dat (.list T72)) (.cons (.fix (.mref 7)) (.nil))), .map T56 T94, .fix (.yref 0), .fix (.func (.func 94) .nil (.cons (.bptr 1 []) (.cons (.bptr 8 []) (.cons (.bptr 9 []) .nil))))], 1⟩
abbrev TY42 : Type := ((Int × (Int × Unit)) × ((Nat × UT45) × (Int × ((List E26) × (Int × ((E23 × ((List E72) × (Unit × Unit))) × ((List (E56 × E94)) × Unit)))))))
abbrev TY43 : Type := (Nat × ((Int × (Int × Unit)) × ((Nat × UT45) × (Int × ((List E26) × (Int × ((E23 × ((List E72) × (Unit × Unit))) × ((List (E56 × E94)) × Unit))))))))
noncomputable def G93_l0_step (s : TY42) : Option TY43 :=
  (bif (decide (s.1.2.1 < s.1.1)) then
  (Option.bind (G94 s.1.2.1 0 0 (s.2.2.2.2.2.1.1, (s.2.2.2.2.2.1.2.1, ((), s.2.2.2.2.2.1.2.2.2))) (s.2.1.1, UC45) s.2.2.2.2.2.2.1 s.2.2.2.1 s.2.2.2.2.1) fun r1 =>
    (bif (!r1.1) then
      some (1, ((s.1.1, (s.1.2.1, ())), ((r1.2.2.1.1, UC45), (s.2.2.1, (r1.2.2.2.2.1, (r1.2.2.2.2.2.1, ((r1.2.1.1, (r1.2.1.2.1, ((), r1.2.1.2.2.2))), (r1.2.2.2.1, ()))))))))
      else
      some (0, ((s.1.1, ((IntKind.wrap .i64 (s.1.2.1 + 1)), ())), ((r1.2.2.1.1, UC45), (s.2.2.1, (r1.2.2.2.2.1, (r1.2.2.2.2.2.1, ((r1.2.1.1, (r1.2.1.2.1, ((), r1.2.1.2.2.2))), (r1.2.2.2.1, ()))))))))))
  else
  some (2, ((s.1.1, (s.1.2.1, ())), ((s.2.1.1, UC45), (s.2.2.1, (s.2.2.2.1, (s.2.2.2.2.1, ((s.2.2.2.2.2.1.1, (s.2.2.2.2.2.1.2.1, ((), s.2.2.2.2.2.1.2.2.2))), (s.2.2.2.2.2.2.1, ())))))))))
noncomputable def G93_l0_fuel (s : TY42) : Nat := Int.toNat (s.1.1 - s.1.2.1) + 1
noncomputable def G93_l0_run (s : TY42) : Option TY43 := iter G93_l0_step (G93_l0_fuel s) s
noncomputable def G93_l0_L : LoopT := loopT G93_l0_S [.ret, .exit 0] G93_l0_run
abbrev TY44 : Type := (Unit × ((Nat × UT45) × (Int × ((List E26) × (Int × ((E23 × ((List E72) × (Unit × Unit))) × ((List (E56 × E94)) × Unit)))))))
noncomputable def G93 (b0 : (Nat × UT45)) (b1 : Int) (b2 : (List E26)) (b3 : Int) (b4 : (E23 × ((List E72) × (Unit × Unit)))) (b5 : (List (E56 × E94))) : Option TY44 :=
  (Option.bind (G93_l0_run (((IntKind.wrap .i64 (b1 + 1)), (0, ())), ((b0.1, UC45), (b1, (b2, (b3, ((b4.1, (b4.2.1, ((), b4.2.2.2))), (b5, ())))))))) fun q2 =>
  (natK q2.1
    (some ((), ((q2.2.2.1.1, UC45), (q2.2.2.2.1, (q2.2.2.2.2.1, (q2.2.2.2.2.2.1, ((q2.2.2.2.2.2.2.1.1, (q2.2.2.2.2.2.2.1.2.1, ((), q2.2.2.2.2.2.2.1.2.2.2))), (q2.2.2.2.2.2.2.2.1, ()))))))))
    (fun _ => some ((), ((q2.2.2.1.1, UC45), (q2.2.2.2.1, (q2.2.2.2.2.1, (q2.2.2.2.2.2.1, ((q2.2.2.2.2.2.2.1.1, (q2.2.2.2.2.2.2.1.2.1, ((), q2.2.2.2.2.2.2.1.2.2.2))), (q2.2.2.2.2.2.2.2.1, ()))))))))))
abbrev G93_CS : CSpec := ⟨[.fix (.yref 0), .fix (.bptr 1 []), .fix (.bptr 2 [])], [.lp 25 0 (.cons (.any) (.cons (.any) (.cons (.any) (.cons (.any) (.cons (.any) (.cons (.any) (.cons (.fix (.bptr 3 [])) (.cons (.any) (.cons (.fix (.bptr 4 [])) (.cons (.fix (.bptr 5 [])) AN35)))))))))), .fix (.bptr 6 []), .dat (.int .i64), .fix (.bptr 6 []), .own 0 T26, .dat (.int .i64), .cons (.dat T23) (.cons (.dat (.list T72)) (.cons (.fix (.mref 7)) (.nil))), .map T56 T94], 1, [.lp 25 0 (.cons (.any) (.cons (.any) (.cons (.any) (.cons (.any) (.cons (.any) (.cons (.any) (.cons (.fix (.bptr 3 [])) (.cons (.any) (.cons (.fix (.bptr 4 [])) (.cons (.fix (.bptr 5 [])) AN35)))))))))), .fix (.bptr 6 []), .dat (.int .i64), .fix (.bptr 6 []), .own 0 T26, .dat (.int .i64), .cons (.dat T23) (.cons (.dat (.list T72)) (.cons (.fix (.mref 7)) (.nil))), .map T56 T94], 1, .tup (.nil)⟩
noncomputable def G93_E : CEnt := boxE 93 G93_CS fun x => G93 x.2.1 x.2.2.1 x.2.2.2.1 x.2.2.2.2.1 x.2.2.2.2.2.1 x.2.2.2.2.2.2.1
theorem G93_l0_V : LValid 8 Tryd.prog (.loop G93_l0_c) G93_l0_L false := by
  have hb : ∀ s, codeR Tryd.prog G93_C G93_l0_c [] (G93_l0_S.encE s) (G93_l0_S.encB s) (kst G93_l0_S [.ret, .exit 0]) = G93_l0_step s := by
    intro s; kernel_rfl
  have hL : LV 8 Tryd.prog false (loopsOf G93_l0_c) [] := by unfold LV; cases loopsOf G93_l0_c <;> trivial
  exact loopT_valid (fuel := G93_l0_fuel) mixed G93_CV hL (by kernel_rfl) (by decide) rfl hb (fun s r h => h)
theorem G93_LV : LV 8 Tryd.prog false (loopsOf (bodyOf Tryd.f93)) [G93_l0_L] := by
  have hl : loopsOf (bodyOf Tryd.f93) = [.loop G93_l0_c] := by kernel_rfl
  rw [hl]; exact ⟨G93_l0_V, trivial⟩
theorem G93_ent : Ent Tryd.prog 93 := ⟨by decide, enters_of Tryd.func93 (by kernel_rfl) rfl⟩
theorem G93_hev : ∀ x : G93_CS.In, fnR Tryd.prog G93_C [G93_l0_L] Tryd.f93 (bodyOf Tryd.f93) (encs G93_CS.A x.1) ⟨encs G93_CS.I x.2, [], G93_CS.nt⟩ (finK G93_CS) = G93 x.2.1 x.2.2.1 x.2.2.2.1 x.2.2.2.2.1 x.2.2.2.2.2.1 x.2.2.2.2.2.2.1 := by
  intro x; kernel_rfl
theorem G93_valid : G93_E.Valid Tryd.prog :=
  boxE_valid (S := G93_CS) (by kernel_rfl) (.inr G93_ent) (fn_lcall (S := G93_CS) mixed Tryd.func93 rfl G93_ent G93_CV G93_LV (by kernel_rfl) (by kernel_rfl) G93_hev)
noncomputable def g25_sense_Least_C : CalT := tabC [G49_v2_E, G64_E, G63_E, G93_E]
theorem g25_sense_Least_CV : CV Tryd.prog g25_sense_Least_C := tabC_valid (l := _) ⟨G49_v2_valid, G64_valid, G63_valid, G93_valid, trivial⟩
noncomputable def g25_sense_Least_f0_L : LoopT := rfT g25_sense_Least_C 25 0 (.tmp 23) [.normal, .exit 0]
noncomputable def g25_sense_Least (a0 : E23) (a1 : (List E72)) : Option ((List E26) × (Int × Unit)) :=
  (Option.bind (G49_v2 a0 a1) fun r1 =>
  (altK r1
    (fun r2 => (bif (r2.1.2.1 != 0) then
      some ([], (r2.1.2.1, ()))
      else
      none))
    (fun r3 => (bif (r3.1.2.1 != 0) then
      some ([], (r3.1.2.1, ()))
      else
      (Option.bind (G64 (r3.2.2.2.1.1, (r3.2.2.2.1.2.1, ((), r3.2.2.2.1.2.2.2)))) fun r4 =>
        (Option.bind (G63 r4 (r3.2.2.2.1.1, (r3.2.2.2.1.2.1, ((), r3.2.2.2.1.2.2.2))) r3.2.2.1) fun r5 =>
          (Option.bind (G93 (0, UC45) r5.2.2.2.1 [] (-1) (r5.2.1.1, (r5.2.1.2.1, ((), r5.2.1.2.2.2))) r5.2.2.1) fun r6 =>
            (bif (r6.2.1.1 == 0) then
              (bif ((List.length r6.2.2.2.1 : Int) == 0) then
                some ([], (5, ()))
                else
                some (r6.2.2.2.1, (0, ())))
              else
              (bif (r6.2.1.1 == 4) then
                (bif ((List.length r6.2.2.2.1 : Int) == 0) then
                  some ([], (5, ()))
                  else
                  some (r6.2.2.2.1, (0, ())))
                else
                none)))))))))
noncomputable def g25_sense_Least_E : CEnt := pureE 25 [.dat T23, .dat (.list T72)] (.tup (.cons (.dat (.list T26)) (.cons (.dat (.int .i64)) (.nil)))) fun x => g25_sense_Least x.1 x.2.1
theorem g25_sense_Least_f0_V : LValid 0 Tryd.prog (lcode 25 0) g25_sense_Least_f0_L := rfT_valid' g25_sense_Least_CV (by kernel_rfl)
theorem g25_sense_Least_LV : LV 0 Tryd.prog false (loopsOf (bodyOf Tryd.f25)) [g25_sense_Least_f0_L] := by
  have hl : loopsOf (bodyOf Tryd.f25) = [(lcode 25 0)] := by kernel_rfl
  rw [hl]; exact ⟨g25_sense_Least_f0_V, trivial⟩
theorem g25_sense_Least_ent : Ent Tryd.prog 25 := ⟨by decide, enters_of Tryd.func25 (by kernel_rfl) rfl⟩
theorem g25_sense_Least_hev : ∀ x, fnR Tryd.prog g25_sense_Least_C [g25_sense_Least_f0_L] Tryd.f25 (bodyOf Tryd.f25) (encs [.dat T23, .dat (.list T72)] x) ⟨[], [], 0⟩ (frzF (.tup (.cons (.dat (.list T26)) (.cons (.dat (.int .i64)) (.nil))))) = g25_sense_Least x.1 x.2.1 := by
  intro x; kernel_rfl
theorem g25_sense_Least_valid : g25_sense_Least_E.Valid Tryd.prog :=
  pureE_valid (by kernel_rfl) (by kernel_rfl) g25_sense_Least_ent (frz_lcall mixed Tryd.func25 rfl g25_sense_Least_ent g25_sense_Least_CV g25_sense_Least_LV (by kernel_rfl) (by kernel_rfl) g25_sense_Least_hev)
noncomputable def G67_C : CalT := tabC [G64_E, G68_E]
theorem G67_CV : CV Tryd.prog G67_C := tabC_valid (l := _) ⟨G64_valid, G68_valid, trivial⟩
noncomputable def G67 (b0 : (E23 × ((List E72) × (Unit × Unit)))) (b1 : Int) (b2 : (List (E56 × E94))) : Option (Bool × ((E23 × ((List E72) × (Unit × Unit))) × (Int × ((List (E56 × E94)) × Unit)))) :=
  (Option.bind (G64 (b0.1, (b0.2.1, ((), b0.2.2.2)))) fun r1 =>
  (Option.bind (G68 b1 0 r1) fun r2 =>
    some (r2, ((b0.1, (b0.2.1, ((), b0.2.2.2))), (b1, (b2, ()))))))
abbrev G67_CS : CSpec := ⟨[.fix (.bptr 0 []), .fix (.bptr 1 [])], [.cons (.dat T23) (.cons (.dat (.list T72)) (.cons (.fix (.mref 2)) (.nil))), .dat (.int .i64), .map T56 T94], 0, [.cons (.dat T23) (.cons (.dat (.list T72)) (.cons (.fix (.mref 2)) (.nil))), .dat (.int .i64), .map T56 T94], 0, .dat .bool⟩
noncomputable def G67_E : CEnt := boxE 67 G67_CS fun x => G67 x.2.1 x.2.2.1 x.2.2.2.1
theorem G67_LV : LV 3 Tryd.prog false (loopsOf (bodyOf Tryd.f67)) [] := by unfold LV; cases loopsOf (bodyOf Tryd.f67) <;> trivial
theorem G67_ent : Ent Tryd.prog 67 := ⟨by decide, enters_of Tryd.func67 (by kernel_rfl) rfl⟩
theorem G67_hev : ∀ x : G67_CS.In, fnR Tryd.prog G67_C [] Tryd.f67 (bodyOf Tryd.f67) (encs G67_CS.A x.1) ⟨encs G67_CS.I x.2, [], G67_CS.nt⟩ (finK G67_CS) = G67 x.2.1 x.2.2.1 x.2.2.2.1 := by
  intro x; kernel_rfl
theorem G67_valid : G67_E.Valid Tryd.prog :=
  boxE_valid (S := G67_CS) (by kernel_rfl) (.inr G67_ent) (fn_lcall (S := G67_CS) mixed Tryd.func67 rfl G67_ent G67_CV G67_LV (by kernel_rfl) (by kernel_rfl) G67_hev)
noncomputable def G49_v3_C : CalT := tabC [G83_E, G81_E, G67_E]
theorem G49_v3_CV : CV Tryd.prog G49_v3_C := tabC_valid (l := _) ⟨G83_valid, G81_valid, G67_valid, trivial⟩
abbrev TY45 : Type := (Int × (E23 × ((List (E56 × E94)) × ((E23 × ((List E72) × (Unit × Unit))) × Unit))))
noncomputable def G49_v3 (a0 : E23) (a1 : (List E72)) (b2 : Int) : Option (((Unit × (Int × Unit)) × (Int × Unit)) ⊕ ((Unit × (Int × Unit)) × TY45)) :=
  (bif (decide ((List.length a1 : Int) > 24)) then
  some (Sum.inl (((), (3, ())), (b2, ())))
  else
  (Option.bind (G83 a0) fun r1 =>
    (bif (!r1) then
      some (Sum.inl (((), (2, ())), (b2, ())))
      else
      (Option.bind (G81 a1 a0) fun r2 =>
        (bif r2.1 then
          some (Sum.inl (((), (2, ())), (b2, ())))
          else
          (Option.bind (G67 (a0, (a1, ((), ()))) b2 ([] : List (E56 × E94))) fun r3 =>
            (bif (!r3.1) then
              some (Sum.inl (((), (2, ())), (r3.2.2.1, ())))
              else
              some (Sum.inr (((), (0, ())), (r3.2.2.1, (r2.2.1, (r3.2.2.2.1, ((r3.2.1.1, (r3.2.1.2.1, ((), r3.2.1.2.2.2))), ())))))))))))))
abbrev G49_v3_CS : CSpec := ⟨[.dat T23, .dat (.list T72), .fix (.func (.func 67) .nil (.cons (.bptr 0 []) .nil))], [.dat (.int .i64)], 0, [.dat (.int .i64)], 0, .tup (.cons (.fix .pnil) (.cons (.dat (.int .i64)) (.nil)))⟩
abbrev G49_v3_O2 : List PTy := [.dat (.int .i64), .dat T23, .map T56 T94, .cons (.dat T23) (.cons (.dat (.list T72)) (.cons (.fix (.mref 2)) (.nil)))]
abbrev G49_v3_R2 : PTy := .tup (.cons (.fix (.bptr 3 [])) (.cons (.dat (.int .i64)) (.nil)))
noncomputable def G49_v3_E : CEnt := altE 49 G49_v3_CS G49_v3_O2 0 G49_v3_R2 fun x => G49_v3 x.1.1 x.1.2.1 x.2.1
theorem G49_v3_LV : LV 1 Tryd.prog false (loopsOf (bodyOf Tryd.f49)) [] := by unfold LV; cases loopsOf (bodyOf Tryd.f49) <;> trivial
theorem G49_v3_ent : Ent Tryd.prog 49 := ⟨by decide, enters_of Tryd.func49 (by kernel_rfl) rfl⟩
theorem G49_v3_hev : ∀ x : G49_v3_CS.In, fnR Tryd.prog G49_v3_C [] Tryd.f49 (bodyOf Tryd.f49) (encs G49_v3_CS.A x.1) ⟨encs G49_v3_CS.I x.2, [], G49_v3_CS.nt⟩ (finK2 G49_v3_CS G49_v3_O2 0 G49_v3_R2) = G49_v3 x.1.1 x.1.2.1 x.2.1 := by
  intro x; kernel_rfl
theorem G49_v3_valid : G49_v3_E.Valid Tryd.prog :=
  altE_valid (S := G49_v3_CS) (by kernel_rfl) (by kernel_rfl) (.inr G49_v3_ent) (alt_lcall (S := G49_v3_CS) mixed Tryd.func49 rfl G49_v3_ent G49_v3_CV G49_v3_LV (by kernel_rfl) (by kernel_rfl) (by kernel_rfl) (by kernel_rfl) G49_v3_hev)
noncomputable def G63_v1_C : CalT := tabC []
theorem G63_v1_CV : CV Tryd.prog G63_v1_C := tabC_valid (l := _) trivial
noncomputable def G63_v1 (a0 : Int) : Option (Unit × (Int × Unit)) :=
  some ((), (a0, ()))
abbrev G63_v1_CS : CSpec := ⟨[.fix .pnil, .dat (.int .i64)], [], 0, [.fix .pnil, .dat (.int .i64)], 0, .fix (.func (.func 93) .nil (.cons (.bptr 0 []) (.cons (.bptr 1 []) .nil)))⟩
noncomputable def G63_v1_E : CEnt := boxE 63 G63_v1_CS fun x => G63_v1 x.1.1
theorem G63_v1_LV : LV 0 Tryd.prog false (loopsOf (bodyOf Tryd.f63)) [] := by unfold LV; cases loopsOf (bodyOf Tryd.f63) <;> trivial
theorem G63_v1_ent : Ent Tryd.prog 63 := ⟨by decide, enters_of Tryd.func63 (by kernel_rfl) rfl⟩
theorem G63_v1_hev : ∀ x : G63_v1_CS.In, fnR Tryd.prog G63_v1_C [] Tryd.f63 (bodyOf Tryd.f63) (encs G63_v1_CS.A x.1) ⟨encs G63_v1_CS.I x.2, [], G63_v1_CS.nt⟩ (finK G63_v1_CS) = G63_v1 x.1.1 := by
  intro x; kernel_rfl
theorem G63_v1_valid : G63_v1_E.Valid Tryd.prog :=
  boxE_valid (S := G63_v1_CS) (by kernel_rfl) (.inr G63_v1_ent) (fn_lcall (S := G63_v1_CS) mixed Tryd.func63 rfl G63_v1_ent G63_v1_CV G63_v1_LV (by kernel_rfl) (by kernel_rfl) G63_v1_hev)
noncomputable def G93_v1_C : CalT := tabC []
theorem G93_v1_CV : CV Tryd.prog G93_v1_C := tabC_valid (l := _) trivial
noncomputable def G93_v1_l0_c : Code := loopAt (bodyOf Tryd.f93) 0
abbrev AN61 : PTy := (.cons (.any) (.cons (.any) (.cons (.any) (.cons (.any) (.cons (.any) (.cons (.any) (.cons (.any) (.cons (.any) (.cons (.any) (.cons (.any) (.cons (.any) (.cons (.any) (.cons (.any) (.cons (.any) (.cons (.any) (.cons (.any) (.cons (.any) (.cons (.any) (.cons (.any) (.cons (.any) (.cons (.any) (.cons (.any) (.cons (.any) (.cons (.any) (.cons (.any) (.cons (.any) (.cons (.any) (.cons (.any) (.cons (.any) (.cons (.any) (.cons (.any) (.cons (.any) (.cons (.any) (.cons (.any) (.cons (.any) (.cons (.any) (.cons (.any) (.cons (.any) (.cons (.any) (.cons (.any) (.cons (.any) (.cons (.any) (.cons (.any) (.cons (.any) (.cons (.any) (.cons (.any) (.cons (.any) (.cons (.any) (.cons (.any) (.cons (.any) (.cons (.any) (.cons (.any) (.cons (.any) (.cons (.any) (.cons (.any) (.cons (.any) (.cons (.any) (.cons (.any) (.cons (.any) (.cons (.any) (.cons (.any) (.nil))))))))))))))))))))))))))))))))))))))))))))))))))))))))))))))
abbrev PA46 : PTy := (.cons (.any) (.cons (.any) (.cons (.any) (.cons (.any) (.cons (.any) (.cons (.any) (.cons (.any) (.cons (.any) (.cons (.any) (.cons (.any) (.cons (.fix (.bptr 3 [])) (.cons (.fix (.bptr 4 [])) AN61))))))))))))
noncomputable def G93_v1_l0_S : SPat := ⟨[.any, .any, .any, .any, .fix (.bptr 6 []), .any, .any, .any, .dat (.int .i64), .dat (.int .i64), .any, .any, .any, .any, .any, .any, .any], [.lp 26 0 PA46, .fix .pnil, .dat (.int .i64), .cons (.dat (.int .i64)) (.cons (.dat (.int .i64)) (.nil)), .dat .bool, .fix (.yref 0), .fix (.func (.func 94) .nil (.cons (.bptr 1 []) (.cons (.bptr 5 []) (.cons (.bptr 6 []) .nil))))], 0⟩
abbrev UT73 : Type := (Unit × (Unit × (Unit × (Unit × (Unit × (Unit × (Unit × (Unit × (Unit × (Unit × (Unit × (Unit × (Unit × (Unit × (Unit × (Unit × (Unit × (Unit × (Unit × (Unit × (Unit × (Unit × (Unit × (Unit × (Unit × (Unit × (Unit × (Unit × (Unit × (Unit × (Unit × (Unit × (Unit × (Unit × (Unit × (Unit × (Unit × (Unit × (Unit × (Unit × (Unit × (Unit × (Unit × (Unit × (Unit × (Unit × (Unit × (Unit × (Unit × (Unit × (Unit × (Unit × (Unit × (Unit × (Unit × (Unit × (Unit × (Unit × (Unit × (Unit × (Unit × (Unit × (Unit × (Unit × (Unit × (Unit × (Unit × (Unit × (Unit × (Unit × (Unit × (Unit × (Unit × Unit)))))))))))))))))))))))))))))))))))))))))))))))))))))))))))))))))))))))))
abbrev UC73 : (Unit × (Unit × (Unit × (Unit × (Unit × (Unit × (Unit × (Unit × (Unit × (Unit × (Unit × (Unit × (Unit × (Unit × (Unit × (Unit × (Unit × (Unit × (Unit × (Unit × (Unit × (Unit × (Unit × (Unit × (Unit × (Unit × (Unit × (Unit × (Unit × (Unit × (Unit × (Unit × (Unit × (Unit × (Unit × (Unit × (Unit × (Unit × (Unit × (Unit × (Unit × (Unit × (Unit × (Unit × (Unit × (Unit × (Unit × (Unit × (Unit × (Unit × (Unit × (Unit × (Unit × (Unit × (Unit × (Unit × (Unit × (Unit × (Unit × (Unit × (Unit × (Unit × (Unit × (Unit × (Unit × (Unit × (Unit × (Unit × (Unit × (Unit × (Unit × (Unit × (Unit × Unit))))))))))))))))))))))))))))))))))))))))))))))))))))))))))))))))))))))))) := ((), ((), ((), ((), ((), ((), ((), ((), ((), ((), ((), ((), ((), ((), ((), ((), ((), ((), ((), ((), ((), ((), ((), ((), ((), ((), ((), ((), ((), ((), ((), ((), ((), ((), ((), ((), ((), ((), ((), ((), ((), ((), ((), ((), ((), ((), ((), ((), ((), ((), ((), ((), ((), ((), ((), ((), ((), ((), ((), ((), ((), ((), ((), ((), ((), ((), ((), ((), ((), ((), ((), ((), ((), ())))))))))))))))))))))))))))))))))))))))))))))))))))))))))))))))))))))))))
abbrev TY47 : Type := ((Int × (Int × Unit)) × ((Nat × UT73) × (Int × ((Int × (Int × Unit)) × (Bool × Unit)))))
abbrev TY48 : Type := (Nat × ((Int × (Int × Unit)) × ((Nat × UT73) × (Int × ((Int × (Int × Unit)) × (Bool × Unit))))))
noncomputable def G93_v1_l0_step (s : TY47) : Option TY48 :=
  (bif (decide (s.1.2.1 < s.1.1)) then
  none
  else
  some (1, ((s.1.1, (s.1.2.1, ())), ((s.2.1.1, UC73), (s.2.2.1, (s.2.2.2.1, (s.2.2.2.2.1, ())))))))
noncomputable def G93_v1_l0_fuel (s : TY47) : Nat := Int.toNat (s.1.1 - s.1.2.1) + 1
noncomputable def G93_v1_l0_run (s : TY47) : Option TY48 := iter G93_v1_l0_step (G93_v1_l0_fuel s) s
noncomputable def G93_v1_l0_L : LoopT := loopT G93_v1_l0_S [.exit 0] G93_v1_l0_run
abbrev TY49 : Type := (Unit × ((Nat × UT73) × (Int × ((Int × (Int × Unit)) × (Bool × Unit)))))
noncomputable def G93_v1 (b0 : (Nat × UT73)) (b1 : Int) (b2 : (Int × (Int × Unit))) (b3 : Bool) : Option TY49 :=
  (Option.bind (G93_v1_l0_run (((IntKind.wrap .i64 (b1 + 1)), (0, ())), ((b0.1, UC73), (b1, (b2, (b3, ())))))) fun q1 =>
  some ((), ((q1.2.2.1.1, UC73), (q1.2.2.2.1, (q1.2.2.2.2.1, (q1.2.2.2.2.2.1, ()))))))
abbrev G93_v1_CS : CSpec := ⟨[.fix (.yref 0), .fix (.bptr 1 []), .fix (.bptr 2 [])], [.lp 26 0 (.cons (.any) (.cons (.any) (.cons (.any) (.cons (.any) (.cons (.any) (.cons (.any) (.cons (.any) (.cons (.any) (.cons (.any) (.cons (.any) (.cons (.fix (.bptr 3 [])) (.cons (.fix (.bptr 4 [])) AN61)))))))))))), .fix .pnil, .dat (.int .i64), .cons (.dat (.int .i64)) (.cons (.dat (.int .i64)) (.nil)), .dat .bool], 0, [.lp 26 0 (.cons (.any) (.cons (.any) (.cons (.any) (.cons (.any) (.cons (.any) (.cons (.any) (.cons (.any) (.cons (.any) (.cons (.any) (.cons (.any) (.cons (.fix (.bptr 3 [])) (.cons (.fix (.bptr 4 [])) AN61)))))))))))), .fix .pnil, .dat (.int .i64), .cons (.dat (.int .i64)) (.cons (.dat (.int .i64)) (.nil)), .dat .bool], 0, .tup (.nil)⟩
noncomputable def G93_v1_E : CEnt := boxE 93 G93_v1_CS fun x => G93_v1 x.2.1 x.2.2.1 x.2.2.2.1 x.2.2.2.2.1
theorem G93_v1_l0_V : LValid 5 Tryd.prog (.loop G93_v1_l0_c) G93_v1_l0_L false := by
  have hb : ∀ s, codeR Tryd.prog G93_v1_C G93_v1_l0_c [] (G93_v1_l0_S.encE s) (G93_v1_l0_S.encB s) (kst G93_v1_l0_S [.exit 0]) = G93_v1_l0_step s := by
    intro s; kernel_rfl
  have hL : LV 5 Tryd.prog false (loopsOf G93_v1_l0_c) [] := by unfold LV; cases loopsOf G93_v1_l0_c <;> trivial
  exact loopT_valid (fuel := G93_v1_l0_fuel) mixed G93_v1_CV hL (by kernel_rfl) (by decide) rfl hb (fun s r h => h)
theorem G93_v1_LV : LV 5 Tryd.prog false (loopsOf (bodyOf Tryd.f93)) [G93_v1_l0_L] := by
  have hl : loopsOf (bodyOf Tryd.f93) = [.loop G93_v1_l0_c] := by kernel_rfl
  rw [hl]; exact ⟨G93_v1_l0_V, trivial⟩
theorem G93_v1_ent : Ent Tryd.prog 93 := ⟨by decide, enters_of Tryd.func93 (by kernel_rfl) rfl⟩
theorem G93_v1_hev : ∀ x : G93_v1_CS.In, fnR Tryd.prog G93_v1_C [G93_v1_l0_L] Tryd.f93 (bodyOf Tryd.f93) (encs G93_v1_CS.A x.1) ⟨encs G93_v1_CS.I x.2, [], G93_v1_CS.nt⟩ (finK G93_v1_CS) = G93_v1 x.2.1 x.2.2.1 x.2.2.2.1 x.2.2.2.2.1 := by
  intro x; kernel_rfl
theorem G93_v1_valid : G93_v1_E.Valid Tryd.prog :=
  boxE_valid (S := G93_v1_CS) (by kernel_rfl) (.inr G93_v1_ent) (fn_lcall (S := G93_v1_CS) mixed Tryd.func93 rfl G93_v1_ent G93_v1_CV G93_v1_LV (by kernel_rfl) (by kernel_rfl) G93_v1_hev)
noncomputable def G26_C : CalT := tabC []
theorem G26_CV : CV Tryd.prog G26_C := tabC_valid (l := _) trivial
noncomputable def G26 (a0 : Int) (b1 : (Nat × UT73)) (b2 : (Int × (Int × Unit))) (b3 : Bool) : Option (Bool × ((Nat × UT73) × ((Int × (Int × Unit)) × (Bool × Unit)))) :=
  (natK b1.1
  (some (true, ((0, UC73), (((IntKind.wrap .i64 ((BitVec.toNat ((BitVec.ofInt (IntKind.bits .i64) b2.1) ||| (BitVec.ofInt (IntKind.bits .i64) a0)) : Nat) : Int)), ((IntKind.wrap .i64 ((BitVec.toNat ((BitVec.ofInt (IntKind.bits .i64) b2.2.1) &&& (BitVec.ofInt (IntKind.bits .i64) a0)) : Nat) : Int)), b2.2.2)), (true, ())))))
  (fun _ => none))
abbrev G26_CS : CSpec := ⟨[.fix (.yref 0), .dat (.int .i64)], [.lp 26 0 (.cons (.any) (.cons (.any) (.cons (.any) (.cons (.any) (.cons (.any) (.cons (.any) (.cons (.any) (.cons (.any) (.cons (.any) (.cons (.any) (.cons (.fix (.bptr 1 [])) (.cons (.fix (.bptr 2 [])) AN61)))))))))))), .cons (.dat (.int .i64)) (.cons (.dat (.int .i64)) (.nil)), .dat .bool], 0, [.lp 26 0 (.cons (.any) (.cons (.any) (.cons (.any) (.cons (.any) (.cons (.any) (.cons (.any) (.cons (.any) (.cons (.any) (.cons (.any) (.cons (.any) (.cons (.fix (.bptr 1 [])) (.cons (.fix (.bptr 2 [])) AN61)))))))))))), .cons (.dat (.int .i64)) (.cons (.dat (.int .i64)) (.nil)), .dat .bool], 0, .dat .bool⟩
noncomputable def G26_E : CEnt := boxE YLD G26_CS fun x => G26 x.1.1 x.2.1 x.2.2.1 x.2.2.2.1
theorem G26_LV : LV 3 Tryd.prog true (loopsOf (rfBody (lcode 26 0))) [] := by unfold LV; cases loopsOf (rfBody (lcode 26 0)) <;> trivial
theorem G26_hev : ∀ x : G26_CS.In, roundR Tryd.prog G26_C [] 26 0 (encs G26_CS.A x.1) ⟨encs G26_CS.I x.2, [], G26_CS.nt⟩ (finK G26_CS) = G26 x.1.1 x.2.1 x.2.2.1 x.2.2.2.1 := by
  intro x; kernel_rfl
theorem G26_valid : G26_E.Valid Tryd.prog :=
  boxE_valid (S := G26_CS) (by kernel_rfl) (.inl rfl) (rd_lcall' (S := G26_CS) mixed G26_CV (by kernel_rfl) G26_LV ⟨_, rfl⟩ (by decide) (by kernel_rfl) (by kernel_rfl) G26_hev)
abbrev G94_v1_CS : CSpec := ⟨[.dat (.int .i64), .dat (.int .i64), .dat (.int .i64), .fix (.bptr 0 []), .fix (.bptr 1 []), .fix (.bptr 2 [])], [.fix (.bptr 3 []), .fix (.yref 4), .fix (.func (.func 94) .nil (.cons (.bptr 0 []) (.cons (.bptr 1 []) (.cons (.bptr 2 []) .nil)))), .cons (.dat T23) (.cons (.dat (.list T72)) (.cons (.fix (.mref 5)) (.nil))), .lp 26 0 (.cons (.any) (.cons (.any) (.cons (.any) (.cons (.any) (.cons (.any) (.cons (.any) (.cons (.any) (.cons (.any) (.cons (.any) (.cons (.any) (.cons (.fix (.bptr 6 [])) (.cons (.fix (.bptr 7 [])) AN61)))))))))))), .map T56 T94, .cons (.dat (.int .i64)) (.cons (.dat (.int .i64)) (.nil)), .dat .bool], 0, [.fix (.bptr 3 []), .fix (.yref 4), .fix (.func (.func 94) .nil (.cons (.bptr 0 []) (.cons (.bptr 1 []) (.cons (.bptr 2 []) .nil)))), .cons (.dat T23) (.cons (.dat (.list T72)) (.cons (.fix (.mref 5)) (.nil))), .lp 26 0 (.cons (.any) (.cons (.any) (.cons (.any) (.cons (.any) (.cons (.any) (.cons (.any) (.cons (.any) (.cons (.any) (.cons (.any) (.cons (.any) (.cons (.fix (.bptr 6 [])) (.cons (.fix (.bptr 7 [])) AN61)))))))))))), .map T56 T94, .cons (.dat (.int .i64)) (.cons (.dat (.int .i64)) (.nil)), .dat .bool], 0, .dat .bool⟩
abbrev G94_v1_RT : Type := G94_v1_CS.In → Option G94_v1_CS.Out
noncomputable def G94_v1_C (rc : G94_v1_RT) : CalT := tabC [G52_E, G26_E, G64_E, (boxE 94 G94_v1_CS rc)]
theorem G94_v1_CV (rc : G94_v1_RT) (hr : (boxE 94 G94_v1_CS rc).Valid Tryd.prog) : CV Tryd.prog (G94_v1_C rc) := tabC_valid (l := _) ⟨G52_valid, G26_valid, G64_valid, hr, trivial⟩
noncomputable def G94_v1_l0_c : Code := loopAt (bodyOf Tryd.f94) 0
abbrev PA50 : PTy := (.cons (.any) (.cons (.any) (.cons (.any) (.cons (.any) (.cons (.any) (.cons (.any) (.cons (.any) (.cons (.any) (.cons (.any) (.cons (.any) (.cons (.fix (.bptr 6 [])) (.cons (.fix (.bptr 7 [])) AN61))))))))))))
noncomputable def G94_v1_l0_S : SPat := ⟨[.dat (.int .i64), .any, .dat (.int .i64), .fix (.bptr 0 []), .any, .fix (.bptr 2 []), .any, .any, .any, .dat .bool, .dat (.int .i64), .any, .any, .any, .any, .any, .any, .any, .any, .any, .any, .any, .any, .any, .any, .any, .any, .any, .any, .any, .any, .any, .any, .any, .any, .any, .any, .any, .any, .any], [.fix (.bptr 3 []), .fix (.yref 4), .fix (.func (.func 94) .nil (.cons (.bptr 0 []) (.cons (.bptr 1 []) (.cons (.bptr 2 []) .nil)))), .cons (.dat T23) (.cons (.dat (.list T72)) (.cons (.fix (.mref 5)) (.nil))), .lp 26 0 PA50, .map T56 T94, .cons (.dat (.int .i64)) (.cons (.dat (.int .i64)) (.nil)), .dat .bool], 0⟩
abbrev TY51 : Type := ((Int × (Int × (Bool × (Int × Unit)))) × ((E23 × ((List E72) × (Unit × Unit))) × ((Nat × UT73) × ((List (E56 × E94)) × ((Int × (Int × Unit)) × (Bool × Unit))))))
abbrev TY52 : Type := (Nat × ((Int × (Int × (Bool × (Int × Unit)))) × ((E23 × ((List E72) × (Unit × Unit))) × ((Nat × UT73) × ((List (E56 × E94)) × ((Int × (Int × Unit)) × (Bool × Unit)))))))
noncomputable def G94_v1_l0_step (rc : G94_v1_RT) (s : TY51) : Option TY52 :=
  (Option.bind (G64 (s.2.1.1, (s.2.1.2.1, ((), s.2.1.2.2.2)))) fun r3 =>
  (bif (decide (s.1.2.2.2.1 < r3)) then
    (bif (!decide (s.1.2.2.2.1 < 0)) then
      (Option.bind (rc (((IntKind.wrap .i64 (s.1.1 - 1)), ((IntKind.wrap .i64 (s.1.2.2.2.1 + 1)), ((IntKind.wrap .i64 ((BitVec.toNat ((BitVec.ofInt (IntKind.bits .i64) s.1.2.1) ||| (BitVec.ofInt (IntKind.bits .i64) (IntKind.wrap .i64 (1 * 2 ^ (min (Int.toNat s.1.2.2.2.1) (IntKind.bits .i64)))))) : Nat) : Int)), ()))), ((s.2.1.1, (s.2.1.2.1, ((), s.2.1.2.2.2))), ((s.2.2.1.1, UC73), (s.2.2.2.1, (s.2.2.2.2.1, (s.2.2.2.2.2.1, ()))))))) fun r4 =>
        (bif (!r4.1) then
          some (1, ((s.1.1, (s.1.2.1, (false, (s.1.2.2.2.1, ())))), ((r4.2.1.1, (r4.2.1.2.1, ((), r4.2.1.2.2.2))), ((r4.2.2.1.1, UC73), (r4.2.2.2.1, (r4.2.2.2.2.1, (r4.2.2.2.2.2.1, ())))))))
          else
          some (0, ((s.1.1, (s.1.2.1, (s.1.2.2.1, ((IntKind.wrap .i64 (s.1.2.2.2.1 + 1)), ())))), ((r4.2.1.1, (r4.2.1.2.1, ((), r4.2.1.2.2.2))), ((r4.2.2.1.1, UC73), (r4.2.2.2.1, (r4.2.2.2.2.1, (r4.2.2.2.2.2.1, ())))))))))
      else
      none)
    else
    some (2, ((s.1.1, (s.1.2.1, (s.1.2.2.1, (s.1.2.2.2.1, ())))), ((s.2.1.1, (s.2.1.2.1, ((), s.2.1.2.2.2))), ((s.2.2.1.1, UC73), (s.2.2.2.1, (s.2.2.2.2.1, (s.2.2.2.2.2.1, ())))))))))
noncomputable def G94_v1_l0_fuel (s : TY51) : Nat := 100000
noncomputable def G94_v1_l0_run (rc : G94_v1_RT) (s : TY51) : Option TY52 := iter (G94_v1_l0_step rc) (G94_v1_l0_fuel s) s
noncomputable def G94_v1_l0_L (rc : G94_v1_RT) : LoopT := loopT G94_v1_l0_S [.ret, .exit 0] (G94_v1_l0_run rc)
abbrev TY53 : Type := ((Nat × UT73) × ((List (E56 × E94)) × ((Int × (Int × Unit)) × (Bool × Unit))))
noncomputable def G94_v1_b (rc : G94_v1_RT) (a0 : Int) (a1 : Int) (a2 : Int) (b3 : (E23 × ((List E72) × (Unit × Unit)))) (b4 : (Nat × UT73)) (b5 : (List (E56 × E94))) (b6 : (Int × (Int × Unit))) (b7 : Bool) : Option (Bool × ((E23 × ((List E72) × (Unit × Unit))) × TY53)) :=
  (bif (a0 == 0) then
  (Option.bind (G52 a2 (b3.1, (b3.2.1, ((), b3.2.2.2))) b5) fun r1 =>
    (bif (!r1.1) then
      some (true, ((r1.2.1.1, (r1.2.1.2.1, ((), r1.2.1.2.2.2))), ((b4.1, UC73), (r1.2.2.1, (b6, (b7, ()))))))
      else
      (Option.bind (G26 a2 (b4.1, UC73) b6 b7) fun r2 =>
        some (r2.1, ((r1.2.1.1, (r1.2.1.2.1, ((), r1.2.1.2.2.2))), ((r2.2.1.1, UC73), (r1.2.2.1, (r2.2.2.1, (r2.2.2.2.1, ())))))))))
  else
  (Option.bind (G94_v1_l0_run rc ((a0, (a2, (false, (a1, ())))), ((b3.1, (b3.2.1, ((), b3.2.2.2))), ((b4.1, UC73), (b5, (b6, (b7, ()))))))) fun q5 =>
    (natK q5.1
      (some (q5.2.1.2.2.1, ((q5.2.2.1.1, (q5.2.2.1.2.1, ((), q5.2.2.1.2.2.2))), ((q5.2.2.2.1.1, UC73), (q5.2.2.2.2.1, (q5.2.2.2.2.2.1, (q5.2.2.2.2.2.2.1, ())))))))
      (fun _ => some (true, ((q5.2.2.1.1, (q5.2.2.1.2.1, ((), q5.2.2.1.2.2.2))), ((q5.2.2.2.1.1, UC73), (q5.2.2.2.2.1, (q5.2.2.2.2.2.1, (q5.2.2.2.2.2.2.1, ()))))))))))
noncomputable def G94_v1_fix : Nat → G94_v1_RT := recF fun rc x => G94_v1_b rc x.1.1 x.1.2.1 x.1.2.2.1 x.2.1 x.2.2.1 x.2.2.2.1 x.2.2.2.2.1 x.2.2.2.2.2.1
noncomputable def G94_v1 (a0 : Int) (a1 : Int) (a2 : Int) (b3 : (E23 × ((List E72) × (Unit × Unit)))) (b4 : (Nat × UT73)) (b5 : (List (E56 × E94))) (b6 : (Int × (Int × Unit))) (b7 : Bool) : Option (Bool × ((E23 × ((List E72) × (Unit × Unit))) × TY53)) := G94_v1_fix 64 ((a0, (a1, (a2, ()))), (b3, (b4, (b5, (b6, (b7, ()))))))
noncomputable def G94_v1_E : CEnt := boxE 94 G94_v1_CS fun x => G94_v1 x.1.1 x.1.2.1 x.1.2.2.1 x.2.1 x.2.2.1 x.2.2.2.1 x.2.2.2.2.1 x.2.2.2.2.2.1
theorem G94_v1_l0_V (rc : G94_v1_RT) (hr : (boxE 94 G94_v1_CS rc).Valid Tryd.prog) : LValid 8 Tryd.prog (.loop G94_v1_l0_c) (G94_v1_l0_L rc) false := by
  have hb : ∀ s, codeR Tryd.prog (G94_v1_C rc) G94_v1_l0_c [] (G94_v1_l0_S.encE s) (G94_v1_l0_S.encB s) (kst G94_v1_l0_S [.ret, .exit 0]) = G94_v1_l0_step rc s := by
    intro s; kernel_rfl
  have hL : LV 8 Tryd.prog false (loopsOf G94_v1_l0_c) [] := by unfold LV; cases loopsOf G94_v1_l0_c <;> trivial
  exact loopT_valid (fuel := G94_v1_l0_fuel) mixed (G94_v1_CV rc hr) hL (by kernel_rfl) (by decide) rfl hb (fun s r h => h)
theorem G94_v1_LV (rc : G94_v1_RT) (hr : (boxE 94 G94_v1_CS rc).Valid Tryd.prog) : LV 8 Tryd.prog false (loopsOf (bodyOf Tryd.f94)) [(G94_v1_l0_L rc)] := by
  have hl : loopsOf (bodyOf Tryd.f94) = [.loop G94_v1_l0_c] := by kernel_rfl
  rw [hl]; exact ⟨G94_v1_l0_V rc hr, trivial⟩
theorem G94_v1_ent : Ent Tryd.prog 94 := ⟨by decide, enters_of Tryd.func94 (by kernel_rfl) rfl⟩
theorem G94_v1_hev (rc : G94_v1_RT) : ∀ x : G94_v1_CS.In, fnR Tryd.prog (G94_v1_C rc) [(G94_v1_l0_L rc)] Tryd.f94 (bodyOf Tryd.f94) (encs G94_v1_CS.A x.1) ⟨encs G94_v1_CS.I x.2, [], G94_v1_CS.nt⟩ (finK G94_v1_CS) = G94_v1_b rc x.1.1 x.1.2.1 x.1.2.2.1 x.2.1 x.2.2.1 x.2.2.2.1 x.2.2.2.2.1 x.2.2.2.2.2.1 := by
  intro x; kernel_rfl
theorem G94_v1_valid : G94_v1_E.Valid Tryd.prog :=
  rec_valid (S := G94_v1_CS) (body := fun rc x => G94_v1_b rc x.1.1 x.1.2.1 x.1.2.2.1 x.2.1 x.2.2.1 x.2.2.2.1 x.2.2.2.2.1 x.2.2.2.2.2.1) (by kernel_rfl) (.inr G94_v1_ent) (fun rc hr => fn_lcall (S := G94_v1_CS) mixed Tryd.func94 rfl G94_v1_ent (G94_v1_CV rc hr) (G94_v1_LV rc hr) (by kernel_rfl) (by kernel_rfl) (G94_v1_hev rc)) 64
noncomputable def G93_v2_C : CalT := tabC [G94_v1_E]
theorem G93_v2_CV : CV Tryd.prog G93_v2_C := tabC_valid (l := _) ⟨G94_v1_valid, trivial⟩
noncomputable def G93_v2_l0_c : Code := loopAt (bodyOf Tryd.f93) 0
noncomputable def G93_v2_l0_S : SPat := ⟨[.any, .any, .any, .any, .fix (.bptr 8 []), .any, .any, .any, .dat (.int .i64), .dat (.int .i64), .any, .any, .any, .any, .any, .any, .any], [.lp 26 0 PA46, .fix (.bptr 5 []), .dat (.int .i64), .cons (.dat (.int .i64)) (.cons (.dat (.int .i64)) (.nil)), .dat .bool, .cons (.dat T23) (.cons (.dat (.list T72)) (.cons (.fix (.mref 6)) (.nil))), .map T56 T94, .fix (.yref 0), .fix (.func (.func 94) .nil (.cons (.bptr 1 []) (.cons (.bptr 7 []) (.cons (.bptr 8 []) .nil))))], 0⟩
abbrev TY54 : Type := ((Int × (Int × Unit)) × ((Nat × UT73) × (Int × ((Int × (Int × Unit)) × (Bool × ((E23 × ((List E72) × (Unit × Unit))) × ((List (E56 × E94)) × Unit)))))))
abbrev TY55 : Type := (Nat × ((Int × (Int × Unit)) × ((Nat × UT73) × (Int × ((Int × (Int × Unit)) × (Bool × ((E23 × ((List E72) × (Unit × Unit))) × ((List (E56 × E94)) × Unit))))))))
noncomputable def G93_v2_l0_step (s : TY54) : Option TY55 :=
  (bif (decide (s.1.2.1 < s.1.1)) then
  (Option.bind (G94_v1 s.1.2.1 0 0 (s.2.2.2.2.2.1.1, (s.2.2.2.2.2.1.2.1, ((), s.2.2.2.2.2.1.2.2.2))) (s.2.1.1, UC73) s.2.2.2.2.2.2.1 s.2.2.2.1 s.2.2.2.2.1) fun r1 =>
    (bif (!r1.1) then
      some (1, ((s.1.1, (s.1.2.1, ())), ((r1.2.2.1.1, UC73), (s.2.2.1, (r1.2.2.2.2.1, (r1.2.2.2.2.2.1, ((r1.2.1.1, (r1.2.1.2.1, ((), r1.2.1.2.2.2))), (r1.2.2.2.1, ()))))))))
      else
      some (0, ((s.1.1, ((IntKind.wrap .i64 (s.1.2.1 + 1)), ())), ((r1.2.2.1.1, UC73), (s.2.2.1, (r1.2.2.2.2.1, (r1.2.2.2.2.2.1, ((r1.2.1.1, (r1.2.1.2.1, ((), r1.2.1.2.2.2))), (r1.2.2.2.1, ()))))))))))
  else
  some (2, ((s.1.1, (s.1.2.1, ())), ((s.2.1.1, UC73), (s.2.2.1, (s.2.2.2.1, (s.2.2.2.2.1, ((s.2.2.2.2.2.1.1, (s.2.2.2.2.2.1.2.1, ((), s.2.2.2.2.2.1.2.2.2))), (s.2.2.2.2.2.2.1, ())))))))))
noncomputable def G93_v2_l0_fuel (s : TY54) : Nat := Int.toNat (s.1.1 - s.1.2.1) + 1
noncomputable def G93_v2_l0_run (s : TY54) : Option TY55 := iter G93_v2_l0_step (G93_v2_l0_fuel s) s
noncomputable def G93_v2_l0_L : LoopT := loopT G93_v2_l0_S [.ret, .exit 0] G93_v2_l0_run
abbrev TY56 : Type := (Unit × ((Nat × UT73) × (Int × ((Int × (Int × Unit)) × (Bool × ((E23 × ((List E72) × (Unit × Unit))) × ((List (E56 × E94)) × Unit)))))))
noncomputable def G93_v2 (b0 : (Nat × UT73)) (b1 : Int) (b2 : (Int × (Int × Unit))) (b3 : Bool) (b4 : (E23 × ((List E72) × (Unit × Unit)))) (b5 : (List (E56 × E94))) : Option TY56 :=
  (Option.bind (G93_v2_l0_run (((IntKind.wrap .i64 (b1 + 1)), (0, ())), ((b0.1, UC73), (b1, (b2, (b3, ((b4.1, (b4.2.1, ((), b4.2.2.2))), (b5, ())))))))) fun q2 =>
  (natK q2.1
    (some ((), ((q2.2.2.1.1, UC73), (q2.2.2.2.1, (q2.2.2.2.2.1, (q2.2.2.2.2.2.1, ((q2.2.2.2.2.2.2.1.1, (q2.2.2.2.2.2.2.1.2.1, ((), q2.2.2.2.2.2.2.1.2.2.2))), (q2.2.2.2.2.2.2.2.1, ()))))))))
    (fun _ => some ((), ((q2.2.2.1.1, UC73), (q2.2.2.2.1, (q2.2.2.2.2.1, (q2.2.2.2.2.2.1, ((q2.2.2.2.2.2.2.1.1, (q2.2.2.2.2.2.2.1.2.1, ((), q2.2.2.2.2.2.2.1.2.2.2))), (q2.2.2.2.2.2.2.2.1, ()))))))))))
abbrev G93_v2_CS : CSpec := ⟨[.fix (.yref 0), .fix (.bptr 1 []), .fix (.bptr 2 [])], [.lp 26 0 (.cons (.any) (.cons (.any) (.cons (.any) (.cons (.any) (.cons (.any) (.cons (.any) (.cons (.any) (.cons (.any) (.cons (.any) (.cons (.any) (.cons (.fix (.bptr 3 [])) (.cons (.fix (.bptr 4 [])) AN61)))))))))))), .fix (.bptr 5 []), .dat (.int .i64), .cons (.dat (.int .i64)) (.cons (.dat (.int .i64)) (.nil)), .dat .bool, .cons (.dat T23) (.cons (.dat (.list T72)) (.cons (.fix (.mref 6)) (.nil))), .map T56 T94], 0, [.lp 26 0 (.cons (.any) (.cons (.any) (.cons (.any) (.cons (.any) (.cons (.any) (.cons (.any) (.cons (.any) (.cons (.any) (.cons (.any) (.cons (.any) (.cons (.fix (.bptr 3 [])) (.cons (.fix (.bptr 4 [])) AN61)))))))))))), .fix (.bptr 5 []), .dat (.int .i64), .cons (.dat (.int .i64)) (.cons (.dat (.int .i64)) (.nil)), .dat .bool, .cons (.dat T23) (.cons (.dat (.list T72)) (.cons (.fix (.mref 6)) (.nil))), .map T56 T94], 0, .tup (.nil)⟩
noncomputable def G93_v2_E : CEnt := boxE 93 G93_v2_CS fun x => G93_v2 x.2.1 x.2.2.1 x.2.2.2.1 x.2.2.2.2.1 x.2.2.2.2.2.1 x.2.2.2.2.2.2.1
theorem G93_v2_l0_V : LValid 7 Tryd.prog (.loop G93_v2_l0_c) G93_v2_l0_L false := by
  have hb : ∀ s, codeR Tryd.prog G93_v2_C G93_v2_l0_c [] (G93_v2_l0_S.encE s) (G93_v2_l0_S.encB s) (kst G93_v2_l0_S [.ret, .exit 0]) = G93_v2_l0_step s := by
    intro s; kernel_rfl
  have hL : LV 7 Tryd.prog false (loopsOf G93_v2_l0_c) [] := by unfold LV; cases loopsOf G93_v2_l0_c <;> trivial
  exact loopT_valid (fuel := G93_v2_l0_fuel) mixed G93_v2_CV hL (by kernel_rfl) (by decide) rfl hb (fun s r h => h)
theorem G93_v2_LV : LV 7 Tryd.prog false (loopsOf (bodyOf Tryd.f93)) [G93_v2_l0_L] := by
  have hl : loopsOf (bodyOf Tryd.f93) = [.loop G93_v2_l0_c] := by kernel_rfl
  rw [hl]; exact ⟨G93_v2_l0_V, trivial⟩
theorem G93_v2_ent : Ent Tryd.prog 93 := ⟨by decide, enters_of Tryd.func93 (by kernel_rfl) rfl⟩
theorem G93_v2_hev : ∀ x : G93_v2_CS.In, fnR Tryd.prog G93_v2_C [G93_v2_l0_L] Tryd.f93 (bodyOf Tryd.f93) (encs G93_v2_CS.A x.1) ⟨encs G93_v2_CS.I x.2, [], G93_v2_CS.nt⟩ (finK G93_v2_CS) = G93_v2 x.2.1 x.2.2.1 x.2.2.2.1 x.2.2.2.2.1 x.2.2.2.2.2.1 x.2.2.2.2.2.2.1 := by
  intro x; kernel_rfl
theorem G93_v2_valid : G93_v2_E.Valid Tryd.prog :=
  boxE_valid (S := G93_v2_CS) (by kernel_rfl) (.inr G93_v2_ent) (fn_lcall (S := G93_v2_CS) mixed Tryd.func93 rfl G93_v2_ent G93_v2_CV G93_v2_LV (by kernel_rfl) (by kernel_rfl) G93_v2_hev)
noncomputable def G69_C : CalT := tabC []
theorem G69_CV : CV Tryd.prog G69_C := tabC_valid (l := _) trivial
noncomputable def G69 (a0 : E56) (a1 : Int) : Option Bool :=
  (bif (!decide (a1 < 0)) then
  some ((IntKind.wrap .i64 ((BitVec.toNat ((BitVec.ofInt (IntKind.bits .i64) (Int.fdiv a0.1 (2 ^ (min (Int.toNat a1) (IntKind.bits .i64))))) &&& (BitVec.ofInt (IntKind.bits .i64) 1)) : Nat) : Int)) == 0)
  else
  none)
noncomputable def G69_E : CEnt := pureE 69 [.dat T56, .dat (.int .i64)] (.dat .bool) fun x => G69 x.1 x.2.1
theorem G69_LV : LV 0 Tryd.prog false (loopsOf (bodyOf Tryd.f69)) [] := by unfold LV; cases loopsOf (bodyOf Tryd.f69) <;> trivial
theorem G69_ent : Ent Tryd.prog 69 := ⟨by decide, enters_of Tryd.func69 (by kernel_rfl) rfl⟩
theorem G69_hev : ∀ x, fnR Tryd.prog G69_C [] Tryd.f69 (bodyOf Tryd.f69) (encs [.dat T56, .dat (.int .i64)] x) ⟨[], [], 0⟩ (frzF (.dat .bool)) = G69 x.1 x.2.1 := by
  intro x; kernel_rfl
theorem G69_valid : G69_E.Valid Tryd.prog :=
  pureE_valid (by kernel_rfl) (by kernel_rfl) G69_ent (frz_lcall mixed Tryd.func69 rfl G69_ent G69_CV G69_LV (by kernel_rfl) (by kernel_rfl) G69_hev)
noncomputable def G71_C : CalT := tabC []
theorem G71_CV : CV Tryd.prog G71_C := tabC_valid (l := _) trivial
noncomputable def G71 (a0 : E56) (a1 : Int) : Option Bool :=
  (bif (!decide (a1 < 0)) then
  some ((IntKind.wrap .i64 ((BitVec.toNat ((BitVec.ofInt (IntKind.bits .i64) (Int.fdiv a0.2.1 (2 ^ (min (Int.toNat a1) (IntKind.bits .i64))))) &&& (BitVec.ofInt (IntKind.bits .i64) 1)) : Nat) : Int)) == 1)
  else
  none)
noncomputable def G71_E : CEnt := pureE 71 [.dat T56, .dat (.int .i64)] (.dat .bool) fun x => G71 x.1 x.2.1
theorem G71_LV : LV 0 Tryd.prog false (loopsOf (bodyOf Tryd.f71)) [] := by unfold LV; cases loopsOf (bodyOf Tryd.f71) <;> trivial
theorem G71_ent : Ent Tryd.prog 71 := ⟨by decide, enters_of Tryd.func71 (by kernel_rfl) rfl⟩
theorem G71_hev : ∀ x, fnR Tryd.prog G71_C [] Tryd.f71 (bodyOf Tryd.f71) (encs [.dat T56, .dat (.int .i64)] x) ⟨[], [], 0⟩ (frzF (.dat .bool)) = G71 x.1 x.2.1 := by
  intro x; kernel_rfl
theorem G71_valid : G71_E.Valid Tryd.prog :=
  pureE_valid (by kernel_rfl) (by kernel_rfl) G71_ent (frz_lcall mixed Tryd.func71 rfl G71_ent G71_CV G71_LV (by kernel_rfl) (by kernel_rfl) G71_hev)
noncomputable def G70_C : CalT := tabC [G69_E, G71_E]
theorem G70_CV : CV Tryd.prog G70_C := tabC_valid (l := _) ⟨G69_valid, G71_valid, trivial⟩
noncomputable def G70 (a0 : E56) (a1 : Int) : Option Bool :=
  (Option.bind (G69 a0 a1) fun r1 =>
  (bif (!r1) then
    (Option.bind (G71 a0 a1) fun r2 =>
      some (!r2))
    else
    some false))
noncomputable def G70_E : CEnt := pureE 70 [.dat T56, .dat (.int .i64)] (.dat .bool) fun x => G70 x.1 x.2.1
theorem G70_LV : LV 0 Tryd.prog false (loopsOf (bodyOf Tryd.f70)) [] := by unfold LV; cases loopsOf (bodyOf Tryd.f70) <;> trivial
theorem G70_ent : Ent Tryd.prog 70 := ⟨by decide, enters_of Tryd.func70 (by kernel_rfl) rfl⟩
theorem G70_hev : ∀ x, fnR Tryd.prog G70_C [] Tryd.f70 (bodyOf Tryd.f70) (encs [.dat T56, .dat (.int .i64)] x) ⟨[], [], 0⟩ (frzF (.dat .bool)) = G70 x.1 x.2.1 := by
  intro x; kernel_rfl
theorem G70_valid : G70_E.Valid Tryd.prog :=
  pureE_valid (by kernel_rfl) (by kernel_rfl) G70_ent (frz_lcall mixed Tryd.func70 rfl G70_ent G70_CV G70_LV (by kernel_rfl) (by kernel_rfl) G70_hev)
noncomputable def g26_sense_Known_C : CalT := tabC [G49_v3_E, G63_v1_E, G93_v1_E, G63_E, G93_v2_E, G64_E, G69_E, G70_E, G71_E]
theorem g26_sense_Known_CV : CV Tryd.prog g26_sense_Known_C := tabC_valid (l := _) ⟨G49_v3_valid, G63_v1_valid, G93_v1_valid, G63_valid, G93_v2_valid, G64_valid, G69_valid, G70_valid, G71_valid, trivial⟩
noncomputable def g26_sense_Known_l0_c : Code := loopAt (bodyOf Tryd.f26) 1
noncomputable def g26_sense_Known_l1_c : Code := loopAt g26_sense_Known_l0_c 0
noncomputable def g26_sense_Known_f0_L : LoopT := rfT g26_sense_Known_C 26 0 (.tmp 31) [.normal]
abbrev PA57 : PTy := (.cons (.any) (.cons (.any) (.cons (.any) (.cons (.any) (.cons (.any) (.cons (.any) (.cons (.any) (.cons (.any) (.cons (.any) (.cons (.any) (.cons (.fix (.bptr 5 [])) (.cons (.fix (.bptr 6 [])) AN61))))))))))))
noncomputable def g26_sense_Known_l1_S : SPat := ⟨[.any, .any, .any, .any, .any, .any, .any, .any, .any, .any, .any, .any, .any, .fix (.bptr 10 []), .own 0 (.int .i64), .dat (.int .i64), .any, .any, .any, .any, .any, .any, .any, .any, .any, .any, .any, .any, .any, .any, .any, .any, .any, .any, .any, .any, .any, .any, .any, .any, .any, .any, .any, .any, .any, .any, .any, .any, .any, .any, .any, .any, .any, .dat (.int .i64), .dat (.int .i64), .any, .any, .cons (.fnp (.func 69) (.cons (.cons (.dat (.int .i64)) (.cons (.dat (.int .i64)) (.nil))) (.nil)) (.nil)) (.cons (.fnp (.func 70) (.cons (.cons (.dat (.int .i64)) (.cons (.dat (.int .i64)) (.nil))) (.nil)) (.nil)) (.cons (.fnp (.func 71) (.cons (.cons (.dat (.int .i64)) (.cons (.dat (.int .i64)) (.nil))) (.nil)) (.nil)) (.nil))), .dat (.int .i64), .any, .any, .any, .any, .any, .any, .any, .any, .any, .any, .any, .any, .any, .any], [.dat T23, .dat (.int .i64), .dat T23, .map T56 T94, .cons (.dat T23) (.cons (.dat (.list T72)) (.cons (.fix (.mref 3)) (.nil))), .cons (.dat (.int .i64)) (.cons (.dat (.int .i64)) (.nil)), .dat .bool, .fix (.bptr 4 []), .dat (.int .i64), .lp 26 0 PA57, .cons (.fnp (.func 69) (.cons (.cons (.dat (.int .i64)) (.cons (.dat (.int .i64)) (.nil))) (.nil)) (.nil)) (.cons (.fnp (.func 70) (.cons (.cons (.dat (.int .i64)) (.cons (.dat (.int .i64)) (.nil))) (.nil)) (.nil)) (.cons (.fnp (.func 71) (.cons (.cons (.dat (.int .i64)) (.cons (.dat (.int .i64)) (.nil))) (.nil)) (.nil)) (.nil)))], 1⟩
abbrev TY58 : Type := (((List Int) × (Int × (Int × (Int × (((((Int × (Int × Unit)) × Unit) × Unit) × ((((Int × (Int × Unit)) × Unit) × Unit) × ((((Int × (Int × Unit)) × Unit) × Unit) × Unit))) × (Int × Unit)))))) × (E23 × (Int × (E23 × ((List (E56 × E94)) × ((E23 × ((List E72) × (Unit × Unit))) × ((Int × (Int × Unit)) × (Bool × (Int × ((Nat × UT73) × (((((Int × (Int × Unit)) × Unit) × Unit) × ((((Int × (Int × Unit)) × Unit) × Unit) × ((((Int × (Int × Unit)) × Unit) × Unit) × Unit))) × Unit)))))))))))
abbrev TY59 : Type := (Nat × (((List Int) × (Int × (Int × (Int × (((((Int × (Int × Unit)) × Unit) × Unit) × ((((Int × (Int × Unit)) × Unit) × Unit) × ((((Int × (Int × Unit)) × Unit) × Unit) × Unit))) × (Int × Unit)))))) × (E23 × (Int × (E23 × ((List (E56 × E94)) × ((E23 × ((List E72) × (Unit × Unit))) × ((Int × (Int × Unit)) × (Bool × (Int × ((Nat × UT73) × (((((Int × (Int × Unit)) × Unit) × Unit) × ((((Int × (Int × Unit)) × Unit) × Unit) × ((((Int × (Int × Unit)) × Unit) × Unit) × Unit))) × Unit))))))))))))
noncomputable def g26_sense_Known_l1_step (s : TY58) : Option TY59 :=
  (bif (decide (s.1.2.2.2.2.2.1 < 3)) then
  (bif (decide (s.1.2.2.2.2.2.1 = (0 : Int))) then
    (Option.bind (G69 s.1.2.2.2.2.1.1.1.1 s.1.2.1) fun r9 =>
      (bif r9 then
        (bif (decide (List.length s.1.1 + List.length [(IntKind.wrap .i64 ((1 : Int) + s.1.2.2.2.2.2.1))] ≤ LIM)) then
          some (0, (((s.1.1 ++ [(IntKind.wrap .i64 ((1 : Int) + s.1.2.2.2.2.2.1))]), (s.1.2.1, (s.1.2.2.1, (s.1.2.2.2.1, ((((s.1.2.2.2.2.1.1.1.1, ()), ()), (((s.1.2.2.2.2.1.2.1.1.1, ()), ()), (((s.1.2.2.2.2.1.2.2.1.1.1, ()), ()), s.1.2.2.2.2.1.2.2.2))), ((IntKind.wrap .i64 (s.1.2.2.2.2.2.1 + 1)), ())))))), (s.2.1, (s.2.2.1, (s.2.2.2.1, (s.2.2.2.2.1, ((s.2.2.2.2.2.1.1, (s.2.2.2.2.2.1.2.1, ((), s.2.2.2.2.2.1.2.2.2))), (s.2.2.2.2.2.2.1, (s.2.2.2.2.2.2.2.1, (s.2.2.2.2.2.2.2.2.1, ((s.2.2.2.2.2.2.2.2.2.1.1, UC73), ((((s.2.2.2.2.2.2.2.2.2.2.1.1.1.1, ()), ()), (((s.2.2.2.2.2.2.2.2.2.2.1.2.1.1.1, ()), ()), (((s.2.2.2.2.2.2.2.2.2.2.1.2.2.1.1.1, ()), ()), s.2.2.2.2.2.2.2.2.2.2.1.2.2.2))), ()))))))))))))
          else
          none)
        else
        some (0, ((s.1.1, (s.1.2.1, (s.1.2.2.1, (s.1.2.2.2.1, ((((s.1.2.2.2.2.1.1.1.1, ()), ()), (((s.1.2.2.2.2.1.2.1.1.1, ()), ()), (((s.1.2.2.2.2.1.2.2.1.1.1, ()), ()), s.1.2.2.2.2.1.2.2.2))), ((IntKind.wrap .i64 (s.1.2.2.2.2.2.1 + 1)), ())))))), (s.2.1, (s.2.2.1, (s.2.2.2.1, (s.2.2.2.2.1, ((s.2.2.2.2.2.1.1, (s.2.2.2.2.2.1.2.1, ((), s.2.2.2.2.2.1.2.2.2))), (s.2.2.2.2.2.2.1, (s.2.2.2.2.2.2.2.1, (s.2.2.2.2.2.2.2.2.1, ((s.2.2.2.2.2.2.2.2.2.1.1, UC73), ((((s.2.2.2.2.2.2.2.2.2.2.1.1.1.1, ()), ()), (((s.2.2.2.2.2.2.2.2.2.2.1.2.1.1.1, ()), ()), (((s.2.2.2.2.2.2.2.2.2.2.1.2.2.1.1.1, ()), ()), s.2.2.2.2.2.2.2.2.2.2.1.2.2.2))), ()))))))))))))))
    else
    (bif (decide (s.1.2.2.2.2.2.1 = (1 : Int))) then
      (Option.bind (G70 s.1.2.2.2.2.1.2.1.1.1 s.1.2.1) fun r10 =>
        (bif r10 then
          (bif (decide (List.length s.1.1 + List.length [(IntKind.wrap .i64 ((1 : Int) + s.1.2.2.2.2.2.1))] ≤ LIM)) then
            some (0, (((s.1.1 ++ [(IntKind.wrap .i64 ((1 : Int) + s.1.2.2.2.2.2.1))]), (s.1.2.1, (s.1.2.2.1, (s.1.2.2.2.1, ((((s.1.2.2.2.2.1.1.1.1, ()), ()), (((s.1.2.2.2.2.1.2.1.1.1, ()), ()), (((s.1.2.2.2.2.1.2.2.1.1.1, ()), ()), s.1.2.2.2.2.1.2.2.2))), ((IntKind.wrap .i64 (s.1.2.2.2.2.2.1 + 1)), ())))))), (s.2.1, (s.2.2.1, (s.2.2.2.1, (s.2.2.2.2.1, ((s.2.2.2.2.2.1.1, (s.2.2.2.2.2.1.2.1, ((), s.2.2.2.2.2.1.2.2.2))), (s.2.2.2.2.2.2.1, (s.2.2.2.2.2.2.2.1, (s.2.2.2.2.2.2.2.2.1, ((s.2.2.2.2.2.2.2.2.2.1.1, UC73), ((((s.2.2.2.2.2.2.2.2.2.2.1.1.1.1, ()), ()), (((s.2.2.2.2.2.2.2.2.2.2.1.2.1.1.1, ()), ()), (((s.2.2.2.2.2.2.2.2.2.2.1.2.2.1.1.1, ()), ()), s.2.2.2.2.2.2.2.2.2.2.1.2.2.2))), ()))))))))))))
            else
            none)
          else
          some (0, ((s.1.1, (s.1.2.1, (s.1.2.2.1, (s.1.2.2.2.1, ((((s.1.2.2.2.2.1.1.1.1, ()), ()), (((s.1.2.2.2.2.1.2.1.1.1, ()), ()), (((s.1.2.2.2.2.1.2.2.1.1.1, ()), ()), s.1.2.2.2.2.1.2.2.2))), ((IntKind.wrap .i64 (s.1.2.2.2.2.2.1 + 1)), ())))))), (s.2.1, (s.2.2.1, (s.2.2.2.1, (s.2.2.2.2.1, ((s.2.2.2.2.2.1.1, (s.2.2.2.2.2.1.2.1, ((), s.2.2.2.2.2.1.2.2.2))), (s.2.2.2.2.2.2.1, (s.2.2.2.2.2.2.2.1, (s.2.2.2.2.2.2.2.2.1, ((s.2.2.2.2.2.2.2.2.2.1.1, UC73), ((((s.2.2.2.2.2.2.2.2.2.2.1.1.1.1, ()), ()), (((s.2.2.2.2.2.2.2.2.2.2.1.2.1.1.1, ()), ()), (((s.2.2.2.2.2.2.2.2.2.2.1.2.2.1.1.1, ()), ()), s.2.2.2.2.2.2.2.2.2.2.1.2.2.2))), ()))))))))))))))
      else
      (bif (decide (s.1.2.2.2.2.2.1 = (2 : Int))) then
        (Option.bind (G71 s.1.2.2.2.2.1.2.2.1.1.1 s.1.2.1) fun r11 =>
          (bif r11 then
            (bif (decide (List.length s.1.1 + List.length [(IntKind.wrap .i64 ((1 : Int) + s.1.2.2.2.2.2.1))] ≤ LIM)) then
              some (0, (((s.1.1 ++ [(IntKind.wrap .i64 ((1 : Int) + s.1.2.2.2.2.2.1))]), (s.1.2.1, (s.1.2.2.1, (s.1.2.2.2.1, ((((s.1.2.2.2.2.1.1.1.1, ()), ()), (((s.1.2.2.2.2.1.2.1.1.1, ()), ()), (((s.1.2.2.2.2.1.2.2.1.1.1, ()), ()), s.1.2.2.2.2.1.2.2.2))), ((IntKind.wrap .i64 (s.1.2.2.2.2.2.1 + 1)), ())))))), (s.2.1, (s.2.2.1, (s.2.2.2.1, (s.2.2.2.2.1, ((s.2.2.2.2.2.1.1, (s.2.2.2.2.2.1.2.1, ((), s.2.2.2.2.2.1.2.2.2))), (s.2.2.2.2.2.2.1, (s.2.2.2.2.2.2.2.1, (s.2.2.2.2.2.2.2.2.1, ((s.2.2.2.2.2.2.2.2.2.1.1, UC73), ((((s.2.2.2.2.2.2.2.2.2.2.1.1.1.1, ()), ()), (((s.2.2.2.2.2.2.2.2.2.2.1.2.1.1.1, ()), ()), (((s.2.2.2.2.2.2.2.2.2.2.1.2.2.1.1.1, ()), ()), s.2.2.2.2.2.2.2.2.2.2.1.2.2.2))), ()))))))))))))
              else
              none)
            else
            some (0, ((s.1.1, (s.1.2.1, (s.1.2.2.1, (s.1.2.2.2.1, ((((s.1.2.2.2.2.1.1.1.1, ()), ()), (((s.1.2.2.2.2.1.2.1.1.1, ()), ()), (((s.1.2.2.2.2.1.2.2.1.1.1, ()), ()), s.1.2.2.2.2.1.2.2.2))), ((IntKind.wrap .i64 (s.1.2.2.2.2.2.1 + 1)), ())))))), (s.2.1, (s.2.2.1, (s.2.2.2.1, (s.2.2.2.2.1, ((s.2.2.2.2.2.1.1, (s.2.2.2.2.2.1.2.1, ((), s.2.2.2.2.2.1.2.2.2))), (s.2.2.2.2.2.2.1, (s.2.2.2.2.2.2.2.1, (s.2.2.2.2.2.2.2.2.1, ((s.2.2.2.2.2.2.2.2.2.1.1, UC73), ((((s.2.2.2.2.2.2.2.2.2.2.1.1.1.1, ()), ()), (((s.2.2.2.2.2.2.2.2.2.2.1.2.1.1.1, ()), ()), (((s.2.2.2.2.2.2.2.2.2.2.1.2.2.1.1.1, ()), ()), s.2.2.2.2.2.2.2.2.2.2.1.2.2.2))), ()))))))))))))))
        else
        none)))
  else
  some (1, ((s.1.1, (s.1.2.1, (s.1.2.2.1, (s.1.2.2.2.1, ((((s.1.2.2.2.2.1.1.1.1, ()), ()), (((s.1.2.2.2.2.1.2.1.1.1, ()), ()), (((s.1.2.2.2.2.1.2.2.1.1.1, ()), ()), s.1.2.2.2.2.1.2.2.2))), (s.1.2.2.2.2.2.1, ())))))), (s.2.1, (s.2.2.1, (s.2.2.2.1, (s.2.2.2.2.1, ((s.2.2.2.2.2.1.1, (s.2.2.2.2.2.1.2.1, ((), s.2.2.2.2.2.1.2.2.2))), (s.2.2.2.2.2.2.1, (s.2.2.2.2.2.2.2.1, (s.2.2.2.2.2.2.2.2.1, ((s.2.2.2.2.2.2.2.2.2.1.1, UC73), ((((s.2.2.2.2.2.2.2.2.2.2.1.1.1.1, ()), ()), (((s.2.2.2.2.2.2.2.2.2.2.1.2.1.1.1, ()), ()), (((s.2.2.2.2.2.2.2.2.2.2.1.2.2.1.1.1, ()), ()), s.2.2.2.2.2.2.2.2.2.2.1.2.2.2))), ())))))))))))))
noncomputable def g26_sense_Known_l1_fuel (s : TY58) : Nat := Int.toNat (3 - s.1.2.2.2.2.2.1) + 1
noncomputable def g26_sense_Known_l1_run (s : TY58) : Option TY59 := iter g26_sense_Known_l1_step (g26_sense_Known_l1_fuel s) s
noncomputable def g26_sense_Known_l1_L : LoopT := loopT g26_sense_Known_l1_S [.exit 4] g26_sense_Known_l1_run
noncomputable def g26_sense_Known_l0_S : SPat := ⟨[.any, .any, .any, .any, .any, .any, .any, .any, .any, .any, .any, .any, .any, .fix (.bptr 10 []), .own 0 (.int .i64), .any, .any, .any, .any, .any, .any, .any, .any, .any, .any, .any, .any, .any, .any, .any, .any, .any, .any, .any, .any, .any, .any, .any, .any, .any, .any, .any, .any, .any, .any, .any, .any, .any, .any, .any, .any, .any, .any, .dat (.int .i64), .dat (.int .i64), .any, .any, .any, .any, .any, .any, .any, .any, .any, .any, .any, .any, .any, .any, .any, .any, .any, .any], [.dat T23, .dat (.int .i64), .dat T23, .map T56 T94, .cons (.dat T23) (.cons (.dat (.list T72)) (.cons (.fix (.mref 3)) (.nil))), .cons (.dat (.int .i64)) (.cons (.dat (.int .i64)) (.nil)), .dat .bool, .fix (.bptr 4 []), .dat (.int .i64), .lp 26 0 PA57, .cons (.fnp (.func 69) (.cons (.cons (.dat (.int .i64)) (.cons (.dat (.int .i64)) (.nil))) (.nil)) (.nil)) (.cons (.fnp (.func 70) (.cons (.cons (.dat (.int .i64)) (.cons (.dat (.int .i64)) (.nil))) (.nil)) (.nil)) (.cons (.fnp (.func 71) (.cons (.cons (.dat (.int .i64)) (.cons (.dat (.int .i64)) (.nil))) (.nil)) (.nil)) (.nil)))], 1⟩
abbrev TY60 : Type := (((List Int) × (Int × (Int × Unit))) × (E23 × (Int × (E23 × ((List (E56 × E94)) × ((E23 × ((List E72) × (Unit × Unit))) × ((Int × (Int × Unit)) × (Bool × (Int × ((Nat × UT73) × (((((Int × (Int × Unit)) × Unit) × Unit) × ((((Int × (Int × Unit)) × Unit) × Unit) × ((((Int × (Int × Unit)) × Unit) × Unit) × Unit))) × Unit)))))))))))
abbrev TY61 : Type := (Nat × (((List Int) × (Int × (Int × Unit))) × (E23 × (Int × (E23 × ((List (E56 × E94)) × ((E23 × ((List E72) × (Unit × Unit))) × ((Int × (Int × Unit)) × (Bool × (Int × ((Nat × UT73) × (((((Int × (Int × Unit)) × Unit) × Unit) × ((((Int × (Int × Unit)) × Unit) × Unit) × ((((Int × (Int × Unit)) × Unit) × Unit) × Unit))) × Unit))))))))))))
noncomputable def g26_sense_Known_l0_step (s : TY60) : Option TY61 :=
  (bif (decide (s.1.2.2.1 < s.1.2.1)) then
  (Option.bind (g26_sense_Known_l1_run ((s.1.1, (s.1.2.2.1, (s.1.2.1, (s.1.2.2.1, ((((s.2.2.2.2.2.2.2.2.2.2.1.1.1.1, ()), ()), (((s.2.2.2.2.2.2.2.2.2.2.1.2.1.1.1, ()), ()), (((s.2.2.2.2.2.2.2.2.2.2.1.2.2.1.1.1, ()), ()), s.2.2.2.2.2.2.2.2.2.2.1.2.2.2))), (0, ())))))), (s.2.1, (s.2.2.1, (s.2.2.2.1, (s.2.2.2.2.1, ((s.2.2.2.2.2.1.1, (s.2.2.2.2.2.1.2.1, ((), s.2.2.2.2.2.1.2.2.2))), (s.2.2.2.2.2.2.1, (s.2.2.2.2.2.2.2.1, (s.2.2.2.2.2.2.2.2.1, ((s.2.2.2.2.2.2.2.2.2.1.1, UC73), ((((s.2.2.2.2.2.2.2.2.2.2.1.1.1.1, ()), ()), (((s.2.2.2.2.2.2.2.2.2.2.1.2.1.1.1, ()), ()), (((s.2.2.2.2.2.2.2.2.2.2.1.2.2.1.1.1, ()), ()), s.2.2.2.2.2.2.2.2.2.2.1.2.2.2))), ())))))))))))) fun q12 =>
    some (0, ((q12.2.1.1, (q12.2.1.2.2.1, ((IntKind.wrap .i64 (q12.2.1.2.2.2.1 + 1)), ()))), (q12.2.2.1, (q12.2.2.2.1, (q12.2.2.2.2.1, (q12.2.2.2.2.2.1, ((q12.2.2.2.2.2.2.1.1, (q12.2.2.2.2.2.2.1.2.1, ((), q12.2.2.2.2.2.2.1.2.2.2))), (q12.2.2.2.2.2.2.2.1, (q12.2.2.2.2.2.2.2.2.1, (q12.2.2.2.2.2.2.2.2.2.1, ((q12.2.2.2.2.2.2.2.2.2.2.1.1, UC73), ((((q12.2.2.2.2.2.2.2.2.2.2.2.1.1.1.1, ()), ()), (((q12.2.2.2.2.2.2.2.2.2.2.2.1.2.1.1.1, ()), ()), (((q12.2.2.2.2.2.2.2.2.2.2.2.1.2.2.1.1.1, ()), ()), q12.2.2.2.2.2.2.2.2.2.2.2.1.2.2.2))), ())))))))))))))
  else
  some (1, ((s.1.1, (s.1.2.1, (s.1.2.2.1, ()))), (s.2.1, (s.2.2.1, (s.2.2.2.1, (s.2.2.2.2.1, ((s.2.2.2.2.2.1.1, (s.2.2.2.2.2.1.2.1, ((), s.2.2.2.2.2.1.2.2.2))), (s.2.2.2.2.2.2.1, (s.2.2.2.2.2.2.2.1, (s.2.2.2.2.2.2.2.2.1, ((s.2.2.2.2.2.2.2.2.2.1.1, UC73), ((((s.2.2.2.2.2.2.2.2.2.2.1.1.1.1, ()), ()), (((s.2.2.2.2.2.2.2.2.2.2.1.2.1.1.1, ()), ()), (((s.2.2.2.2.2.2.2.2.2.2.1.2.2.1.1.1, ()), ()), s.2.2.2.2.2.2.2.2.2.2.1.2.2.2))), ())))))))))))))
noncomputable def g26_sense_Known_l0_fuel (s : TY60) : Nat := Int.toNat (s.1.2.1 - s.1.2.2.1) + 1
noncomputable def g26_sense_Known_l0_run (s : TY60) : Option TY61 := iter g26_sense_Known_l0_step (g26_sense_Known_l0_fuel s) s
noncomputable def g26_sense_Known_l0_L : LoopT := loopT g26_sense_Known_l0_S [.exit 2] g26_sense_Known_l0_run
noncomputable def g26_sense_Known (a0 : E23) (a1 : (List E72)) (a2 : Int) : Option ((List Int) × (Int × Unit)) :=
  (Option.bind (G49_v3 a0 a1 a2) fun r1 =>
  (altK r1
    (fun r2 => (bif (r2.1.2.1 != 0) then
      some ([], (r2.1.2.1, ()))
      else
      (Option.bind (G63_v1 r2.2.1) fun r4 =>
        (Option.bind (G93_v1 (0, UC73) r4.2.1 (0, ((-1), ())) false) fun r5 =>
          (bif (r5.2.1.1 == 0) then
            (bif (!r5.2.2.2.2.1) then
              some ([], (5, ()))
              else
              none)
            else
            none)))))
    (fun r3 => (bif (r3.1.2.1 != 0) then
      some ([], (r3.1.2.1, ()))
      else
      (Option.bind (G63 r3.2.1 (r3.2.2.2.2.1.1, (r3.2.2.2.2.1.2.1, ((), r3.2.2.2.2.1.2.2.2))) r3.2.2.2.1) fun r6 =>
        (Option.bind (G93_v2 (0, UC73) r6.2.2.2.1 (0, ((-1), ())) false (r6.2.1.1, (r6.2.1.2.1, ((), r6.2.1.2.2.2))) r6.2.2.1) fun r7 =>
          (bif (r7.2.1.1 == 0) then
            (bif (!r7.2.2.2.2.1) then
              some ([], (5, ()))
              else
              (Option.bind (G64 (r7.2.2.2.2.2.1.1, (r7.2.2.2.2.2.1.2.1, ((), r7.2.2.2.2.2.1.2.2.2)))) fun r8 =>
                (Option.bind (g26_sense_Known_l0_run (([], (r8, (0, ()))), (a0, (r3.2.1, (r3.2.2.1, (r7.2.2.2.2.2.2.1, ((r7.2.2.2.2.2.1.1, (r7.2.2.2.2.2.1.2.1, ((), r7.2.2.2.2.2.1.2.2.2))), (r7.2.2.2.1, (r7.2.2.2.2.1, (r7.2.2.1, ((2, UC73), ((((r7.2.2.2.1, ()), ()), (((r7.2.2.2.1, ()), ()), (((r7.2.2.2.1, ()), ()), ()))), ())))))))))))) fun q13 =>
                  some (q13.2.1.1, (0, ())))))
            else
            none)))))))
noncomputable def g26_sense_Known_E : CEnt := pureE 26 [.dat T23, .dat (.list T72), .dat (.int .i64)] (.tup (.cons (.dat (.list (.int .i64))) (.cons (.dat (.int .i64)) (.nil)))) fun x => g26_sense_Known x.1 x.2.1 x.2.2.1
theorem g26_sense_Known_f0_V : LValid 0 Tryd.prog (lcode 26 0) g26_sense_Known_f0_L := rfT_valid' g26_sense_Known_CV (by kernel_rfl)
theorem g26_sense_Known_l1_V : LValid 0 Tryd.prog (.loop g26_sense_Known_l1_c) g26_sense_Known_l1_L false := by
  exact loopT_valid (fuel := g26_sense_Known_l1_fuel) mixed g26_sense_Known_CV (lvNil _) (by kernel_rfl) (by decide) rfl (by intro s; kernel_rfl) (fun s r h => h)
theorem g26_sense_Known_l0_V : LValid 0 Tryd.prog (.loop g26_sense_Known_l0_c) g26_sense_Known_l0_L false := by
  have hb : ∀ s, codeR Tryd.prog g26_sense_Known_C g26_sense_Known_l0_c [g26_sense_Known_l1_L] (g26_sense_Known_l0_S.encE s) (g26_sense_Known_l0_S.encB s) (kst g26_sense_Known_l0_S [.exit 2]) = g26_sense_Known_l0_step s := by
    intro s; kernel_rfl
  have hl : loopsOf g26_sense_Known_l0_c = [.loop g26_sense_Known_l1_c] := by kernel_rfl
  have hL : LV 0 Tryd.prog false (loopsOf g26_sense_Known_l0_c) [g26_sense_Known_l1_L] := by rw [hl]; exact ⟨g26_sense_Known_l1_V, trivial⟩
  exact loopT_valid (fuel := g26_sense_Known_l0_fuel) mixed g26_sense_Known_CV hL (by kernel_rfl) (by decide) rfl hb (fun s r h => h)
theorem g26_sense_Known_LV : LV 0 Tryd.prog false (loopsOf (bodyOf Tryd.f26)) [g26_sense_Known_f0_L, g26_sense_Known_l0_L] := by
  have hl : loopsOf (bodyOf Tryd.f26) = [(lcode 26 0), .loop g26_sense_Known_l0_c] := by kernel_rfl
  rw [hl]; exact ⟨g26_sense_Known_f0_V, g26_sense_Known_l0_V, trivial⟩
theorem g26_sense_Known_ent : Ent Tryd.prog 26 := ⟨by decide, enters_of Tryd.func26 (by kernel_rfl) rfl⟩
theorem g26_sense_Known_hev : ∀ x, fnR Tryd.prog g26_sense_Known_C [g26_sense_Known_f0_L, g26_sense_Known_l0_L] Tryd.f26 (bodyOf Tryd.f26) (encs [.dat T23, .dat (.list T72), .dat (.int .i64)] x) ⟨[], [], 0⟩ (frzF (.tup (.cons (.dat (.list (.int .i64))) (.cons (.dat (.int .i64)) (.nil))))) = g26_sense_Known x.1 x.2.1 x.2.2.1 := by
  intro x; kernel_rfl
theorem g26_sense_Known_valid : g26_sense_Known_E.Valid Tryd.prog :=
  pureE_valid (by kernel_rfl) (by kernel_rfl) g26_sense_Known_ent (frz_lcall mixed Tryd.func26 rfl g26_sense_Known_ent g26_sense_Known_CV g26_sense_Known_LV (by kernel_rfl) (by kernel_rfl) g26_sense_Known_hev)
end Go.Proofs.YtibmgbalfhfcdaaDoor.Abs
set_option linter.unusedVariables false
set_option maxRecDepth 100000
namespace Go.Proofs.YtibmgbalfhfcdaaDoor.Abs
open Go.Shelf Go.Sort
noncomputable def G72_C : CalT := tabC [G64_E, G68_E]
theorem G72_CV : CV Tryd.prog G72_C := tabC_valid (l := _) ⟨G64_valid, G68_valid, trivial⟩
noncomputable def G72 (b0 : (E23 × ((List E72) × (Unit × Unit)))) (b1 : Int) (b2 : Int) (b3 : E23) (b4 : Int) (b5 : (List (E56 × E94))) : Option (Bool × ((E23 × ((List E72) × (Unit × Unit))) × (Int × (Int × (E23 × (Int × ((List (E56 × E94)) × Unit))))))) :=
  (Option.bind (G64 (b0.1, (b0.2.1, ((), b0.2.2.2)))) fun r1 =>
  (Option.bind (G68 b1 0 r1) fun r2 =>
    (bif r2 then
      (Option.bind (G68 b2 0 (IntKind.wrap .i64 (b3.2.2.2.1 - 1))) fun r3 =>
        (bif r3 then
          (Option.bind (G68 b4 0 200) fun r4 =>
            some (r4, ((b0.1, (b0.2.1, ((), b0.2.2.2))), (b1, (b2, (b3, (b4, (b5, ()))))))))
          else
          some (false, ((b0.1, (b0.2.1, ((), b0.2.2.2))), (b1, (b2, (b3, (b4, (b5, ())))))))))
      else
      some (false, ((b0.1, (b0.2.1, ((), b0.2.2.2))), (b1, (b2, (b3, (b4, (b5, ()))))))))))
abbrev G72_CS : CSpec := ⟨[.fix (.bptr 0 []), .fix (.bptr 1 []), .fix (.bptr 2 []), .fix (.bptr 3 []), .fix (.bptr 4 [])], [.cons (.dat T23) (.cons (.dat (.list T72)) (.cons (.fix (.mref 5)) (.nil))), .dat (.int .i64), .dat (.int .i64), .dat T23, .dat (.int .i64), .map T56 T94], 0, [.cons (.dat T23) (.cons (.dat (.list T72)) (.cons (.fix (.mref 5)) (.nil))), .dat (.int .i64), .dat (.int .i64), .dat T23, .dat (.int .i64), .map T56 T94], 0, .dat .bool⟩
noncomputable def G72_E : CEnt := boxE 72 G72_CS fun x => G72 x.2.1 x.2.2.1 x.2.2.2.1 x.2.2.2.2.1 x.2.2.2.2.2.1 x.2.2.2.2.2.2.1
theorem G72_LV : LV 6 Tryd.prog false (loopsOf (bodyOf Tryd.f72)) [] := by unfold LV; cases loopsOf (bodyOf Tryd.f72) <;> trivial
theorem G72_ent : Ent Tryd.prog 72 := ⟨by decide, enters_of Tryd.func72 (by kernel_rfl) rfl⟩
theorem G72_hev : ∀ x : G72_CS.In, fnR Tryd.prog G72_C [] Tryd.f72 (bodyOf Tryd.f72) (encs G72_CS.A x.1) ⟨encs G72_CS.I x.2, [], G72_CS.nt⟩ (finK G72_CS) = G72 x.2.1 x.2.2.1 x.2.2.2.1 x.2.2.2.2.1 x.2.2.2.2.2.1 x.2.2.2.2.2.2.1 := by
  intro x; kernel_rfl
theorem G72_valid : G72_E.Valid Tryd.prog :=
  boxE_valid (S := G72_CS) (by kernel_rfl) (.inr G72_ent) (fn_lcall (S := G72_CS) mixed Tryd.func72 rfl G72_ent G72_CV G72_LV (by kernel_rfl) (by kernel_rfl) G72_hev)
noncomputable def G49_v4_C : CalT := tabC [G83_E, G81_E, G72_E]
theorem G49_v4_CV : CV Tryd.prog G49_v4_C := tabC_valid (l := _) ⟨G83_valid, G81_valid, G72_valid, trivial⟩
abbrev TY62 : Type := (Int × (Int × (E23 × (Int × (E23 × ((List (E56 × E94)) × ((E23 × ((List E72) × (Unit × Unit))) × Unit)))))))
noncomputable def G49_v4 (a0 : E23) (a1 : (List E72)) (b2 : Int) (b3 : Int) (b4 : E23) (b5 : Int) : Option (((Unit × (Int × Unit)) × (Int × (Int × (E23 × (Int × Unit))))) ⊕ ((Unit × (Int × Unit)) × TY62)) :=
  (bif (decide ((List.length a1 : Int) > 24)) then
  some (Sum.inl (((), (3, ())), (b2, (b3, (b4, (b5, ()))))))
  else
  (Option.bind (G83 a0) fun r1 =>
    (bif (!r1) then
      some (Sum.inl (((), (2, ())), (b2, (b3, (b4, (b5, ()))))))
      else
      (Option.bind (G81 a1 a0) fun r2 =>
        (bif r2.1 then
          some (Sum.inl (((), (2, ())), (b2, (b3, (b4, (b5, ()))))))
          else
          (Option.bind (G72 (a0, (a1, ((), ()))) b2 b3 b4 b5 ([] : List (E56 × E94))) fun r3 =>
            (bif (!r3.1) then
              some (Sum.inl (((), (2, ())), (r3.2.2.1, (r3.2.2.2.1, (r3.2.2.2.2.1, (r3.2.2.2.2.2.1, ()))))))
              else
              some (Sum.inr (((), (0, ())), (r3.2.2.1, (r3.2.2.2.1, (r3.2.2.2.2.1, (r3.2.2.2.2.2.1, (r2.2.1, (r3.2.2.2.2.2.2.1, ((r3.2.1.1, (r3.2.1.2.1, ((), r3.2.1.2.2.2))), ()))))))))))))))))
abbrev G49_v4_CS : CSpec := ⟨[.dat T23, .dat (.list T72), .fix (.func (.func 72) .nil (.cons (.bptr 0 []) (.cons (.bptr 1 []) (.cons (.bptr 2 []) (.cons (.bptr 3 []) .nil)))))], [.dat (.int .i64), .dat (.int .i64), .dat T23, .dat (.int .i64)], 0, [.dat (.int .i64), .dat (.int .i64), .dat T23, .dat (.int .i64)], 0, .tup (.cons (.fix .pnil) (.cons (.dat (.int .i64)) (.nil)))⟩
abbrev G49_v4_O2 : List PTy := [.dat (.int .i64), .dat (.int .i64), .dat T23, .dat (.int .i64), .dat T23, .map T56 T94, .cons (.dat T23) (.cons (.dat (.list T72)) (.cons (.fix (.mref 5)) (.nil)))]
abbrev G49_v4_R2 : PTy := .tup (.cons (.fix (.bptr 6 [])) (.cons (.dat (.int .i64)) (.nil)))
noncomputable def G49_v4_E : CEnt := altE 49 G49_v4_CS G49_v4_O2 0 G49_v4_R2 fun x => G49_v4 x.1.1 x.1.2.1 x.2.1 x.2.2.1 x.2.2.2.1 x.2.2.2.2.1
theorem G49_v4_LV : LV 4 Tryd.prog false (loopsOf (bodyOf Tryd.f49)) [] := by unfold LV; cases loopsOf (bodyOf Tryd.f49) <;> trivial
theorem G49_v4_ent : Ent Tryd.prog 49 := ⟨by decide, enters_of Tryd.func49 (by kernel_rfl) rfl⟩
theorem G49_v4_hev : ∀ x : G49_v4_CS.In, fnR Tryd.prog G49_v4_C [] Tryd.f49 (bodyOf Tryd.f49) (encs G49_v4_CS.A x.1) ⟨encs G49_v4_CS.I x.2, [], G49_v4_CS.nt⟩ (finK2 G49_v4_CS G49_v4_O2 0 G49_v4_R2) = G49_v4 x.1.1 x.1.2.1 x.2.1 x.2.2.1 x.2.2.2.1 x.2.2.2.2.1 := by
  intro x; kernel_rfl
theorem G49_v4_valid : G49_v4_E.Valid Tryd.prog :=
  altE_valid (S := G49_v4_CS) (by kernel_rfl) (by kernel_rfl) (.inr G49_v4_ent) (alt_lcall (S := G49_v4_CS) mixed Tryd.func49 rfl G49_v4_ent G49_v4_CV G49_v4_LV (by kernel_rfl) (by kernel_rfl) (by kernel_rfl) (by kernel_rfl) G49_v4_hev)
noncomputable def G93_v3_C : CalT := tabC []
theorem G93_v3_CV : CV Tryd.prog G93_v3_C := tabC_valid (l := _) trivial
noncomputable def G93_v3_l0_c : Code := loopAt (bodyOf Tryd.f93) 0
abbrev AN63 : PTy := (.cons (.any) (.cons (.any) (.cons (.any) (.cons (.any) (.cons (.any) (.cons (.any) (.cons (.any) (.cons (.any) (.cons (.any) (.cons (.any) (.cons (.any) (.cons (.any) (.cons (.any) (.cons (.any) (.cons (.any) (.cons (.any) (.cons (.any) (.cons (.any) (.cons (.any) (.cons (.any) (.cons (.any) (.cons (.any) (.cons (.any) (.cons (.any) (.cons (.any) (.cons (.any) (.cons (.any) (.cons (.any) (.cons (.any) (.cons (.any) (.cons (.any) (.cons (.any) (.cons (.any) (.cons (.any) (.cons (.any) (.cons (.any) (.cons (.any) (.cons (.any) (.cons (.any) (.cons (.any) (.cons (.any) (.cons (.any) (.cons (.any) (.cons (.any) (.cons (.any) (.cons (.any) (.cons (.any) (.cons (.any) (.cons (.any) (.cons (.any) (.cons (.any) (.cons (.any) (.cons (.any) (.cons (.any) (.cons (.any) (.cons (.any) (.cons (.any) (.cons (.any) (.cons (.any) (.cons (.any) (.cons (.any) (.cons (.any) (.cons (.any) (.nil))))))))))))))))))))))))))))))))))))))))))))))))))))))))))))))))
abbrev PA63 : PTy := (.cons (.any) (.cons (.any) (.cons (.any) (.cons (.any) (.cons (.any) (.cons (.any) (.cons (.any) (.cons (.any) (.cons (.fix (.bptr 3 [])) (.cons (.fix (.bptr 4 [])) (.cons (.any) (.cons (.any) (.cons (.fix (.bptr 5 [])) (.cons (.any) (.cons (.fix (.bptr 6 [])) (.cons (.fix (.bptr 7 [])) AN63))))))))))))))))
noncomputable def G93_v3_l0_S : SPat := ⟨[.any, .any, .any, .any, .fix (.bptr 9 []), .any, .any, .any, .dat (.int .i64), .dat (.int .i64), .any, .any, .any, .any, .any, .any, .any], [.lp 28 0 PA63, .fix .pnil, .dat (.int .i64), .dat (.int .i64), .dat (.int .i64), .fix .pnil, .cons (.dat (.int .i64)) (.cons (.dat (.int .i64)) (.nil)), .dat .bool, .fix (.yref 0), .fix (.func (.func 94) .nil (.cons (.bptr 1 []) (.cons (.bptr 8 []) (.cons (.bptr 9 []) .nil))))], 0⟩
abbrev UT79 : Type := (Unit × (Unit × (Unit × (Unit × (Unit × (Unit × (Unit × (Unit × (Unit × (Unit × (Unit × (Unit × (Unit × (Unit × (Unit × (Unit × (Unit × (Unit × (Unit × (Unit × (Unit × (Unit × (Unit × (Unit × (Unit × (Unit × (Unit × (Unit × (Unit × (Unit × (Unit × (Unit × (Unit × (Unit × (Unit × (Unit × (Unit × (Unit × (Unit × (Unit × (Unit × (Unit × (Unit × (Unit × (Unit × (Unit × (Unit × (Unit × (Unit × (Unit × (Unit × (Unit × (Unit × (Unit × (Unit × (Unit × (Unit × (Unit × (Unit × (Unit × (Unit × (Unit × (Unit × (Unit × (Unit × (Unit × (Unit × (Unit × (Unit × (Unit × (Unit × (Unit × (Unit × (Unit × (Unit × (Unit × (Unit × (Unit × (Unit × Unit)))))))))))))))))))))))))))))))))))))))))))))))))))))))))))))))))))))))))))))))
abbrev UC79 : (Unit × (Unit × (Unit × (Unit × (Unit × (Unit × (Unit × (Unit × (Unit × (Unit × (Unit × (Unit × (Unit × (Unit × (Unit × (Unit × (Unit × (Unit × (Unit × (Unit × (Unit × (Unit × (Unit × (Unit × (Unit × (Unit × (Unit × (Unit × (Unit × (Unit × (Unit × (Unit × (Unit × (Unit × (Unit × (Unit × (Unit × (Unit × (Unit × (Unit × (Unit × (Unit × (Unit × (Unit × (Unit × (Unit × (Unit × (Unit × (Unit × (Unit × (Unit × (Unit × (Unit × (Unit × (Unit × (Unit × (Unit × (Unit × (Unit × (Unit × (Unit × (Unit × (Unit × (Unit × (Unit × (Unit × (Unit × (Unit × (Unit × (Unit × (Unit × (Unit × (Unit × (Unit × (Unit × (Unit × (Unit × (Unit × (Unit × Unit))))))))))))))))))))))))))))))))))))))))))))))))))))))))))))))))))))))))))))))) := ((), ((), ((), ((), ((), ((), ((), ((), ((), ((), ((), ((), ((), ((), ((), ((), ((), ((), ((), ((), ((), ((), ((), ((), ((), ((), ((), ((), ((), ((), ((), ((), ((), ((), ((), ((), ((), ((), ((), ((), ((), ((), ((), ((), ((), ((), ((), ((), ((), ((), ((), ((), ((), ((), ((), ((), ((), ((), ((), ((), ((), ((), ((), ((), ((), ((), ((), ((), ((), ((), ((), ((), ((), ((), ((), ((), ((), ((), ((), ())))))))))))))))))))))))))))))))))))))))))))))))))))))))))))))))))))))))))))))))
abbrev TY64 : Type := ((Int × (Int × Unit)) × ((Nat × UT79) × (Int × (Int × (Int × ((Int × (Int × Unit)) × (Bool × Unit)))))))
abbrev TY65 : Type := (Nat × ((Int × (Int × Unit)) × ((Nat × UT79) × (Int × (Int × (Int × ((Int × (Int × Unit)) × (Bool × Unit))))))))
noncomputable def G93_v3_l0_step (s : TY64) : Option TY65 :=
  (bif (decide (s.1.2.1 < s.1.1)) then
  none
  else
  some (1, ((s.1.1, (s.1.2.1, ())), ((s.2.1.1, UC79), (s.2.2.1, (s.2.2.2.1, (s.2.2.2.2.1, (s.2.2.2.2.2.1, (s.2.2.2.2.2.2.1, ())))))))))
noncomputable def G93_v3_l0_fuel (s : TY64) : Nat := Int.toNat (s.1.1 - s.1.2.1) + 1
noncomputable def G93_v3_l0_run (s : TY64) : Option TY65 := iter G93_v3_l0_step (G93_v3_l0_fuel s) s
noncomputable def G93_v3_l0_L : LoopT := loopT G93_v3_l0_S [.exit 0] G93_v3_l0_run
abbrev TY66 : Type := (Unit × ((Nat × UT79) × (Int × (Int × (Int × ((Int × (Int × Unit)) × (Bool × Unit)))))))
noncomputable def G93_v3 (b0 : (Nat × UT79)) (b1 : Int) (b2 : Int) (b3 : Int) (b4 : (Int × (Int × Unit))) (b5 : Bool) : Option TY66 :=
  (Option.bind (G93_v3_l0_run (((IntKind.wrap .i64 (b1 + 1)), (0, ())), ((b0.1, UC79), (b1, (b2, (b3, (b4, (b5, ())))))))) fun q1 =>
  some ((), ((q1.2.2.1.1, UC79), (q1.2.2.2.1, (q1.2.2.2.2.1, (q1.2.2.2.2.2.1, (q1.2.2.2.2.2.2.1, (q1.2.2.2.2.2.2.2.1, ()))))))))
abbrev G93_v3_CS : CSpec := ⟨[.fix (.yref 0), .fix (.bptr 1 []), .fix (.bptr 2 [])], [.lp 28 0 (.cons (.any) (.cons (.any) (.cons (.any) (.cons (.any) (.cons (.any) (.cons (.any) (.cons (.any) (.cons (.any) (.cons (.fix (.bptr 3 [])) (.cons (.fix (.bptr 4 [])) (.cons (.any) (.cons (.any) (.cons (.fix (.bptr 5 [])) (.cons (.any) (.cons (.fix (.bptr 6 [])) (.cons (.fix (.bptr 7 [])) AN63)))))))))))))))), .fix .pnil, .dat (.int .i64), .dat (.int .i64), .dat (.int .i64), .fix .pnil, .cons (.dat (.int .i64)) (.cons (.dat (.int .i64)) (.nil)), .dat .bool], 0, [.lp 28 0 (.cons (.any) (.cons (.any) (.cons (.any) (.cons (.any) (.cons (.any) (.cons (.any) (.cons (.any) (.cons (.any) (.cons (.fix (.bptr 3 [])) (.cons (.fix (.bptr 4 [])) (.cons (.any) (.cons (.any) (.cons (.fix (.bptr 5 [])) (.cons (.any) (.cons (.fix (.bptr 6 [])) (.cons (.fix (.bptr 7 [])) AN63)))))))))))))))), .fix .pnil, .dat (.int .i64), .dat (.int .i64), .dat (.int .i64), .fix .pnil, .cons (.dat (.int .i64)) (.cons (.dat (.int .i64)) (.nil)), .dat .bool], 0, .tup (.nil)⟩
noncomputable def G93_v3_E : CEnt := boxE 93 G93_v3_CS fun x => G93_v3 x.2.1 x.2.2.1 x.2.2.2.1 x.2.2.2.2.1 x.2.2.2.2.2.1 x.2.2.2.2.2.2.1
theorem G93_v3_l0_V : LValid 8 Tryd.prog (.loop G93_v3_l0_c) G93_v3_l0_L false := by
  have hb : ∀ s, codeR Tryd.prog G93_v3_C G93_v3_l0_c [] (G93_v3_l0_S.encE s) (G93_v3_l0_S.encB s) (kst G93_v3_l0_S [.exit 0]) = G93_v3_l0_step s := by
    intro s; kernel_rfl
  have hL : LV 8 Tryd.prog false (loopsOf G93_v3_l0_c) [] := by unfold LV; cases loopsOf G93_v3_l0_c <;> trivial
  exact loopT_valid (fuel := G93_v3_l0_fuel) mixed G93_v3_CV hL (by kernel_rfl) (by decide) rfl hb (fun s r h => h)
theorem G93_v3_LV : LV 8 Tryd.prog false (loopsOf (bodyOf Tryd.f93)) [G93_v3_l0_L] := by
  have hl : loopsOf (bodyOf Tryd.f93) = [.loop G93_v3_l0_c] := by kernel_rfl
  rw [hl]; exact ⟨G93_v3_l0_V, trivial⟩
theorem G93_v3_ent : Ent Tryd.prog 93 := ⟨by decide, enters_of Tryd.func93 (by kernel_rfl) rfl⟩
theorem G93_v3_hev : ∀ x : G93_v3_CS.In, fnR Tryd.prog G93_v3_C [G93_v3_l0_L] Tryd.f93 (bodyOf Tryd.f93) (encs G93_v3_CS.A x.1) ⟨encs G93_v3_CS.I x.2, [], G93_v3_CS.nt⟩ (finK G93_v3_CS) = G93_v3 x.2.1 x.2.2.1 x.2.2.2.1 x.2.2.2.2.1 x.2.2.2.2.2.1 x.2.2.2.2.2.2.1 := by
  intro x; kernel_rfl
theorem G93_v3_valid : G93_v3_E.Valid Tryd.prog :=
  boxE_valid (S := G93_v3_CS) (by kernel_rfl) (.inr G93_v3_ent) (fn_lcall (S := G93_v3_CS) mixed Tryd.func93 rfl G93_v3_ent G93_v3_CV G93_v3_LV (by kernel_rfl) (by kernel_rfl) G93_v3_hev)
noncomputable def G28_C : CalT := tabC [G54_E]
theorem G28_CV : CV Tryd.prog G28_C := tabC_valid (l := _) ⟨G54_valid, trivial⟩
noncomputable def G28_l0_c : Code := loopAt (rfBody (lcode 28 0)) 0
abbrev PA67 : PTy := (.cons (.any) (.cons (.any) (.cons (.any) (.cons (.any) (.cons (.any) (.cons (.any) (.cons (.any) (.cons (.any) (.cons (.fix (.bptr 1 [])) (.cons (.fix (.bptr 2 [])) (.cons (.any) (.cons (.any) (.cons (.fix (.bptr 3 [])) (.cons (.any) (.cons (.fix (.bptr 4 [])) (.cons (.fix (.bptr 5 [])) AN63))))))))))))))))
noncomputable def G28_l0_S : SPat := ⟨[.any, .any, .any, .any, .any, .any, .any, .any, .any, .fix (.bptr 2 []), .any, .any, .any, .any, .fix (.bptr 4 []), .fix (.bptr 5 []), .any, .any, .any, .any, .any, .any, .any, .any, .any, .any, .any, .any, .any, .any, .any, .any, .any, .any, .any, .any, .any, .any, .any, .dat (.arr 41 T56), .dat (.int .i64), .any, .any, .any, .any, .any, .any, .any, .any, .any, .any, .any, .any, .any, .any, .any, .any, .any, .any, .any, .any, .any, .any, .any, .any, .any, .any, .any, .any, .any, .any, .any, .any, .any, .any, .any, .any, .any, .any], [.lp 28 0 PA67, .dat (.int .i64), .dat (.int .i64), .fix (.bptr 6 []), .cons (.dat (.int .i64)) (.cons (.dat (.int .i64)) (.nil)), .dat .bool, .cons (.dat T23) (.cons (.dat (.list T72)) (.cons (.fix (.mref 7)) (.nil))), .map T56 T94], 0⟩
abbrev TY68 : Type := (((List E56) × (Int × Unit)) × ((Nat × UT79) × (Int × (Int × ((Int × (Int × Unit)) × (Bool × ((E23 × ((List E72) × (Unit × Unit))) × ((List (E56 × E94)) × Unit))))))))
abbrev TY69 : Type := (Nat × (((List E56) × (Int × Unit)) × ((Nat × UT79) × (Int × (Int × ((Int × (Int × Unit)) × (Bool × ((E23 × ((List E72) × (Unit × Unit))) × ((List (E56 × E94)) × Unit)))))))))
noncomputable def G28_l0_step (s : TY68) : Option TY69 :=
  (bif (decide (s.1.2.1 < 41)) then
  (bif (decide (0 ≤ s.1.2.1) && decide (s.1.2.1 < (41 : Int))) then
    (bif (decide ((List.getD s.1.1 (Int.toNat s.1.2.1) (0, (0, ()))).1 < 0)) then
      some (0, ((s.1.1, ((IntKind.wrap .i64 (s.1.2.1 + 1)), ())), ((s.2.1.1, UC79), (s.2.2.1, (s.2.2.2.1, (s.2.2.2.2.1, (s.2.2.2.2.2.1, ((s.2.2.2.2.2.2.1.1, (s.2.2.2.2.2.2.1.2.1, ((), s.2.2.2.2.2.2.1.2.2.2))), (s.2.2.2.2.2.2.2.1, ())))))))))
      else
      (bif (!s.2.2.2.2.2.1) then
        some (0, ((s.1.1, ((IntKind.wrap .i64 (s.1.2.1 + 1)), ())), ((s.2.1.1, UC79), (s.2.2.1, (s.2.2.2.1, (((if (IntKind.wrap .i64 ((List.getD s.1.1 (Int.toNat s.1.2.1) (0, (0, ()))).1 + (IntKind.wrap .i64 ((IntKind.wrap .i64 (s.1.2.1 - 20)) * s.2.2.2.1)))) < (IntKind.wrap .i64 ((List.getD s.1.1 (Int.toNat s.1.2.1) (0, (0, ()))).1 + (IntKind.wrap .i64 ((IntKind.wrap .i64 (s.1.2.1 - 20)) * s.2.2.2.1)))) then (IntKind.wrap .i64 ((List.getD s.1.1 (Int.toNat s.1.2.1) (0, (0, ()))).1 + (IntKind.wrap .i64 ((IntKind.wrap .i64 (s.1.2.1 - 20)) * s.2.2.2.1)))) else (IntKind.wrap .i64 ((List.getD s.1.1 (Int.toNat s.1.2.1) (0, (0, ()))).1 + (IntKind.wrap .i64 ((IntKind.wrap .i64 (s.1.2.1 - 20)) * s.2.2.2.1))))), ((if (IntKind.wrap .i64 ((List.getD s.1.1 (Int.toNat s.1.2.1) (0, (0, ()))).2.1 + (IntKind.wrap .i64 ((IntKind.wrap .i64 (s.1.2.1 - 20)) * s.2.2.2.1)))) > (IntKind.wrap .i64 ((List.getD s.1.1 (Int.toNat s.1.2.1) (0, (0, ()))).2.1 + (IntKind.wrap .i64 ((IntKind.wrap .i64 (s.1.2.1 - 20)) * s.2.2.2.1)))) then (IntKind.wrap .i64 ((List.getD s.1.1 (Int.toNat s.1.2.1) (0, (0, ()))).2.1 + (IntKind.wrap .i64 ((IntKind.wrap .i64 (s.1.2.1 - 20)) * s.2.2.2.1)))) else (IntKind.wrap .i64 ((List.getD s.1.1 (Int.toNat s.1.2.1) (0, (0, ()))).2.1 + (IntKind.wrap .i64 ((IntKind.wrap .i64 (s.1.2.1 - 20)) * s.2.2.2.1))))), ())), (true, ((s.2.2.2.2.2.2.1.1, (s.2.2.2.2.2.2.1.2.1, ((), s.2.2.2.2.2.2.1.2.2.2))), (s.2.2.2.2.2.2.2.1, ())))))))))
        else
        some (0, ((s.1.1, ((IntKind.wrap .i64 (s.1.2.1 + 1)), ())), ((s.2.1.1, UC79), (s.2.2.1, (s.2.2.2.1, (((if (IntKind.wrap .i64 ((List.getD s.1.1 (Int.toNat s.1.2.1) (0, (0, ()))).1 + (IntKind.wrap .i64 ((IntKind.wrap .i64 (s.1.2.1 - 20)) * s.2.2.2.1)))) < s.2.2.2.2.1.1 then (IntKind.wrap .i64 ((List.getD s.1.1 (Int.toNat s.1.2.1) (0, (0, ()))).1 + (IntKind.wrap .i64 ((IntKind.wrap .i64 (s.1.2.1 - 20)) * s.2.2.2.1)))) else s.2.2.2.2.1.1), ((if (IntKind.wrap .i64 ((List.getD s.1.1 (Int.toNat s.1.2.1) (0, (0, ()))).2.1 + (IntKind.wrap .i64 ((IntKind.wrap .i64 (s.1.2.1 - 20)) * s.2.2.2.1)))) > s.2.2.2.2.1.2.1 then (IntKind.wrap .i64 ((List.getD s.1.1 (Int.toNat s.1.2.1) (0, (0, ()))).2.1 + (IntKind.wrap .i64 ((IntKind.wrap .i64 (s.1.2.1 - 20)) * s.2.2.2.1)))) else s.2.2.2.2.1.2.1), ())), (s.2.2.2.2.2.1, ((s.2.2.2.2.2.2.1.1, (s.2.2.2.2.2.2.1.2.1, ((), s.2.2.2.2.2.2.1.2.2.2))), (s.2.2.2.2.2.2.2.1, ())))))))))))
    else
    none)
  else
  some (1, ((s.1.1, (s.1.2.1, ())), ((s.2.1.1, UC79), (s.2.2.1, (s.2.2.2.1, (s.2.2.2.2.1, (s.2.2.2.2.2.1, ((s.2.2.2.2.2.2.1.1, (s.2.2.2.2.2.2.1.2.1, ((), s.2.2.2.2.2.2.1.2.2.2))), (s.2.2.2.2.2.2.2.1, ()))))))))))
noncomputable def G28_l0_fuel (s : TY68) : Nat := Int.toNat (41 - s.1.2.1) + 1
noncomputable def G28_l0_run (s : TY68) : Option TY69 := iter G28_l0_step (G28_l0_fuel s) s
noncomputable def G28_l0_L : LoopT := loopT G28_l0_S [.exit 2] G28_l0_run
abbrev TY70 : Type := ((Nat × UT79) × (Int × (Int × ((Int × (Int × Unit)) × (Bool × ((E23 × ((List E72) × (Unit × Unit))) × ((List (E56 × E94)) × Unit)))))))
noncomputable def G28 (a0 : Int) (b1 : (Nat × UT79)) (b2 : Int) (b3 : Int) (b4 : (Int × (Int × Unit))) (b5 : Bool) (b6 : (E23 × ((List E72) × (Unit × Unit)))) (b7 : (List (E56 × E94))) : Option (Bool × TY70) :=
  (natK b1.1
  ((Option.bind (G54 b2 a0 (b6.1, (b6.2.1, ((), b6.2.2.2))) b7) fun r1 =>
    (Option.bind (G28_l0_run ((r1.1.1, (0, ())), ((1, UC79), (b2, (b3, (b4, (b5, ((r1.2.1.1, (r1.2.1.2.1, ((), r1.2.1.2.2.2))), (r1.2.2.1, ()))))))))) fun q2 =>
      (bif (q2.2.2.1.1 == 1) then
        some (true, ((0, UC79), (q2.2.2.2.1, (q2.2.2.2.2.1, (q2.2.2.2.2.2.1, (q2.2.2.2.2.2.2.1, ((q2.2.2.2.2.2.2.2.1.1, (q2.2.2.2.2.2.2.2.1.2.1, ((), q2.2.2.2.2.2.2.2.1.2.2.2))), (q2.2.2.2.2.2.2.2.2.1, ()))))))))
        else
        none))))
  (fun _ => none))
abbrev G28_CS : CSpec := ⟨[.fix (.yref 0), .dat (.int .i64)], [.lp 28 0 (.cons (.any) (.cons (.any) (.cons (.any) (.cons (.any) (.cons (.any) (.cons (.any) (.cons (.any) (.cons (.any) (.cons (.fix (.bptr 1 [])) (.cons (.fix (.bptr 2 [])) (.cons (.any) (.cons (.any) (.cons (.fix (.bptr 3 [])) (.cons (.any) (.cons (.fix (.bptr 4 [])) (.cons (.fix (.bptr 5 [])) AN63)))))))))))))))), .dat (.int .i64), .dat (.int .i64), .fix (.bptr 6 []), .cons (.dat (.int .i64)) (.cons (.dat (.int .i64)) (.nil)), .dat .bool, .cons (.dat T23) (.cons (.dat (.list T72)) (.cons (.fix (.mref 7)) (.nil))), .map T56 T94], 0, [.lp 28 0 (.cons (.any) (.cons (.any) (.cons (.any) (.cons (.any) (.cons (.any) (.cons (.any) (.cons (.any) (.cons (.any) (.cons (.fix (.bptr 1 [])) (.cons (.fix (.bptr 2 [])) (.cons (.any) (.cons (.any) (.cons (.fix (.bptr 3 [])) (.cons (.any) (.cons (.fix (.bptr 4 [])) (.cons (.fix (.bptr 5 [])) AN63)))))))))))))))), .dat (.int .i64), .dat (.int .i64), .fix (.bptr 6 []), .cons (.dat (.int .i64)) (.cons (.dat (.int .i64)) (.nil)), .dat .bool, .cons (.dat T23) (.cons (.dat (.list T72)) (.cons (.fix (.mref 7)) (.nil))), .map T56 T94], 0, .dat .bool⟩
noncomputable def G28_E : CEnt := boxE YLD G28_CS fun x => G28 x.1.1 x.2.1 x.2.2.1 x.2.2.2.1 x.2.2.2.2.1 x.2.2.2.2.2.1 x.2.2.2.2.2.2.1 x.2.2.2.2.2.2.2.1
theorem G28_l0_V : LValid 8 Tryd.prog (.loop G28_l0_c) G28_l0_L true := by
  have hb : ∀ s, codeR Tryd.prog G28_C G28_l0_c [] (G28_l0_S.encE s) (G28_l0_S.encB s) (kst G28_l0_S [.exit 2]) = G28_l0_step s := by
    intro s; kernel_rfl
  have hL : LV 8 Tryd.prog true (loopsOf G28_l0_c) [] := by unfold LV; cases loopsOf G28_l0_c <;> trivial
  exact loopT_valid (fuel := G28_l0_fuel) mixed G28_CV hL (by kernel_rfl) (by decide) rfl hb (fun s r h => h)
theorem G28_LV : LV 8 Tryd.prog true (loopsOf (rfBody (lcode 28 0))) [G28_l0_L] := by
  have hl : loopsOf (rfBody (lcode 28 0)) = [.loop G28_l0_c] := by kernel_rfl
  rw [hl]; exact ⟨G28_l0_V, trivial⟩
theorem G28_hev : ∀ x : G28_CS.In, roundR Tryd.prog G28_C [G28_l0_L] 28 0 (encs G28_CS.A x.1) ⟨encs G28_CS.I x.2, [], G28_CS.nt⟩ (finK G28_CS) = G28 x.1.1 x.2.1 x.2.2.1 x.2.2.2.1 x.2.2.2.2.1 x.2.2.2.2.2.1 x.2.2.2.2.2.2.1 x.2.2.2.2.2.2.2.1 := by
  intro x; kernel_rfl
theorem G28_valid : G28_E.Valid Tryd.prog :=
  boxE_valid (S := G28_CS) (by kernel_rfl) (.inl rfl) (rd_lcall' (S := G28_CS) mixed G28_CV (by kernel_rfl) G28_LV ⟨_, rfl⟩ (by decide) (by kernel_rfl) (by kernel_rfl) G28_hev)
abbrev G94_v2_CS : CSpec := ⟨[.dat (.int .i64), .dat (.int .i64), .dat (.int .i64), .fix (.bptr 0 []), .fix (.bptr 1 []), .fix (.bptr 2 [])], [.fix (.bptr 3 []), .fix (.yref 4), .fix (.func (.func 94) .nil (.cons (.bptr 0 []) (.cons (.bptr 1 []) (.cons (.bptr 2 []) .nil)))), .cons (.dat T23) (.cons (.dat (.list T72)) (.cons (.fix (.mref 5)) (.nil))), .lp 28 0 (.cons (.any) (.cons (.any) (.cons (.any) (.cons (.any) (.cons (.any) (.cons (.any) (.cons (.any) (.cons (.any) (.cons (.fix (.bptr 6 [])) (.cons (.fix (.bptr 7 [])) (.cons (.any) (.cons (.any) (.cons (.fix (.bptr 8 [])) (.cons (.any) (.cons (.fix (.bptr 9 [])) (.cons (.fix (.bptr 10 [])) AN63)))))))))))))))), .map T56 T94, .dat (.int .i64), .dat (.int .i64), .fix (.bptr 3 []), .cons (.dat (.int .i64)) (.cons (.dat (.int .i64)) (.nil)), .dat .bool], 0, [.fix (.bptr 3 []), .fix (.yref 4), .fix (.func (.func 94) .nil (.cons (.bptr 0 []) (.cons (.bptr 1 []) (.cons (.bptr 2 []) .nil)))), .cons (.dat T23) (.cons (.dat (.list T72)) (.cons (.fix (.mref 5)) (.nil))), .lp 28 0 (.cons (.any) (.cons (.any) (.cons (.any) (.cons (.any) (.cons (.any) (.cons (.any) (.cons (.any) (.cons (.any) (.cons (.fix (.bptr 6 [])) (.cons (.fix (.bptr 7 [])) (.cons (.any) (.cons (.any) (.cons (.fix (.bptr 8 [])) (.cons (.any) (.cons (.fix (.bptr 9 [])) (.cons (.fix (.bptr 10 [])) AN63)))))))))))))))), .map T56 T94, .dat (.int .i64), .dat (.int .i64), .fix (.bptr 3 []), .cons (.dat (.int .i64)) (.cons (.dat (.int .i64)) (.nil)), .dat .bool], 0, .dat .bool⟩
abbrev G94_v2_RT : Type := G94_v2_CS.In → Option G94_v2_CS.Out
noncomputable def G94_v2_C (rc : G94_v2_RT) : CalT := tabC [G52_E, G28_E, G64_E, (boxE 94 G94_v2_CS rc)]
theorem G94_v2_CV (rc : G94_v2_RT) (hr : (boxE 94 G94_v2_CS rc).Valid Tryd.prog) : CV Tryd.prog (G94_v2_C rc) := tabC_valid (l := _) ⟨G52_valid, G28_valid, G64_valid, hr, trivial⟩
noncomputable def G94_v2_l0_c : Code := loopAt (bodyOf Tryd.f94) 0
abbrev PA71 : PTy := (.cons (.any) (.cons (.any) (.cons (.any) (.cons (.any) (.cons (.any) (.cons (.any) (.cons (.any) (.cons (.any) (.cons (.fix (.bptr 6 [])) (.cons (.fix (.bptr 7 [])) (.cons (.any) (.cons (.any) (.cons (.fix (.bptr 8 [])) (.cons (.any) (.cons (.fix (.bptr 9 [])) (.cons (.fix (.bptr 10 [])) AN63))))))))))))))))
noncomputable def G94_v2_l0_S : SPat := ⟨[.dat (.int .i64), .any, .dat (.int .i64), .fix (.bptr 0 []), .any, .fix (.bptr 2 []), .any, .any, .any, .dat .bool, .dat (.int .i64), .any, .any, .any, .any, .any, .any, .any, .any, .any, .any, .any, .any, .any, .any, .any, .any, .any, .any, .any, .any, .any, .any, .any, .any, .any, .any, .any, .any, .any], [.fix (.bptr 3 []), .fix (.yref 4), .fix (.func (.func 94) .nil (.cons (.bptr 0 []) (.cons (.bptr 1 []) (.cons (.bptr 2 []) .nil)))), .cons (.dat T23) (.cons (.dat (.list T72)) (.cons (.fix (.mref 5)) (.nil))), .lp 28 0 PA71, .map T56 T94, .dat (.int .i64), .dat (.int .i64), .fix (.bptr 3 []), .cons (.dat (.int .i64)) (.cons (.dat (.int .i64)) (.nil)), .dat .bool], 0⟩
abbrev TY72 : Type := ((Int × (Int × (Bool × (Int × Unit)))) × ((E23 × ((List E72) × (Unit × Unit))) × ((Nat × UT79) × ((List (E56 × E94)) × (Int × (Int × ((Int × (Int × Unit)) × (Bool × Unit))))))))
abbrev TY73 : Type := (Nat × ((Int × (Int × (Bool × (Int × Unit)))) × ((E23 × ((List E72) × (Unit × Unit))) × ((Nat × UT79) × ((List (E56 × E94)) × (Int × (Int × ((Int × (Int × Unit)) × (Bool × Unit)))))))))
noncomputable def G94_v2_l0_step (rc : G94_v2_RT) (s : TY72) : Option TY73 :=
  (Option.bind (G64 (s.2.1.1, (s.2.1.2.1, ((), s.2.1.2.2.2)))) fun r3 =>
  (bif (decide (s.1.2.2.2.1 < r3)) then
    (bif (!decide (s.1.2.2.2.1 < 0)) then
      (Option.bind (rc (((IntKind.wrap .i64 (s.1.1 - 1)), ((IntKind.wrap .i64 (s.1.2.2.2.1 + 1)), ((IntKind.wrap .i64 ((BitVec.toNat ((BitVec.ofInt (IntKind.bits .i64) s.1.2.1) ||| (BitVec.ofInt (IntKind.bits .i64) (IntKind.wrap .i64 (1 * 2 ^ (min (Int.toNat s.1.2.2.2.1) (IntKind.bits .i64)))))) : Nat) : Int)), ()))), ((s.2.1.1, (s.2.1.2.1, ((), s.2.1.2.2.2))), ((s.2.2.1.1, UC79), (s.2.2.2.1, (s.2.2.2.2.1, (s.2.2.2.2.2.1, (s.2.2.2.2.2.2.1, (s.2.2.2.2.2.2.2.1, ()))))))))) fun r4 =>
        (bif (!r4.1) then
          some (1, ((s.1.1, (s.1.2.1, (false, (s.1.2.2.2.1, ())))), ((r4.2.1.1, (r4.2.1.2.1, ((), r4.2.1.2.2.2))), ((r4.2.2.1.1, UC79), (r4.2.2.2.1, (r4.2.2.2.2.1, (r4.2.2.2.2.2.1, (r4.2.2.2.2.2.2.1, (r4.2.2.2.2.2.2.2.1, ())))))))))
          else
          some (0, ((s.1.1, (s.1.2.1, (s.1.2.2.1, ((IntKind.wrap .i64 (s.1.2.2.2.1 + 1)), ())))), ((r4.2.1.1, (r4.2.1.2.1, ((), r4.2.1.2.2.2))), ((r4.2.2.1.1, UC79), (r4.2.2.2.1, (r4.2.2.2.2.1, (r4.2.2.2.2.2.1, (r4.2.2.2.2.2.2.1, (r4.2.2.2.2.2.2.2.1, ())))))))))))
      else
      none)
    else
    some (2, ((s.1.1, (s.1.2.1, (s.1.2.2.1, (s.1.2.2.2.1, ())))), ((s.2.1.1, (s.2.1.2.1, ((), s.2.1.2.2.2))), ((s.2.2.1.1, UC79), (s.2.2.2.1, (s.2.2.2.2.1, (s.2.2.2.2.2.1, (s.2.2.2.2.2.2.1, (s.2.2.2.2.2.2.2.1, ())))))))))))
noncomputable def G94_v2_l0_fuel (s : TY72) : Nat := 100000
noncomputable def G94_v2_l0_run (rc : G94_v2_RT) (s : TY72) : Option TY73 := iter (G94_v2_l0_step rc) (G94_v2_l0_fuel s) s
noncomputable def G94_v2_l0_L (rc : G94_v2_RT) : LoopT := loopT G94_v2_l0_S [.ret, .exit 0] (G94_v2_l0_run rc)
abbrev TY74 : Type := ((Nat × UT79) × ((List (E56 × E94)) × (Int × (Int × ((Int × (Int × Unit)) × (Bool × Unit))))))
noncomputable def G94_v2_b (rc : G94_v2_RT) (a0 : Int) (a1 : Int) (a2 : Int) (b3 : (E23 × ((List E72) × (Unit × Unit)))) (b4 : (Nat × UT79)) (b5 : (List (E56 × E94))) (b6 : Int) (b7 : Int) (b8 : (Int × (Int × Unit))) (b9 : Bool) : Option (Bool × ((E23 × ((List E72) × (Unit × Unit))) × TY74)) :=
  (bif (a0 == 0) then
  (Option.bind (G52 a2 (b3.1, (b3.2.1, ((), b3.2.2.2))) b5) fun r1 =>
    (bif (!r1.1) then
      some (true, ((r1.2.1.1, (r1.2.1.2.1, ((), r1.2.1.2.2.2))), ((b4.1, UC79), (r1.2.2.1, (b6, (b7, (b8, (b9, ()))))))))
      else
      (Option.bind (G28 a2 (b4.1, UC79) b6 b7 b8 b9 (r1.2.1.1, (r1.2.1.2.1, ((), r1.2.1.2.2.2))) r1.2.2.1) fun r2 =>
        some (r2.1, ((r2.2.2.2.2.2.2.1.1, (r2.2.2.2.2.2.2.1.2.1, ((), r2.2.2.2.2.2.2.1.2.2.2))), ((r2.2.1.1, UC79), (r2.2.2.2.2.2.2.2.1, (r2.2.2.1, (r2.2.2.2.1, (r2.2.2.2.2.1, (r2.2.2.2.2.2.1, ())))))))))))
  else
  (Option.bind (G94_v2_l0_run rc ((a0, (a2, (false, (a1, ())))), ((b3.1, (b3.2.1, ((), b3.2.2.2))), ((b4.1, UC79), (b5, (b6, (b7, (b8, (b9, ()))))))))) fun q5 =>
    (natK q5.1
      (some (q5.2.1.2.2.1, ((q5.2.2.1.1, (q5.2.2.1.2.1, ((), q5.2.2.1.2.2.2))), ((q5.2.2.2.1.1, UC79), (q5.2.2.2.2.1, (q5.2.2.2.2.2.1, (q5.2.2.2.2.2.2.1, (q5.2.2.2.2.2.2.2.1, (q5.2.2.2.2.2.2.2.2.1, ())))))))))
      (fun _ => some (true, ((q5.2.2.1.1, (q5.2.2.1.2.1, ((), q5.2.2.1.2.2.2))), ((q5.2.2.2.1.1, UC79), (q5.2.2.2.2.1, (q5.2.2.2.2.2.1, (q5.2.2.2.2.2.2.1, (q5.2.2.2.2.2.2.2.1, (q5.2.2.2.2.2.2.2.2.1, ()))))))))))))
noncomputable def G94_v2_fix : Nat → G94_v2_RT := recF fun rc x => G94_v2_b rc x.1.1 x.1.2.1 x.1.2.2.1 x.2.1 x.2.2.1 x.2.2.2.1 x.2.2.2.2.1 x.2.2.2.2.2.1 x.2.2.2.2.2.2.1 x.2.2.2.2.2.2.2.1
noncomputable def G94_v2 (a0 : Int) (a1 : Int) (a2 : Int) (b3 : (E23 × ((List E72) × (Unit × Unit)))) (b4 : (Nat × UT79)) (b5 : (List (E56 × E94))) (b6 : Int) (b7 : Int) (b8 : (Int × (Int × Unit))) (b9 : Bool) : Option (Bool × ((E23 × ((List E72) × (Unit × Unit))) × TY74)) := G94_v2_fix 64 ((a0, (a1, (a2, ()))), (b3, (b4, (b5, (b6, (b7, (b8, (b9, ()))))))))
noncomputable def G94_v2_E : CEnt := boxE 94 G94_v2_CS fun x => G94_v2 x.1.1 x.1.2.1 x.1.2.2.1 x.2.1 x.2.2.1 x.2.2.2.1 x.2.2.2.2.1 x.2.2.2.2.2.1 x.2.2.2.2.2.2.1 x.2.2.2.2.2.2.2.1
theorem G94_v2_l0_V (rc : G94_v2_RT) (hr : (boxE 94 G94_v2_CS rc).Valid Tryd.prog) : LValid 11 Tryd.prog (.loop G94_v2_l0_c) (G94_v2_l0_L rc) false := by
  have hb : ∀ s, codeR Tryd.prog (G94_v2_C rc) G94_v2_l0_c [] (G94_v2_l0_S.encE s) (G94_v2_l0_S.encB s) (kst G94_v2_l0_S [.ret, .exit 0]) = G94_v2_l0_step rc s := by
    intro s; kernel_rfl
  have hL : LV 11 Tryd.prog false (loopsOf G94_v2_l0_c) [] := by unfold LV; cases loopsOf G94_v2_l0_c <;> trivial
  exact loopT_valid (fuel := G94_v2_l0_fuel) mixed (G94_v2_CV rc hr) hL (by kernel_rfl) (by decide) rfl hb (fun s r h => h)
theorem G94_v2_LV (rc : G94_v2_RT) (hr : (boxE 94 G94_v2_CS rc).Valid Tryd.prog) : LV 11 Tryd.prog false (loopsOf (bodyOf Tryd.f94)) [(G94_v2_l0_L rc)] := by
  have hl : loopsOf (bodyOf Tryd.f94) = [.loop G94_v2_l0_c] := by kernel_rfl
  rw [hl]; exact ⟨G94_v2_l0_V rc hr, trivial⟩
theorem G94_v2_ent : Ent Tryd.prog 94 := ⟨by decide, enters_of Tryd.func94 (by kernel_rfl) rfl⟩
theorem G94_v2_hev (rc : G94_v2_RT) : ∀ x : G94_v2_CS.In, fnR Tryd.prog (G94_v2_C rc) [(G94_v2_l0_L rc)] Tryd.f94 (bodyOf Tryd.f94) (encs G94_v2_CS.A x.1) ⟨encs G94_v2_CS.I x.2, [], G94_v2_CS.nt⟩ (finK G94_v2_CS) = G94_v2_b rc x.1.1 x.1.2.1 x.1.2.2.1 x.2.1 x.2.2.1 x.2.2.2.1 x.2.2.2.2.1 x.2.2.2.2.2.1 x.2.2.2.2.2.2.1 x.2.2.2.2.2.2.2.1 := by
  intro x; kernel_rfl
theorem G94_v2_valid : G94_v2_E.Valid Tryd.prog :=
  rec_valid (S := G94_v2_CS) (body := fun rc x => G94_v2_b rc x.1.1 x.1.2.1 x.1.2.2.1 x.2.1 x.2.2.1 x.2.2.2.1 x.2.2.2.2.1 x.2.2.2.2.2.1 x.2.2.2.2.2.2.1 x.2.2.2.2.2.2.2.1) (by kernel_rfl) (.inr G94_v2_ent) (fun rc hr => fn_lcall (S := G94_v2_CS) mixed Tryd.func94 rfl G94_v2_ent (G94_v2_CV rc hr) (G94_v2_LV rc hr) (by kernel_rfl) (by kernel_rfl) (G94_v2_hev rc)) 64
noncomputable def G93_v4_C : CalT := tabC [G94_v2_E]
theorem G93_v4_CV : CV Tryd.prog G93_v4_C := tabC_valid (l := _) ⟨G94_v2_valid, trivial⟩
noncomputable def G93_v4_l0_c : Code := loopAt (bodyOf Tryd.f93) 0
noncomputable def G93_v4_l0_S : SPat := ⟨[.any, .any, .any, .any, .fix (.bptr 11 []), .any, .any, .any, .dat (.int .i64), .dat (.int .i64), .any, .any, .any, .any, .any, .any, .any], [.lp 28 0 PA63, .fix (.bptr 8 []), .dat (.int .i64), .dat (.int .i64), .dat (.int .i64), .fix (.bptr 8 []), .cons (.dat (.int .i64)) (.cons (.dat (.int .i64)) (.nil)), .dat .bool, .cons (.dat T23) (.cons (.dat (.list T72)) (.cons (.fix (.mref 9)) (.nil))), .map T56 T94, .fix (.yref 0), .fix (.func (.func 94) .nil (.cons (.bptr 1 []) (.cons (.bptr 10 []) (.cons (.bptr 11 []) .nil))))], 0⟩
abbrev TY75 : Type := ((Int × (Int × Unit)) × ((Nat × UT79) × (Int × (Int × (Int × ((Int × (Int × Unit)) × (Bool × ((E23 × ((List E72) × (Unit × Unit))) × ((List (E56 × E94)) × Unit)))))))))
abbrev TY76 : Type := (Nat × ((Int × (Int × Unit)) × ((Nat × UT79) × (Int × (Int × (Int × ((Int × (Int × Unit)) × (Bool × ((E23 × ((List E72) × (Unit × Unit))) × ((List (E56 × E94)) × Unit))))))))))
noncomputable def G93_v4_l0_step (s : TY75) : Option TY76 :=
  (bif (decide (s.1.2.1 < s.1.1)) then
  (Option.bind (G94_v2 s.1.2.1 0 0 (s.2.2.2.2.2.2.2.1.1, (s.2.2.2.2.2.2.2.1.2.1, ((), s.2.2.2.2.2.2.2.1.2.2.2))) (s.2.1.1, UC79) s.2.2.2.2.2.2.2.2.1 s.2.2.2.1 s.2.2.2.2.1 s.2.2.2.2.2.1 s.2.2.2.2.2.2.1) fun r1 =>
    (bif (!r1.1) then
      some (1, ((s.1.1, (s.1.2.1, ())), ((r1.2.2.1.1, UC79), (s.2.2.1, (r1.2.2.2.2.1, (r1.2.2.2.2.2.1, (r1.2.2.2.2.2.2.1, (r1.2.2.2.2.2.2.2.1, ((r1.2.1.1, (r1.2.1.2.1, ((), r1.2.1.2.2.2))), (r1.2.2.2.1, ()))))))))))
      else
      some (0, ((s.1.1, ((IntKind.wrap .i64 (s.1.2.1 + 1)), ())), ((r1.2.2.1.1, UC79), (s.2.2.1, (r1.2.2.2.2.1, (r1.2.2.2.2.2.1, (r1.2.2.2.2.2.2.1, (r1.2.2.2.2.2.2.2.1, ((r1.2.1.1, (r1.2.1.2.1, ((), r1.2.1.2.2.2))), (r1.2.2.2.1, ()))))))))))))
  else
  some (2, ((s.1.1, (s.1.2.1, ())), ((s.2.1.1, UC79), (s.2.2.1, (s.2.2.2.1, (s.2.2.2.2.1, (s.2.2.2.2.2.1, (s.2.2.2.2.2.2.1, ((s.2.2.2.2.2.2.2.1.1, (s.2.2.2.2.2.2.2.1.2.1, ((), s.2.2.2.2.2.2.2.1.2.2.2))), (s.2.2.2.2.2.2.2.2.1, ())))))))))))
noncomputable def G93_v4_l0_fuel (s : TY75) : Nat := Int.toNat (s.1.1 - s.1.2.1) + 1
noncomputable def G93_v4_l0_run (s : TY75) : Option TY76 := iter G93_v4_l0_step (G93_v4_l0_fuel s) s
noncomputable def G93_v4_l0_L : LoopT := loopT G93_v4_l0_S [.ret, .exit 0] G93_v4_l0_run
abbrev TY77 : Type := (Unit × ((Nat × UT79) × (Int × (Int × (Int × ((Int × (Int × Unit)) × (Bool × ((E23 × ((List E72) × (Unit × Unit))) × ((List (E56 × E94)) × Unit)))))))))
noncomputable def G93_v4 (b0 : (Nat × UT79)) (b1 : Int) (b2 : Int) (b3 : Int) (b4 : (Int × (Int × Unit))) (b5 : Bool) (b6 : (E23 × ((List E72) × (Unit × Unit)))) (b7 : (List (E56 × E94))) : Option TY77 :=
  (Option.bind (G93_v4_l0_run (((IntKind.wrap .i64 (b1 + 1)), (0, ())), ((b0.1, UC79), (b1, (b2, (b3, (b4, (b5, ((b6.1, (b6.2.1, ((), b6.2.2.2))), (b7, ())))))))))) fun q2 =>
  (natK q2.1
    (some ((), ((q2.2.2.1.1, UC79), (q2.2.2.2.1, (q2.2.2.2.2.1, (q2.2.2.2.2.2.1, (q2.2.2.2.2.2.2.1, (q2.2.2.2.2.2.2.2.1, ((q2.2.2.2.2.2.2.2.2.1.1, (q2.2.2.2.2.2.2.2.2.1.2.1, ((), q2.2.2.2.2.2.2.2.2.1.2.2.2))), (q2.2.2.2.2.2.2.2.2.2.1, ()))))))))))
    (fun _ => some ((), ((q2.2.2.1.1, UC79), (q2.2.2.2.1, (q2.2.2.2.2.1, (q2.2.2.2.2.2.1, (q2.2.2.2.2.2.2.1, (q2.2.2.2.2.2.2.2.1, ((q2.2.2.2.2.2.2.2.2.1.1, (q2.2.2.2.2.2.2.2.2.1.2.1, ((), q2.2.2.2.2.2.2.2.2.1.2.2.2))), (q2.2.2.2.2.2.2.2.2.2.1, ()))))))))))))
abbrev G93_v4_CS : CSpec := ⟨[.fix (.yref 0), .fix (.bptr 1 []), .fix (.bptr 2 [])], [.lp 28 0 (.cons (.any) (.cons (.any) (.cons (.any) (.cons (.any) (.cons (.any) (.cons (.any) (.cons (.any) (.cons (.any) (.cons (.fix (.bptr 3 [])) (.cons (.fix (.bptr 4 [])) (.cons (.any) (.cons (.any) (.cons (.fix (.bptr 5 [])) (.cons (.any) (.cons (.fix (.bptr 6 [])) (.cons (.fix (.bptr 7 [])) AN63)))))))))))))))), .fix (.bptr 8 []), .dat (.int .i64), .dat (.int .i64), .dat (.int .i64), .fix (.bptr 8 []), .cons (.dat (.int .i64)) (.cons (.dat (.int .i64)) (.nil)), .dat .bool, .cons (.dat T23) (.cons (.dat (.list T72)) (.cons (.fix (.mref 9)) (.nil))), .map T56 T94], 0, [.lp 28 0 (.cons (.any) (.cons (.any) (.cons (.any) (.cons (.any) (.cons (.any) (.cons (.any) (.cons (.any) (.cons (.any) (.cons (.fix (.bptr 3 [])) (.cons (.fix (.bptr 4 [])) (.cons (.any) (.cons (.any) (.cons (.fix (.bptr 5 [])) (.cons (.any) (.cons (.fix (.bptr 6 [])) (.cons (.fix (.bptr 7 [])) AN63)))))))))))))))), .fix (.bptr 8 []), .dat (.int .i64), .dat (.int .i64), .dat (.int .i64), .fix (.bptr 8 []), .cons (.dat (.int .i64)) (.cons (.dat (.int .i64)) (.nil)), .dat .bool, .cons (.dat T23) (.cons (.dat (.list T72)) (.cons (.fix (.mref 9)) (.nil))), .map T56 T94], 0, .tup (.nil)⟩
noncomputable def G93_v4_E : CEnt := boxE 93 G93_v4_CS fun x => G93_v4 x.2.1 x.2.2.1 x.2.2.2.1 x.2.2.2.2.1 x.2.2.2.2.2.1 x.2.2.2.2.2.2.1 x.2.2.2.2.2.2.2.1 x.2.2.2.2.2.2.2.2.1
theorem G93_v4_l0_V : LValid 10 Tryd.prog (.loop G93_v4_l0_c) G93_v4_l0_L false := by
  have hb : ∀ s, codeR Tryd.prog G93_v4_C G93_v4_l0_c [] (G93_v4_l0_S.encE s) (G93_v4_l0_S.encB s) (kst G93_v4_l0_S [.ret, .exit 0]) = G93_v4_l0_step s := by
    intro s; kernel_rfl
  have hL : LV 10 Tryd.prog false (loopsOf G93_v4_l0_c) [] := by unfold LV; cases loopsOf G93_v4_l0_c <;> trivial
  exact loopT_valid (fuel := G93_v4_l0_fuel) mixed G93_v4_CV hL (by kernel_rfl) (by decide) rfl hb (fun s r h => h)
theorem G93_v4_LV : LV 10 Tryd.prog false (loopsOf (bodyOf Tryd.f93)) [G93_v4_l0_L] := by
  have hl : loopsOf (bodyOf Tryd.f93) = [.loop G93_v4_l0_c] := by kernel_rfl
  rw [hl]; exact ⟨G93_v4_l0_V, trivial⟩
theorem G93_v4_ent : Ent Tryd.prog 93 := ⟨by decide, enters_of Tryd.func93 (by kernel_rfl) rfl⟩
theorem G93_v4_hev : ∀ x : G93_v4_CS.In, fnR Tryd.prog G93_v4_C [G93_v4_l0_L] Tryd.f93 (bodyOf Tryd.f93) (encs G93_v4_CS.A x.1) ⟨encs G93_v4_CS.I x.2, [], G93_v4_CS.nt⟩ (finK G93_v4_CS) = G93_v4 x.2.1 x.2.2.1 x.2.2.2.1 x.2.2.2.2.1 x.2.2.2.2.2.1 x.2.2.2.2.2.2.1 x.2.2.2.2.2.2.2.1 x.2.2.2.2.2.2.2.2.1 := by
  intro x; kernel_rfl
theorem G93_v4_valid : G93_v4_E.Valid Tryd.prog :=
  boxE_valid (S := G93_v4_CS) (by kernel_rfl) (.inr G93_v4_ent) (fn_lcall (S := G93_v4_CS) mixed Tryd.func93 rfl G93_v4_ent G93_v4_CV G93_v4_LV (by kernel_rfl) (by kernel_rfl) G93_v4_hev)
noncomputable def g28_sense_Where_C : CalT := tabC [G49_v4_E, G63_v1_E, G93_v3_E, G63_E, G93_v4_E]
theorem g28_sense_Where_CV : CV Tryd.prog g28_sense_Where_C := tabC_valid (l := _) ⟨G49_v4_valid, G63_v1_valid, G93_v3_valid, G63_valid, G93_v4_valid, trivial⟩
noncomputable def g28_sense_Where_f0_L : LoopT := rfT g28_sense_Where_C 28 0 (.tmp 33) [.normal]
noncomputable def g28_sense_Where (a0 : E23) (a1 : (List E72)) (a2 : Int) (a3 : Int) (a4 : Int) : Option (E56 × (Int × Unit)) :=
  (Option.bind (G49_v4 a0 a1 a2 a3 a0 a4) fun r1 =>
  (altK r1
    (fun r2 => (bif (r2.1.2.1 != 0) then
      some ((0, (0, ())), (r2.1.2.1, ()))
      else
      (Option.bind (G63_v1 r2.2.1) fun r4 =>
        (Option.bind (G93_v3 (0, UC79) r4.2.1 r2.2.2.1 r2.2.2.2.2.1 (0, (0, ())) false) fun r5 =>
          (bif (r5.2.1.1 == 0) then
            (bif (!r5.2.2.2.2.2.2.1) then
              some ((0, (0, ())), (5, ()))
              else
              some (r5.2.2.2.2.2.1, (0, ())))
            else
            none)))))
    (fun r3 => (bif (r3.1.2.1 != 0) then
      some ((0, (0, ())), (r3.1.2.1, ()))
      else
      (Option.bind (G63 r3.2.1 (r3.2.2.2.2.2.2.2.1.1, (r3.2.2.2.2.2.2.2.1.2.1, ((), r3.2.2.2.2.2.2.2.1.2.2.2))) r3.2.2.2.2.2.2.1) fun r6 =>
        (Option.bind (G93_v4 (0, UC79) r6.2.2.2.1 r3.2.2.1 r3.2.2.2.2.1 (0, (0, ())) false (r6.2.1.1, (r6.2.1.2.1, ((), r6.2.1.2.2.2))) r6.2.2.1) fun r7 =>
          (bif (r7.2.1.1 == 0) then
            (bif (!r7.2.2.2.2.2.2.1) then
              some ((0, (0, ())), (5, ()))
              else
              some (r7.2.2.2.2.2.1, (0, ())))
            else
            none)))))))
noncomputable def g28_sense_Where_E : CEnt := pureE 28 [.dat T23, .dat (.list T72), .dat (.int .i64), .dat (.int .i64), .dat (.int .i64)] (.tup (.cons (.dat T56) (.cons (.dat (.int .i64)) (.nil)))) fun x => g28_sense_Where x.1 x.2.1 x.2.2.1 x.2.2.2.1 x.2.2.2.2.1
theorem g28_sense_Where_f0_V : LValid 0 Tryd.prog (lcode 28 0) g28_sense_Where_f0_L := rfT_valid' g28_sense_Where_CV (by kernel_rfl)
theorem g28_sense_Where_LV : LV 0 Tryd.prog false (loopsOf (bodyOf Tryd.f28)) [g28_sense_Where_f0_L] := by
  have hl : loopsOf (bodyOf Tryd.f28) = [(lcode 28 0)] := by kernel_rfl
  rw [hl]; exact ⟨g28_sense_Where_f0_V, trivial⟩
theorem g28_sense_Where_ent : Ent Tryd.prog 28 := ⟨by decide, enters_of Tryd.func28 (by kernel_rfl) rfl⟩
theorem g28_sense_Where_hev : ∀ x, fnR Tryd.prog g28_sense_Where_C [g28_sense_Where_f0_L] Tryd.f28 (bodyOf Tryd.f28) (encs [.dat T23, .dat (.list T72), .dat (.int .i64), .dat (.int .i64), .dat (.int .i64)] x) ⟨[], [], 0⟩ (frzF (.tup (.cons (.dat T56) (.cons (.dat (.int .i64)) (.nil))))) = g28_sense_Where x.1 x.2.1 x.2.2.1 x.2.2.2.1 x.2.2.2.2.1 := by
  intro x; kernel_rfl
theorem g28_sense_Where_valid : g28_sense_Where_E.Valid Tryd.prog :=
  pureE_valid (by kernel_rfl) (by kernel_rfl) g28_sense_Where_ent (frz_lcall mixed Tryd.func28 rfl g28_sense_Where_ent g28_sense_Where_CV g28_sense_Where_LV (by kernel_rfl) (by kernel_rfl) g28_sense_Where_hev)
noncomputable def G85_C : CalT := tabC []
theorem G85_CV : CV Tryd.prog G85_C := tabC_valid (l := _) trivial
noncomputable def G85 (b0 : (E23 × ((List E72) × (Unit × Unit)))) (b1 : (List (E56 × E94))) : Option (Bool × ((E23 × ((List E72) × (Unit × Unit))) × ((List (E56 × E94)) × Unit))) :=
  some (true, ((b0.1, (b0.2.1, ((), b0.2.2.2))), (b1, ())))
abbrev G85_CS : CSpec := ⟨[.fix (.bptr 0 [])], [.cons (.dat T23) (.cons (.dat (.list T72)) (.cons (.fix (.mref 1)) (.nil))), .map T56 T94], 0, [.cons (.dat T23) (.cons (.dat (.list T72)) (.cons (.fix (.mref 1)) (.nil))), .map T56 T94], 0, .dat .bool⟩
noncomputable def G85_E : CEnt := boxE 85 G85_CS fun x => G85 x.2.1 x.2.2.1
theorem G85_LV : LV 2 Tryd.prog false (loopsOf (bodyOf Tryd.f85)) [] := by unfold LV; cases loopsOf (bodyOf Tryd.f85) <;> trivial
theorem G85_ent : Ent Tryd.prog 85 := ⟨by decide, enters_of Tryd.func85 (by kernel_rfl) rfl⟩
theorem G85_hev : ∀ x : G85_CS.In, fnR Tryd.prog G85_C [] Tryd.f85 (bodyOf Tryd.f85) (encs G85_CS.A x.1) ⟨encs G85_CS.I x.2, [], G85_CS.nt⟩ (finK G85_CS) = G85 x.2.1 x.2.2.1 := by
  intro x; kernel_rfl
theorem G85_valid : G85_E.Valid Tryd.prog :=
  boxE_valid (S := G85_CS) (by kernel_rfl) (.inr G85_ent) (fn_lcall (S := G85_CS) mixed Tryd.func85 rfl G85_ent G85_CV G85_LV (by kernel_rfl) (by kernel_rfl) G85_hev)
noncomputable def G49_v5_C : CalT := tabC [G83_E, G81_E, G85_E]
theorem G49_v5_CV : CV Tryd.prog G49_v5_C := tabC_valid (l := _) ⟨G83_valid, G81_valid, G85_valid, trivial⟩
noncomputable def G49_v5 (a0 : E23) (a1 : (List E72)) : Option (((Unit × (Int × Unit)) × Unit) ⊕ ((Unit × (Int × Unit)) × TY33)) :=
  (bif (decide ((List.length a1 : Int) > 24)) then
  some (Sum.inl (((), (3, ())), ()))
  else
  (Option.bind (G83 a0) fun r1 =>
    (bif (!r1) then
      some (Sum.inl (((), (2, ())), ()))
      else
      (Option.bind (G81 a1 a0) fun r2 =>
        (bif r2.1 then
          some (Sum.inl (((), (2, ())), ()))
          else
          (Option.bind (G85 (a0, (a1, ((), ()))) ([] : List (E56 × E94))) fun r3 =>
            (bif (!r3.1) then
              some (Sum.inl (((), (2, ())), ()))
              else
              some (Sum.inr (((), (0, ())), (r2.2.1, (r3.2.2.1, ((r3.2.1.1, (r3.2.1.2.1, ((), r3.2.1.2.2.2))), ()))))))))))))
abbrev G49_v5_CS : CSpec := ⟨[.dat T23, .dat (.list T72), .fix (.func (.func 85) .nil .nil)], [], 0, [], 0, .tup (.cons (.fix .pnil) (.cons (.dat (.int .i64)) (.nil)))⟩
abbrev G49_v5_O2 : List PTy := [.dat T23, .map T56 T94, .cons (.dat T23) (.cons (.dat (.list T72)) (.cons (.fix (.mref 1)) (.nil)))]
abbrev G49_v5_R2 : PTy := .tup (.cons (.fix (.bptr 2 [])) (.cons (.dat (.int .i64)) (.nil)))
noncomputable def G49_v5_E : CEnt := altE 49 G49_v5_CS G49_v5_O2 0 G49_v5_R2 fun x => G49_v5 x.1.1 x.1.2.1
theorem G49_v5_LV : LV 0 Tryd.prog false (loopsOf (bodyOf Tryd.f49)) [] := by unfold LV; cases loopsOf (bodyOf Tryd.f49) <;> trivial
theorem G49_v5_ent : Ent Tryd.prog 49 := ⟨by decide, enters_of Tryd.func49 (by kernel_rfl) rfl⟩
theorem G49_v5_hev : ∀ x : G49_v5_CS.In, fnR Tryd.prog G49_v5_C [] Tryd.f49 (bodyOf Tryd.f49) (encs G49_v5_CS.A x.1) ⟨encs G49_v5_CS.I x.2, [], G49_v5_CS.nt⟩ (finK2 G49_v5_CS G49_v5_O2 0 G49_v5_R2) = G49_v5 x.1.1 x.1.2.1 := by
  intro x; kernel_rfl
theorem G49_v5_valid : G49_v5_E.Valid Tryd.prog :=
  altE_valid (S := G49_v5_CS) (by kernel_rfl) (by kernel_rfl) (.inr G49_v5_ent) (alt_lcall (S := G49_v5_CS) mixed Tryd.func49 rfl G49_v5_ent G49_v5_CV G49_v5_LV (by kernel_rfl) (by kernel_rfl) (by kernel_rfl) (by kernel_rfl) G49_v5_hev)
noncomputable def G101_C : CalT := tabC []
theorem G101_CV : CV Tryd.prog G101_C := tabC_valid (l := _) trivial
noncomputable def G101_l0_c : Code := loopAt (bodyOf Tryd.f101) 0
noncomputable def G101_l1_c : Code := loopAt G101_l0_c 0
noncomputable def G101_l1_S : SPat := ⟨[.any, .any, .any, .dat (.int .i64), .dat (.int .i64), .any, .any, .any, .any, .dat (.list .str), .dat (.int .i64), .dat (.int .i64), .any, .any, .any, .any, .fix (.bptr 0 []), .any, .any, .any, .any, .any, .any, .any, .any, .any, .any, .any, .any, .any, .any, .any, .any, .any, .any], [.siter], 0⟩
abbrev TY78 : Type := ((Int × (Int × ((List ByteArray) × (Int × (Int × Unit))))) × ((ByteArray × Nat) × Unit))
abbrev TY79 : Type := (Nat × ((Int × (Int × ((List ByteArray) × (Int × (Int × Unit))))) × ((ByteArray × Nat) × Unit)))
noncomputable def G101_l1_step (s : TY78) : Option TY79 :=
  (bif (decide (s.2.1.2 < ByteArray.size s.2.1.1)) then
  some (0, (((IntKind.wrap .i64 (s.1.1 + (IntKind.wrap .i64 ((IntKind.wrap .i64 (s.1.2.1 + 1)) * (IntKind.wrap .i64 (IntKind.wrap .i32 (((Utf8.decode s.2.1.1 s.2.1.2).1 : Int) - 48))))))), ((IntKind.wrap .i64 (s.1.2.1 + 1)), (s.1.2.2.1, (s.1.2.2.2.1, (s.1.2.2.2.2.1, ()))))), ((s.2.1.1, (s.2.1.2 + (Utf8.decode s.2.1.1 s.2.1.2).2)), ())))
  else
  some (1, ((s.1.1, (s.1.2.1, (s.1.2.2.1, (s.1.2.2.2.1, (s.1.2.2.2.2.1, ()))))), (s.2.1, ()))))
noncomputable def G101_l1_fuel (s : TY78) : Nat := Int.toNat (ByteArray.size s.2.1.1 - s.2.1.2) + 1
noncomputable def G101_l1_run (s : TY78) : Option TY79 := iter G101_l1_step (G101_l1_fuel s) s
noncomputable def G101_l1_L : LoopT := loopT G101_l1_S [.exit 2] G101_l1_run
noncomputable def G101_l0_S : SPat := ⟨[.any, .any, .any, .dat (.int .i64), .dat (.int .i64), .any, .any, .any, .any, .dat (.list .str), .dat (.int .i64), .dat (.int .i64), .any, .any, .any, .any, .any, .any, .any, .any, .any, .any, .any, .any, .any, .any, .any, .any, .any, .any, .any, .any, .any, .any, .any], [], 0⟩
abbrev TY80 : Type := (Nat × ((Int × (Int × ((List ByteArray) × (Int × (Int × Unit))))) × Unit))
noncomputable def G101_l0_step (s : ((Int × (Int × ((List ByteArray) × (Int × (Int × Unit))))) × Unit)) : Option TY80 :=
  (bif (decide (s.1.2.2.2.2.1 < s.1.2.2.2.1)) then
  (bif (decide (0 ≤ s.1.2.2.2.2.1) && decide (s.1.2.2.2.2.1 < (List.length s.1.2.2.1 : Int))) then
    (Option.bind (G101_l1_run ((s.1.1, (s.1.2.1, (s.1.2.2.1, (s.1.2.2.2.1, (s.1.2.2.2.2.1, ()))))), (((List.getD s.1.2.2.1 (Int.toNat s.1.2.2.2.2.1) (⟨#[]⟩ : ByteArray)), 0), ()))) fun q1 =>
      some (0, ((q1.2.1.1, (q1.2.1.2.1, (q1.2.1.2.2.1, (q1.2.1.2.2.2.1, ((IntKind.wrap .i64 (q1.2.1.2.2.2.2.1 + 1)), ()))))), ())))
    else
    none)
  else
  some (1, ((s.1.1, (s.1.2.1, (s.1.2.2.1, (s.1.2.2.2.1, (s.1.2.2.2.2.1, ()))))), ())))
noncomputable def G101_l0_fuel (s : ((Int × (Int × ((List ByteArray) × (Int × (Int × Unit))))) × Unit)) : Nat := Int.toNat (s.1.2.2.2.1 - s.1.2.2.2.2.1) + 1
noncomputable def G101_l0_run (s : ((Int × (Int × ((List ByteArray) × (Int × (Int × Unit))))) × Unit)) : Option TY80 := iter G101_l0_step (G101_l0_fuel s) s
noncomputable def G101_l0_L : LoopT := loopT G101_l0_S [.exit 0] G101_l0_run
noncomputable def G101 (a0 : (List ByteArray)) : Option ByteArray :=
  (Option.bind (G101_l0_run ((0, (0, (a0, ((List.length a0 : Int), (0, ()))))), ())) fun q2 =>
  some (Utf8.encode (IntKind.wrap .i32 (IntKind.wrap .i64 ((97 : Int) + (Int.tmod q2.2.1.1 23))))))
noncomputable def G101_E : CEnt := pureE 101 [.dat (.list .str)] (.dat .str) fun x => G101 x.1
theorem G101_l1_V : LValid 0 Tryd.prog (.loop G101_l1_c) G101_l1_L false := by
  exact loopT_valid (fuel := G101_l1_fuel) mixed G101_CV (lvNil _) (by kernel_rfl) (by decide) rfl (by intro s; kernel_rfl) (fun s r h => h)
theorem G101_l0_V : LValid 0 Tryd.prog (.loop G101_l0_c) G101_l0_L false := by
  have hb : ∀ s, codeR Tryd.prog G101_C G101_l0_c [G101_l1_L] (G101_l0_S.encE s) (G101_l0_S.encB s) (kst G101_l0_S [.exit 0]) = G101_l0_step s := by
    intro s; kernel_rfl
  have hl : loopsOf G101_l0_c = [.loop G101_l1_c] := by kernel_rfl
  have hL : LV 0 Tryd.prog false (loopsOf G101_l0_c) [G101_l1_L] := by rw [hl]; exact ⟨G101_l1_V, trivial⟩
  exact loopT_valid (fuel := G101_l0_fuel) mixed G101_CV hL (by kernel_rfl) (by decide) rfl hb (fun s r h => h)
theorem G101_LV : LV 0 Tryd.prog false (loopsOf (bodyOf Tryd.f101)) [G101_l0_L] := by
  have hl : loopsOf (bodyOf Tryd.f101) = [.loop G101_l0_c] := by kernel_rfl
  rw [hl]; exact ⟨G101_l0_V, trivial⟩
theorem G101_ent : Ent Tryd.prog 101 := ⟨by decide, enters_of Tryd.func101 (by kernel_rfl) rfl⟩
theorem G101_hev : ∀ x, fnR Tryd.prog G101_C [G101_l0_L] Tryd.f101 (bodyOf Tryd.f101) (encs [.dat (.list .str)] x) ⟨[], [], 0⟩ (frzF (.dat .str)) = G101 x.1 := by
  intro x; kernel_rfl
theorem G101_valid : G101_E.Valid Tryd.prog :=
  pureE_valid (by kernel_rfl) (by kernel_rfl) G101_ent (frz_lcall mixed Tryd.func101 rfl G101_ent G101_CV G101_LV (by kernel_rfl) (by kernel_rfl) G101_hev)
noncomputable def G86_C : CalT := tabC [itoaM_E, joinM_E, G101_E]
theorem G86_CV : CV Tryd.prog G86_C := tabC_valid (l := _) ⟨itoaM_valid, joinM_valid, G101_valid, trivial⟩
noncomputable def G86_l0_c : Code := loopAt (bodyOf Tryd.f86) 0
noncomputable def G86_l0_S : SPat := ⟨[.dat .str, .any, .any, .any, .any, .own 0 .str, .any, .any, .dat (.list (.int .i64)), .dat (.int .i64), .dat (.int .i64), .any, .any, .any, .any, .any, .any, .any, .any, .any, .any, .any, .any, .any, .any, .any, .any, .any, .any, .any], [], 1⟩
abbrev TY81 : Type := (Nat × ((ByteArray × ((List ByteArray) × ((List Int) × (Int × (Int × Unit))))) × Unit))
noncomputable def G86_l0_step (s : ((ByteArray × ((List ByteArray) × ((List Int) × (Int × (Int × Unit))))) × Unit)) : Option TY81 :=
  (bif (decide (s.1.2.2.2.2.1 < s.1.2.2.2.1)) then
  (bif (decide (0 ≤ s.1.2.2.2.2.1) && decide (s.1.2.2.2.2.1 < (List.length s.1.2.2.1 : Int))) then
    (Option.bind (itoaM (List.getD s.1.2.2.1 (Int.toNat s.1.2.2.2.2.1) 0)) fun r1 =>
      (bif (decide (List.length s.1.2.1 + List.length [r1] ≤ LIM)) then
        some (0, ((s.1.1, ((s.1.2.1 ++ [r1]), (s.1.2.2.1, (s.1.2.2.2.1, ((IntKind.wrap .i64 (s.1.2.2.2.2.1 + 1)), ()))))), ()))
        else
        none))
    else
    none)
  else
  some (1, ((s.1.1, (s.1.2.1, (s.1.2.2.1, (s.1.2.2.2.1, (s.1.2.2.2.2.1, ()))))), ())))
noncomputable def G86_l0_fuel (s : ((ByteArray × ((List ByteArray) × ((List Int) × (Int × (Int × Unit))))) × Unit)) : Nat := Int.toNat (s.1.2.2.2.1 - s.1.2.2.2.2.1) + 1
noncomputable def G86_l0_run (s : ((ByteArray × ((List ByteArray) × ((List Int) × (Int × (Int × Unit))))) × Unit)) : Option TY81 := iter G86_l0_step (G86_l0_fuel s) s
noncomputable def G86_l0_L : LoopT := loopT G86_l0_S [.exit 0] G86_l0_run
noncomputable def G86 (a0 : ByteArray) (a1 : (List Int)) : Option ByteArray :=
  (Option.bind (G86_l0_run ((a0, ([], (a1, ((List.length a1 : Int), (0, ()))))), ())) fun q2 =>
  (bif (decide (ByteArray.size q2.2.1.1 + ByteArray.size (⟨#[32]⟩ : ByteArray) ≤ LIM)) then
    (Option.bind (joinM q2.2.1.2.1 (⟨#[32]⟩ : ByteArray)) fun r3 =>
      (bif (decide (ByteArray.size (ByteArray.append q2.2.1.1 (⟨#[32]⟩ : ByteArray)) + ByteArray.size r3 ≤ LIM)) then
        (bif (decide (ByteArray.size (ByteArray.append (ByteArray.append q2.2.1.1 (⟨#[32]⟩ : ByteArray)) r3) + ByteArray.size (⟨#[32]⟩ : ByteArray) ≤ LIM)) then
          (Option.bind (G101 q2.2.1.2.1) fun r4 =>
            (bif (decide (ByteArray.size (ByteArray.append (ByteArray.append (ByteArray.append q2.2.1.1 (⟨#[32]⟩ : ByteArray)) r3) (⟨#[32]⟩ : ByteArray)) + ByteArray.size r4 ≤ LIM)) then
              (bif (decide (ByteArray.size (ByteArray.append (ByteArray.append (ByteArray.append (ByteArray.append q2.2.1.1 (⟨#[32]⟩ : ByteArray)) r3) (⟨#[32]⟩ : ByteArray)) r4) + ByteArray.size (⟨#[10]⟩ : ByteArray) ≤ LIM)) then
                some (ByteArray.append (ByteArray.append (ByteArray.append (ByteArray.append (ByteArray.append q2.2.1.1 (⟨#[32]⟩ : ByteArray)) r3) (⟨#[32]⟩ : ByteArray)) r4) (⟨#[10]⟩ : ByteArray))
                else
                none)
              else
              none))
          else
          none)
        else
        none))
    else
    none))
noncomputable def G86_E : CEnt := pureE 86 [.dat .str, .dat (.list (.int .i64))] (.dat .str) fun x => G86 x.1 x.2.1
theorem G86_l0_V : LValid 0 Tryd.prog (.loop G86_l0_c) G86_l0_L false := by
  exact loopT_valid (fuel := G86_l0_fuel) mixed G86_CV (lvNil _) (by kernel_rfl) (by decide) rfl (by intro s; kernel_rfl) (fun s r h => h)
theorem G86_LV : LV 0 Tryd.prog false (loopsOf (bodyOf Tryd.f86)) [G86_l0_L] := by
  have hl : loopsOf (bodyOf Tryd.f86) = [.loop G86_l0_c] := by kernel_rfl
  rw [hl]; exact ⟨G86_l0_V, trivial⟩
theorem G86_ent : Ent Tryd.prog 86 := ⟨by decide, enters_of Tryd.func86 (by kernel_rfl) rfl⟩
theorem G86_hev : ∀ x, fnR Tryd.prog G86_C [G86_l0_L] Tryd.f86 (bodyOf Tryd.f86) (encs [.dat .str, .dat (.list (.int .i64))] x) ⟨[], [], 0⟩ (frzF (.dat .str)) = G86 x.1 x.2.1 := by
  intro x; kernel_rfl
theorem G86_valid : G86_E.Valid Tryd.prog :=
  pureE_valid (by kernel_rfl) (by kernel_rfl) G86_ent (frz_lcall mixed Tryd.func86 rfl G86_ent G86_CV G86_LV (by kernel_rfl) (by kernel_rfl) G86_hev)
noncomputable def G48_C : CalT := tabC [G49_v5_E, G86_E]
theorem G48_CV : CV Tryd.prog G48_C := tabC_valid (l := _) ⟨G49_v5_valid, G86_valid, trivial⟩
noncomputable def G48_l0_c : Code := loopAt (bodyOf Tryd.f48) 0
noncomputable def G48_l1_c : Code := loopAt (bodyOf Tryd.f48) 1
noncomputable def G48_l0_S : SPat := ⟨[.any, .dat (.list T72), .any, .any, .any, .any, .any, .any, .dat .str, .any, .any, .any, .any, .any, .any, .any, .any, .any, .any, .any, .any, .any, .any, .any, .any, .any, .any, .any, .any, .any, .any, .any, .any, .any, .any, .any, .dat (.list (.int .i64)), .dat (.int .i64), .dat (.int .i64), .any, .any, .any, .any, .any, .any, .any, .any, .any, .any, .any, .any, .any, .any, .any, .any, .any, .any, .any, .any, .any, .any, .any, .any, .any, .any, .any, .any, .any, .any, .any, .any], [.dat T23], 0⟩
abbrev TY82 : Type := (((List E72) × (ByteArray × ((List Int) × (Int × (Int × Unit))))) × (E23 × Unit))
abbrev TY83 : Type := (Nat × (((List E72) × (ByteArray × ((List Int) × (Int × (Int × Unit))))) × (E23 × Unit)))
noncomputable def G48_l0_step (s : TY82) : Option TY83 :=
  (bif (decide (s.1.2.2.2.2.1 < s.1.2.2.2.1)) then
  (bif (decide (0 ≤ s.1.2.2.2.2.1) && decide (s.1.2.2.2.2.1 < (List.length s.1.2.2.1 : Int))) then
    (Option.bind (G86 (⟨#[115, 101, 110, 115, 111, 114]⟩ : ByteArray) [(List.getD s.1.2.2.1 (Int.toNat s.1.2.2.2.2.1) 0)]) fun r5 =>
      (bif (decide (ByteArray.size s.1.2.1 + ByteArray.size r5 ≤ LIM)) then
        some (0, ((s.1.1, ((ByteArray.append s.1.2.1 r5), (s.1.2.2.1, (s.1.2.2.2.1, ((IntKind.wrap .i64 (s.1.2.2.2.2.1 + 1)), ()))))), (s.2.1, ())))
        else
        none))
    else
    none)
  else
  some (1, ((s.1.1, (s.1.2.1, (s.1.2.2.1, (s.1.2.2.2.1, (s.1.2.2.2.2.1, ()))))), (s.2.1, ()))))
noncomputable def G48_l0_fuel (s : TY82) : Nat := Int.toNat (s.1.2.2.2.1 - s.1.2.2.2.2.1) + 1
noncomputable def G48_l0_run (s : TY82) : Option TY83 := iter G48_l0_step (G48_l0_fuel s) s
noncomputable def G48_l0_L : LoopT := loopT G48_l0_S [.exit 0] G48_l0_run
noncomputable def G48_l1_S : SPat := ⟨[.any, .dat (.list T72), .any, .any, .any, .any, .any, .any, .dat .str, .any, .any, .any, .any, .any, .any, .any, .any, .any, .any, .any, .any, .any, .any, .any, .any, .any, .any, .any, .any, .any, .any, .any, .any, .any, .any, .any, .any, .any, .any, .any, .any, .any, .any, .any, .any, .any, .any, .any, .dat (.list T72), .dat (.int .i64), .dat (.int .i64), .any, .any, .any, .any, .any, .any, .any, .any, .any, .any, .any, .any, .any, .any, .any, .any, .any, .any, .any, .any], [.dat T23], 0⟩
abbrev TY84 : Type := (((List E72) × (ByteArray × ((List E72) × (Int × (Int × Unit))))) × (E23 × Unit))
abbrev TY85 : Type := (Nat × (((List E72) × (ByteArray × ((List E72) × (Int × (Int × Unit))))) × (E23 × Unit)))
noncomputable def G48_l1_step (s : TY84) : Option TY85 :=
  (bif (decide (s.1.2.2.2.2.1 < s.1.2.2.2.1)) then
  (bif (decide (0 ≤ s.1.2.2.2.2.1) && decide (s.1.2.2.2.2.1 < (List.length s.1.2.2.1 : Int))) then
    (Option.bind (G86 (⟨#[114, 101, 97, 100]⟩ : ByteArray) [(List.getD s.1.2.2.1 (Int.toNat s.1.2.2.2.2.1) (0, (0, (0, ())))).1, (List.getD s.1.2.2.1 (Int.toNat s.1.2.2.2.2.1) (0, (0, (0, ())))).2.1, (List.getD s.1.2.2.1 (Int.toNat s.1.2.2.2.2.1) (0, (0, (0, ())))).2.2.1]) fun r7 =>
      (bif (decide (ByteArray.size s.1.2.1 + ByteArray.size r7 ≤ LIM)) then
        some (0, ((s.1.1, ((ByteArray.append s.1.2.1 r7), (s.1.2.2.1, (s.1.2.2.2.1, ((IntKind.wrap .i64 (s.1.2.2.2.2.1 + 1)), ()))))), (s.2.1, ())))
        else
        none))
    else
    none)
  else
  some (1, ((s.1.1, (s.1.2.1, (s.1.2.2.1, (s.1.2.2.2.1, (s.1.2.2.2.2.1, ()))))), (s.2.1, ()))))
noncomputable def G48_l1_fuel (s : TY84) : Nat := Int.toNat (s.1.2.2.2.1 - s.1.2.2.2.2.1) + 1
noncomputable def G48_l1_run (s : TY84) : Option TY85 := iter G48_l1_step (G48_l1_fuel s) s
noncomputable def G48_l1_L : LoopT := loopT G48_l1_S [.exit 2] G48_l1_run
noncomputable def G48 (a0 : E23) (a1 : (List E72)) : Option (ByteArray × (Int × Unit)) :=
  (Option.bind (G49_v5 a0 a1) fun r1 =>
  (altK r1
    (fun r2 => (bif (r2.1.2.1 != 0) then
      some ((⟨#[]⟩ : ByteArray), (r2.1.2.1, ()))
      else
      (Option.bind (G86 (⟨#[115, 116, 114, 105, 110, 103]⟩ : ByteArray) [a0.1, a0.2.1, a0.2.2.1, a0.2.2.2.1, (List.length a0.2.2.2.2.1 : Int)]) fun r4 =>
        (Option.bind (G48_l0_run ((a1, (r4, (a0.2.2.2.2.1, ((List.length a0.2.2.2.2.1 : Int), (0, ()))))), (a0, ()))) fun q6 =>
          (Option.bind (G48_l1_run ((q6.2.1.1, (q6.2.1.2.1, (q6.2.1.1, ((List.length q6.2.1.1 : Int), (0, ()))))), (q6.2.2.1, ()))) fun q8 =>
            (Option.bind (G86 (⟨#[101, 110, 100]⟩ : ByteArray) [(List.length q8.2.1.1 : Int)]) fun r9 =>
              (bif (decide (ByteArray.size q8.2.1.2.1 + ByteArray.size r9 ≤ LIM)) then
                some ((ByteArray.append q8.2.1.2.1 r9), (0, ()))
                else
                none)))))))
    (fun r3 => (bif (r3.1.2.1 != 0) then
      some ((⟨#[]⟩ : ByteArray), (r3.1.2.1, ()))
      else
      (Option.bind (G86 (⟨#[115, 116, 114, 105, 110, 103]⟩ : ByteArray) [a0.1, a0.2.1, a0.2.2.1, a0.2.2.2.1, (List.length a0.2.2.2.2.1 : Int)]) fun r10 =>
        (Option.bind (G48_l0_run ((a1, (r10, (a0.2.2.2.2.1, ((List.length a0.2.2.2.2.1 : Int), (0, ()))))), (a0, ()))) fun q11 =>
          (Option.bind (G48_l1_run ((q11.2.1.1, (q11.2.1.2.1, (q11.2.1.1, ((List.length q11.2.1.1 : Int), (0, ()))))), (q11.2.2.1, ()))) fun q12 =>
            (Option.bind (G86 (⟨#[101, 110, 100]⟩ : ByteArray) [(List.length q12.2.1.1 : Int)]) fun r13 =>
              (bif (decide (ByteArray.size q12.2.1.2.1 + ByteArray.size r13 ≤ LIM)) then
                some ((ByteArray.append q12.2.1.2.1 r13), (0, ()))
                else
                none)))))))))
noncomputable def G48_E : CEnt := pureE 48 [.dat T23, .dat (.list T72)] (.tup (.cons (.dat .str) (.cons (.dat (.int .i64)) (.nil)))) fun x => G48 x.1 x.2.1
theorem G48_l0_V : LValid 0 Tryd.prog (.loop G48_l0_c) G48_l0_L false := by
  exact loopT_valid (fuel := G48_l0_fuel) mixed G48_CV (lvNil _) (by kernel_rfl) (by decide) rfl (by intro s; kernel_rfl) (fun s r h => h)
theorem G48_l1_V : LValid 0 Tryd.prog (.loop G48_l1_c) G48_l1_L false := by
  exact loopT_valid (fuel := G48_l1_fuel) mixed G48_CV (lvNil _) (by kernel_rfl) (by decide) rfl (by intro s; kernel_rfl) (fun s r h => h)
theorem G48_LV : LV 0 Tryd.prog false (loopsOf (bodyOf Tryd.f48)) [G48_l0_L, G48_l1_L] := by
  have hl : loopsOf (bodyOf Tryd.f48) = [.loop G48_l0_c, .loop G48_l1_c] := by kernel_rfl
  rw [hl]; exact ⟨G48_l0_V, G48_l1_V, trivial⟩
theorem G48_ent : Ent Tryd.prog 48 := ⟨by decide, enters_of Tryd.func48 (by kernel_rfl) rfl⟩
theorem G48_hev : ∀ x, fnR Tryd.prog G48_C [G48_l0_L, G48_l1_L] Tryd.f48 (bodyOf Tryd.f48) (encs [.dat T23, .dat (.list T72)] x) ⟨[], [], 0⟩ (frzF (.tup (.cons (.dat .str) (.cons (.dat (.int .i64)) (.nil))))) = G48 x.1 x.2.1 := by
  intro x; kernel_rfl
theorem G48_valid : G48_E.Valid Tryd.prog :=
  pureE_valid (by kernel_rfl) (by kernel_rfl) G48_ent (frz_lcall mixed Tryd.func48 rfl G48_ent G48_CV G48_LV (by kernel_rfl) (by kernel_rfl) G48_hev)
noncomputable def G57_C : CalT := tabC []
theorem G57_CV : CV Tryd.prog G57_C := tabC_valid (l := _) trivial
noncomputable def G57_l0_c : Code := loopAt (bodyOf Tryd.f57) 0
noncomputable def G57_l0_S : SPat := ⟨[.dat (.list (.int .i64)), .dat (.list (.int .i64)), .any, .any, .dat .bool, .dat (.int .i64), .any, .any, .any, .any, .any, .any, .any, .any, .any, .any, .any, .any, .any, .any, .any, .any, .any, .any, .any, .any], [], 0⟩
noncomputable def G57_l0_step (s : (((List Int) × ((List Int) × (Bool × (Int × Unit)))) × Unit)) : Option (Nat × (((List Int) × ((List Int) × (Bool × (Int × Unit)))) × Unit)) :=
  (bif (decide (s.1.2.2.2.1 < (List.length s.1.1 : Int))) then
  (bif (decide (0 ≤ s.1.2.2.2.1) && decide (s.1.2.2.2.1 < (List.length s.1.1 : Int))) then
    (bif (decide (0 ≤ s.1.2.2.2.1) && decide (s.1.2.2.2.1 < (List.length s.1.2.1 : Int))) then
      (bif ((List.getD s.1.1 (Int.toNat s.1.2.2.2.1) 0) != (List.getD s.1.2.1 (Int.toNat s.1.2.2.2.1) 0)) then
        some (1, ((s.1.1, (s.1.2.1, (false, (s.1.2.2.2.1, ())))), ()))
        else
        some (0, ((s.1.1, (s.1.2.1, (s.1.2.2.1, ((IntKind.wrap .i64 (s.1.2.2.2.1 + 1)), ())))), ())))
      else
      none)
    else
    none)
  else
  some (2, ((s.1.1, (s.1.2.1, (s.1.2.2.1, (s.1.2.2.2.1, ())))), ())))
noncomputable def G57_l0_fuel (s : (((List Int) × ((List Int) × (Bool × (Int × Unit)))) × Unit)) : Nat := Int.toNat ((List.length s.1.1 : Int) - s.1.2.2.2.1) + 1
noncomputable def G57_l0_run (s : (((List Int) × ((List Int) × (Bool × (Int × Unit)))) × Unit)) : Option (Nat × (((List Int) × ((List Int) × (Bool × (Int × Unit)))) × Unit)) := iter G57_l0_step (G57_l0_fuel s) s
noncomputable def G57_l0_L : LoopT := loopT G57_l0_S [.ret, .exit 0] G57_l0_run
noncomputable def G57 (a0 : (List Int)) (a1 : (List Int)) : Option Bool :=
  (bif ((List.length a0 : Int) != (List.length a1 : Int)) then
  some false
  else
  (Option.bind (G57_l0_run ((a0, (a1, (false, (0, ())))), ())) fun q1 =>
    (natK q1.1
      (some q1.2.1.2.2.1)
      (fun _ => some true))))
noncomputable def G57_E : CEnt := pureE 57 [.dat (.list (.int .i64)), .dat (.list (.int .i64))] (.dat .bool) fun x => G57 x.1 x.2.1
theorem G57_l0_V : LValid 0 Tryd.prog (.loop G57_l0_c) G57_l0_L false := by
  exact loopT_valid (fuel := G57_l0_fuel) mixed G57_CV (lvNil _) (by kernel_rfl) (by decide) rfl (by intro s; kernel_rfl) (fun s r h => h)
theorem G57_LV : LV 0 Tryd.prog false (loopsOf (bodyOf Tryd.f57)) [G57_l0_L] := by
  have hl : loopsOf (bodyOf Tryd.f57) = [.loop G57_l0_c] := by kernel_rfl
  rw [hl]; exact ⟨G57_l0_V, trivial⟩
theorem G57_ent : Ent Tryd.prog 57 := ⟨by decide, enters_of Tryd.func57 (by kernel_rfl) rfl⟩
theorem G57_hev : ∀ x, fnR Tryd.prog G57_C [G57_l0_L] Tryd.f57 (bodyOf Tryd.f57) (encs [.dat (.list (.int .i64)), .dat (.list (.int .i64))] x) ⟨[], [], 0⟩ (frzF (.dat .bool)) = G57 x.1 x.2.1 := by
  intro x; kernel_rfl
theorem G57_valid : G57_E.Valid Tryd.prog :=
  pureE_valid (by kernel_rfl) (by kernel_rfl) G57_ent (frz_lcall mixed Tryd.func57 rfl G57_ent G57_CV G57_LV (by kernel_rfl) (by kernel_rfl) G57_hev)
noncomputable def G33_C : CalT := tabC [G57_E]
theorem G33_CV : CV Tryd.prog G33_C := tabC_valid (l := _) ⟨G57_valid, trivial⟩
noncomputable def G33 (a0 : E26) (a1 : E26) : Option Bool :=
  (Option.bind (G57 a0.1 a1.1) fun r1 =>
  (bif r1 then
    (Option.bind (G57 a0.2.1 a1.2.1) fun r2 =>
      some r2)
    else
    some false))
noncomputable def G33_E : CEnt := pureE 33 [.dat T26, .dat T26] (.dat .bool) fun x => G33 x.1 x.2.1
theorem G33_LV : LV 0 Tryd.prog false (loopsOf (bodyOf Tryd.f33)) [] := by unfold LV; cases loopsOf (bodyOf Tryd.f33) <;> trivial
theorem G33_ent : Ent Tryd.prog 33 := ⟨by decide, enters_of Tryd.func33 (by kernel_rfl) rfl⟩
theorem G33_hev : ∀ x, fnR Tryd.prog G33_C [] Tryd.f33 (bodyOf Tryd.f33) (encs [.dat T26, .dat T26] x) ⟨[], [], 0⟩ (frzF (.dat .bool)) = G33 x.1 x.2.1 := by
  intro x; kernel_rfl
theorem G33_valid : G33_E.Valid Tryd.prog :=
  pureE_valid (by kernel_rfl) (by kernel_rfl) G33_ent (frz_lcall mixed Tryd.func33 rfl G33_ent G33_CV G33_LV (by kernel_rfl) (by kernel_rfl) G33_hev)
noncomputable def G32_C : CalT := tabC [G33_E]
theorem G32_CV : CV Tryd.prog G32_C := tabC_valid (l := _) ⟨G33_valid, trivial⟩
noncomputable def G32_l0_c : Code := loopAt (bodyOf Tryd.f32) 0
noncomputable def G32_l0_S : SPat := ⟨[.dat (.list T26), .dat (.list T26), .any, .any, .dat .bool, .dat (.int .i64), .any, .any, .any, .any, .any, .any, .any, .any, .any, .any, .any, .any, .any, .any, .any, .any, .any, .any, .any, .any, .any], [], 0⟩
noncomputable def G32_l0_step (s : (((List E26) × ((List E26) × (Bool × (Int × Unit)))) × Unit)) : Option (Nat × (((List E26) × ((List E26) × (Bool × (Int × Unit)))) × Unit)) :=
  (bif (decide (s.1.2.2.2.1 < (List.length s.1.1 : Int))) then
  (bif (decide (0 ≤ s.1.2.2.2.1) && decide (s.1.2.2.2.1 < (List.length s.1.1 : Int))) then
    (bif (decide (0 ≤ s.1.2.2.2.1) && decide (s.1.2.2.2.1 < (List.length s.1.2.1 : Int))) then
      (Option.bind (G33 (List.getD s.1.1 (Int.toNat s.1.2.2.2.1) ([], ([], ()))) (List.getD s.1.2.1 (Int.toNat s.1.2.2.2.1) ([], ([], ())))) fun r1 =>
        (bif (!r1) then
          some (1, ((s.1.1, (s.1.2.1, (false, (s.1.2.2.2.1, ())))), ()))
          else
          some (0, ((s.1.1, (s.1.2.1, (s.1.2.2.1, ((IntKind.wrap .i64 (s.1.2.2.2.1 + 1)), ())))), ()))))
      else
      none)
    else
    none)
  else
  some (2, ((s.1.1, (s.1.2.1, (s.1.2.2.1, (s.1.2.2.2.1, ())))), ())))
noncomputable def G32_l0_fuel (s : (((List E26) × ((List E26) × (Bool × (Int × Unit)))) × Unit)) : Nat := Int.toNat ((List.length s.1.1 : Int) - s.1.2.2.2.1) + 1
noncomputable def G32_l0_run (s : (((List E26) × ((List E26) × (Bool × (Int × Unit)))) × Unit)) : Option (Nat × (((List E26) × ((List E26) × (Bool × (Int × Unit)))) × Unit)) := iter G32_l0_step (G32_l0_fuel s) s
noncomputable def G32_l0_L : LoopT := loopT G32_l0_S [.ret, .exit 0] G32_l0_run
noncomputable def G32 (a0 : (List E26)) (a1 : (List E26)) : Option Bool :=
  (bif ((List.length a0 : Int) != (List.length a1 : Int)) then
  some false
  else
  (Option.bind (G32_l0_run ((a0, (a1, (false, (0, ())))), ())) fun q2 =>
    (natK q2.1
      (some q2.2.1.2.2.1)
      (fun _ => some true))))
noncomputable def G32_E : CEnt := pureE 32 [.dat (.list T26), .dat (.list T26)] (.dat .bool) fun x => G32 x.1 x.2.1
theorem G32_l0_V : LValid 0 Tryd.prog (.loop G32_l0_c) G32_l0_L false := by
  exact loopT_valid (fuel := G32_l0_fuel) mixed G32_CV (lvNil _) (by kernel_rfl) (by decide) rfl (by intro s; kernel_rfl) (fun s r h => h)
theorem G32_LV : LV 0 Tryd.prog false (loopsOf (bodyOf Tryd.f32)) [G32_l0_L] := by
  have hl : loopsOf (bodyOf Tryd.f32) = [.loop G32_l0_c] := by kernel_rfl
  rw [hl]; exact ⟨G32_l0_V, trivial⟩
theorem G32_ent : Ent Tryd.prog 32 := ⟨by decide, enters_of Tryd.func32 (by kernel_rfl) rfl⟩
theorem G32_hev : ∀ x, fnR Tryd.prog G32_C [G32_l0_L] Tryd.f32 (bodyOf Tryd.f32) (encs [.dat (.list T26), .dat (.list T26)] x) ⟨[], [], 0⟩ (frzF (.dat .bool)) = G32 x.1 x.2.1 := by
  intro x; kernel_rfl
theorem G32_valid : G32_E.Valid Tryd.prog :=
  pureE_valid (by kernel_rfl) (by kernel_rfl) G32_ent (frz_lcall mixed Tryd.func32 rfl G32_ent G32_CV G32_LV (by kernel_rfl) (by kernel_rfl) G32_hev)
noncomputable def G35_C : CalT := tabC []
theorem G35_CV : CV Tryd.prog G35_C := tabC_valid (l := _) trivial
noncomputable def G35_l0_c : Code := loopAt (bodyOf Tryd.f35) 0
noncomputable def G35_l0_S : SPat := ⟨[.dat (.list (.int .i64)), .dat (.list (.int .i64)), .any, .any, .dat .bool, .dat (.int .i64), .any, .any, .any, .any, .any, .any, .any, .any, .any, .any, .any, .any, .any, .any, .any, .any, .any, .any, .any, .any], [], 0⟩
noncomputable def G35_l0_step (s : (((List Int) × ((List Int) × (Bool × (Int × Unit)))) × Unit)) : Option (Nat × (((List Int) × ((List Int) × (Bool × (Int × Unit)))) × Unit)) :=
  (bif (decide (s.1.2.2.2.1 < (List.length s.1.1 : Int))) then
  (bif (decide (0 ≤ s.1.2.2.2.1) && decide (s.1.2.2.2.1 < (List.length s.1.1 : Int))) then
    (bif (decide (0 ≤ s.1.2.2.2.1) && decide (s.1.2.2.2.1 < (List.length s.1.2.1 : Int))) then
      (bif ((List.getD s.1.1 (Int.toNat s.1.2.2.2.1) 0) != (List.getD s.1.2.1 (Int.toNat s.1.2.2.2.1) 0)) then
        some (1, ((s.1.1, (s.1.2.1, (false, (s.1.2.2.2.1, ())))), ()))
        else
        some (0, ((s.1.1, (s.1.2.1, (s.1.2.2.1, ((IntKind.wrap .i64 (s.1.2.2.2.1 + 1)), ())))), ())))
      else
      none)
    else
    none)
  else
  some (2, ((s.1.1, (s.1.2.1, (s.1.2.2.1, (s.1.2.2.2.1, ())))), ())))
noncomputable def G35_l0_fuel (s : (((List Int) × ((List Int) × (Bool × (Int × Unit)))) × Unit)) : Nat := Int.toNat ((List.length s.1.1 : Int) - s.1.2.2.2.1) + 1
noncomputable def G35_l0_run (s : (((List Int) × ((List Int) × (Bool × (Int × Unit)))) × Unit)) : Option (Nat × (((List Int) × ((List Int) × (Bool × (Int × Unit)))) × Unit)) := iter G35_l0_step (G35_l0_fuel s) s
noncomputable def G35_l0_L : LoopT := loopT G35_l0_S [.ret, .exit 0] G35_l0_run
noncomputable def G35 (a0 : (List Int)) (a1 : (List Int)) : Option Bool :=
  (bif ((List.length a0 : Int) != (List.length a1 : Int)) then
  some false
  else
  (Option.bind (G35_l0_run ((a0, (a1, (false, (0, ())))), ())) fun q1 =>
    (natK q1.1
      (some q1.2.1.2.2.1)
      (fun _ => some true))))
noncomputable def G35_E : CEnt := pureE 35 [.dat (.list (.int .i64)), .dat (.list (.int .i64))] (.dat .bool) fun x => G35 x.1 x.2.1
theorem G35_l0_V : LValid 0 Tryd.prog (.loop G35_l0_c) G35_l0_L false := by
  exact loopT_valid (fuel := G35_l0_fuel) mixed G35_CV (lvNil _) (by kernel_rfl) (by decide) rfl (by intro s; kernel_rfl) (fun s r h => h)
theorem G35_LV : LV 0 Tryd.prog false (loopsOf (bodyOf Tryd.f35)) [G35_l0_L] := by
  have hl : loopsOf (bodyOf Tryd.f35) = [.loop G35_l0_c] := by kernel_rfl
  rw [hl]; exact ⟨G35_l0_V, trivial⟩
theorem G35_ent : Ent Tryd.prog 35 := ⟨by decide, enters_of Tryd.func35 (by kernel_rfl) rfl⟩
theorem G35_hev : ∀ x, fnR Tryd.prog G35_C [G35_l0_L] Tryd.f35 (bodyOf Tryd.f35) (encs [.dat (.list (.int .i64)), .dat (.list (.int .i64))] x) ⟨[], [], 0⟩ (frzF (.dat .bool)) = G35 x.1 x.2.1 := by
  intro x; kernel_rfl
theorem G35_valid : G35_E.Valid Tryd.prog :=
  pureE_valid (by kernel_rfl) (by kernel_rfl) G35_ent (frz_lcall mixed Tryd.func35 rfl G35_ent G35_CV G35_LV (by kernel_rfl) (by kernel_rfl) G35_hev)
noncomputable def G19_C : CalT := tabC [G57_E]
theorem G19_CV : CV Tryd.prog G19_C := tabC_valid (l := _) ⟨G57_valid, trivial⟩
noncomputable def G19 (a0 : E30) (a1 : E30) : Option Bool :=
  (Option.bind (G57 a0.1 a1.1) fun r1 =>
  (bif r1 then
    (Option.bind (G57 a0.2.1 a1.2.1) fun r2 =>
      (bif r2 then
        (Option.bind (G57 a0.2.2.1 a1.2.2.1) fun r3 =>
          some r3)
        else
        some false))
    else
    some false))
noncomputable def G19_E : CEnt := pureE 19 [.dat T30, .dat T30] (.dat .bool) fun x => G19 x.1 x.2.1
theorem G19_LV : LV 0 Tryd.prog false (loopsOf (bodyOf Tryd.f19)) [] := by unfold LV; cases loopsOf (bodyOf Tryd.f19) <;> trivial
theorem G19_ent : Ent Tryd.prog 19 := ⟨by decide, enters_of Tryd.func19 (by kernel_rfl) rfl⟩
theorem G19_hev : ∀ x, fnR Tryd.prog G19_C [] Tryd.f19 (bodyOf Tryd.f19) (encs [.dat T30, .dat T30] x) ⟨[], [], 0⟩ (frzF (.dat .bool)) = G19 x.1 x.2.1 := by
  intro x; kernel_rfl
theorem G19_valid : G19_E.Valid Tryd.prog :=
  pureE_valid (by kernel_rfl) (by kernel_rfl) G19_ent (frz_lcall mixed Tryd.func19 rfl G19_ent G19_CV G19_LV (by kernel_rfl) (by kernel_rfl) G19_hev)
noncomputable def G15_C : CalT := tabC [G45_E, G46_E, G16_E, G17_E, mM_E, g25_sense_Least_E, g26_sense_Known_E, g28_sense_Where_E, G48_E, G32_E, G35_E, G19_E]
theorem G15_CV : CV Tryd.prog G15_C := tabC_valid (l := _) ⟨G45_valid, G46_valid, G16_valid, G17_valid, mM_valid, g25_sense_Least_valid, g26_sense_Known_valid, g28_sense_Where_valid, G48_valid, G32_valid, G35_valid, G19_valid, trivial⟩
noncomputable def G15 : Option Bool :=
  (Option.bind G45 fun r1 =>
  (Option.bind G46 fun r2 =>
    (Option.bind (G16 r1 r2 ([0], ([], ()))) fun r3 =>
      (Option.bind G45 fun r4 =>
        (Option.bind G46 fun r5 =>
          (Option.bind (G16 r4 r5 ([], ([0], ()))) fun r6 =>
            (Option.bind G45 fun r7 =>
              (Option.bind G46 fun r8 =>
                (Option.bind (G17 r7 r8 ([1], ([0], ()))) fun r9 =>
                  (Option.bind G45 fun r10 =>
                    (Option.bind mM fun r11 =>
                      (Option.bind (g25_sense_Least r10 r11) fun r12 =>
                        (Option.bind G45 fun r13 =>
                          (Option.bind G46 fun r14 =>
                            (Option.bind (g26_sense_Known r13 r14 1) fun r15 =>
                              (Option.bind G45 fun r16 =>
                                (Option.bind mM fun r17 =>
                                  (Option.bind (g28_sense_Where r16 r17 1 0 20) fun r18 =>
                                    (Option.bind G45 fun r19 =>
                                      (Option.bind G46 fun r20 =>
                                        (Option.bind (G48 r19 r20) fun r21 =>
                                          (bif (r3.2.1 != 0) then
                                            some false
                                            else
                                            (bif (r6.2.1 != 0) then
                                              some false
                                              else
                                              (bif (r9.2.1 != 0) then
                                                some false
                                                else
                                                (bif (r12.2.1 != 0) then
                                                  some false
                                                  else
                                                  (bif (r15.2.1 != 0) then
                                                    some false
                                                    else
                                                    (bif (r18.2.1 != 0) then
                                                      some false
                                                      else
                                                      (bif (r21.2.1 != 0) then
                                                        some false
                                                        else
                                                        (Option.bind (G32 r12.1 [([0], ([], ())), ([], ([0], ()))]) fun r22 =>
                                                          (bif (!r22) then
                                                            some false
                                                            else
                                                            (Option.bind (G35 r15.1 [3, 1, 1, 1, 1]) fun r23 =>
                                                              (bif (!r23) then
                                                                some false
                                                                else
                                                                (bif r3.1 then
                                                                  (bif (!r6.1) then
                                                                    (Option.bind (G19 r9.1 ([2700, 2649], ([2, 0], ([0, (-2), 0], ())))) fun r24 =>
                                                                      (bif r24 then
                                                                        (bif ((r18.1.1 == 2699) && ((r18.1.2.1 == 2742) && true)) then
                                                                          some (ByteArray.toList r21.1 == ByteArray.toList (⟨#[115, 116, 114, 105, 110, 103, 32, 50, 32, 51, 32, 50, 32, 50, 32, 51, 32, 111, 10, 115, 101, 110, 115, 111, 114, 32, 48, 32, 97, 10, 115, 101, 110, 115, 111, 114, 32, 48, 32, 97, 10, 115, 101, 110, 115, 111, 114, 32, 49, 32, 98, 10, 114, 101, 97, 100, 32, 48, 32, 48, 32, 50, 55, 48, 48, 32, 108, 10, 114, 101, 97, 100, 32, 48, 32, 49, 48, 32, 50, 55, 50, 48, 32, 108, 10, 114, 101, 97, 100, 32, 49, 32, 48, 32, 50, 55, 48, 49, 32, 115, 10, 114, 101, 97, 100, 32, 49, 32, 49, 48, 32, 50, 55, 48, 50, 32, 111, 10, 114, 101, 97, 100, 32, 50, 32, 48, 32, 50, 54, 53, 48, 32, 108, 10, 114, 101, 97, 100, 32, 50, 32, 49, 48, 32, 50, 54, 53, 49, 32, 107, 10, 101, 110, 100, 32, 54, 32, 103, 10]⟩ : ByteArray))
                                                                          else
                                                                          some false)
                                                                        else
                                                                        some false))
                                                                    else
                                                                    some false)
                                                                  else
                                                                  some false)))))))))))))))))))))))))))))))))
noncomputable def G15_E : CEnt := pureE 15 [] (.dat .bool) fun x => G15
theorem G15_LV : LV 0 Tryd.prog false (loopsOf (bodyOf Tryd.f15)) [] := by unfold LV; cases loopsOf (bodyOf Tryd.f15) <;> trivial
theorem G15_ent : Ent Tryd.prog 15 := ⟨by decide, enters_of Tryd.func15 (by kernel_rfl) rfl⟩
theorem G15_hev : ∀ x, fnR Tryd.prog G15_C [] Tryd.f15 (bodyOf Tryd.f15) (encs [] x) ⟨[], [], 0⟩ (frzF (.dat .bool)) = G15 := by
  intro x; kernel_rfl
theorem G15_valid : G15_E.Valid Tryd.prog :=
  pureE_valid (by kernel_rfl) (by kernel_rfl) G15_ent (frz_lcall mixed Tryd.func15 rfl G15_ent G15_CV G15_LV (by kernel_rfl) (by kernel_rfl) G15_hev)
noncomputable def G60_C : CalT := tabC []
theorem G60_CV : CV Tryd.prog G60_C := tabC_valid (l := _) trivial
noncomputable def G60 (a0 : Int) (a1 : Int) (a2 : Int) : Option Bool :=
  (bif (decide (a0 ≥ a1)) then
  some (decide (a0 ≤ a2))
  else
  some false)
noncomputable def G60_E : CEnt := pureE 60 [.dat (.int .i64), .dat (.int .i64), .dat (.int .i64)] (.dat .bool) fun x => G60 x.1 x.2.1 x.2.2.1
theorem G60_LV : LV 0 Tryd.prog false (loopsOf (bodyOf Tryd.f60)) [] := by unfold LV; cases loopsOf (bodyOf Tryd.f60) <;> trivial
theorem G60_ent : Ent Tryd.prog 60 := ⟨by decide, enters_of Tryd.func60 (by kernel_rfl) rfl⟩
theorem G60_hev : ∀ x, fnR Tryd.prog G60_C [] Tryd.f60 (bodyOf Tryd.f60) (encs [.dat (.int .i64), .dat (.int .i64), .dat (.int .i64)] x) ⟨[], [], 0⟩ (frzF (.dat .bool)) = G60 x.1 x.2.1 x.2.2.1 := by
  intro x; kernel_rfl
theorem G60_valid : G60_E.Valid Tryd.prog :=
  pureE_valid (by kernel_rfl) (by kernel_rfl) G60_ent (frz_lcall mixed Tryd.func60 rfl G60_ent G60_CV G60_LV (by kernel_rfl) (by kernel_rfl) G60_hev)
noncomputable def G42_C : CalT := tabC [G60_E]
theorem G42_CV : CV Tryd.prog G42_C := tabC_valid (l := _) ⟨G60_valid, trivial⟩
noncomputable def G42_l0_c : Code := loopAt (bodyOf Tryd.f42) 0
noncomputable def G42_l0_S : SPat := ⟨[.any, .fix (.bptr 0 []), .dat .bool, .dat (.int .i64), .any, .any, .any, .any, .any, .any, .any, .any, .any, .any, .any, .any, .any, .any, .any, .any, .any, .any, .any, .any, .any, .any, .any, .any, .any, .any, .any, .any, .any, .any, .any, .any, .any, .any, .any, .any, .any, .any, .any, .any, .any], [.dat T23], 0⟩
noncomputable def G42_l0_step (s : ((Bool × (Int × Unit)) × (E23 × Unit))) : Option (Nat × ((Bool × (Int × Unit)) × (E23 × Unit))) :=
  (bif (decide (s.1.2.1 < (List.length s.2.1.2.2.2.2.1 : Int))) then
  (bif (decide (0 ≤ s.1.2.1) && decide (s.1.2.1 < (List.length s.2.1.2.2.2.2.1 : Int))) then
    (Option.bind (G60 (List.getD s.2.1.2.2.2.2.1 (Int.toNat s.1.2.1) 0) 0 (IntKind.wrap .i64 (s.2.1.2.2.2.1 - 1))) fun r1 =>
      (bif (!r1) then
        some (1, ((false, (s.1.2.1, ())), (s.2.1, ())))
        else
        some (0, ((s.1.1, ((IntKind.wrap .i64 (s.1.2.1 + 1)), ())), (s.2.1, ())))))
    else
    none)
  else
  some (2, ((s.1.1, (s.1.2.1, ())), (s.2.1, ()))))
noncomputable def G42_l0_fuel (s : ((Bool × (Int × Unit)) × (E23 × Unit))) : Nat := Int.toNat ((List.length s.2.1.2.2.2.2.1 : Int) - s.1.2.1) + 1
noncomputable def G42_l0_run (s : ((Bool × (Int × Unit)) × (E23 × Unit))) : Option (Nat × ((Bool × (Int × Unit)) × (E23 × Unit))) := iter G42_l0_step (G42_l0_fuel s) s
noncomputable def G42_l0_L : LoopT := loopT G42_l0_S [.ret, .exit 0] G42_l0_run
noncomputable def G42 (a0 : E23) : Option Bool :=
  (Option.bind (G42_l0_run ((false, (0, ())), (a0, ()))) fun q2 =>
  (natK q2.1
    (some q2.2.1.1)
    (fun _ => (Option.bind (G60 q2.2.2.1.1 0 100) fun r3 =>
      (bif r3 then
        (Option.bind (G60 q2.2.2.1.2.1 0 20) fun r4 =>
          (bif r4 then
            (Option.bind (G60 q2.2.2.1.2.2.1 0 20) fun r5 =>
              (bif r5 then
                (Option.bind (G60 q2.2.2.1.2.2.2.1 1 4) fun r6 =>
                  (bif r6 then
                    (Option.bind (G60 (List.length q2.2.2.1.2.2.2.2.1 : Int) 1 6) fun r7 =>
                      some r7)
                    else
                    some false))
                else
                some false))
            else
            some false))
        else
        some false)))))
noncomputable def G42_E : CEnt := pureE 42 [.dat T23] (.dat .bool) fun x => G42 x.1
theorem G42_l0_V : LValid 0 Tryd.prog (.loop G42_l0_c) G42_l0_L false := by
  exact loopT_valid (fuel := G42_l0_fuel) mixed G42_CV (lvNil _) (by kernel_rfl) (by decide) rfl (by intro s; kernel_rfl) (fun s r h => h)
theorem G42_LV : LV 0 Tryd.prog false (loopsOf (bodyOf Tryd.f42)) [G42_l0_L] := by
  have hl : loopsOf (bodyOf Tryd.f42) = [.loop G42_l0_c] := by kernel_rfl
  rw [hl]; exact ⟨G42_l0_V, trivial⟩
theorem G42_ent : Ent Tryd.prog 42 := ⟨by decide, enters_of Tryd.func42 (by kernel_rfl) rfl⟩
theorem G42_hev : ∀ x, fnR Tryd.prog G42_C [G42_l0_L] Tryd.f42 (bodyOf Tryd.f42) (encs [.dat T23] x) ⟨[], [], 0⟩ (frzF (.dat .bool)) = G42 x.1 := by
  intro x; kernel_rfl
theorem G42_valid : G42_E.Valid Tryd.prog :=
  pureE_valid (by kernel_rfl) (by kernel_rfl) G42_ent (frz_lcall mixed Tryd.func42 rfl G42_ent G42_CV G42_LV (by kernel_rfl) (by kernel_rfl) G42_hev)
noncomputable def G43_C : CalT := tabC [G60_E]
theorem G43_CV : CV Tryd.prog G43_C := tabC_valid (l := _) ⟨G60_valid, trivial⟩
noncomputable def G43_l0_c : Code := loopAt (bodyOf Tryd.f43) 0
noncomputable def G43_l0_S : SPat := ⟨[.any, .dat (.list T72), .fix (.bptr 0 []), .any, .dat .bool, .dat (.int .i64), .any, .any, .any, .any, .any, .any, .any, .any, .any, .any, .any, .any, .any, .any, .any, .any, .any, .any, .any, .any, .any, .any, .any, .any, .any, .any, .any, .any, .any, .any, .any, .any, .any, .any, .any], [.dat T23], 0⟩
noncomputable def G43_l0_step (s : (((List E72) × (Bool × (Int × Unit))) × (E23 × Unit))) : Option (Nat × (((List E72) × (Bool × (Int × Unit))) × (E23 × Unit))) :=
  (bif (decide (s.1.2.2.1 < (List.length s.1.1 : Int))) then
  (bif (decide (0 ≤ s.1.2.2.1) && decide (s.1.2.2.1 < (List.length s.1.1 : Int))) then
    (Option.bind (G60 ((List.getD s.1.1 (Int.toNat s.1.2.2.1) (0, (0, (0, ())))).1) 0 (IntKind.wrap .i64 ((List.length s.2.1.2.2.2.2.1 : Int) - 1))) fun r1 =>
      (bif (!r1) then
        some (1, ((s.1.1, (false, (s.1.2.2.1, ()))), (s.2.1, ())))
        else
        (bif (decide (0 ≤ s.1.2.2.1) && decide (s.1.2.2.1 < (List.length s.1.1 : Int))) then
          (Option.bind (G60 ((List.getD s.1.1 (Int.toNat s.1.2.2.1) (0, (0, (0, ())))).2.1) 0 200) fun r2 =>
            (bif (!r2) then
              some (1, ((s.1.1, (false, (s.1.2.2.1, ()))), (s.2.1, ())))
              else
              (bif (decide (0 ≤ s.1.2.2.1) && decide (s.1.2.2.1 < (List.length s.1.1 : Int))) then
                (Option.bind (G60 ((List.getD s.1.1 (Int.toNat s.1.2.2.1) (0, (0, (0, ())))).2.2.1) 0 6400) fun r3 =>
                  (bif (!r3) then
                    some (1, ((s.1.1, (false, (s.1.2.2.1, ()))), (s.2.1, ())))
                    else
                    some (0, ((s.1.1, (s.1.2.1, ((IntKind.wrap .i64 (s.1.2.2.1 + 1)), ()))), (s.2.1, ())))))
                else
                none)))
          else
          none)))
    else
    none)
  else
  some (2, ((s.1.1, (s.1.2.1, (s.1.2.2.1, ()))), (s.2.1, ()))))
noncomputable def G43_l0_fuel (s : (((List E72) × (Bool × (Int × Unit))) × (E23 × Unit))) : Nat := Int.toNat ((List.length s.1.1 : Int) - s.1.2.2.1) + 1
noncomputable def G43_l0_run (s : (((List E72) × (Bool × (Int × Unit))) × (E23 × Unit))) : Option (Nat × (((List E72) × (Bool × (Int × Unit))) × (E23 × Unit))) := iter G43_l0_step (G43_l0_fuel s) s
noncomputable def G43_l0_L : LoopT := loopT G43_l0_S [.ret, .exit 0] G43_l0_run
noncomputable def G43 (a0 : E23) (a1 : (List E72)) : Option Bool :=
  (Option.bind (G43_l0_run ((a1, (false, (0, ()))), (a0, ()))) fun q4 =>
  (natK q4.1
    (some q4.2.1.2.1)
    (fun _ => some true)))
noncomputable def G43_E : CEnt := pureE 43 [.dat T23, .dat (.list T72)] (.dat .bool) fun x => G43 x.1 x.2.1
theorem G43_l0_V : LValid 0 Tryd.prog (.loop G43_l0_c) G43_l0_L false := by
  exact loopT_valid (fuel := G43_l0_fuel) mixed G43_CV (lvNil _) (by kernel_rfl) (by decide) rfl (by intro s; kernel_rfl) (fun s r h => h)
theorem G43_LV : LV 0 Tryd.prog false (loopsOf (bodyOf Tryd.f43)) [G43_l0_L] := by
  have hl : loopsOf (bodyOf Tryd.f43) = [.loop G43_l0_c] := by kernel_rfl
  rw [hl]; exact ⟨G43_l0_V, trivial⟩
theorem G43_ent : Ent Tryd.prog 43 := ⟨by decide, enters_of Tryd.func43 (by kernel_rfl) rfl⟩
theorem G43_hev : ∀ x, fnR Tryd.prog G43_C [G43_l0_L] Tryd.f43 (bodyOf Tryd.f43) (encs [.dat T23, .dat (.list T72)] x) ⟨[], [], 0⟩ (frzF (.dat .bool)) = G43 x.1 x.2.1 := by
  intro x; kernel_rfl
theorem G43_valid : G43_E.Valid Tryd.prog :=
  pureE_valid (by kernel_rfl) (by kernel_rfl) G43_ent (frz_lcall mixed Tryd.func43 rfl G43_ent G43_CV G43_LV (by kernel_rfl) (by kernel_rfl) G43_hev)
noncomputable def G13_C : CalT := tabC [G42_E, G43_E]
theorem G13_CV : CV Tryd.prog G13_C := tabC_valid (l := _) ⟨G42_valid, G43_valid, trivial⟩
noncomputable def G13 (a0 : E23) (a1 : (List E72)) : Option Int :=
  (bif (decide ((List.length a1 : Int) > 24)) then
  some 3
  else
  (Option.bind (G42 a0) fun r1 =>
    (bif (!r1) then
      some 2
      else
      (Option.bind (G43 a0 a1) fun r2 =>
        (bif (!r2) then
          some 2
          else
          some 0)))))
noncomputable def G13_E : CEnt := pureE 13 [.dat T23, .dat (.list T72)] (.dat (.int .i64)) fun x => G13 x.1 x.2.1
theorem G13_LV : LV 0 Tryd.prog false (loopsOf (bodyOf Tryd.f13)) [] := by unfold LV; cases loopsOf (bodyOf Tryd.f13) <;> trivial
theorem G13_ent : Ent Tryd.prog 13 := ⟨by decide, enters_of Tryd.func13 (by kernel_rfl) rfl⟩
theorem G13_hev : ∀ x, fnR Tryd.prog G13_C [] Tryd.f13 (bodyOf Tryd.f13) (encs [.dat T23, .dat (.list T72)] x) ⟨[], [], 0⟩ (frzF (.dat (.int .i64))) = G13 x.1 x.2.1 := by
  intro x; kernel_rfl
theorem G13_valid : G13_E.Valid Tryd.prog :=
  pureE_valid (by kernel_rfl) (by kernel_rfl) G13_ent (frz_lcall mixed Tryd.func13 rfl G13_ent G13_CV G13_LV (by kernel_rfl) (by kernel_rfl) G13_hev)
noncomputable def G84_C : CalT := tabC []
theorem G84_CV : CV Tryd.prog G84_C := tabC_valid (l := _) trivial
noncomputable def G84_l0_c : Code := loopAt (bodyOf Tryd.f84) 0
noncomputable def G84_l0_S : SPat := ⟨[.any, .dat (.list T72), .dat (.int .i64), .fix (.bptr 0 []), .any, .any, .fix (.bptr 1 []), .fix (.bptr 2 []), .dat (.int .i64), .any, .any, .any, .any, .any, .any, .any, .any, .any, .any, .any, .any, .any, .any, .any, .any, .any, .any, .any, .any, .any, .any, .any, .any, .any, .any, .any, .any, .any, .any, .any, .any, .any, .any, .any, .any, .any, .any, .any, .any, .any, .any, .any, .any, .any, .any, .any, .any, .any, .any, .any, .any, .any, .any, .any], [.dat T23, .cons (.dat (.int .i64)) (.cons (.dat (.int .i64)) (.nil)), .cons (.dat (.int .i64)) (.cons (.dat (.int .i64)) (.nil))], 0⟩
abbrev TY86 : Type := (((List E72) × (Int × (Int × Unit))) × (E23 × ((Int × (Int × Unit)) × ((Int × (Int × Unit)) × Unit))))
abbrev TY87 : Type := (Nat × (((List E72) × (Int × (Int × Unit))) × (E23 × ((Int × (Int × Unit)) × ((Int × (Int × Unit)) × Unit)))))
noncomputable def G84_l0_step (s : TY86) : Option TY87 :=
  (bif (decide (s.1.2.2.1 < (List.length s.1.1 : Int))) then
  (bif (decide (0 ≤ s.1.2.2.1) && decide (s.1.2.2.1 < (List.length s.1.1 : Int))) then
    (bif (decide (0 ≤ (List.getD s.1.1 (Int.toNat s.1.2.2.1) (0, (0, (0, ())))).1) && decide ((List.getD s.1.1 (Int.toNat s.1.2.2.1) (0, (0, (0, ())))).1 < (List.length s.2.1.2.2.2.2.1 : Int))) then
      (bif ((List.getD s.2.1.2.2.2.2.1 (Int.toNat (List.getD s.1.1 (Int.toNat s.1.2.2.1) (0, (0, (0, ())))).1) 0) == s.1.2.1) then
        (bif (decide (0 ≤ s.1.2.2.1) && decide (s.1.2.2.1 < (List.length s.1.1 : Int))) then
          (bif (decide (0 ≤ s.1.2.2.1) && decide (s.1.2.2.1 < (List.length s.1.1 : Int))) then
            (bif (decide (0 ≤ s.1.2.2.1) && decide (s.1.2.2.1 < (List.length s.1.1 : Int))) then
              some (0, ((s.1.1, (s.1.2.1, ((IntKind.wrap .i64 (s.1.2.2.1 + 1)), ()))), (s.2.1, (s.2.2.1, (((if (IntKind.wrap .i64 ((List.getD s.1.1 (Int.toNat s.1.2.2.1) (0, (0, (0, ())))).2.2.1 - (IntKind.wrap .i64 (s.2.1.1 + (IntKind.wrap .i64 ((IntKind.wrap .i64 (s.2.1.2.1 + s.2.1.2.2.1)) * (List.getD s.1.1 (Int.toNat s.1.2.2.1) (0, (0, (0, ())))).2.1)))))) > s.2.2.2.1.1 then (IntKind.wrap .i64 ((List.getD s.1.1 (Int.toNat s.1.2.2.1) (0, (0, (0, ())))).2.2.1 - (IntKind.wrap .i64 (s.2.1.1 + (IntKind.wrap .i64 ((IntKind.wrap .i64 (s.2.1.2.1 + s.2.1.2.2.1)) * (List.getD s.1.1 (Int.toNat s.1.2.2.1) (0, (0, (0, ())))).2.1)))))) else s.2.2.2.1.1), ((if (IntKind.wrap .i64 ((List.getD s.1.1 (Int.toNat s.1.2.2.1) (0, (0, (0, ())))).2.2.1 + (IntKind.wrap .i64 (s.2.1.1 + (IntKind.wrap .i64 ((IntKind.wrap .i64 (s.2.1.2.1 + s.2.1.2.2.1)) * (List.getD s.1.1 (Int.toNat s.1.2.2.1) (0, (0, (0, ())))).2.1)))))) < s.2.2.2.1.2.1 then (IntKind.wrap .i64 ((List.getD s.1.1 (Int.toNat s.1.2.2.1) (0, (0, (0, ())))).2.2.1 + (IntKind.wrap .i64 (s.2.1.1 + (IntKind.wrap .i64 ((IntKind.wrap .i64 (s.2.1.2.1 + s.2.1.2.2.1)) * (List.getD s.1.1 (Int.toNat s.1.2.2.1) (0, (0, (0, ())))).2.1)))))) else s.2.2.2.1.2.1), ())), ())))))
              else
              none)
            else
            none)
          else
          none)
        else
        some (0, ((s.1.1, (s.1.2.1, ((IntKind.wrap .i64 (s.1.2.2.1 + 1)), ()))), (s.2.1, (s.2.2.1, (s.2.2.2.1, ()))))))
      else
      none)
    else
    none)
  else
  some (1, ((s.1.1, (s.1.2.1, (s.1.2.2.1, ()))), (s.2.1, (s.2.2.1, (s.2.2.2.1, ()))))))
noncomputable def G84_l0_fuel (s : TY86) : Nat := Int.toNat ((List.length s.1.1 : Int) - s.1.2.2.1) + 1
noncomputable def G84_l0_run (s : TY86) : Option TY87 := iter G84_l0_step (G84_l0_fuel s) s
noncomputable def G84_l0_L : LoopT := loopT G84_l0_S [.exit 0] G84_l0_run
noncomputable def G84 (a0 : E23) (a1 : (List E72)) (a2 : Int) : Option E56 :=
  (Option.bind (G84_l0_run ((a1, (a2, (0, ()))), (a0, ((0, (0, ())), ((2000, (3200, ())), ()))))) fun q1 =>
  some q1.2.2.2.2.1)
noncomputable def G84_E : CEnt := pureE 84 [.dat T23, .dat (.list T72), .dat (.int .i64)] (.dat T56) fun x => G84 x.1 x.2.1 x.2.2.1
theorem G84_l0_V : LValid 0 Tryd.prog (.loop G84_l0_c) G84_l0_L false := by
  exact loopT_valid (fuel := G84_l0_fuel) mixed G84_CV (lvNil _) (by kernel_rfl) (by decide) rfl (by intro s; kernel_rfl) (fun s r h => h)
theorem G84_LV : LV 0 Tryd.prog false (loopsOf (bodyOf Tryd.f84)) [G84_l0_L] := by
  have hl : loopsOf (bodyOf Tryd.f84) = [.loop G84_l0_c] := by kernel_rfl
  rw [hl]; exact ⟨G84_l0_V, trivial⟩
theorem G84_ent : Ent Tryd.prog 84 := ⟨by decide, enters_of Tryd.func84 (by kernel_rfl) rfl⟩
theorem G84_hev : ∀ x, fnR Tryd.prog G84_C [G84_l0_L] Tryd.f84 (bodyOf Tryd.f84) (encs [.dat T23, .dat (.list T72), .dat (.int .i64)] x) ⟨[], [], 0⟩ (frzF (.dat T56)) = G84 x.1 x.2.1 x.2.2.1 := by
  intro x; kernel_rfl
theorem G84_valid : G84_E.Valid Tryd.prog :=
  pureE_valid (by kernel_rfl) (by kernel_rfl) G84_ent (frz_lcall mixed Tryd.func84 rfl G84_ent G84_CV G84_LV (by kernel_rfl) (by kernel_rfl) G84_hev)
noncomputable def G44_C : CalT := tabC [G84_E]
theorem G44_CV : CV Tryd.prog G44_C := tabC_valid (l := _) ⟨G84_valid, trivial⟩
noncomputable def G44_l0_c : Code := loopAt (bodyOf Tryd.f44) 0
noncomputable def G44_l0_S : SPat := ⟨[.any, .dat (.list T72), .fix (.bptr 0 []), .any, .any, .dat (.int .i64), .dat (.int .i64), .any, .any, .any, .any, .any, .any, .any, .any, .any, .any, .any, .any, .any, .any, .any, .any, .any, .any, .any, .any, .any, .any, .any, .any, .any, .any, .any, .any, .any, .any, .any, .any, .any, .any, .any, .any, .any, .any], [.dat T23], 0⟩
noncomputable def G44_l0_step (s : (((List E72) × (Int × (Int × Unit))) × (E23 × Unit))) : Option (Nat × (((List E72) × (Int × (Int × Unit))) × (E23 × Unit))) :=
  (bif (decide (s.1.2.2.1 < s.2.1.2.2.2.1)) then
  (Option.bind (G84 s.2.1 s.1.1 s.1.2.2.1) fun r1 =>
    some (0, ((s.1.1, ((IntKind.wrap .i64 (s.1.2.1 + (IntKind.wrap .i64 ((IntKind.wrap .i64 ((IntKind.wrap .i64 ((if (IntKind.wrap .i64 ((IntKind.wrap .i64 (r1.2.1 - r1.1)) + 1)) > 0 then (IntKind.wrap .i64 ((IntKind.wrap .i64 (r1.2.1 - r1.1)) + 1)) else 0) * (IntKind.wrap .i64 ((IntKind.wrap .i64 ((2 : Int) * s.2.1.2.2.1)) + 1)))) * (IntKind.wrap .i64 ((IntKind.wrap .i64 ((2 : Int) * s.2.1.2.1)) + 1)))) * (IntKind.wrap .i64 ((List.length s.1.1 : Int) + (List.length s.2.1.2.2.2.2.1 : Int))))))), ((IntKind.wrap .i64 (s.1.2.2.1 + 1)), ()))), (s.2.1, ()))))
  else
  some (1, ((s.1.1, (s.1.2.1, (s.1.2.2.1, ()))), (s.2.1, ()))))
noncomputable def G44_l0_fuel (s : (((List E72) × (Int × (Int × Unit))) × (E23 × Unit))) : Nat := Int.toNat (s.2.1.2.2.2.1 - s.1.2.2.1) + 1
noncomputable def G44_l0_run (s : (((List E72) × (Int × (Int × Unit))) × (E23 × Unit))) : Option (Nat × (((List E72) × (Int × (Int × Unit))) × (E23 × Unit))) := iter G44_l0_step (G44_l0_fuel s) s
noncomputable def G44_l0_L : LoopT := loopT G44_l0_S [.exit 0] G44_l0_run
noncomputable def G44 (a0 : E23) (a1 : (List E72)) : Option Int :=
  (Option.bind (G44_l0_run ((a1, (1, (0, ()))), (a0, ()))) fun q2 =>
  some q2.2.1.2.1)
noncomputable def G44_E : CEnt := pureE 44 [.dat T23, .dat (.list T72)] (.dat (.int .i64)) fun x => G44 x.1 x.2.1
theorem G44_l0_V : LValid 0 Tryd.prog (.loop G44_l0_c) G44_l0_L false := by
  exact loopT_valid (fuel := G44_l0_fuel) mixed G44_CV (lvNil _) (by kernel_rfl) (by decide) rfl (by intro s; kernel_rfl) (fun s r h => h)
theorem G44_LV : LV 0 Tryd.prog false (loopsOf (bodyOf Tryd.f44)) [G44_l0_L] := by
  have hl : loopsOf (bodyOf Tryd.f44) = [.loop G44_l0_c] := by kernel_rfl
  rw [hl]; exact ⟨G44_l0_V, trivial⟩
theorem G44_ent : Ent Tryd.prog 44 := ⟨by decide, enters_of Tryd.func44 (by kernel_rfl) rfl⟩
theorem G44_hev : ∀ x, fnR Tryd.prog G44_C [G44_l0_L] Tryd.f44 (bodyOf Tryd.f44) (encs [.dat T23, .dat (.list T72)] x) ⟨[], [], 0⟩ (frzF (.dat (.int .i64))) = G44 x.1 x.2.1 := by
  intro x; kernel_rfl
theorem G44_valid : G44_E.Valid Tryd.prog :=
  pureE_valid (by kernel_rfl) (by kernel_rfl) G44_ent (frz_lcall mixed Tryd.func44 rfl G44_ent G44_CV G44_LV (by kernel_rfl) (by kernel_rfl) G44_hev)
noncomputable def G14_C : CalT := tabC [G44_E]
theorem G14_CV : CV Tryd.prog G14_C := tabC_valid (l := _) ⟨G44_valid, trivial⟩
noncomputable def G14 (a0 : E23) (a1 : (List E72)) (a2 : Int) : Option Bool :=
  (Option.bind (G44 a0 a1) fun r1 =>
  (bif (!decide (a2 = 0)) then
    some (decide (r1 ≤ (IntKind.wrap .i64 (Int.tdiv 20000000 a2))))
    else
    none))
noncomputable def G14_E : CEnt := pureE 14 [.dat T23, .dat (.list T72), .dat (.int .i64)] (.dat .bool) fun x => G14 x.1 x.2.1 x.2.2.1
theorem G14_LV : LV 0 Tryd.prog false (loopsOf (bodyOf Tryd.f14)) [] := by unfold LV; cases loopsOf (bodyOf Tryd.f14) <;> trivial
theorem G14_ent : Ent Tryd.prog 14 := ⟨by decide, enters_of Tryd.func14 (by kernel_rfl) rfl⟩
theorem G14_hev : ∀ x, fnR Tryd.prog G14_C [] Tryd.f14 (bodyOf Tryd.f14) (encs [.dat T23, .dat (.list T72), .dat (.int .i64)] x) ⟨[], [], 0⟩ (frzF (.dat .bool)) = G14 x.1 x.2.1 x.2.2.1 := by
  intro x; kernel_rfl
theorem G14_valid : G14_E.Valid Tryd.prog :=
  pureE_valid (by kernel_rfl) (by kernel_rfl) G14_ent (frz_lcall mixed Tryd.func14 rfl G14_ent G14_CV G14_LV (by kernel_rfl) (by kernel_rfl) G14_hev)
end Go.Proofs.YtibmgbalfhfcdaaDoor.Abs
