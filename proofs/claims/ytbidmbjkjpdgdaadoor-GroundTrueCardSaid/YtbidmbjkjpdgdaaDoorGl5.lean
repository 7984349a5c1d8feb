/-
  A law of the ground layer as a typed function. Printed by a program of mine (gen.py).
-/
import Derived.Test.YtbidmbjkjpdgdaaDoorGf2
set_option linter.unusedVariables false
set_option maxRecDepth 100000
namespace Go.Proofs.YtbidmbjkjpdgdaaDoor.Abs
open Go.Shelf Go.Sort
noncomputable def g5_taliklaw01_GroundTrue_C : CalT := tabC [g22_taliklaw01_fair_E, g15_taliklaw01_known_E, g23_ground_Years_E, g16_ground_Play_E, g25_talikref01_Inside_E]
theorem g5_taliklaw01_GroundTrue_CV : CV Tryd.prog g5_taliklaw01_GroundTrue_C := tabC_valid ⟨g22_taliklaw01_fair_valid, g15_taliklaw01_known_valid, g23_ground_Years_valid, g16_ground_Play_valid, g25_talikref01_Inside_valid, trivial⟩
noncomputable def g5_taliklaw01_GroundTrue_l0_S : SPat := ⟨[.any, .dat (.list T72), .any, .fix (.bptr 0 []), .any, .fix (.bptr 1 []), .dat .bool, .dat (.list T53), .any, .dat (.int .i64), .any, .any, .any, .any, .any, .any, .any, .any, .any, .any, .any, .any, .any, .any, .any, .any, .any, .any, .any, .any, .any, .any, .any, .any, .any, .any, .any, .any, .any, .any, .any, .any, .any, .any, .any, .any, .any, .any, .any, .any, .any, .any, .any, .any, .any, .any, .any, .any, .any, .any, .any, .any, .any, .any, .any, .any, .any, .any, .any, .any, .any, .any, .any, .any, .any, .any, .any, .any, .any, .any, .any, .any, .any, .any, .any, .any, .any, .any, .any, .any, .any, .any, .any, .any, .any, .any, .any, .any, .any, .any, .any, .any, .any, .any, .any, .any, .any, .any, .any, .any, .any, .any, .any, .any, .any, .any, .any, .any, .any, .any, .any, .any, .any, .any, .any, .any, .any, .any, .any, .any, .any, .any, .any], [.dat T25, .dat T29], 0⟩
noncomputable def g5_taliklaw01_GroundTrue_l0_step (s : (((List E72) × (Bool × ((List E53) × (Int × Unit)))) × (E25 × (E29 × Unit)))) : Option (Nat × (((List E72) × (Bool × ((List E53) × (Int × Unit)))) × (E25 × (E29 × Unit)))) :=
  (bif (decide (s.1.2.2.2.1 < (List.length s.1.1 : Int))) then
  (bif (decide (0 ≤ (0 : Int)) && decide ((0 : Int) ≤ (IntKind.wrap .i64 (s.1.2.2.2.1 + 1))) && decide ((IntKind.wrap .i64 (s.1.2.2.2.1 + 1)) ≤ (List.length s.2.2.1.2.1 : Int))) then
    (bif (decide (0 ≤ (0 : Int)) && decide ((0 : Int) ≤ (IntKind.wrap .i64 (s.1.2.2.2.1 + 1))) && decide ((IntKind.wrap .i64 (s.1.2.2.2.1 + 1)) ≤ (List.length s.2.2.1.2.2.1 : Int))) then
      (bif (decide (0 ≤ (0 : Int)) && decide ((0 : Int) ≤ (IntKind.wrap .i64 (s.1.2.2.2.1 + 1))) && decide ((IntKind.wrap .i64 (s.1.2.2.2.1 + 1)) ≤ (List.length s.2.2.1.2.2.2.1 : Int))) then
        (bif (decide (0 ≤ (0 : Int)) && decide ((0 : Int) ≤ (IntKind.wrap .i64 (s.1.2.2.2.1 + 1))) && decide ((IntKind.wrap .i64 (s.1.2.2.2.1 + 1)) ≤ (List.length s.2.2.1.2.2.2.2.1 : Int))) then
          (bif (decide (0 ≤ (0 : Int)) && decide ((0 : Int) ≤ (IntKind.wrap .i64 (s.1.2.2.2.1 + 1))) && decide ((IntKind.wrap .i64 (s.1.2.2.2.1 + 1)) ≤ (List.length s.1.1 : Int))) then
            (Option.bind (g16_ground_Play s.2.1 (List.drop (Int.toNat 0) (List.take (Int.toNat (IntKind.wrap .i64 (s.1.2.2.2.1 + 1))) s.1.1)) (s.2.2.1.1, ((List.drop (Int.toNat 0) (List.take (Int.toNat (IntKind.wrap .i64 (s.1.2.2.2.1 + 1))) s.2.2.1.2.1)), ((List.drop (Int.toNat 0) (List.take (Int.toNat (IntKind.wrap .i64 (s.1.2.2.2.1 + 1))) s.2.2.1.2.2.1)), ((List.drop (Int.toNat 0) (List.take (Int.toNat (IntKind.wrap .i64 (s.1.2.2.2.1 + 1))) s.2.2.1.2.2.2.1)), ((List.drop (Int.toNat 0) (List.take (Int.toNat (IntKind.wrap .i64 (s.1.2.2.2.1 + 1))) s.2.2.1.2.2.2.2.1)), ())))))) fun r4 =>
              (bif (r4.2.2.1 != 0) then
                some (1, ((s.1.1, (false, (s.1.2.2.1, (s.1.2.2.2.1, ())))), (s.2.1, (s.2.2.1, ()))))
                else
                (bif ((List.length r4.1 : Int) != (IntKind.wrap .i64 (s.1.2.2.2.1 + 1))) then
                  some (1, ((s.1.1, (false, (s.1.2.2.1, (s.1.2.2.2.1, ())))), (s.2.1, (s.2.2.1, ()))))
                  else
                  (bif (decide (0 ≤ s.1.2.2.2.1) && decide (s.1.2.2.2.1 < (List.length r4.1 : Int))) then
                    (bif (decide (0 ≤ s.1.2.2.2.1) && decide (s.1.2.2.2.1 < (List.length s.1.2.2.1 : Int))) then
                      (Option.bind (g25_talikref01_Inside (List.getD r4.1 (Int.toNat s.1.2.2.2.1) 0) ((List.getD s.1.2.2.1 (Int.toNat s.1.2.2.2.1) ((0, (0, ())), ((0, (0, ())), (0, ())))).1)) fun r5 =>
                        (bif (!r5) then
                          some (1, ((s.1.1, (false, (s.1.2.2.1, (s.1.2.2.2.1, ())))), (s.2.1, (s.2.2.1, ()))))
                          else
                          (bif (decide (0 ≤ s.1.2.2.2.1) && decide (s.1.2.2.2.1 < (List.length s.1.2.2.1 : Int))) then
                            (Option.bind (g25_talikref01_Inside r4.2.1.2.2.1 ((List.getD s.1.2.2.1 (Int.toNat s.1.2.2.2.1) ((0, (0, ())), ((0, (0, ())), (0, ())))).2.1)) fun r6 =>
                              (bif (!r6) then
                                some (1, ((s.1.1, (false, (s.1.2.2.1, (s.1.2.2.2.1, ())))), (s.2.1, (s.2.2.1, ()))))
                                else
                                (bif (decide (0 ≤ s.1.2.2.2.1) && decide (s.1.2.2.2.1 < (List.length s.1.2.2.1 : Int))) then
                                  (bif ((List.getD s.1.2.2.1 (Int.toNat s.1.2.2.2.1) ((0, (0, ())), ((0, (0, ())), (0, ())))).2.2.1 == 1) then
                                    (bif (r4.2.1.2.2.1 != 0) then
                                      some (1, ((s.1.1, (false, (s.1.2.2.1, (s.1.2.2.2.1, ())))), (s.2.1, (s.2.2.1, ()))))
                                      else
                                      (bif (decide (0 ≤ s.1.2.2.2.1) && decide (s.1.2.2.2.1 < (List.length s.1.2.2.1 : Int))) then
                                        (bif ((List.getD s.1.2.2.1 (Int.toNat s.1.2.2.2.1) ((0, (0, ())), ((0, (0, ())), (0, ())))).2.2.1 == 3) then
                                          (bif (r4.2.1.2.2.1 == 0) then
                                            some (1, ((s.1.1, (false, (s.1.2.2.1, (s.1.2.2.2.1, ())))), (s.2.1, (s.2.2.1, ()))))
                                            else
                                            some (0, ((s.1.1, (s.1.2.1, (s.1.2.2.1, ((IntKind.wrap .i64 (s.1.2.2.2.1 + 1)), ())))), (s.2.1, (s.2.2.1, ())))))
                                          else
                                          some (0, ((s.1.1, (s.1.2.1, (s.1.2.2.1, ((IntKind.wrap .i64 (s.1.2.2.2.1 + 1)), ())))), (s.2.1, (s.2.2.1, ())))))
                                        else
                                        none))
                                    else
                                    (bif (decide (0 ≤ s.1.2.2.2.1) && decide (s.1.2.2.2.1 < (List.length s.1.2.2.1 : Int))) then
                                      (bif ((List.getD s.1.2.2.1 (Int.toNat s.1.2.2.2.1) ((0, (0, ())), ((0, (0, ())), (0, ())))).2.2.1 == 3) then
                                        (bif (r4.2.1.2.2.1 == 0) then
                                          some (1, ((s.1.1, (false, (s.1.2.2.1, (s.1.2.2.2.1, ())))), (s.2.1, (s.2.2.1, ()))))
                                          else
                                          some (0, ((s.1.1, (s.1.2.1, (s.1.2.2.1, ((IntKind.wrap .i64 (s.1.2.2.2.1 + 1)), ())))), (s.2.1, (s.2.2.1, ())))))
                                        else
                                        some (0, ((s.1.1, (s.1.2.1, (s.1.2.2.1, ((IntKind.wrap .i64 (s.1.2.2.2.1 + 1)), ())))), (s.2.1, (s.2.2.1, ())))))
                                      else
                                      none))
                                  else
                                  none)))
                            else
                            none)))
                      else
                      none)
                    else
                    none))))
            else
            none)
          else
          none)
        else
        none)
      else
      none)
    else
    none)
  else
  some (2, ((s.1.1, (s.1.2.1, (s.1.2.2.1, (s.1.2.2.2.1, ())))), (s.2.1, (s.2.2.1, ())))))
noncomputable def g5_taliklaw01_GroundTrue_l0_fuel (s : (((List E72) × (Bool × ((List E53) × (Int × Unit)))) × (E25 × (E29 × Unit)))) : Nat := Int.toNat ((List.length s.1.1 : Int) - s.1.2.2.2.1) + 1
noncomputable def g5_taliklaw01_GroundTrue_l0_run (s : (((List E72) × (Bool × ((List E53) × (Int × Unit)))) × (E25 × (E29 × Unit)))) : Option (Nat × (((List E72) × (Bool × ((List E53) × (Int × Unit)))) × (E25 × (E29 × Unit)))) := iter g5_taliklaw01_GroundTrue_l0_step (g5_taliklaw01_GroundTrue_l0_fuel s) s
noncomputable def g5_taliklaw01_GroundTrue_l0_L : LoopT := loopT g5_taliklaw01_GroundTrue_l0_S [.ret, .exit 0] g5_taliklaw01_GroundTrue_l0_run
noncomputable def g5_taliklaw01_GroundTrue (a0 : E25) (a1 : (List E72)) (a2 : E29) : Option Bool :=
  (Option.bind (g22_taliklaw01_fair a0 a1 a2) fun r1 =>
  (bif (!r1) then
    (Option.bind g15_taliklaw01_known fun r2 =>
      some r2)
    else
    (Option.bind (g23_ground_Years a0 a1) fun r3 =>
      (bif (r3.2.1 != 0) then
        some false
        else
        (bif ((List.length r3.1 : Int) != (List.length a1 : Int)) then
          some false
          else
          (Option.bind (g5_taliklaw01_GroundTrue_l0_run ((a1, (false, (r3.1, (0, ())))), (a0, (a2, ())))) fun q7 =>
            (natK q7.1
              (some q7.2.1.2.1)
              (fun _ => (Option.bind g15_taliklaw01_known fun r8 =>
                some r8)))))))))
noncomputable def g5_taliklaw01_GroundTrue_E : CEnt := pureE 5 [.dat T25, .dat (.list T72), .dat T29] (.dat .bool) fun x => g5_taliklaw01_GroundTrue x.1 x.2.1 x.2.2.1
noncomputable def g5_taliklaw01_GroundTrue_l0_c : Code := loopAt (bodyOf Tryd.f5) 0
theorem g5_taliklaw01_GroundTrue_l0_V : LValid 0 Tryd.prog (.loop g5_taliklaw01_GroundTrue_l0_c) g5_taliklaw01_GroundTrue_l0_L false := by
  have hb : ∀ s, codeR Tryd.prog g5_taliklaw01_GroundTrue_C g5_taliklaw01_GroundTrue_l0_c [] (g5_taliklaw01_GroundTrue_l0_S.encE s) (g5_taliklaw01_GroundTrue_l0_S.encB s) (kst g5_taliklaw01_GroundTrue_l0_S [.ret, .exit 0]) = g5_taliklaw01_GroundTrue_l0_step s := by
    intro s; kernel_rfl
  have hL : LV 0 Tryd.prog false (loopsOf g5_taliklaw01_GroundTrue_l0_c) [] := by unfold LV; cases loopsOf g5_taliklaw01_GroundTrue_l0_c <;> trivial
  exact loopT_valid (fuel := g5_taliklaw01_GroundTrue_l0_fuel) mixed g5_taliklaw01_GroundTrue_CV hL (by kernel_rfl) (by decide) rfl hb (fun s r h => h)
theorem g5_taliklaw01_GroundTrue_LV : LV 0 Tryd.prog false (loopsOf (bodyOf Tryd.f5)) [g5_taliklaw01_GroundTrue_l0_L] := by
  have hl : loopsOf (bodyOf Tryd.f5) = [.loop g5_taliklaw01_GroundTrue_l0_c] := by kernel_rfl
  rw [hl]; exact ⟨g5_taliklaw01_GroundTrue_l0_V, trivial⟩
theorem g5_taliklaw01_GroundTrue_ent : Ent Tryd.prog 5 := ⟨by decide, enters_of Tryd.func5 (by kernel_rfl) rfl⟩
theorem g5_taliklaw01_GroundTrue_hev : ∀ x, fnR Tryd.prog g5_taliklaw01_GroundTrue_C [g5_taliklaw01_GroundTrue_l0_L] Tryd.f5 (bodyOf Tryd.f5) (encs [.dat T25, .dat (.list T72), .dat T29] x) ⟨[], [], 0⟩ (frzF (.dat .bool)) = g5_taliklaw01_GroundTrue x.1 x.2.1 x.2.2.1 := by
  intro x; kernel_rfl
theorem g5_taliklaw01_GroundTrue_lcall : ∀ x r, (fun x : Els [.dat T25, .dat (.list T72), .dat T29] => g5_taliklaw01_GroundTrue x.1 x.2.1 x.2.2.1) x = some r → LCall 0 Tryd.prog 5 (encs [.dat T25, .dat (.list T72), .dat T29] x) ⟨[], [], 0⟩ (.d .bool r) ⟨[], [], 0⟩ := frz_lcall (R := .dat .bool) mixed Tryd.func5 rfl g5_taliklaw01_GroundTrue_ent g5_taliklaw01_GroundTrue_CV g5_taliklaw01_GroundTrue_LV (by kernel_rfl) (by kernel_rfl) g5_taliklaw01_GroundTrue_hev

end Go.Proofs.YtbidmbjkjpdgdaaDoor.Abs
