/-
  A law of the ground layer as a typed function. Printed by a program of mine (gen.py).
-/
import Derived.Test.YtbidmbjkjpdgdaaDoorGf2
set_option linter.unusedVariables false
set_option maxRecDepth 100000
namespace Go.Proofs.YtbidmbjkjpdgdaaDoor.Abs
open Go.Shelf Go.Sort
noncomputable def g6_taliklaw01_GroundSharp_C : CalT := tabC [g13_taliklaw01_short_E, g15_taliklaw01_known_E, g17_taliklaw01_wanted_E, g26_talikref01_End_E, g23_ground_Years_E, g16_ground_Play_E]
theorem g6_taliklaw01_GroundSharp_CV : CV Tryd.prog g6_taliklaw01_GroundSharp_C := tabC_valid ⟨g13_taliklaw01_short_valid, g15_taliklaw01_known_valid, g17_taliklaw01_wanted_valid, g26_talikref01_End_valid, g23_ground_Years_valid, g16_ground_Play_valid, trivial⟩
noncomputable def g6_taliklaw01_GroundSharp_l0_S : SPat := ⟨[.any, .dat (.list T72), .dat .bool, .any, .any, .any, .dat .bool, .any, .dat (.list T53), .any, .dat (.list (.int .i64)), .fix (.bptr 2 []), .any, .dat (.int .i64), .any, .any, .any, .any, .any, .any, .any, .any, .any, .any, .any, .any, .any, .any, .any, .any, .any, .any, .any, .any, .any, .any, .any, .any, .any, .any, .any, .any, .any, .any, .any, .any, .any, .any, .any, .any, .any, .any, .any, .any, .any, .any, .any, .any, .any, .any, .any, .any, .any, .any, .any, .any, .any, .any, .any, .any, .any, .any, .any, .any, .any, .any, .any, .any, .any, .any, .any, .any, .any, .any, .any, .any, .any, .any, .any, .any, .any, .any, .any, .any, .any, .any, .any, .any, .any, .any, .any, .any, .any, .any, .any, .any, .any, .any, .any, .any, .any, .any, .any, .any, .any, .any, .any, .any, .any, .any, .any, .any, .any, .any, .any, .any, .any, .any, .any, .any, .any, .any, .any, .any, .any, .any, .any], [.dat T25, .dat T29, .dat T34], 0⟩
noncomputable def g6_taliklaw01_GroundSharp_l0_step (s : (((List E72) × (Bool × (Bool × ((List E53) × ((List Int) × (Int × Unit)))))) × (E25 × (E29 × (E34 × Unit))))) : Option (Nat × (((List E72) × (Bool × (Bool × ((List E53) × ((List Int) × (Int × Unit)))))) × (E25 × (E29 × (E34 × Unit))))) :=
  (bif (decide (s.1.2.2.2.2.2.1 < (List.length s.1.1 : Int))) then
  (bif s.1.2.1 then
    (bif (decide (0 ≤ s.1.2.2.2.2.2.1) && decide (s.1.2.2.2.2.2.1 < (List.length s.1.2.2.2.2.1 : Int))) then
      (bif (decide (0 ≤ s.1.2.2.2.2.2.1) && decide (s.1.2.2.2.2.2.1 < (List.length s.1.2.2.2.1 : Int))) then
        (bif ((List.getD s.1.2.2.2.2.1 (Int.toNat s.1.2.2.2.2.2.1) 0) != (List.getD s.1.2.2.2.1 (Int.toNat s.1.2.2.2.2.2.1) ((0, (0, ())), ((0, (0, ())), (0, ())))).1.2.1) then
          some (1, ((s.1.1, (s.1.2.1, (false, (s.1.2.2.2.1, (s.1.2.2.2.2.1, (s.1.2.2.2.2.2.1, ())))))), (s.2.1, (s.2.2.1, (s.2.2.2.1, ())))))
          else
          (bif (!s.1.2.1) then
            (bif (decide (0 ≤ s.1.2.2.2.2.2.1) && decide (s.1.2.2.2.2.2.1 < (List.length s.1.2.2.2.2.1 : Int))) then
              (bif (decide (0 ≤ s.1.2.2.2.2.2.1) && decide (s.1.2.2.2.2.2.1 < (List.length s.1.2.2.2.1 : Int))) then
                (bif ((List.getD s.1.2.2.2.2.1 (Int.toNat s.1.2.2.2.2.2.1) 0) != (List.getD s.1.2.2.2.1 (Int.toNat s.1.2.2.2.2.2.1) ((0, (0, ())), ((0, (0, ())), (0, ())))).1.1) then
                  some (1, ((s.1.1, (s.1.2.1, (false, (s.1.2.2.2.1, (s.1.2.2.2.2.1, (s.1.2.2.2.2.2.1, ())))))), (s.2.1, (s.2.2.1, (s.2.2.2.1, ())))))
                  else
                  some (0, ((s.1.1, (s.1.2.1, (s.1.2.2.1, (s.1.2.2.2.1, (s.1.2.2.2.2.1, ((IntKind.wrap .i64 (s.1.2.2.2.2.2.1 + 1)), ())))))), (s.2.1, (s.2.2.1, (s.2.2.2.1, ()))))))
                else
                none)
              else
              none)
            else
            some (0, ((s.1.1, (s.1.2.1, (s.1.2.2.1, (s.1.2.2.2.1, (s.1.2.2.2.2.1, ((IntKind.wrap .i64 (s.1.2.2.2.2.2.1 + 1)), ())))))), (s.2.1, (s.2.2.1, (s.2.2.2.1, ())))))))
        else
        none)
      else
      none)
    else
    (bif (!s.1.2.1) then
      (bif (decide (0 ≤ s.1.2.2.2.2.2.1) && decide (s.1.2.2.2.2.2.1 < (List.length s.1.2.2.2.2.1 : Int))) then
        (bif (decide (0 ≤ s.1.2.2.2.2.2.1) && decide (s.1.2.2.2.2.2.1 < (List.length s.1.2.2.2.1 : Int))) then
          (bif ((List.getD s.1.2.2.2.2.1 (Int.toNat s.1.2.2.2.2.2.1) 0) != (List.getD s.1.2.2.2.1 (Int.toNat s.1.2.2.2.2.2.1) ((0, (0, ())), ((0, (0, ())), (0, ())))).1.1) then
            some (1, ((s.1.1, (s.1.2.1, (false, (s.1.2.2.2.1, (s.1.2.2.2.2.1, (s.1.2.2.2.2.2.1, ())))))), (s.2.1, (s.2.2.1, (s.2.2.2.1, ())))))
            else
            some (0, ((s.1.1, (s.1.2.1, (s.1.2.2.1, (s.1.2.2.2.1, (s.1.2.2.2.2.1, ((IntKind.wrap .i64 (s.1.2.2.2.2.2.1 + 1)), ())))))), (s.2.1, (s.2.2.1, (s.2.2.2.1, ()))))))
          else
          none)
        else
        none)
      else
      some (0, ((s.1.1, (s.1.2.1, (s.1.2.2.1, (s.1.2.2.2.1, (s.1.2.2.2.2.1, ((IntKind.wrap .i64 (s.1.2.2.2.2.2.1 + 1)), ())))))), (s.2.1, (s.2.2.1, (s.2.2.2.1, ())))))))
  else
  some (2, ((s.1.1, (s.1.2.1, (s.1.2.2.1, (s.1.2.2.2.1, (s.1.2.2.2.2.1, (s.1.2.2.2.2.2.1, ())))))), (s.2.1, (s.2.2.1, (s.2.2.2.1, ()))))))
noncomputable def g6_taliklaw01_GroundSharp_l0_fuel (s : (((List E72) × (Bool × (Bool × ((List E53) × ((List Int) × (Int × Unit)))))) × (E25 × (E29 × (E34 × Unit))))) : Nat := Int.toNat ((List.length s.1.1 : Int) - s.1.2.2.2.2.2.1) + 1
noncomputable def g6_taliklaw01_GroundSharp_l0_run (s : (((List E72) × (Bool × (Bool × ((List E53) × ((List Int) × (Int × Unit)))))) × (E25 × (E29 × (E34 × Unit))))) : Option (Nat × (((List E72) × (Bool × (Bool × ((List E53) × ((List Int) × (Int × Unit)))))) × (E25 × (E29 × (E34 × Unit))))) := iter g6_taliklaw01_GroundSharp_l0_step (g6_taliklaw01_GroundSharp_l0_fuel s) s
noncomputable def g6_taliklaw01_GroundSharp_l0_L : LoopT := loopT g6_taliklaw01_GroundSharp_l0_S [.ret, .exit 0] g6_taliklaw01_GroundSharp_l0_run
noncomputable def g6_taliklaw01_GroundSharp (a0 : E25) (a1 : (List E72)) (a2 : Bool) : Option Bool :=
  (Option.bind (g13_taliklaw01_short a0 a1) fun r1 =>
  (bif (!r1) then
    (Option.bind g15_taliklaw01_known fun r2 =>
      some r2)
    else
    (Option.bind (g17_taliklaw01_wanted a0 a1) fun r3 =>
      (bif (r3 != 0) then
        (Option.bind g15_taliklaw01_known fun r4 =>
          some r4)
        else
        (Option.bind (g26_talikref01_End a0 a1 a2) fun r5 =>
          (Option.bind (g23_ground_Years a0 a1) fun r6 =>
            (Option.bind (g16_ground_Play a0 a1 r5) fun r7 =>
              (bif (r6.2.1 != 0) then
                some false
                else
                (bif (r7.2.2.1 != 0) then
                  some false
                  else
                  (bif ((List.length r6.1 : Int) != (List.length a1 : Int)) then
                    some false
                    else
                    (bif ((List.length r7.1 : Int) != (List.length a1 : Int)) then
                      some false
                      else
                      (Option.bind (g6_taliklaw01_GroundSharp_l0_run ((a1, (a2, (false, (r6.1, (r7.1, (0, ())))))), (a0, (r5, (r7.2.1, ()))))) fun q8 =>
                        (natK q8.1
                          (some q8.2.1.2.2.1)
                          (fun _ => (bif (decide ((List.length q8.2.1.1 : Int) > 0)) then
                            (bif q8.2.1.2.1 then
                              (bif (decide (0 ≤ (IntKind.wrap .i64 ((List.length q8.2.1.1 : Int) - 1))) && decide ((IntKind.wrap .i64 ((List.length q8.2.1.1 : Int) - 1)) < (List.length q8.2.1.2.2.2.1 : Int))) then
                                (bif (q8.2.2.2.2.1.2.2.1 != (List.getD q8.2.1.2.2.2.1 (Int.toNat (IntKind.wrap .i64 ((List.length q8.2.1.1 : Int) - 1))) ((0, (0, ())), ((0, (0, ())), (0, ())))).2.1.2.1) then
                                  some false
                                  else
                                  (bif (!q8.2.1.2.1) then
                                    (bif (decide (0 ≤ (IntKind.wrap .i64 ((List.length q8.2.1.1 : Int) - 1))) && decide ((IntKind.wrap .i64 ((List.length q8.2.1.1 : Int) - 1)) < (List.length q8.2.1.2.2.2.1 : Int))) then
                                      (bif (q8.2.2.2.2.1.2.2.1 != (List.getD q8.2.1.2.2.2.1 (Int.toNat (IntKind.wrap .i64 ((List.length q8.2.1.1 : Int) - 1))) ((0, (0, ())), ((0, (0, ())), (0, ())))).2.1.1) then
                                        some false
                                        else
                                        (Option.bind g15_taliklaw01_known fun r9 =>
                                          some r9))
                                      else
                                      none)
                                    else
                                    (Option.bind g15_taliklaw01_known fun r10 =>
                                      some r10)))
                                else
                                none)
                              else
                              (bif (!q8.2.1.2.1) then
                                (bif (decide (0 ≤ (IntKind.wrap .i64 ((List.length q8.2.1.1 : Int) - 1))) && decide ((IntKind.wrap .i64 ((List.length q8.2.1.1 : Int) - 1)) < (List.length q8.2.1.2.2.2.1 : Int))) then
                                  (bif (q8.2.2.2.2.1.2.2.1 != (List.getD q8.2.1.2.2.2.1 (Int.toNat (IntKind.wrap .i64 ((List.length q8.2.1.1 : Int) - 1))) ((0, (0, ())), ((0, (0, ())), (0, ())))).2.1.1) then
                                    some false
                                    else
                                    (Option.bind g15_taliklaw01_known fun r11 =>
                                      some r11))
                                  else
                                  none)
                                else
                                (Option.bind g15_taliklaw01_known fun r12 =>
                                  some r12)))
                            else
                            (Option.bind g15_taliklaw01_known fun r13 =>
                              some r13))))))))))))))))
noncomputable def g6_taliklaw01_GroundSharp_E : CEnt := pureE 6 [.dat T25, .dat (.list T72), .dat .bool] (.dat .bool) fun x => g6_taliklaw01_GroundSharp x.1 x.2.1 x.2.2.1
noncomputable def g6_taliklaw01_GroundSharp_l0_c : Code := loopAt (bodyOf Tryd.f6) 0
theorem g6_taliklaw01_GroundSharp_l0_V : LValid 0 Tryd.prog (.loop g6_taliklaw01_GroundSharp_l0_c) g6_taliklaw01_GroundSharp_l0_L false := by
  have hb : ∀ s, codeR Tryd.prog g6_taliklaw01_GroundSharp_C g6_taliklaw01_GroundSharp_l0_c [] (g6_taliklaw01_GroundSharp_l0_S.encE s) (g6_taliklaw01_GroundSharp_l0_S.encB s) (kst g6_taliklaw01_GroundSharp_l0_S [.ret, .exit 0]) = g6_taliklaw01_GroundSharp_l0_step s := by
    intro s; kernel_rfl
  have hL : LV 0 Tryd.prog false (loopsOf g6_taliklaw01_GroundSharp_l0_c) [] := by unfold LV; cases loopsOf g6_taliklaw01_GroundSharp_l0_c <;> trivial
  exact loopT_valid (fuel := g6_taliklaw01_GroundSharp_l0_fuel) mixed g6_taliklaw01_GroundSharp_CV hL (by kernel_rfl) (by decide) rfl hb (fun s r h => h)
theorem g6_taliklaw01_GroundSharp_LV : LV 0 Tryd.prog false (loopsOf (bodyOf Tryd.f6)) [g6_taliklaw01_GroundSharp_l0_L] := by
  have hl : loopsOf (bodyOf Tryd.f6) = [.loop g6_taliklaw01_GroundSharp_l0_c] := by kernel_rfl
  rw [hl]; exact ⟨g6_taliklaw01_GroundSharp_l0_V, trivial⟩
theorem g6_taliklaw01_GroundSharp_ent : Ent Tryd.prog 6 := ⟨by decide, enters_of Tryd.func6 (by kernel_rfl) rfl⟩
theorem g6_taliklaw01_GroundSharp_hev : ∀ x, fnR Tryd.prog g6_taliklaw01_GroundSharp_C [g6_taliklaw01_GroundSharp_l0_L] Tryd.f6 (bodyOf Tryd.f6) (encs [.dat T25, .dat (.list T72), .dat .bool] x) ⟨[], [], 0⟩ (frzF (.dat .bool)) = g6_taliklaw01_GroundSharp x.1 x.2.1 x.2.2.1 := by
  intro x; kernel_rfl
theorem g6_taliklaw01_GroundSharp_lcall : ∀ x r, (fun x : Els [.dat T25, .dat (.list T72), .dat .bool] => g6_taliklaw01_GroundSharp x.1 x.2.1 x.2.2.1) x = some r → LCall 0 Tryd.prog 6 (encs [.dat T25, .dat (.list T72), .dat .bool] x) ⟨[], [], 0⟩ (.d .bool r) ⟨[], [], 0⟩ := frz_lcall (R := .dat .bool) mixed Tryd.func6 rfl g6_taliklaw01_GroundSharp_ent g6_taliklaw01_GroundSharp_CV g6_taliklaw01_GroundSharp_LV (by kernel_rfl) (by kernel_rfl) g6_taliklaw01_GroundSharp_hev

end Go.Proofs.YtbidmbjkjpdgdaaDoor.Abs
