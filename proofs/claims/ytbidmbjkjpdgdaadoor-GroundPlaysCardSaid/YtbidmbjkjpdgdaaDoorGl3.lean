/-
  A law of the ground layer as a typed function. Printed by a program of mine (gen.py).
-/
import Derived.Test.YtbidmbjkjpdgdaaDoorGf2
set_option linter.unusedVariables false
set_option maxRecDepth 100000
namespace Go.Proofs.YtbidmbjkjpdgdaaDoor.Abs
open Go.Shelf Go.Sort
noncomputable def g3_taliklaw01_GroundPlays_C : CalT := tabC [g13_taliklaw01_short_E, g15_taliklaw01_known_E, g14_taliklaw01_sized_E, g16_ground_Play_E, g17_taliklaw01_wanted_E, g18_talikref01_Truth_E, g19_talikref01_Follow_E, g20_talikref01_Same_E, g21_talikref01_Ledger_E]
theorem g3_taliklaw01_GroundPlays_CV : CV Tryd.prog g3_taliklaw01_GroundPlays_C := tabC_valid ⟨g13_taliklaw01_short_valid, g15_taliklaw01_known_valid, g14_taliklaw01_sized_valid, g16_ground_Play_valid, g17_taliklaw01_wanted_valid, g18_talikref01_Truth_valid, g19_talikref01_Follow_valid, g20_talikref01_Same_valid, g21_talikref01_Ledger_valid, trivial⟩
noncomputable def g3_taliklaw01_GroundPlays_l0_S : SPat := ⟨[.any, .any, .any, .any, .any, .fix (.bptr 1 []), .any, .dat (.list (.int .i64)), .fix (.bptr 2 []), .dat (.int .i64), .any, .own 0 (.int .i64), .dat (.list T23), .dat (.int .i64), .any, .any, .any, .any, .any, .any, .any, .any, .any, .any, .any, .any, .any, .any, .any, .any, .any, .any, .any, .any, .any, .any, .any, .any, .any, .any, .any, .any, .any, .any, .any, .any, .any, .any, .any, .any, .any, .any, .any, .any, .any, .any, .any, .any, .any, .any, .any, .any, .any, .any, .any, .any, .any, .any, .any, .any, .any, .any, .any, .any, .any, .any, .any, .any, .any, .any, .any, .any, .any, .any, .any, .any, .any, .any, .any, .any, .any, .any, .any, .any, .any], [.dat T25, .dat T29, .dat T34], 1⟩
noncomputable def g3_taliklaw01_GroundPlays_l0_step (s : (((List Int) × (Int × ((List Int) × ((List E23) × (Int × Unit))))) × (E25 × (E29 × (E34 × Unit))))) : Option (Nat × (((List Int) × (Int × ((List Int) × ((List E23) × (Int × Unit))))) × (E25 × (E29 × (E34 × Unit))))) :=
  (bif (decide (s.1.2.2.2.2.1 < (List.length s.1.2.2.2.1 : Int))) then
  (bif (decide (0 ≤ s.1.2.2.2.2.1) && decide (s.1.2.2.2.2.1 < (List.length s.1.2.2.2.1 : Int))) then
    (bif (decide (List.length s.1.2.2.1 + List.length [(List.getD s.1.2.2.2.1 (Int.toNat s.1.2.2.2.2.1) (0, (0, ()))).1] ≤ LIM)) then
      some (0, ((s.1.1, (s.1.2.1, ((s.1.2.2.1 ++ [(List.getD s.1.2.2.2.1 (Int.toNat s.1.2.2.2.2.1) (0, (0, ()))).1]), (s.1.2.2.2.1, ((IntKind.wrap .i64 (s.1.2.2.2.2.1 + 1)), ()))))), (s.2.1, (s.2.2.1, (s.2.2.2.1, ())))))
      else
      none)
    else
    none)
  else
  some (1, ((s.1.1, (s.1.2.1, (s.1.2.2.1, (s.1.2.2.2.1, (s.1.2.2.2.2.1, ()))))), (s.2.1, (s.2.2.1, (s.2.2.2.1, ()))))))
noncomputable def g3_taliklaw01_GroundPlays_l0_fuel (s : (((List Int) × (Int × ((List Int) × ((List E23) × (Int × Unit))))) × (E25 × (E29 × (E34 × Unit))))) : Nat := Int.toNat ((List.length s.1.2.2.2.1 : Int) - s.1.2.2.2.2.1) + 1
noncomputable def g3_taliklaw01_GroundPlays_l0_run (s : (((List Int) × (Int × ((List Int) × ((List E23) × (Int × Unit))))) × (E25 × (E29 × (E34 × Unit))))) : Option (Nat × (((List Int) × (Int × ((List Int) × ((List E23) × (Int × Unit))))) × (E25 × (E29 × (E34 × Unit))))) := iter g3_taliklaw01_GroundPlays_l0_step (g3_taliklaw01_GroundPlays_l0_fuel s) s
noncomputable def g3_taliklaw01_GroundPlays_l0_L : LoopT := loopT g3_taliklaw01_GroundPlays_l0_S [.exit 0] g3_taliklaw01_GroundPlays_l0_run
noncomputable def g3_taliklaw01_GroundPlays (a0 : E25) (a1 : (List E72)) (a2 : E29) : Option Bool :=
  (Option.bind (g13_taliklaw01_short a0 a1) fun r1 =>
  (bif (!r1) then
    (Option.bind g15_taliklaw01_known fun r2 =>
      some r2)
    else
    (Option.bind (g14_taliklaw01_sized a2) fun r3 =>
      (bif (!r3) then
        (Option.bind g15_taliklaw01_known fun r4 =>
          some r4)
        else
        (Option.bind (g16_ground_Play a0 a1 a2) fun r5 =>
          (Option.bind (g17_taliklaw01_wanted a0 a1) fun r6 =>
            (bif (r6 == 0) then
              (Option.bind (g18_talikref01_Truth a0 a1 a2) fun r7 =>
                (bif (!r7) then
                  (bif ((2 : Int) != 0) then
                    (bif (r5.2.2.1 == 2) then
                      (bif ((List.length r5.1 : Int) == 0) then
                        (bif ((r5.2.1.1 == 0) && ((r5.2.1.2.1 == 0) && ((r5.2.1.2.2.1 == 0) && true))) then
                          (Option.bind g15_taliklaw01_known fun r8 =>
                            some r8)
                          else
                          some false)
                        else
                        some false)
                      else
                      some false)
                    else
                    (Option.bind (g19_talikref01_Follow a0 a2 0) fun r9 =>
                      (Option.bind (g3_taliklaw01_GroundPlays_l0_run ((r5.1, (r5.2.2.1, ([], (r9, (0, ()))))), (a0, (a2, (r5.2.1, ()))))) fun q10 =>
                        (bif (q10.2.1.2.1 == 0) then
                          (Option.bind (g20_talikref01_Same q10.2.1.1 q10.2.1.2.2.1) fun r11 =>
                            (bif r11 then
                              (Option.bind (g21_talikref01_Ledger q10.2.2.2.1) fun r12 =>
                                (bif ((q10.2.2.2.2.1.1 == r12.1) && ((q10.2.2.2.2.1.2.1 == r12.2.1) && ((q10.2.2.2.2.1.2.2.1 == r12.2.2.1) && true))) then
                                  (Option.bind g15_taliklaw01_known fun r13 =>
                                    some r13)
                                  else
                                  some false))
                              else
                              some false))
                          else
                          some false))))
                  else
                  (bif (r6 != 0) then
                    (bif (r5.2.2.1 == r6) then
                      (bif ((List.length r5.1 : Int) == 0) then
                        (bif ((r5.2.1.1 == 0) && ((r5.2.1.2.1 == 0) && ((r5.2.1.2.2.1 == 0) && true))) then
                          (Option.bind g15_taliklaw01_known fun r14 =>
                            some r14)
                          else
                          some false)
                        else
                        some false)
                      else
                      some false)
                    else
                    (Option.bind (g19_talikref01_Follow a0 a2 0) fun r15 =>
                      (Option.bind (g3_taliklaw01_GroundPlays_l0_run ((r5.1, (r5.2.2.1, ([], (r15, (0, ()))))), (a0, (a2, (r5.2.1, ()))))) fun q16 =>
                        (bif (q16.2.1.2.1 == 0) then
                          (Option.bind (g20_talikref01_Same q16.2.1.1 q16.2.1.2.2.1) fun r17 =>
                            (bif r17 then
                              (Option.bind (g21_talikref01_Ledger q16.2.2.2.1) fun r18 =>
                                (bif ((q16.2.2.2.2.1.1 == r18.1) && ((q16.2.2.2.2.1.2.1 == r18.2.1) && ((q16.2.2.2.2.1.2.2.1 == r18.2.2.1) && true))) then
                                  (Option.bind g15_taliklaw01_known fun r19 =>
                                    some r19)
                                  else
                                  some false))
                              else
                              some false))
                          else
                          some false))))))
              else
              (bif (r6 != 0) then
                (bif (r5.2.2.1 == r6) then
                  (bif ((List.length r5.1 : Int) == 0) then
                    (bif ((r5.2.1.1 == 0) && ((r5.2.1.2.1 == 0) && ((r5.2.1.2.2.1 == 0) && true))) then
                      (Option.bind g15_taliklaw01_known fun r20 =>
                        some r20)
                      else
                      some false)
                    else
                    some false)
                  else
                  some false)
                else
                (Option.bind (g19_talikref01_Follow a0 a2 0) fun r21 =>
                  (Option.bind (g3_taliklaw01_GroundPlays_l0_run ((r5.1, (r5.2.2.1, ([], (r21, (0, ()))))), (a0, (a2, (r5.2.1, ()))))) fun q22 =>
                    (bif (q22.2.1.2.1 == 0) then
                      (Option.bind (g20_talikref01_Same q22.2.1.1 q22.2.1.2.2.1) fun r23 =>
                        (bif r23 then
                          (Option.bind (g21_talikref01_Ledger q22.2.2.2.1) fun r24 =>
                            (bif ((q22.2.2.2.2.1.1 == r24.1) && ((q22.2.2.2.2.1.2.1 == r24.2.1) && ((q22.2.2.2.2.1.2.2.1 == r24.2.2.1) && true))) then
                              (Option.bind g15_taliklaw01_known fun r25 =>
                                some r25)
                              else
                              some false))
                          else
                          some false))
                      else
                      some false)))))))))))
noncomputable def g3_taliklaw01_GroundPlays_E : CEnt := pureE 3 [.dat T25, .dat (.list T72), .dat T29] (.dat .bool) fun x => g3_taliklaw01_GroundPlays x.1 x.2.1 x.2.2.1
noncomputable def g3_taliklaw01_GroundPlays_l0_c : Code := loopAt (bodyOf Tryd.f3) 0
theorem g3_taliklaw01_GroundPlays_l0_V : LValid 0 Tryd.prog (.loop g3_taliklaw01_GroundPlays_l0_c) g3_taliklaw01_GroundPlays_l0_L false := by
  have hb : ∀ s, codeR Tryd.prog g3_taliklaw01_GroundPlays_C g3_taliklaw01_GroundPlays_l0_c [] (g3_taliklaw01_GroundPlays_l0_S.encE s) (g3_taliklaw01_GroundPlays_l0_S.encB s) (kst g3_taliklaw01_GroundPlays_l0_S [.exit 0]) = g3_taliklaw01_GroundPlays_l0_step s := by
    intro s; kernel_rfl
  have hL : LV 0 Tryd.prog false (loopsOf g3_taliklaw01_GroundPlays_l0_c) [] := by unfold LV; cases loopsOf g3_taliklaw01_GroundPlays_l0_c <;> trivial
  exact loopT_valid (fuel := g3_taliklaw01_GroundPlays_l0_fuel) mixed g3_taliklaw01_GroundPlays_CV hL (by kernel_rfl) (by decide) rfl hb (fun s r h => h)
theorem g3_taliklaw01_GroundPlays_LV : LV 0 Tryd.prog false (loopsOf (bodyOf Tryd.f3)) [g3_taliklaw01_GroundPlays_l0_L] := by
  have hl : loopsOf (bodyOf Tryd.f3) = [.loop g3_taliklaw01_GroundPlays_l0_c] := by kernel_rfl
  rw [hl]; exact ⟨g3_taliklaw01_GroundPlays_l0_V, trivial⟩
theorem g3_taliklaw01_GroundPlays_ent : Ent Tryd.prog 3 := ⟨by decide, enters_of Tryd.func3 (by kernel_rfl) rfl⟩
theorem g3_taliklaw01_GroundPlays_hev : ∀ x, fnR Tryd.prog g3_taliklaw01_GroundPlays_C [g3_taliklaw01_GroundPlays_l0_L] Tryd.f3 (bodyOf Tryd.f3) (encs [.dat T25, .dat (.list T72), .dat T29] x) ⟨[], [], 0⟩ (frzF (.dat .bool)) = g3_taliklaw01_GroundPlays x.1 x.2.1 x.2.2.1 := by
  intro x; kernel_rfl
theorem g3_taliklaw01_GroundPlays_lcall : ∀ x r, (fun x : Els [.dat T25, .dat (.list T72), .dat T29] => g3_taliklaw01_GroundPlays x.1 x.2.1 x.2.2.1) x = some r → LCall 0 Tryd.prog 3 (encs [.dat T25, .dat (.list T72), .dat T29] x) ⟨[], [], 0⟩ (.d .bool r) ⟨[], [], 0⟩ := frz_lcall (R := .dat .bool) mixed Tryd.func3 rfl g3_taliklaw01_GroundPlays_ent g3_taliklaw01_GroundPlays_CV g3_taliklaw01_GroundPlays_LV (by kernel_rfl) (by kernel_rfl) g3_taliklaw01_GroundPlays_hev

end Go.Proofs.YtbidmbjkjpdgdaaDoor.Abs
