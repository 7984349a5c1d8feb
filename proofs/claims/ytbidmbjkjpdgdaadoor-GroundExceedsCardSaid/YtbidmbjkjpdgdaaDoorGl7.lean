/-
  A law of the ground layer as a typed function. Printed by a program of mine (gen.py).
-/
import Derived.Test.YtbidmbjkjpdgdaaDoorGf2
set_option linter.unusedVariables false
set_option maxRecDepth 100000
namespace Go.Proofs.YtbidmbjkjpdgdaaDoor.Abs
open Go.Shelf Go.Sort
noncomputable def g7_taliklaw01_GroundExceeds_C : CalT := tabC [g13_taliklaw01_short_E, g15_taliklaw01_known_E, g27_ground_Exceeds_E, g17_taliklaw01_wanted_E, g26_talikref01_End_E, g19_talikref01_Follow_E, g28_talikref01_First_E]
theorem g7_taliklaw01_GroundExceeds_CV : CV Tryd.prog g7_taliklaw01_GroundExceeds_C := tabC_valid ⟨g13_taliklaw01_short_valid, g15_taliklaw01_known_valid, g27_ground_Exceeds_valid, g17_taliklaw01_wanted_valid, g26_talikref01_End_valid, g19_talikref01_Follow_valid, g28_talikref01_First_valid, trivial⟩
noncomputable def g7_taliklaw01_GroundExceeds (a0 : E25) (a1 : (List E72)) (a2 : Int) : Option Bool :=
  (Option.bind (g13_taliklaw01_short a0 a1) fun r1 =>
  (bif (!r1) then
    (Option.bind g15_taliklaw01_known fun r2 =>
      some r2)
    else
    (Option.bind (g27_ground_Exceeds a0 a1 a2) fun r3 =>
      (Option.bind (g17_taliklaw01_wanted a0 a1) fun r4 =>
        (bif (r4 == 0) then
          (bif (decide (a2 < 0)) then
            (bif ((2 : Int) != 0) then
              (bif (r3.2.2.1 == 2) then
                (bif (r3.1 == 0) then
                  (bif (r3.2.1 == 0) then
                    (Option.bind g15_taliklaw01_known fun r5 =>
                      some r5)
                    else
                    some false)
                  else
                  some false)
                else
                some false)
              else
              (bif (r3.2.2.1 == 0) then
                (Option.bind (g26_talikref01_End a0 a1 true) fun r6 =>
                  (Option.bind (g19_talikref01_Follow a0 r6 0) fun r7 =>
                    (Option.bind (g28_talikref01_First r7 a2) fun r8 =>
                      (bif (r3.1 == r8) then
                        (Option.bind (g26_talikref01_End a0 a1 false) fun r9 =>
                          (Option.bind (g19_talikref01_Follow a0 r9 0) fun r10 =>
                            (Option.bind (g28_talikref01_First r10 a2) fun r11 =>
                              (bif (r3.2.1 == r11) then
                                (Option.bind g15_taliklaw01_known fun r12 =>
                                  some r12)
                                else
                                some false))))
                        else
                        some false))))
                else
                some false))
            else
            (bif (decide (a2 > 2000000)) then
              (bif ((2 : Int) != 0) then
                (bif (r3.2.2.1 == 2) then
                  (bif (r3.1 == 0) then
                    (bif (r3.2.1 == 0) then
                      (Option.bind g15_taliklaw01_known fun r13 =>
                        some r13)
                      else
                      some false)
                    else
                    some false)
                  else
                  some false)
                else
                (bif (r3.2.2.1 == 0) then
                  (Option.bind (g26_talikref01_End a0 a1 true) fun r14 =>
                    (Option.bind (g19_talikref01_Follow a0 r14 0) fun r15 =>
                      (Option.bind (g28_talikref01_First r15 a2) fun r16 =>
                        (bif (r3.1 == r16) then
                          (Option.bind (g26_talikref01_End a0 a1 false) fun r17 =>
                            (Option.bind (g19_talikref01_Follow a0 r17 0) fun r18 =>
                              (Option.bind (g28_talikref01_First r18 a2) fun r19 =>
                                (bif (r3.2.1 == r19) then
                                  (Option.bind g15_taliklaw01_known fun r20 =>
                                    some r20)
                                  else
                                  some false))))
                          else
                          some false))))
                  else
                  some false))
              else
              (bif (r4 != 0) then
                (bif (r3.2.2.1 == r4) then
                  (bif (r3.1 == 0) then
                    (bif (r3.2.1 == 0) then
                      (Option.bind g15_taliklaw01_known fun r21 =>
                        some r21)
                      else
                      some false)
                    else
                    some false)
                  else
                  some false)
                else
                (bif (r3.2.2.1 == 0) then
                  (Option.bind (g26_talikref01_End a0 a1 true) fun r22 =>
                    (Option.bind (g19_talikref01_Follow a0 r22 0) fun r23 =>
                      (Option.bind (g28_talikref01_First r23 a2) fun r24 =>
                        (bif (r3.1 == r24) then
                          (Option.bind (g26_talikref01_End a0 a1 false) fun r25 =>
                            (Option.bind (g19_talikref01_Follow a0 r25 0) fun r26 =>
                              (Option.bind (g28_talikref01_First r26 a2) fun r27 =>
                                (bif (r3.2.1 == r27) then
                                  (Option.bind g15_taliklaw01_known fun r28 =>
                                    some r28)
                                  else
                                  some false))))
                          else
                          some false))))
                  else
                  some false))))
          else
          (bif (r4 != 0) then
            (bif (r3.2.2.1 == r4) then
              (bif (r3.1 == 0) then
                (bif (r3.2.1 == 0) then
                  (Option.bind g15_taliklaw01_known fun r29 =>
                    some r29)
                  else
                  some false)
                else
                some false)
              else
              some false)
            else
            (bif (r3.2.2.1 == 0) then
              (Option.bind (g26_talikref01_End a0 a1 true) fun r30 =>
                (Option.bind (g19_talikref01_Follow a0 r30 0) fun r31 =>
                  (Option.bind (g28_talikref01_First r31 a2) fun r32 =>
                    (bif (r3.1 == r32) then
                      (Option.bind (g26_talikref01_End a0 a1 false) fun r33 =>
                        (Option.bind (g19_talikref01_Follow a0 r33 0) fun r34 =>
                          (Option.bind (g28_talikref01_First r34 a2) fun r35 =>
                            (bif (r3.2.1 == r35) then
                              (Option.bind g15_taliklaw01_known fun r36 =>
                                some r36)
                              else
                              some false))))
                      else
                      some false))))
              else
              some false)))))))
noncomputable def g7_taliklaw01_GroundExceeds_E : CEnt := pureE 7 [.dat T25, .dat (.list T72), .dat (.int .i64)] (.dat .bool) fun x => g7_taliklaw01_GroundExceeds x.1 x.2.1 x.2.2.1
theorem g7_taliklaw01_GroundExceeds_LV : LV 0 Tryd.prog false (loopsOf (bodyOf Tryd.f7)) [] := by unfold LV; cases loopsOf (bodyOf Tryd.f7) <;> trivial
theorem g7_taliklaw01_GroundExceeds_ent : Ent Tryd.prog 7 := ⟨by decide, enters_of Tryd.func7 (by kernel_rfl) rfl⟩
theorem g7_taliklaw01_GroundExceeds_hev : ∀ x, fnR Tryd.prog g7_taliklaw01_GroundExceeds_C [] Tryd.f7 (bodyOf Tryd.f7) (encs [.dat T25, .dat (.list T72), .dat (.int .i64)] x) ⟨[], [], 0⟩ (frzF (.dat .bool)) = g7_taliklaw01_GroundExceeds x.1 x.2.1 x.2.2.1 := by
  intro x; kernel_rfl
theorem g7_taliklaw01_GroundExceeds_lcall : ∀ x r, (fun x : Els [.dat T25, .dat (.list T72), .dat (.int .i64)] => g7_taliklaw01_GroundExceeds x.1 x.2.1 x.2.2.1) x = some r → LCall 0 Tryd.prog 7 (encs [.dat T25, .dat (.list T72), .dat (.int .i64)] x) ⟨[], [], 0⟩ (.d .bool r) ⟨[], [], 0⟩ := frz_lcall (R := .dat .bool) mixed Tryd.func7 rfl g7_taliklaw01_GroundExceeds_ent g7_taliklaw01_GroundExceeds_CV g7_taliklaw01_GroundExceeds_LV (by kernel_rfl) (by kernel_rfl) g7_taliklaw01_GroundExceeds_hev

end Go.Proofs.YtbidmbjkjpdgdaaDoor.Abs
