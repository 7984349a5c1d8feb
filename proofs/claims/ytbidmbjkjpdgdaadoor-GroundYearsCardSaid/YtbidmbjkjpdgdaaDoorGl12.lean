/-
  A law of the ground layer as a typed function. Printed by a program of mine (gen.py).
-/
import Derived.Test.YtbidmbjkjpdgdaaDoorGf2
set_option linter.unusedVariables false
set_option maxRecDepth 100000
namespace Go.Proofs.YtbidmbjkjpdgdaaDoor.Abs
open Go.Shelf Go.Sort
noncomputable def g12_taliklaw01_GroundYears_C : CalT := tabC [g13_taliklaw01_short_E, g15_taliklaw01_known_E, g37_ground_Check_E, g23_ground_Years_E, g38_talikref01_Place_E, g17_taliklaw01_wanted_E, g40_talikref01_Known_E, g39_talikref01_SameSeen_E]
theorem g12_taliklaw01_GroundYears_CV : CV Tryd.prog g12_taliklaw01_GroundYears_C := tabC_valid ⟨g13_taliklaw01_short_valid, g15_taliklaw01_known_valid, g37_ground_Check_valid, g23_ground_Years_valid, g38_talikref01_Place_valid, g17_taliklaw01_wanted_valid, g40_talikref01_Known_valid, g39_talikref01_SameSeen_valid, trivial⟩
noncomputable def g12_taliklaw01_GroundYears (a0 : E25) (a1 : (List E72)) : Option Bool :=
  (Option.bind (g13_taliklaw01_short a0 a1) fun r1 =>
  (bif (!r1) then
    (Option.bind g15_taliklaw01_known fun r2 =>
      some r2)
    else
    (Option.bind (g37_ground_Check a0) fun r3 =>
      (Option.bind (g23_ground_Years a0 a1) fun r4 =>
        (Option.bind (g38_talikref01_Place a0) fun r5 =>
          (bif r5 then
            (bif (r3 != 0) then
              some false
              else
              (bif (!r5) then
                (bif (r3 != 2) then
                  some false
                  else
                  (Option.bind (g17_taliklaw01_wanted a0 a1) fun r6 =>
                    (bif (r6 != 0) then
                      (bif (r4.2.1 == r6) then
                        (bif ((List.length r4.1 : Int) == 0) then
                          (Option.bind g15_taliklaw01_known fun r7 =>
                            some r7)
                          else
                          some false)
                        else
                        some false)
                      else
                      (bif (r4.2.1 == 0) then
                        (Option.bind (g40_talikref01_Known a0 a1) fun r8 =>
                          (Option.bind (g39_talikref01_SameSeen r4.1 r8) fun r9 =>
                            (bif r9 then
                              (Option.bind g15_taliklaw01_known fun r10 =>
                                some r10)
                              else
                              some false)))
                        else
                        some false))))
                else
                (Option.bind (g17_taliklaw01_wanted a0 a1) fun r11 =>
                  (bif (r11 != 0) then
                    (bif (r4.2.1 == r11) then
                      (bif ((List.length r4.1 : Int) == 0) then
                        (Option.bind g15_taliklaw01_known fun r12 =>
                          some r12)
                        else
                        some false)
                      else
                      some false)
                    else
                    (bif (r4.2.1 == 0) then
                      (Option.bind (g40_talikref01_Known a0 a1) fun r13 =>
                        (Option.bind (g39_talikref01_SameSeen r4.1 r13) fun r14 =>
                          (bif r14 then
                            (Option.bind g15_taliklaw01_known fun r15 =>
                              some r15)
                            else
                            some false)))
                      else
                      some false)))))
            else
            (bif (!r5) then
              (bif (r3 != 2) then
                some false
                else
                (Option.bind (g17_taliklaw01_wanted a0 a1) fun r16 =>
                  (bif (r16 != 0) then
                    (bif (r4.2.1 == r16) then
                      (bif ((List.length r4.1 : Int) == 0) then
                        (Option.bind g15_taliklaw01_known fun r17 =>
                          some r17)
                        else
                        some false)
                      else
                      some false)
                    else
                    (bif (r4.2.1 == 0) then
                      (Option.bind (g40_talikref01_Known a0 a1) fun r18 =>
                        (Option.bind (g39_talikref01_SameSeen r4.1 r18) fun r19 =>
                          (bif r19 then
                            (Option.bind g15_taliklaw01_known fun r20 =>
                              some r20)
                            else
                            some false)))
                      else
                      some false))))
              else
              (Option.bind (g17_taliklaw01_wanted a0 a1) fun r21 =>
                (bif (r21 != 0) then
                  (bif (r4.2.1 == r21) then
                    (bif ((List.length r4.1 : Int) == 0) then
                      (Option.bind g15_taliklaw01_known fun r22 =>
                        some r22)
                      else
                      some false)
                    else
                    some false)
                  else
                  (bif (r4.2.1 == 0) then
                    (Option.bind (g40_talikref01_Known a0 a1) fun r23 =>
                      (Option.bind (g39_talikref01_SameSeen r4.1 r23) fun r24 =>
                        (bif r24 then
                          (Option.bind g15_taliklaw01_known fun r25 =>
                            some r25)
                          else
                          some false)))
                    else
                    some false))))))))))
noncomputable def g12_taliklaw01_GroundYears_E : CEnt := pureE 12 [.dat T25, .dat (.list T72)] (.dat .bool) fun x => g12_taliklaw01_GroundYears x.1 x.2.1
theorem g12_taliklaw01_GroundYears_LV : LV 0 Tryd.prog false (loopsOf (bodyOf Tryd.f12)) [] := by unfold LV; cases loopsOf (bodyOf Tryd.f12) <;> trivial
theorem g12_taliklaw01_GroundYears_ent : Ent Tryd.prog 12 := ⟨by decide, enters_of Tryd.func12 (by kernel_rfl) rfl⟩
theorem g12_taliklaw01_GroundYears_hev : ∀ x, fnR Tryd.prog g12_taliklaw01_GroundYears_C [] Tryd.f12 (bodyOf Tryd.f12) (encs [.dat T25, .dat (.list T72)] x) ⟨[], [], 0⟩ (frzF (.dat .bool)) = g12_taliklaw01_GroundYears x.1 x.2.1 := by
  intro x; kernel_rfl
theorem g12_taliklaw01_GroundYears_lcall : ∀ x r, (fun x : Els [.dat T25, .dat (.list T72)] => g12_taliklaw01_GroundYears x.1 x.2.1) x = some r → LCall 0 Tryd.prog 12 (encs [.dat T25, .dat (.list T72)] x) ⟨[], [], 0⟩ (.d .bool r) ⟨[], [], 0⟩ := frz_lcall (R := .dat .bool) mixed Tryd.func12 rfl g12_taliklaw01_GroundYears_ent g12_taliklaw01_GroundYears_CV g12_taliklaw01_GroundYears_LV (by kernel_rfl) (by kernel_rfl) g12_taliklaw01_GroundYears_hev

end Go.Proofs.YtbidmbjkjpdgdaaDoor.Abs
