/-
  A law of the ground layer as a typed function. Printed by a program of mine (gen.py).
-/
import Derived.Test.YtbidmbjkjpdgdaaDoorGf2
set_option linter.unusedVariables false
set_option maxRecDepth 100000
namespace Go.Proofs.YtbidmbjkjpdgdaaDoor.Abs
open Go.Shelf Go.Sort
noncomputable def g8_taliklaw01_GroundWarned_C : CalT := tabC [g22_taliklaw01_fair_E, g15_taliklaw01_known_E, g27_ground_Exceeds_E, g16_ground_Play_E]
theorem g8_taliklaw01_GroundWarned_CV : CV Tryd.prog g8_taliklaw01_GroundWarned_C := tabC_valid ⟨g22_taliklaw01_fair_valid, g15_taliklaw01_known_valid, g27_ground_Exceeds_valid, g16_ground_Play_valid, trivial⟩
noncomputable def g8_taliklaw01_GroundWarned_l0_S : SPat := ⟨[.any, .any, .any, .dat (.int .i64), .any, .any, .any, .any, .any, .dat (.int .i64), .dat (.int .i64), .any, .dat (.list (.int .i64)), .any, .any, .dat (.int .i64), .dat (.int .i64), .any, .any, .any, .any, .any, .any, .any, .any, .any, .any, .any, .any, .any, .any, .any, .any, .any, .any, .any, .any, .any, .any, .any, .any, .any, .any, .any, .any, .any, .any, .any, .any, .any, .any, .any, .any, .any, .any, .any, .any, .any, .any, .any, .any, .any, .any, .any, .any, .any, .any, .any, .any, .any, .any, .any, .any, .any, .any, .any, .any, .any, .any, .any, .any, .any, .any, .any, .any, .any, .any, .any, .any, .any, .any, .any, .any, .any, .any, .any, .any, .any, .any, .any, .any, .any], [.dat T25, .dat T29, .dat T34], 0⟩
noncomputable def g8_taliklaw01_GroundWarned_l0_step (s : ((Int × (Int × (Int × ((List Int) × (Int × (Int × Unit)))))) × (E25 × (E29 × (E34 × Unit))))) : Option (Nat × ((Int × (Int × (Int × ((List Int) × (Int × (Int × Unit)))))) × (E25 × (E29 × (E34 × Unit))))) :=
  (bif (decide (s.1.2.2.2.2.2.1 ≥ 0)) then
  (bif (decide (0 ≤ s.1.2.2.2.2.2.1) && decide (s.1.2.2.2.2.2.1 < (List.length s.1.2.2.2.1 : Int))) then
    (bif (decide ((List.getD s.1.2.2.2.1 (Int.toNat s.1.2.2.2.2.2.1) 0) > s.1.1)) then
      some (0, ((s.1.1, (s.1.2.1, (s.1.2.2.1, (s.1.2.2.2.1, (s.1.2.2.2.2.2.1, ((IntKind.wrap .i64 (s.1.2.2.2.2.2.1 - 1)), ())))))), (s.2.1, (s.2.2.1, (s.2.2.2.1, ())))))
      else
      some (0, ((s.1.1, (s.1.2.1, (s.1.2.2.1, (s.1.2.2.2.1, (s.1.2.2.2.2.1, ((IntKind.wrap .i64 (s.1.2.2.2.2.2.1 - 1)), ())))))), (s.2.1, (s.2.2.1, (s.2.2.2.1, ()))))))
    else
    none)
  else
  some (1, ((s.1.1, (s.1.2.1, (s.1.2.2.1, (s.1.2.2.2.1, (s.1.2.2.2.2.1, (s.1.2.2.2.2.2.1, ())))))), (s.2.1, (s.2.2.1, (s.2.2.2.1, ()))))))
noncomputable def g8_taliklaw01_GroundWarned_l0_fuel (s : ((Int × (Int × (Int × ((List Int) × (Int × (Int × Unit)))))) × (E25 × (E29 × (E34 × Unit))))) : Nat := 100000
noncomputable def g8_taliklaw01_GroundWarned_l0_run (s : ((Int × (Int × (Int × ((List Int) × (Int × (Int × Unit)))))) × (E25 × (E29 × (E34 × Unit))))) : Option (Nat × ((Int × (Int × (Int × ((List Int) × (Int × (Int × Unit)))))) × (E25 × (E29 × (E34 × Unit))))) := iter g8_taliklaw01_GroundWarned_l0_step (g8_taliklaw01_GroundWarned_l0_fuel s) s
noncomputable def g8_taliklaw01_GroundWarned_l0_L : LoopT := loopT g8_taliklaw01_GroundWarned_l0_S [.exit 0] g8_taliklaw01_GroundWarned_l0_run
noncomputable def g8_taliklaw01_GroundWarned (a0 : E25) (a1 : (List E72)) (a2 : E29) (a3 : Int) : Option Bool :=
  (Option.bind (g22_taliklaw01_fair a0 a1 a2) fun r1 =>
  (bif (!r1) then
    (Option.bind g15_taliklaw01_known fun r2 =>
      some r2)
    else
    (bif (decide (a3 < 0)) then
      (Option.bind g15_taliklaw01_known fun r3 =>
        some r3)
      else
      (bif (decide (a3 > 2000000)) then
        (Option.bind g15_taliklaw01_known fun r4 =>
          some r4)
        else
        (Option.bind (g27_ground_Exceeds a0 a1 a3) fun r5 =>
          (Option.bind (g16_ground_Play a0 a1 a2) fun r6 =>
            (bif (r5.2.2.1 != 0) then
              some false
              else
              (bif (r6.2.2.1 != 0) then
                some false
                else
                (bif ((List.length r6.1 : Int) != (List.length a1 : Int)) then
                  some false
                  else
                  (bif (decide (r5.1 < 0)) then
                    some false
                    else
                    (bif (decide (r5.1 > r5.2.1)) then
                      some false
                      else
                      (bif (decide (r5.2.1 > (List.length a1 : Int))) then
                        some false
                        else
                        (Option.bind (g8_taliklaw01_GroundWarned_l0_run ((a3, (r5.1, (r5.2.1, (r6.1, ((List.length a1 : Int), ((IntKind.wrap .i64 ((List.length a1 : Int) - 1)), ())))))), (a0, (a2, (r6.2.1, ()))))) fun q7 =>
                          (bif (decide (q7.2.1.2.2.2.2.1 ≥ q7.2.1.2.1)) then
                            (bif (decide (q7.2.1.2.2.2.2.1 ≤ q7.2.1.2.2.1)) then
                              (Option.bind g15_taliklaw01_known fun r8 =>
                                some r8)
                              else
                              some false)
                            else
                            some false))))))))))))))
noncomputable def g8_taliklaw01_GroundWarned_E : CEnt := pureE 8 [.dat T25, .dat (.list T72), .dat T29, .dat (.int .i64)] (.dat .bool) fun x => g8_taliklaw01_GroundWarned x.1 x.2.1 x.2.2.1 x.2.2.2.1
noncomputable def g8_taliklaw01_GroundWarned_l0_c : Code := loopAt (bodyOf Tryd.f8) 0
theorem g8_taliklaw01_GroundWarned_l0_V : LValid 0 Tryd.prog (.loop g8_taliklaw01_GroundWarned_l0_c) g8_taliklaw01_GroundWarned_l0_L false := by
  have hb : ∀ s, codeR Tryd.prog g8_taliklaw01_GroundWarned_C g8_taliklaw01_GroundWarned_l0_c [] (g8_taliklaw01_GroundWarned_l0_S.encE s) (g8_taliklaw01_GroundWarned_l0_S.encB s) (kst g8_taliklaw01_GroundWarned_l0_S [.exit 0]) = g8_taliklaw01_GroundWarned_l0_step s := by
    intro s; kernel_rfl
  have hL : LV 0 Tryd.prog false (loopsOf g8_taliklaw01_GroundWarned_l0_c) [] := by unfold LV; cases loopsOf g8_taliklaw01_GroundWarned_l0_c <;> trivial
  exact loopT_valid (fuel := g8_taliklaw01_GroundWarned_l0_fuel) mixed g8_taliklaw01_GroundWarned_CV hL (by kernel_rfl) (by decide) rfl hb (fun s r h => h)
theorem g8_taliklaw01_GroundWarned_LV : LV 0 Tryd.prog false (loopsOf (bodyOf Tryd.f8)) [g8_taliklaw01_GroundWarned_l0_L] := by
  have hl : loopsOf (bodyOf Tryd.f8) = [.loop g8_taliklaw01_GroundWarned_l0_c] := by kernel_rfl
  rw [hl]; exact ⟨g8_taliklaw01_GroundWarned_l0_V, trivial⟩
theorem g8_taliklaw01_GroundWarned_ent : Ent Tryd.prog 8 := ⟨by decide, enters_of Tryd.func8 (by kernel_rfl) rfl⟩
theorem g8_taliklaw01_GroundWarned_hev : ∀ x, fnR Tryd.prog g8_taliklaw01_GroundWarned_C [g8_taliklaw01_GroundWarned_l0_L] Tryd.f8 (bodyOf Tryd.f8) (encs [.dat T25, .dat (.list T72), .dat T29, .dat (.int .i64)] x) ⟨[], [], 0⟩ (frzF (.dat .bool)) = g8_taliklaw01_GroundWarned x.1 x.2.1 x.2.2.1 x.2.2.2.1 := by
  intro x; kernel_rfl
theorem g8_taliklaw01_GroundWarned_lcall : ∀ x r, (fun x : Els [.dat T25, .dat (.list T72), .dat T29, .dat (.int .i64)] => g8_taliklaw01_GroundWarned x.1 x.2.1 x.2.2.1 x.2.2.2.1) x = some r → LCall 0 Tryd.prog 8 (encs [.dat T25, .dat (.list T72), .dat T29, .dat (.int .i64)] x) ⟨[], [], 0⟩ (.d .bool r) ⟨[], [], 0⟩ := frz_lcall (R := .dat .bool) mixed Tryd.func8 rfl g8_taliklaw01_GroundWarned_ent g8_taliklaw01_GroundWarned_CV g8_taliklaw01_GroundWarned_LV (by kernel_rfl) (by kernel_rfl) g8_taliklaw01_GroundWarned_hev

end Go.Proofs.YtbidmbjkjpdgdaaDoor.Abs
