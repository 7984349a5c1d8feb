/-
  A law of the ground layer as a typed function. Printed by a program of mine (gen.py).
-/
import Derived.Test.YtbidmbjkjpdgdaaDoorGf2
set_option linter.unusedVariables false
set_option maxRecDepth 100000
namespace Go.Proofs.YtbidmbjkjpdgdaaDoor.Abs
open Go.Shelf Go.Sort
noncomputable def g4_taliklaw01_GroundLedgers_C : CalT := tabC [g22_taliklaw01_fair_E, g15_taliklaw01_known_E, g16_ground_Play_E, g23_ground_Years_E, g24_talikref01_Goes_E, g25_talikref01_Inside_E]
theorem g4_taliklaw01_GroundLedgers_CV : CV Tryd.prog g4_taliklaw01_GroundLedgers_C := tabC_valid ⟨g22_taliklaw01_fair_valid, g15_taliklaw01_known_valid, g16_ground_Play_valid, g23_ground_Years_valid, g24_talikref01_Goes_valid, g25_talikref01_Inside_valid, trivial⟩
noncomputable def g4_taliklaw01_GroundLedgers_l0_S : SPat := ⟨[.any, .dat (.list T72), .any, .any, .any, .fix (.bptr 1 []), .any, .any, .fix (.bptr 2 []), .any, .dat (.list T53), .any, .dat (.int .i64), .dat (.int .i64), .dat (.int .i64), .any, .any, .any, .any, .any, .any, .any, .any, .any, .any, .any, .any, .any, .any, .any, .any, .any, .any, .any, .any, .any, .any, .any, .any, .any, .any, .any, .any, .any, .any, .any, .any, .any, .any, .any, .any, .any, .any, .any, .any, .any, .any, .any, .any, .any, .any, .any, .any, .any, .any, .any, .any, .any, .any, .any, .any, .any, .any, .any, .any, .any, .any, .any, .any, .any, .any, .any, .any, .any, .any, .any, .any, .any, .any, .any, .any, .any, .any, .any, .any, .any, .any, .any, .any, .any, .any, .any, .any, .any, .any, .any, .any, .any, .any, .any, .any, .any, .any, .any, .any, .any, .any, .any, .any, .any, .any, .any, .any, .any, .any, .any, .any, .any], [.dat T25, .dat T29, .dat T34], 0⟩
noncomputable def g4_taliklaw01_GroundLedgers_l0_step (s : (((List E72) × ((List E53) × (Int × (Int × (Int × Unit))))) × (E25 × (E29 × (E34 × Unit))))) : Option (Nat × (((List E72) × ((List E53) × (Int × (Int × (Int × Unit))))) × (E25 × (E29 × (E34 × Unit))))) :=
  (bif (decide (s.1.2.2.2.2.1 < (List.length s.1.1 : Int))) then
  (bif (decide (0 ≤ s.1.2.2.2.2.1) && decide (s.1.2.2.2.2.1 < (List.length s.2.2.1.2.1 : Int))) then
    (bif (decide (0 ≤ s.1.2.2.2.2.1) && decide (s.1.2.2.2.2.1 < (List.length s.2.2.1.2.2.1 : Int))) then
      (bif (decide (0 ≤ s.1.2.2.2.2.1) && decide (s.1.2.2.2.2.1 < (List.length s.2.2.1.2.2.2.1 : Int))) then
        (bif (decide (0 ≤ s.1.2.2.2.2.1) && decide (s.1.2.2.2.2.1 < (List.length s.2.2.1.2.2.2.2.1 : Int))) then
          (Option.bind (g24_talikref01_Goes (List.getD s.2.2.1.2.2.2.1 (Int.toNat s.1.2.2.2.2.1) 0) (List.getD s.2.2.1.2.2.2.2.1 (Int.toNat s.1.2.2.2.2.1) 0)) fun r5 =>
            some (0, ((s.1.1, (s.1.2.1, ((IntKind.wrap .i64 ((IntKind.wrap .i64 (s.1.2.2.1 + (List.getD s.2.2.1.2.1 (Int.toNat s.1.2.2.2.2.1) 0))) + (List.getD s.2.2.1.2.2.1 (Int.toNat s.1.2.2.2.2.1) 0))), ((IntKind.wrap .i64 (s.1.2.2.2.1 + r5)), ((IntKind.wrap .i64 (s.1.2.2.2.2.1 + 1)), ()))))), (s.2.1, (s.2.2.1, (s.2.2.2.1, ()))))))
          else
          none)
        else
        none)
      else
      none)
    else
    none)
  else
  some (1, ((s.1.1, (s.1.2.1, (s.1.2.2.1, (s.1.2.2.2.1, (s.1.2.2.2.2.1, ()))))), (s.2.1, (s.2.2.1, (s.2.2.2.1, ()))))))
noncomputable def g4_taliklaw01_GroundLedgers_l0_fuel (s : (((List E72) × ((List E53) × (Int × (Int × (Int × Unit))))) × (E25 × (E29 × (E34 × Unit))))) : Nat := Int.toNat ((List.length s.1.1 : Int) - s.1.2.2.2.2.1) + 1
noncomputable def g4_taliklaw01_GroundLedgers_l0_run (s : (((List E72) × ((List E53) × (Int × (Int × (Int × Unit))))) × (E25 × (E29 × (E34 × Unit))))) : Option (Nat × (((List E72) × ((List E53) × (Int × (Int × (Int × Unit))))) × (E25 × (E29 × (E34 × Unit))))) := iter g4_taliklaw01_GroundLedgers_l0_step (g4_taliklaw01_GroundLedgers_l0_fuel s) s
noncomputable def g4_taliklaw01_GroundLedgers_l0_L : LoopT := loopT g4_taliklaw01_GroundLedgers_l0_S [.exit 0] g4_taliklaw01_GroundLedgers_l0_run
noncomputable def g4_taliklaw01_GroundLedgers (a0 : E25) (a1 : (List E72)) (a2 : E29) : Option Bool :=
  (Option.bind (g22_taliklaw01_fair a0 a1 a2) fun r1 =>
  (bif (!r1) then
    (Option.bind g15_taliklaw01_known fun r2 =>
      some r2)
    else
    (Option.bind (g16_ground_Play a0 a1 a2) fun r3 =>
      (Option.bind (g23_ground_Years a0 a1) fun r4 =>
        (bif (r3.2.2.1 != 0) then
          some false
          else
          (bif (r4.2.1 != 0) then
            some false
            else
            (bif ((List.length r4.1 : Int) != (List.length a1 : Int)) then
              some false
              else
              (Option.bind (g4_taliklaw01_GroundLedgers_l0_run ((a1, (r4.1, (0, (0, (0, ()))))), (a0, (a2, (r3.2.1, ()))))) fun q6 =>
                (bif (q6.2.2.2.2.1.1 != q6.2.1.2.2.1) then
                  some false
                  else
                  (bif (decide (q6.2.2.2.2.1.2.1 < 0)) then
                    some false
                    else
                    (bif (decide (q6.2.2.2.2.1.2.1 > q6.2.1.2.2.2.1)) then
                      some false
                      else
                      (bif (decide (q6.2.2.2.2.1.2.1 > q6.2.1.2.2.1)) then
                        some false
                        else
                        (bif (q6.2.2.2.2.1.2.2.1 != (IntKind.wrap .i64 (q6.2.1.2.2.1 - q6.2.2.2.2.1.2.1))) then
                          some false
                          else
                          (bif (decide ((List.length q6.2.1.1 : Int) > 0)) then
                            (bif (decide (0 ≤ (IntKind.wrap .i64 ((List.length q6.2.1.1 : Int) - 1))) && decide ((IntKind.wrap .i64 ((List.length q6.2.1.1 : Int) - 1)) < (List.length q6.2.1.2.1 : Int))) then
                              (Option.bind (g25_talikref01_Inside q6.2.2.2.2.1.2.2.1 ((List.getD q6.2.1.2.1 (Int.toNat (IntKind.wrap .i64 ((List.length q6.2.1.1 : Int) - 1))) ((0, (0, ())), ((0, (0, ())), (0, ())))).2.1)) fun r7 =>
                                (bif (!r7) then
                                  some false
                                  else
                                  (Option.bind g15_taliklaw01_known fun r8 =>
                                    some r8)))
                              else
                              none)
                            else
                            (Option.bind g15_taliklaw01_known fun r9 =>
                              some r9)))))))))))))))
noncomputable def g4_taliklaw01_GroundLedgers_E : CEnt := pureE 4 [.dat T25, .dat (.list T72), .dat T29] (.dat .bool) fun x => g4_taliklaw01_GroundLedgers x.1 x.2.1 x.2.2.1
noncomputable def g4_taliklaw01_GroundLedgers_l0_c : Code := loopAt (bodyOf Tryd.f4) 0
theorem g4_taliklaw01_GroundLedgers_l0_V : LValid 0 Tryd.prog (.loop g4_taliklaw01_GroundLedgers_l0_c) g4_taliklaw01_GroundLedgers_l0_L false := by
  have hb : ∀ s, codeR Tryd.prog g4_taliklaw01_GroundLedgers_C g4_taliklaw01_GroundLedgers_l0_c [] (g4_taliklaw01_GroundLedgers_l0_S.encE s) (g4_taliklaw01_GroundLedgers_l0_S.encB s) (kst g4_taliklaw01_GroundLedgers_l0_S [.exit 0]) = g4_taliklaw01_GroundLedgers_l0_step s := by
    intro s; kernel_rfl
  have hL : LV 0 Tryd.prog false (loopsOf g4_taliklaw01_GroundLedgers_l0_c) [] := by unfold LV; cases loopsOf g4_taliklaw01_GroundLedgers_l0_c <;> trivial
  exact loopT_valid (fuel := g4_taliklaw01_GroundLedgers_l0_fuel) mixed g4_taliklaw01_GroundLedgers_CV hL (by kernel_rfl) (by decide) rfl hb (fun s r h => h)
theorem g4_taliklaw01_GroundLedgers_LV : LV 0 Tryd.prog false (loopsOf (bodyOf Tryd.f4)) [g4_taliklaw01_GroundLedgers_l0_L] := by
  have hl : loopsOf (bodyOf Tryd.f4) = [.loop g4_taliklaw01_GroundLedgers_l0_c] := by kernel_rfl
  rw [hl]; exact ⟨g4_taliklaw01_GroundLedgers_l0_V, trivial⟩
theorem g4_taliklaw01_GroundLedgers_ent : Ent Tryd.prog 4 := ⟨by decide, enters_of Tryd.func4 (by kernel_rfl) rfl⟩
theorem g4_taliklaw01_GroundLedgers_hev : ∀ x, fnR Tryd.prog g4_taliklaw01_GroundLedgers_C [g4_taliklaw01_GroundLedgers_l0_L] Tryd.f4 (bodyOf Tryd.f4) (encs [.dat T25, .dat (.list T72), .dat T29] x) ⟨[], [], 0⟩ (frzF (.dat .bool)) = g4_taliklaw01_GroundLedgers x.1 x.2.1 x.2.2.1 := by
  intro x; kernel_rfl
theorem g4_taliklaw01_GroundLedgers_lcall : ∀ x r, (fun x : Els [.dat T25, .dat (.list T72), .dat T29] => g4_taliklaw01_GroundLedgers x.1 x.2.1 x.2.2.1) x = some r → LCall 0 Tryd.prog 4 (encs [.dat T25, .dat (.list T72), .dat T29] x) ⟨[], [], 0⟩ (.d .bool r) ⟨[], [], 0⟩ := frz_lcall (R := .dat .bool) mixed Tryd.func4 rfl g4_taliklaw01_GroundLedgers_ent g4_taliklaw01_GroundLedgers_CV g4_taliklaw01_GroundLedgers_LV (by kernel_rfl) (by kernel_rfl) g4_taliklaw01_GroundLedgers_hev

end Go.Proofs.YtbidmbjkjpdgdaaDoor.Abs
