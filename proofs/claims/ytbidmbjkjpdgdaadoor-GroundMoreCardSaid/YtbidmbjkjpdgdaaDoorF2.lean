import Derived.Test.YtbidmbjkjpdgdaaDoorF1
/-
  Functions of the ground layer, and what they come to, as typed functions; part 1. Printed by a program of mine (gen.py).
-/
set_option linter.unusedVariables false
set_option maxRecDepth 100000
namespace Go.Proofs.YtbidmbjkjpdgdaaDoor.Abs
open Go.Shelf Go.Sort
noncomputable def g58_ground_deepest_C : CalT := tabC [g76_ground_end_v1_E]
theorem g58_ground_deepest_CV : CV Tryd.prog g58_ground_deepest_C := tabC_valid ⟨g76_ground_end_v1_valid, trivial⟩
noncomputable def g58_ground_deepest (a0 : E25) (a1 : (List E72)) (a2 : Int) : Option E90 :=
  (Option.bind (g76_ground_end_v1 a0 a1 a2) fun r1 =>
  some r1)
noncomputable def g58_ground_deepest_E : CEnt := pureE 58 [.dat T25, .dat (.list T72), .dat (.int .i64)] (.ip T90) fun x => g58_ground_deepest x.1 x.2.1 x.2.2.1
theorem g58_ground_deepest_LV : LV 0 Tryd.prog false (loopsOf (bodyOf Tryd.f58)) [] := by unfold LV; cases loopsOf (bodyOf Tryd.f58) <;> trivial
theorem g58_ground_deepest_ent : Ent Tryd.prog 58 := ⟨by decide, enters_of Tryd.func58 (by kernel_rfl) rfl⟩
theorem g58_ground_deepest_hev : ∀ x, fnR Tryd.prog g58_ground_deepest_C [] Tryd.f58 (bodyOf Tryd.f58) (encs [.dat T25, .dat (.list T72), .dat (.int .i64)] x) ⟨[], [], 0⟩ (frzF (.ip T90)) = g58_ground_deepest x.1 x.2.1 x.2.2.1 := by
  intro x; kernel_rfl
theorem g58_ground_deepest_valid : g58_ground_deepest_E.Valid Tryd.prog :=
  pureE_valid (by kernel_rfl) (by kernel_rfl) g58_ground_deepest_ent (frz_lcall mixed Tryd.func58 rfl g58_ground_deepest_ent g58_ground_deepest_CV g58_ground_deepest_LV (by kernel_rfl) (by kernel_rfl) g58_ground_deepest_hev)

noncomputable def g23_ground_Years_C : CalT := tabC [g51_ground_given_E, g57_ground_least_E, g58_ground_deepest_E]
theorem g23_ground_Years_CV : CV Tryd.prog g23_ground_Years_C := tabC_valid ⟨g51_ground_given_valid, g57_ground_least_valid, g58_ground_deepest_valid, trivial⟩
noncomputable def g23_ground_Years_l1_S : SPat := ⟨[.any, .any, .any, .any, .any, .any, .any, .fix (.bptr 1 []), .ip T90, .ip T90, .own 0 T53, .dat (.int .i64), .dat (.int .i64), .any, .any, .any, .any, .any, .any, .any, .any, .any, .any, .any, .any, .any, .any, .any, .any, .dat (.int .i64), .dat (.int .i64), .any, .any, .any, .any, .any, .any, .any, .any, .any, .any, .any, .any, .any, .any, .any, .any, .cons (.dat (.int .i64)) (.cons (.dat (.int .i64)) (.nil)), .dat (.int .i64), .any, .any, .any, .any, .any, .any, .any, .any, .any, .any, .any, .any, .any, .any, .any, .any, .any, .any, .any, .any, .any, .any, .any, .any, .any, .any, .any, .any, .any, .any, .any, .any, .any, .any, .any, .any, .any, .any, .any, .any, .any, .any, .any, .any, .any, .any], [.dat T25, .dat (.arr 3 (.int .i64))], 1⟩
noncomputable def g23_ground_Years_l1_step (s : ((E90 × (E90 × ((List E53) × (Int × (Int × (Int × (Int × ((Int × (Int × Unit)) × (Int × Unit))))))))) × (E25 × ((List Int) × Unit)))) : Option (Nat × ((E90 × (E90 × ((List E53) × (Int × (Int × (Int × (Int × ((Int × (Int × Unit)) × (Int × Unit))))))))) × (E25 × ((List Int) × Unit)))) :=
  (bif (decide (s.1.2.2.2.2.2.2.2.2.1 < 2)) then
  (bif (decide (s.1.2.2.2.2.2.2.2.2.1 = (0 : Int))) then
    (bif (decide (s.1.2.2.2.2.2.2.2.1.1 > 0)) then
      some (0, ((s.1.1, (s.1.2.1, (s.1.2.2.1, (s.1.2.2.2.1, ((IntKind.wrap .i64 (s.1.2.2.2.2.1 + 1)), (s.1.2.2.2.2.2.1, (s.1.2.2.2.2.2.2.1, ((s.1.2.2.2.2.2.2.2.1.1, (s.1.2.2.2.2.2.2.2.1.2.1, ())), ((IntKind.wrap .i64 (s.1.2.2.2.2.2.2.2.2.1 + 1)), ()))))))))), (s.2.1, (s.2.2.1, ()))))
      else
      some (0, ((s.1.1, (s.1.2.1, (s.1.2.2.1, (s.1.2.2.2.1, (s.1.2.2.2.2.1, (s.1.2.2.2.2.2.1, (s.1.2.2.2.2.2.2.1, ((s.1.2.2.2.2.2.2.2.1.1, (s.1.2.2.2.2.2.2.2.1.2.1, ())), ((IntKind.wrap .i64 (s.1.2.2.2.2.2.2.2.2.1 + 1)), ()))))))))), (s.2.1, (s.2.2.1, ())))))
    else
    (bif (decide (s.1.2.2.2.2.2.2.2.2.1 = (1 : Int))) then
      (bif (decide (s.1.2.2.2.2.2.2.2.1.2.1 > 0)) then
        some (0, ((s.1.1, (s.1.2.1, (s.1.2.2.1, (s.1.2.2.2.1, ((IntKind.wrap .i64 (s.1.2.2.2.2.1 + 1)), (s.1.2.2.2.2.2.1, (s.1.2.2.2.2.2.2.1, ((s.1.2.2.2.2.2.2.2.1.1, (s.1.2.2.2.2.2.2.2.1.2.1, ())), ((IntKind.wrap .i64 (s.1.2.2.2.2.2.2.2.2.1 + 1)), ()))))))))), (s.2.1, (s.2.2.1, ()))))
        else
        some (0, ((s.1.1, (s.1.2.1, (s.1.2.2.1, (s.1.2.2.2.1, (s.1.2.2.2.2.1, (s.1.2.2.2.2.2.1, (s.1.2.2.2.2.2.2.1, ((s.1.2.2.2.2.2.2.2.1.1, (s.1.2.2.2.2.2.2.2.1.2.1, ())), ((IntKind.wrap .i64 (s.1.2.2.2.2.2.2.2.2.1 + 1)), ()))))))))), (s.2.1, (s.2.2.1, ())))))
      else
      none))
  else
  some (1, ((s.1.1, (s.1.2.1, (s.1.2.2.1, (s.1.2.2.2.1, (s.1.2.2.2.2.1, (s.1.2.2.2.2.2.1, (s.1.2.2.2.2.2.2.1, ((s.1.2.2.2.2.2.2.2.1.1, (s.1.2.2.2.2.2.2.2.1.2.1, ())), (s.1.2.2.2.2.2.2.2.2.1, ()))))))))), (s.2.1, (s.2.2.1, ())))))
noncomputable def g23_ground_Years_l1_fuel (s : ((E90 × (E90 × ((List E53) × (Int × (Int × (Int × (Int × ((Int × (Int × Unit)) × (Int × Unit))))))))) × (E25 × ((List Int) × Unit)))) : Nat := Int.toNat (2 - s.1.2.2.2.2.2.2.2.2.1) + 1
noncomputable def g23_ground_Years_l1_run (s : ((E90 × (E90 × ((List E53) × (Int × (Int × (Int × (Int × ((Int × (Int × Unit)) × (Int × Unit))))))))) × (E25 × ((List Int) × Unit)))) : Option (Nat × ((E90 × (E90 × ((List E53) × (Int × (Int × (Int × (Int × ((Int × (Int × Unit)) × (Int × Unit))))))))) × (E25 × ((List Int) × Unit)))) := iter g23_ground_Years_l1_step (g23_ground_Years_l1_fuel s) s
noncomputable def g23_ground_Years_l1_L : LoopT := loopT g23_ground_Years_l1_S [.exit 2] g23_ground_Years_l1_run
noncomputable def g23_ground_Years_l0_S : SPat := ⟨[.any, .any, .any, .any, .any, .any, .any, .fix (.bptr 1 []), .ip T90, .ip T90, .own 0 T53, .any, .any, .any, .any, .any, .any, .any, .any, .any, .any, .any, .any, .any, .any, .any, .any, .any, .any, .dat (.int .i64), .dat (.int .i64), .any, .any, .any, .any, .any, .any, .any, .any, .any, .any, .any, .any, .any, .any, .any, .any, .any, .any, .any, .any, .any, .any, .any, .any, .any, .any, .any, .any, .any, .any, .any, .any, .any, .any, .any, .any, .any, .any, .any, .any, .any, .any, .any, .any, .any, .any, .any, .any, .any, .any, .any, .any, .any, .any, .any, .any, .any, .any, .any, .any, .any, .any, .any, .any], [.dat T25, .dat (.arr 3 (.int .i64))], 1⟩
noncomputable def g23_ground_Years_l0_step (s : ((E90 × (E90 × ((List E53) × (Int × (Int × Unit))))) × (E25 × ((List Int) × Unit)))) : Option (Nat × ((E90 × (E90 × ((List E53) × (Int × (Int × Unit))))) × (E25 × ((List Int) × Unit)))) :=
  (bif (decide (s.1.2.2.2.2.1 < s.1.2.2.2.1)) then
  (bif (decide (0 ≤ s.1.2.2.2.2.1) && decide (s.1.2.2.2.2.1 < (List.length s.1.1.2.2.2.2.2.2.2.1 : Int))) then
    (bif (decide (0 ≤ s.1.2.2.2.2.1) && decide (s.1.2.2.2.2.1 < (List.length s.1.2.1.2.2.2.2.2.2.2.1 : Int))) then
      (Option.bind (g23_ground_Years_l1_run ((s.1.1, (s.1.2.1, (s.1.2.2.1, (s.1.2.2.2.2.1, (0, (s.1.2.2.2.1, (s.1.2.2.2.2.1, (((List.getD s.1.1.2.2.2.2.2.2.2.1 (Int.toNat s.1.2.2.2.2.1) 0), ((List.getD s.1.2.1.2.2.2.2.2.2.2.1 (Int.toNat s.1.2.2.2.2.1) 0), ())), (0, ()))))))))), (s.2.1, (s.2.2.1, ())))) fun q4 =>
        (bif (decide (0 ≤ q4.2.1.2.2.2.1) && decide (q4.2.1.2.2.2.1 < (List.length q4.2.1.1.2.2.2.2.2.2.1 : Int))) then
          (bif (decide (0 ≤ q4.2.1.2.2.2.1) && decide (q4.2.1.2.2.2.1 < (List.length q4.2.1.2.1.2.2.2.2.2.2.1 : Int))) then
            (bif (decide (0 ≤ q4.2.1.2.2.2.1) && decide (q4.2.1.2.2.2.1 < (List.length q4.2.1.1.2.2.2.2.2.2.2.1 : Int))) then
              (bif (decide (0 ≤ q4.2.1.2.2.2.1) && decide (q4.2.1.2.2.2.1 < (List.length q4.2.1.2.1.2.2.2.2.2.2.2.1 : Int))) then
                (bif (decide (0 ≤ q4.2.1.2.2.2.2.1) && decide (q4.2.1.2.2.2.2.1 < (3 : Int))) then
                  (bif (decide (List.length q4.2.1.2.2.1 + List.length [(((List.getD q4.2.1.1.2.2.2.2.2.2.1 (Int.toNat q4.2.1.2.2.2.1) 0), ((List.getD q4.2.1.2.1.2.2.2.2.2.2.1 (Int.toNat q4.2.1.2.2.2.1) 0), ())), (((List.getD q4.2.1.1.2.2.2.2.2.2.2.1 (Int.toNat q4.2.1.2.2.2.1) 0), ((List.getD q4.2.1.2.1.2.2.2.2.2.2.2.1 (Int.toNat q4.2.1.2.2.2.1) 0), ())), ((List.getD q4.2.2.2.1 (Int.toNat q4.2.1.2.2.2.2.1) 0), ())))] ≤ LIM)) then
                    some (0, ((q4.2.1.1, (q4.2.1.2.1, ((q4.2.1.2.2.1 ++ [(((List.getD q4.2.1.1.2.2.2.2.2.2.1 (Int.toNat q4.2.1.2.2.2.1) 0), ((List.getD q4.2.1.2.1.2.2.2.2.2.2.1 (Int.toNat q4.2.1.2.2.2.1) 0), ())), (((List.getD q4.2.1.1.2.2.2.2.2.2.2.1 (Int.toNat q4.2.1.2.2.2.1) 0), ((List.getD q4.2.1.2.1.2.2.2.2.2.2.2.1 (Int.toNat q4.2.1.2.2.2.1) 0), ())), ((List.getD q4.2.2.2.1 (Int.toNat q4.2.1.2.2.2.2.1) 0), ())))]), (q4.2.1.2.2.2.2.2.1, ((IntKind.wrap .i64 (q4.2.1.2.2.2.2.2.2.1 + 1)), ()))))), (q4.2.2.1, (q4.2.2.2.1, ()))))
                    else
                    none)
                  else
                  none)
                else
                none)
              else
              none)
            else
            none)
          else
          none))
      else
      none)
    else
    none)
  else
  some (1, ((s.1.1, (s.1.2.1, (s.1.2.2.1, (s.1.2.2.2.1, (s.1.2.2.2.2.1, ()))))), (s.2.1, (s.2.2.1, ())))))
noncomputable def g23_ground_Years_l0_fuel (s : ((E90 × (E90 × ((List E53) × (Int × (Int × Unit))))) × (E25 × ((List Int) × Unit)))) : Nat := Int.toNat (s.1.2.2.2.1 - s.1.2.2.2.2.1) + 1
noncomputable def g23_ground_Years_l0_run (s : ((E90 × (E90 × ((List E53) × (Int × (Int × Unit))))) × (E25 × ((List Int) × Unit)))) : Option (Nat × ((E90 × (E90 × ((List E53) × (Int × (Int × Unit))))) × (E25 × ((List Int) × Unit)))) := iter g23_ground_Years_l0_step (g23_ground_Years_l0_fuel s) s
noncomputable def g23_ground_Years_l0_L : LoopT := loopT g23_ground_Years_l0_S [.exit 0] g23_ground_Years_l0_run
noncomputable def g23_ground_Years (a0 : E25) (a1 : (List E72)) : Option ((List E53) × (Int × Unit)) :=
  (Option.bind (g51_ground_given a0 a1 true) fun r1 =>
  (bif (r1 != 0) then
    some ([], (r1, ()))
    else
    (Option.bind (g57_ground_least a0 a1) fun r2 =>
      (Option.bind (g58_ground_deepest a0 a1 0) fun r3 =>
        (Option.bind (g23_ground_Years_l0_run ((r2, (r3, ([], ((List.length a1 : Int), (0, ()))))), (a0, ((1 :: (2 :: (3 :: []))), ())))) fun q5 =>
          some (q5.2.1.2.2.1, (0, ())))))))
noncomputable def g23_ground_Years_E : CEnt := pureE 23 [.dat T25, .dat (.list T72)] (.tup (.cons (.dat (.list T53)) (.cons (.dat (.int .i64)) (.nil)))) fun x => g23_ground_Years x.1 x.2.1
noncomputable def g23_ground_Years_l0_c : Code := loopAt (bodyOf Tryd.f23) 0
noncomputable def g23_ground_Years_l1_c : Code := loopAt g23_ground_Years_l0_c 0
theorem g23_ground_Years_l1_V : LValid 0 Tryd.prog (.loop g23_ground_Years_l1_c) g23_ground_Years_l1_L false := by
  have hb : ∀ s, codeR Tryd.prog g23_ground_Years_C g23_ground_Years_l1_c [] (g23_ground_Years_l1_S.encE s) (g23_ground_Years_l1_S.encB s) (kst g23_ground_Years_l1_S [.exit 2]) = g23_ground_Years_l1_step s := by
    intro s; kernel_rfl
  have hL : LV 0 Tryd.prog false (loopsOf g23_ground_Years_l1_c) [] := by unfold LV; cases loopsOf g23_ground_Years_l1_c <;> trivial
  exact loopT_valid (fuel := g23_ground_Years_l1_fuel) mixed g23_ground_Years_CV hL (by kernel_rfl) (by decide) rfl hb (fun s r h => h)
theorem g23_ground_Years_l0_V : LValid 0 Tryd.prog (.loop g23_ground_Years_l0_c) g23_ground_Years_l0_L false := by
  have hb : ∀ s, codeR Tryd.prog g23_ground_Years_C g23_ground_Years_l0_c [g23_ground_Years_l1_L] (g23_ground_Years_l0_S.encE s) (g23_ground_Years_l0_S.encB s) (kst g23_ground_Years_l0_S [.exit 0]) = g23_ground_Years_l0_step s := by
    intro s; kernel_rfl
  have hl : loopsOf g23_ground_Years_l0_c = [.loop g23_ground_Years_l1_c] := by kernel_rfl
  have hL : LV 0 Tryd.prog false (loopsOf g23_ground_Years_l0_c) [g23_ground_Years_l1_L] := by rw [hl]; exact ⟨g23_ground_Years_l1_V, trivial⟩
  exact loopT_valid (fuel := g23_ground_Years_l0_fuel) mixed g23_ground_Years_CV hL (by kernel_rfl) (by decide) rfl hb (fun s r h => h)
theorem g23_ground_Years_LV : LV 0 Tryd.prog false (loopsOf (bodyOf Tryd.f23)) [g23_ground_Years_l0_L] := by
  have hl : loopsOf (bodyOf Tryd.f23) = [.loop g23_ground_Years_l0_c] := by kernel_rfl
  rw [hl]; exact ⟨g23_ground_Years_l0_V, trivial⟩
theorem g23_ground_Years_ent : Ent Tryd.prog 23 := ⟨by decide, enters_of Tryd.func23 (by kernel_rfl) rfl⟩
theorem g23_ground_Years_hev : ∀ x, fnR Tryd.prog g23_ground_Years_C [g23_ground_Years_l0_L] Tryd.f23 (bodyOf Tryd.f23) (encs [.dat T25, .dat (.list T72)] x) ⟨[], [], 0⟩ (frzF (.tup (.cons (.dat (.list T53)) (.cons (.dat (.int .i64)) (.nil))))) = g23_ground_Years x.1 x.2.1 := by
  intro x; kernel_rfl
theorem g23_ground_Years_valid : g23_ground_Years_E.Valid Tryd.prog :=
  pureE_valid (by kernel_rfl) (by kernel_rfl) g23_ground_Years_ent (frz_lcall mixed Tryd.func23 rfl g23_ground_Years_ent g23_ground_Years_CV g23_ground_Years_LV (by kernel_rfl) (by kernel_rfl) g23_ground_Years_hev)

noncomputable def g45_ground_Play_1_C : CalT := tabC []
theorem g45_ground_Play_1_CV : CV Tryd.prog g45_ground_Play_1_C := tabC_valid trivial
noncomputable def g45_ground_Play_1 (a0 : E70) : Option E23 :=
  some a0.2.1
noncomputable def g45_ground_Play_1_E : CEnt := pureE 45 [.dat T70] (.dat T23) fun x => g45_ground_Play_1 x.1
theorem g45_ground_Play_1_LV : LV 0 Tryd.prog false (loopsOf (bodyOf Tryd.f45)) [] := by unfold LV; cases loopsOf (bodyOf Tryd.f45) <;> trivial
theorem g45_ground_Play_1_ent : Ent Tryd.prog 45 := ⟨by decide, enters_of Tryd.func45 (by kernel_rfl) rfl⟩
theorem g45_ground_Play_1_hev : ∀ x, fnR Tryd.prog g45_ground_Play_1_C [] Tryd.f45 (bodyOf Tryd.f45) (encs [.dat T70] x) ⟨[], [], 0⟩ (frzF (.dat T23)) = g45_ground_Play_1 x.1 := by
  intro x; kernel_rfl
theorem g45_ground_Play_1_valid : g45_ground_Play_1_E.Valid Tryd.prog :=
  pureE_valid (by kernel_rfl) (by kernel_rfl) g45_ground_Play_1_ent (frz_lcall mixed Tryd.func45 rfl g45_ground_Play_1_ent g45_ground_Play_1_CV g45_ground_Play_1_LV (by kernel_rfl) (by kernel_rfl) g45_ground_Play_1_hev)

noncomputable def g44_ground_inside_C : CalT := tabC [g45_ground_Play_1_E, g70_ground_in_E]
theorem g44_ground_inside_CV : CV Tryd.prog g44_ground_inside_C := tabC_valid ⟨g45_ground_Play_1_valid, g70_ground_in_valid, trivial⟩
noncomputable def g44_ground_inside_l0_S : SPat := ⟨[.any, .dat (.list T70), .fix (.func (.func 45) .nil .nil), .any, .any, .any, .dat .bool, .any, .any, .any, .any, .any, .any, .any, .any, .dat (.list (.int .i64)), .dat (.int .i64), .dat (.int .i64), .any, .any, .any, .any, .any, .any, .any, .any, .any, .any, .any, .any, .any, .any, .any, .any, .any, .any], [], 0⟩
noncomputable def g44_ground_inside_l0_step (s : (((List E70) × (Bool × ((List Int) × (Int × (Int × Unit))))) × Unit)) : Option (Nat × (((List E70) × (Bool × ((List Int) × (Int × (Int × Unit))))) × Unit)) :=
  (bif (decide (s.1.2.2.2.2.1 < s.1.2.2.2.1)) then
  (bif (decide (0 ≤ s.1.2.2.2.2.1) && decide (s.1.2.2.2.2.1 < (List.length s.1.2.2.1 : Int))) then
    (bif (decide (0 ≤ s.1.2.2.2.2.1) && decide (s.1.2.2.2.2.1 < (List.length s.1.1 : Int))) then
      (Option.bind (g45_ground_Play_1 (List.getD s.1.1 (Int.toNat s.1.2.2.2.2.1) (0, ((0, (0, ())), ())))) fun r1 =>
        (Option.bind (g70_ground_in (List.getD s.1.2.2.1 (Int.toNat s.1.2.2.2.2.1) 0) r1.1 r1.2.1) fun r2 =>
          (bif (!r2) then
            some (1, ((s.1.1, (false, (s.1.2.2.1, (s.1.2.2.2.1, (s.1.2.2.2.2.1, ()))))), ()))
            else
            some (0, ((s.1.1, (s.1.2.1, (s.1.2.2.1, (s.1.2.2.2.1, ((IntKind.wrap .i64 (s.1.2.2.2.2.1 + 1)), ()))))), ())))))
      else
      none)
    else
    none)
  else
  some (2, ((s.1.1, (s.1.2.1, (s.1.2.2.1, (s.1.2.2.2.1, (s.1.2.2.2.2.1, ()))))), ())))
noncomputable def g44_ground_inside_l0_fuel (s : (((List E70) × (Bool × ((List Int) × (Int × (Int × Unit))))) × Unit)) : Nat := Int.toNat (s.1.2.2.2.1 - s.1.2.2.2.2.1) + 1
noncomputable def g44_ground_inside_l0_run (s : (((List E70) × (Bool × ((List Int) × (Int × (Int × Unit))))) × Unit)) : Option (Nat × (((List E70) × (Bool × ((List Int) × (Int × (Int × Unit))))) × Unit)) := iter g44_ground_inside_l0_step (g44_ground_inside_l0_fuel s) s
noncomputable def g44_ground_inside_l0_L : LoopT := loopT g44_ground_inside_l0_S [.ret, .exit 0] g44_ground_inside_l0_run
noncomputable def g44_ground_inside (a0 : (List Int)) (a1 : (List E70)) : Option Bool :=
  (bif ((List.length a0 : Int) != (List.length a1 : Int)) then
  some false
  else
  (Option.bind (g44_ground_inside_l0_run ((a1, (false, (a0, ((List.length a0 : Int), (0, ()))))), ())) fun q3 =>
    (natK q3.1
      (some q3.2.1.2.1)
      (fun _ => some true))))
noncomputable def g44_ground_inside_E : CEnt := pureE 44 [.dat (.list (.int .i64)), .dat (.list T70), .fix (.func (.func 45) .nil .nil)] (.dat .bool) fun x => g44_ground_inside x.1 x.2.1
noncomputable def g44_ground_inside_l0_c : Code := loopAt (bodyOf Tryd.f44) 0
theorem g44_ground_inside_l0_V : LValid 0 Tryd.prog (.loop g44_ground_inside_l0_c) g44_ground_inside_l0_L false := by
  have hb : ∀ s, codeR Tryd.prog g44_ground_inside_C g44_ground_inside_l0_c [] (g44_ground_inside_l0_S.encE s) (g44_ground_inside_l0_S.encB s) (kst g44_ground_inside_l0_S [.ret, .exit 0]) = g44_ground_inside_l0_step s := by
    intro s; kernel_rfl
  have hL : LV 0 Tryd.prog false (loopsOf g44_ground_inside_l0_c) [] := by unfold LV; cases loopsOf g44_ground_inside_l0_c <;> trivial
  exact loopT_valid (fuel := g44_ground_inside_l0_fuel) mixed g44_ground_inside_CV hL (by kernel_rfl) (by decide) rfl hb (fun s r h => h)
theorem g44_ground_inside_LV : LV 0 Tryd.prog false (loopsOf (bodyOf Tryd.f44)) [g44_ground_inside_l0_L] := by
  have hl : loopsOf (bodyOf Tryd.f44) = [.loop g44_ground_inside_l0_c] := by kernel_rfl
  rw [hl]; exact ⟨g44_ground_inside_l0_V, trivial⟩
theorem g44_ground_inside_ent : Ent Tryd.prog 44 := ⟨by decide, enters_of Tryd.func44 (by kernel_rfl) rfl⟩
theorem g44_ground_inside_hev : ∀ x, fnR Tryd.prog g44_ground_inside_C [g44_ground_inside_l0_L] Tryd.f44 (bodyOf Tryd.f44) (encs [.dat (.list (.int .i64)), .dat (.list T70), .fix (.func (.func 45) .nil .nil)] x) ⟨[], [], 0⟩ (frzF (.dat .bool)) = g44_ground_inside x.1 x.2.1 := by
  intro x; kernel_rfl
theorem g44_ground_inside_valid : g44_ground_inside_E.Valid Tryd.prog :=
  pureE_valid (by kernel_rfl) (by kernel_rfl) g44_ground_inside_ent (frz_lcall mixed Tryd.func44 rfl g44_ground_inside_ent g44_ground_inside_CV g44_ground_inside_LV (by kernel_rfl) (by kernel_rfl) g44_ground_inside_hev)

noncomputable def g47_ground_Play_2_C : CalT := tabC []
theorem g47_ground_Play_2_CV : CV Tryd.prog g47_ground_Play_2_C := tabC_valid trivial
noncomputable def g47_ground_Play_2 (a0 : E72) (b1 : E25) : Option (E23 × (E25 × Unit)) :=
  some (b1.2.1, (b1, ()))
abbrev g47_ground_Play_2_CS : CSpec := ⟨[.dat T72, .fix (.bptr 0 [])], [.dat T25], 0, [.dat T25], 0, .dat T23⟩
noncomputable def g47_ground_Play_2_E : CEnt := boxE 47 g47_ground_Play_2_CS fun x => g47_ground_Play_2 x.1.1 x.2.1
theorem g47_ground_Play_2_LV : LV 1 Tryd.prog false (loopsOf (bodyOf Tryd.f47)) [] := by unfold LV; cases loopsOf (bodyOf Tryd.f47) <;> trivial
theorem g47_ground_Play_2_ent : Ent Tryd.prog 47 := ⟨by decide, enters_of Tryd.func47 (by kernel_rfl) rfl⟩
theorem g47_ground_Play_2_hev : ∀ x : g47_ground_Play_2_CS.In, fnR Tryd.prog g47_ground_Play_2_C [] Tryd.f47 (bodyOf Tryd.f47) (encs g47_ground_Play_2_CS.A x.1) ⟨encs g47_ground_Play_2_CS.I x.2, [], g47_ground_Play_2_CS.nt⟩ (finK g47_ground_Play_2_CS) = g47_ground_Play_2 x.1.1 x.2.1 := by
  intro x; kernel_rfl
theorem g47_ground_Play_2_valid : g47_ground_Play_2_E.Valid Tryd.prog :=
  boxE_valid (S := g47_ground_Play_2_CS) (by kernel_rfl) (.inr g47_ground_Play_2_ent) (fn_lcall (S := g47_ground_Play_2_CS) mixed Tryd.func47 rfl g47_ground_Play_2_ent g47_ground_Play_2_CV g47_ground_Play_2_LV (by kernel_rfl) (by kernel_rfl) g47_ground_Play_2_hev)

noncomputable def g46_ground_inside_C : CalT := tabC [g47_ground_Play_2_E, g70_ground_in_E]
theorem g46_ground_inside_CV : CV Tryd.prog g46_ground_inside_C := tabC_valid ⟨g47_ground_Play_2_valid, g70_ground_in_valid, trivial⟩
noncomputable def g46_ground_inside_l0_S : SPat := ⟨[.any, .dat (.list T72), .fix (.func (.func 47) .nil (.cons (.bptr 0 []) .nil)), .any, .any, .any, .dat .bool, .any, .any, .any, .any, .any, .any, .any, .any, .dat (.list (.int .i64)), .dat (.int .i64), .dat (.int .i64), .any, .any, .any, .any, .any, .any, .any, .any, .any, .any, .any, .any, .any, .any, .any, .any, .any, .any], [.dat T25], 0⟩
noncomputable def g46_ground_inside_l0_step (s : (((List E72) × (Bool × ((List Int) × (Int × (Int × Unit))))) × (E25 × Unit))) : Option (Nat × (((List E72) × (Bool × ((List Int) × (Int × (Int × Unit))))) × (E25 × Unit))) :=
  (bif (decide (s.1.2.2.2.2.1 < s.1.2.2.2.1)) then
  (bif (decide (0 ≤ s.1.2.2.2.2.1) && decide (s.1.2.2.2.2.1 < (List.length s.1.2.2.1 : Int))) then
    (bif (decide (0 ≤ s.1.2.2.2.2.1) && decide (s.1.2.2.2.2.1 < (List.length s.1.1 : Int))) then
      (Option.bind (g47_ground_Play_2 (List.getD s.1.1 (Int.toNat s.1.2.2.2.2.1) ((0, (0, ())), ((0, (0, ())), ((0, (0, ())), ())))) s.2.1) fun r1 =>
        (Option.bind (g70_ground_in (List.getD s.1.2.2.1 (Int.toNat s.1.2.2.2.2.1) 0) r1.1.1 r1.1.2.1) fun r2 =>
          (bif (!r2) then
            some (1, ((s.1.1, (false, (s.1.2.2.1, (s.1.2.2.2.1, (s.1.2.2.2.2.1, ()))))), (r1.2.1, ())))
            else
            some (0, ((s.1.1, (s.1.2.1, (s.1.2.2.1, (s.1.2.2.2.1, ((IntKind.wrap .i64 (s.1.2.2.2.2.1 + 1)), ()))))), (r1.2.1, ()))))))
      else
      none)
    else
    none)
  else
  some (2, ((s.1.1, (s.1.2.1, (s.1.2.2.1, (s.1.2.2.2.1, (s.1.2.2.2.2.1, ()))))), (s.2.1, ()))))
noncomputable def g46_ground_inside_l0_fuel (s : (((List E72) × (Bool × ((List Int) × (Int × (Int × Unit))))) × (E25 × Unit))) : Nat := Int.toNat (s.1.2.2.2.1 - s.1.2.2.2.2.1) + 1
noncomputable def g46_ground_inside_l0_run (s : (((List E72) × (Bool × ((List Int) × (Int × (Int × Unit))))) × (E25 × Unit))) : Option (Nat × (((List E72) × (Bool × ((List Int) × (Int × (Int × Unit))))) × (E25 × Unit))) := iter g46_ground_inside_l0_step (g46_ground_inside_l0_fuel s) s
noncomputable def g46_ground_inside_l0_L : LoopT := loopT g46_ground_inside_l0_S [.ret, .exit 0] g46_ground_inside_l0_run
noncomputable def g46_ground_inside (a0 : (List Int)) (a1 : (List E72)) (b2 : E25) : Option (Bool × (E25 × Unit)) :=
  (bif ((List.length a0 : Int) != (List.length a1 : Int)) then
  some (false, (b2, ()))
  else
  (Option.bind (g46_ground_inside_l0_run ((a1, (false, (a0, ((List.length a0 : Int), (0, ()))))), (b2, ()))) fun q3 =>
    (natK q3.1
      (some (q3.2.1.2.1, (q3.2.2.1, ())))
      (fun _ => some (true, (q3.2.2.1, ()))))))
abbrev g46_ground_inside_CS : CSpec := ⟨[.dat (.list (.int .i64)), .dat (.list T72), .fix (.func (.func 47) .nil (.cons (.bptr 0 []) .nil))], [.dat T25], 0, [.dat T25], 0, .dat .bool⟩
noncomputable def g46_ground_inside_E : CEnt := boxE 46 g46_ground_inside_CS fun x => g46_ground_inside x.1.1 x.1.2.1 x.2.1
noncomputable def g46_ground_inside_l0_c : Code := loopAt (bodyOf Tryd.f46) 0
theorem g46_ground_inside_l0_V : LValid 1 Tryd.prog (.loop g46_ground_inside_l0_c) g46_ground_inside_l0_L false := by
  have hb : ∀ s, codeR Tryd.prog g46_ground_inside_C g46_ground_inside_l0_c [] (g46_ground_inside_l0_S.encE s) (g46_ground_inside_l0_S.encB s) (kst g46_ground_inside_l0_S [.ret, .exit 0]) = g46_ground_inside_l0_step s := by
    intro s; kernel_rfl
  have hL : LV 1 Tryd.prog false (loopsOf g46_ground_inside_l0_c) [] := by unfold LV; cases loopsOf g46_ground_inside_l0_c <;> trivial
  exact loopT_valid (fuel := g46_ground_inside_l0_fuel) mixed g46_ground_inside_CV hL (by kernel_rfl) (by decide) rfl hb (fun s r h => h)
theorem g46_ground_inside_LV : LV 1 Tryd.prog false (loopsOf (bodyOf Tryd.f46)) [g46_ground_inside_l0_L] := by
  have hl : loopsOf (bodyOf Tryd.f46) = [.loop g46_ground_inside_l0_c] := by kernel_rfl
  rw [hl]; exact ⟨g46_ground_inside_l0_V, trivial⟩
theorem g46_ground_inside_ent : Ent Tryd.prog 46 := ⟨by decide, enters_of Tryd.func46 (by kernel_rfl) rfl⟩
theorem g46_ground_inside_hev : ∀ x : g46_ground_inside_CS.In, fnR Tryd.prog g46_ground_inside_C [g46_ground_inside_l0_L] Tryd.f46 (bodyOf Tryd.f46) (encs g46_ground_inside_CS.A x.1) ⟨encs g46_ground_inside_CS.I x.2, [], g46_ground_inside_CS.nt⟩ (finK g46_ground_inside_CS) = g46_ground_inside x.1.1 x.1.2.1 x.2.1 := by
  intro x; kernel_rfl
theorem g46_ground_inside_valid : g46_ground_inside_E.Valid Tryd.prog :=
  boxE_valid (S := g46_ground_inside_CS) (by kernel_rfl) (.inr g46_ground_inside_ent) (fn_lcall (S := g46_ground_inside_CS) mixed Tryd.func46 rfl g46_ground_inside_ent g46_ground_inside_CV g46_ground_inside_LV (by kernel_rfl) (by kernel_rfl) g46_ground_inside_hev)

noncomputable def g48_ground_Play_3_C : CalT := tabC []
theorem g48_ground_Play_3_CV : CV Tryd.prog g48_ground_Play_3_C := tabC_valid trivial
noncomputable def g48_ground_Play_3 (a0 : E72) : Option E23 :=
  some a0.1
noncomputable def g48_ground_Play_3_E : CEnt := pureE 48 [.dat T72] (.dat T23) fun x => g48_ground_Play_3 x.1
theorem g48_ground_Play_3_LV : LV 0 Tryd.prog false (loopsOf (bodyOf Tryd.f48)) [] := by unfold LV; cases loopsOf (bodyOf Tryd.f48) <;> trivial
theorem g48_ground_Play_3_ent : Ent Tryd.prog 48 := ⟨by decide, enters_of Tryd.func48 (by kernel_rfl) rfl⟩
theorem g48_ground_Play_3_hev : ∀ x, fnR Tryd.prog g48_ground_Play_3_C [] Tryd.f48 (bodyOf Tryd.f48) (encs [.dat T72] x) ⟨[], [], 0⟩ (frzF (.dat T23)) = g48_ground_Play_3 x.1 := by
  intro x; kernel_rfl
theorem g48_ground_Play_3_valid : g48_ground_Play_3_E.Valid Tryd.prog :=
  pureE_valid (by kernel_rfl) (by kernel_rfl) g48_ground_Play_3_ent (frz_lcall mixed Tryd.func48 rfl g48_ground_Play_3_ent g48_ground_Play_3_CV g48_ground_Play_3_LV (by kernel_rfl) (by kernel_rfl) g48_ground_Play_3_hev)

noncomputable def g46_ground_inside_v1_C : CalT := tabC [g48_ground_Play_3_E, g70_ground_in_E]
theorem g46_ground_inside_v1_CV : CV Tryd.prog g46_ground_inside_v1_C := tabC_valid ⟨g48_ground_Play_3_valid, g70_ground_in_valid, trivial⟩
noncomputable def g46_ground_inside_v1_l0_S : SPat := ⟨[.any, .dat (.list T72), .fix (.func (.func 48) .nil .nil), .any, .any, .any, .dat .bool, .any, .any, .any, .any, .any, .any, .any, .any, .dat (.list (.int .i64)), .dat (.int .i64), .dat (.int .i64), .any, .any, .any, .any, .any, .any, .any, .any, .any, .any, .any, .any, .any, .any, .any, .any, .any, .any], [], 0⟩
noncomputable def g46_ground_inside_v1_l0_step (s : (((List E72) × (Bool × ((List Int) × (Int × (Int × Unit))))) × Unit)) : Option (Nat × (((List E72) × (Bool × ((List Int) × (Int × (Int × Unit))))) × Unit)) :=
  (bif (decide (s.1.2.2.2.2.1 < s.1.2.2.2.1)) then
  (bif (decide (0 ≤ s.1.2.2.2.2.1) && decide (s.1.2.2.2.2.1 < (List.length s.1.2.2.1 : Int))) then
    (bif (decide (0 ≤ s.1.2.2.2.2.1) && decide (s.1.2.2.2.2.1 < (List.length s.1.1 : Int))) then
      (Option.bind (g48_ground_Play_3 (List.getD s.1.1 (Int.toNat s.1.2.2.2.2.1) ((0, (0, ())), ((0, (0, ())), ((0, (0, ())), ()))))) fun r1 =>
        (Option.bind (g70_ground_in (List.getD s.1.2.2.1 (Int.toNat s.1.2.2.2.2.1) 0) r1.1 r1.2.1) fun r2 =>
          (bif (!r2) then
            some (1, ((s.1.1, (false, (s.1.2.2.1, (s.1.2.2.2.1, (s.1.2.2.2.2.1, ()))))), ()))
            else
            some (0, ((s.1.1, (s.1.2.1, (s.1.2.2.1, (s.1.2.2.2.1, ((IntKind.wrap .i64 (s.1.2.2.2.2.1 + 1)), ()))))), ())))))
      else
      none)
    else
    none)
  else
  some (2, ((s.1.1, (s.1.2.1, (s.1.2.2.1, (s.1.2.2.2.1, (s.1.2.2.2.2.1, ()))))), ())))
noncomputable def g46_ground_inside_v1_l0_fuel (s : (((List E72) × (Bool × ((List Int) × (Int × (Int × Unit))))) × Unit)) : Nat := Int.toNat (s.1.2.2.2.1 - s.1.2.2.2.2.1) + 1
noncomputable def g46_ground_inside_v1_l0_run (s : (((List E72) × (Bool × ((List Int) × (Int × (Int × Unit))))) × Unit)) : Option (Nat × (((List E72) × (Bool × ((List Int) × (Int × (Int × Unit))))) × Unit)) := iter g46_ground_inside_v1_l0_step (g46_ground_inside_v1_l0_fuel s) s
noncomputable def g46_ground_inside_v1_l0_L : LoopT := loopT g46_ground_inside_v1_l0_S [.ret, .exit 0] g46_ground_inside_v1_l0_run
noncomputable def g46_ground_inside_v1 (a0 : (List Int)) (a1 : (List E72)) : Option Bool :=
  (bif ((List.length a0 : Int) != (List.length a1 : Int)) then
  some false
  else
  (Option.bind (g46_ground_inside_v1_l0_run ((a1, (false, (a0, ((List.length a0 : Int), (0, ()))))), ())) fun q3 =>
    (natK q3.1
      (some q3.2.1.2.1)
      (fun _ => some true))))
noncomputable def g46_ground_inside_v1_E : CEnt := pureE 46 [.dat (.list (.int .i64)), .dat (.list T72), .fix (.func (.func 48) .nil .nil)] (.dat .bool) fun x => g46_ground_inside_v1 x.1 x.2.1
noncomputable def g46_ground_inside_v1_l0_c : Code := loopAt (bodyOf Tryd.f46) 0
theorem g46_ground_inside_v1_l0_V : LValid 0 Tryd.prog (.loop g46_ground_inside_v1_l0_c) g46_ground_inside_v1_l0_L false := by
  have hb : ∀ s, codeR Tryd.prog g46_ground_inside_v1_C g46_ground_inside_v1_l0_c [] (g46_ground_inside_v1_l0_S.encE s) (g46_ground_inside_v1_l0_S.encB s) (kst g46_ground_inside_v1_l0_S [.ret, .exit 0]) = g46_ground_inside_v1_l0_step s := by
    intro s; kernel_rfl
  have hL : LV 0 Tryd.prog false (loopsOf g46_ground_inside_v1_l0_c) [] := by unfold LV; cases loopsOf g46_ground_inside_v1_l0_c <;> trivial
  exact loopT_valid (fuel := g46_ground_inside_v1_l0_fuel) mixed g46_ground_inside_v1_CV hL (by kernel_rfl) (by decide) rfl hb (fun s r h => h)
theorem g46_ground_inside_v1_LV : LV 0 Tryd.prog false (loopsOf (bodyOf Tryd.f46)) [g46_ground_inside_v1_l0_L] := by
  have hl : loopsOf (bodyOf Tryd.f46) = [.loop g46_ground_inside_v1_l0_c] := by kernel_rfl
  rw [hl]; exact ⟨g46_ground_inside_v1_l0_V, trivial⟩
theorem g46_ground_inside_v1_ent : Ent Tryd.prog 46 := ⟨by decide, enters_of Tryd.func46 (by kernel_rfl) rfl⟩
theorem g46_ground_inside_v1_hev : ∀ x, fnR Tryd.prog g46_ground_inside_v1_C [g46_ground_inside_v1_l0_L] Tryd.f46 (bodyOf Tryd.f46) (encs [.dat (.list (.int .i64)), .dat (.list T72), .fix (.func (.func 48) .nil .nil)] x) ⟨[], [], 0⟩ (frzF (.dat .bool)) = g46_ground_inside_v1 x.1 x.2.1 := by
  intro x; kernel_rfl
theorem g46_ground_inside_v1_valid : g46_ground_inside_v1_E.Valid Tryd.prog :=
  pureE_valid (by kernel_rfl) (by kernel_rfl) g46_ground_inside_v1_ent (frz_lcall mixed Tryd.func46 rfl g46_ground_inside_v1_ent g46_ground_inside_v1_CV g46_ground_inside_v1_LV (by kernel_rfl) (by kernel_rfl) g46_ground_inside_v1_hev)

noncomputable def g49_ground_Play_4_C : CalT := tabC []
theorem g49_ground_Play_4_CV : CV Tryd.prog g49_ground_Play_4_C := tabC_valid trivial
noncomputable def g49_ground_Play_4 (a0 : E72) : Option E23 :=
  some a0.2.1
noncomputable def g49_ground_Play_4_E : CEnt := pureE 49 [.dat T72] (.dat T23) fun x => g49_ground_Play_4 x.1
theorem g49_ground_Play_4_LV : LV 0 Tryd.prog false (loopsOf (bodyOf Tryd.f49)) [] := by unfold LV; cases loopsOf (bodyOf Tryd.f49) <;> trivial
theorem g49_ground_Play_4_ent : Ent Tryd.prog 49 := ⟨by decide, enters_of Tryd.func49 (by kernel_rfl) rfl⟩
theorem g49_ground_Play_4_hev : ∀ x, fnR Tryd.prog g49_ground_Play_4_C [] Tryd.f49 (bodyOf Tryd.f49) (encs [.dat T72] x) ⟨[], [], 0⟩ (frzF (.dat T23)) = g49_ground_Play_4 x.1 := by
  intro x; kernel_rfl
theorem g49_ground_Play_4_valid : g49_ground_Play_4_E.Valid Tryd.prog :=
  pureE_valid (by kernel_rfl) (by kernel_rfl) g49_ground_Play_4_ent (frz_lcall mixed Tryd.func49 rfl g49_ground_Play_4_ent g49_ground_Play_4_CV g49_ground_Play_4_LV (by kernel_rfl) (by kernel_rfl) g49_ground_Play_4_hev)

noncomputable def g46_ground_inside_v2_C : CalT := tabC [g49_ground_Play_4_E, g70_ground_in_E]
theorem g46_ground_inside_v2_CV : CV Tryd.prog g46_ground_inside_v2_C := tabC_valid ⟨g49_ground_Play_4_valid, g70_ground_in_valid, trivial⟩
noncomputable def g46_ground_inside_v2_l0_S : SPat := ⟨[.any, .dat (.list T72), .fix (.func (.func 49) .nil .nil), .any, .any, .any, .dat .bool, .any, .any, .any, .any, .any, .any, .any, .any, .dat (.list (.int .i64)), .dat (.int .i64), .dat (.int .i64), .any, .any, .any, .any, .any, .any, .any, .any, .any, .any, .any, .any, .any, .any, .any, .any, .any, .any], [], 0⟩
noncomputable def g46_ground_inside_v2_l0_step (s : (((List E72) × (Bool × ((List Int) × (Int × (Int × Unit))))) × Unit)) : Option (Nat × (((List E72) × (Bool × ((List Int) × (Int × (Int × Unit))))) × Unit)) :=
  (bif (decide (s.1.2.2.2.2.1 < s.1.2.2.2.1)) then
  (bif (decide (0 ≤ s.1.2.2.2.2.1) && decide (s.1.2.2.2.2.1 < (List.length s.1.2.2.1 : Int))) then
    (bif (decide (0 ≤ s.1.2.2.2.2.1) && decide (s.1.2.2.2.2.1 < (List.length s.1.1 : Int))) then
      (Option.bind (g49_ground_Play_4 (List.getD s.1.1 (Int.toNat s.1.2.2.2.2.1) ((0, (0, ())), ((0, (0, ())), ((0, (0, ())), ()))))) fun r1 =>
        (Option.bind (g70_ground_in (List.getD s.1.2.2.1 (Int.toNat s.1.2.2.2.2.1) 0) r1.1 r1.2.1) fun r2 =>
          (bif (!r2) then
            some (1, ((s.1.1, (false, (s.1.2.2.1, (s.1.2.2.2.1, (s.1.2.2.2.2.1, ()))))), ()))
            else
            some (0, ((s.1.1, (s.1.2.1, (s.1.2.2.1, (s.1.2.2.2.1, ((IntKind.wrap .i64 (s.1.2.2.2.2.1 + 1)), ()))))), ())))))
      else
      none)
    else
    none)
  else
  some (2, ((s.1.1, (s.1.2.1, (s.1.2.2.1, (s.1.2.2.2.1, (s.1.2.2.2.2.1, ()))))), ())))
noncomputable def g46_ground_inside_v2_l0_fuel (s : (((List E72) × (Bool × ((List Int) × (Int × (Int × Unit))))) × Unit)) : Nat := Int.toNat (s.1.2.2.2.1 - s.1.2.2.2.2.1) + 1
noncomputable def g46_ground_inside_v2_l0_run (s : (((List E72) × (Bool × ((List Int) × (Int × (Int × Unit))))) × Unit)) : Option (Nat × (((List E72) × (Bool × ((List Int) × (Int × (Int × Unit))))) × Unit)) := iter g46_ground_inside_v2_l0_step (g46_ground_inside_v2_l0_fuel s) s
noncomputable def g46_ground_inside_v2_l0_L : LoopT := loopT g46_ground_inside_v2_l0_S [.ret, .exit 0] g46_ground_inside_v2_l0_run
noncomputable def g46_ground_inside_v2 (a0 : (List Int)) (a1 : (List E72)) : Option Bool :=
  (bif ((List.length a0 : Int) != (List.length a1 : Int)) then
  some false
  else
  (Option.bind (g46_ground_inside_v2_l0_run ((a1, (false, (a0, ((List.length a0 : Int), (0, ()))))), ())) fun q3 =>
    (natK q3.1
      (some q3.2.1.2.1)
      (fun _ => some true))))
noncomputable def g46_ground_inside_v2_E : CEnt := pureE 46 [.dat (.list (.int .i64)), .dat (.list T72), .fix (.func (.func 49) .nil .nil)] (.dat .bool) fun x => g46_ground_inside_v2 x.1 x.2.1
noncomputable def g46_ground_inside_v2_l0_c : Code := loopAt (bodyOf Tryd.f46) 0
theorem g46_ground_inside_v2_l0_V : LValid 0 Tryd.prog (.loop g46_ground_inside_v2_l0_c) g46_ground_inside_v2_l0_L false := by
  have hb : ∀ s, codeR Tryd.prog g46_ground_inside_v2_C g46_ground_inside_v2_l0_c [] (g46_ground_inside_v2_l0_S.encE s) (g46_ground_inside_v2_l0_S.encB s) (kst g46_ground_inside_v2_l0_S [.ret, .exit 0]) = g46_ground_inside_v2_l0_step s := by
    intro s; kernel_rfl
  have hL : LV 0 Tryd.prog false (loopsOf g46_ground_inside_v2_l0_c) [] := by unfold LV; cases loopsOf g46_ground_inside_v2_l0_c <;> trivial
  exact loopT_valid (fuel := g46_ground_inside_v2_l0_fuel) mixed g46_ground_inside_v2_CV hL (by kernel_rfl) (by decide) rfl hb (fun s r h => h)
theorem g46_ground_inside_v2_LV : LV 0 Tryd.prog false (loopsOf (bodyOf Tryd.f46)) [g46_ground_inside_v2_l0_L] := by
  have hl : loopsOf (bodyOf Tryd.f46) = [.loop g46_ground_inside_v2_l0_c] := by kernel_rfl
  rw [hl]; exact ⟨g46_ground_inside_v2_l0_V, trivial⟩
theorem g46_ground_inside_v2_ent : Ent Tryd.prog 46 := ⟨by decide, enters_of Tryd.func46 (by kernel_rfl) rfl⟩
theorem g46_ground_inside_v2_hev : ∀ x, fnR Tryd.prog g46_ground_inside_v2_C [g46_ground_inside_v2_l0_L] Tryd.f46 (bodyOf Tryd.f46) (encs [.dat (.list (.int .i64)), .dat (.list T72), .fix (.func (.func 49) .nil .nil)] x) ⟨[], [], 0⟩ (frzF (.dat .bool)) = g46_ground_inside_v2 x.1 x.2.1 := by
  intro x; kernel_rfl
theorem g46_ground_inside_v2_valid : g46_ground_inside_v2_E.Valid Tryd.prog :=
  pureE_valid (by kernel_rfl) (by kernel_rfl) g46_ground_inside_v2_ent (frz_lcall mixed Tryd.func46 rfl g46_ground_inside_v2_ent g46_ground_inside_v2_CV g46_ground_inside_v2_LV (by kernel_rfl) (by kernel_rfl) g46_ground_inside_v2_hev)

noncomputable def g50_ground_Play_5_C : CalT := tabC []
theorem g50_ground_Play_5_CV : CV Tryd.prog g50_ground_Play_5_C := tabC_valid trivial
noncomputable def g50_ground_Play_5 (a0 : E72) : Option E23 :=
  some a0.2.2.1
noncomputable def g50_ground_Play_5_E : CEnt := pureE 50 [.dat T72] (.dat T23) fun x => g50_ground_Play_5 x.1
theorem g50_ground_Play_5_LV : LV 0 Tryd.prog false (loopsOf (bodyOf Tryd.f50)) [] := by unfold LV; cases loopsOf (bodyOf Tryd.f50) <;> trivial
theorem g50_ground_Play_5_ent : Ent Tryd.prog 50 := ⟨by decide, enters_of Tryd.func50 (by kernel_rfl) rfl⟩
theorem g50_ground_Play_5_hev : ∀ x, fnR Tryd.prog g50_ground_Play_5_C [] Tryd.f50 (bodyOf Tryd.f50) (encs [.dat T72] x) ⟨[], [], 0⟩ (frzF (.dat T23)) = g50_ground_Play_5 x.1 := by
  intro x; kernel_rfl
theorem g50_ground_Play_5_valid : g50_ground_Play_5_E.Valid Tryd.prog :=
  pureE_valid (by kernel_rfl) (by kernel_rfl) g50_ground_Play_5_ent (frz_lcall mixed Tryd.func50 rfl g50_ground_Play_5_ent g50_ground_Play_5_CV g50_ground_Play_5_LV (by kernel_rfl) (by kernel_rfl) g50_ground_Play_5_hev)

noncomputable def g46_ground_inside_v3_C : CalT := tabC [g50_ground_Play_5_E, g70_ground_in_E]
theorem g46_ground_inside_v3_CV : CV Tryd.prog g46_ground_inside_v3_C := tabC_valid ⟨g50_ground_Play_5_valid, g70_ground_in_valid, trivial⟩
noncomputable def g46_ground_inside_v3_l0_S : SPat := ⟨[.any, .dat (.list T72), .fix (.func (.func 50) .nil .nil), .any, .any, .any, .dat .bool, .any, .any, .any, .any, .any, .any, .any, .any, .dat (.list (.int .i64)), .dat (.int .i64), .dat (.int .i64), .any, .any, .any, .any, .any, .any, .any, .any, .any, .any, .any, .any, .any, .any, .any, .any, .any, .any], [], 0⟩
noncomputable def g46_ground_inside_v3_l0_step (s : (((List E72) × (Bool × ((List Int) × (Int × (Int × Unit))))) × Unit)) : Option (Nat × (((List E72) × (Bool × ((List Int) × (Int × (Int × Unit))))) × Unit)) :=
  (bif (decide (s.1.2.2.2.2.1 < s.1.2.2.2.1)) then
  (bif (decide (0 ≤ s.1.2.2.2.2.1) && decide (s.1.2.2.2.2.1 < (List.length s.1.2.2.1 : Int))) then
    (bif (decide (0 ≤ s.1.2.2.2.2.1) && decide (s.1.2.2.2.2.1 < (List.length s.1.1 : Int))) then
      (Option.bind (g50_ground_Play_5 (List.getD s.1.1 (Int.toNat s.1.2.2.2.2.1) ((0, (0, ())), ((0, (0, ())), ((0, (0, ())), ()))))) fun r1 =>
        (Option.bind (g70_ground_in (List.getD s.1.2.2.1 (Int.toNat s.1.2.2.2.2.1) 0) r1.1 r1.2.1) fun r2 =>
          (bif (!r2) then
            some (1, ((s.1.1, (false, (s.1.2.2.1, (s.1.2.2.2.1, (s.1.2.2.2.2.1, ()))))), ()))
            else
            some (0, ((s.1.1, (s.1.2.1, (s.1.2.2.1, (s.1.2.2.2.1, ((IntKind.wrap .i64 (s.1.2.2.2.2.1 + 1)), ()))))), ())))))
      else
      none)
    else
    none)
  else
  some (2, ((s.1.1, (s.1.2.1, (s.1.2.2.1, (s.1.2.2.2.1, (s.1.2.2.2.2.1, ()))))), ())))
noncomputable def g46_ground_inside_v3_l0_fuel (s : (((List E72) × (Bool × ((List Int) × (Int × (Int × Unit))))) × Unit)) : Nat := Int.toNat (s.1.2.2.2.1 - s.1.2.2.2.2.1) + 1
noncomputable def g46_ground_inside_v3_l0_run (s : (((List E72) × (Bool × ((List Int) × (Int × (Int × Unit))))) × Unit)) : Option (Nat × (((List E72) × (Bool × ((List Int) × (Int × (Int × Unit))))) × Unit)) := iter g46_ground_inside_v3_l0_step (g46_ground_inside_v3_l0_fuel s) s
noncomputable def g46_ground_inside_v3_l0_L : LoopT := loopT g46_ground_inside_v3_l0_S [.ret, .exit 0] g46_ground_inside_v3_l0_run
noncomputable def g46_ground_inside_v3 (a0 : (List Int)) (a1 : (List E72)) : Option Bool :=
  (bif ((List.length a0 : Int) != (List.length a1 : Int)) then
  some false
  else
  (Option.bind (g46_ground_inside_v3_l0_run ((a1, (false, (a0, ((List.length a0 : Int), (0, ()))))), ())) fun q3 =>
    (natK q3.1
      (some q3.2.1.2.1)
      (fun _ => some true))))
noncomputable def g46_ground_inside_v3_E : CEnt := pureE 46 [.dat (.list (.int .i64)), .dat (.list T72), .fix (.func (.func 50) .nil .nil)] (.dat .bool) fun x => g46_ground_inside_v3 x.1 x.2.1
noncomputable def g46_ground_inside_v3_l0_c : Code := loopAt (bodyOf Tryd.f46) 0
theorem g46_ground_inside_v3_l0_V : LValid 0 Tryd.prog (.loop g46_ground_inside_v3_l0_c) g46_ground_inside_v3_l0_L false := by
  have hb : ∀ s, codeR Tryd.prog g46_ground_inside_v3_C g46_ground_inside_v3_l0_c [] (g46_ground_inside_v3_l0_S.encE s) (g46_ground_inside_v3_l0_S.encB s) (kst g46_ground_inside_v3_l0_S [.ret, .exit 0]) = g46_ground_inside_v3_l0_step s := by
    intro s; kernel_rfl
  have hL : LV 0 Tryd.prog false (loopsOf g46_ground_inside_v3_l0_c) [] := by unfold LV; cases loopsOf g46_ground_inside_v3_l0_c <;> trivial
  exact loopT_valid (fuel := g46_ground_inside_v3_l0_fuel) mixed g46_ground_inside_v3_CV hL (by kernel_rfl) (by decide) rfl hb (fun s r h => h)
theorem g46_ground_inside_v3_LV : LV 0 Tryd.prog false (loopsOf (bodyOf Tryd.f46)) [g46_ground_inside_v3_l0_L] := by
  have hl : loopsOf (bodyOf Tryd.f46) = [.loop g46_ground_inside_v3_l0_c] := by kernel_rfl
  rw [hl]; exact ⟨g46_ground_inside_v3_l0_V, trivial⟩
theorem g46_ground_inside_v3_ent : Ent Tryd.prog 46 := ⟨by decide, enters_of Tryd.func46 (by kernel_rfl) rfl⟩
theorem g46_ground_inside_v3_hev : ∀ x, fnR Tryd.prog g46_ground_inside_v3_C [g46_ground_inside_v3_l0_L] Tryd.f46 (bodyOf Tryd.f46) (encs [.dat (.list (.int .i64)), .dat (.list T72), .fix (.func (.func 50) .nil .nil)] x) ⟨[], [], 0⟩ (frzF (.dat .bool)) = g46_ground_inside_v3 x.1 x.2.1 := by
  intro x; kernel_rfl
theorem g46_ground_inside_v3_valid : g46_ground_inside_v3_E.Valid Tryd.prog :=
  pureE_valid (by kernel_rfl) (by kernel_rfl) g46_ground_inside_v3_ent (frz_lcall mixed Tryd.func46 rfl g46_ground_inside_v3_ent g46_ground_inside_v3_CV g46_ground_inside_v3_LV (by kernel_rfl) (by kernel_rfl) g46_ground_inside_v3_hev)

noncomputable def g16_ground_Play_C : CalT := tabC [g44_ground_inside_E, g46_ground_inside_E, g46_ground_inside_v1_E, g46_ground_inside_v2_E, g46_ground_inside_v3_E, g51_ground_given_E, g52_ground_followed_run_E]
theorem g16_ground_Play_CV : CV Tryd.prog g16_ground_Play_C := tabC_valid ⟨g44_ground_inside_valid, g46_ground_inside_valid, g46_ground_inside_v1_valid, g46_ground_inside_v2_valid, g46_ground_inside_v3_valid, g51_ground_given_valid, g52_ground_followed_run_valid, trivial⟩
noncomputable def g16_ground_Play (a0 : E25) (a1 : (List E72)) (a2 : E29) : Option ((List Int) × (E34 × (Int × Unit))) :=
  (Option.bind (g44_ground_inside a2.1 a0.1) fun r1 =>
  (bif r1 then
    (Option.bind (g46_ground_inside a2.2.1 a1 a0) fun r2 =>
      (bif r2.1 then
        (Option.bind (g46_ground_inside_v1 a2.2.2.1 a1) fun r3 =>
          (bif r3 then
            (Option.bind (g46_ground_inside_v2 a2.2.2.2.1 a1) fun r4 =>
              (bif r4 then
                (Option.bind (g46_ground_inside_v3 a2.2.2.2.2.1 a1) fun r5 =>
                  (Option.bind (g51_ground_given r2.2.1 a1 r5) fun r6 =>
                    (bif (r6 != 0) then
                      some ([], ((0, (0, (0, ()))), (r6, ())))
                      else
                      (Option.bind (g52_ground_followed_run (r2.2.1, ((a2.1, (a2.2.1, (a2.2.2.1, (a2.2.2.2.1, (a2.2.2.2.2.1, ()))))), (0, (0, (0, (0, ([], ([], ((0, (0, (0, ()))), ())))))))))) fun r7 =>
                        some (r7.2.1.2.2.2.2.2.2.1, ((r7.2.1.2.2.2.2.2.2.2.2.1.1, (r7.2.1.2.2.2.2.2.2.2.2.1.2.1, (r7.2.1.2.2.2.2.2.2.2.2.1.2.2.1, ()))), (0, ())))))))
                else
                (Option.bind (g51_ground_given r2.2.1 a1 false) fun r8 =>
                  (bif (r8 != 0) then
                    some ([], ((0, (0, (0, ()))), (r8, ())))
                    else
                    (Option.bind (g52_ground_followed_run (r2.2.1, ((a2.1, (a2.2.1, (a2.2.2.1, (a2.2.2.2.1, (a2.2.2.2.2.1, ()))))), (0, (0, (0, (0, ([], ([], ((0, (0, (0, ()))), ())))))))))) fun r9 =>
                      some (r9.2.1.2.2.2.2.2.2.1, ((r9.2.1.2.2.2.2.2.2.2.2.1.1, (r9.2.1.2.2.2.2.2.2.2.2.1.2.1, (r9.2.1.2.2.2.2.2.2.2.2.1.2.2.1, ()))), (0, ()))))))))
            else
            (Option.bind (g51_ground_given r2.2.1 a1 false) fun r10 =>
              (bif (r10 != 0) then
                some ([], ((0, (0, (0, ()))), (r10, ())))
                else
                (Option.bind (g52_ground_followed_run (r2.2.1, ((a2.1, (a2.2.1, (a2.2.2.1, (a2.2.2.2.1, (a2.2.2.2.2.1, ()))))), (0, (0, (0, (0, ([], ([], ((0, (0, (0, ()))), ())))))))))) fun r11 =>
                  some (r11.2.1.2.2.2.2.2.2.1, ((r11.2.1.2.2.2.2.2.2.2.2.1.1, (r11.2.1.2.2.2.2.2.2.2.2.1.2.1, (r11.2.1.2.2.2.2.2.2.2.2.1.2.2.1, ()))), (0, ()))))))))
        else
        (Option.bind (g51_ground_given r2.2.1 a1 false) fun r12 =>
          (bif (r12 != 0) then
            some ([], ((0, (0, (0, ()))), (r12, ())))
            else
            (Option.bind (g52_ground_followed_run (r2.2.1, ((a2.1, (a2.2.1, (a2.2.2.1, (a2.2.2.2.1, (a2.2.2.2.2.1, ()))))), (0, (0, (0, (0, ([], ([], ((0, (0, (0, ()))), ())))))))))) fun r13 =>
              some (r13.2.1.2.2.2.2.2.2.1, ((r13.2.1.2.2.2.2.2.2.2.2.1.1, (r13.2.1.2.2.2.2.2.2.2.2.1.2.1, (r13.2.1.2.2.2.2.2.2.2.2.1.2.2.1, ()))), (0, ()))))))))
    else
    (Option.bind (g51_ground_given a0 a1 false) fun r14 =>
      (bif (r14 != 0) then
        some ([], ((0, (0, (0, ()))), (r14, ())))
        else
        (Option.bind (g52_ground_followed_run (a0, ((a2.1, (a2.2.1, (a2.2.2.1, (a2.2.2.2.1, (a2.2.2.2.2.1, ()))))), (0, (0, (0, (0, ([], ([], ((0, (0, (0, ()))), ())))))))))) fun r15 =>
          some (r15.2.1.2.2.2.2.2.2.1, ((r15.2.1.2.2.2.2.2.2.2.2.1.1, (r15.2.1.2.2.2.2.2.2.2.2.1.2.1, (r15.2.1.2.2.2.2.2.2.2.2.1.2.2.1, ()))), (0, ()))))))))
noncomputable def g16_ground_Play_E : CEnt := pureE 16 [.dat T25, .dat (.list T72), .dat T29] (.tup (.cons (.dat (.list (.int .i64))) (.cons (.dat T34) (.cons (.dat (.int .i64)) (.nil))))) fun x => g16_ground_Play x.1 x.2.1 x.2.2.1
theorem g16_ground_Play_LV : LV 0 Tryd.prog false (loopsOf (bodyOf Tryd.f16)) [] := by unfold LV; cases loopsOf (bodyOf Tryd.f16) <;> trivial
theorem g16_ground_Play_ent : Ent Tryd.prog 16 := ⟨by decide, enters_of Tryd.func16 (by kernel_rfl) rfl⟩
theorem g16_ground_Play_hev : ∀ x, fnR Tryd.prog g16_ground_Play_C [] Tryd.f16 (bodyOf Tryd.f16) (encs [.dat T25, .dat (.list T72), .dat T29] x) ⟨[], [], 0⟩ (frzF (.tup (.cons (.dat (.list (.int .i64))) (.cons (.dat T34) (.cons (.dat (.int .i64)) (.nil)))))) = g16_ground_Play x.1 x.2.1 x.2.2.1 := by
  intro x; kernel_rfl
theorem g16_ground_Play_valid : g16_ground_Play_E.Valid Tryd.prog :=
  pureE_valid (by kernel_rfl) (by kernel_rfl) g16_ground_Play_ent (frz_lcall mixed Tryd.func16 rfl g16_ground_Play_ent g16_ground_Play_CV g16_ground_Play_LV (by kernel_rfl) (by kernel_rfl) g16_ground_Play_hev)

noncomputable def g60_ground_asked_C : CalT := tabC [g70_ground_in_E]
theorem g60_ground_asked_CV : CV Tryd.prog g60_ground_asked_C := tabC_valid ⟨g70_ground_in_valid, trivial⟩
noncomputable def g60_ground_asked (a0 : Int) : Option Bool :=
  (Option.bind (g70_ground_in a0 0 2000000) fun r1 =>
  some r1)
noncomputable def g60_ground_asked_E : CEnt := pureE 60 [.dat (.int .i64)] (.dat .bool) fun x => g60_ground_asked x.1
theorem g60_ground_asked_LV : LV 0 Tryd.prog false (loopsOf (bodyOf Tryd.f60)) [] := by unfold LV; cases loopsOf (bodyOf Tryd.f60) <;> trivial
theorem g60_ground_asked_ent : Ent Tryd.prog 60 := ⟨by decide, enters_of Tryd.func60 (by kernel_rfl) rfl⟩
theorem g60_ground_asked_hev : ∀ x, fnR Tryd.prog g60_ground_asked_C [] Tryd.f60 (bodyOf Tryd.f60) (encs [.dat (.int .i64)] x) ⟨[], [], 0⟩ (frzF (.dat .bool)) = g60_ground_asked x.1 := by
  intro x; kernel_rfl
theorem g60_ground_asked_valid : g60_ground_asked_E.Valid Tryd.prog :=
  pureE_valid (by kernel_rfl) (by kernel_rfl) g60_ground_asked_ent (frz_lcall mixed Tryd.func60 rfl g60_ground_asked_ent g60_ground_asked_CV g60_ground_asked_LV (by kernel_rfl) (by kernel_rfl) g60_ground_asked_hev)

noncomputable def g80_ground_first_1_C : CalT := tabC []
theorem g80_ground_first_1_CV : CV Tryd.prog g80_ground_first_1_C := tabC_valid trivial
noncomputable def g80_ground_first_1 (a0 : Int) (b1 : Int) : Option (Bool × (Int × Unit)) :=
  some ((decide (a0 > b1)), (b1, ()))
abbrev g80_ground_first_1_CS : CSpec := ⟨[.dat (.int .i64), .fix (.bptr 0 [])], [.dat (.int .i64)], 0, [.dat (.int .i64)], 0, .dat .bool⟩
noncomputable def g80_ground_first_1_E : CEnt := boxE 80 g80_ground_first_1_CS fun x => g80_ground_first_1 x.1.1 x.2.1
theorem g80_ground_first_1_LV : LV 1 Tryd.prog false (loopsOf (bodyOf Tryd.f80)) [] := by unfold LV; cases loopsOf (bodyOf Tryd.f80) <;> trivial
theorem g80_ground_first_1_ent : Ent Tryd.prog 80 := ⟨by decide, enters_of Tryd.func80 (by kernel_rfl) rfl⟩
theorem g80_ground_first_1_hev : ∀ x : g80_ground_first_1_CS.In, fnR Tryd.prog g80_ground_first_1_C [] Tryd.f80 (bodyOf Tryd.f80) (encs g80_ground_first_1_CS.A x.1) ⟨encs g80_ground_first_1_CS.I x.2, [], g80_ground_first_1_CS.nt⟩ (finK g80_ground_first_1_CS) = g80_ground_first_1 x.1.1 x.2.1 := by
  intro x; kernel_rfl
theorem g80_ground_first_1_valid : g80_ground_first_1_E.Valid Tryd.prog :=
  boxE_valid (S := g80_ground_first_1_CS) (by kernel_rfl) (.inr g80_ground_first_1_ent) (fn_lcall (S := g80_ground_first_1_CS) mixed Tryd.func80 rfl g80_ground_first_1_ent g80_ground_first_1_CV g80_ground_first_1_LV (by kernel_rfl) (by kernel_rfl) g80_ground_first_1_hev)

noncomputable def g79_slices_IndexFunc_C : CalT := tabC [g80_ground_first_1_E]
theorem g79_slices_IndexFunc_CV : CV Tryd.prog g79_slices_IndexFunc_C := tabC_valid ⟨g80_ground_first_1_valid, trivial⟩
noncomputable def g79_slices_IndexFunc_l0_S : SPat := ⟨[.dat (.list (.int .i64)), .fix (.func (.func 80) .nil (.cons (.bptr 0 []) .nil)), .any, .any, .dat (.int .i64), .any, .any, .dat (.int .i64), .dat (.int .i64), .any, .any, .any, .any, .any, .any, .any, .any, .any, .any], [.dat (.int .i64)], 0⟩
noncomputable def g79_slices_IndexFunc_l0_step (s : (((List Int) × (Int × (Int × (Int × Unit)))) × (Int × Unit))) : Option (Nat × (((List Int) × (Int × (Int × (Int × Unit)))) × (Int × Unit))) :=
  (bif (decide (s.1.2.2.2.1 < s.1.2.2.1)) then
  (bif (decide (0 ≤ s.1.2.2.2.1) && decide (s.1.2.2.2.1 < (List.length s.1.1 : Int))) then
    (Option.bind (g80_ground_first_1 (List.getD s.1.1 (Int.toNat s.1.2.2.2.1) 0) s.2.1) fun r1 =>
      (bif r1.1 then
        some (1, ((s.1.1, (s.1.2.2.2.1, (s.1.2.2.1, (s.1.2.2.2.1, ())))), (r1.2.1, ())))
        else
        some (0, ((s.1.1, (s.1.2.1, (s.1.2.2.1, ((IntKind.wrap .i64 (s.1.2.2.2.1 + 1)), ())))), (r1.2.1, ())))))
    else
    none)
  else
  some (2, ((s.1.1, (s.1.2.1, (s.1.2.2.1, (s.1.2.2.2.1, ())))), (s.2.1, ()))))
noncomputable def g79_slices_IndexFunc_l0_fuel (s : (((List Int) × (Int × (Int × (Int × Unit)))) × (Int × Unit))) : Nat := Int.toNat (s.1.2.2.1 - s.1.2.2.2.1) + 1
noncomputable def g79_slices_IndexFunc_l0_run (s : (((List Int) × (Int × (Int × (Int × Unit)))) × (Int × Unit))) : Option (Nat × (((List Int) × (Int × (Int × (Int × Unit)))) × (Int × Unit))) := iter g79_slices_IndexFunc_l0_step (g79_slices_IndexFunc_l0_fuel s) s
noncomputable def g79_slices_IndexFunc_l0_L : LoopT := loopT g79_slices_IndexFunc_l0_S [.ret, .exit 0] g79_slices_IndexFunc_l0_run
noncomputable def g79_slices_IndexFunc (a0 : (List Int)) (b1 : Int) : Option (Int × (Int × Unit)) :=
  (Option.bind (g79_slices_IndexFunc_l0_run ((a0, (0, ((List.length a0 : Int), (0, ())))), (b1, ()))) fun q2 =>
  (natK q2.1
    (some (q2.2.1.2.1, (q2.2.2.1, ())))
    (fun _ => some ((-1), (q2.2.2.1, ())))))
abbrev g79_slices_IndexFunc_CS : CSpec := ⟨[.dat (.list (.int .i64)), .fix (.func (.func 80) .nil (.cons (.bptr 0 []) .nil))], [.dat (.int .i64)], 0, [.dat (.int .i64)], 0, .dat (.int .i64)⟩
noncomputable def g79_slices_IndexFunc_E : CEnt := boxE 79 g79_slices_IndexFunc_CS fun x => g79_slices_IndexFunc x.1.1 x.2.1
noncomputable def g79_slices_IndexFunc_l0_c : Code := loopAt (bodyOf Tryd.f79) 0
theorem g79_slices_IndexFunc_l0_V : LValid 1 Tryd.prog (.loop g79_slices_IndexFunc_l0_c) g79_slices_IndexFunc_l0_L false := by
  have hb : ∀ s, codeR Tryd.prog g79_slices_IndexFunc_C g79_slices_IndexFunc_l0_c [] (g79_slices_IndexFunc_l0_S.encE s) (g79_slices_IndexFunc_l0_S.encB s) (kst g79_slices_IndexFunc_l0_S [.ret, .exit 0]) = g79_slices_IndexFunc_l0_step s := by
    intro s; kernel_rfl
  have hL : LV 1 Tryd.prog false (loopsOf g79_slices_IndexFunc_l0_c) [] := by unfold LV; cases loopsOf g79_slices_IndexFunc_l0_c <;> trivial
  exact loopT_valid (fuel := g79_slices_IndexFunc_l0_fuel) mixed g79_slices_IndexFunc_CV hL (by kernel_rfl) (by decide) rfl hb (fun s r h => h)
theorem g79_slices_IndexFunc_LV : LV 1 Tryd.prog false (loopsOf (bodyOf Tryd.f79)) [g79_slices_IndexFunc_l0_L] := by
  have hl : loopsOf (bodyOf Tryd.f79) = [.loop g79_slices_IndexFunc_l0_c] := by kernel_rfl
  rw [hl]; exact ⟨g79_slices_IndexFunc_l0_V, trivial⟩
theorem g79_slices_IndexFunc_ent : Ent Tryd.prog 79 := ⟨by decide, enters_of Tryd.func79 (by kernel_rfl) rfl⟩
theorem g79_slices_IndexFunc_hev : ∀ x : g79_slices_IndexFunc_CS.In, fnR Tryd.prog g79_slices_IndexFunc_C [g79_slices_IndexFunc_l0_L] Tryd.f79 (bodyOf Tryd.f79) (encs g79_slices_IndexFunc_CS.A x.1) ⟨encs g79_slices_IndexFunc_CS.I x.2, [], g79_slices_IndexFunc_CS.nt⟩ (finK g79_slices_IndexFunc_CS) = g79_slices_IndexFunc x.1.1 x.2.1 := by
  intro x; kernel_rfl
theorem g79_slices_IndexFunc_valid : g79_slices_IndexFunc_E.Valid Tryd.prog :=
  boxE_valid (S := g79_slices_IndexFunc_CS) (by kernel_rfl) (.inr g79_slices_IndexFunc_ent) (fn_lcall (S := g79_slices_IndexFunc_CS) mixed Tryd.func79 rfl g79_slices_IndexFunc_ent g79_slices_IndexFunc_CV g79_slices_IndexFunc_LV (by kernel_rfl) (by kernel_rfl) g79_slices_IndexFunc_hev)

noncomputable def g61_ground_first_C : CalT := tabC [g79_slices_IndexFunc_E]
theorem g61_ground_first_CV : CV Tryd.prog g61_ground_first_C := tabC_valid ⟨g79_slices_IndexFunc_valid, trivial⟩
noncomputable def g61_ground_first (a0 : (List Int)) (a1 : Int) : Option Int :=
  (Option.bind (g79_slices_IndexFunc a0 a1) fun r1 =>
  (bif (decide (r1.1 ≥ 0)) then
    some r1.1
    else
    some (List.length a0 : Int)))
noncomputable def g61_ground_first_E : CEnt := pureE 61 [.dat (.list (.int .i64)), .dat (.int .i64)] (.dat (.int .i64)) fun x => g61_ground_first x.1 x.2.1
theorem g61_ground_first_LV : LV 0 Tryd.prog false (loopsOf (bodyOf Tryd.f61)) [] := by unfold LV; cases loopsOf (bodyOf Tryd.f61) <;> trivial
theorem g61_ground_first_ent : Ent Tryd.prog 61 := ⟨by decide, enters_of Tryd.func61 (by kernel_rfl) rfl⟩
theorem g61_ground_first_hev : ∀ x, fnR Tryd.prog g61_ground_first_C [] Tryd.f61 (bodyOf Tryd.f61) (encs [.dat (.list (.int .i64)), .dat (.int .i64)] x) ⟨[], [], 0⟩ (frzF (.dat (.int .i64))) = g61_ground_first x.1 x.2.1 := by
  intro x; kernel_rfl
theorem g61_ground_first_valid : g61_ground_first_E.Valid Tryd.prog :=
  pureE_valid (by kernel_rfl) (by kernel_rfl) g61_ground_first_ent (frz_lcall mixed Tryd.func61 rfl g61_ground_first_ent g61_ground_first_CV g61_ground_first_LV (by kernel_rfl) (by kernel_rfl) g61_ground_first_hev)

noncomputable def g27_ground_Exceeds_C : CalT := tabC [g60_ground_asked_E, g51_ground_given_E, g58_ground_deepest_E, g61_ground_first_E, g57_ground_least_E]
theorem g27_ground_Exceeds_CV : CV Tryd.prog g27_ground_Exceeds_C := tabC_valid ⟨g60_ground_asked_valid, g51_ground_given_valid, g58_ground_deepest_valid, g61_ground_first_valid, g57_ground_least_valid, trivial⟩
noncomputable def g27_ground_Exceeds (a0 : E25) (a1 : (List E72)) (a2 : Int) : Option (Int × (Int × (Int × Unit))) :=
  (Option.bind (g60_ground_asked a2) fun r1 =>
  (Option.bind (g51_ground_given a0 a1 r1) fun r2 =>
    (bif (r2 != 0) then
      some (0, (0, (r2, ())))
      else
      (Option.bind (g58_ground_deepest a0 a1 0) fun r3 =>
        (Option.bind (g61_ground_first r3.2.2.2.2.2.2.1 a2) fun r4 =>
          (Option.bind (g57_ground_least a0 a1) fun r5 =>
            (Option.bind (g61_ground_first r5.2.2.2.2.2.2.1 a2) fun r6 =>
              some (r4, (r6, (0, ()))))))))))
noncomputable def g27_ground_Exceeds_E : CEnt := pureE 27 [.dat T25, .dat (.list T72), .dat (.int .i64)] (.tup (.cons (.dat (.int .i64)) (.cons (.dat (.int .i64)) (.cons (.dat (.int .i64)) (.nil))))) fun x => g27_ground_Exceeds x.1 x.2.1 x.2.2.1
theorem g27_ground_Exceeds_LV : LV 0 Tryd.prog false (loopsOf (bodyOf Tryd.f27)) [] := by unfold LV; cases loopsOf (bodyOf Tryd.f27) <;> trivial
theorem g27_ground_Exceeds_ent : Ent Tryd.prog 27 := ⟨by decide, enters_of Tryd.func27 (by kernel_rfl) rfl⟩
theorem g27_ground_Exceeds_hev : ∀ x, fnR Tryd.prog g27_ground_Exceeds_C [] Tryd.f27 (bodyOf Tryd.f27) (encs [.dat T25, .dat (.list T72), .dat (.int .i64)] x) ⟨[], [], 0⟩ (frzF (.tup (.cons (.dat (.int .i64)) (.cons (.dat (.int .i64)) (.cons (.dat (.int .i64)) (.nil)))))) = g27_ground_Exceeds x.1 x.2.1 x.2.2.1 := by
  intro x; kernel_rfl
theorem g27_ground_Exceeds_valid : g27_ground_Exceeds_E.Valid Tryd.prog :=
  pureE_valid (by kernel_rfl) (by kernel_rfl) g27_ground_Exceeds_ent (frz_lcall mixed Tryd.func27 rfl g27_ground_Exceeds_ent g27_ground_Exceeds_CV g27_ground_Exceeds_LV (by kernel_rfl) (by kernel_rfl) g27_ground_Exceeds_hev)

noncomputable def g62_ground_Allow_1_C : CalT := tabC [g58_ground_deepest_E, g61_ground_first_E]
theorem g62_ground_Allow_1_CV : CV Tryd.prog g62_ground_Allow_1_C := tabC_valid ⟨g58_ground_deepest_valid, g61_ground_first_valid, trivial⟩
noncomputable def g62_ground_Allow_1 (a0 : Int) (b1 : E25) (b2 : (List E72)) (b3 : Int) : Option (Bool × (E25 × ((List E72) × (Int × Unit)))) :=
  (Option.bind (g58_ground_deepest (b1.1, ((a0, (a0, ())), b1.2.2)) b2 0) fun r1 =>
  (Option.bind (g61_ground_first r1.2.2.2.2.2.2.1 b3) fun r2 =>
    some ((decide (r2 < (List.length b2 : Int))), (b1, (b2, (b3, ()))))))
abbrev g62_ground_Allow_1_CS : CSpec := ⟨[.dat (.int .i64), .fix (.bptr 0 []), .fix (.bptr 1 []), .fix (.bptr 2 [])], [.dat T25, .dat (.list T72), .dat (.int .i64)], 0, [.dat T25, .dat (.list T72), .dat (.int .i64)], 0, .dat .bool⟩
noncomputable def g62_ground_Allow_1_E : CEnt := boxE 62 g62_ground_Allow_1_CS fun x => g62_ground_Allow_1 x.1.1 x.2.1 x.2.2.1 x.2.2.2.1
theorem g62_ground_Allow_1_LV : LV 3 Tryd.prog false (loopsOf (bodyOf Tryd.f62)) [] := by unfold LV; cases loopsOf (bodyOf Tryd.f62) <;> trivial
theorem g62_ground_Allow_1_ent : Ent Tryd.prog 62 := ⟨by decide, enters_of Tryd.func62 (by kernel_rfl) rfl⟩
theorem g62_ground_Allow_1_hev : ∀ x : g62_ground_Allow_1_CS.In, fnR Tryd.prog g62_ground_Allow_1_C [] Tryd.f62 (bodyOf Tryd.f62) (encs g62_ground_Allow_1_CS.A x.1) ⟨encs g62_ground_Allow_1_CS.I x.2, [], g62_ground_Allow_1_CS.nt⟩ (finK g62_ground_Allow_1_CS) = g62_ground_Allow_1 x.1.1 x.2.1 x.2.2.1 x.2.2.2.1 := by
  intro x; kernel_rfl
theorem g62_ground_Allow_1_valid : g62_ground_Allow_1_E.Valid Tryd.prog :=
  boxE_valid (S := g62_ground_Allow_1_CS) (by kernel_rfl) (.inr g62_ground_Allow_1_ent) (fn_lcall (S := g62_ground_Allow_1_CS) mixed Tryd.func62 rfl g62_ground_Allow_1_ent g62_ground_Allow_1_CV g62_ground_Allow_1_LV (by kernel_rfl) (by kernel_rfl) g62_ground_Allow_1_hev)

noncomputable def g81_ground_search_1_C : CalT := tabC [g62_ground_Allow_1_E]
theorem g81_ground_search_1_CV : CV Tryd.prog g81_ground_search_1_C := tabC_valid ⟨g62_ground_Allow_1_valid, trivial⟩
noncomputable def g81_ground_search_1 (a0 : Int) (b1 : (List (Int × Bool))) (b2 : E25) (b3 : (List E72)) (b4 : Int) : Option (Bool × ((List (Int × Bool)) × (E25 × ((List E72) × (Int × Unit))))) :=
  (bif (!(Option.isSome (findD (.int .i64) a0 b1))) then
  (Option.bind (g62_ground_Allow_1 a0 b2 b3 b4) fun r1 =>
    some (r1.1, ((putD (.int .i64) a0 r1.1 b1), (r1.2.1, (r1.2.2.1, (r1.2.2.2.1, ()))))))
  else
  some ((Option.getD (findD (.int .i64) a0 b1) false), (b1, (b2, (b3, (b4, ()))))))
abbrev g81_ground_search_1_CS : CSpec := ⟨[.dat (.int .i64), .fix (.bptr 0 []), .fix (.bptr 1 [])], [.fix (.mref 2), .fix (.func (.func 62) .nil (.cons (.bptr 3 []) (.cons (.bptr 4 []) (.cons (.bptr 5 []) .nil)))), .map (.int .i64) .bool, .dat T25, .dat (.list T72), .dat (.int .i64)], 0, [.fix (.mref 2), .fix (.func (.func 62) .nil (.cons (.bptr 3 []) (.cons (.bptr 4 []) (.cons (.bptr 5 []) .nil)))), .map (.int .i64) .bool, .dat T25, .dat (.list T72), .dat (.int .i64)], 0, .dat .bool⟩
noncomputable def g81_ground_search_1_E : CEnt := boxE 81 g81_ground_search_1_CS fun x => g81_ground_search_1 x.1.1 x.2.1 x.2.2.1 x.2.2.2.1 x.2.2.2.2.1
theorem g81_ground_search_1_LV : LV 6 Tryd.prog false (loopsOf (bodyOf Tryd.f81)) [] := by unfold LV; cases loopsOf (bodyOf Tryd.f81) <;> trivial
theorem g81_ground_search_1_ent : Ent Tryd.prog 81 := ⟨by decide, enters_of Tryd.func81 (by kernel_rfl) rfl⟩
theorem g81_ground_search_1_hev : ∀ x : g81_ground_search_1_CS.In, fnR Tryd.prog g81_ground_search_1_C [] Tryd.f81 (bodyOf Tryd.f81) (encs g81_ground_search_1_CS.A x.1) ⟨encs g81_ground_search_1_CS.I x.2, [], g81_ground_search_1_CS.nt⟩ (finK g81_ground_search_1_CS) = g81_ground_search_1 x.1.1 x.2.1 x.2.2.1 x.2.2.2.1 x.2.2.2.2.1 := by
  intro x; kernel_rfl
theorem g81_ground_search_1_valid : g81_ground_search_1_E.Valid Tryd.prog :=
  boxE_valid (S := g81_ground_search_1_CS) (by kernel_rfl) (.inr g81_ground_search_1_ent) (fn_lcall (S := g81_ground_search_1_CS) mixed Tryd.func81 rfl g81_ground_search_1_ent g81_ground_search_1_CV g81_ground_search_1_LV (by kernel_rfl) (by kernel_rfl) g81_ground_search_1_hev)

noncomputable def g63_ground_search_C : CalT := tabC [g81_ground_search_1_E]
theorem g63_ground_search_CV : CV Tryd.prog g63_ground_search_C := tabC_valid ⟨g81_ground_search_1_valid, trivial⟩
noncomputable def g63_ground_search_l0_S : SPat := ⟨[.dat (.int .i64), .dat (.int .i64), .any, .any, .any, .any, .any, .any, .any, .fix (.func (.func 81) .nil (.cons (.bptr 5 []) (.cons (.bptr 3 []) .nil))), .any, .any, .any, .any, .any, .any, .any, .any, .any, .any, .any, .any, .any, .any, .any, .any, .any, .any, .any, .any, .any, .any], [.dat T25, .dat (.list T72), .dat (.int .i64), .fix (.func (.func 62) .nil (.cons (.bptr 0 []) (.cons (.bptr 1 []) (.cons (.bptr 2 []) .nil)))), .map (.int .i64) .bool, .fix (.mref 4)], 0⟩
noncomputable def g63_ground_search_l0_step (s : ((Int × (Int × Unit)) × (E25 × ((List E72) × (Int × ((List (Int × Bool)) × Unit)))))) : Option (Nat × ((Int × (Int × Unit)) × (E25 × ((List E72) × (Int × ((List (Int × Bool)) × Unit)))))) :=
  (bif (decide (s.1.1 ≥ s.1.2.1)) then
  some (1, ((s.1.1, (s.1.2.1, ())), (s.2.1, (s.2.2.1, (s.2.2.2.1, (s.2.2.2.2.1, ()))))))
  else
  (Option.bind (g81_ground_search_1 (IntKind.wrap .i64 (s.1.1 + (IntKind.wrap .i64 (Int.tdiv (IntKind.wrap .i64 (s.1.2.1 - s.1.1)) 2)))) s.2.2.2.2.1 s.2.1 s.2.2.1 s.2.2.2.1) fun r1 =>
    (bif r1.1 then
      some (0, ((s.1.1, ((IntKind.wrap .i64 (s.1.1 + (IntKind.wrap .i64 (Int.tdiv (IntKind.wrap .i64 (s.1.2.1 - s.1.1)) 2)))), ())), (r1.2.2.1, (r1.2.2.2.1, (r1.2.2.2.2.1, (r1.2.1, ()))))))
      else
      some (0, (((IntKind.wrap .i64 ((IntKind.wrap .i64 (s.1.1 + (IntKind.wrap .i64 (Int.tdiv (IntKind.wrap .i64 (s.1.2.1 - s.1.1)) 2)))) + 1)), (s.1.2.1, ())), (r1.2.2.1, (r1.2.2.2.1, (r1.2.2.2.2.1, (r1.2.1, ())))))))))
noncomputable def g63_ground_search_l0_fuel (s : ((Int × (Int × Unit)) × (E25 × ((List E72) × (Int × ((List (Int × Bool)) × Unit)))))) : Nat := 100000
noncomputable def g63_ground_search_l0_run (s : ((Int × (Int × Unit)) × (E25 × ((List E72) × (Int × ((List (Int × Bool)) × Unit)))))) : Option (Nat × ((Int × (Int × Unit)) × (E25 × ((List E72) × (Int × ((List (Int × Bool)) × Unit)))))) := iter g63_ground_search_l0_step (g63_ground_search_l0_fuel s) s
noncomputable def g63_ground_search_l0_L : LoopT := loopT g63_ground_search_l0_S [.exit 0] g63_ground_search_l0_run
noncomputable def g63_ground_search (a0 : Int) (a1 : Int) (b2 : E25) (b3 : (List E72)) (b4 : Int) : Option ((Int × (Bool × Unit)) × (E25 × ((List E72) × (Int × Unit)))) :=
  (Option.bind (g63_ground_search_l0_run ((a0, (a1, ())), (b2, (b3, (b4, (([] : List (Int × Bool)), ())))))) fun q2 =>
  (Option.bind (g81_ground_search_1 q2.2.1.1 q2.2.2.2.2.2.1 q2.2.2.1 q2.2.2.2.1 q2.2.2.2.2.1) fun r3 =>
    some ((q2.2.1.1, (r3.1, ())), (r3.2.2.1, (r3.2.2.2.1, (r3.2.2.2.2.1, ()))))))
abbrev g63_ground_search_CS : CSpec := ⟨[.dat (.int .i64), .dat (.int .i64), .fix (.func (.func 62) .nil (.cons (.bptr 0 []) (.cons (.bptr 1 []) (.cons (.bptr 2 []) .nil))))], [.dat T25, .dat (.list T72), .dat (.int .i64)], 0, [.dat T25, .dat (.list T72), .dat (.int .i64)], 0, .tup (.cons (.dat (.int .i64)) (.cons (.dat .bool) (.nil)))⟩
noncomputable def g63_ground_search_E : CEnt := boxE 63 g63_ground_search_CS fun x => g63_ground_search x.1.1 x.1.2.1 x.2.1 x.2.2.1 x.2.2.2.1
noncomputable def g63_ground_search_l0_c : Code := loopAt (bodyOf Tryd.f63) 0
theorem g63_ground_search_l0_V : LValid 3 Tryd.prog (.loop g63_ground_search_l0_c) g63_ground_search_l0_L false := by
  have hb : ∀ s, codeR Tryd.prog g63_ground_search_C g63_ground_search_l0_c [] (g63_ground_search_l0_S.encE s) (g63_ground_search_l0_S.encB s) (kst g63_ground_search_l0_S [.exit 0]) = g63_ground_search_l0_step s := by
    intro s; kernel_rfl
  have hL : LV 3 Tryd.prog false (loopsOf g63_ground_search_l0_c) [] := by unfold LV; cases loopsOf g63_ground_search_l0_c <;> trivial
  exact loopT_valid (fuel := g63_ground_search_l0_fuel) mixed g63_ground_search_CV hL (by kernel_rfl) (by decide) rfl hb (fun s r h => h)
theorem g63_ground_search_LV : LV 3 Tryd.prog false (loopsOf (bodyOf Tryd.f63)) [g63_ground_search_l0_L] := by
  have hl : loopsOf (bodyOf Tryd.f63) = [.loop g63_ground_search_l0_c] := by kernel_rfl
  rw [hl]; exact ⟨g63_ground_search_l0_V, trivial⟩
theorem g63_ground_search_ent : Ent Tryd.prog 63 := ⟨by decide, enters_of Tryd.func63 (by kernel_rfl) rfl⟩
theorem g63_ground_search_hev : ∀ x : g63_ground_search_CS.In, fnR Tryd.prog g63_ground_search_C [g63_ground_search_l0_L] Tryd.f63 (bodyOf Tryd.f63) (encs g63_ground_search_CS.A x.1) ⟨encs g63_ground_search_CS.I x.2, [], g63_ground_search_CS.nt⟩ (finK g63_ground_search_CS) = g63_ground_search x.1.1 x.1.2.1 x.2.1 x.2.2.1 x.2.2.2.1 := by
  intro x; kernel_rfl
theorem g63_ground_search_valid : g63_ground_search_E.Valid Tryd.prog :=
  boxE_valid (S := g63_ground_search_CS) (by kernel_rfl) (.inr g63_ground_search_ent) (fn_lcall (S := g63_ground_search_CS) mixed Tryd.func63 rfl g63_ground_search_ent g63_ground_search_CV g63_ground_search_LV (by kernel_rfl) (by kernel_rfl) g63_ground_search_hev)

noncomputable def g29_ground_Allow_C : CalT := tabC [g60_ground_asked_E, g51_ground_given_E, g63_ground_search_E]
theorem g29_ground_Allow_CV : CV Tryd.prog g29_ground_Allow_C := tabC_valid ⟨g60_ground_asked_valid, g51_ground_given_valid, g63_ground_search_valid, trivial⟩
noncomputable def g29_ground_Allow (a0 : E25) (a1 : (List E72)) (a2 : Int) : Option (Int × (Int × Unit)) :=
  (Option.bind (g60_ground_asked a2) fun r1 =>
  (Option.bind (g51_ground_given a0 a1 r1) fun r2 =>
    (bif (r2 != 0) then
      some (0, (r2, ()))
      else
      (Option.bind (g63_ground_search 0 1000000 a0 a1 a2) fun r3 =>
        (bif (!r3.1.2.1) then
          some (1000000, (0, ()))
          else
          (bif (r3.1.1 == 0) then
            some (0, (5, ()))
            else
            some ((IntKind.wrap .i64 (r3.1.1 - 1)), (0, ()))))))))
noncomputable def g29_ground_Allow_E : CEnt := pureE 29 [.dat T25, .dat (.list T72), .dat (.int .i64)] (.tup (.cons (.dat (.int .i64)) (.cons (.dat (.int .i64)) (.nil)))) fun x => g29_ground_Allow x.1 x.2.1 x.2.2.1
theorem g29_ground_Allow_LV : LV 0 Tryd.prog false (loopsOf (bodyOf Tryd.f29)) [] := by unfold LV; cases loopsOf (bodyOf Tryd.f29) <;> trivial
theorem g29_ground_Allow_ent : Ent Tryd.prog 29 := ⟨by decide, enters_of Tryd.func29 (by kernel_rfl) rfl⟩
theorem g29_ground_Allow_hev : ∀ x, fnR Tryd.prog g29_ground_Allow_C [] Tryd.f29 (bodyOf Tryd.f29) (encs [.dat T25, .dat (.list T72), .dat (.int .i64)] x) ⟨[], [], 0⟩ (frzF (.tup (.cons (.dat (.int .i64)) (.cons (.dat (.int .i64)) (.nil))))) = g29_ground_Allow x.1 x.2.1 x.2.2.1 := by
  intro x; kernel_rfl
theorem g29_ground_Allow_valid : g29_ground_Allow_E.Valid Tryd.prog :=
  pureE_valid (by kernel_rfl) (by kernel_rfl) g29_ground_Allow_ent (frz_lcall mixed Tryd.func29 rfl g29_ground_Allow_ent g29_ground_Allow_CV g29_ground_Allow_LV (by kernel_rfl) (by kernel_rfl) g29_ground_Allow_hev)

noncomputable def g64_ground_Need_1_C : CalT := tabC [g58_ground_deepest_E, g61_ground_first_E]
theorem g64_ground_Need_1_CV : CV Tryd.prog g64_ground_Need_1_C := tabC_valid ⟨g58_ground_deepest_valid, g61_ground_first_valid, trivial⟩
noncomputable def g64_ground_Need_1 (a0 : Int) (b1 : E25) (b2 : (List E72)) (b3 : Int) : Option (Bool × (E25 × ((List E72) × (Int × Unit)))) :=
  (Option.bind (g58_ground_deepest b1 b2 a0) fun r1 =>
  (Option.bind (g61_ground_first r1.2.2.2.2.2.2.1 b3) fun r2 =>
    some ((r2 == (List.length b2 : Int)), (b1, (b2, (b3, ()))))))
abbrev g64_ground_Need_1_CS : CSpec := ⟨[.dat (.int .i64), .fix (.bptr 0 []), .fix (.bptr 1 []), .fix (.bptr 2 [])], [.dat T25, .dat (.list T72), .dat (.int .i64)], 0, [.dat T25, .dat (.list T72), .dat (.int .i64)], 0, .dat .bool⟩
noncomputable def g64_ground_Need_1_E : CEnt := boxE 64 g64_ground_Need_1_CS fun x => g64_ground_Need_1 x.1.1 x.2.1 x.2.2.1 x.2.2.2.1
theorem g64_ground_Need_1_LV : LV 3 Tryd.prog false (loopsOf (bodyOf Tryd.f64)) [] := by unfold LV; cases loopsOf (bodyOf Tryd.f64) <;> trivial
theorem g64_ground_Need_1_ent : Ent Tryd.prog 64 := ⟨by decide, enters_of Tryd.func64 (by kernel_rfl) rfl⟩
theorem g64_ground_Need_1_hev : ∀ x : g64_ground_Need_1_CS.In, fnR Tryd.prog g64_ground_Need_1_C [] Tryd.f64 (bodyOf Tryd.f64) (encs g64_ground_Need_1_CS.A x.1) ⟨encs g64_ground_Need_1_CS.I x.2, [], g64_ground_Need_1_CS.nt⟩ (finK g64_ground_Need_1_CS) = g64_ground_Need_1 x.1.1 x.2.1 x.2.2.1 x.2.2.2.1 := by
  intro x; kernel_rfl
theorem g64_ground_Need_1_valid : g64_ground_Need_1_E.Valid Tryd.prog :=
  boxE_valid (S := g64_ground_Need_1_CS) (by kernel_rfl) (.inr g64_ground_Need_1_ent) (fn_lcall (S := g64_ground_Need_1_CS) mixed Tryd.func64 rfl g64_ground_Need_1_ent g64_ground_Need_1_CV g64_ground_Need_1_LV (by kernel_rfl) (by kernel_rfl) g64_ground_Need_1_hev)

noncomputable def g81_ground_search_1_v1_C : CalT := tabC [g64_ground_Need_1_E]
theorem g81_ground_search_1_v1_CV : CV Tryd.prog g81_ground_search_1_v1_C := tabC_valid ⟨g64_ground_Need_1_valid, trivial⟩
noncomputable def g81_ground_search_1_v1 (a0 : Int) (b1 : (List (Int × Bool))) (b2 : E25) (b3 : (List E72)) (b4 : Int) : Option (Bool × ((List (Int × Bool)) × (E25 × ((List E72) × (Int × Unit))))) :=
  (bif (!(Option.isSome (findD (.int .i64) a0 b1))) then
  (Option.bind (g64_ground_Need_1 a0 b2 b3 b4) fun r1 =>
    some (r1.1, ((putD (.int .i64) a0 r1.1 b1), (r1.2.1, (r1.2.2.1, (r1.2.2.2.1, ()))))))
  else
  some ((Option.getD (findD (.int .i64) a0 b1) false), (b1, (b2, (b3, (b4, ()))))))
abbrev g81_ground_search_1_v1_CS : CSpec := ⟨[.dat (.int .i64), .fix (.bptr 0 []), .fix (.bptr 1 [])], [.fix (.mref 2), .fix (.func (.func 64) .nil (.cons (.bptr 3 []) (.cons (.bptr 4 []) (.cons (.bptr 5 []) .nil)))), .map (.int .i64) .bool, .dat T25, .dat (.list T72), .dat (.int .i64)], 0, [.fix (.mref 2), .fix (.func (.func 64) .nil (.cons (.bptr 3 []) (.cons (.bptr 4 []) (.cons (.bptr 5 []) .nil)))), .map (.int .i64) .bool, .dat T25, .dat (.list T72), .dat (.int .i64)], 0, .dat .bool⟩
noncomputable def g81_ground_search_1_v1_E : CEnt := boxE 81 g81_ground_search_1_v1_CS fun x => g81_ground_search_1_v1 x.1.1 x.2.1 x.2.2.1 x.2.2.2.1 x.2.2.2.2.1
theorem g81_ground_search_1_v1_LV : LV 6 Tryd.prog false (loopsOf (bodyOf Tryd.f81)) [] := by unfold LV; cases loopsOf (bodyOf Tryd.f81) <;> trivial
theorem g81_ground_search_1_v1_ent : Ent Tryd.prog 81 := ⟨by decide, enters_of Tryd.func81 (by kernel_rfl) rfl⟩
theorem g81_ground_search_1_v1_hev : ∀ x : g81_ground_search_1_v1_CS.In, fnR Tryd.prog g81_ground_search_1_v1_C [] Tryd.f81 (bodyOf Tryd.f81) (encs g81_ground_search_1_v1_CS.A x.1) ⟨encs g81_ground_search_1_v1_CS.I x.2, [], g81_ground_search_1_v1_CS.nt⟩ (finK g81_ground_search_1_v1_CS) = g81_ground_search_1_v1 x.1.1 x.2.1 x.2.2.1 x.2.2.2.1 x.2.2.2.2.1 := by
  intro x; kernel_rfl
theorem g81_ground_search_1_v1_valid : g81_ground_search_1_v1_E.Valid Tryd.prog :=
  boxE_valid (S := g81_ground_search_1_v1_CS) (by kernel_rfl) (.inr g81_ground_search_1_v1_ent) (fn_lcall (S := g81_ground_search_1_v1_CS) mixed Tryd.func81 rfl g81_ground_search_1_v1_ent g81_ground_search_1_v1_CV g81_ground_search_1_v1_LV (by kernel_rfl) (by kernel_rfl) g81_ground_search_1_v1_hev)

noncomputable def g63_ground_search_v1_C : CalT := tabC [g81_ground_search_1_v1_E]
theorem g63_ground_search_v1_CV : CV Tryd.prog g63_ground_search_v1_C := tabC_valid ⟨g81_ground_search_1_v1_valid, trivial⟩
noncomputable def g63_ground_search_v1_l0_S : SPat := ⟨[.dat (.int .i64), .dat (.int .i64), .any, .any, .any, .any, .any, .any, .any, .fix (.func (.func 81) .nil (.cons (.bptr 5 []) (.cons (.bptr 3 []) .nil))), .any, .any, .any, .any, .any, .any, .any, .any, .any, .any, .any, .any, .any, .any, .any, .any, .any, .any, .any, .any, .any, .any], [.dat T25, .dat (.list T72), .dat (.int .i64), .fix (.func (.func 64) .nil (.cons (.bptr 0 []) (.cons (.bptr 1 []) (.cons (.bptr 2 []) .nil)))), .map (.int .i64) .bool, .fix (.mref 4)], 0⟩
noncomputable def g63_ground_search_v1_l0_step (s : ((Int × (Int × Unit)) × (E25 × ((List E72) × (Int × ((List (Int × Bool)) × Unit)))))) : Option (Nat × ((Int × (Int × Unit)) × (E25 × ((List E72) × (Int × ((List (Int × Bool)) × Unit)))))) :=
  (bif (decide (s.1.1 ≥ s.1.2.1)) then
  some (1, ((s.1.1, (s.1.2.1, ())), (s.2.1, (s.2.2.1, (s.2.2.2.1, (s.2.2.2.2.1, ()))))))
  else
  (Option.bind (g81_ground_search_1_v1 (IntKind.wrap .i64 (s.1.1 + (IntKind.wrap .i64 (Int.tdiv (IntKind.wrap .i64 (s.1.2.1 - s.1.1)) 2)))) s.2.2.2.2.1 s.2.1 s.2.2.1 s.2.2.2.1) fun r1 =>
    (bif r1.1 then
      some (0, ((s.1.1, ((IntKind.wrap .i64 (s.1.1 + (IntKind.wrap .i64 (Int.tdiv (IntKind.wrap .i64 (s.1.2.1 - s.1.1)) 2)))), ())), (r1.2.2.1, (r1.2.2.2.1, (r1.2.2.2.2.1, (r1.2.1, ()))))))
      else
      some (0, (((IntKind.wrap .i64 ((IntKind.wrap .i64 (s.1.1 + (IntKind.wrap .i64 (Int.tdiv (IntKind.wrap .i64 (s.1.2.1 - s.1.1)) 2)))) + 1)), (s.1.2.1, ())), (r1.2.2.1, (r1.2.2.2.1, (r1.2.2.2.2.1, (r1.2.1, ())))))))))
noncomputable def g63_ground_search_v1_l0_fuel (s : ((Int × (Int × Unit)) × (E25 × ((List E72) × (Int × ((List (Int × Bool)) × Unit)))))) : Nat := 100000
noncomputable def g63_ground_search_v1_l0_run (s : ((Int × (Int × Unit)) × (E25 × ((List E72) × (Int × ((List (Int × Bool)) × Unit)))))) : Option (Nat × ((Int × (Int × Unit)) × (E25 × ((List E72) × (Int × ((List (Int × Bool)) × Unit)))))) := iter g63_ground_search_v1_l0_step (g63_ground_search_v1_l0_fuel s) s
noncomputable def g63_ground_search_v1_l0_L : LoopT := loopT g63_ground_search_v1_l0_S [.exit 0] g63_ground_search_v1_l0_run
noncomputable def g63_ground_search_v1 (a0 : Int) (a1 : Int) (b2 : E25) (b3 : (List E72)) (b4 : Int) : Option ((Int × (Bool × Unit)) × (E25 × ((List E72) × (Int × Unit)))) :=
  (Option.bind (g63_ground_search_v1_l0_run ((a0, (a1, ())), (b2, (b3, (b4, (([] : List (Int × Bool)), ())))))) fun q2 =>
  (Option.bind (g81_ground_search_1_v1 q2.2.1.1 q2.2.2.2.2.2.1 q2.2.2.1 q2.2.2.2.1 q2.2.2.2.2.1) fun r3 =>
    some ((q2.2.1.1, (r3.1, ())), (r3.2.2.1, (r3.2.2.2.1, (r3.2.2.2.2.1, ()))))))
abbrev g63_ground_search_v1_CS : CSpec := ⟨[.dat (.int .i64), .dat (.int .i64), .fix (.func (.func 64) .nil (.cons (.bptr 0 []) (.cons (.bptr 1 []) (.cons (.bptr 2 []) .nil))))], [.dat T25, .dat (.list T72), .dat (.int .i64)], 0, [.dat T25, .dat (.list T72), .dat (.int .i64)], 0, .tup (.cons (.dat (.int .i64)) (.cons (.dat .bool) (.nil)))⟩
noncomputable def g63_ground_search_v1_E : CEnt := boxE 63 g63_ground_search_v1_CS fun x => g63_ground_search_v1 x.1.1 x.1.2.1 x.2.1 x.2.2.1 x.2.2.2.1
noncomputable def g63_ground_search_v1_l0_c : Code := loopAt (bodyOf Tryd.f63) 0
theorem g63_ground_search_v1_l0_V : LValid 3 Tryd.prog (.loop g63_ground_search_v1_l0_c) g63_ground_search_v1_l0_L false := by
  have hb : ∀ s, codeR Tryd.prog g63_ground_search_v1_C g63_ground_search_v1_l0_c [] (g63_ground_search_v1_l0_S.encE s) (g63_ground_search_v1_l0_S.encB s) (kst g63_ground_search_v1_l0_S [.exit 0]) = g63_ground_search_v1_l0_step s := by
    intro s; kernel_rfl
  have hL : LV 3 Tryd.prog false (loopsOf g63_ground_search_v1_l0_c) [] := by unfold LV; cases loopsOf g63_ground_search_v1_l0_c <;> trivial
  exact loopT_valid (fuel := g63_ground_search_v1_l0_fuel) mixed g63_ground_search_v1_CV hL (by kernel_rfl) (by decide) rfl hb (fun s r h => h)
theorem g63_ground_search_v1_LV : LV 3 Tryd.prog false (loopsOf (bodyOf Tryd.f63)) [g63_ground_search_v1_l0_L] := by
  have hl : loopsOf (bodyOf Tryd.f63) = [.loop g63_ground_search_v1_l0_c] := by kernel_rfl
  rw [hl]; exact ⟨g63_ground_search_v1_l0_V, trivial⟩
theorem g63_ground_search_v1_ent : Ent Tryd.prog 63 := ⟨by decide, enters_of Tryd.func63 (by kernel_rfl) rfl⟩
theorem g63_ground_search_v1_hev : ∀ x : g63_ground_search_v1_CS.In, fnR Tryd.prog g63_ground_search_v1_C [g63_ground_search_v1_l0_L] Tryd.f63 (bodyOf Tryd.f63) (encs g63_ground_search_v1_CS.A x.1) ⟨encs g63_ground_search_v1_CS.I x.2, [], g63_ground_search_v1_CS.nt⟩ (finK g63_ground_search_v1_CS) = g63_ground_search_v1 x.1.1 x.1.2.1 x.2.1 x.2.2.1 x.2.2.2.1 := by
  intro x; kernel_rfl
theorem g63_ground_search_v1_valid : g63_ground_search_v1_E.Valid Tryd.prog :=
  boxE_valid (S := g63_ground_search_v1_CS) (by kernel_rfl) (.inr g63_ground_search_v1_ent) (fn_lcall (S := g63_ground_search_v1_CS) mixed Tryd.func63 rfl g63_ground_search_v1_ent g63_ground_search_v1_CV g63_ground_search_v1_LV (by kernel_rfl) (by kernel_rfl) g63_ground_search_v1_hev)

noncomputable def g30_ground_Need_C : CalT := tabC [g60_ground_asked_E, g51_ground_given_E, g63_ground_search_v1_E]
theorem g30_ground_Need_CV : CV Tryd.prog g30_ground_Need_C := tabC_valid ⟨g60_ground_asked_valid, g51_ground_given_valid, g63_ground_search_v1_valid, trivial⟩
noncomputable def g30_ground_Need (a0 : E25) (a1 : (List E72)) (a2 : Int) : Option (Int × (Int × Unit)) :=
  (Option.bind (g60_ground_asked a2) fun r1 =>
  (Option.bind (g51_ground_given a0 a1 r1) fun r2 =>
    (bif (r2 != 0) then
      some (0, (r2, ()))
      else
      (Option.bind (g63_ground_search_v1 0 1000000 a0 a1 a2) fun r3 =>
        (bif (!r3.1.2.1) then
          some (0, (5, ()))
          else
          some (r3.1.1, (0, ())))))))
noncomputable def g30_ground_Need_E : CEnt := pureE 30 [.dat T25, .dat (.list T72), .dat (.int .i64)] (.tup (.cons (.dat (.int .i64)) (.cons (.dat (.int .i64)) (.nil)))) fun x => g30_ground_Need x.1 x.2.1 x.2.2.1
theorem g30_ground_Need_LV : LV 0 Tryd.prog false (loopsOf (bodyOf Tryd.f30)) [] := by unfold LV; cases loopsOf (bodyOf Tryd.f30) <;> trivial
theorem g30_ground_Need_ent : Ent Tryd.prog 30 := ⟨by decide, enters_of Tryd.func30 (by kernel_rfl) rfl⟩
theorem g30_ground_Need_hev : ∀ x, fnR Tryd.prog g30_ground_Need_C [] Tryd.f30 (bodyOf Tryd.f30) (encs [.dat T25, .dat (.list T72), .dat (.int .i64)] x) ⟨[], [], 0⟩ (frzF (.tup (.cons (.dat (.int .i64)) (.cons (.dat (.int .i64)) (.nil))))) = g30_ground_Need x.1 x.2.1 x.2.2.1 := by
  intro x; kernel_rfl
theorem g30_ground_Need_valid : g30_ground_Need_E.Valid Tryd.prog :=
  pureE_valid (by kernel_rfl) (by kernel_rfl) g30_ground_Need_ent (frz_lcall mixed Tryd.func30 rfl g30_ground_Need_ent g30_ground_Need_CV g30_ground_Need_LV (by kernel_rfl) (by kernel_rfl) g30_ground_Need_hev)

noncomputable def g68_ground_line_C : CalT := tabC [itoaM_E]
theorem g68_ground_line_CV : CV Tryd.prog g68_ground_line_C := tabC_valid ⟨itoaM_valid, trivial⟩
noncomputable def g68_ground_line_l0_S : SPat := ⟨[.dat .str, .any, .any, .any, .any, .any, .any, .dat (.list (.int .i64)), .dat (.int .i64), .dat (.int .i64), .any, .any, .any, .any, .any, .any, .any, .any, .any, .any, .any], [], 0⟩
noncomputable def g68_ground_line_l0_step (s : ((ByteArray × ((List Int) × (Int × (Int × Unit)))) × Unit)) : Option (Nat × ((ByteArray × ((List Int) × (Int × (Int × Unit)))) × Unit)) :=
  (bif (decide (s.1.2.2.2.1 < s.1.2.2.1)) then
  (bif (decide (0 ≤ s.1.2.2.2.1) && decide (s.1.2.2.2.1 < (List.length s.1.2.1 : Int))) then
    (Option.bind (itoaM (List.getD s.1.2.1 (Int.toNat s.1.2.2.2.1) 0)) fun r1 =>
      (bif (decide (ByteArray.size (⟨#[32]⟩ : ByteArray) + ByteArray.size r1 ≤ LIM)) then
        (bif (decide (ByteArray.size s.1.1 + ByteArray.size (ByteArray.append (⟨#[32]⟩ : ByteArray) r1) ≤ LIM)) then
          some (0, (((ByteArray.append s.1.1 (ByteArray.append (⟨#[32]⟩ : ByteArray) r1)), (s.1.2.1, (s.1.2.2.1, ((IntKind.wrap .i64 (s.1.2.2.2.1 + 1)), ())))), ()))
          else
          none)
        else
        none))
    else
    none)
  else
  some (1, ((s.1.1, (s.1.2.1, (s.1.2.2.1, (s.1.2.2.2.1, ())))), ())))
noncomputable def g68_ground_line_l0_fuel (s : ((ByteArray × ((List Int) × (Int × (Int × Unit)))) × Unit)) : Nat := Int.toNat (s.1.2.2.1 - s.1.2.2.2.1) + 1
noncomputable def g68_ground_line_l0_run (s : ((ByteArray × ((List Int) × (Int × (Int × Unit)))) × Unit)) : Option (Nat × ((ByteArray × ((List Int) × (Int × (Int × Unit)))) × Unit)) := iter g68_ground_line_l0_step (g68_ground_line_l0_fuel s) s
noncomputable def g68_ground_line_l0_L : LoopT := loopT g68_ground_line_l0_S [.exit 0] g68_ground_line_l0_run
noncomputable def g68_ground_line (a0 : ByteArray) (a1 : (List Int)) : Option ByteArray :=
  (Option.bind (g68_ground_line_l0_run ((a0, (a1, ((List.length a1 : Int), (0, ())))), ())) fun q2 =>
  (bif (decide (ByteArray.size q2.2.1.1 + ByteArray.size (⟨#[10]⟩ : ByteArray) ≤ LIM)) then
    some (ByteArray.append q2.2.1.1 (⟨#[10]⟩ : ByteArray))
    else
    none))
noncomputable def g68_ground_line_E : CEnt := pureE 68 [.dat .str, .dat (.list (.int .i64))] (.dat .str) fun x => g68_ground_line x.1 x.2.1
noncomputable def g68_ground_line_l0_c : Code := loopAt (bodyOf Tryd.f68) 0
theorem g68_ground_line_l0_V : LValid 0 Tryd.prog (.loop g68_ground_line_l0_c) g68_ground_line_l0_L false := by
  have hb : ∀ s, codeR Tryd.prog g68_ground_line_C g68_ground_line_l0_c [] (g68_ground_line_l0_S.encE s) (g68_ground_line_l0_S.encB s) (kst g68_ground_line_l0_S [.exit 0]) = g68_ground_line_l0_step s := by
    intro s; kernel_rfl
  have hL : LV 0 Tryd.prog false (loopsOf g68_ground_line_l0_c) [] := by unfold LV; cases loopsOf g68_ground_line_l0_c <;> trivial
  exact loopT_valid (fuel := g68_ground_line_l0_fuel) mixed g68_ground_line_CV hL (by kernel_rfl) (by decide) rfl hb (fun s r h => h)
theorem g68_ground_line_LV : LV 0 Tryd.prog false (loopsOf (bodyOf Tryd.f68)) [g68_ground_line_l0_L] := by
  have hl : loopsOf (bodyOf Tryd.f68) = [.loop g68_ground_line_l0_c] := by kernel_rfl
  rw [hl]; exact ⟨g68_ground_line_l0_V, trivial⟩
theorem g68_ground_line_ent : Ent Tryd.prog 68 := ⟨by decide, enters_of Tryd.func68 (by kernel_rfl) rfl⟩
theorem g68_ground_line_hev : ∀ x, fnR Tryd.prog g68_ground_line_C [g68_ground_line_l0_L] Tryd.f68 (bodyOf Tryd.f68) (encs [.dat .str, .dat (.list (.int .i64))] x) ⟨[], [], 0⟩ (frzF (.dat .str)) = g68_ground_line x.1 x.2.1 := by
  intro x; kernel_rfl
theorem g68_ground_line_valid : g68_ground_line_E.Valid Tryd.prog :=
  pureE_valid (by kernel_rfl) (by kernel_rfl) g68_ground_line_ent (frz_lcall mixed Tryd.func68 rfl g68_ground_line_ent g68_ground_line_CV g68_ground_line_LV (by kernel_rfl) (by kernel_rfl) g68_ground_line_hev)

noncomputable def g69_ground_end16_C : CalT := tabC []
theorem g69_ground_end16_CV : CV Tryd.prog g69_ground_end16_C := tabC_valid trivial
noncomputable def g69_ground_end16_l0_S : SPat := ⟨[.dat .str, .any, .any, .dat (.int .i64), .any, .any, .dat (.int .i64), .dat (.int .i64), .any, .any, .any, .any, .any, .any, .any, .any, .any, .any, .any, .any, .any, .any, .any, .any, .any, .any, .any, .any, .any, .any, .any, .any, .any], [], 0⟩
noncomputable def g69_ground_end16_l0_step (s : ((ByteArray × (Int × (Int × (Int × Unit)))) × Unit)) : Option (Nat × ((ByteArray × (Int × (Int × (Int × Unit)))) × Unit)) :=
  (bif (decide (s.1.2.2.2.1 < s.1.2.2.1)) then
  (bif (decide (0 ≤ s.1.2.2.2.1) && decide (s.1.2.2.2.1 < (ByteArray.size s.1.1 : Int))) then
    some (0, ((s.1.1, ((Int.tmod (IntKind.wrap .i64 (s.1.2.1 + (IntKind.wrap .i64 (bt s.1.1 s.1.2.2.2.1)))) 251), (s.1.2.2.1, ((IntKind.wrap .i64 (s.1.2.2.2.1 + 1)), ())))), ()))
    else
    none)
  else
  some (1, ((s.1.1, (s.1.2.1, (s.1.2.2.1, (s.1.2.2.2.1, ())))), ())))
noncomputable def g69_ground_end16_l0_fuel (s : ((ByteArray × (Int × (Int × (Int × Unit)))) × Unit)) : Nat := Int.toNat (s.1.2.2.1 - s.1.2.2.2.1) + 1
noncomputable def g69_ground_end16_l0_run (s : ((ByteArray × (Int × (Int × (Int × Unit)))) × Unit)) : Option (Nat × ((ByteArray × (Int × (Int × (Int × Unit)))) × Unit)) := iter g69_ground_end16_l0_step (g69_ground_end16_l0_fuel s) s
noncomputable def g69_ground_end16_l0_L : LoopT := loopT g69_ground_end16_l0_S [.exit 0] g69_ground_end16_l0_run
noncomputable def g69_ground_end16 (a0 : ByteArray) : Option ByteArray :=
  (Option.bind (g69_ground_end16_l0_run ((a0, (0, ((ByteArray.size a0 : Int), (0, ())))), ())) fun q1 =>
  (bif (decide (0 ≤ (IntKind.wrap .i64 (Int.tdiv q1.2.1.2.1 16))) && decide ((IntKind.wrap .i64 (Int.tdiv q1.2.1.2.1 16)) ≤ (IntKind.wrap .i64 ((IntKind.wrap .i64 (Int.tdiv q1.2.1.2.1 16)) + 1))) && decide ((IntKind.wrap .i64 ((IntKind.wrap .i64 (Int.tdiv q1.2.1.2.1 16)) + 1)) ≤ (ByteArray.size (⟨#[48, 49, 50, 51, 52, 53, 54, 55, 56, 57, 97, 98, 99, 100, 101, 102]⟩ : ByteArray) : Int))) then
    (bif (decide (ByteArray.size (⟨#[101, 110, 100, 32]⟩ : ByteArray) + ByteArray.size (ByteArray.extract (⟨#[48, 49, 50, 51, 52, 53, 54, 55, 56, 57, 97, 98, 99, 100, 101, 102]⟩ : ByteArray) (Int.toNat (IntKind.wrap .i64 (Int.tdiv q1.2.1.2.1 16))) (Int.toNat (IntKind.wrap .i64 ((IntKind.wrap .i64 (Int.tdiv q1.2.1.2.1 16)) + 1)))) ≤ LIM)) then
      (bif (decide (0 ≤ (Int.tmod q1.2.1.2.1 16)) && decide ((Int.tmod q1.2.1.2.1 16) ≤ (IntKind.wrap .i64 ((Int.tmod q1.2.1.2.1 16) + 1))) && decide ((IntKind.wrap .i64 ((Int.tmod q1.2.1.2.1 16) + 1)) ≤ (ByteArray.size (⟨#[48, 49, 50, 51, 52, 53, 54, 55, 56, 57, 97, 98, 99, 100, 101, 102]⟩ : ByteArray) : Int))) then
        (bif (decide (ByteArray.size (ByteArray.append (⟨#[101, 110, 100, 32]⟩ : ByteArray) (ByteArray.extract (⟨#[48, 49, 50, 51, 52, 53, 54, 55, 56, 57, 97, 98, 99, 100, 101, 102]⟩ : ByteArray) (Int.toNat (IntKind.wrap .i64 (Int.tdiv q1.2.1.2.1 16))) (Int.toNat (IntKind.wrap .i64 ((IntKind.wrap .i64 (Int.tdiv q1.2.1.2.1 16)) + 1))))) + ByteArray.size (ByteArray.extract (⟨#[48, 49, 50, 51, 52, 53, 54, 55, 56, 57, 97, 98, 99, 100, 101, 102]⟩ : ByteArray) (Int.toNat (Int.tmod q1.2.1.2.1 16)) (Int.toNat (IntKind.wrap .i64 ((Int.tmod q1.2.1.2.1 16) + 1)))) ≤ LIM)) then
          (bif (decide (ByteArray.size (ByteArray.append (ByteArray.append (⟨#[101, 110, 100, 32]⟩ : ByteArray) (ByteArray.extract (⟨#[48, 49, 50, 51, 52, 53, 54, 55, 56, 57, 97, 98, 99, 100, 101, 102]⟩ : ByteArray) (Int.toNat (IntKind.wrap .i64 (Int.tdiv q1.2.1.2.1 16))) (Int.toNat (IntKind.wrap .i64 ((IntKind.wrap .i64 (Int.tdiv q1.2.1.2.1 16)) + 1))))) (ByteArray.extract (⟨#[48, 49, 50, 51, 52, 53, 54, 55, 56, 57, 97, 98, 99, 100, 101, 102]⟩ : ByteArray) (Int.toNat (Int.tmod q1.2.1.2.1 16)) (Int.toNat (IntKind.wrap .i64 ((Int.tmod q1.2.1.2.1 16) + 1))))) + ByteArray.size (⟨#[10]⟩ : ByteArray) ≤ LIM)) then
            some (ByteArray.append (ByteArray.append (ByteArray.append (⟨#[101, 110, 100, 32]⟩ : ByteArray) (ByteArray.extract (⟨#[48, 49, 50, 51, 52, 53, 54, 55, 56, 57, 97, 98, 99, 100, 101, 102]⟩ : ByteArray) (Int.toNat (IntKind.wrap .i64 (Int.tdiv q1.2.1.2.1 16))) (Int.toNat (IntKind.wrap .i64 ((IntKind.wrap .i64 (Int.tdiv q1.2.1.2.1 16)) + 1))))) (ByteArray.extract (⟨#[48, 49, 50, 51, 52, 53, 54, 55, 56, 57, 97, 98, 99, 100, 101, 102]⟩ : ByteArray) (Int.toNat (Int.tmod q1.2.1.2.1 16)) (Int.toNat (IntKind.wrap .i64 ((Int.tmod q1.2.1.2.1 16) + 1))))) (⟨#[10]⟩ : ByteArray))
            else
            none)
          else
          none)
        else
        none)
      else
      none)
    else
    none))
noncomputable def g69_ground_end16_E : CEnt := pureE 69 [.dat .str] (.dat .str) fun x => g69_ground_end16 x.1
noncomputable def g69_ground_end16_l0_c : Code := loopAt (bodyOf Tryd.f69) 0
theorem g69_ground_end16_l0_V : LValid 0 Tryd.prog (.loop g69_ground_end16_l0_c) g69_ground_end16_l0_L false := by
  have hb : ∀ s, codeR Tryd.prog g69_ground_end16_C g69_ground_end16_l0_c [] (g69_ground_end16_l0_S.encE s) (g69_ground_end16_l0_S.encB s) (kst g69_ground_end16_l0_S [.exit 0]) = g69_ground_end16_l0_step s := by
    intro s; kernel_rfl
  have hL : LV 0 Tryd.prog false (loopsOf g69_ground_end16_l0_c) [] := by unfold LV; cases loopsOf g69_ground_end16_l0_c <;> trivial
  exact loopT_valid (fuel := g69_ground_end16_l0_fuel) mixed g69_ground_end16_CV hL (by kernel_rfl) (by decide) rfl hb (fun s r h => h)
theorem g69_ground_end16_LV : LV 0 Tryd.prog false (loopsOf (bodyOf Tryd.f69)) [g69_ground_end16_l0_L] := by
  have hl : loopsOf (bodyOf Tryd.f69) = [.loop g69_ground_end16_l0_c] := by kernel_rfl
  rw [hl]; exact ⟨g69_ground_end16_l0_V, trivial⟩
theorem g69_ground_end16_ent : Ent Tryd.prog 69 := ⟨by decide, enters_of Tryd.func69 (by kernel_rfl) rfl⟩
theorem g69_ground_end16_hev : ∀ x, fnR Tryd.prog g69_ground_end16_C [g69_ground_end16_l0_L] Tryd.f69 (bodyOf Tryd.f69) (encs [.dat .str] x) ⟨[], [], 0⟩ (frzF (.dat .str)) = g69_ground_end16 x.1 := by
  intro x; kernel_rfl
theorem g69_ground_end16_valid : g69_ground_end16_E.Valid Tryd.prog :=
  pureE_valid (by kernel_rfl) (by kernel_rfl) g69_ground_end16_ent (frz_lcall mixed Tryd.func69 rfl g69_ground_end16_ent g69_ground_end16_CV g69_ground_end16_LV (by kernel_rfl) (by kernel_rfl) g69_ground_end16_hev)

noncomputable def g43_ground_Print_C : CalT := tabC [g66_ground_valid_E, g68_ground_line_E, g69_ground_end16_E]
theorem g43_ground_Print_CV : CV Tryd.prog g43_ground_Print_C := tabC_valid ⟨g66_ground_valid_valid, g68_ground_line_valid, g69_ground_end16_valid, trivial⟩
noncomputable def g43_ground_Print_l0_S : SPat := ⟨[.any, .any, .any, .any, .dat .str, .any, .any, .any, .any, .any, .any, .any, .any, .any, .any, .any, .any, .any, .any, .any, .any, .any, .dat (.list T70), .dat (.int .i64), .dat (.int .i64), .any, .any, .any, .any, .any, .any, .any, .any, .any, .any, .any, .any, .any, .any, .any, .any, .any, .any, .any, .any], [.dat T25], 0⟩
noncomputable def g43_ground_Print_l0_step (s : ((ByteArray × ((List E70) × (Int × (Int × Unit)))) × (E25 × Unit))) : Option (Nat × ((ByteArray × ((List E70) × (Int × (Int × Unit)))) × (E25 × Unit))) :=
  (bif (decide (s.1.2.2.2.1 < s.1.2.2.1)) then
  (bif (decide (0 ≤ s.1.2.2.2.1) && decide (s.1.2.2.2.1 < (List.length s.1.2.1 : Int))) then
    (Option.bind (g68_ground_line (⟨#[108, 97, 121, 101, 114]⟩ : ByteArray) [(List.getD s.1.2.1 (Int.toNat s.1.2.2.2.1) (0, ((0, (0, ())), ()))).1, (List.getD s.1.2.1 (Int.toNat s.1.2.2.2.1) (0, ((0, (0, ())), ()))).2.1.1, (List.getD s.1.2.1 (Int.toNat s.1.2.2.2.1) (0, ((0, (0, ())), ()))).2.1.2.1]) fun r3 =>
      (bif (decide (ByteArray.size s.1.1 + ByteArray.size r3 ≤ LIM)) then
        some (0, (((ByteArray.append s.1.1 r3), (s.1.2.1, (s.1.2.2.1, ((IntKind.wrap .i64 (s.1.2.2.2.1 + 1)), ())))), (s.2.1, ())))
        else
        none))
    else
    none)
  else
  some (1, ((s.1.1, (s.1.2.1, (s.1.2.2.1, (s.1.2.2.2.1, ())))), (s.2.1, ()))))
noncomputable def g43_ground_Print_l0_fuel (s : ((ByteArray × ((List E70) × (Int × (Int × Unit)))) × (E25 × Unit))) : Nat := Int.toNat (s.1.2.2.1 - s.1.2.2.2.1) + 1
noncomputable def g43_ground_Print_l0_run (s : ((ByteArray × ((List E70) × (Int × (Int × Unit)))) × (E25 × Unit))) : Option (Nat × ((ByteArray × ((List E70) × (Int × (Int × Unit)))) × (E25 × Unit))) := iter g43_ground_Print_l0_step (g43_ground_Print_l0_fuel s) s
noncomputable def g43_ground_Print_l0_L : LoopT := loopT g43_ground_Print_l0_S [.exit 0] g43_ground_Print_l0_run
noncomputable def g43_ground_Print (a0 : E25) : Option (ByteArray × (Int × Unit)) :=
  (Option.bind (g66_ground_valid a0) fun r1 =>
  (bif (!r1) then
    some ((⟨#[]⟩ : ByteArray), (2, ()))
    else
    (Option.bind (g68_ground_line (⟨#[104, 111, 108, 101]⟩ : ByteArray) [(List.length a0.1 : Int), a0.2.1.1, a0.2.1.2.1]) fun r2 =>
      (Option.bind (g43_ground_Print_l0_run ((r2, (a0.1, ((List.length a0.1 : Int), (0, ())))), (a0, ()))) fun q4 =>
        (Option.bind (g69_ground_end16 q4.2.1.1) fun r5 =>
          (bif (decide (ByteArray.size q4.2.1.1 + ByteArray.size r5 ≤ LIM)) then
            some ((ByteArray.append q4.2.1.1 r5), (0, ()))
            else
            none))))))
noncomputable def g43_ground_Print_E : CEnt := pureE 43 [.dat T25] (.tup (.cons (.dat .str) (.cons (.dat (.int .i64)) (.nil)))) fun x => g43_ground_Print x.1
noncomputable def g43_ground_Print_l0_c : Code := loopAt (bodyOf Tryd.f43) 0
theorem g43_ground_Print_l0_V : LValid 0 Tryd.prog (.loop g43_ground_Print_l0_c) g43_ground_Print_l0_L false := by
  have hb : ∀ s, codeR Tryd.prog g43_ground_Print_C g43_ground_Print_l0_c [] (g43_ground_Print_l0_S.encE s) (g43_ground_Print_l0_S.encB s) (kst g43_ground_Print_l0_S [.exit 0]) = g43_ground_Print_l0_step s := by
    intro s; kernel_rfl
  have hL : LV 0 Tryd.prog false (loopsOf g43_ground_Print_l0_c) [] := by unfold LV; cases loopsOf g43_ground_Print_l0_c <;> trivial
  exact loopT_valid (fuel := g43_ground_Print_l0_fuel) mixed g43_ground_Print_CV hL (by kernel_rfl) (by decide) rfl hb (fun s r h => h)
theorem g43_ground_Print_LV : LV 0 Tryd.prog false (loopsOf (bodyOf Tryd.f43)) [g43_ground_Print_l0_L] := by
  have hl : loopsOf (bodyOf Tryd.f43) = [.loop g43_ground_Print_l0_c] := by kernel_rfl
  rw [hl]; exact ⟨g43_ground_Print_l0_V, trivial⟩
theorem g43_ground_Print_ent : Ent Tryd.prog 43 := ⟨by decide, enters_of Tryd.func43 (by kernel_rfl) rfl⟩
theorem g43_ground_Print_hev : ∀ x, fnR Tryd.prog g43_ground_Print_C [g43_ground_Print_l0_L] Tryd.f43 (bodyOf Tryd.f43) (encs [.dat T25] x) ⟨[], [], 0⟩ (frzF (.tup (.cons (.dat .str) (.cons (.dat (.int .i64)) (.nil))))) = g43_ground_Print x.1 := by
  intro x; kernel_rfl
theorem g43_ground_Print_valid : g43_ground_Print_E.Valid Tryd.prog :=
  pureE_valid (by kernel_rfl) (by kernel_rfl) g43_ground_Print_ent (frz_lcall mixed Tryd.func43 rfl g43_ground_Print_ent g43_ground_Print_CV g43_ground_Print_LV (by kernel_rfl) (by kernel_rfl) g43_ground_Print_hev)

noncomputable def g39_talikref01_SameSeen_C : CalT := tabC []
theorem g39_talikref01_SameSeen_CV : CV Tryd.prog g39_talikref01_SameSeen_C := tabC_valid trivial
noncomputable def g39_talikref01_SameSeen_l0_S : SPat := ⟨[.dat (.list T53), .dat (.list T53), .any, .any, .dat .bool, .dat (.int .i64), .any, .any, .any, .any, .any, .any, .any, .any, .any, .any, .any, .any, .any, .any, .any, .any, .any, .any, .any, .any], [], 0⟩
noncomputable def g39_talikref01_SameSeen_l0_step (s : (((List E53) × ((List E53) × (Bool × (Int × Unit)))) × Unit)) : Option (Nat × (((List E53) × ((List E53) × (Bool × (Int × Unit)))) × Unit)) :=
  (bif (decide (s.1.2.2.2.1 < (List.length s.1.1 : Int))) then
  (bif (decide (0 ≤ s.1.2.2.2.1) && decide (s.1.2.2.2.1 < (List.length s.1.1 : Int))) then
    (bif (decide (0 ≤ s.1.2.2.2.1) && decide (s.1.2.2.2.1 < (List.length s.1.2.1 : Int))) then
      (bif (!((((List.getD s.1.1 (Int.toNat s.1.2.2.2.1) ((0, (0, ())), ((0, (0, ())), (0, ())))).1.1 == (List.getD s.1.2.1 (Int.toNat s.1.2.2.2.1) ((0, (0, ())), ((0, (0, ())), (0, ())))).1.1) && (((List.getD s.1.1 (Int.toNat s.1.2.2.2.1) ((0, (0, ())), ((0, (0, ())), (0, ())))).1.2.1 == (List.getD s.1.2.1 (Int.toNat s.1.2.2.2.1) ((0, (0, ())), ((0, (0, ())), (0, ())))).1.2.1) && true)) && ((((List.getD s.1.1 (Int.toNat s.1.2.2.2.1) ((0, (0, ())), ((0, (0, ())), (0, ())))).2.1.1 == (List.getD s.1.2.1 (Int.toNat s.1.2.2.2.1) ((0, (0, ())), ((0, (0, ())), (0, ())))).2.1.1) && (((List.getD s.1.1 (Int.toNat s.1.2.2.2.1) ((0, (0, ())), ((0, (0, ())), (0, ())))).2.1.2.1 == (List.getD s.1.2.1 (Int.toNat s.1.2.2.2.1) ((0, (0, ())), ((0, (0, ())), (0, ())))).2.1.2.1) && true)) && (((List.getD s.1.1 (Int.toNat s.1.2.2.2.1) ((0, (0, ())), ((0, (0, ())), (0, ())))).2.2.1 == (List.getD s.1.2.1 (Int.toNat s.1.2.2.2.1) ((0, (0, ())), ((0, (0, ())), (0, ())))).2.2.1) && true)))) then
        some (1, ((s.1.1, (s.1.2.1, (false, (s.1.2.2.2.1, ())))), ()))
        else
        some (0, ((s.1.1, (s.1.2.1, (s.1.2.2.1, ((IntKind.wrap .i64 (s.1.2.2.2.1 + 1)), ())))), ())))
      else
      none)
    else
    none)
  else
  some (2, ((s.1.1, (s.1.2.1, (s.1.2.2.1, (s.1.2.2.2.1, ())))), ())))
noncomputable def g39_talikref01_SameSeen_l0_fuel (s : (((List E53) × ((List E53) × (Bool × (Int × Unit)))) × Unit)) : Nat := Int.toNat ((List.length s.1.1 : Int) - s.1.2.2.2.1) + 1
noncomputable def g39_talikref01_SameSeen_l0_run (s : (((List E53) × ((List E53) × (Bool × (Int × Unit)))) × Unit)) : Option (Nat × (((List E53) × ((List E53) × (Bool × (Int × Unit)))) × Unit)) := iter g39_talikref01_SameSeen_l0_step (g39_talikref01_SameSeen_l0_fuel s) s
noncomputable def g39_talikref01_SameSeen_l0_L : LoopT := loopT g39_talikref01_SameSeen_l0_S [.ret, .exit 0] g39_talikref01_SameSeen_l0_run
noncomputable def g39_talikref01_SameSeen (a0 : (List E53)) (a1 : (List E53)) : Option Bool :=
  (bif ((List.length a0 : Int) != (List.length a1 : Int)) then
  some false
  else
  (Option.bind (g39_talikref01_SameSeen_l0_run ((a0, (a1, (false, (0, ())))), ())) fun q1 =>
    (natK q1.1
      (some q1.2.1.2.2.1)
      (fun _ => some true))))
noncomputable def g39_talikref01_SameSeen_E : CEnt := pureE 39 [.dat (.list T53), .dat (.list T53)] (.dat .bool) fun x => g39_talikref01_SameSeen x.1 x.2.1
noncomputable def g39_talikref01_SameSeen_l0_c : Code := loopAt (bodyOf Tryd.f39) 0
theorem g39_talikref01_SameSeen_l0_V : LValid 0 Tryd.prog (.loop g39_talikref01_SameSeen_l0_c) g39_talikref01_SameSeen_l0_L false := by
  have hb : ∀ s, codeR Tryd.prog g39_talikref01_SameSeen_C g39_talikref01_SameSeen_l0_c [] (g39_talikref01_SameSeen_l0_S.encE s) (g39_talikref01_SameSeen_l0_S.encB s) (kst g39_talikref01_SameSeen_l0_S [.ret, .exit 0]) = g39_talikref01_SameSeen_l0_step s := by
    intro s; kernel_rfl
  have hL : LV 0 Tryd.prog false (loopsOf g39_talikref01_SameSeen_l0_c) [] := by unfold LV; cases loopsOf g39_talikref01_SameSeen_l0_c <;> trivial
  exact loopT_valid (fuel := g39_talikref01_SameSeen_l0_fuel) mixed g39_talikref01_SameSeen_CV hL (by kernel_rfl) (by decide) rfl hb (fun s r h => h)
theorem g39_talikref01_SameSeen_LV : LV 0 Tryd.prog false (loopsOf (bodyOf Tryd.f39)) [g39_talikref01_SameSeen_l0_L] := by
  have hl : loopsOf (bodyOf Tryd.f39) = [.loop g39_talikref01_SameSeen_l0_c] := by kernel_rfl
  rw [hl]; exact ⟨g39_talikref01_SameSeen_l0_V, trivial⟩
theorem g39_talikref01_SameSeen_ent : Ent Tryd.prog 39 := ⟨by decide, enters_of Tryd.func39 (by kernel_rfl) rfl⟩
theorem g39_talikref01_SameSeen_hev : ∀ x, fnR Tryd.prog g39_talikref01_SameSeen_C [g39_talikref01_SameSeen_l0_L] Tryd.f39 (bodyOf Tryd.f39) (encs [.dat (.list T53), .dat (.list T53)] x) ⟨[], [], 0⟩ (frzF (.dat .bool)) = g39_talikref01_SameSeen x.1 x.2.1 := by
  intro x; kernel_rfl
theorem g39_talikref01_SameSeen_valid : g39_talikref01_SameSeen_E.Valid Tryd.prog :=
  pureE_valid (by kernel_rfl) (by kernel_rfl) g39_talikref01_SameSeen_ent (frz_lcall mixed Tryd.func39 rfl g39_talikref01_SameSeen_ent g39_talikref01_SameSeen_CV g39_talikref01_SameSeen_LV (by kernel_rfl) (by kernel_rfl) g39_talikref01_SameSeen_hev)

noncomputable def g20_talikref01_Same_C : CalT := tabC []
theorem g20_talikref01_Same_CV : CV Tryd.prog g20_talikref01_Same_C := tabC_valid trivial
noncomputable def g20_talikref01_Same_l0_S : SPat := ⟨[.dat (.list (.int .i64)), .dat (.list (.int .i64)), .any, .any, .dat .bool, .dat (.int .i64), .any, .any, .any, .any, .any, .any, .any, .any, .any, .any, .any, .any, .any, .any, .any, .any, .any, .any, .any, .any], [], 0⟩
noncomputable def g20_talikref01_Same_l0_step (s : (((List Int) × ((List Int) × (Bool × (Int × Unit)))) × Unit)) : Option (Nat × (((List Int) × ((List Int) × (Bool × (Int × Unit)))) × Unit)) :=
  (bif (decide (s.1.2.2.2.1 < (List.length s.1.1 : Int))) then
  (bif (decide (0 ≤ s.1.2.2.2.1) && decide (s.1.2.2.2.1 < (List.length s.1.1 : Int))) then
    (bif (decide (0 ≤ s.1.2.2.2.1) && decide (s.1.2.2.2.1 < (List.length s.1.2.1 : Int))) then
      (bif ((List.getD s.1.1 (Int.toNat s.1.2.2.2.1) 0) != (List.getD s.1.2.1 (Int.toNat s.1.2.2.2.1) 0)) then
        some (1, ((s.1.1, (s.1.2.1, (false, (s.1.2.2.2.1, ())))), ()))
        else
        some (0, ((s.1.1, (s.1.2.1, (s.1.2.2.1, ((IntKind.wrap .i64 (s.1.2.2.2.1 + 1)), ())))), ())))
      else
      none)
    else
    none)
  else
  some (2, ((s.1.1, (s.1.2.1, (s.1.2.2.1, (s.1.2.2.2.1, ())))), ())))
noncomputable def g20_talikref01_Same_l0_fuel (s : (((List Int) × ((List Int) × (Bool × (Int × Unit)))) × Unit)) : Nat := Int.toNat ((List.length s.1.1 : Int) - s.1.2.2.2.1) + 1
noncomputable def g20_talikref01_Same_l0_run (s : (((List Int) × ((List Int) × (Bool × (Int × Unit)))) × Unit)) : Option (Nat × (((List Int) × ((List Int) × (Bool × (Int × Unit)))) × Unit)) := iter g20_talikref01_Same_l0_step (g20_talikref01_Same_l0_fuel s) s
noncomputable def g20_talikref01_Same_l0_L : LoopT := loopT g20_talikref01_Same_l0_S [.ret, .exit 0] g20_talikref01_Same_l0_run
noncomputable def g20_talikref01_Same (a0 : (List Int)) (a1 : (List Int)) : Option Bool :=
  (bif ((List.length a0 : Int) != (List.length a1 : Int)) then
  some false
  else
  (Option.bind (g20_talikref01_Same_l0_run ((a0, (a1, (false, (0, ())))), ())) fun q1 =>
    (natK q1.1
      (some q1.2.1.2.2.1)
      (fun _ => some true))))
noncomputable def g20_talikref01_Same_E : CEnt := pureE 20 [.dat (.list (.int .i64)), .dat (.list (.int .i64))] (.dat .bool) fun x => g20_talikref01_Same x.1 x.2.1
noncomputable def g20_talikref01_Same_l0_c : Code := loopAt (bodyOf Tryd.f20) 0
theorem g20_talikref01_Same_l0_V : LValid 0 Tryd.prog (.loop g20_talikref01_Same_l0_c) g20_talikref01_Same_l0_L false := by
  have hb : ∀ s, codeR Tryd.prog g20_talikref01_Same_C g20_talikref01_Same_l0_c [] (g20_talikref01_Same_l0_S.encE s) (g20_talikref01_Same_l0_S.encB s) (kst g20_talikref01_Same_l0_S [.ret, .exit 0]) = g20_talikref01_Same_l0_step s := by
    intro s; kernel_rfl
  have hL : LV 0 Tryd.prog false (loopsOf g20_talikref01_Same_l0_c) [] := by unfold LV; cases loopsOf g20_talikref01_Same_l0_c <;> trivial
  exact loopT_valid (fuel := g20_talikref01_Same_l0_fuel) mixed g20_talikref01_Same_CV hL (by kernel_rfl) (by decide) rfl hb (fun s r h => h)
theorem g20_talikref01_Same_LV : LV 0 Tryd.prog false (loopsOf (bodyOf Tryd.f20)) [g20_talikref01_Same_l0_L] := by
  have hl : loopsOf (bodyOf Tryd.f20) = [.loop g20_talikref01_Same_l0_c] := by kernel_rfl
  rw [hl]; exact ⟨g20_talikref01_Same_l0_V, trivial⟩
theorem g20_talikref01_Same_ent : Ent Tryd.prog 20 := ⟨by decide, enters_of Tryd.func20 (by kernel_rfl) rfl⟩
theorem g20_talikref01_Same_hev : ∀ x, fnR Tryd.prog g20_talikref01_Same_C [g20_talikref01_Same_l0_L] Tryd.f20 (bodyOf Tryd.f20) (encs [.dat (.list (.int .i64)), .dat (.list (.int .i64))] x) ⟨[], [], 0⟩ (frzF (.dat .bool)) = g20_talikref01_Same x.1 x.2.1 := by
  intro x; kernel_rfl
theorem g20_talikref01_Same_valid : g20_talikref01_Same_E.Valid Tryd.prog :=
  pureE_valid (by kernel_rfl) (by kernel_rfl) g20_talikref01_Same_ent (frz_lcall mixed Tryd.func20 rfl g20_talikref01_Same_ent g20_talikref01_Same_CV g20_talikref01_Same_LV (by kernel_rfl) (by kernel_rfl) g20_talikref01_Same_hev)

noncomputable def g15_taliklaw01_known_C : CalT := tabC [g41_taliklaw01_P_E, g42_taliklaw01_Y_E, g23_ground_Years_E, g16_ground_Play_E, g27_ground_Exceeds_E, g29_ground_Allow_E, g30_ground_Need_E, g43_ground_Print_E, g33_taliklaw01_span_E, g39_talikref01_SameSeen_E, g20_talikref01_Same_E]
theorem g15_taliklaw01_known_CV : CV Tryd.prog g15_taliklaw01_known_C := tabC_valid ⟨g41_taliklaw01_P_valid, g42_taliklaw01_Y_valid, g23_ground_Years_valid, g16_ground_Play_valid, g27_ground_Exceeds_valid, g29_ground_Allow_valid, g30_ground_Need_valid, g43_ground_Print_valid, g33_taliklaw01_span_valid, g39_talikref01_SameSeen_valid, g20_talikref01_Same_valid, trivial⟩
noncomputable def g15_taliklaw01_known : Option Bool :=
  (Option.bind g41_taliklaw01_P fun r1 =>
  (Option.bind (g42_taliklaw01_Y 2) fun r2 =>
    (Option.bind (g23_ground_Years r1 r2) fun r3 =>
      (Option.bind g41_taliklaw01_P fun r4 =>
        (Option.bind (g42_taliklaw01_Y 2) fun r5 =>
          (Option.bind (g16_ground_Play r4 r5 ([110, 250], ([1000, 0], ([65000, 60000], ([60000, 80000], ([200, 100], ())))))) fun r6 =>
            (Option.bind g41_taliklaw01_P fun r7 =>
              (Option.bind (g42_taliklaw01_Y 2) fun r8 =>
                (Option.bind (g27_ground_Exceeds r7 r8 610) fun r9 =>
                  (Option.bind g41_taliklaw01_P fun r10 =>
                    (Option.bind (g42_taliklaw01_Y 1) fun r11 =>
                      (Option.bind (g29_ground_Allow r10 r11 700) fun r12 =>
                        (Option.bind g41_taliklaw01_P fun r13 =>
                          (Option.bind (g42_taliklaw01_Y 2) fun r14 =>
                            (Option.bind (g30_ground_Need r13 r14 700) fun r15 =>
                              (Option.bind g41_taliklaw01_P fun r16 =>
                                (Option.bind (g43_ground_Print r16) fun r17 =>
                                  (bif (r3.2.1 != 0) then
                                    some false
                                    else
                                    (bif (r6.2.2.1 != 0) then
                                      some false
                                      else
                                      (bif (r9.2.2.1 != 0) then
                                        some false
                                        else
                                        (bif (r12.2.1 != 0) then
                                          some false
                                          else
                                          (bif (r15.2.1 != 0) then
                                            some false
                                            else
                                            (bif (r17.2.1 != 0) then
                                              some false
                                              else
                                              (Option.bind (g33_taliklaw01_span 500 610) fun r18 =>
                                                (Option.bind (g33_taliklaw01_span 0 37000) fun r19 =>
                                                  (Option.bind (g33_taliklaw01_span 500 795) fun r20 =>
                                                    (Option.bind (g33_taliklaw01_span 0 74000) fun r21 =>
                                                      (Option.bind (g39_talikref01_SameSeen r3.1 [(r18, (r19, (2, ()))), (r20, (r21, (2, ())))]) fun r22 =>
                                                        (bif r22 then
                                                          (Option.bind (g20_talikref01_Same r6.1 [544, 592]) fun r23 =>
                                                            (bif r23 then
                                                              (bif ((r6.2.1.1 == 126000) && ((r6.2.1.2.1 == 120000) && ((r6.2.1.2.2.1 == 6000) && true))) then
                                                                (bif (r9.1 == 1) then
                                                                  (bif (r9.2.1 == 2) then
                                                                    (bif (r12.1 == 20199) then
                                                                      (bif (r15.1 == 18801) then
                                                                        some (ByteArray.toList r17.1 == ByteArray.toList (⟨#[104, 111, 108, 101, 32, 50, 32, 48, 32, 50, 48, 48, 48, 10, 108, 97, 121, 101, 114, 32, 53, 48, 48, 32, 49, 48, 48, 32, 49, 50, 48, 10, 108, 97, 121, 101, 114, 32, 49, 48, 48, 48, 32, 50, 48, 48, 32, 51, 48, 48, 10, 101, 110, 100, 32, 49, 102, 10]⟩ : ByteArray))
                                                                        else
                                                                        some false)
                                                                      else
                                                                      some false)
                                                                    else
                                                                    some false)
                                                                  else
                                                                  some false)
                                                                else
                                                                some false)
                                                              else
                                                              some false))
                                                          else
                                                          some false)))))))))))))))))))))))))))))
noncomputable def g15_taliklaw01_known_E : CEnt := pureE 15 [] (.dat .bool) fun x => g15_taliklaw01_known
theorem g15_taliklaw01_known_LV : LV 0 Tryd.prog false (loopsOf (bodyOf Tryd.f15)) [] := by unfold LV; cases loopsOf (bodyOf Tryd.f15) <;> trivial
theorem g15_taliklaw01_known_ent : Ent Tryd.prog 15 := ⟨by decide, enters_of Tryd.func15 (by kernel_rfl) rfl⟩
theorem g15_taliklaw01_known_hev : ∀ x, fnR Tryd.prog g15_taliklaw01_known_C [] Tryd.f15 (bodyOf Tryd.f15) (encs [] x) ⟨[], [], 0⟩ (frzF (.dat .bool)) = g15_taliklaw01_known := by
  intro x; kernel_rfl
theorem g15_taliklaw01_known_valid : g15_taliklaw01_known_E.Valid Tryd.prog :=
  pureE_valid (by kernel_rfl) (by kernel_rfl) g15_taliklaw01_known_ent (frz_lcall mixed Tryd.func15 rfl g15_taliklaw01_known_ent g15_taliklaw01_known_CV g15_taliklaw01_known_LV (by kernel_rfl) (by kernel_rfl) g15_taliklaw01_known_hev)

noncomputable def g14_taliklaw01_sized_C : CalT := tabC []
theorem g14_taliklaw01_sized_CV : CV Tryd.prog g14_taliklaw01_sized_C := tabC_valid trivial
noncomputable def g14_taliklaw01_sized (a0 : E29) : Option Bool :=
  (bif (decide ((List.length a0.1 : Int) ≤ 12)) then
  (bif (decide ((List.length a0.2.1 : Int) ≤ 20)) then
    (bif (decide ((List.length a0.2.2.1 : Int) ≤ 20)) then
      (bif (decide ((List.length a0.2.2.2.1 : Int) ≤ 20)) then
        some (decide ((List.length a0.2.2.2.2.1 : Int) ≤ 20))
        else
        some false)
      else
      some false)
    else
    some false)
  else
  some false)
noncomputable def g14_taliklaw01_sized_E : CEnt := pureE 14 [.dat T29] (.dat .bool) fun x => g14_taliklaw01_sized x.1
theorem g14_taliklaw01_sized_LV : LV 0 Tryd.prog false (loopsOf (bodyOf Tryd.f14)) [] := by unfold LV; cases loopsOf (bodyOf Tryd.f14) <;> trivial
theorem g14_taliklaw01_sized_ent : Ent Tryd.prog 14 := ⟨by decide, enters_of Tryd.func14 (by kernel_rfl) rfl⟩
theorem g14_taliklaw01_sized_hev : ∀ x, fnR Tryd.prog g14_taliklaw01_sized_C [] Tryd.f14 (bodyOf Tryd.f14) (encs [.dat T29] x) ⟨[], [], 0⟩ (frzF (.dat .bool)) = g14_taliklaw01_sized x.1 := by
  intro x; kernel_rfl
theorem g14_taliklaw01_sized_valid : g14_taliklaw01_sized_E.Valid Tryd.prog :=
  pureE_valid (by kernel_rfl) (by kernel_rfl) g14_taliklaw01_sized_ent (frz_lcall mixed Tryd.func14 rfl g14_taliklaw01_sized_ent g14_taliklaw01_sized_CV g14_taliklaw01_sized_LV (by kernel_rfl) (by kernel_rfl) g14_taliklaw01_sized_hev)

noncomputable def g59_talikref01_in_C : CalT := tabC []
theorem g59_talikref01_in_CV : CV Tryd.prog g59_talikref01_in_C := tabC_valid trivial
noncomputable def g59_talikref01_in (a0 : Int) (a1 : Int) (a2 : Int) : Option Bool :=
  (bif (decide (a0 ≥ a1)) then
  some (decide (a0 ≤ a2))
  else
  some false)
noncomputable def g59_talikref01_in_E : CEnt := pureE 59 [.dat (.int .i64), .dat (.int .i64), .dat (.int .i64)] (.dat .bool) fun x => g59_talikref01_in x.1 x.2.1 x.2.2.1
theorem g59_talikref01_in_LV : LV 0 Tryd.prog false (loopsOf (bodyOf Tryd.f59)) [] := by unfold LV; cases loopsOf (bodyOf Tryd.f59) <;> trivial
theorem g59_talikref01_in_ent : Ent Tryd.prog 59 := ⟨by decide, enters_of Tryd.func59 (by kernel_rfl) rfl⟩
theorem g59_talikref01_in_hev : ∀ x, fnR Tryd.prog g59_talikref01_in_C [] Tryd.f59 (bodyOf Tryd.f59) (encs [.dat (.int .i64), .dat (.int .i64), .dat (.int .i64)] x) ⟨[], [], 0⟩ (frzF (.dat .bool)) = g59_talikref01_in x.1 x.2.1 x.2.2.1 := by
  intro x; kernel_rfl
theorem g59_talikref01_in_valid : g59_talikref01_in_E.Valid Tryd.prog :=
  pureE_valid (by kernel_rfl) (by kernel_rfl) g59_talikref01_in_ent (frz_lcall mixed Tryd.func59 rfl g59_talikref01_in_ent g59_talikref01_in_CV g59_talikref01_in_LV (by kernel_rfl) (by kernel_rfl) g59_talikref01_in_hev)

noncomputable def g67_talikref01_Span_C : CalT := tabC []
theorem g67_talikref01_Span_CV : CV Tryd.prog g67_talikref01_Span_C := tabC_valid trivial
noncomputable def g67_talikref01_Span (a0 : E23) (a1 : Int) (a2 : Int) : Option Bool :=
  (bif (decide (a0.1 ≥ a1)) then
  (bif (decide (a0.1 ≤ a0.2.1)) then
    some (decide (a0.2.1 ≤ a2))
    else
    some false)
  else
  some false)
noncomputable def g67_talikref01_Span_E : CEnt := pureE 67 [.dat T23, .dat (.int .i64), .dat (.int .i64)] (.dat .bool) fun x => g67_talikref01_Span x.1 x.2.1 x.2.2.1
theorem g67_talikref01_Span_LV : LV 0 Tryd.prog false (loopsOf (bodyOf Tryd.f67)) [] := by unfold LV; cases loopsOf (bodyOf Tryd.f67) <;> trivial
theorem g67_talikref01_Span_ent : Ent Tryd.prog 67 := ⟨by decide, enters_of Tryd.func67 (by kernel_rfl) rfl⟩
theorem g67_talikref01_Span_hev : ∀ x, fnR Tryd.prog g67_talikref01_Span_C [] Tryd.f67 (bodyOf Tryd.f67) (encs [.dat T23, .dat (.int .i64), .dat (.int .i64)] x) ⟨[], [], 0⟩ (frzF (.dat .bool)) = g67_talikref01_Span x.1 x.2.1 x.2.2.1 := by
  intro x; kernel_rfl
theorem g67_talikref01_Span_valid : g67_talikref01_Span_E.Valid Tryd.prog :=
  pureE_valid (by kernel_rfl) (by kernel_rfl) g67_talikref01_Span_ent (frz_lcall mixed Tryd.func67 rfl g67_talikref01_Span_ent g67_talikref01_Span_CV g67_talikref01_Span_LV (by kernel_rfl) (by kernel_rfl) g67_talikref01_Span_hev)

noncomputable def g38_talikref01_Place_C : CalT := tabC [g59_talikref01_in_E, g67_talikref01_Span_E]
theorem g38_talikref01_Place_CV : CV Tryd.prog g38_talikref01_Place_C := tabC_valid ⟨g59_talikref01_in_valid, g67_talikref01_Span_valid, trivial⟩
noncomputable def g38_talikref01_Place_l0_S : SPat := ⟨[.any, .fix (.bptr 0 []), .dat .bool, .dat (.int .i64), .any, .any, .any, .any, .any, .any, .any, .any, .any, .any, .any, .any, .any, .any, .any, .any, .any, .any, .any, .any, .any, .any, .any, .any, .any, .any, .any, .any, .any, .any, .any, .any, .any, .any], [.dat T25], 0⟩
noncomputable def g38_talikref01_Place_l0_step (s : ((Bool × (Int × Unit)) × (E25 × Unit))) : Option (Nat × ((Bool × (Int × Unit)) × (E25 × Unit))) :=
  (bif (decide (s.1.2.1 < (List.length s.2.1.1 : Int))) then
  (bif (decide (0 ≤ s.1.2.1) && decide (s.1.2.1 < (List.length s.2.1.1 : Int))) then
    (Option.bind (g59_talikref01_in ((List.getD s.2.1.1 (Int.toNat s.1.2.1) (0, ((0, (0, ())), ()))).1) 1 20000) fun r1 =>
      (bif (!r1) then
        some (1, ((false, (s.1.2.1, ())), (s.2.1, ())))
        else
        (bif (decide (0 ≤ s.1.2.1) && decide (s.1.2.1 < (List.length s.2.1.1 : Int))) then
          (Option.bind (g67_talikref01_Span ((List.getD s.2.1.1 (Int.toNat s.1.2.1) (0, ((0, (0, ())), ()))).2.1) 1 1000) fun r2 =>
            (bif (!r2) then
              some (1, ((false, (s.1.2.1, ())), (s.2.1, ())))
              else
              some (0, ((s.1.1, ((IntKind.wrap .i64 (s.1.2.1 + 1)), ())), (s.2.1, ())))))
          else
          none)))
    else
    none)
  else
  some (2, ((s.1.1, (s.1.2.1, ())), (s.2.1, ()))))
noncomputable def g38_talikref01_Place_l0_fuel (s : ((Bool × (Int × Unit)) × (E25 × Unit))) : Nat := Int.toNat ((List.length s.2.1.1 : Int) - s.1.2.1) + 1
noncomputable def g38_talikref01_Place_l0_run (s : ((Bool × (Int × Unit)) × (E25 × Unit))) : Option (Nat × ((Bool × (Int × Unit)) × (E25 × Unit))) := iter g38_talikref01_Place_l0_step (g38_talikref01_Place_l0_fuel s) s
noncomputable def g38_talikref01_Place_l0_L : LoopT := loopT g38_talikref01_Place_l0_S [.ret, .exit 0] g38_talikref01_Place_l0_run
noncomputable def g38_talikref01_Place (a0 : E25) : Option Bool :=
  (Option.bind (g38_talikref01_Place_l0_run ((false, (0, ())), (a0, ()))) fun q3 =>
  (natK q3.1
    (some q3.2.1.1)
    (fun _ => (Option.bind (g59_talikref01_in (List.length q3.2.2.1.1 : Int) 1 6) fun r4 =>
      (bif r4 then
        (Option.bind (g67_talikref01_Span q3.2.2.1.2.1 0 1000000) fun r5 =>
          some r5)
        else
        some false)))))
noncomputable def g38_talikref01_Place_E : CEnt := pureE 38 [.dat T25] (.dat .bool) fun x => g38_talikref01_Place x.1
noncomputable def g38_talikref01_Place_l0_c : Code := loopAt (bodyOf Tryd.f38) 0
theorem g38_talikref01_Place_l0_V : LValid 0 Tryd.prog (.loop g38_talikref01_Place_l0_c) g38_talikref01_Place_l0_L false := by
  have hb : ∀ s, codeR Tryd.prog g38_talikref01_Place_C g38_talikref01_Place_l0_c [] (g38_talikref01_Place_l0_S.encE s) (g38_talikref01_Place_l0_S.encB s) (kst g38_talikref01_Place_l0_S [.ret, .exit 0]) = g38_talikref01_Place_l0_step s := by
    intro s; kernel_rfl
  have hL : LV 0 Tryd.prog false (loopsOf g38_talikref01_Place_l0_c) [] := by unfold LV; cases loopsOf g38_talikref01_Place_l0_c <;> trivial
  exact loopT_valid (fuel := g38_talikref01_Place_l0_fuel) mixed g38_talikref01_Place_CV hL (by kernel_rfl) (by decide) rfl hb (fun s r h => h)
theorem g38_talikref01_Place_LV : LV 0 Tryd.prog false (loopsOf (bodyOf Tryd.f38)) [g38_talikref01_Place_l0_L] := by
  have hl : loopsOf (bodyOf Tryd.f38) = [.loop g38_talikref01_Place_l0_c] := by kernel_rfl
  rw [hl]; exact ⟨g38_talikref01_Place_l0_V, trivial⟩
theorem g38_talikref01_Place_ent : Ent Tryd.prog 38 := ⟨by decide, enters_of Tryd.func38 (by kernel_rfl) rfl⟩
theorem g38_talikref01_Place_hev : ∀ x, fnR Tryd.prog g38_talikref01_Place_C [g38_talikref01_Place_l0_L] Tryd.f38 (bodyOf Tryd.f38) (encs [.dat T25] x) ⟨[], [], 0⟩ (frzF (.dat .bool)) = g38_talikref01_Place x.1 := by
  intro x; kernel_rfl
theorem g38_talikref01_Place_valid : g38_talikref01_Place_E.Valid Tryd.prog :=
  pureE_valid (by kernel_rfl) (by kernel_rfl) g38_talikref01_Place_ent (frz_lcall mixed Tryd.func38 rfl g38_talikref01_Place_ent g38_talikref01_Place_CV g38_talikref01_Place_LV (by kernel_rfl) (by kernel_rfl) g38_talikref01_Place_hev)

noncomputable def g53_talikref01_Years_C : CalT := tabC [g67_talikref01_Span_E]
theorem g53_talikref01_Years_CV : CV Tryd.prog g53_talikref01_Years_C := tabC_valid ⟨g67_talikref01_Span_valid, trivial⟩
noncomputable def g53_talikref01_Years_l0_S : SPat := ⟨[.dat (.list T72), .any, .dat .bool, .dat (.int .i64), .any, .any, .any, .any, .any, .any, .any, .any, .any, .any, .any, .any, .any, .any, .any, .any, .any, .any, .any, .any, .any, .any, .any, .any, .any, .any, .any, .any, .any, .any, .any], [], 0⟩
noncomputable def g53_talikref01_Years_l0_step (s : (((List E72) × (Bool × (Int × Unit))) × Unit)) : Option (Nat × (((List E72) × (Bool × (Int × Unit))) × Unit)) :=
  (bif (decide (s.1.2.2.1 < (List.length s.1.1 : Int))) then
  (bif (decide (0 ≤ s.1.2.2.1) && decide (s.1.2.2.1 < (List.length s.1.1 : Int))) then
    (Option.bind (g67_talikref01_Span ((List.getD s.1.1 (Int.toNat s.1.2.2.1) ((0, (0, ())), ((0, (0, ())), ((0, (0, ())), ())))).1) 0 1000000) fun r1 =>
      (bif (!r1) then
        some (1, ((s.1.1, (false, (s.1.2.2.1, ()))), ()))
        else
        (bif (decide (0 ≤ s.1.2.2.1) && decide (s.1.2.2.1 < (List.length s.1.1 : Int))) then
          (Option.bind (g67_talikref01_Span ((List.getD s.1.1 (Int.toNat s.1.2.2.1) ((0, (0, ())), ((0, (0, ())), ((0, (0, ())), ())))).2.1) 0 1000000) fun r2 =>
            (bif (!r2) then
              some (1, ((s.1.1, (false, (s.1.2.2.1, ()))), ()))
              else
              (bif (decide (0 ≤ s.1.2.2.1) && decide (s.1.2.2.1 < (List.length s.1.1 : Int))) then
                (Option.bind (g67_talikref01_Span ((List.getD s.1.1 (Int.toNat s.1.2.2.1) ((0, (0, ())), ((0, (0, ())), ((0, (0, ())), ())))).2.2.1) 0 1000) fun r3 =>
                  (bif (!r3) then
                    some (1, ((s.1.1, (false, (s.1.2.2.1, ()))), ()))
                    else
                    some (0, ((s.1.1, (s.1.2.1, ((IntKind.wrap .i64 (s.1.2.2.1 + 1)), ()))), ()))))
                else
                none)))
          else
          none)))
    else
    none)
  else
  some (2, ((s.1.1, (s.1.2.1, (s.1.2.2.1, ()))), ())))
noncomputable def g53_talikref01_Years_l0_fuel (s : (((List E72) × (Bool × (Int × Unit))) × Unit)) : Nat := Int.toNat ((List.length s.1.1 : Int) - s.1.2.2.1) + 1
noncomputable def g53_talikref01_Years_l0_run (s : (((List E72) × (Bool × (Int × Unit))) × Unit)) : Option (Nat × (((List E72) × (Bool × (Int × Unit))) × Unit)) := iter g53_talikref01_Years_l0_step (g53_talikref01_Years_l0_fuel s) s
noncomputable def g53_talikref01_Years_l0_L : LoopT := loopT g53_talikref01_Years_l0_S [.ret, .exit 0] g53_talikref01_Years_l0_run
noncomputable def g53_talikref01_Years (a0 : (List E72)) : Option Bool :=
  (Option.bind (g53_talikref01_Years_l0_run ((a0, (false, (0, ()))), ())) fun q4 =>
  (natK q4.1
    (some q4.2.1.2.1)
    (fun _ => some true)))
noncomputable def g53_talikref01_Years_E : CEnt := pureE 53 [.dat (.list T72)] (.dat .bool) fun x => g53_talikref01_Years x.1
noncomputable def g53_talikref01_Years_l0_c : Code := loopAt (bodyOf Tryd.f53) 0
theorem g53_talikref01_Years_l0_V : LValid 0 Tryd.prog (.loop g53_talikref01_Years_l0_c) g53_talikref01_Years_l0_L false := by
  have hb : ∀ s, codeR Tryd.prog g53_talikref01_Years_C g53_talikref01_Years_l0_c [] (g53_talikref01_Years_l0_S.encE s) (g53_talikref01_Years_l0_S.encB s) (kst g53_talikref01_Years_l0_S [.ret, .exit 0]) = g53_talikref01_Years_l0_step s := by
    intro s; kernel_rfl
  have hL : LV 0 Tryd.prog false (loopsOf g53_talikref01_Years_l0_c) [] := by unfold LV; cases loopsOf g53_talikref01_Years_l0_c <;> trivial
  exact loopT_valid (fuel := g53_talikref01_Years_l0_fuel) mixed g53_talikref01_Years_CV hL (by kernel_rfl) (by decide) rfl hb (fun s r h => h)
theorem g53_talikref01_Years_LV : LV 0 Tryd.prog false (loopsOf (bodyOf Tryd.f53)) [g53_talikref01_Years_l0_L] := by
  have hl : loopsOf (bodyOf Tryd.f53) = [.loop g53_talikref01_Years_l0_c] := by kernel_rfl
  rw [hl]; exact ⟨g53_talikref01_Years_l0_V, trivial⟩
theorem g53_talikref01_Years_ent : Ent Tryd.prog 53 := ⟨by decide, enters_of Tryd.func53 (by kernel_rfl) rfl⟩
theorem g53_talikref01_Years_hev : ∀ x, fnR Tryd.prog g53_talikref01_Years_C [g53_talikref01_Years_l0_L] Tryd.f53 (bodyOf Tryd.f53) (encs [.dat (.list T72)] x) ⟨[], [], 0⟩ (frzF (.dat .bool)) = g53_talikref01_Years x.1 := by
  intro x; kernel_rfl
theorem g53_talikref01_Years_valid : g53_talikref01_Years_E.Valid Tryd.prog :=
  pureE_valid (by kernel_rfl) (by kernel_rfl) g53_talikref01_Years_ent (frz_lcall mixed Tryd.func53 rfl g53_talikref01_Years_ent g53_talikref01_Years_CV g53_talikref01_Years_LV (by kernel_rfl) (by kernel_rfl) g53_talikref01_Years_hev)

noncomputable def g17_taliklaw01_wanted_C : CalT := tabC [g38_talikref01_Place_E, g53_talikref01_Years_E]
theorem g17_taliklaw01_wanted_CV : CV Tryd.prog g17_taliklaw01_wanted_C := tabC_valid ⟨g38_talikref01_Place_valid, g53_talikref01_Years_valid, trivial⟩
noncomputable def g17_taliklaw01_wanted (a0 : E25) (a1 : (List E72)) : Option Int :=
  (bif (decide ((List.length a1 : Int) > 12)) then
  some 3
  else
  (Option.bind (g38_talikref01_Place a0) fun r1 =>
    (bif (!r1) then
      some 2
      else
      (Option.bind (g53_talikref01_Years a1) fun r2 =>
        (bif (!r2) then
          some 2
          else
          some 0)))))
noncomputable def g17_taliklaw01_wanted_E : CEnt := pureE 17 [.dat T25, .dat (.list T72)] (.dat (.int .i64)) fun x => g17_taliklaw01_wanted x.1 x.2.1
theorem g17_taliklaw01_wanted_LV : LV 0 Tryd.prog false (loopsOf (bodyOf Tryd.f17)) [] := by unfold LV; cases loopsOf (bodyOf Tryd.f17) <;> trivial
theorem g17_taliklaw01_wanted_ent : Ent Tryd.prog 17 := ⟨by decide, enters_of Tryd.func17 (by kernel_rfl) rfl⟩
theorem g17_taliklaw01_wanted_hev : ∀ x, fnR Tryd.prog g17_taliklaw01_wanted_C [] Tryd.f17 (bodyOf Tryd.f17) (encs [.dat T25, .dat (.list T72)] x) ⟨[], [], 0⟩ (frzF (.dat (.int .i64))) = g17_taliklaw01_wanted x.1 x.2.1 := by
  intro x; kernel_rfl
theorem g17_taliklaw01_wanted_valid : g17_taliklaw01_wanted_E.Valid Tryd.prog :=
  pureE_valid (by kernel_rfl) (by kernel_rfl) g17_taliklaw01_wanted_ent (frz_lcall mixed Tryd.func17 rfl g17_taliklaw01_wanted_ent g17_taliklaw01_wanted_CV g17_taliklaw01_wanted_LV (by kernel_rfl) (by kernel_rfl) g17_taliklaw01_wanted_hev)

noncomputable def g25_talikref01_Inside_C : CalT := tabC [g59_talikref01_in_E]
theorem g25_talikref01_Inside_CV : CV Tryd.prog g25_talikref01_Inside_C := tabC_valid ⟨g59_talikref01_in_valid, trivial⟩
noncomputable def g25_talikref01_Inside (a0 : Int) (a1 : E23) : Option Bool :=
  (Option.bind (g59_talikref01_in a0 a1.1 a1.2.1) fun r1 =>
  some r1)
noncomputable def g25_talikref01_Inside_E : CEnt := pureE 25 [.dat (.int .i64), .dat T23] (.dat .bool) fun x => g25_talikref01_Inside x.1 x.2.1
theorem g25_talikref01_Inside_LV : LV 0 Tryd.prog false (loopsOf (bodyOf Tryd.f25)) [] := by unfold LV; cases loopsOf (bodyOf Tryd.f25) <;> trivial
theorem g25_talikref01_Inside_ent : Ent Tryd.prog 25 := ⟨by decide, enters_of Tryd.func25 (by kernel_rfl) rfl⟩
theorem g25_talikref01_Inside_hev : ∀ x, fnR Tryd.prog g25_talikref01_Inside_C [] Tryd.f25 (bodyOf Tryd.f25) (encs [.dat (.int .i64), .dat T23] x) ⟨[], [], 0⟩ (frzF (.dat .bool)) = g25_talikref01_Inside x.1 x.2.1 := by
  intro x; kernel_rfl
theorem g25_talikref01_Inside_valid : g25_talikref01_Inside_E.Valid Tryd.prog :=
  pureE_valid (by kernel_rfl) (by kernel_rfl) g25_talikref01_Inside_ent (frz_lcall mixed Tryd.func25 rfl g25_talikref01_Inside_ent g25_talikref01_Inside_CV g25_talikref01_Inside_LV (by kernel_rfl) (by kernel_rfl) g25_talikref01_Inside_hev)

noncomputable def g18_talikref01_Truth_C : CalT := tabC [g25_talikref01_Inside_E]
theorem g18_talikref01_Truth_CV : CV Tryd.prog g18_talikref01_Truth_C := tabC_valid ⟨g25_talikref01_Inside_valid, trivial⟩
noncomputable def g18_talikref01_Truth_l0_S : SPat := ⟨[.any, .dat (.list T72), .any, .fix (.bptr 0 []), .any, .fix (.bptr 1 []), .dat .bool, .dat (.int .i64), .any, .any, .any, .any, .any, .any, .any, .any, .any, .any, .any, .any, .any, .any, .any, .any, .any, .any, .any, .any, .any, .any, .any, .any, .any, .any, .any, .any, .any, .any, .any, .any, .any, .any, .any, .any, .any, .any, .any, .any, .any, .any, .any, .any, .any, .any, .any, .any, .any, .any, .any, .any, .any, .any, .any, .any, .any, .any, .any, .any, .any, .any, .any, .any, .any, .any, .any, .any, .any, .any, .any, .any, .any, .any, .any, .any, .any, .any, .any, .any, .any, .any, .any, .any, .any, .any, .any, .any, .any, .any, .any, .any, .any, .any, .any, .any, .any, .any, .any, .any, .any, .any, .any, .any, .any, .any, .any, .any, .any, .any, .any, .any, .any, .any, .any, .any, .any], [.dat T25, .dat T29], 0⟩
noncomputable def g18_talikref01_Truth_l0_step (s : (((List E72) × (Bool × (Int × Unit))) × (E25 × (E29 × Unit)))) : Option (Nat × (((List E72) × (Bool × (Int × Unit))) × (E25 × (E29 × Unit)))) :=
  (bif (decide (s.1.2.2.1 < (List.length s.2.1.1 : Int))) then
  (bif (decide (0 ≤ s.1.2.2.1) && decide (s.1.2.2.1 < (List.length s.2.2.1.1 : Int))) then
    (bif (decide (0 ≤ s.1.2.2.1) && decide (s.1.2.2.1 < (List.length s.2.1.1 : Int))) then
      (Option.bind (g25_talikref01_Inside (List.getD s.2.2.1.1 (Int.toNat s.1.2.2.1) 0) ((List.getD s.2.1.1 (Int.toNat s.1.2.2.1) (0, ((0, (0, ())), ()))).2.1)) fun r1 =>
        (bif (!r1) then
          some (1, ((s.1.1, (false, (s.1.2.2.1, ()))), (s.2.1, (s.2.2.1, ()))))
          else
          some (0, ((s.1.1, (s.1.2.1, ((IntKind.wrap .i64 (s.1.2.2.1 + 1)), ()))), (s.2.1, (s.2.2.1, ()))))))
      else
      none)
    else
    none)
  else
  some (2, ((s.1.1, (s.1.2.1, (s.1.2.2.1, ()))), (s.2.1, (s.2.2.1, ())))))
noncomputable def g18_talikref01_Truth_l0_fuel (s : (((List E72) × (Bool × (Int × Unit))) × (E25 × (E29 × Unit)))) : Nat := Int.toNat ((List.length s.2.1.1 : Int) - s.1.2.2.1) + 1
noncomputable def g18_talikref01_Truth_l0_run (s : (((List E72) × (Bool × (Int × Unit))) × (E25 × (E29 × Unit)))) : Option (Nat × (((List E72) × (Bool × (Int × Unit))) × (E25 × (E29 × Unit)))) := iter g18_talikref01_Truth_l0_step (g18_talikref01_Truth_l0_fuel s) s
noncomputable def g18_talikref01_Truth_l0_L : LoopT := loopT g18_talikref01_Truth_l0_S [.ret, .exit 0] g18_talikref01_Truth_l0_run
noncomputable def g18_talikref01_Truth_l1_S : SPat := ⟨[.any, .dat (.list T72), .any, .fix (.bptr 0 []), .any, .fix (.bptr 1 []), .dat .bool, .any, .dat (.int .i64), .any, .any, .any, .any, .any, .any, .any, .any, .any, .any, .any, .any, .any, .any, .any, .any, .any, .any, .any, .any, .any, .any, .any, .any, .any, .any, .any, .any, .any, .any, .any, .any, .any, .any, .any, .any, .any, .any, .any, .any, .any, .any, .any, .any, .any, .any, .any, .any, .any, .any, .any, .any, .any, .any, .any, .any, .any, .any, .any, .any, .any, .any, .any, .any, .any, .any, .any, .any, .any, .any, .any, .any, .any, .any, .any, .any, .any, .any, .any, .any, .any, .any, .any, .any, .any, .any, .any, .any, .any, .any, .any, .any, .any, .any, .any, .any, .any, .any, .any, .any, .any, .any, .any, .any, .any, .any, .any, .any, .any, .any, .any, .any, .any, .any, .any, .any], [.dat T25, .dat T29], 0⟩
noncomputable def g18_talikref01_Truth_l1_step (s : (((List E72) × (Bool × (Int × Unit))) × (E25 × (E29 × Unit)))) : Option (Nat × (((List E72) × (Bool × (Int × Unit))) × (E25 × (E29 × Unit)))) :=
  (bif (decide (s.1.2.2.1 < (List.length s.1.1 : Int))) then
  (bif (decide (0 ≤ s.1.2.2.1) && decide (s.1.2.2.1 < (List.length s.2.2.1.2.1 : Int))) then
    (Option.bind (g25_talikref01_Inside (List.getD s.2.2.1.2.1 (Int.toNat s.1.2.2.1) 0) s.2.1.2.1) fun r3 =>
      (bif (!r3) then
        some (1, ((s.1.1, (false, (s.1.2.2.1, ()))), (s.2.1, (s.2.2.1, ()))))
        else
        (bif (decide (0 ≤ s.1.2.2.1) && decide (s.1.2.2.1 < (List.length s.2.2.1.2.2.1 : Int))) then
          (bif (decide (0 ≤ s.1.2.2.1) && decide (s.1.2.2.1 < (List.length s.1.1 : Int))) then
            (Option.bind (g25_talikref01_Inside (List.getD s.2.2.1.2.2.1 (Int.toNat s.1.2.2.1) 0) ((List.getD s.1.1 (Int.toNat s.1.2.2.1) ((0, (0, ())), ((0, (0, ())), ((0, (0, ())), ())))).1)) fun r4 =>
              (bif (!r4) then
                some (1, ((s.1.1, (false, (s.1.2.2.1, ()))), (s.2.1, (s.2.2.1, ()))))
                else
                (bif (decide (0 ≤ s.1.2.2.1) && decide (s.1.2.2.1 < (List.length s.2.2.1.2.2.2.1 : Int))) then
                  (bif (decide (0 ≤ s.1.2.2.1) && decide (s.1.2.2.1 < (List.length s.1.1 : Int))) then
                    (Option.bind (g25_talikref01_Inside (List.getD s.2.2.1.2.2.2.1 (Int.toNat s.1.2.2.1) 0) ((List.getD s.1.1 (Int.toNat s.1.2.2.1) ((0, (0, ())), ((0, (0, ())), ((0, (0, ())), ())))).2.1)) fun r5 =>
                      (bif (!r5) then
                        some (1, ((s.1.1, (false, (s.1.2.2.1, ()))), (s.2.1, (s.2.2.1, ()))))
                        else
                        (bif (decide (0 ≤ s.1.2.2.1) && decide (s.1.2.2.1 < (List.length s.2.2.1.2.2.2.2.1 : Int))) then
                          (bif (decide (0 ≤ s.1.2.2.1) && decide (s.1.2.2.1 < (List.length s.1.1 : Int))) then
                            (Option.bind (g25_talikref01_Inside (List.getD s.2.2.1.2.2.2.2.1 (Int.toNat s.1.2.2.1) 0) ((List.getD s.1.1 (Int.toNat s.1.2.2.1) ((0, (0, ())), ((0, (0, ())), ((0, (0, ())), ())))).2.2.1)) fun r6 =>
                              (bif (!r6) then
                                some (1, ((s.1.1, (false, (s.1.2.2.1, ()))), (s.2.1, (s.2.2.1, ()))))
                                else
                                some (0, ((s.1.1, (s.1.2.1, ((IntKind.wrap .i64 (s.1.2.2.1 + 1)), ()))), (s.2.1, (s.2.2.1, ()))))))
                            else
                            none)
                          else
                          none)))
                    else
                    none)
                  else
                  none)))
            else
            none)
          else
          none)))
    else
    none)
  else
  some (2, ((s.1.1, (s.1.2.1, (s.1.2.2.1, ()))), (s.2.1, (s.2.2.1, ())))))
noncomputable def g18_talikref01_Truth_l1_fuel (s : (((List E72) × (Bool × (Int × Unit))) × (E25 × (E29 × Unit)))) : Nat := Int.toNat ((List.length s.1.1 : Int) - s.1.2.2.1) + 1
noncomputable def g18_talikref01_Truth_l1_run (s : (((List E72) × (Bool × (Int × Unit))) × (E25 × (E29 × Unit)))) : Option (Nat × (((List E72) × (Bool × (Int × Unit))) × (E25 × (E29 × Unit)))) := iter g18_talikref01_Truth_l1_step (g18_talikref01_Truth_l1_fuel s) s
noncomputable def g18_talikref01_Truth_l1_L : LoopT := loopT g18_talikref01_Truth_l1_S [.ret, .exit 2] g18_talikref01_Truth_l1_run
noncomputable def g18_talikref01_Truth (a0 : E25) (a1 : (List E72)) (a2 : E29) : Option Bool :=
  (bif ((List.length a2.1 : Int) != (List.length a0.1 : Int)) then
  some false
  else
  (bif ((List.length a2.2.1 : Int) != (List.length a1 : Int)) then
    some false
    else
    (bif ((List.length a2.2.2.1 : Int) != (List.length a1 : Int)) then
      some false
      else
      (bif ((List.length a2.2.2.2.1 : Int) != (List.length a1 : Int)) then
        some false
        else
        (bif ((List.length a2.2.2.2.2.1 : Int) != (List.length a1 : Int)) then
          some false
          else
          (Option.bind (g18_talikref01_Truth_l0_run ((a1, (false, (0, ()))), (a0, (a2, ())))) fun q2 =>
            (natK q2.1
              (some q2.2.1.2.1)
              (fun _ => (Option.bind (g18_talikref01_Truth_l1_run ((q2.2.1.1, (q2.2.1.2.1, (0, ()))), (q2.2.2.1, (q2.2.2.2.1, ())))) fun q7 =>
                (natK q7.1
                  (some q7.2.1.2.1)
                  (fun _ => some true)))))))))))
noncomputable def g18_talikref01_Truth_E : CEnt := pureE 18 [.dat T25, .dat (.list T72), .dat T29] (.dat .bool) fun x => g18_talikref01_Truth x.1 x.2.1 x.2.2.1
noncomputable def g18_talikref01_Truth_l0_c : Code := loopAt (bodyOf Tryd.f18) 0
noncomputable def g18_talikref01_Truth_l1_c : Code := loopAt (bodyOf Tryd.f18) 1
theorem g18_talikref01_Truth_l0_V : LValid 0 Tryd.prog (.loop g18_talikref01_Truth_l0_c) g18_talikref01_Truth_l0_L false := by
  have hb : ∀ s, codeR Tryd.prog g18_talikref01_Truth_C g18_talikref01_Truth_l0_c [] (g18_talikref01_Truth_l0_S.encE s) (g18_talikref01_Truth_l0_S.encB s) (kst g18_talikref01_Truth_l0_S [.ret, .exit 0]) = g18_talikref01_Truth_l0_step s := by
    intro s; kernel_rfl
  have hL : LV 0 Tryd.prog false (loopsOf g18_talikref01_Truth_l0_c) [] := by unfold LV; cases loopsOf g18_talikref01_Truth_l0_c <;> trivial
  exact loopT_valid (fuel := g18_talikref01_Truth_l0_fuel) mixed g18_talikref01_Truth_CV hL (by kernel_rfl) (by decide) rfl hb (fun s r h => h)
theorem g18_talikref01_Truth_l1_V : LValid 0 Tryd.prog (.loop g18_talikref01_Truth_l1_c) g18_talikref01_Truth_l1_L false := by
  have hb : ∀ s, codeR Tryd.prog g18_talikref01_Truth_C g18_talikref01_Truth_l1_c [] (g18_talikref01_Truth_l1_S.encE s) (g18_talikref01_Truth_l1_S.encB s) (kst g18_talikref01_Truth_l1_S [.ret, .exit 2]) = g18_talikref01_Truth_l1_step s := by
    intro s; kernel_rfl
  have hL : LV 0 Tryd.prog false (loopsOf g18_talikref01_Truth_l1_c) [] := by unfold LV; cases loopsOf g18_talikref01_Truth_l1_c <;> trivial
  exact loopT_valid (fuel := g18_talikref01_Truth_l1_fuel) mixed g18_talikref01_Truth_CV hL (by kernel_rfl) (by decide) rfl hb (fun s r h => h)
theorem g18_talikref01_Truth_LV : LV 0 Tryd.prog false (loopsOf (bodyOf Tryd.f18)) [g18_talikref01_Truth_l0_L, g18_talikref01_Truth_l1_L] := by
  have hl : loopsOf (bodyOf Tryd.f18) = [.loop g18_talikref01_Truth_l0_c, .loop g18_talikref01_Truth_l1_c] := by kernel_rfl
  rw [hl]; exact ⟨g18_talikref01_Truth_l0_V, g18_talikref01_Truth_l1_V, trivial⟩
theorem g18_talikref01_Truth_ent : Ent Tryd.prog 18 := ⟨by decide, enters_of Tryd.func18 (by kernel_rfl) rfl⟩
theorem g18_talikref01_Truth_hev : ∀ x, fnR Tryd.prog g18_talikref01_Truth_C [g18_talikref01_Truth_l0_L, g18_talikref01_Truth_l1_L] Tryd.f18 (bodyOf Tryd.f18) (encs [.dat T25, .dat (.list T72), .dat T29] x) ⟨[], [], 0⟩ (frzF (.dat .bool)) = g18_talikref01_Truth x.1 x.2.1 x.2.2.1 := by
  intro x; kernel_rfl
theorem g18_talikref01_Truth_valid : g18_talikref01_Truth_E.Valid Tryd.prog :=
  pureE_valid (by kernel_rfl) (by kernel_rfl) g18_talikref01_Truth_ent (frz_lcall mixed Tryd.func18 rfl g18_talikref01_Truth_ent g18_talikref01_Truth_CV g18_talikref01_Truth_LV (by kernel_rfl) (by kernel_rfl) g18_talikref01_Truth_hev)

noncomputable def g54_talikref01_Summer_C : CalT := tabC []
theorem g54_talikref01_Summer_CV : CV Tryd.prog g54_talikref01_Summer_C := tabC_valid trivial
noncomputable def g54_talikref01_Summer (a0 : E23) (a1 : Int) : Option E23 :=
  some ((if (IntKind.wrap .i64 (a0.2.1 + a1)) > a0.1 then (IntKind.wrap .i64 (a0.2.1 + a1)) else a0.1), ((IntKind.wrap .i64 (a0.2.1 + a1)), ()))
noncomputable def g54_talikref01_Summer_E : CEnt := pureE 54 [.dat T23, .dat (.int .i64)] (.dat T23) fun x => g54_talikref01_Summer x.1 x.2.1
theorem g54_talikref01_Summer_LV : LV 0 Tryd.prog false (loopsOf (bodyOf Tryd.f54)) [] := by unfold LV; cases loopsOf (bodyOf Tryd.f54) <;> trivial
theorem g54_talikref01_Summer_ent : Ent Tryd.prog 54 := ⟨by decide, enters_of Tryd.func54 (by kernel_rfl) rfl⟩
theorem g54_talikref01_Summer_hev : ∀ x, fnR Tryd.prog g54_talikref01_Summer_C [] Tryd.f54 (bodyOf Tryd.f54) (encs [.dat T23, .dat (.int .i64)] x) ⟨[], [], 0⟩ (frzF (.dat T23)) = g54_talikref01_Summer x.1 x.2.1 := by
  intro x; kernel_rfl
theorem g54_talikref01_Summer_valid : g54_talikref01_Summer_E.Valid Tryd.prog :=
  pureE_valid (by kernel_rfl) (by kernel_rfl) g54_talikref01_Summer_ent (frz_lcall mixed Tryd.func54 rfl g54_talikref01_Summer_ent g54_talikref01_Summer_CV g54_talikref01_Summer_LV (by kernel_rfl) (by kernel_rfl) g54_talikref01_Summer_hev)

noncomputable def g55_talikref01_Depth_C : CalT := tabC []
theorem g55_talikref01_Depth_CV : CV Tryd.prog g55_talikref01_Depth_C := tabC_valid trivial
noncomputable def g55_talikref01_Depth_l0_S : SPat := ⟨[.any, .dat (.list (.int .i64)), .dat (.int .i64), .fix (.bptr 0 []), .any, .any, .dat (.int .i64), .dat (.int .i64), .dat (.int .i64), .any, .any, .any, .any, .any, .any, .any, .any, .any, .any, .any, .any, .any, .any, .any, .any, .any, .any, .any, .any, .any, .any, .any, .any, .any, .any, .any, .any, .any, .any, .any, .any, .any, .any, .any, .any, .any, .any, .any, .any, .any, .any, .any, .any, .any, .any, .any, .any, .any, .any, .any, .any, .any, .any, .any, .any, .any, .any, .any, .any, .any, .any, .any, .any, .any], [.dat T25], 0⟩
noncomputable def g55_talikref01_Depth_l0_step (s : (((List Int) × (Int × (Int × (Int × (Int × Unit))))) × (E25 × Unit))) : Option (Nat × (((List Int) × (Int × (Int × (Int × (Int × Unit))))) × (E25 × Unit))) :=
  (bif (decide (s.1.2.2.2.2.1 < (List.length s.2.1.1 : Int))) then
  (bif (decide (0 ≤ s.1.2.2.2.2.1) && decide (s.1.2.2.2.2.1 < (List.length s.1.1 : Int))) then
    (bif (!decide ((List.getD s.1.1 (Int.toNat s.1.2.2.2.2.1) 0) = 0)) then
      (bif (decide ((IntKind.wrap .i64 (s.1.2.2.2.2.1 + 1)) < (List.length s.2.1.1 : Int))) then
        (bif (decide (0 ≤ s.1.2.2.2.2.1) && decide (s.1.2.2.2.2.1 < (List.length s.2.1.1 : Int))) then
          (bif (decide ((IntKind.wrap .i64 (Int.tdiv s.1.2.1 (List.getD s.1.1 (Int.toNat s.1.2.2.2.2.1) 0))) > (List.getD s.2.1.1 (Int.toNat s.1.2.2.2.2.1) (0, ((0, (0, ())), ()))).1)) then
            (bif (decide (0 ≤ s.1.2.2.2.2.1) && decide (s.1.2.2.2.2.1 < (List.length s.2.1.1 : Int))) then
              (bif (decide (0 ≤ s.1.2.2.2.2.1) && decide (s.1.2.2.2.2.1 < (List.length s.1.1 : Int))) then
                (bif (decide ((IntKind.wrap .i64 (s.1.2.2.2.2.1 + 1)) < (List.length s.2.1.1 : Int))) then
                  (bif (decide (0 ≤ s.1.2.2.2.2.1) && decide (s.1.2.2.2.2.1 < (List.length s.2.1.1 : Int))) then
                    (bif (decide ((List.getD s.2.1.1 (Int.toNat s.1.2.2.2.2.1) (0, ((0, (0, ())), ()))).1 < (List.getD s.2.1.1 (Int.toNat s.1.2.2.2.2.1) (0, ((0, (0, ())), ()))).1)) then
                      some (1, ((s.1.1, ((IntKind.wrap .i64 (s.1.2.1 - (IntKind.wrap .i64 ((List.getD s.2.1.1 (Int.toNat s.1.2.2.2.2.1) (0, ((0, (0, ())), ()))).1 * (List.getD s.1.1 (Int.toNat s.1.2.2.2.2.1) 0))))), ((IntKind.wrap .i64 (s.1.2.2.2.1 + (List.getD s.2.1.1 (Int.toNat s.1.2.2.2.2.1) (0, ((0, (0, ())), ()))).1)), ((IntKind.wrap .i64 (s.1.2.2.2.1 + (List.getD s.2.1.1 (Int.toNat s.1.2.2.2.2.1) (0, ((0, (0, ())), ()))).1)), (s.1.2.2.2.2.1, ()))))), (s.2.1, ())))
                      else
                      some (0, ((s.1.1, ((IntKind.wrap .i64 (s.1.2.1 - (IntKind.wrap .i64 ((List.getD s.2.1.1 (Int.toNat s.1.2.2.2.2.1) (0, ((0, (0, ())), ()))).1 * (List.getD s.1.1 (Int.toNat s.1.2.2.2.2.1) 0))))), (s.1.2.2.1, ((IntKind.wrap .i64 (s.1.2.2.2.1 + (List.getD s.2.1.1 (Int.toNat s.1.2.2.2.2.1) (0, ((0, (0, ())), ()))).1)), ((IntKind.wrap .i64 (s.1.2.2.2.2.1 + 1)), ()))))), (s.2.1, ()))))
                    else
                    none)
                  else
                  some (0, ((s.1.1, ((IntKind.wrap .i64 (s.1.2.1 - (IntKind.wrap .i64 ((List.getD s.2.1.1 (Int.toNat s.1.2.2.2.2.1) (0, ((0, (0, ())), ()))).1 * (List.getD s.1.1 (Int.toNat s.1.2.2.2.2.1) 0))))), (s.1.2.2.1, ((IntKind.wrap .i64 (s.1.2.2.2.1 + (List.getD s.2.1.1 (Int.toNat s.1.2.2.2.2.1) (0, ((0, (0, ())), ()))).1)), ((IntKind.wrap .i64 (s.1.2.2.2.2.1 + 1)), ()))))), (s.2.1, ()))))
                else
                none)
              else
              none)
            else
            (bif (decide (0 ≤ s.1.2.2.2.2.1) && decide (s.1.2.2.2.2.1 < (List.length s.1.1 : Int))) then
              (bif (decide ((IntKind.wrap .i64 (s.1.2.2.2.2.1 + 1)) < (List.length s.2.1.1 : Int))) then
                (bif (decide (0 ≤ s.1.2.2.2.2.1) && decide (s.1.2.2.2.2.1 < (List.length s.2.1.1 : Int))) then
                  (bif (decide ((IntKind.wrap .i64 (Int.tdiv s.1.2.1 (List.getD s.1.1 (Int.toNat s.1.2.2.2.2.1) 0))) < (List.getD s.2.1.1 (Int.toNat s.1.2.2.2.2.1) (0, ((0, (0, ())), ()))).1)) then
                    some (1, ((s.1.1, ((IntKind.wrap .i64 (s.1.2.1 - (IntKind.wrap .i64 ((IntKind.wrap .i64 (Int.tdiv s.1.2.1 (List.getD s.1.1 (Int.toNat s.1.2.2.2.2.1) 0))) * (List.getD s.1.1 (Int.toNat s.1.2.2.2.2.1) 0))))), ((IntKind.wrap .i64 (s.1.2.2.2.1 + (IntKind.wrap .i64 (Int.tdiv s.1.2.1 (List.getD s.1.1 (Int.toNat s.1.2.2.2.2.1) 0))))), ((IntKind.wrap .i64 (s.1.2.2.2.1 + (IntKind.wrap .i64 (Int.tdiv s.1.2.1 (List.getD s.1.1 (Int.toNat s.1.2.2.2.2.1) 0))))), (s.1.2.2.2.2.1, ()))))), (s.2.1, ())))
                    else
                    some (0, ((s.1.1, ((IntKind.wrap .i64 (s.1.2.1 - (IntKind.wrap .i64 ((IntKind.wrap .i64 (Int.tdiv s.1.2.1 (List.getD s.1.1 (Int.toNat s.1.2.2.2.2.1) 0))) * (List.getD s.1.1 (Int.toNat s.1.2.2.2.2.1) 0))))), (s.1.2.2.1, ((IntKind.wrap .i64 (s.1.2.2.2.1 + (IntKind.wrap .i64 (Int.tdiv s.1.2.1 (List.getD s.1.1 (Int.toNat s.1.2.2.2.2.1) 0))))), ((IntKind.wrap .i64 (s.1.2.2.2.2.1 + 1)), ()))))), (s.2.1, ()))))
                  else
                  none)
                else
                some (0, ((s.1.1, ((IntKind.wrap .i64 (s.1.2.1 - (IntKind.wrap .i64 ((IntKind.wrap .i64 (Int.tdiv s.1.2.1 (List.getD s.1.1 (Int.toNat s.1.2.2.2.2.1) 0))) * (List.getD s.1.1 (Int.toNat s.1.2.2.2.2.1) 0))))), (s.1.2.2.1, ((IntKind.wrap .i64 (s.1.2.2.2.1 + (IntKind.wrap .i64 (Int.tdiv s.1.2.1 (List.getD s.1.1 (Int.toNat s.1.2.2.2.2.1) 0))))), ((IntKind.wrap .i64 (s.1.2.2.2.2.1 + 1)), ()))))), (s.2.1, ()))))
              else
              none))
          else
          none)
        else
        (bif (decide (0 ≤ s.1.2.2.2.2.1) && decide (s.1.2.2.2.2.1 < (List.length s.1.1 : Int))) then
          (bif (decide ((IntKind.wrap .i64 (s.1.2.2.2.2.1 + 1)) < (List.length s.2.1.1 : Int))) then
            (bif (decide (0 ≤ s.1.2.2.2.2.1) && decide (s.1.2.2.2.2.1 < (List.length s.2.1.1 : Int))) then
              (bif (decide ((IntKind.wrap .i64 (Int.tdiv s.1.2.1 (List.getD s.1.1 (Int.toNat s.1.2.2.2.2.1) 0))) < (List.getD s.2.1.1 (Int.toNat s.1.2.2.2.2.1) (0, ((0, (0, ())), ()))).1)) then
                some (1, ((s.1.1, ((IntKind.wrap .i64 (s.1.2.1 - (IntKind.wrap .i64 ((IntKind.wrap .i64 (Int.tdiv s.1.2.1 (List.getD s.1.1 (Int.toNat s.1.2.2.2.2.1) 0))) * (List.getD s.1.1 (Int.toNat s.1.2.2.2.2.1) 0))))), ((IntKind.wrap .i64 (s.1.2.2.2.1 + (IntKind.wrap .i64 (Int.tdiv s.1.2.1 (List.getD s.1.1 (Int.toNat s.1.2.2.2.2.1) 0))))), ((IntKind.wrap .i64 (s.1.2.2.2.1 + (IntKind.wrap .i64 (Int.tdiv s.1.2.1 (List.getD s.1.1 (Int.toNat s.1.2.2.2.2.1) 0))))), (s.1.2.2.2.2.1, ()))))), (s.2.1, ())))
                else
                some (0, ((s.1.1, ((IntKind.wrap .i64 (s.1.2.1 - (IntKind.wrap .i64 ((IntKind.wrap .i64 (Int.tdiv s.1.2.1 (List.getD s.1.1 (Int.toNat s.1.2.2.2.2.1) 0))) * (List.getD s.1.1 (Int.toNat s.1.2.2.2.2.1) 0))))), (s.1.2.2.1, ((IntKind.wrap .i64 (s.1.2.2.2.1 + (IntKind.wrap .i64 (Int.tdiv s.1.2.1 (List.getD s.1.1 (Int.toNat s.1.2.2.2.2.1) 0))))), ((IntKind.wrap .i64 (s.1.2.2.2.2.1 + 1)), ()))))), (s.2.1, ()))))
              else
              none)
            else
            some (0, ((s.1.1, ((IntKind.wrap .i64 (s.1.2.1 - (IntKind.wrap .i64 ((IntKind.wrap .i64 (Int.tdiv s.1.2.1 (List.getD s.1.1 (Int.toNat s.1.2.2.2.2.1) 0))) * (List.getD s.1.1 (Int.toNat s.1.2.2.2.2.1) 0))))), (s.1.2.2.1, ((IntKind.wrap .i64 (s.1.2.2.2.1 + (IntKind.wrap .i64 (Int.tdiv s.1.2.1 (List.getD s.1.1 (Int.toNat s.1.2.2.2.2.1) 0))))), ((IntKind.wrap .i64 (s.1.2.2.2.2.1 + 1)), ()))))), (s.2.1, ()))))
          else
          none))
      else
      none)
    else
    none)
  else
  some (2, ((s.1.1, (s.1.2.1, (s.1.2.2.1, (s.1.2.2.2.1, (s.1.2.2.2.2.1, ()))))), (s.2.1, ()))))
noncomputable def g55_talikref01_Depth_l0_fuel (s : (((List Int) × (Int × (Int × (Int × (Int × Unit))))) × (E25 × Unit))) : Nat := Int.toNat ((List.length s.2.1.1 : Int) - s.1.2.2.2.2.1) + 1
noncomputable def g55_talikref01_Depth_l0_run (s : (((List Int) × (Int × (Int × (Int × (Int × Unit))))) × (E25 × Unit))) : Option (Nat × (((List Int) × (Int × (Int × (Int × (Int × Unit))))) × (E25 × Unit))) := iter g55_talikref01_Depth_l0_step (g55_talikref01_Depth_l0_fuel s) s
noncomputable def g55_talikref01_Depth_l0_L : LoopT := loopT g55_talikref01_Depth_l0_S [.ret, .exit 0] g55_talikref01_Depth_l0_run
noncomputable def g55_talikref01_Depth (a0 : E25) (a1 : (List Int)) (a2 : Int) : Option Int :=
  (Option.bind (g55_talikref01_Depth_l0_run ((a1, (a2, (0, (0, (0, ()))))), (a0, ()))) fun q1 =>
  (natK q1.1
    (some q1.2.1.2.2.1)
    (fun _ => some q1.2.1.2.2.2.1)))
noncomputable def g55_talikref01_Depth_E : CEnt := pureE 55 [.dat T25, .dat (.list (.int .i64)), .dat (.int .i64)] (.dat (.int .i64)) fun x => g55_talikref01_Depth x.1 x.2.1 x.2.2.1
noncomputable def g55_talikref01_Depth_l0_c : Code := loopAt (bodyOf Tryd.f55) 0
theorem g55_talikref01_Depth_l0_V : LValid 0 Tryd.prog (.loop g55_talikref01_Depth_l0_c) g55_talikref01_Depth_l0_L false := by
  have hb : ∀ s, codeR Tryd.prog g55_talikref01_Depth_C g55_talikref01_Depth_l0_c [] (g55_talikref01_Depth_l0_S.encE s) (g55_talikref01_Depth_l0_S.encB s) (kst g55_talikref01_Depth_l0_S [.ret, .exit 0]) = g55_talikref01_Depth_l0_step s := by
    intro s; kernel_rfl
  have hL : LV 0 Tryd.prog false (loopsOf g55_talikref01_Depth_l0_c) [] := by unfold LV; cases loopsOf g55_talikref01_Depth_l0_c <;> trivial
  exact loopT_valid (fuel := g55_talikref01_Depth_l0_fuel) mixed g55_talikref01_Depth_CV hL (by kernel_rfl) (by decide) rfl hb (fun s r h => h)
theorem g55_talikref01_Depth_LV : LV 0 Tryd.prog false (loopsOf (bodyOf Tryd.f55)) [g55_talikref01_Depth_l0_L] := by
  have hl : loopsOf (bodyOf Tryd.f55) = [.loop g55_talikref01_Depth_l0_c] := by kernel_rfl
  rw [hl]; exact ⟨g55_talikref01_Depth_l0_V, trivial⟩
theorem g55_talikref01_Depth_ent : Ent Tryd.prog 55 := ⟨by decide, enters_of Tryd.func55 (by kernel_rfl) rfl⟩
theorem g55_talikref01_Depth_hev : ∀ x, fnR Tryd.prog g55_talikref01_Depth_C [g55_talikref01_Depth_l0_L] Tryd.f55 (bodyOf Tryd.f55) (encs [.dat T25, .dat (.list (.int .i64)), .dat (.int .i64)] x) ⟨[], [], 0⟩ (frzF (.dat (.int .i64))) = g55_talikref01_Depth x.1 x.2.1 x.2.2.1 := by
  intro x; kernel_rfl
theorem g55_talikref01_Depth_valid : g55_talikref01_Depth_E.Valid Tryd.prog :=
  pureE_valid (by kernel_rfl) (by kernel_rfl) g55_talikref01_Depth_ent (frz_lcall mixed Tryd.func55 rfl g55_talikref01_Depth_ent g55_talikref01_Depth_CV g55_talikref01_Depth_LV (by kernel_rfl) (by kernel_rfl) g55_talikref01_Depth_hev)

noncomputable def g24_talikref01_Goes_C : CalT := tabC []
theorem g24_talikref01_Goes_CV : CV Tryd.prog g24_talikref01_Goes_C := tabC_valid trivial
noncomputable def g24_talikref01_Goes (a0 : Int) (a1 : Int) : Option Int :=
  some (IntKind.wrap .i64 (Int.tdiv (IntKind.wrap .i64 (a0 * (IntKind.wrap .i64 ((1000 : Int) - a1)))) 1000))
noncomputable def g24_talikref01_Goes_E : CEnt := pureE 24 [.dat (.int .i64), .dat (.int .i64)] (.dat (.int .i64)) fun x => g24_talikref01_Goes x.1 x.2.1
theorem g24_talikref01_Goes_LV : LV 0 Tryd.prog false (loopsOf (bodyOf Tryd.f24)) [] := by unfold LV; cases loopsOf (bodyOf Tryd.f24) <;> trivial
theorem g24_talikref01_Goes_ent : Ent Tryd.prog 24 := ⟨by decide, enters_of Tryd.func24 (by kernel_rfl) rfl⟩
theorem g24_talikref01_Goes_hev : ∀ x, fnR Tryd.prog g24_talikref01_Goes_C [] Tryd.f24 (bodyOf Tryd.f24) (encs [.dat (.int .i64), .dat (.int .i64)] x) ⟨[], [], 0⟩ (frzF (.dat (.int .i64))) = g24_talikref01_Goes x.1 x.2.1 := by
  intro x; kernel_rfl
theorem g24_talikref01_Goes_valid : g24_talikref01_Goes_E.Valid Tryd.prog :=
  pureE_valid (by kernel_rfl) (by kernel_rfl) g24_talikref01_Goes_ent (frz_lcall mixed Tryd.func24 rfl g24_talikref01_Goes_ent g24_talikref01_Goes_CV g24_talikref01_Goes_LV (by kernel_rfl) (by kernel_rfl) g24_talikref01_Goes_hev)

end Go.Proofs.YtbidmbjkjpdgdaaDoor.Abs

/-
  Functions of the ground layer, and what they come to, as typed functions; part 2. Printed by a program of mine (gen.py).
-/
set_option linter.unusedVariables false
set_option maxRecDepth 100000
namespace Go.Proofs.YtbidmbjkjpdgdaaDoor.Abs
open Go.Shelf Go.Sort
noncomputable def g56_talikref01_Winter_C : CalT := tabC []
theorem g56_talikref01_Winter_CV : CV Tryd.prog g56_talikref01_Winter_C := tabC_valid trivial
noncomputable def g56_talikref01_Winter (a0 : E23) (a1 : Int) : Option E23 :=
  (bif ((IntKind.wrap .i64 (a0.2.1 - (if a1 < a0.2.1 then a1 else a0.2.1))) == 0) then
  some (0, ((IntKind.wrap .i64 (a0.2.1 - (if a1 < a0.2.1 then a1 else a0.2.1))), ()))
  else
  some (a0.1, ((IntKind.wrap .i64 (a0.2.1 - (if a1 < a0.2.1 then a1 else a0.2.1))), ())))
noncomputable def g56_talikref01_Winter_E : CEnt := pureE 56 [.dat T23, .dat (.int .i64)] (.dat T23) fun x => g56_talikref01_Winter x.1 x.2.1
theorem g56_talikref01_Winter_LV : LV 0 Tryd.prog false (loopsOf (bodyOf Tryd.f56)) [] := by unfold LV; cases loopsOf (bodyOf Tryd.f56) <;> trivial
theorem g56_talikref01_Winter_ent : Ent Tryd.prog 56 := ⟨by decide, enters_of Tryd.func56 (by kernel_rfl) rfl⟩
theorem g56_talikref01_Winter_hev : ∀ x, fnR Tryd.prog g56_talikref01_Winter_C [] Tryd.f56 (bodyOf Tryd.f56) (encs [.dat T23, .dat (.int .i64)] x) ⟨[], [], 0⟩ (frzF (.dat T23)) = g56_talikref01_Winter x.1 x.2.1 := by
  intro x; kernel_rfl
theorem g56_talikref01_Winter_valid : g56_talikref01_Winter_E.Valid Tryd.prog :=
  pureE_valid (by kernel_rfl) (by kernel_rfl) g56_talikref01_Winter_ent (frz_lcall mixed Tryd.func56 rfl g56_talikref01_Winter_ent g56_talikref01_Winter_CV g56_talikref01_Winter_LV (by kernel_rfl) (by kernel_rfl) g56_talikref01_Winter_hev)

noncomputable def g19_talikref01_Follow_C : CalT := tabC [g54_talikref01_Summer_E, g55_talikref01_Depth_E, g24_talikref01_Goes_E, g56_talikref01_Winter_E]
theorem g19_talikref01_Follow_CV : CV Tryd.prog g19_talikref01_Follow_C := tabC_valid ⟨g54_talikref01_Summer_valid, g55_talikref01_Depth_valid, g24_talikref01_Goes_valid, g56_talikref01_Winter_valid, trivial⟩
noncomputable def g19_talikref01_Follow_l0_S : SPat := ⟨[.any, .any, .dat (.int .i64), .fix (.bptr 0 []), .fix (.bptr 1 []), .any, .any, .own 0 T23, .fix (.bptr 2 []), .dat (.int .i64), .any, .any, .any, .any, .any, .any, .any, .any, .any, .any, .any, .any, .any, .any, .any, .any, .any, .any, .any, .any, .any, .any, .any, .any, .any, .any, .any, .any, .any, .any, .any, .any, .any, .any, .any, .any, .any, .any, .any, .any, .any, .any, .any, .any, .any, .any, .any, .any, .any, .any], [.dat T25, .dat T29, .cons (.dat (.int .i64)) (.cons (.dat (.int .i64)) (.nil))], 1⟩
noncomputable def g19_talikref01_Follow_l0_step (s : ((Int × ((List E23) × (Int × Unit))) × (E25 × (E29 × ((Int × (Int × Unit)) × Unit))))) : Option (Nat × ((Int × ((List E23) × (Int × Unit))) × (E25 × (E29 × ((Int × (Int × Unit)) × Unit))))) :=
  (bif (decide (s.1.2.2.1 < (List.length s.2.2.1.2.2.1 : Int))) then
  (bif (decide (0 ≤ s.1.2.2.1) && decide (s.1.2.2.1 < (List.length s.2.2.1.2.1 : Int))) then
    (bif (decide (0 ≤ s.1.2.2.1) && decide (s.1.2.2.1 < (List.length s.2.2.1.2.2.1 : Int))) then
      (Option.bind (g54_talikref01_Summer (s.2.2.2.1.1, (s.2.2.2.1.2.1, ())) (IntKind.wrap .i64 ((List.getD s.2.2.1.2.1 (Int.toNat s.1.2.2.1) 0) + (List.getD s.2.2.1.2.2.1 (Int.toNat s.1.2.2.1) 0)))) fun r1 =>
        (Option.bind (g55_talikref01_Depth s.2.1 s.2.2.1.1 r1.1) fun r2 =>
          (bif (decide (0 ≤ s.1.2.2.1) && decide (s.1.2.2.1 < (List.length s.2.2.1.2.2.2.1 : Int))) then
            (bif (decide (0 ≤ s.1.2.2.1) && decide (s.1.2.2.1 < (List.length s.2.2.1.2.2.2.2.1 : Int))) then
              (Option.bind (g24_talikref01_Goes (List.getD s.2.2.1.2.2.2.1 (Int.toNat s.1.2.2.1) 0) (List.getD s.2.2.1.2.2.2.2.1 (Int.toNat s.1.2.2.1) 0)) fun r3 =>
                (Option.bind (g56_talikref01_Winter r1 (IntKind.wrap .i64 (r3 + s.1.1))) fun r4 =>
                  (bif (decide (List.length s.1.2.1 + List.length [(r2, (r4.2.1, ()))] ≤ LIM)) then
                    some (0, ((s.1.1, ((s.1.2.1 ++ [(r2, (r4.2.1, ()))]), ((IntKind.wrap .i64 (s.1.2.2.1 + 1)), ()))), (s.2.1, (s.2.2.1, ((r4.1, (r4.2.1, ())), ())))))
                    else
                    none)))
              else
              none)
            else
            none)))
      else
      none)
    else
    none)
  else
  some (1, ((s.1.1, (s.1.2.1, (s.1.2.2.1, ()))), (s.2.1, (s.2.2.1, ((s.2.2.2.1.1, (s.2.2.2.1.2.1, ())), ()))))))
noncomputable def g19_talikref01_Follow_l0_fuel (s : ((Int × ((List E23) × (Int × Unit))) × (E25 × (E29 × ((Int × (Int × Unit)) × Unit))))) : Nat := Int.toNat ((List.length s.2.2.1.2.2.1 : Int) - s.1.2.2.1) + 1
noncomputable def g19_talikref01_Follow_l0_run (s : ((Int × ((List E23) × (Int × Unit))) × (E25 × (E29 × ((Int × (Int × Unit)) × Unit))))) : Option (Nat × ((Int × ((List E23) × (Int × Unit))) × (E25 × (E29 × ((Int × (Int × Unit)) × Unit))))) := iter g19_talikref01_Follow_l0_step (g19_talikref01_Follow_l0_fuel s) s
noncomputable def g19_talikref01_Follow_l0_L : LoopT := loopT g19_talikref01_Follow_l0_S [.exit 0] g19_talikref01_Follow_l0_run
noncomputable def g19_talikref01_Follow (a0 : E25) (a1 : E29) (a2 : Int) : Option (List E23) :=
  (Option.bind (g19_talikref01_Follow_l0_run ((a2, ([], (0, ()))), (a0, (a1, ((0, (0, ())), ()))))) fun q5 =>
  some q5.2.1.2.1)
noncomputable def g19_talikref01_Follow_E : CEnt := pureE 19 [.dat T25, .dat T29, .dat (.int .i64)] (.dat (.list T23)) fun x => g19_talikref01_Follow x.1 x.2.1 x.2.2.1
noncomputable def g19_talikref01_Follow_l0_c : Code := loopAt (bodyOf Tryd.f19) 0
theorem g19_talikref01_Follow_l0_V : LValid 0 Tryd.prog (.loop g19_talikref01_Follow_l0_c) g19_talikref01_Follow_l0_L false := by
  have hb : ∀ s, codeR Tryd.prog g19_talikref01_Follow_C g19_talikref01_Follow_l0_c [] (g19_talikref01_Follow_l0_S.encE s) (g19_talikref01_Follow_l0_S.encB s) (kst g19_talikref01_Follow_l0_S [.exit 0]) = g19_talikref01_Follow_l0_step s := by
    intro s; kernel_rfl
  have hL : LV 0 Tryd.prog false (loopsOf g19_talikref01_Follow_l0_c) [] := by unfold LV; cases loopsOf g19_talikref01_Follow_l0_c <;> trivial
  exact loopT_valid (fuel := g19_talikref01_Follow_l0_fuel) mixed g19_talikref01_Follow_CV hL (by kernel_rfl) (by decide) rfl hb (fun s r h => h)
theorem g19_talikref01_Follow_LV : LV 0 Tryd.prog false (loopsOf (bodyOf Tryd.f19)) [g19_talikref01_Follow_l0_L] := by
  have hl : loopsOf (bodyOf Tryd.f19) = [.loop g19_talikref01_Follow_l0_c] := by kernel_rfl
  rw [hl]; exact ⟨g19_talikref01_Follow_l0_V, trivial⟩
theorem g19_talikref01_Follow_ent : Ent Tryd.prog 19 := ⟨by decide, enters_of Tryd.func19 (by kernel_rfl) rfl⟩
theorem g19_talikref01_Follow_hev : ∀ x, fnR Tryd.prog g19_talikref01_Follow_C [g19_talikref01_Follow_l0_L] Tryd.f19 (bodyOf Tryd.f19) (encs [.dat T25, .dat T29, .dat (.int .i64)] x) ⟨[], [], 0⟩ (frzF (.dat (.list T23))) = g19_talikref01_Follow x.1 x.2.1 x.2.2.1 := by
  intro x; kernel_rfl
theorem g19_talikref01_Follow_valid : g19_talikref01_Follow_E.Valid Tryd.prog :=
  pureE_valid (by kernel_rfl) (by kernel_rfl) g19_talikref01_Follow_ent (frz_lcall mixed Tryd.func19 rfl g19_talikref01_Follow_ent g19_talikref01_Follow_CV g19_talikref01_Follow_LV (by kernel_rfl) (by kernel_rfl) g19_talikref01_Follow_hev)

noncomputable def g21_talikref01_Ledger_C : CalT := tabC [g54_talikref01_Summer_E, g24_talikref01_Goes_E, g56_talikref01_Winter_E]
theorem g21_talikref01_Ledger_CV : CV Tryd.prog g21_talikref01_Ledger_C := tabC_valid ⟨g54_talikref01_Summer_valid, g24_talikref01_Goes_valid, g56_talikref01_Winter_valid, trivial⟩
noncomputable def g21_talikref01_Ledger_l0_S : SPat := ⟨[.any, .fix (.bptr 0 []), .fix (.bptr 1 []), .fix (.bptr 2 []), .fix (.bptr 3 []), .dat (.int .i64), .any, .any, .any, .any, .any, .any, .any, .any, .any, .any, .any, .any, .any, .any, .any, .any, .any, .any, .any, .any, .any, .any, .any, .any, .any, .any, .any, .any, .any, .any, .any, .any, .any, .any, .any, .any, .any, .any, .any, .any, .any, .any, .any, .any, .any, .any, .any, .any, .any, .any, .any, .any, .any, .any, .any], [.dat T29, .cons (.dat (.int .i64)) (.cons (.dat (.int .i64)) (.cons (.dat (.int .i64)) (.nil))), .cons (.dat (.int .i64)) (.cons (.dat (.int .i64)) (.nil)), .cons (.dat (.int .i64)) (.cons (.dat (.int .i64)) (.cons (.dat (.int .i64)) (.nil)))], 0⟩
noncomputable def g21_talikref01_Ledger_l0_step (s : ((Int × Unit) × (E29 × ((Int × (Int × (Int × Unit))) × ((Int × (Int × Unit)) × ((Int × (Int × (Int × Unit))) × Unit)))))) : Option (Nat × ((Int × Unit) × (E29 × ((Int × (Int × (Int × Unit))) × ((Int × (Int × Unit)) × ((Int × (Int × (Int × Unit))) × Unit)))))) :=
  (bif (decide (s.1.1 < (List.length s.2.1.2.2.1 : Int))) then
  (bif (decide (0 ≤ s.1.1) && decide (s.1.1 < (List.length s.2.1.2.1 : Int))) then
    (bif (decide (0 ≤ s.1.1) && decide (s.1.1 < (List.length s.2.1.2.2.1 : Int))) then
      (Option.bind (g54_talikref01_Summer (s.2.2.2.1.1, (s.2.2.2.1.2.1, ())) (IntKind.wrap .i64 ((List.getD s.2.1.2.1 (Int.toNat s.1.1) 0) + (List.getD s.2.1.2.2.1 (Int.toNat s.1.1) 0)))) fun r1 =>
        (bif (decide (0 ≤ s.1.1) && decide (s.1.1 < (List.length s.2.1.2.2.2.1 : Int))) then
          (bif (decide (0 ≤ s.1.1) && decide (s.1.1 < (List.length s.2.1.2.2.2.2.1 : Int))) then
            (Option.bind (g24_talikref01_Goes (List.getD s.2.1.2.2.2.1 (Int.toNat s.1.1) 0) (List.getD s.2.1.2.2.2.2.1 (Int.toNat s.1.1) 0)) fun r2 =>
              (Option.bind (g56_talikref01_Winter r1 r2) fun r3 =>
                some (0, (((IntKind.wrap .i64 (s.1.1 + 1)), ()), (s.2.1, ((s.2.2.1.1, (s.2.2.1.2.1, (s.2.2.1.2.2.1, ()))), ((r3.1, (r3.2.1, ())), (((IntKind.wrap .i64 (s.2.2.2.2.1.1 + (IntKind.wrap .i64 ((List.getD s.2.1.2.1 (Int.toNat s.1.1) 0) + (List.getD s.2.1.2.2.1 (Int.toNat s.1.1) 0))))), ((IntKind.wrap .i64 ((IntKind.wrap .i64 (s.2.2.2.2.1.2.1 + r1.2.1)) - r3.2.1)), (s.2.2.2.2.1.2.2.1, ()))), ()))))))))
            else
            none)
          else
          none))
      else
      none)
    else
    none)
  else
  some (1, ((s.1.1, ()), (s.2.1, ((s.2.2.1.1, (s.2.2.1.2.1, (s.2.2.1.2.2.1, ()))), ((s.2.2.2.1.1, (s.2.2.2.1.2.1, ())), ((s.2.2.2.2.1.1, (s.2.2.2.2.1.2.1, (s.2.2.2.2.1.2.2.1, ()))), ())))))))
noncomputable def g21_talikref01_Ledger_l0_fuel (s : ((Int × Unit) × (E29 × ((Int × (Int × (Int × Unit))) × ((Int × (Int × Unit)) × ((Int × (Int × (Int × Unit))) × Unit)))))) : Nat := Int.toNat ((List.length s.2.1.2.2.1 : Int) - s.1.1) + 1
noncomputable def g21_talikref01_Ledger_l0_run (s : ((Int × Unit) × (E29 × ((Int × (Int × (Int × Unit))) × ((Int × (Int × Unit)) × ((Int × (Int × (Int × Unit))) × Unit)))))) : Option (Nat × ((Int × Unit) × (E29 × ((Int × (Int × (Int × Unit))) × ((Int × (Int × Unit)) × ((Int × (Int × (Int × Unit))) × Unit)))))) := iter g21_talikref01_Ledger_l0_step (g21_talikref01_Ledger_l0_fuel s) s
noncomputable def g21_talikref01_Ledger_l0_L : LoopT := loopT g21_talikref01_Ledger_l0_S [.exit 0] g21_talikref01_Ledger_l0_run
noncomputable def g21_talikref01_Ledger (a0 : E29) : Option E34 :=
  (Option.bind (g21_talikref01_Ledger_l0_run ((0, ()), (a0, ((0, (0, (0, ()))), ((0, (0, ())), ((0, (0, (0, ()))), ())))))) fun q4 =>
  some (q4.2.2.2.2.2.1.1, (q4.2.2.2.2.2.1.2.1, (q4.2.2.2.2.1.2.1, ()))))
noncomputable def g21_talikref01_Ledger_E : CEnt := pureE 21 [.dat T29] (.dat T34) fun x => g21_talikref01_Ledger x.1
noncomputable def g21_talikref01_Ledger_l0_c : Code := loopAt (bodyOf Tryd.f21) 0
theorem g21_talikref01_Ledger_l0_V : LValid 0 Tryd.prog (.loop g21_talikref01_Ledger_l0_c) g21_talikref01_Ledger_l0_L false := by
  have hb : ∀ s, codeR Tryd.prog g21_talikref01_Ledger_C g21_talikref01_Ledger_l0_c [] (g21_talikref01_Ledger_l0_S.encE s) (g21_talikref01_Ledger_l0_S.encB s) (kst g21_talikref01_Ledger_l0_S [.exit 0]) = g21_talikref01_Ledger_l0_step s := by
    intro s; kernel_rfl
  have hL : LV 0 Tryd.prog false (loopsOf g21_talikref01_Ledger_l0_c) [] := by unfold LV; cases loopsOf g21_talikref01_Ledger_l0_c <;> trivial
  exact loopT_valid (fuel := g21_talikref01_Ledger_l0_fuel) mixed g21_talikref01_Ledger_CV hL (by kernel_rfl) (by decide) rfl hb (fun s r h => h)
theorem g21_talikref01_Ledger_LV : LV 0 Tryd.prog false (loopsOf (bodyOf Tryd.f21)) [g21_talikref01_Ledger_l0_L] := by
  have hl : loopsOf (bodyOf Tryd.f21) = [.loop g21_talikref01_Ledger_l0_c] := by kernel_rfl
  rw [hl]; exact ⟨g21_talikref01_Ledger_l0_V, trivial⟩
theorem g21_talikref01_Ledger_ent : Ent Tryd.prog 21 := ⟨by decide, enters_of Tryd.func21 (by kernel_rfl) rfl⟩
theorem g21_talikref01_Ledger_hev : ∀ x, fnR Tryd.prog g21_talikref01_Ledger_C [g21_talikref01_Ledger_l0_L] Tryd.f21 (bodyOf Tryd.f21) (encs [.dat T29] x) ⟨[], [], 0⟩ (frzF (.dat T34)) = g21_talikref01_Ledger x.1 := by
  intro x; kernel_rfl
theorem g21_talikref01_Ledger_valid : g21_talikref01_Ledger_E.Valid Tryd.prog :=
  pureE_valid (by kernel_rfl) (by kernel_rfl) g21_talikref01_Ledger_ent (frz_lcall mixed Tryd.func21 rfl g21_talikref01_Ledger_ent g21_talikref01_Ledger_CV g21_talikref01_Ledger_LV (by kernel_rfl) (by kernel_rfl) g21_talikref01_Ledger_hev)

noncomputable def g22_taliklaw01_fair_C : CalT := tabC [g13_taliklaw01_short_E, g14_taliklaw01_sized_E, g17_taliklaw01_wanted_E, g18_talikref01_Truth_E]
theorem g22_taliklaw01_fair_CV : CV Tryd.prog g22_taliklaw01_fair_C := tabC_valid ⟨g13_taliklaw01_short_valid, g14_taliklaw01_sized_valid, g17_taliklaw01_wanted_valid, g18_talikref01_Truth_valid, trivial⟩
noncomputable def g22_taliklaw01_fair (a0 : E25) (a1 : (List E72)) (a2 : E29) : Option Bool :=
  (Option.bind (g13_taliklaw01_short a0 a1) fun r1 =>
  (bif r1 then
    (Option.bind (g14_taliklaw01_sized a2) fun r2 =>
      (bif r2 then
        (Option.bind (g17_taliklaw01_wanted a0 a1) fun r3 =>
          (bif (r3 == 0) then
            (Option.bind (g18_talikref01_Truth a0 a1 a2) fun r4 =>
              some r4)
            else
            some false))
        else
        some false))
    else
    some false))
noncomputable def g22_taliklaw01_fair_E : CEnt := pureE 22 [.dat T25, .dat (.list T72), .dat T29] (.dat .bool) fun x => g22_taliklaw01_fair x.1 x.2.1 x.2.2.1
theorem g22_taliklaw01_fair_LV : LV 0 Tryd.prog false (loopsOf (bodyOf Tryd.f22)) [] := by unfold LV; cases loopsOf (bodyOf Tryd.f22) <;> trivial
theorem g22_taliklaw01_fair_ent : Ent Tryd.prog 22 := ⟨by decide, enters_of Tryd.func22 (by kernel_rfl) rfl⟩
theorem g22_taliklaw01_fair_hev : ∀ x, fnR Tryd.prog g22_taliklaw01_fair_C [] Tryd.f22 (bodyOf Tryd.f22) (encs [.dat T25, .dat (.list T72), .dat T29] x) ⟨[], [], 0⟩ (frzF (.dat .bool)) = g22_taliklaw01_fair x.1 x.2.1 x.2.2.1 := by
  intro x; kernel_rfl
theorem g22_taliklaw01_fair_valid : g22_taliklaw01_fair_E.Valid Tryd.prog :=
  pureE_valid (by kernel_rfl) (by kernel_rfl) g22_taliklaw01_fair_ent (frz_lcall mixed Tryd.func22 rfl g22_taliklaw01_fair_ent g22_taliklaw01_fair_CV g22_taliklaw01_fair_LV (by kernel_rfl) (by kernel_rfl) g22_taliklaw01_fair_hev)

noncomputable def g26_talikref01_End_C : CalT := tabC []
theorem g26_talikref01_End_CV : CV Tryd.prog g26_talikref01_End_C := tabC_valid trivial
noncomputable def g26_talikref01_End_l0_S : SPat := ⟨[.any, .dat (.list T72), .dat .bool, .fix (.bptr 0 []), .any, .any, .fix (.bptr 1 []), .fix (.bptr 2 []), .dat (.int .i64), .any, .any, .any, .any, .any, .any, .any, .any, .any, .any, .any, .any, .any, .any, .any, .any, .any, .any, .any, .any, .any, .any, .any, .any, .any, .any, .any, .any, .any, .any, .any, .any, .any, .any, .any, .any, .any, .any, .any, .any, .any, .any, .any, .any, .any, .any, .any, .any, .any, .any, .any, .any, .any, .any, .any, .any, .any, .any, .any, .any, .any, .any, .any, .any, .any, .any, .any, .any, .any, .any, .any, .any, .any, .any, .any, .any, .any, .any, .any, .any, .any, .any, .any, .any, .any, .any, .any, .any, .any, .any, .any, .any, .any, .any, .any, .any, .any, .any, .any, .any, .any, .any, .any, .any, .any, .any, .any, .any, .any, .any, .any, .any, .any, .any, .any, .any, .any, .any, .any, .any], [.dat T25, .cons (.own 0 (.int .i64)) (.cons (.own 1 (.int .i64)) (.cons (.own 2 (.int .i64)) (.cons (.own 3 (.int .i64)) (.cons (.own 4 (.int .i64)) (.nil))))), .cons (.own 5 (.int .i64)) (.cons (.own 6 (.int .i64)) (.cons (.own 7 (.int .i64)) (.cons (.own 8 (.int .i64)) (.cons (.own 9 (.int .i64)) (.nil)))))], 10⟩
noncomputable def g26_talikref01_End_l0_step (s : (((List E72) × (Bool × (Int × Unit))) × (E25 × (((List Int) × ((List Int) × ((List Int) × ((List Int) × ((List Int) × Unit))))) × (((List Int) × ((List Int) × ((List Int) × ((List Int) × ((List Int) × Unit))))) × Unit))))) : Option (Nat × (((List E72) × (Bool × (Int × Unit))) × (E25 × (((List Int) × ((List Int) × ((List Int) × ((List Int) × ((List Int) × Unit))))) × (((List Int) × ((List Int) × ((List Int) × ((List Int) × ((List Int) × Unit))))) × Unit))))) :=
  (bif (decide (s.1.2.2.1 < (List.length s.2.1.1 : Int))) then
  (bif (decide (0 ≤ s.1.2.2.1) && decide (s.1.2.2.1 < (List.length s.2.1.1 : Int))) then
    (bif s.1.2.1 then
      (bif (decide (0 ≤ s.1.2.2.1) && decide (s.1.2.2.1 < (List.length s.2.1.1 : Int))) then
        (bif (decide (List.length s.2.2.2.1.1 + List.length [(List.getD s.2.1.1 (Int.toNat s.1.2.2.1) (0, ((0, (0, ())), ()))).2.1.1] ≤ LIM)) then
          some (0, ((s.1.1, (s.1.2.1, ((IntKind.wrap .i64 (s.1.2.2.1 + 1)), ()))), (s.2.1, ((s.2.2.1.1, (s.2.2.1.2.1, (s.2.2.1.2.2.1, (s.2.2.1.2.2.2.1, (s.2.2.1.2.2.2.2.1, ()))))), (((s.2.2.2.1.1 ++ [(List.getD s.2.1.1 (Int.toNat s.1.2.2.1) (0, ((0, (0, ())), ()))).2.1.1]), (s.2.2.2.1.2.1, (s.2.2.2.1.2.2.1, (s.2.2.2.1.2.2.2.1, (s.2.2.2.1.2.2.2.2.1, ()))))), ())))))
          else
          none)
        else
        none)
      else
      (bif (decide (List.length s.2.2.2.1.1 + List.length [(List.getD s.2.1.1 (Int.toNat s.1.2.2.1) (0, ((0, (0, ())), ()))).2.1.2.1] ≤ LIM)) then
        some (0, ((s.1.1, (s.1.2.1, ((IntKind.wrap .i64 (s.1.2.2.1 + 1)), ()))), (s.2.1, ((s.2.2.1.1, (s.2.2.1.2.1, (s.2.2.1.2.2.1, (s.2.2.1.2.2.2.1, (s.2.2.1.2.2.2.2.1, ()))))), (((s.2.2.2.1.1 ++ [(List.getD s.2.1.1 (Int.toNat s.1.2.2.1) (0, ((0, (0, ())), ()))).2.1.2.1]), (s.2.2.2.1.2.1, (s.2.2.2.1.2.2.1, (s.2.2.2.1.2.2.2.1, (s.2.2.2.1.2.2.2.2.1, ()))))), ())))))
        else
        none))
    else
    none)
  else
  some (1, ((s.1.1, (s.1.2.1, (s.1.2.2.1, ()))), (s.2.1, ((s.2.2.1.1, (s.2.2.1.2.1, (s.2.2.1.2.2.1, (s.2.2.1.2.2.2.1, (s.2.2.1.2.2.2.2.1, ()))))), ((s.2.2.2.1.1, (s.2.2.2.1.2.1, (s.2.2.2.1.2.2.1, (s.2.2.2.1.2.2.2.1, (s.2.2.2.1.2.2.2.2.1, ()))))), ()))))))
noncomputable def g26_talikref01_End_l0_fuel (s : (((List E72) × (Bool × (Int × Unit))) × (E25 × (((List Int) × ((List Int) × ((List Int) × ((List Int) × ((List Int) × Unit))))) × (((List Int) × ((List Int) × ((List Int) × ((List Int) × ((List Int) × Unit))))) × Unit))))) : Nat := Int.toNat ((List.length s.2.1.1 : Int) - s.1.2.2.1) + 1
noncomputable def g26_talikref01_End_l0_run (s : (((List E72) × (Bool × (Int × Unit))) × (E25 × (((List Int) × ((List Int) × ((List Int) × ((List Int) × ((List Int) × Unit))))) × (((List Int) × ((List Int) × ((List Int) × ((List Int) × ((List Int) × Unit))))) × Unit))))) : Option (Nat × (((List E72) × (Bool × (Int × Unit))) × (E25 × (((List Int) × ((List Int) × ((List Int) × ((List Int) × ((List Int) × Unit))))) × (((List Int) × ((List Int) × ((List Int) × ((List Int) × ((List Int) × Unit))))) × Unit))))) := iter g26_talikref01_End_l0_step (g26_talikref01_End_l0_fuel s) s
noncomputable def g26_talikref01_End_l0_L : LoopT := loopT g26_talikref01_End_l0_S [.exit 0] g26_talikref01_End_l0_run
noncomputable def g26_talikref01_End_l1_S : SPat := ⟨[.any, .dat (.list T72), .dat .bool, .fix (.bptr 0 []), .any, .any, .fix (.bptr 1 []), .fix (.bptr 2 []), .any, .any, .dat (.int .i64), .any, .any, .any, .any, .any, .any, .any, .any, .any, .any, .any, .any, .any, .any, .any, .any, .any, .any, .any, .any, .any, .any, .any, .any, .any, .any, .any, .any, .any, .any, .any, .any, .any, .any, .any, .any, .any, .any, .any, .any, .any, .any, .any, .any, .any, .any, .any, .any, .any, .any, .any, .any, .any, .any, .any, .any, .any, .any, .any, .any, .any, .any, .any, .any, .any, .any, .any, .any, .any, .any, .any, .any, .any, .any, .any, .any, .any, .any, .any, .any, .any, .any, .any, .any, .any, .any, .any, .any, .any, .any, .any, .any, .any, .any, .any, .any, .any, .any, .any, .any, .any, .any, .any, .any, .any, .any, .any, .any, .any, .any, .any, .any, .any, .any, .any, .any, .any, .any], [.dat T25, .cons (.own 0 (.int .i64)) (.cons (.own 1 (.int .i64)) (.cons (.own 2 (.int .i64)) (.cons (.own 3 (.int .i64)) (.cons (.own 4 (.int .i64)) (.nil))))), .cons (.own 5 (.int .i64)) (.cons (.own 6 (.int .i64)) (.cons (.own 7 (.int .i64)) (.cons (.own 8 (.int .i64)) (.cons (.own 9 (.int .i64)) (.nil)))))], 10⟩
noncomputable def g26_talikref01_End_l1_step (s : (((List E72) × (Bool × (Int × Unit))) × (E25 × (((List Int) × ((List Int) × ((List Int) × ((List Int) × ((List Int) × Unit))))) × (((List Int) × ((List Int) × ((List Int) × ((List Int) × ((List Int) × Unit))))) × Unit))))) : Option (Nat × (((List E72) × (Bool × (Int × Unit))) × (E25 × (((List Int) × ((List Int) × ((List Int) × ((List Int) × ((List Int) × Unit))))) × (((List Int) × ((List Int) × ((List Int) × ((List Int) × ((List Int) × Unit))))) × Unit))))) :=
  (bif (decide (s.1.2.2.1 < (List.length s.1.1 : Int))) then
  (bif s.1.2.1 then
    (bif (decide (List.length s.2.2.2.1.2.1 + List.length [s.2.1.2.1.2.1] ≤ LIM)) then
      (bif (decide (0 ≤ s.1.2.2.1) && decide (s.1.2.2.1 < (List.length s.1.1 : Int))) then
        (bif (decide (List.length s.2.2.2.1.2.2.1 + List.length [(List.getD s.1.1 (Int.toNat s.1.2.2.1) ((0, (0, ())), ((0, (0, ())), ((0, (0, ())), ())))).1.2.1] ≤ LIM)) then
          (bif (decide (0 ≤ s.1.2.2.1) && decide (s.1.2.2.1 < (List.length s.1.1 : Int))) then
            (bif (decide (List.length s.2.2.2.1.2.2.2.1 + List.length [(List.getD s.1.1 (Int.toNat s.1.2.2.1) ((0, (0, ())), ((0, (0, ())), ((0, (0, ())), ())))).2.1.1] ≤ LIM)) then
              (bif (decide (0 ≤ s.1.2.2.1) && decide (s.1.2.2.1 < (List.length s.1.1 : Int))) then
                (bif (decide (List.length s.2.2.2.1.2.2.2.2.1 + List.length [(List.getD s.1.1 (Int.toNat s.1.2.2.1) ((0, (0, ())), ((0, (0, ())), ((0, (0, ())), ())))).2.2.1.2.1] ≤ LIM)) then
                  some (0, ((s.1.1, (s.1.2.1, ((IntKind.wrap .i64 (s.1.2.2.1 + 1)), ()))), (s.2.1, ((s.2.2.1.1, (s.2.2.1.2.1, (s.2.2.1.2.2.1, (s.2.2.1.2.2.2.1, (s.2.2.1.2.2.2.2.1, ()))))), ((s.2.2.2.1.1, ((s.2.2.2.1.2.1 ++ [s.2.1.2.1.2.1]), ((s.2.2.2.1.2.2.1 ++ [(List.getD s.1.1 (Int.toNat s.1.2.2.1) ((0, (0, ())), ((0, (0, ())), ((0, (0, ())), ())))).1.2.1]), ((s.2.2.2.1.2.2.2.1 ++ [(List.getD s.1.1 (Int.toNat s.1.2.2.1) ((0, (0, ())), ((0, (0, ())), ((0, (0, ())), ())))).2.1.1]), ((s.2.2.2.1.2.2.2.2.1 ++ [(List.getD s.1.1 (Int.toNat s.1.2.2.1) ((0, (0, ())), ((0, (0, ())), ((0, (0, ())), ())))).2.2.1.2.1]), ()))))), ())))))
                  else
                  none)
                else
                none)
              else
              none)
            else
            none)
          else
          none)
        else
        none)
      else
      none)
    else
    (bif (decide (List.length s.2.2.2.1.2.1 + List.length [s.2.1.2.1.1] ≤ LIM)) then
      (bif (decide (0 ≤ s.1.2.2.1) && decide (s.1.2.2.1 < (List.length s.1.1 : Int))) then
        (bif (decide (List.length s.2.2.2.1.2.2.1 + List.length [(List.getD s.1.1 (Int.toNat s.1.2.2.1) ((0, (0, ())), ((0, (0, ())), ((0, (0, ())), ())))).1.1] ≤ LIM)) then
          (bif (decide (0 ≤ s.1.2.2.1) && decide (s.1.2.2.1 < (List.length s.1.1 : Int))) then
            (bif (decide (List.length s.2.2.2.1.2.2.2.1 + List.length [(List.getD s.1.1 (Int.toNat s.1.2.2.1) ((0, (0, ())), ((0, (0, ())), ((0, (0, ())), ())))).2.1.2.1] ≤ LIM)) then
              (bif (decide (0 ≤ s.1.2.2.1) && decide (s.1.2.2.1 < (List.length s.1.1 : Int))) then
                (bif (decide (List.length s.2.2.2.1.2.2.2.2.1 + List.length [(List.getD s.1.1 (Int.toNat s.1.2.2.1) ((0, (0, ())), ((0, (0, ())), ((0, (0, ())), ())))).2.2.1.1] ≤ LIM)) then
                  some (0, ((s.1.1, (s.1.2.1, ((IntKind.wrap .i64 (s.1.2.2.1 + 1)), ()))), (s.2.1, ((s.2.2.1.1, (s.2.2.1.2.1, (s.2.2.1.2.2.1, (s.2.2.1.2.2.2.1, (s.2.2.1.2.2.2.2.1, ()))))), ((s.2.2.2.1.1, ((s.2.2.2.1.2.1 ++ [s.2.1.2.1.1]), ((s.2.2.2.1.2.2.1 ++ [(List.getD s.1.1 (Int.toNat s.1.2.2.1) ((0, (0, ())), ((0, (0, ())), ((0, (0, ())), ())))).1.1]), ((s.2.2.2.1.2.2.2.1 ++ [(List.getD s.1.1 (Int.toNat s.1.2.2.1) ((0, (0, ())), ((0, (0, ())), ((0, (0, ())), ())))).2.1.2.1]), ((s.2.2.2.1.2.2.2.2.1 ++ [(List.getD s.1.1 (Int.toNat s.1.2.2.1) ((0, (0, ())), ((0, (0, ())), ((0, (0, ())), ())))).2.2.1.1]), ()))))), ())))))
                  else
                  none)
                else
                none)
              else
              none)
            else
            none)
          else
          none)
        else
        none)
      else
      none))
  else
  some (1, ((s.1.1, (s.1.2.1, (s.1.2.2.1, ()))), (s.2.1, ((s.2.2.1.1, (s.2.2.1.2.1, (s.2.2.1.2.2.1, (s.2.2.1.2.2.2.1, (s.2.2.1.2.2.2.2.1, ()))))), ((s.2.2.2.1.1, (s.2.2.2.1.2.1, (s.2.2.2.1.2.2.1, (s.2.2.2.1.2.2.2.1, (s.2.2.2.1.2.2.2.2.1, ()))))), ()))))))
noncomputable def g26_talikref01_End_l1_fuel (s : (((List E72) × (Bool × (Int × Unit))) × (E25 × (((List Int) × ((List Int) × ((List Int) × ((List Int) × ((List Int) × Unit))))) × (((List Int) × ((List Int) × ((List Int) × ((List Int) × ((List Int) × Unit))))) × Unit))))) : Nat := Int.toNat ((List.length s.1.1 : Int) - s.1.2.2.1) + 1
noncomputable def g26_talikref01_End_l1_run (s : (((List E72) × (Bool × (Int × Unit))) × (E25 × (((List Int) × ((List Int) × ((List Int) × ((List Int) × ((List Int) × Unit))))) × (((List Int) × ((List Int) × ((List Int) × ((List Int) × ((List Int) × Unit))))) × Unit))))) : Option (Nat × (((List E72) × (Bool × (Int × Unit))) × (E25 × (((List Int) × ((List Int) × ((List Int) × ((List Int) × ((List Int) × Unit))))) × (((List Int) × ((List Int) × ((List Int) × ((List Int) × ((List Int) × Unit))))) × Unit))))) := iter g26_talikref01_End_l1_step (g26_talikref01_End_l1_fuel s) s
noncomputable def g26_talikref01_End_l1_L : LoopT := loopT g26_talikref01_End_l1_S [.exit 2] g26_talikref01_End_l1_run
noncomputable def g26_talikref01_End (a0 : E25) (a1 : (List E72)) (a2 : Bool) : Option E29 :=
  (Option.bind (g26_talikref01_End_l0_run ((a1, (a2, (0, ()))), (a0, (([], ([], ([], ([], ([], ()))))), (([], ([], ([], ([], ([], ()))))), ()))))) fun q1 =>
  (Option.bind (g26_talikref01_End_l1_run ((q1.2.1.1, (q1.2.1.2.1, (0, ()))), (q1.2.2.1, ((q1.2.2.2.1.1, (q1.2.2.2.1.2.1, (q1.2.2.2.1.2.2.1, (q1.2.2.2.1.2.2.2.1, (q1.2.2.2.1.2.2.2.2.1, ()))))), ((q1.2.2.2.2.1.1, (q1.2.2.2.2.1.2.1, (q1.2.2.2.2.1.2.2.1, (q1.2.2.2.2.1.2.2.2.1, (q1.2.2.2.2.1.2.2.2.2.1, ()))))), ()))))) fun q2 =>
    some (q2.2.2.2.2.1.1, (q2.2.2.2.2.1.2.1, (q2.2.2.2.2.1.2.2.1, (q2.2.2.2.2.1.2.2.2.1, (q2.2.2.2.2.1.2.2.2.2.1, ())))))))
noncomputable def g26_talikref01_End_E : CEnt := pureE 26 [.dat T25, .dat (.list T72), .dat .bool] (.dat T29) fun x => g26_talikref01_End x.1 x.2.1 x.2.2.1
noncomputable def g26_talikref01_End_l0_c : Code := loopAt (bodyOf Tryd.f26) 0
noncomputable def g26_talikref01_End_l1_c : Code := loopAt (bodyOf Tryd.f26) 1
theorem g26_talikref01_End_l0_V : LValid 0 Tryd.prog (.loop g26_talikref01_End_l0_c) g26_talikref01_End_l0_L false := by
  have hb : ∀ s, codeR Tryd.prog g26_talikref01_End_C g26_talikref01_End_l0_c [] (g26_talikref01_End_l0_S.encE s) (g26_talikref01_End_l0_S.encB s) (kst g26_talikref01_End_l0_S [.exit 0]) = g26_talikref01_End_l0_step s := by
    intro s; kernel_rfl
  have hL : LV 0 Tryd.prog false (loopsOf g26_talikref01_End_l0_c) [] := by unfold LV; cases loopsOf g26_talikref01_End_l0_c <;> trivial
  exact loopT_valid (fuel := g26_talikref01_End_l0_fuel) mixed g26_talikref01_End_CV hL (by kernel_rfl) (by decide) rfl hb (fun s r h => h)
theorem g26_talikref01_End_l1_V : LValid 0 Tryd.prog (.loop g26_talikref01_End_l1_c) g26_talikref01_End_l1_L false := by
  have hb : ∀ s, codeR Tryd.prog g26_talikref01_End_C g26_talikref01_End_l1_c [] (g26_talikref01_End_l1_S.encE s) (g26_talikref01_End_l1_S.encB s) (kst g26_talikref01_End_l1_S [.exit 2]) = g26_talikref01_End_l1_step s := by
    intro s; kernel_rfl
  have hL : LV 0 Tryd.prog false (loopsOf g26_talikref01_End_l1_c) [] := by unfold LV; cases loopsOf g26_talikref01_End_l1_c <;> trivial
  exact loopT_valid (fuel := g26_talikref01_End_l1_fuel) mixed g26_talikref01_End_CV hL (by kernel_rfl) (by decide) rfl hb (fun s r h => h)
theorem g26_talikref01_End_LV : LV 0 Tryd.prog false (loopsOf (bodyOf Tryd.f26)) [g26_talikref01_End_l0_L, g26_talikref01_End_l1_L] := by
  have hl : loopsOf (bodyOf Tryd.f26) = [.loop g26_talikref01_End_l0_c, .loop g26_talikref01_End_l1_c] := by kernel_rfl
  rw [hl]; exact ⟨g26_talikref01_End_l0_V, g26_talikref01_End_l1_V, trivial⟩
theorem g26_talikref01_End_ent : Ent Tryd.prog 26 := ⟨by decide, enters_of Tryd.func26 (by kernel_rfl) rfl⟩
theorem g26_talikref01_End_hev : ∀ x, fnR Tryd.prog g26_talikref01_End_C [g26_talikref01_End_l0_L, g26_talikref01_End_l1_L] Tryd.f26 (bodyOf Tryd.f26) (encs [.dat T25, .dat (.list T72), .dat .bool] x) ⟨[], [], 0⟩ (frzF (.dat T29)) = g26_talikref01_End x.1 x.2.1 x.2.2.1 := by
  intro x; kernel_rfl
theorem g26_talikref01_End_valid : g26_talikref01_End_E.Valid Tryd.prog :=
  pureE_valid (by kernel_rfl) (by kernel_rfl) g26_talikref01_End_ent (frz_lcall mixed Tryd.func26 rfl g26_talikref01_End_ent g26_talikref01_End_CV g26_talikref01_End_LV (by kernel_rfl) (by kernel_rfl) g26_talikref01_End_hev)

noncomputable def g28_talikref01_First_C : CalT := tabC []
theorem g28_talikref01_First_CV : CV Tryd.prog g28_talikref01_First_C := tabC_valid trivial
noncomputable def g28_talikref01_First_l0_S : SPat := ⟨[.dat (.list T23), .dat (.int .i64), .any, .any, .dat (.int .i64), .dat (.int .i64), .any, .any, .any, .any, .any, .any, .any, .any, .any, .any, .any, .any, .any, .any, .any, .any], [], 0⟩
noncomputable def g28_talikref01_First_l0_step (s : (((List E23) × (Int × (Int × (Int × Unit)))) × Unit)) : Option (Nat × (((List E23) × (Int × (Int × (Int × Unit)))) × Unit)) :=
  (bif (decide (s.1.2.2.2.1 < (List.length s.1.1 : Int))) then
  (bif (decide (0 ≤ s.1.2.2.2.1) && decide (s.1.2.2.2.1 < (List.length s.1.1 : Int))) then
    (bif (decide ((List.getD s.1.1 (Int.toNat s.1.2.2.2.1) (0, (0, ()))).1 > s.1.2.1)) then
      some (1, ((s.1.1, (s.1.2.1, (s.1.2.2.2.1, (s.1.2.2.2.1, ())))), ()))
      else
      some (0, ((s.1.1, (s.1.2.1, (s.1.2.2.1, ((IntKind.wrap .i64 (s.1.2.2.2.1 + 1)), ())))), ())))
    else
    none)
  else
  some (2, ((s.1.1, (s.1.2.1, (s.1.2.2.1, (s.1.2.2.2.1, ())))), ())))
noncomputable def g28_talikref01_First_l0_fuel (s : (((List E23) × (Int × (Int × (Int × Unit)))) × Unit)) : Nat := Int.toNat ((List.length s.1.1 : Int) - s.1.2.2.2.1) + 1
noncomputable def g28_talikref01_First_l0_run (s : (((List E23) × (Int × (Int × (Int × Unit)))) × Unit)) : Option (Nat × (((List E23) × (Int × (Int × (Int × Unit)))) × Unit)) := iter g28_talikref01_First_l0_step (g28_talikref01_First_l0_fuel s) s
noncomputable def g28_talikref01_First_l0_L : LoopT := loopT g28_talikref01_First_l0_S [.ret, .exit 0] g28_talikref01_First_l0_run
noncomputable def g28_talikref01_First (a0 : (List E23)) (a1 : Int) : Option Int :=
  (Option.bind (g28_talikref01_First_l0_run ((a0, (a1, (0, (0, ())))), ())) fun q1 =>
  (natK q1.1
    (some q1.2.1.2.2.1)
    (fun _ => some (List.length q1.2.1.1 : Int))))
noncomputable def g28_talikref01_First_E : CEnt := pureE 28 [.dat (.list T23), .dat (.int .i64)] (.dat (.int .i64)) fun x => g28_talikref01_First x.1 x.2.1
noncomputable def g28_talikref01_First_l0_c : Code := loopAt (bodyOf Tryd.f28) 0
theorem g28_talikref01_First_l0_V : LValid 0 Tryd.prog (.loop g28_talikref01_First_l0_c) g28_talikref01_First_l0_L false := by
  have hb : ∀ s, codeR Tryd.prog g28_talikref01_First_C g28_talikref01_First_l0_c [] (g28_talikref01_First_l0_S.encE s) (g28_talikref01_First_l0_S.encB s) (kst g28_talikref01_First_l0_S [.ret, .exit 0]) = g28_talikref01_First_l0_step s := by
    intro s; kernel_rfl
  have hL : LV 0 Tryd.prog false (loopsOf g28_talikref01_First_l0_c) [] := by unfold LV; cases loopsOf g28_talikref01_First_l0_c <;> trivial
  exact loopT_valid (fuel := g28_talikref01_First_l0_fuel) mixed g28_talikref01_First_CV hL (by kernel_rfl) (by decide) rfl hb (fun s r h => h)
theorem g28_talikref01_First_LV : LV 0 Tryd.prog false (loopsOf (bodyOf Tryd.f28)) [g28_talikref01_First_l0_L] := by
  have hl : loopsOf (bodyOf Tryd.f28) = [.loop g28_talikref01_First_l0_c] := by kernel_rfl
  rw [hl]; exact ⟨g28_talikref01_First_l0_V, trivial⟩
theorem g28_talikref01_First_ent : Ent Tryd.prog 28 := ⟨by decide, enters_of Tryd.func28 (by kernel_rfl) rfl⟩
theorem g28_talikref01_First_hev : ∀ x, fnR Tryd.prog g28_talikref01_First_C [g28_talikref01_First_l0_L] Tryd.f28 (bodyOf Tryd.f28) (encs [.dat (.list T23), .dat (.int .i64)] x) ⟨[], [], 0⟩ (frzF (.dat (.int .i64))) = g28_talikref01_First x.1 x.2.1 := by
  intro x; kernel_rfl
theorem g28_talikref01_First_valid : g28_talikref01_First_E.Valid Tryd.prog :=
  pureE_valid (by kernel_rfl) (by kernel_rfl) g28_talikref01_First_ent (frz_lcall mixed Tryd.func28 rfl g28_talikref01_First_ent g28_talikref01_First_CV g28_talikref01_First_LV (by kernel_rfl) (by kernel_rfl) g28_talikref01_First_hev)

noncomputable def g65_talikref01_Kept_C : CalT := tabC [g26_talikref01_End_E, g19_talikref01_Follow_E, g28_talikref01_First_E]
theorem g65_talikref01_Kept_CV : CV Tryd.prog g65_talikref01_Kept_C := tabC_valid ⟨g26_talikref01_End_valid, g19_talikref01_Follow_valid, g28_talikref01_First_valid, trivial⟩
noncomputable def g65_talikref01_Kept (a0 : E25) (a1 : (List E72)) (a2 : Int) (a3 : Int) (a4 : Int) : Option Bool :=
  (bif (decide (a3 ≥ 0)) then
  (Option.bind (g26_talikref01_End (a0.1, ((a3, (a3, ())), a0.2.2)) a1 true) fun r1 =>
    (Option.bind (g19_talikref01_Follow (a0.1, ((a3, (a3, ())), a0.2.2)) r1 a4) fun r2 =>
      (Option.bind (g28_talikref01_First r2 a2) fun r3 =>
        some (r3 == (List.length a1 : Int)))))
  else
  (Option.bind (g26_talikref01_End a0 a1 true) fun r4 =>
    (Option.bind (g19_talikref01_Follow a0 r4 a4) fun r5 =>
      (Option.bind (g28_talikref01_First r5 a2) fun r6 =>
        some (r6 == (List.length a1 : Int))))))
noncomputable def g65_talikref01_Kept_E : CEnt := pureE 65 [.dat T25, .dat (.list T72), .dat (.int .i64), .dat (.int .i64), .dat (.int .i64)] (.dat .bool) fun x => g65_talikref01_Kept x.1 x.2.1 x.2.2.1 x.2.2.2.1 x.2.2.2.2.1
theorem g65_talikref01_Kept_LV : LV 0 Tryd.prog false (loopsOf (bodyOf Tryd.f65)) [] := by unfold LV; cases loopsOf (bodyOf Tryd.f65) <;> trivial
theorem g65_talikref01_Kept_ent : Ent Tryd.prog 65 := ⟨by decide, enters_of Tryd.func65 (by kernel_rfl) rfl⟩
theorem g65_talikref01_Kept_hev : ∀ x, fnR Tryd.prog g65_talikref01_Kept_C [] Tryd.f65 (bodyOf Tryd.f65) (encs [.dat T25, .dat (.list T72), .dat (.int .i64), .dat (.int .i64), .dat (.int .i64)] x) ⟨[], [], 0⟩ (frzF (.dat .bool)) = g65_talikref01_Kept x.1 x.2.1 x.2.2.1 x.2.2.2.1 x.2.2.2.2.1 := by
  intro x; kernel_rfl
theorem g65_talikref01_Kept_valid : g65_talikref01_Kept_E.Valid Tryd.prog :=
  pureE_valid (by kernel_rfl) (by kernel_rfl) g65_talikref01_Kept_ent (frz_lcall mixed Tryd.func65 rfl g65_talikref01_Kept_ent g65_talikref01_Kept_CV g65_talikref01_Kept_LV (by kernel_rfl) (by kernel_rfl) g65_talikref01_Kept_hev)

noncomputable def g31_talikref01_Allow_C : CalT := tabC [g65_talikref01_Kept_E]
theorem g31_talikref01_Allow_CV : CV Tryd.prog g31_talikref01_Allow_C := tabC_valid ⟨g65_talikref01_Kept_valid, trivial⟩
noncomputable def g31_talikref01_Allow_l0_S : SPat := ⟨[.any, .dat (.list T72), .dat (.int .i64), .fix (.bptr 0 []), .any, .any, .any, .dat (.int .i64), .dat (.int .i64), .any, .any, .any, .any, .any, .any, .any, .any, .any, .any, .any, .any, .any, .any, .any, .any, .any, .any, .any], [.dat T25], 0⟩
noncomputable def g31_talikref01_Allow_l0_step (s : (((List E72) × (Int × (Int × (Int × Unit)))) × (E25 × Unit))) : Option (Nat × (((List E72) × (Int × (Int × (Int × Unit)))) × (E25 × Unit))) :=
  (bif (decide (s.1.2.2.1 < s.1.2.2.2.1)) then
  (Option.bind (g65_talikref01_Kept s.2.1 s.1.1 s.1.2.1 (IntKind.wrap .i64 (s.1.2.2.2.1 - (IntKind.wrap .i64 (Int.tdiv (IntKind.wrap .i64 (s.1.2.2.2.1 - s.1.2.2.1)) 2)))) 0) fun r1 =>
    (bif r1 then
      some (0, ((s.1.1, (s.1.2.1, ((IntKind.wrap .i64 (s.1.2.2.2.1 - (IntKind.wrap .i64 (Int.tdiv (IntKind.wrap .i64 (s.1.2.2.2.1 - s.1.2.2.1)) 2)))), (s.1.2.2.2.1, ())))), (s.2.1, ())))
      else
      some (0, ((s.1.1, (s.1.2.1, (s.1.2.2.1, ((IntKind.wrap .i64 ((IntKind.wrap .i64 (s.1.2.2.2.1 - (IntKind.wrap .i64 (Int.tdiv (IntKind.wrap .i64 (s.1.2.2.2.1 - s.1.2.2.1)) 2)))) - 1)), ())))), (s.2.1, ())))))
  else
  some (1, ((s.1.1, (s.1.2.1, (s.1.2.2.1, (s.1.2.2.2.1, ())))), (s.2.1, ()))))
noncomputable def g31_talikref01_Allow_l0_fuel (s : (((List E72) × (Int × (Int × (Int × Unit)))) × (E25 × Unit))) : Nat := Int.toNat (s.1.2.2.2.1 - s.1.2.2.1) + 1
noncomputable def g31_talikref01_Allow_l0_run (s : (((List E72) × (Int × (Int × (Int × Unit)))) × (E25 × Unit))) : Option (Nat × (((List E72) × (Int × (Int × (Int × Unit)))) × (E25 × Unit))) := iter g31_talikref01_Allow_l0_step (g31_talikref01_Allow_l0_fuel s) s
noncomputable def g31_talikref01_Allow_l0_L : LoopT := loopT g31_talikref01_Allow_l0_S [.exit 0] g31_talikref01_Allow_l0_run
noncomputable def g31_talikref01_Allow (a0 : E25) (a1 : (List E72)) (a2 : Int) : Option Int :=
  (Option.bind (g31_talikref01_Allow_l0_run ((a1, (a2, ((-1), (1000000, ())))), (a0, ()))) fun q2 =>
  some q2.2.1.2.2.1)
noncomputable def g31_talikref01_Allow_E : CEnt := pureE 31 [.dat T25, .dat (.list T72), .dat (.int .i64)] (.dat (.int .i64)) fun x => g31_talikref01_Allow x.1 x.2.1 x.2.2.1
noncomputable def g31_talikref01_Allow_l0_c : Code := loopAt (bodyOf Tryd.f31) 0
theorem g31_talikref01_Allow_l0_V : LValid 0 Tryd.prog (.loop g31_talikref01_Allow_l0_c) g31_talikref01_Allow_l0_L false := by
  have hb : ∀ s, codeR Tryd.prog g31_talikref01_Allow_C g31_talikref01_Allow_l0_c [] (g31_talikref01_Allow_l0_S.encE s) (g31_talikref01_Allow_l0_S.encB s) (kst g31_talikref01_Allow_l0_S [.exit 0]) = g31_talikref01_Allow_l0_step s := by
    intro s; kernel_rfl
  have hL : LV 0 Tryd.prog false (loopsOf g31_talikref01_Allow_l0_c) [] := by unfold LV; cases loopsOf g31_talikref01_Allow_l0_c <;> trivial
  exact loopT_valid (fuel := g31_talikref01_Allow_l0_fuel) mixed g31_talikref01_Allow_CV hL (by kernel_rfl) (by decide) rfl hb (fun s r h => h)
theorem g31_talikref01_Allow_LV : LV 0 Tryd.prog false (loopsOf (bodyOf Tryd.f31)) [g31_talikref01_Allow_l0_L] := by
  have hl : loopsOf (bodyOf Tryd.f31) = [.loop g31_talikref01_Allow_l0_c] := by kernel_rfl
  rw [hl]; exact ⟨g31_talikref01_Allow_l0_V, trivial⟩
theorem g31_talikref01_Allow_ent : Ent Tryd.prog 31 := ⟨by decide, enters_of Tryd.func31 (by kernel_rfl) rfl⟩
theorem g31_talikref01_Allow_hev : ∀ x, fnR Tryd.prog g31_talikref01_Allow_C [g31_talikref01_Allow_l0_L] Tryd.f31 (bodyOf Tryd.f31) (encs [.dat T25, .dat (.list T72), .dat (.int .i64)] x) ⟨[], [], 0⟩ (frzF (.dat (.int .i64))) = g31_talikref01_Allow x.1 x.2.1 x.2.2.1 := by
  intro x; kernel_rfl
theorem g31_talikref01_Allow_valid : g31_talikref01_Allow_E.Valid Tryd.prog :=
  pureE_valid (by kernel_rfl) (by kernel_rfl) g31_talikref01_Allow_ent (frz_lcall mixed Tryd.func31 rfl g31_talikref01_Allow_ent g31_talikref01_Allow_CV g31_talikref01_Allow_LV (by kernel_rfl) (by kernel_rfl) g31_talikref01_Allow_hev)

noncomputable def g32_talikref01_Need_C : CalT := tabC [g65_talikref01_Kept_E]
theorem g32_talikref01_Need_CV : CV Tryd.prog g32_talikref01_Need_C := tabC_valid ⟨g65_talikref01_Kept_valid, trivial⟩
noncomputable def g32_talikref01_Need_l0_S : SPat := ⟨[.any, .dat (.list T72), .dat (.int .i64), .fix (.bptr 0 []), .any, .any, .any, .dat (.int .i64), .dat (.int .i64), .any, .any, .any, .any, .any, .any, .any, .any, .any, .any, .any, .any, .any, .any, .any, .any, .any, .any, .any, .any, .any, .any, .any, .any], [.dat T25], 0⟩
noncomputable def g32_talikref01_Need_l0_step (s : (((List E72) × (Int × (Int × (Int × Unit)))) × (E25 × Unit))) : Option (Nat × (((List E72) × (Int × (Int × (Int × Unit)))) × (E25 × Unit))) :=
  (bif (decide (s.1.2.2.1 < s.1.2.2.2.1)) then
  (Option.bind (g65_talikref01_Kept s.2.1 s.1.1 s.1.2.1 (-1) (IntKind.wrap .i64 (s.1.2.2.1 + (IntKind.wrap .i64 (Int.tdiv (IntKind.wrap .i64 (s.1.2.2.2.1 - s.1.2.2.1)) 2))))) fun r2 =>
    (bif r2 then
      some (0, ((s.1.1, (s.1.2.1, (s.1.2.2.1, ((IntKind.wrap .i64 (s.1.2.2.1 + (IntKind.wrap .i64 (Int.tdiv (IntKind.wrap .i64 (s.1.2.2.2.1 - s.1.2.2.1)) 2)))), ())))), (s.2.1, ())))
      else
      some (0, ((s.1.1, (s.1.2.1, ((IntKind.wrap .i64 ((IntKind.wrap .i64 (s.1.2.2.1 + (IntKind.wrap .i64 (Int.tdiv (IntKind.wrap .i64 (s.1.2.2.2.1 - s.1.2.2.1)) 2)))) + 1)), (s.1.2.2.2.1, ())))), (s.2.1, ())))))
  else
  some (1, ((s.1.1, (s.1.2.1, (s.1.2.2.1, (s.1.2.2.2.1, ())))), (s.2.1, ()))))
noncomputable def g32_talikref01_Need_l0_fuel (s : (((List E72) × (Int × (Int × (Int × Unit)))) × (E25 × Unit))) : Nat := Int.toNat (s.1.2.2.2.1 - s.1.2.2.1) + 1
noncomputable def g32_talikref01_Need_l0_run (s : (((List E72) × (Int × (Int × (Int × Unit)))) × (E25 × Unit))) : Option (Nat × (((List E72) × (Int × (Int × (Int × Unit)))) × (E25 × Unit))) := iter g32_talikref01_Need_l0_step (g32_talikref01_Need_l0_fuel s) s
noncomputable def g32_talikref01_Need_l0_L : LoopT := loopT g32_talikref01_Need_l0_S [.exit 0] g32_talikref01_Need_l0_run
noncomputable def g32_talikref01_Need (a0 : E25) (a1 : (List E72)) (a2 : Int) : Option Int :=
  (Option.bind (g65_talikref01_Kept a0 a1 a2 (-1) 1000000) fun r1 =>
  (bif (!r1) then
    some (-1)
    else
    (Option.bind (g32_talikref01_Need_l0_run ((a1, (a2, (0, (1000000, ())))), (a0, ()))) fun q3 =>
      some q3.2.1.2.2.1)))
noncomputable def g32_talikref01_Need_E : CEnt := pureE 32 [.dat T25, .dat (.list T72), .dat (.int .i64)] (.dat (.int .i64)) fun x => g32_talikref01_Need x.1 x.2.1 x.2.2.1
noncomputable def g32_talikref01_Need_l0_c : Code := loopAt (bodyOf Tryd.f32) 0
theorem g32_talikref01_Need_l0_V : LValid 0 Tryd.prog (.loop g32_talikref01_Need_l0_c) g32_talikref01_Need_l0_L false := by
  have hb : ∀ s, codeR Tryd.prog g32_talikref01_Need_C g32_talikref01_Need_l0_c [] (g32_talikref01_Need_l0_S.encE s) (g32_talikref01_Need_l0_S.encB s) (kst g32_talikref01_Need_l0_S [.exit 0]) = g32_talikref01_Need_l0_step s := by
    intro s; kernel_rfl
  have hL : LV 0 Tryd.prog false (loopsOf g32_talikref01_Need_l0_c) [] := by unfold LV; cases loopsOf g32_talikref01_Need_l0_c <;> trivial
  exact loopT_valid (fuel := g32_talikref01_Need_l0_fuel) mixed g32_talikref01_Need_CV hL (by kernel_rfl) (by decide) rfl hb (fun s r h => h)
theorem g32_talikref01_Need_LV : LV 0 Tryd.prog false (loopsOf (bodyOf Tryd.f32)) [g32_talikref01_Need_l0_L] := by
  have hl : loopsOf (bodyOf Tryd.f32) = [.loop g32_talikref01_Need_l0_c] := by kernel_rfl
  rw [hl]; exact ⟨g32_talikref01_Need_l0_V, trivial⟩
theorem g32_talikref01_Need_ent : Ent Tryd.prog 32 := ⟨by decide, enters_of Tryd.func32 (by kernel_rfl) rfl⟩
theorem g32_talikref01_Need_hev : ∀ x, fnR Tryd.prog g32_talikref01_Need_C [g32_talikref01_Need_l0_L] Tryd.f32 (bodyOf Tryd.f32) (encs [.dat T25, .dat (.list T72), .dat (.int .i64)] x) ⟨[], [], 0⟩ (frzF (.dat (.int .i64))) = g32_talikref01_Need x.1 x.2.1 x.2.2.1 := by
  intro x; kernel_rfl
theorem g32_talikref01_Need_valid : g32_talikref01_Need_E.Valid Tryd.prog :=
  pureE_valid (by kernel_rfl) (by kernel_rfl) g32_talikref01_Need_ent (frz_lcall mixed Tryd.func32 rfl g32_talikref01_Need_ent g32_talikref01_Need_CV g32_talikref01_Need_LV (by kernel_rfl) (by kernel_rfl) g32_talikref01_Need_hev)

noncomputable def g34_taliklaw01_deep_C : CalT := tabC [g27_ground_Exceeds_E]
theorem g34_taliklaw01_deep_CV : CV Tryd.prog g34_taliklaw01_deep_C := tabC_valid ⟨g27_ground_Exceeds_valid, trivial⟩
noncomputable def g34_taliklaw01_deep (a0 : E25) (a1 : (List E72)) (a2 : Int) : Option (Bool × (Bool × Unit)) :=
  (Option.bind (g27_ground_Exceeds a0 a1 a2) fun r1 =>
  some ((decide (r1.1 < (List.length a1 : Int))), ((r1.2.2.1 == 0), ())))
noncomputable def g34_taliklaw01_deep_E : CEnt := pureE 34 [.dat T25, .dat (.list T72), .dat (.int .i64)] (.tup (.cons (.dat .bool) (.cons (.dat .bool) (.nil)))) fun x => g34_taliklaw01_deep x.1 x.2.1 x.2.2.1
theorem g34_taliklaw01_deep_LV : LV 0 Tryd.prog false (loopsOf (bodyOf Tryd.f34)) [] := by unfold LV; cases loopsOf (bodyOf Tryd.f34) <;> trivial
theorem g34_taliklaw01_deep_ent : Ent Tryd.prog 34 := ⟨by decide, enters_of Tryd.func34 (by kernel_rfl) rfl⟩
theorem g34_taliklaw01_deep_hev : ∀ x, fnR Tryd.prog g34_taliklaw01_deep_C [] Tryd.f34 (bodyOf Tryd.f34) (encs [.dat T25, .dat (.list T72), .dat (.int .i64)] x) ⟨[], [], 0⟩ (frzF (.tup (.cons (.dat .bool) (.cons (.dat .bool) (.nil))))) = g34_taliklaw01_deep x.1 x.2.1 x.2.2.1 := by
  intro x; kernel_rfl
theorem g34_taliklaw01_deep_valid : g34_taliklaw01_deep_E.Valid Tryd.prog :=
  pureE_valid (by kernel_rfl) (by kernel_rfl) g34_taliklaw01_deep_ent (frz_lcall mixed Tryd.func34 rfl g34_taliklaw01_deep_ent g34_taliklaw01_deep_CV g34_taliklaw01_deep_LV (by kernel_rfl) (by kernel_rfl) g34_taliklaw01_deep_hev)

noncomputable def g37_ground_Check_C : CalT := tabC [g66_ground_valid_E]
theorem g37_ground_Check_CV : CV Tryd.prog g37_ground_Check_C := tabC_valid ⟨g66_ground_valid_valid, trivial⟩
noncomputable def g37_ground_Check (a0 : E25) : Option Int :=
  (Option.bind (g66_ground_valid a0) fun r1 =>
  (bif (!r1) then
    some 2
    else
    some 0))
noncomputable def g37_ground_Check_E : CEnt := pureE 37 [.dat T25] (.dat (.int .i64)) fun x => g37_ground_Check x.1
theorem g37_ground_Check_LV : LV 0 Tryd.prog false (loopsOf (bodyOf Tryd.f37)) [] := by unfold LV; cases loopsOf (bodyOf Tryd.f37) <;> trivial
theorem g37_ground_Check_ent : Ent Tryd.prog 37 := ⟨by decide, enters_of Tryd.func37 (by kernel_rfl) rfl⟩
theorem g37_ground_Check_hev : ∀ x, fnR Tryd.prog g37_ground_Check_C [] Tryd.f37 (bodyOf Tryd.f37) (encs [.dat T25] x) ⟨[], [], 0⟩ (frzF (.dat (.int .i64))) = g37_ground_Check x.1 := by
  intro x; kernel_rfl
theorem g37_ground_Check_valid : g37_ground_Check_E.Valid Tryd.prog :=
  pureE_valid (by kernel_rfl) (by kernel_rfl) g37_ground_Check_ent (frz_lcall mixed Tryd.func37 rfl g37_ground_Check_ent g37_ground_Check_CV g37_ground_Check_LV (by kernel_rfl) (by kernel_rfl) g37_ground_Check_hev)

noncomputable def g40_talikref01_Known_C : CalT := tabC [g26_talikref01_End_E, g19_talikref01_Follow_E]
theorem g40_talikref01_Known_CV : CV Tryd.prog g40_talikref01_Known_C := tabC_valid ⟨g26_talikref01_End_valid, g19_talikref01_Follow_valid, trivial⟩
noncomputable def g40_talikref01_Known_l0_S : SPat := ⟨[.any, .dat (.list T72), .any, .any, .any, .dat (.list T23), .dat (.list T23), .own 0 T53, .dat (.int .i64), .any, .any, .any, .any, .any, .any, .any, .any, .any, .any, .any, .any, .any, .any, .any, .any, .any, .any, .any, .any, .any, .any, .any, .any, .any, .any, .any, .any, .any, .any, .any, .any, .any, .any, .any, .any, .any, .any, .any, .any, .any, .any, .any, .any, .any, .any, .any, .any, .any, .any, .any, .any, .any, .any, .any, .any, .any], [.dat T25], 1⟩
noncomputable def g40_talikref01_Known_l0_step (s : (((List E72) × ((List E23) × ((List E23) × ((List E53) × (Int × Unit))))) × (E25 × Unit))) : Option (Nat × (((List E72) × ((List E23) × ((List E23) × ((List E53) × (Int × Unit))))) × (E25 × Unit))) :=
  (bif (decide (s.1.2.2.2.2.1 < (List.length s.1.1 : Int))) then
  (bif (decide (0 ≤ s.1.2.2.2.2.1) && decide (s.1.2.2.2.2.1 < (List.length s.1.2.1 : Int))) then
    (bif (decide ((List.getD s.1.2.1 (Int.toNat s.1.2.2.2.2.1) (0, (0, ()))).2.1 > 0)) then
      (bif (decide (0 ≤ s.1.2.2.2.2.1) && decide (s.1.2.2.2.2.1 < (List.length s.1.2.2.1 : Int))) then
        (bif ((List.getD s.1.2.2.1 (Int.toNat s.1.2.2.2.2.1) (0, (0, ()))).2.1 == 0) then
          (bif (decide (0 ≤ s.1.2.2.2.2.1) && decide (s.1.2.2.2.2.1 < (List.length s.1.2.1 : Int))) then
            (bif (decide (0 ≤ s.1.2.2.2.2.1) && decide (s.1.2.2.2.2.1 < (List.length s.1.2.2.1 : Int))) then
              (bif (decide (0 ≤ s.1.2.2.2.2.1) && decide (s.1.2.2.2.2.1 < (List.length s.1.2.1 : Int))) then
                (bif (decide (0 ≤ s.1.2.2.2.2.1) && decide (s.1.2.2.2.2.1 < (List.length s.1.2.2.1 : Int))) then
                  (bif (decide (List.length s.1.2.2.2.1 + List.length [(((List.getD s.1.2.1 (Int.toNat s.1.2.2.2.2.1) (0, (0, ()))).1, ((List.getD s.1.2.2.1 (Int.toNat s.1.2.2.2.2.1) (0, (0, ()))).1, ())), (((List.getD s.1.2.1 (Int.toNat s.1.2.2.2.2.1) (0, (0, ()))).2.1, ((List.getD s.1.2.2.1 (Int.toNat s.1.2.2.2.2.1) (0, (0, ()))).2.1, ())), (1, ())))] ≤ LIM)) then
                    some (0, ((s.1.1, (s.1.2.1, (s.1.2.2.1, ((s.1.2.2.2.1 ++ [(((List.getD s.1.2.1 (Int.toNat s.1.2.2.2.2.1) (0, (0, ()))).1, ((List.getD s.1.2.2.1 (Int.toNat s.1.2.2.2.2.1) (0, (0, ()))).1, ())), (((List.getD s.1.2.1 (Int.toNat s.1.2.2.2.2.1) (0, (0, ()))).2.1, ((List.getD s.1.2.2.1 (Int.toNat s.1.2.2.2.2.1) (0, (0, ()))).2.1, ())), (1, ())))]), ((IntKind.wrap .i64 (s.1.2.2.2.2.1 + 1)), ()))))), (s.2.1, ())))
                    else
                    none)
                  else
                  none)
                else
                none)
              else
              none)
            else
            none)
          else
          (bif (decide (0 ≤ s.1.2.2.2.2.1) && decide (s.1.2.2.2.2.1 < (List.length s.1.2.1 : Int))) then
            (bif (decide (0 ≤ s.1.2.2.2.2.1) && decide (s.1.2.2.2.2.1 < (List.length s.1.2.2.1 : Int))) then
              (bif (decide (0 ≤ s.1.2.2.2.2.1) && decide (s.1.2.2.2.2.1 < (List.length s.1.2.1 : Int))) then
                (bif (decide (0 ≤ s.1.2.2.2.2.1) && decide (s.1.2.2.2.2.1 < (List.length s.1.2.2.1 : Int))) then
                  (bif (decide (List.length s.1.2.2.2.1 + List.length [(((List.getD s.1.2.1 (Int.toNat s.1.2.2.2.2.1) (0, (0, ()))).1, ((List.getD s.1.2.2.1 (Int.toNat s.1.2.2.2.2.1) (0, (0, ()))).1, ())), (((List.getD s.1.2.1 (Int.toNat s.1.2.2.2.2.1) (0, (0, ()))).2.1, ((List.getD s.1.2.2.1 (Int.toNat s.1.2.2.2.2.1) (0, (0, ()))).2.1, ())), (3, ())))] ≤ LIM)) then
                    some (0, ((s.1.1, (s.1.2.1, (s.1.2.2.1, ((s.1.2.2.2.1 ++ [(((List.getD s.1.2.1 (Int.toNat s.1.2.2.2.2.1) (0, (0, ()))).1, ((List.getD s.1.2.2.1 (Int.toNat s.1.2.2.2.2.1) (0, (0, ()))).1, ())), (((List.getD s.1.2.1 (Int.toNat s.1.2.2.2.2.1) (0, (0, ()))).2.1, ((List.getD s.1.2.2.1 (Int.toNat s.1.2.2.2.2.1) (0, (0, ()))).2.1, ())), (3, ())))]), ((IntKind.wrap .i64 (s.1.2.2.2.2.1 + 1)), ()))))), (s.2.1, ())))
                    else
                    none)
                  else
                  none)
                else
                none)
              else
              none)
            else
            none))
        else
        none)
      else
      (bif (decide (0 ≤ s.1.2.2.2.2.1) && decide (s.1.2.2.2.2.1 < (List.length s.1.2.2.1 : Int))) then
        (bif ((List.getD s.1.2.2.1 (Int.toNat s.1.2.2.2.2.1) (0, (0, ()))).2.1 == 0) then
          (bif (decide (0 ≤ s.1.2.2.2.2.1) && decide (s.1.2.2.2.2.1 < (List.length s.1.2.1 : Int))) then
            (bif (decide (0 ≤ s.1.2.2.2.2.1) && decide (s.1.2.2.2.2.1 < (List.length s.1.2.2.1 : Int))) then
              (bif (decide (0 ≤ s.1.2.2.2.2.1) && decide (s.1.2.2.2.2.1 < (List.length s.1.2.1 : Int))) then
                (bif (decide (0 ≤ s.1.2.2.2.2.1) && decide (s.1.2.2.2.2.1 < (List.length s.1.2.2.1 : Int))) then
                  (bif (decide (List.length s.1.2.2.2.1 + List.length [(((List.getD s.1.2.1 (Int.toNat s.1.2.2.2.2.1) (0, (0, ()))).1, ((List.getD s.1.2.2.1 (Int.toNat s.1.2.2.2.2.1) (0, (0, ()))).1, ())), (((List.getD s.1.2.1 (Int.toNat s.1.2.2.2.2.1) (0, (0, ()))).2.1, ((List.getD s.1.2.2.1 (Int.toNat s.1.2.2.2.2.1) (0, (0, ()))).2.1, ())), (1, ())))] ≤ LIM)) then
                    some (0, ((s.1.1, (s.1.2.1, (s.1.2.2.1, ((s.1.2.2.2.1 ++ [(((List.getD s.1.2.1 (Int.toNat s.1.2.2.2.2.1) (0, (0, ()))).1, ((List.getD s.1.2.2.1 (Int.toNat s.1.2.2.2.2.1) (0, (0, ()))).1, ())), (((List.getD s.1.2.1 (Int.toNat s.1.2.2.2.2.1) (0, (0, ()))).2.1, ((List.getD s.1.2.2.1 (Int.toNat s.1.2.2.2.2.1) (0, (0, ()))).2.1, ())), (1, ())))]), ((IntKind.wrap .i64 (s.1.2.2.2.2.1 + 1)), ()))))), (s.2.1, ())))
                    else
                    none)
                  else
                  none)
                else
                none)
              else
              none)
            else
            none)
          else
          (bif (decide (0 ≤ s.1.2.2.2.2.1) && decide (s.1.2.2.2.2.1 < (List.length s.1.2.1 : Int))) then
            (bif (decide (0 ≤ s.1.2.2.2.2.1) && decide (s.1.2.2.2.2.1 < (List.length s.1.2.2.1 : Int))) then
              (bif (decide (0 ≤ s.1.2.2.2.2.1) && decide (s.1.2.2.2.2.1 < (List.length s.1.2.1 : Int))) then
                (bif (decide (0 ≤ s.1.2.2.2.2.1) && decide (s.1.2.2.2.2.1 < (List.length s.1.2.2.1 : Int))) then
                  (bif (decide (List.length s.1.2.2.2.1 + List.length [(((List.getD s.1.2.1 (Int.toNat s.1.2.2.2.2.1) (0, (0, ()))).1, ((List.getD s.1.2.2.1 (Int.toNat s.1.2.2.2.2.1) (0, (0, ()))).1, ())), (((List.getD s.1.2.1 (Int.toNat s.1.2.2.2.2.1) (0, (0, ()))).2.1, ((List.getD s.1.2.2.1 (Int.toNat s.1.2.2.2.2.1) (0, (0, ()))).2.1, ())), (2, ())))] ≤ LIM)) then
                    some (0, ((s.1.1, (s.1.2.1, (s.1.2.2.1, ((s.1.2.2.2.1 ++ [(((List.getD s.1.2.1 (Int.toNat s.1.2.2.2.2.1) (0, (0, ()))).1, ((List.getD s.1.2.2.1 (Int.toNat s.1.2.2.2.2.1) (0, (0, ()))).1, ())), (((List.getD s.1.2.1 (Int.toNat s.1.2.2.2.2.1) (0, (0, ()))).2.1, ((List.getD s.1.2.2.1 (Int.toNat s.1.2.2.2.2.1) (0, (0, ()))).2.1, ())), (2, ())))]), ((IntKind.wrap .i64 (s.1.2.2.2.2.1 + 1)), ()))))), (s.2.1, ())))
                    else
                    none)
                  else
                  none)
                else
                none)
              else
              none)
            else
            none))
        else
        none))
    else
    none)
  else
  some (1, ((s.1.1, (s.1.2.1, (s.1.2.2.1, (s.1.2.2.2.1, (s.1.2.2.2.2.1, ()))))), (s.2.1, ()))))
noncomputable def g40_talikref01_Known_l0_fuel (s : (((List E72) × ((List E23) × ((List E23) × ((List E53) × (Int × Unit))))) × (E25 × Unit))) : Nat := Int.toNat ((List.length s.1.1 : Int) - s.1.2.2.2.2.1) + 1
noncomputable def g40_talikref01_Known_l0_run (s : (((List E72) × ((List E23) × ((List E23) × ((List E53) × (Int × Unit))))) × (E25 × Unit))) : Option (Nat × (((List E72) × ((List E23) × ((List E23) × ((List E53) × (Int × Unit))))) × (E25 × Unit))) := iter g40_talikref01_Known_l0_step (g40_talikref01_Known_l0_fuel s) s
noncomputable def g40_talikref01_Known_l0_L : LoopT := loopT g40_talikref01_Known_l0_S [.exit 0] g40_talikref01_Known_l0_run
noncomputable def g40_talikref01_Known (a0 : E25) (a1 : (List E72)) : Option (List E53) :=
  (Option.bind (g26_talikref01_End a0 a1 false) fun r1 =>
  (Option.bind (g19_talikref01_Follow a0 r1 0) fun r2 =>
    (Option.bind (g26_talikref01_End a0 a1 true) fun r3 =>
      (Option.bind (g19_talikref01_Follow a0 r3 0) fun r4 =>
        (Option.bind (g40_talikref01_Known_l0_run ((a1, (r2, (r4, ([], (0, ()))))), (a0, ()))) fun q5 =>
          some q5.2.1.2.2.2.1)))))
noncomputable def g40_talikref01_Known_E : CEnt := pureE 40 [.dat T25, .dat (.list T72)] (.dat (.list T53)) fun x => g40_talikref01_Known x.1 x.2.1
noncomputable def g40_talikref01_Known_l0_c : Code := loopAt (bodyOf Tryd.f40) 0
theorem g40_talikref01_Known_l0_V : LValid 0 Tryd.prog (.loop g40_talikref01_Known_l0_c) g40_talikref01_Known_l0_L false := by
  have hb : ∀ s, codeR Tryd.prog g40_talikref01_Known_C g40_talikref01_Known_l0_c [] (g40_talikref01_Known_l0_S.encE s) (g40_talikref01_Known_l0_S.encB s) (kst g40_talikref01_Known_l0_S [.exit 0]) = g40_talikref01_Known_l0_step s := by
    intro s; kernel_rfl
  have hL : LV 0 Tryd.prog false (loopsOf g40_talikref01_Known_l0_c) [] := by unfold LV; cases loopsOf g40_talikref01_Known_l0_c <;> trivial
  exact loopT_valid (fuel := g40_talikref01_Known_l0_fuel) mixed g40_talikref01_Known_CV hL (by kernel_rfl) (by decide) rfl hb (fun s r h => h)
theorem g40_talikref01_Known_LV : LV 0 Tryd.prog false (loopsOf (bodyOf Tryd.f40)) [g40_talikref01_Known_l0_L] := by
  have hl : loopsOf (bodyOf Tryd.f40) = [.loop g40_talikref01_Known_l0_c] := by kernel_rfl
  rw [hl]; exact ⟨g40_talikref01_Known_l0_V, trivial⟩
theorem g40_talikref01_Known_ent : Ent Tryd.prog 40 := ⟨by decide, enters_of Tryd.func40 (by kernel_rfl) rfl⟩
theorem g40_talikref01_Known_hev : ∀ x, fnR Tryd.prog g40_talikref01_Known_C [g40_talikref01_Known_l0_L] Tryd.f40 (bodyOf Tryd.f40) (encs [.dat T25, .dat (.list T72)] x) ⟨[], [], 0⟩ (frzF (.dat (.list T53))) = g40_talikref01_Known x.1 x.2.1 := by
  intro x; kernel_rfl
theorem g40_talikref01_Known_valid : g40_talikref01_Known_E.Valid Tryd.prog :=
  pureE_valid (by kernel_rfl) (by kernel_rfl) g40_talikref01_Known_ent (frz_lcall mixed Tryd.func40 rfl g40_talikref01_Known_ent g40_talikref01_Known_CV g40_talikref01_Known_LV (by kernel_rfl) (by kernel_rfl) g40_talikref01_Known_hev)

end Go.Proofs.YtbidmbjkjpdgdaaDoor.Abs
