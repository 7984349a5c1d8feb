/-
  Functions of the ground layer, and what they come to, as typed functions; part 2. Printed by a program of mine (gen.py).
-/
import Derived.Test.YtbidmbjkjpdgdaaDoorGf1
set_option linter.unusedVariables false
set_option maxRecDepth 100000
namespace Go.Proofs.YtbidmbjkjpdgdaaDoor.Abs
open Go.Shelf Go.Sort
noncomputable def g56_talikref01_Winter_C : CalT := tabC []
theorem g56_talikref01_Winter_CV : CV Tryd.prog g56_talikref01_Winter_C := tabC_valid trivial
noncomputable def g56_talikref01_Winter (a0 : E23) (a1 : Int) : Option E23 :=
  (bif ((IntKind.wrap .i64 (a0.2.1 - (if a1 < a0.2.1 then a1 else a0.2.1))) == 0) then
  some (0, ((IntKind.wrap .i64 (a0.2.1 - (if a1 < a0.2.1 then a1 else a0.2.1))), ()))
  else
  some (a0.1, ((IntKind.wrap .i64 (a0.2.1 - (if a1 < a0.2.1 then a1 else a0.2.1))), ())))
noncomputable def g56_talikref01_Winter_E : CEnt := pureE 56 [.dat T23, .dat (.int .i64)] (.dat T23) fun x => g56_talikref01_Winter x.1 x.2.1
theorem g56_talikref01_Winter_LV : LV 0 Tryd.prog false (loopsOf (bodyOf Tryd.f56)) [] := by unfold LV; cases loopsOf (bodyOf Tryd.f56) <;> trivial
theorem g56_talikref01_Winter_ent : Ent Tryd.prog 56 := ⟨by decide, enters_of Tryd.func56 (by kernel_rfl) rfl⟩
theorem g56_talikref01_Winter_hev : ∀ x, fnR Tryd.prog g56_talikref01_Winter_C [] Tryd.f56 (bodyOf Tryd.f56) (encs [.dat T23, .dat (.int .i64)] x) ⟨[], [], 0⟩ (frzF (.dat T23)) = g56_talikref01_Winter x.1 x.2.1 := by
  intro x; kernel_rfl
theorem g56_talikref01_Winter_valid : g56_talikref01_Winter_E.Valid Tryd.prog :=
  pureE_valid (by kernel_rfl) (by kernel_rfl) g56_talikref01_Winter_ent (frz_lcall mixed Tryd.func56 rfl g56_talikref01_Winter_ent g56_talikref01_Winter_CV g56_talikref01_Winter_LV (by kernel_rfl) (by kernel_rfl) g56_talikref01_Winter_hev)

noncomputable def g19_talikref01_Follow_C : CalT := tabC [g54_talikref01_Summer_E, g55_talikref01_Depth_E, g24_talikref01_Goes_E, g56_talikref01_Winter_E]
theorem g19_talikref01_Follow_CV : CV Tryd.prog g19_talikref01_Follow_C := tabC_valid ⟨g54_talikref01_Summer_valid, g55_talikref01_Depth_valid, g24_talikref01_Goes_valid, g56_talikref01_Winter_valid, trivial⟩
noncomputable def g19_talikref01_Follow_l0_S : SPat := ⟨[.any, .any, .dat (.int .i64), .fix (.bptr 0 []), .fix (.bptr 1 []), .any, .any, .own 0 T23, .fix (.bptr 2 []), .dat (.int .i64), .any, .any, .any, .any, .any, .any, .any, .any, .any, .any, .any, .any, .any, .any, .any, .any, .any, .any, .any, .any, .any, .any, .any, .any, .any, .any, .any, .any, .any, .any, .any, .any, .any, .any, .any, .any, .any, .any, .any, .any, .any, .any, .any, .any, .any, .any, .any, .any, .any, .any], [.dat T25, .dat T29, .cons (.dat (.int .i64)) (.cons (.dat (.int .i64)) (.nil))], 1⟩
noncomputable def g19_talikref01_Follow_l0_step (s : ((Int × ((List E23) × (Int × Unit))) × (E25 × (E29 × ((Int × (Int × Unit)) × Unit))))) : Option (Nat × ((Int × ((List E23) × (Int × Unit))) × (E25 × (E29 × ((Int × (Int × Unit)) × Unit))))) :=
  (bif (decide (s.1.2.2.1 < (List.length s.2.2.1.2.2.1 : Int))) then
  (bif (decide (0 ≤ s.1.2.2.1) && decide (s.1.2.2.1 < (List.length s.2.2.1.2.1 : Int))) then
    (bif (decide (0 ≤ s.1.2.2.1) && decide (s.1.2.2.1 < (List.length s.2.2.1.2.2.1 : Int))) then
      (Option.bind (g54_talikref01_Summer (s.2.2.2.1.1, (s.2.2.2.1.2.1, ())) (IntKind.wrap .i64 ((List.getD s.2.2.1.2.1 (Int.toNat s.1.2.2.1) 0) + (List.getD s.2.2.1.2.2.1 (Int.toNat s.1.2.2.1) 0)))) fun r1 =>
        (Option.bind (g55_talikref01_Depth s.2.1 s.2.2.1.1 r1.1) fun r2 =>
          (bif (decide (0 ≤ s.1.2.2.1) && decide (s.1.2.2.1 < (List.length s.2.2.1.2.2.2.1 : Int))) then
            (bif (decide (0 ≤ s.1.2.2.1) && decide (s.1.2.2.1 < (List.length s.2.2.1.2.2.2.2.1 : Int))) then
              (Option.bind (g24_talikref01_Goes (List.getD s.2.2.1.2.2.2.1 (Int.toNat s.1.2.2.1) 0) (List.getD s.2.2.1.2.2.2.2.1 (Int.toNat s.1.2.2.1) 0)) fun r3 =>
                (Option.bind (g56_talikref01_Winter r1 (IntKind.wrap .i64 (r3 + s.1.1))) fun r4 =>
                  (bif (decide (List.length s.1.2.1 + List.length [(r2, (r4.2.1, ()))] ≤ LIM)) then
                    some (0, ((s.1.1, ((s.1.2.1 ++ [(r2, (r4.2.1, ()))]), ((IntKind.wrap .i64 (s.1.2.2.1 + 1)), ()))), (s.2.1, (s.2.2.1, ((r4.1, (r4.2.1, ())), ())))))
                    else
                    none)))
              else
              none)
            else
            none)))
      else
      none)
    else
    none)
  else
  some (1, ((s.1.1, (s.1.2.1, (s.1.2.2.1, ()))), (s.2.1, (s.2.2.1, ((s.2.2.2.1.1, (s.2.2.2.1.2.1, ())), ()))))))
noncomputable def g19_talikref01_Follow_l0_fuel (s : ((Int × ((List E23) × (Int × Unit))) × (E25 × (E29 × ((Int × (Int × Unit)) × Unit))))) : Nat := Int.toNat ((List.length s.2.2.1.2.2.1 : Int) - s.1.2.2.1) + 1
noncomputable def g19_talikref01_Follow_l0_run (s : ((Int × ((List E23) × (Int × Unit))) × (E25 × (E29 × ((Int × (Int × Unit)) × Unit))))) : Option (Nat × ((Int × ((List E23) × (Int × Unit))) × (E25 × (E29 × ((Int × (Int × Unit)) × Unit))))) := iter g19_talikref01_Follow_l0_step (g19_talikref01_Follow_l0_fuel s) s
noncomputable def g19_talikref01_Follow_l0_L : LoopT := loopT g19_talikref01_Follow_l0_S [.exit 0] g19_talikref01_Follow_l0_run
noncomputable def g19_talikref01_Follow (a0 : E25) (a1 : E29) (a2 : Int) : Option (List E23) :=
  (Option.bind (g19_talikref01_Follow_l0_run ((a2, ([], (0, ()))), (a0, (a1, ((0, (0, ())), ()))))) fun q5 =>
  some q5.2.1.2.1)
noncomputable def g19_talikref01_Follow_E : CEnt := pureE 19 [.dat T25, .dat T29, .dat (.int .i64)] (.dat (.list T23)) fun x => g19_talikref01_Follow x.1 x.2.1 x.2.2.1
noncomputable def g19_talikref01_Follow_l0_c : Code := loopAt (bodyOf Tryd.f19) 0
theorem g19_talikref01_Follow_l0_V : LValid 0 Tryd.prog (.loop g19_talikref01_Follow_l0_c) g19_talikref01_Follow_l0_L false := by
  have hb : ∀ s, codeR Tryd.prog g19_talikref01_Follow_C g19_talikref01_Follow_l0_c [] (g19_talikref01_Follow_l0_S.encE s) (g19_talikref01_Follow_l0_S.encB s) (kst g19_talikref01_Follow_l0_S [.exit 0]) = g19_talikref01_Follow_l0_step s := by
    intro s; kernel_rfl
  have hL : LV 0 Tryd.prog false (loopsOf g19_talikref01_Follow_l0_c) [] := by unfold LV; cases loopsOf g19_talikref01_Follow_l0_c <;> trivial
  exact loopT_valid (fuel := g19_talikref01_Follow_l0_fuel) mixed g19_talikref01_Follow_CV hL (by kernel_rfl) (by decide) rfl hb (fun s r h => h)
theorem g19_talikref01_Follow_LV : LV 0 Tryd.prog false (loopsOf (bodyOf Tryd.f19)) [g19_talikref01_Follow_l0_L] := by
  have hl : loopsOf (bodyOf Tryd.f19) = [.loop g19_talikref01_Follow_l0_c] := by kernel_rfl
  rw [hl]; exact ⟨g19_talikref01_Follow_l0_V, trivial⟩
theorem g19_talikref01_Follow_ent : Ent Tryd.prog 19 := ⟨by decide, enters_of Tryd.func19 (by kernel_rfl) rfl⟩
theorem g19_talikref01_Follow_hev : ∀ x, fnR Tryd.prog g19_talikref01_Follow_C [g19_talikref01_Follow_l0_L] Tryd.f19 (bodyOf Tryd.f19) (encs [.dat T25, .dat T29, .dat (.int .i64)] x) ⟨[], [], 0⟩ (frzF (.dat (.list T23))) = g19_talikref01_Follow x.1 x.2.1 x.2.2.1 := by
  intro x; kernel_rfl
theorem g19_talikref01_Follow_valid : g19_talikref01_Follow_E.Valid Tryd.prog :=
  pureE_valid (by kernel_rfl) (by kernel_rfl) g19_talikref01_Follow_ent (frz_lcall mixed Tryd.func19 rfl g19_talikref01_Follow_ent g19_talikref01_Follow_CV g19_talikref01_Follow_LV (by kernel_rfl) (by kernel_rfl) g19_talikref01_Follow_hev)

noncomputable def g21_talikref01_Ledger_C : CalT := tabC [g54_talikref01_Summer_E, g24_talikref01_Goes_E, g56_talikref01_Winter_E]
theorem g21_talikref01_Ledger_CV : CV Tryd.prog g21_talikref01_Ledger_C := tabC_valid ⟨g54_talikref01_Summer_valid, g24_talikref01_Goes_valid, g56_talikref01_Winter_valid, trivial⟩
noncomputable def g21_talikref01_Ledger_l0_S : SPat := ⟨[.any, .fix (.bptr 0 []), .fix (.bptr 1 []), .fix (.bptr 2 []), .fix (.bptr 3 []), .dat (.int .i64), .any, .any, .any, .any, .any, .any, .any, .any, .any, .any, .any, .any, .any, .any, .any, .any, .any, .any, .any, .any, .any, .any, .any, .any, .any, .any, .any, .any, .any, .any, .any, .any, .any, .any, .any, .any, .any, .any, .any, .any, .any, .any, .any, .any, .any, .any, .any, .any, .any, .any, .any, .any, .any, .any, .any], [.dat T29, .cons (.dat (.int .i64)) (.cons (.dat (.int .i64)) (.cons (.dat (.int .i64)) (.nil))), .cons (.dat (.int .i64)) (.cons (.dat (.int .i64)) (.nil)), .cons (.dat (.int .i64)) (.cons (.dat (.int .i64)) (.cons (.dat (.int .i64)) (.nil)))], 0⟩
noncomputable def g21_talikref01_Ledger_l0_step (s : ((Int × Unit) × (E29 × ((Int × (Int × (Int × Unit))) × ((Int × (Int × Unit)) × ((Int × (Int × (Int × Unit))) × Unit)))))) : Option (Nat × ((Int × Unit) × (E29 × ((Int × (Int × (Int × Unit))) × ((Int × (Int × Unit)) × ((Int × (Int × (Int × Unit))) × Unit)))))) :=
  (bif (decide (s.1.1 < (List.length s.2.1.2.2.1 : Int))) then
  (bif (decide (0 ≤ s.1.1) && decide (s.1.1 < (List.length s.2.1.2.1 : Int))) then
    (bif (decide (0 ≤ s.1.1) && decide (s.1.1 < (List.length s.2.1.2.2.1 : Int))) then
      (Option.bind (g54_talikref01_Summer (s.2.2.2.1.1, (s.2.2.2.1.2.1, ())) (IntKind.wrap .i64 ((List.getD s.2.1.2.1 (Int.toNat s.1.1) 0) + (List.getD s.2.1.2.2.1 (Int.toNat s.1.1) 0)))) fun r1 =>
        (bif (decide (0 ≤ s.1.1) && decide (s.1.1 < (List.length s.2.1.2.2.2.1 : Int))) then
          (bif (decide (0 ≤ s.1.1) && decide (s.1.1 < (List.length s.2.1.2.2.2.2.1 : Int))) then
            (Option.bind (g24_talikref01_Goes (List.getD s.2.1.2.2.2.1 (Int.toNat s.1.1) 0) (List.getD s.2.1.2.2.2.2.1 (Int.toNat s.1.1) 0)) fun r2 =>
              (Option.bind (g56_talikref01_Winter r1 r2) fun r3 =>
                some (0, (((IntKind.wrap .i64 (s.1.1 + 1)), ()), (s.2.1, ((s.2.2.1.1, (s.2.2.1.2.1, (s.2.2.1.2.2.1, ()))), ((r3.1, (r3.2.1, ())), (((IntKind.wrap .i64 (s.2.2.2.2.1.1 + (IntKind.wrap .i64 ((List.getD s.2.1.2.1 (Int.toNat s.1.1) 0) + (List.getD s.2.1.2.2.1 (Int.toNat s.1.1) 0))))), ((IntKind.wrap .i64 ((IntKind.wrap .i64 (s.2.2.2.2.1.2.1 + r1.2.1)) - r3.2.1)), (s.2.2.2.2.1.2.2.1, ()))), ()))))))))
            else
            none)
          else
          none))
      else
      none)
    else
    none)
  else
  some (1, ((s.1.1, ()), (s.2.1, ((s.2.2.1.1, (s.2.2.1.2.1, (s.2.2.1.2.2.1, ()))), ((s.2.2.2.1.1, (s.2.2.2.1.2.1, ())), ((s.2.2.2.2.1.1, (s.2.2.2.2.1.2.1, (s.2.2.2.2.1.2.2.1, ()))), ())))))))
noncomputable def g21_talikref01_Ledger_l0_fuel (s : ((Int × Unit) × (E29 × ((Int × (Int × (Int × Unit))) × ((Int × (Int × Unit)) × ((Int × (Int × (Int × Unit))) × Unit)))))) : Nat := Int.toNat ((List.length s.2.1.2.2.1 : Int) - s.1.1) + 1
noncomputable def g21_talikref01_Ledger_l0_run (s : ((Int × Unit) × (E29 × ((Int × (Int × (Int × Unit))) × ((Int × (Int × Unit)) × ((Int × (Int × (Int × Unit))) × Unit)))))) : Option (Nat × ((Int × Unit) × (E29 × ((Int × (Int × (Int × Unit))) × ((Int × (Int × Unit)) × ((Int × (Int × (Int × Unit))) × Unit)))))) := iter g21_talikref01_Ledger_l0_step (g21_talikref01_Ledger_l0_fuel s) s
noncomputable def g21_talikref01_Ledger_l0_L : LoopT := loopT g21_talikref01_Ledger_l0_S [.exit 0] g21_talikref01_Ledger_l0_run
noncomputable def g21_talikref01_Ledger (a0 : E29) : Option E34 :=
  (Option.bind (g21_talikref01_Ledger_l0_run ((0, ()), (a0, ((0, (0, (0, ()))), ((0, (0, ())), ((0, (0, (0, ()))), ())))))) fun q4 =>
  some (q4.2.2.2.2.2.1.1, (q4.2.2.2.2.2.1.2.1, (q4.2.2.2.2.1.2.1, ()))))
noncomputable def g21_talikref01_Ledger_E : CEnt := pureE 21 [.dat T29] (.dat T34) fun x => g21_talikref01_Ledger x.1
noncomputable def g21_talikref01_Ledger_l0_c : Code := loopAt (bodyOf Tryd.f21) 0
theorem g21_talikref01_Ledger_l0_V : LValid 0 Tryd.prog (.loop g21_talikref01_Ledger_l0_c) g21_talikref01_Ledger_l0_L false := by
  have hb : ∀ s, codeR Tryd.prog g21_talikref01_Ledger_C g21_talikref01_Ledger_l0_c [] (g21_talikref01_Ledger_l0_S.encE s) (g21_talikref01_Ledger_l0_S.encB s) (kst g21_talikref01_Ledger_l0_S [.exit 0]) = g21_talikref01_Ledger_l0_step s := by
    intro s; kernel_rfl
  have hL : LV 0 Tryd.prog false (loopsOf g21_talikref01_Ledger_l0_c) [] := by unfold LV; cases loopsOf g21_talikref01_Ledger_l0_c <;> trivial
  exact loopT_valid (fuel := g21_talikref01_Ledger_l0_fuel) mixed g21_talikref01_Ledger_CV hL (by kernel_rfl) (by decide) rfl hb (fun s r h => h)
theorem g21_talikref01_Ledger_LV : LV 0 Tryd.prog false (loopsOf (bodyOf Tryd.f21)) [g21_talikref01_Ledger_l0_L] := by
  have hl : loopsOf (bodyOf Tryd.f21) = [.loop g21_talikref01_Ledger_l0_c] := by kernel_rfl
  rw [hl]; exact ⟨g21_talikref01_Ledger_l0_V, trivial⟩
theorem g21_talikref01_Ledger_ent : Ent Tryd.prog 21 := ⟨by decide, enters_of Tryd.func21 (by kernel_rfl) rfl⟩
theorem g21_talikref01_Ledger_hev : ∀ x, fnR Tryd.prog g21_talikref01_Ledger_C [g21_talikref01_Ledger_l0_L] Tryd.f21 (bodyOf Tryd.f21) (encs [.dat T29] x) ⟨[], [], 0⟩ (frzF (.dat T34)) = g21_talikref01_Ledger x.1 := by
  intro x; kernel_rfl
theorem g21_talikref01_Ledger_valid : g21_talikref01_Ledger_E.Valid Tryd.prog :=
  pureE_valid (by kernel_rfl) (by kernel_rfl) g21_talikref01_Ledger_ent (frz_lcall mixed Tryd.func21 rfl g21_talikref01_Ledger_ent g21_talikref01_Ledger_CV g21_talikref01_Ledger_LV (by kernel_rfl) (by kernel_rfl) g21_talikref01_Ledger_hev)

noncomputable def g22_taliklaw01_fair_C : CalT := tabC [g13_taliklaw01_short_E, g14_taliklaw01_sized_E, g17_taliklaw01_wanted_E, g18_talikref01_Truth_E]
theorem g22_taliklaw01_fair_CV : CV Tryd.prog g22_taliklaw01_fair_C := tabC_valid ⟨g13_taliklaw01_short_valid, g14_taliklaw01_sized_valid, g17_taliklaw01_wanted_valid, g18_talikref01_Truth_valid, trivial⟩
noncomputable def g22_taliklaw01_fair (a0 : E25) (a1 : (List E72)) (a2 : E29) : Option Bool :=
  (Option.bind (g13_taliklaw01_short a0 a1) fun r1 =>
  (bif r1 then
    (Option.bind (g14_taliklaw01_sized a2) fun r2 =>
      (bif r2 then
        (Option.bind (g17_taliklaw01_wanted a0 a1) fun r3 =>
          (bif (r3 == 0) then
            (Option.bind (g18_talikref01_Truth a0 a1 a2) fun r4 =>
              some r4)
            else
            some false))
        else
        some false))
    else
    some false))
noncomputable def g22_taliklaw01_fair_E : CEnt := pureE 22 [.dat T25, .dat (.list T72), .dat T29] (.dat .bool) fun x => g22_taliklaw01_fair x.1 x.2.1 x.2.2.1
theorem g22_taliklaw01_fair_LV : LV 0 Tryd.prog false (loopsOf (bodyOf Tryd.f22)) [] := by unfold LV; cases loopsOf (bodyOf Tryd.f22) <;> trivial
theorem g22_taliklaw01_fair_ent : Ent Tryd.prog 22 := ⟨by decide, enters_of Tryd.func22 (by kernel_rfl) rfl⟩
theorem g22_taliklaw01_fair_hev : ∀ x, fnR Tryd.prog g22_taliklaw01_fair_C [] Tryd.f22 (bodyOf Tryd.f22) (encs [.dat T25, .dat (.list T72), .dat T29] x) ⟨[], [], 0⟩ (frzF (.dat .bool)) = g22_taliklaw01_fair x.1 x.2.1 x.2.2.1 := by
  intro x; kernel_rfl
theorem g22_taliklaw01_fair_valid : g22_taliklaw01_fair_E.Valid Tryd.prog :=
  pureE_valid (by kernel_rfl) (by kernel_rfl) g22_taliklaw01_fair_ent (frz_lcall mixed Tryd.func22 rfl g22_taliklaw01_fair_ent g22_taliklaw01_fair_CV g22_taliklaw01_fair_LV (by kernel_rfl) (by kernel_rfl) g22_taliklaw01_fair_hev)

noncomputable def g26_talikref01_End_C : CalT := tabC []
theorem g26_talikref01_End_CV : CV Tryd.prog g26_talikref01_End_C := tabC_valid trivial
noncomputable def g26_talikref01_End_l0_S : SPat := ⟨[.any, .dat (.list T72), .dat .bool, .fix (.bptr 0 []), .any, .any, .fix (.bptr 1 []), .fix (.bptr 2 []), .dat (.int .i64), .any, .any, .any, .any, .any, .any, .any, .any, .any, .any, .any, .any, .any, .any, .any, .any, .any, .any, .any, .any, .any, .any, .any, .any, .any, .any, .any, .any, .any, .any, .any, .any, .any, .any, .any, .any, .any, .any, .any, .any, .any, .any, .any, .any, .any, .any, .any, .any, .any, .any, .any, .any, .any, .any, .any, .any, .any, .any, .any, .any, .any, .any, .any, .any, .any, .any, .any, .any, .any, .any, .any, .any, .any, .any, .any, .any, .any, .any, .any, .any, .any, .any, .any, .any, .any, .any, .any, .any, .any, .any, .any, .any, .any, .any, .any, .any, .any, .any, .any, .any, .any, .any, .any, .any, .any, .any, .any, .any, .any, .any, .any, .any, .any, .any, .any, .any, .any, .any, .any, .any], [.dat T25, .cons (.own 0 (.int .i64)) (.cons (.own 1 (.int .i64)) (.cons (.own 2 (.int .i64)) (.cons (.own 3 (.int .i64)) (.cons (.own 4 (.int .i64)) (.nil))))), .cons (.own 5 (.int .i64)) (.cons (.own 6 (.int .i64)) (.cons (.own 7 (.int .i64)) (.cons (.own 8 (.int .i64)) (.cons (.own 9 (.int .i64)) (.nil)))))], 10⟩
noncomputable def g26_talikref01_End_l0_step (s : (((List E72) × (Bool × (Int × Unit))) × (E25 × (((List Int) × ((List Int) × ((List Int) × ((List Int) × ((List Int) × Unit))))) × (((List Int) × ((List Int) × ((List Int) × ((List Int) × ((List Int) × Unit))))) × Unit))))) : Option (Nat × (((List E72) × (Bool × (Int × Unit))) × (E25 × (((List Int) × ((List Int) × ((List Int) × ((List Int) × ((List Int) × Unit))))) × (((List Int) × ((List Int) × ((List Int) × ((List Int) × ((List Int) × Unit))))) × Unit))))) :=
  (bif (decide (s.1.2.2.1 < (List.length s.2.1.1 : Int))) then
  (bif (decide (0 ≤ s.1.2.2.1) && decide (s.1.2.2.1 < (List.length s.2.1.1 : Int))) then
    (bif s.1.2.1 then
      (bif (decide (0 ≤ s.1.2.2.1) && decide (s.1.2.2.1 < (List.length s.2.1.1 : Int))) then
        (bif (decide (List.length s.2.2.2.1.1 + List.length [(List.getD s.2.1.1 (Int.toNat s.1.2.2.1) (0, ((0, (0, ())), ()))).2.1.1] ≤ LIM)) then
          some (0, ((s.1.1, (s.1.2.1, ((IntKind.wrap .i64 (s.1.2.2.1 + 1)), ()))), (s.2.1, ((s.2.2.1.1, (s.2.2.1.2.1, (s.2.2.1.2.2.1, (s.2.2.1.2.2.2.1, (s.2.2.1.2.2.2.2.1, ()))))), (((s.2.2.2.1.1 ++ [(List.getD s.2.1.1 (Int.toNat s.1.2.2.1) (0, ((0, (0, ())), ()))).2.1.1]), (s.2.2.2.1.2.1, (s.2.2.2.1.2.2.1, (s.2.2.2.1.2.2.2.1, (s.2.2.2.1.2.2.2.2.1, ()))))), ())))))
          else
          none)
        else
        none)
      else
      (bif (decide (List.length s.2.2.2.1.1 + List.length [(List.getD s.2.1.1 (Int.toNat s.1.2.2.1) (0, ((0, (0, ())), ()))).2.1.2.1] ≤ LIM)) then
        some (0, ((s.1.1, (s.1.2.1, ((IntKind.wrap .i64 (s.1.2.2.1 + 1)), ()))), (s.2.1, ((s.2.2.1.1, (s.2.2.1.2.1, (s.2.2.1.2.2.1, (s.2.2.1.2.2.2.1, (s.2.2.1.2.2.2.2.1, ()))))), (((s.2.2.2.1.1 ++ [(List.getD s.2.1.1 (Int.toNat s.1.2.2.1) (0, ((0, (0, ())), ()))).2.1.2.1]), (s.2.2.2.1.2.1, (s.2.2.2.1.2.2.1, (s.2.2.2.1.2.2.2.1, (s.2.2.2.1.2.2.2.2.1, ()))))), ())))))
        else
        none))
    else
    none)
  else
  some (1, ((s.1.1, (s.1.2.1, (s.1.2.2.1, ()))), (s.2.1, ((s.2.2.1.1, (s.2.2.1.2.1, (s.2.2.1.2.2.1, (s.2.2.1.2.2.2.1, (s.2.2.1.2.2.2.2.1, ()))))), ((s.2.2.2.1.1, (s.2.2.2.1.2.1, (s.2.2.2.1.2.2.1, (s.2.2.2.1.2.2.2.1, (s.2.2.2.1.2.2.2.2.1, ()))))), ()))))))
noncomputable def g26_talikref01_End_l0_fuel (s : (((List E72) × (Bool × (Int × Unit))) × (E25 × (((List Int) × ((List Int) × ((List Int) × ((List Int) × ((List Int) × Unit))))) × (((List Int) × ((List Int) × ((List Int) × ((List Int) × ((List Int) × Unit))))) × Unit))))) : Nat := Int.toNat ((List.length s.2.1.1 : Int) - s.1.2.2.1) + 1
noncomputable def g26_talikref01_End_l0_run (s : (((List E72) × (Bool × (Int × Unit))) × (E25 × (((List Int) × ((List Int) × ((List Int) × ((List Int) × ((List Int) × Unit))))) × (((List Int) × ((List Int) × ((List Int) × ((List Int) × ((List Int) × Unit))))) × Unit))))) : Option (Nat × (((List E72) × (Bool × (Int × Unit))) × (E25 × (((List Int) × ((List Int) × ((List Int) × ((List Int) × ((List Int) × Unit))))) × (((List Int) × ((List Int) × ((List Int) × ((List Int) × ((List Int) × Unit))))) × Unit))))) := iter g26_talikref01_End_l0_step (g26_talikref01_End_l0_fuel s) s
noncomputable def g26_talikref01_End_l0_L : LoopT := loopT g26_talikref01_End_l0_S [.exit 0] g26_talikref01_End_l0_run
noncomputable def g26_talikref01_End_l1_S : SPat := ⟨[.any, .dat (.list T72), .dat .bool, .fix (.bptr 0 []), .any, .any, .fix (.bptr 1 []), .fix (.bptr 2 []), .any, .any, .dat (.int .i64), .any, .any, .any, .any, .any, .any, .any, .any, .any, .any, .any, .any, .any, .any, .any, .any, .any, .any, .any, .any, .any, .any, .any, .any, .any, .any, .any, .any, .any, .any, .any, .any, .any, .any, .any, .any, .any, .any, .any, .any, .any, .any, .any, .any, .any, .any, .any, .any, .any, .any, .any, .any, .any, .any, .any, .any, .any, .any, .any, .any, .any, .any, .any, .any, .any, .any, .any, .any, .any, .any, .any, .any, .any, .any, .any, .any, .any, .any, .any, .any, .any, .any, .any, .any, .any, .any, .any, .any, .any, .any, .any, .any, .any, .any, .any, .any, .any, .any, .any, .any, .any, .any, .any, .any, .any, .any, .any, .any, .any, .any, .any, .any, .any, .any, .any, .any, .any, .any], [.dat T25, .cons (.own 0 (.int .i64)) (.cons (.own 1 (.int .i64)) (.cons (.own 2 (.int .i64)) (.cons (.own 3 (.int .i64)) (.cons (.own 4 (.int .i64)) (.nil))))), .cons (.own 5 (.int .i64)) (.cons (.own 6 (.int .i64)) (.cons (.own 7 (.int .i64)) (.cons (.own 8 (.int .i64)) (.cons (.own 9 (.int .i64)) (.nil)))))], 10⟩
noncomputable def g26_talikref01_End_l1_step (s : (((List E72) × (Bool × (Int × Unit))) × (E25 × (((List Int) × ((List Int) × ((List Int) × ((List Int) × ((List Int) × Unit))))) × (((List Int) × ((List Int) × ((List Int) × ((List Int) × ((List Int) × Unit))))) × Unit))))) : Option (Nat × (((List E72) × (Bool × (Int × Unit))) × (E25 × (((List Int) × ((List Int) × ((List Int) × ((List Int) × ((List Int) × Unit))))) × (((List Int) × ((List Int) × ((List Int) × ((List Int) × ((List Int) × Unit))))) × Unit))))) :=
  (bif (decide (s.1.2.2.1 < (List.length s.1.1 : Int))) then
  (bif s.1.2.1 then
    (bif (decide (List.length s.2.2.2.1.2.1 + List.length [s.2.1.2.1.2.1] ≤ LIM)) then
      (bif (decide (0 ≤ s.1.2.2.1) && decide (s.1.2.2.1 < (List.length s.1.1 : Int))) then
        (bif (decide (List.length s.2.2.2.1.2.2.1 + List.length [(List.getD s.1.1 (Int.toNat s.1.2.2.1) ((0, (0, ())), ((0, (0, ())), ((0, (0, ())), ())))).1.2.1] ≤ LIM)) then
          (bif (decide (0 ≤ s.1.2.2.1) && decide (s.1.2.2.1 < (List.length s.1.1 : Int))) then
            (bif (decide (List.length s.2.2.2.1.2.2.2.1 + List.length [(List.getD s.1.1 (Int.toNat s.1.2.2.1) ((0, (0, ())), ((0, (0, ())), ((0, (0, ())), ())))).2.1.1] ≤ LIM)) then
              (bif (decide (0 ≤ s.1.2.2.1) && decide (s.1.2.2.1 < (List.length s.1.1 : Int))) then
                (bif (decide (List.length s.2.2.2.1.2.2.2.2.1 + List.length [(List.getD s.1.1 (Int.toNat s.1.2.2.1) ((0, (0, ())), ((0, (0, ())), ((0, (0, ())), ())))).2.2.1.2.1] ≤ LIM)) then
                  some (0, ((s.1.1, (s.1.2.1, ((IntKind.wrap .i64 (s.1.2.2.1 + 1)), ()))), (s.2.1, ((s.2.2.1.1, (s.2.2.1.2.1, (s.2.2.1.2.2.1, (s.2.2.1.2.2.2.1, (s.2.2.1.2.2.2.2.1, ()))))), ((s.2.2.2.1.1, ((s.2.2.2.1.2.1 ++ [s.2.1.2.1.2.1]), ((s.2.2.2.1.2.2.1 ++ [(List.getD s.1.1 (Int.toNat s.1.2.2.1) ((0, (0, ())), ((0, (0, ())), ((0, (0, ())), ())))).1.2.1]), ((s.2.2.2.1.2.2.2.1 ++ [(List.getD s.1.1 (Int.toNat s.1.2.2.1) ((0, (0, ())), ((0, (0, ())), ((0, (0, ())), ())))).2.1.1]), ((s.2.2.2.1.2.2.2.2.1 ++ [(List.getD s.1.1 (Int.toNat s.1.2.2.1) ((0, (0, ())), ((0, (0, ())), ((0, (0, ())), ())))).2.2.1.2.1]), ()))))), ())))))
                  else
                  none)
                else
                none)
              else
              none)
            else
            none)
          else
          none)
        else
        none)
      else
      none)
    else
    (bif (decide (List.length s.2.2.2.1.2.1 + List.length [s.2.1.2.1.1] ≤ LIM)) then
      (bif (decide (0 ≤ s.1.2.2.1) && decide (s.1.2.2.1 < (List.length s.1.1 : Int))) then
        (bif (decide (List.length s.2.2.2.1.2.2.1 + List.length [(List.getD s.1.1 (Int.toNat s.1.2.2.1) ((0, (0, ())), ((0, (0, ())), ((0, (0, ())), ())))).1.1] ≤ LIM)) then
          (bif (decide (0 ≤ s.1.2.2.1) && decide (s.1.2.2.1 < (List.length s.1.1 : Int))) then
            (bif (decide (List.length s.2.2.2.1.2.2.2.1 + List.length [(List.getD s.1.1 (Int.toNat s.1.2.2.1) ((0, (0, ())), ((0, (0, ())), ((0, (0, ())), ())))).2.1.2.1] ≤ LIM)) then
              (bif (decide (0 ≤ s.1.2.2.1) && decide (s.1.2.2.1 < (List.length s.1.1 : Int))) then
                (bif (decide (List.length s.2.2.2.1.2.2.2.2.1 + List.length [(List.getD s.1.1 (Int.toNat s.1.2.2.1) ((0, (0, ())), ((0, (0, ())), ((0, (0, ())), ())))).2.2.1.1] ≤ LIM)) then
                  some (0, ((s.1.1, (s.1.2.1, ((IntKind.wrap .i64 (s.1.2.2.1 + 1)), ()))), (s.2.1, ((s.2.2.1.1, (s.2.2.1.2.1, (s.2.2.1.2.2.1, (s.2.2.1.2.2.2.1, (s.2.2.1.2.2.2.2.1, ()))))), ((s.2.2.2.1.1, ((s.2.2.2.1.2.1 ++ [s.2.1.2.1.1]), ((s.2.2.2.1.2.2.1 ++ [(List.getD s.1.1 (Int.toNat s.1.2.2.1) ((0, (0, ())), ((0, (0, ())), ((0, (0, ())), ())))).1.1]), ((s.2.2.2.1.2.2.2.1 ++ [(List.getD s.1.1 (Int.toNat s.1.2.2.1) ((0, (0, ())), ((0, (0, ())), ((0, (0, ())), ())))).2.1.2.1]), ((s.2.2.2.1.2.2.2.2.1 ++ [(List.getD s.1.1 (Int.toNat s.1.2.2.1) ((0, (0, ())), ((0, (0, ())), ((0, (0, ())), ())))).2.2.1.1]), ()))))), ())))))
                  else
                  none)
                else
                none)
              else
              none)
            else
            none)
          else
          none)
        else
        none)
      else
      none))
  else
  some (1, ((s.1.1, (s.1.2.1, (s.1.2.2.1, ()))), (s.2.1, ((s.2.2.1.1, (s.2.2.1.2.1, (s.2.2.1.2.2.1, (s.2.2.1.2.2.2.1, (s.2.2.1.2.2.2.2.1, ()))))), ((s.2.2.2.1.1, (s.2.2.2.1.2.1, (s.2.2.2.1.2.2.1, (s.2.2.2.1.2.2.2.1, (s.2.2.2.1.2.2.2.2.1, ()))))), ()))))))
noncomputable def g26_talikref01_End_l1_fuel (s : (((List E72) × (Bool × (Int × Unit))) × (E25 × (((List Int) × ((List Int) × ((List Int) × ((List Int) × ((List Int) × Unit))))) × (((List Int) × ((List Int) × ((List Int) × ((List Int) × ((List Int) × Unit))))) × Unit))))) : Nat := Int.toNat ((List.length s.1.1 : Int) - s.1.2.2.1) + 1
noncomputable def g26_talikref01_End_l1_run (s : (((List E72) × (Bool × (Int × Unit))) × (E25 × (((List Int) × ((List Int) × ((List Int) × ((List Int) × ((List Int) × Unit))))) × (((List Int) × ((List Int) × ((List Int) × ((List Int) × ((List Int) × Unit))))) × Unit))))) : Option (Nat × (((List E72) × (Bool × (Int × Unit))) × (E25 × (((List Int) × ((List Int) × ((List Int) × ((List Int) × ((List Int) × Unit))))) × (((List Int) × ((List Int) × ((List Int) × ((List Int) × ((List Int) × Unit))))) × Unit))))) := iter g26_talikref01_End_l1_step (g26_talikref01_End_l1_fuel s) s
noncomputable def g26_talikref01_End_l1_L : LoopT := loopT g26_talikref01_End_l1_S [.exit 2] g26_talikref01_End_l1_run
noncomputable def g26_talikref01_End (a0 : E25) (a1 : (List E72)) (a2 : Bool) : Option E29 :=
  (Option.bind (g26_talikref01_End_l0_run ((a1, (a2, (0, ()))), (a0, (([], ([], ([], ([], ([], ()))))), (([], ([], ([], ([], ([], ()))))), ()))))) fun q1 =>
  (Option.bind (g26_talikref01_End_l1_run ((q1.2.1.1, (q1.2.1.2.1, (0, ()))), (q1.2.2.1, ((q1.2.2.2.1.1, (q1.2.2.2.1.2.1, (q1.2.2.2.1.2.2.1, (q1.2.2.2.1.2.2.2.1, (q1.2.2.2.1.2.2.2.2.1, ()))))), ((q1.2.2.2.2.1.1, (q1.2.2.2.2.1.2.1, (q1.2.2.2.2.1.2.2.1, (q1.2.2.2.2.1.2.2.2.1, (q1.2.2.2.2.1.2.2.2.2.1, ()))))), ()))))) fun q2 =>
    some (q2.2.2.2.2.1.1, (q2.2.2.2.2.1.2.1, (q2.2.2.2.2.1.2.2.1, (q2.2.2.2.2.1.2.2.2.1, (q2.2.2.2.2.1.2.2.2.2.1, ())))))))
noncomputable def g26_talikref01_End_E : CEnt := pureE 26 [.dat T25, .dat (.list T72), .dat .bool] (.dat T29) fun x => g26_talikref01_End x.1 x.2.1 x.2.2.1
noncomputable def g26_talikref01_End_l0_c : Code := loopAt (bodyOf Tryd.f26) 0
noncomputable def g26_talikref01_End_l1_c : Code := loopAt (bodyOf Tryd.f26) 1
theorem g26_talikref01_End_l0_V : LValid 0 Tryd.prog (.loop g26_talikref01_End_l0_c) g26_talikref01_End_l0_L false := by
  have hb : ∀ s, codeR Tryd.prog g26_talikref01_End_C g26_talikref01_End_l0_c [] (g26_talikref01_End_l0_S.encE s) (g26_talikref01_End_l0_S.encB s) (kst g26_talikref01_End_l0_S [.exit 0]) = g26_talikref01_End_l0_step s := by
    intro s; kernel_rfl
  have hL : LV 0 Tryd.prog false (loopsOf g26_talikref01_End_l0_c) [] := by unfold LV; cases loopsOf g26_talikref01_End_l0_c <;> trivial
  exact loopT_valid (fuel := g26_talikref01_End_l0_fuel) mixed g26_talikref01_End_CV hL (by kernel_rfl) (by decide) rfl hb (fun s r h => h)
theorem g26_talikref01_End_l1_V : LValid 0 Tryd.prog (.loop g26_talikref01_End_l1_c) g26_talikref01_End_l1_L false := by
  have hb : ∀ s, codeR Tryd.prog g26_talikref01_End_C g26_talikref01_End_l1_c [] (g26_talikref01_End_l1_S.encE s) (g26_talikref01_End_l1_S.encB s) (kst g26_talikref01_End_l1_S [.exit 2]) = g26_talikref01_End_l1_step s := by
    intro s; kernel_rfl
  have hL : LV 0 Tryd.prog false (loopsOf g26_talikref01_End_l1_c) [] := by unfold LV; cases loopsOf g26_talikref01_End_l1_c <;> trivial
  exact loopT_valid (fuel := g26_talikref01_End_l1_fuel) mixed g26_talikref01_End_CV hL (by kernel_rfl) (by decide) rfl hb (fun s r h => h)
theorem g26_talikref01_End_LV : LV 0 Tryd.prog false (loopsOf (bodyOf Tryd.f26)) [g26_talikref01_End_l0_L, g26_talikref01_End_l1_L] := by
  have hl : loopsOf (bodyOf Tryd.f26) = [.loop g26_talikref01_End_l0_c, .loop g26_talikref01_End_l1_c] := by kernel_rfl
  rw [hl]; exact ⟨g26_talikref01_End_l0_V, g26_talikref01_End_l1_V, trivial⟩
theorem g26_talikref01_End_ent : Ent Tryd.prog 26 := ⟨by decide, enters_of Tryd.func26 (by kernel_rfl) rfl⟩
theorem g26_talikref01_End_hev : ∀ x, fnR Tryd.prog g26_talikref01_End_C [g26_talikref01_End_l0_L, g26_talikref01_End_l1_L] Tryd.f26 (bodyOf Tryd.f26) (encs [.dat T25, .dat (.list T72), .dat .bool] x) ⟨[], [], 0⟩ (frzF (.dat T29)) = g26_talikref01_End x.1 x.2.1 x.2.2.1 := by
  intro x; kernel_rfl
theorem g26_talikref01_End_valid : g26_talikref01_End_E.Valid Tryd.prog :=
  pureE_valid (by kernel_rfl) (by kernel_rfl) g26_talikref01_End_ent (frz_lcall mixed Tryd.func26 rfl g26_talikref01_End_ent g26_talikref01_End_CV g26_talikref01_End_LV (by kernel_rfl) (by kernel_rfl) g26_talikref01_End_hev)

noncomputable def g28_talikref01_First_C : CalT := tabC []
theorem g28_talikref01_First_CV : CV Tryd.prog g28_talikref01_First_C := tabC_valid trivial
noncomputable def g28_talikref01_First_l0_S : SPat := ⟨[.dat (.list T23), .dat (.int .i64), .any, .any, .dat (.int .i64), .dat (.int .i64), .any, .any, .any, .any, .any, .any, .any, .any, .any, .any, .any, .any, .any, .any, .any, .any], [], 0⟩
noncomputable def g28_talikref01_First_l0_step (s : (((List E23) × (Int × (Int × (Int × Unit)))) × Unit)) : Option (Nat × (((List E23) × (Int × (Int × (Int × Unit)))) × Unit)) :=
  (bif (decide (s.1.2.2.2.1 < (List.length s.1.1 : Int))) then
  (bif (decide (0 ≤ s.1.2.2.2.1) && decide (s.1.2.2.2.1 < (List.length s.1.1 : Int))) then
    (bif (decide ((List.getD s.1.1 (Int.toNat s.1.2.2.2.1) (0, (0, ()))).1 > s.1.2.1)) then
      some (1, ((s.1.1, (s.1.2.1, (s.1.2.2.2.1, (s.1.2.2.2.1, ())))), ()))
      else
      some (0, ((s.1.1, (s.1.2.1, (s.1.2.2.1, ((IntKind.wrap .i64 (s.1.2.2.2.1 + 1)), ())))), ())))
    else
    none)
  else
  some (2, ((s.1.1, (s.1.2.1, (s.1.2.2.1, (s.1.2.2.2.1, ())))), ())))
noncomputable def g28_talikref01_First_l0_fuel (s : (((List E23) × (Int × (Int × (Int × Unit)))) × Unit)) : Nat := Int.toNat ((List.length s.1.1 : Int) - s.1.2.2.2.1) + 1
noncomputable def g28_talikref01_First_l0_run (s : (((List E23) × (Int × (Int × (Int × Unit)))) × Unit)) : Option (Nat × (((List E23) × (Int × (Int × (Int × Unit)))) × Unit)) := iter g28_talikref01_First_l0_step (g28_talikref01_First_l0_fuel s) s
noncomputable def g28_talikref01_First_l0_L : LoopT := loopT g28_talikref01_First_l0_S [.ret, .exit 0] g28_talikref01_First_l0_run
noncomputable def g28_talikref01_First (a0 : (List E23)) (a1 : Int) : Option Int :=
  (Option.bind (g28_talikref01_First_l0_run ((a0, (a1, (0, (0, ())))), ())) fun q1 =>
  (natK q1.1
    (some q1.2.1.2.2.1)
    (fun _ => some (List.length q1.2.1.1 : Int))))
noncomputable def g28_talikref01_First_E : CEnt := pureE 28 [.dat (.list T23), .dat (.int .i64)] (.dat (.int .i64)) fun x => g28_talikref01_First x.1 x.2.1
noncomputable def g28_talikref01_First_l0_c : Code := loopAt (bodyOf Tryd.f28) 0
theorem g28_talikref01_First_l0_V : LValid 0 Tryd.prog (.loop g28_talikref01_First_l0_c) g28_talikref01_First_l0_L false := by
  have hb : ∀ s, codeR Tryd.prog g28_talikref01_First_C g28_talikref01_First_l0_c [] (g28_talikref01_First_l0_S.encE s) (g28_talikref01_First_l0_S.encB s) (kst g28_talikref01_First_l0_S [.ret, .exit 0]) = g28_talikref01_First_l0_step s := by
    intro s; kernel_rfl
  have hL : LV 0 Tryd.prog false (loopsOf g28_talikref01_First_l0_c) [] := by unfold LV; cases loopsOf g28_talikref01_First_l0_c <;> trivial
  exact loopT_valid (fuel := g28_talikref01_First_l0_fuel) mixed g28_talikref01_First_CV hL (by kernel_rfl) (by decide) rfl hb (fun s r h => h)
theorem g28_talikref01_First_LV : LV 0 Tryd.prog false (loopsOf (bodyOf Tryd.f28)) [g28_talikref01_First_l0_L] := by
  have hl : loopsOf (bodyOf Tryd.f28) = [.loop g28_talikref01_First_l0_c] := by kernel_rfl
  rw [hl]; exact ⟨g28_talikref01_First_l0_V, trivial⟩
theorem g28_talikref01_First_ent : Ent Tryd.prog 28 := ⟨by decide, enters_of Tryd.func28 (by kernel_rfl) rfl⟩
theorem g28_talikref01_First_hev : ∀ x, fnR Tryd.prog g28_talikref01_First_C [g28_talikref01_First_l0_L] Tryd.f28 (bodyOf Tryd.f28) (encs [.dat (.list T23), .dat (.int .i64)] x) ⟨[], [], 0⟩ (frzF (.dat (.int .i64))) = g28_talikref01_First x.1 x.2.1 := by
  intro x; kernel_rfl
theorem g28_talikref01_First_valid : g28_talikref01_First_E.Valid Tryd.prog :=
  pureE_valid (by kernel_rfl) (by kernel_rfl) g28_talikref01_First_ent (frz_lcall mixed Tryd.func28 rfl g28_talikref01_First_ent g28_talikref01_First_CV g28_talikref01_First_LV (by kernel_rfl) (by kernel_rfl) g28_talikref01_First_hev)

noncomputable def g65_talikref01_Kept_C : CalT := tabC [g26_talikref01_End_E, g19_talikref01_Follow_E, g28_talikref01_First_E]
theorem g65_talikref01_Kept_CV : CV Tryd.prog g65_talikref01_Kept_C := tabC_valid ⟨g26_talikref01_End_valid, g19_talikref01_Follow_valid, g28_talikref01_First_valid, trivial⟩
noncomputable def g65_talikref01_Kept (a0 : E25) (a1 : (List E72)) (a2 : Int) (a3 : Int) (a4 : Int) : Option Bool :=
  (bif (decide (a3 ≥ 0)) then
  (Option.bind (g26_talikref01_End (a0.1, ((a3, (a3, ())), a0.2.2)) a1 true) fun r1 =>
    (Option.bind (g19_talikref01_Follow (a0.1, ((a3, (a3, ())), a0.2.2)) r1 a4) fun r2 =>
      (Option.bind (g28_talikref01_First r2 a2) fun r3 =>
        some (r3 == (List.length a1 : Int)))))
  else
  (Option.bind (g26_talikref01_End a0 a1 true) fun r4 =>
    (Option.bind (g19_talikref01_Follow a0 r4 a4) fun r5 =>
      (Option.bind (g28_talikref01_First r5 a2) fun r6 =>
        some (r6 == (List.length a1 : Int))))))
noncomputable def g65_talikref01_Kept_E : CEnt := pureE 65 [.dat T25, .dat (.list T72), .dat (.int .i64), .dat (.int .i64), .dat (.int .i64)] (.dat .bool) fun x => g65_talikref01_Kept x.1 x.2.1 x.2.2.1 x.2.2.2.1 x.2.2.2.2.1
theorem g65_talikref01_Kept_LV : LV 0 Tryd.prog false (loopsOf (bodyOf Tryd.f65)) [] := by unfold LV; cases loopsOf (bodyOf Tryd.f65) <;> trivial
theorem g65_talikref01_Kept_ent : Ent Tryd.prog 65 := ⟨by decide, enters_of Tryd.func65 (by kernel_rfl) rfl⟩
theorem g65_talikref01_Kept_hev : ∀ x, fnR Tryd.prog g65_talikref01_Kept_C [] Tryd.f65 (bodyOf Tryd.f65) (encs [.dat T25, .dat (.list T72), .dat (.int .i64), .dat (.int .i64), .dat (.int .i64)] x) ⟨[], [], 0⟩ (frzF (.dat .bool)) = g65_talikref01_Kept x.1 x.2.1 x.2.2.1 x.2.2.2.1 x.2.2.2.2.1 := by
  intro x; kernel_rfl
theorem g65_talikref01_Kept_valid : g65_talikref01_Kept_E.Valid Tryd.prog :=
  pureE_valid (by kernel_rfl) (by kernel_rfl) g65_talikref01_Kept_ent (frz_lcall mixed Tryd.func65 rfl g65_talikref01_Kept_ent g65_talikref01_Kept_CV g65_talikref01_Kept_LV (by kernel_rfl) (by kernel_rfl) g65_talikref01_Kept_hev)

noncomputable def g31_talikref01_Allow_C : CalT := tabC [g65_talikref01_Kept_E]
theorem g31_talikref01_Allow_CV : CV Tryd.prog g31_talikref01_Allow_C := tabC_valid ⟨g65_talikref01_Kept_valid, trivial⟩
noncomputable def g31_talikref01_Allow_l0_S : SPat := ⟨[.any, .dat (.list T72), .dat (.int .i64), .fix (.bptr 0 []), .any, .any, .any, .dat (.int .i64), .dat (.int .i64), .any, .any, .any, .any, .any, .any, .any, .any, .any, .any, .any, .any, .any, .any, .any, .any, .any, .any, .any], [.dat T25], 0⟩
noncomputable def g31_talikref01_Allow_l0_step (s : (((List E72) × (Int × (Int × (Int × Unit)))) × (E25 × Unit))) : Option (Nat × (((List E72) × (Int × (Int × (Int × Unit)))) × (E25 × Unit))) :=
  (bif (decide (s.1.2.2.1 < s.1.2.2.2.1)) then
  (Option.bind (g65_talikref01_Kept s.2.1 s.1.1 s.1.2.1 (IntKind.wrap .i64 (s.1.2.2.2.1 - (IntKind.wrap .i64 (Int.tdiv (IntKind.wrap .i64 (s.1.2.2.2.1 - s.1.2.2.1)) 2)))) 0) fun r1 =>
    (bif r1 then
      some (0, ((s.1.1, (s.1.2.1, ((IntKind.wrap .i64 (s.1.2.2.2.1 - (IntKind.wrap .i64 (Int.tdiv (IntKind.wrap .i64 (s.1.2.2.2.1 - s.1.2.2.1)) 2)))), (s.1.2.2.2.1, ())))), (s.2.1, ())))
      else
      some (0, ((s.1.1, (s.1.2.1, (s.1.2.2.1, ((IntKind.wrap .i64 ((IntKind.wrap .i64 (s.1.2.2.2.1 - (IntKind.wrap .i64 (Int.tdiv (IntKind.wrap .i64 (s.1.2.2.2.1 - s.1.2.2.1)) 2)))) - 1)), ())))), (s.2.1, ())))))
  else
  some (1, ((s.1.1, (s.1.2.1, (s.1.2.2.1, (s.1.2.2.2.1, ())))), (s.2.1, ()))))
noncomputable def g31_talikref01_Allow_l0_fuel (s : (((List E72) × (Int × (Int × (Int × Unit)))) × (E25 × Unit))) : Nat := Int.toNat (s.1.2.2.2.1 - s.1.2.2.1) + 1
noncomputable def g31_talikref01_Allow_l0_run (s : (((List E72) × (Int × (Int × (Int × Unit)))) × (E25 × Unit))) : Option (Nat × (((List E72) × (Int × (Int × (Int × Unit)))) × (E25 × Unit))) := iter g31_talikref01_Allow_l0_step (g31_talikref01_Allow_l0_fuel s) s
noncomputable def g31_talikref01_Allow_l0_L : LoopT := loopT g31_talikref01_Allow_l0_S [.exit 0] g31_talikref01_Allow_l0_run
noncomputable def g31_talikref01_Allow (a0 : E25) (a1 : (List E72)) (a2 : Int) : Option Int :=
  (Option.bind (g31_talikref01_Allow_l0_run ((a1, (a2, ((-1), (1000000, ())))), (a0, ()))) fun q2 =>
  some q2.2.1.2.2.1)
noncomputable def g31_talikref01_Allow_E : CEnt := pureE 31 [.dat T25, .dat (.list T72), .dat (.int .i64)] (.dat (.int .i64)) fun x => g31_talikref01_Allow x.1 x.2.1 x.2.2.1
noncomputable def g31_talikref01_Allow_l0_c : Code := loopAt (bodyOf Tryd.f31) 0
theorem g31_talikref01_Allow_l0_V : LValid 0 Tryd.prog (.loop g31_talikref01_Allow_l0_c) g31_talikref01_Allow_l0_L false := by
  have hb : ∀ s, codeR Tryd.prog g31_talikref01_Allow_C g31_talikref01_Allow_l0_c [] (g31_talikref01_Allow_l0_S.encE s) (g31_talikref01_Allow_l0_S.encB s) (kst g31_talikref01_Allow_l0_S [.exit 0]) = g31_talikref01_Allow_l0_step s := by
    intro s; kernel_rfl
  have hL : LV 0 Tryd.prog false (loopsOf g31_talikref01_Allow_l0_c) [] := by unfold LV; cases loopsOf g31_talikref01_Allow_l0_c <;> trivial
  exact loopT_valid (fuel := g31_talikref01_Allow_l0_fuel) mixed g31_talikref01_Allow_CV hL (by kernel_rfl) (by decide) rfl hb (fun s r h => h)
theorem g31_talikref01_Allow_LV : LV 0 Tryd.prog false (loopsOf (bodyOf Tryd.f31)) [g31_talikref01_Allow_l0_L] := by
  have hl : loopsOf (bodyOf Tryd.f31) = [.loop g31_talikref01_Allow_l0_c] := by kernel_rfl
  rw [hl]; exact ⟨g31_talikref01_Allow_l0_V, trivial⟩
theorem g31_talikref01_Allow_ent : Ent Tryd.prog 31 := ⟨by decide, enters_of Tryd.func31 (by kernel_rfl) rfl⟩
theorem g31_talikref01_Allow_hev : ∀ x, fnR Tryd.prog g31_talikref01_Allow_C [g31_talikref01_Allow_l0_L] Tryd.f31 (bodyOf Tryd.f31) (encs [.dat T25, .dat (.list T72), .dat (.int .i64)] x) ⟨[], [], 0⟩ (frzF (.dat (.int .i64))) = g31_talikref01_Allow x.1 x.2.1 x.2.2.1 := by
  intro x; kernel_rfl
theorem g31_talikref01_Allow_valid : g31_talikref01_Allow_E.Valid Tryd.prog :=
  pureE_valid (by kernel_rfl) (by kernel_rfl) g31_talikref01_Allow_ent (frz_lcall mixed Tryd.func31 rfl g31_talikref01_Allow_ent g31_talikref01_Allow_CV g31_talikref01_Allow_LV (by kernel_rfl) (by kernel_rfl) g31_talikref01_Allow_hev)

noncomputable def g32_talikref01_Need_C : CalT := tabC [g65_talikref01_Kept_E]
theorem g32_talikref01_Need_CV : CV Tryd.prog g32_talikref01_Need_C := tabC_valid ⟨g65_talikref01_Kept_valid, trivial⟩
noncomputable def g32_talikref01_Need_l0_S : SPat := ⟨[.any, .dat (.list T72), .dat (.int .i64), .fix (.bptr 0 []), .any, .any, .any, .dat (.int .i64), .dat (.int .i64), .any, .any, .any, .any, .any, .any, .any, .any, .any, .any, .any, .any, .any, .any, .any, .any, .any, .any, .any, .any, .any, .any, .any, .any], [.dat T25], 0⟩
noncomputable def g32_talikref01_Need_l0_step (s : (((List E72) × (Int × (Int × (Int × Unit)))) × (E25 × Unit))) : Option (Nat × (((List E72) × (Int × (Int × (Int × Unit)))) × (E25 × Unit))) :=
  (bif (decide (s.1.2.2.1 < s.1.2.2.2.1)) then
  (Option.bind (g65_talikref01_Kept s.2.1 s.1.1 s.1.2.1 (-1) (IntKind.wrap .i64 (s.1.2.2.1 + (IntKind.wrap .i64 (Int.tdiv (IntKind.wrap .i64 (s.1.2.2.2.1 - s.1.2.2.1)) 2))))) fun r2 =>
    (bif r2 then
      some (0, ((s.1.1, (s.1.2.1, (s.1.2.2.1, ((IntKind.wrap .i64 (s.1.2.2.1 + (IntKind.wrap .i64 (Int.tdiv (IntKind.wrap .i64 (s.1.2.2.2.1 - s.1.2.2.1)) 2)))), ())))), (s.2.1, ())))
      else
      some (0, ((s.1.1, (s.1.2.1, ((IntKind.wrap .i64 ((IntKind.wrap .i64 (s.1.2.2.1 + (IntKind.wrap .i64 (Int.tdiv (IntKind.wrap .i64 (s.1.2.2.2.1 - s.1.2.2.1)) 2)))) + 1)), (s.1.2.2.2.1, ())))), (s.2.1, ())))))
  else
  some (1, ((s.1.1, (s.1.2.1, (s.1.2.2.1, (s.1.2.2.2.1, ())))), (s.2.1, ()))))
noncomputable def g32_talikref01_Need_l0_fuel (s : (((List E72) × (Int × (Int × (Int × Unit)))) × (E25 × Unit))) : Nat := Int.toNat (s.1.2.2.2.1 - s.1.2.2.1) + 1
noncomputable def g32_talikref01_Need_l0_run (s : (((List E72) × (Int × (Int × (Int × Unit)))) × (E25 × Unit))) : Option (Nat × (((List E72) × (Int × (Int × (Int × Unit)))) × (E25 × Unit))) := iter g32_talikref01_Need_l0_step (g32_talikref01_Need_l0_fuel s) s
noncomputable def g32_talikref01_Need_l0_L : LoopT := loopT g32_talikref01_Need_l0_S [.exit 0] g32_talikref01_Need_l0_run
noncomputable def g32_talikref01_Need (a0 : E25) (a1 : (List E72)) (a2 : Int) : Option Int :=
  (Option.bind (g65_talikref01_Kept a0 a1 a2 (-1) 1000000) fun r1 =>
  (bif (!r1) then
    some (-1)
    else
    (Option.bind (g32_talikref01_Need_l0_run ((a1, (a2, (0, (1000000, ())))), (a0, ()))) fun q3 =>
      some q3.2.1.2.2.1)))
noncomputable def g32_talikref01_Need_E : CEnt := pureE 32 [.dat T25, .dat (.list T72), .dat (.int .i64)] (.dat (.int .i64)) fun x => g32_talikref01_Need x.1 x.2.1 x.2.2.1
noncomputable def g32_talikref01_Need_l0_c : Code := loopAt (bodyOf Tryd.f32) 0
theorem g32_talikref01_Need_l0_V : LValid 0 Tryd.prog (.loop g32_talikref01_Need_l0_c) g32_talikref01_Need_l0_L false := by
  have hb : ∀ s, codeR Tryd.prog g32_talikref01_Need_C g32_talikref01_Need_l0_c [] (g32_talikref01_Need_l0_S.encE s) (g32_talikref01_Need_l0_S.encB s) (kst g32_talikref01_Need_l0_S [.exit 0]) = g32_talikref01_Need_l0_step s := by
    intro s; kernel_rfl
  have hL : LV 0 Tryd.prog false (loopsOf g32_talikref01_Need_l0_c) [] := by unfold LV; cases loopsOf g32_talikref01_Need_l0_c <;> trivial
  exact loopT_valid (fuel := g32_talikref01_Need_l0_fuel) mixed g32_talikref01_Need_CV hL (by kernel_rfl) (by decide) rfl hb (fun s r h => h)
theorem g32_talikref01_Need_LV : LV 0 Tryd.prog false (loopsOf (bodyOf Tryd.f32)) [g32_talikref01_Need_l0_L] := by
  have hl : loopsOf (bodyOf Tryd.f32) = [.loop g32_talikref01_Need_l0_c] := by kernel_rfl
  rw [hl]; exact ⟨g32_talikref01_Need_l0_V, trivial⟩
theorem g32_talikref01_Need_ent : Ent Tryd.prog 32 := ⟨by decide, enters_of Tryd.func32 (by kernel_rfl) rfl⟩
theorem g32_talikref01_Need_hev : ∀ x, fnR Tryd.prog g32_talikref01_Need_C [g32_talikref01_Need_l0_L] Tryd.f32 (bodyOf Tryd.f32) (encs [.dat T25, .dat (.list T72), .dat (.int .i64)] x) ⟨[], [], 0⟩ (frzF (.dat (.int .i64))) = g32_talikref01_Need x.1 x.2.1 x.2.2.1 := by
  intro x; kernel_rfl
theorem g32_talikref01_Need_valid : g32_talikref01_Need_E.Valid Tryd.prog :=
  pureE_valid (by kernel_rfl) (by kernel_rfl) g32_talikref01_Need_ent (frz_lcall mixed Tryd.func32 rfl g32_talikref01_Need_ent g32_talikref01_Need_CV g32_talikref01_Need_LV (by kernel_rfl) (by kernel_rfl) g32_talikref01_Need_hev)

noncomputable def g34_taliklaw01_deep_C : CalT := tabC [g27_ground_Exceeds_E]
theorem g34_taliklaw01_deep_CV : CV Tryd.prog g34_taliklaw01_deep_C := tabC_valid ⟨g27_ground_Exceeds_valid, trivial⟩
noncomputable def g34_taliklaw01_deep (a0 : E25) (a1 : (List E72)) (a2 : Int) : Option (Bool × (Bool × Unit)) :=
  (Option.bind (g27_ground_Exceeds a0 a1 a2) fun r1 =>
  some ((decide (r1.1 < (List.length a1 : Int))), ((r1.2.2.1 == 0), ())))
noncomputable def g34_taliklaw01_deep_E : CEnt := pureE 34 [.dat T25, .dat (.list T72), .dat (.int .i64)] (.tup (.cons (.dat .bool) (.cons (.dat .bool) (.nil)))) fun x => g34_taliklaw01_deep x.1 x.2.1 x.2.2.1
theorem g34_taliklaw01_deep_LV : LV 0 Tryd.prog false (loopsOf (bodyOf Tryd.f34)) [] := by unfold LV; cases loopsOf (bodyOf Tryd.f34) <;> trivial
theorem g34_taliklaw01_deep_ent : Ent Tryd.prog 34 := ⟨by decide, enters_of Tryd.func34 (by kernel_rfl) rfl⟩
theorem g34_taliklaw01_deep_hev : ∀ x, fnR Tryd.prog g34_taliklaw01_deep_C [] Tryd.f34 (bodyOf Tryd.f34) (encs [.dat T25, .dat (.list T72), .dat (.int .i64)] x) ⟨[], [], 0⟩ (frzF (.tup (.cons (.dat .bool) (.cons (.dat .bool) (.nil))))) = g34_taliklaw01_deep x.1 x.2.1 x.2.2.1 := by
  intro x; kernel_rfl
theorem g34_taliklaw01_deep_valid : g34_taliklaw01_deep_E.Valid Tryd.prog :=
  pureE_valid (by kernel_rfl) (by kernel_rfl) g34_taliklaw01_deep_ent (frz_lcall mixed Tryd.func34 rfl g34_taliklaw01_deep_ent g34_taliklaw01_deep_CV g34_taliklaw01_deep_LV (by kernel_rfl) (by kernel_rfl) g34_taliklaw01_deep_hev)

noncomputable def g37_ground_Check_C : CalT := tabC [g66_ground_valid_E]
theorem g37_ground_Check_CV : CV Tryd.prog g37_ground_Check_C := tabC_valid ⟨g66_ground_valid_valid, trivial⟩
noncomputable def g37_ground_Check (a0 : E25) : Option Int :=
  (Option.bind (g66_ground_valid a0) fun r1 =>
  (bif (!r1) then
    some 2
    else
    some 0))
noncomputable def g37_ground_Check_E : CEnt := pureE 37 [.dat T25] (.dat (.int .i64)) fun x => g37_ground_Check x.1
theorem g37_ground_Check_LV : LV 0 Tryd.prog false (loopsOf (bodyOf Tryd.f37)) [] := by unfold LV; cases loopsOf (bodyOf Tryd.f37) <;> trivial
theorem g37_ground_Check_ent : Ent Tryd.prog 37 := ⟨by decide, enters_of Tryd.func37 (by kernel_rfl) rfl⟩
theorem g37_ground_Check_hev : ∀ x, fnR Tryd.prog g37_ground_Check_C [] Tryd.f37 (bodyOf Tryd.f37) (encs [.dat T25] x) ⟨[], [], 0⟩ (frzF (.dat (.int .i64))) = g37_ground_Check x.1 := by
  intro x; kernel_rfl
theorem g37_ground_Check_valid : g37_ground_Check_E.Valid Tryd.prog :=
  pureE_valid (by kernel_rfl) (by kernel_rfl) g37_ground_Check_ent (frz_lcall mixed Tryd.func37 rfl g37_ground_Check_ent g37_ground_Check_CV g37_ground_Check_LV (by kernel_rfl) (by kernel_rfl) g37_ground_Check_hev)

noncomputable def g40_talikref01_Known_C : CalT := tabC [g26_talikref01_End_E, g19_talikref01_Follow_E]
theorem g40_talikref01_Known_CV : CV Tryd.prog g40_talikref01_Known_C := tabC_valid ⟨g26_talikref01_End_valid, g19_talikref01_Follow_valid, trivial⟩
noncomputable def g40_talikref01_Known_l0_S : SPat := ⟨[.any, .dat (.list T72), .any, .any, .any, .dat (.list T23), .dat (.list T23), .own 0 T53, .dat (.int .i64), .any, .any, .any, .any, .any, .any, .any, .any, .any, .any, .any, .any, .any, .any, .any, .any, .any, .any, .any, .any, .any, .any, .any, .any, .any, .any, .any, .any, .any, .any, .any, .any, .any, .any, .any, .any, .any, .any, .any, .any, .any, .any, .any, .any, .any, .any, .any, .any, .any, .any, .any, .any, .any, .any, .any, .any, .any], [.dat T25], 1⟩
noncomputable def g40_talikref01_Known_l0_step (s : (((List E72) × ((List E23) × ((List E23) × ((List E53) × (Int × Unit))))) × (E25 × Unit))) : Option (Nat × (((List E72) × ((List E23) × ((List E23) × ((List E53) × (Int × Unit))))) × (E25 × Unit))) :=
  (bif (decide (s.1.2.2.2.2.1 < (List.length s.1.1 : Int))) then
  (bif (decide (0 ≤ s.1.2.2.2.2.1) && decide (s.1.2.2.2.2.1 < (List.length s.1.2.1 : Int))) then
    (bif (decide ((List.getD s.1.2.1 (Int.toNat s.1.2.2.2.2.1) (0, (0, ()))).2.1 > 0)) then
      (bif (decide (0 ≤ s.1.2.2.2.2.1) && decide (s.1.2.2.2.2.1 < (List.length s.1.2.2.1 : Int))) then
        (bif ((List.getD s.1.2.2.1 (Int.toNat s.1.2.2.2.2.1) (0, (0, ()))).2.1 == 0) then
          (bif (decide (0 ≤ s.1.2.2.2.2.1) && decide (s.1.2.2.2.2.1 < (List.length s.1.2.1 : Int))) then
            (bif (decide (0 ≤ s.1.2.2.2.2.1) && decide (s.1.2.2.2.2.1 < (List.length s.1.2.2.1 : Int))) then
              (bif (decide (0 ≤ s.1.2.2.2.2.1) && decide (s.1.2.2.2.2.1 < (List.length s.1.2.1 : Int))) then
                (bif (decide (0 ≤ s.1.2.2.2.2.1) && decide (s.1.2.2.2.2.1 < (List.length s.1.2.2.1 : Int))) then
                  (bif (decide (List.length s.1.2.2.2.1 + List.length [(((List.getD s.1.2.1 (Int.toNat s.1.2.2.2.2.1) (0, (0, ()))).1, ((List.getD s.1.2.2.1 (Int.toNat s.1.2.2.2.2.1) (0, (0, ()))).1, ())), (((List.getD s.1.2.1 (Int.toNat s.1.2.2.2.2.1) (0, (0, ()))).2.1, ((List.getD s.1.2.2.1 (Int.toNat s.1.2.2.2.2.1) (0, (0, ()))).2.1, ())), (1, ())))] ≤ LIM)) then
                    some (0, ((s.1.1, (s.1.2.1, (s.1.2.2.1, ((s.1.2.2.2.1 ++ [(((List.getD s.1.2.1 (Int.toNat s.1.2.2.2.2.1) (0, (0, ()))).1, ((List.getD s.1.2.2.1 (Int.toNat s.1.2.2.2.2.1) (0, (0, ()))).1, ())), (((List.getD s.1.2.1 (Int.toNat s.1.2.2.2.2.1) (0, (0, ()))).2.1, ((List.getD s.1.2.2.1 (Int.toNat s.1.2.2.2.2.1) (0, (0, ()))).2.1, ())), (1, ())))]), ((IntKind.wrap .i64 (s.1.2.2.2.2.1 + 1)), ()))))), (s.2.1, ())))
                    else
                    none)
                  else
                  none)
                else
                none)
              else
              none)
            else
            none)
          else
          (bif (decide (0 ≤ s.1.2.2.2.2.1) && decide (s.1.2.2.2.2.1 < (List.length s.1.2.1 : Int))) then
            (bif (decide (0 ≤ s.1.2.2.2.2.1) && decide (s.1.2.2.2.2.1 < (List.length s.1.2.2.1 : Int))) then
              (bif (decide (0 ≤ s.1.2.2.2.2.1) && decide (s.1.2.2.2.2.1 < (List.length s.1.2.1 : Int))) then
                (bif (decide (0 ≤ s.1.2.2.2.2.1) && decide (s.1.2.2.2.2.1 < (List.length s.1.2.2.1 : Int))) then
                  (bif (decide (List.length s.1.2.2.2.1 + List.length [(((List.getD s.1.2.1 (Int.toNat s.1.2.2.2.2.1) (0, (0, ()))).1, ((List.getD s.1.2.2.1 (Int.toNat s.1.2.2.2.2.1) (0, (0, ()))).1, ())), (((List.getD s.1.2.1 (Int.toNat s.1.2.2.2.2.1) (0, (0, ()))).2.1, ((List.getD s.1.2.2.1 (Int.toNat s.1.2.2.2.2.1) (0, (0, ()))).2.1, ())), (3, ())))] ≤ LIM)) then
                    some (0, ((s.1.1, (s.1.2.1, (s.1.2.2.1, ((s.1.2.2.2.1 ++ [(((List.getD s.1.2.1 (Int.toNat s.1.2.2.2.2.1) (0, (0, ()))).1, ((List.getD s.1.2.2.1 (Int.toNat s.1.2.2.2.2.1) (0, (0, ()))).1, ())), (((List.getD s.1.2.1 (Int.toNat s.1.2.2.2.2.1) (0, (0, ()))).2.1, ((List.getD s.1.2.2.1 (Int.toNat s.1.2.2.2.2.1) (0, (0, ()))).2.1, ())), (3, ())))]), ((IntKind.wrap .i64 (s.1.2.2.2.2.1 + 1)), ()))))), (s.2.1, ())))
                    else
                    none)
                  else
                  none)
                else
                none)
              else
              none)
            else
            none))
        else
        none)
      else
      (bif (decide (0 ≤ s.1.2.2.2.2.1) && decide (s.1.2.2.2.2.1 < (List.length s.1.2.2.1 : Int))) then
        (bif ((List.getD s.1.2.2.1 (Int.toNat s.1.2.2.2.2.1) (0, (0, ()))).2.1 == 0) then
          (bif (decide (0 ≤ s.1.2.2.2.2.1) && decide (s.1.2.2.2.2.1 < (List.length s.1.2.1 : Int))) then
            (bif (decide (0 ≤ s.1.2.2.2.2.1) && decide (s.1.2.2.2.2.1 < (List.length s.1.2.2.1 : Int))) then
              (bif (decide (0 ≤ s.1.2.2.2.2.1) && decide (s.1.2.2.2.2.1 < (List.length s.1.2.1 : Int))) then
                (bif (decide (0 ≤ s.1.2.2.2.2.1) && decide (s.1.2.2.2.2.1 < (List.length s.1.2.2.1 : Int))) then
                  (bif (decide (List.length s.1.2.2.2.1 + List.length [(((List.getD s.1.2.1 (Int.toNat s.1.2.2.2.2.1) (0, (0, ()))).1, ((List.getD s.1.2.2.1 (Int.toNat s.1.2.2.2.2.1) (0, (0, ()))).1, ())), (((List.getD s.1.2.1 (Int.toNat s.1.2.2.2.2.1) (0, (0, ()))).2.1, ((List.getD s.1.2.2.1 (Int.toNat s.1.2.2.2.2.1) (0, (0, ()))).2.1, ())), (1, ())))] ≤ LIM)) then
                    some (0, ((s.1.1, (s.1.2.1, (s.1.2.2.1, ((s.1.2.2.2.1 ++ [(((List.getD s.1.2.1 (Int.toNat s.1.2.2.2.2.1) (0, (0, ()))).1, ((List.getD s.1.2.2.1 (Int.toNat s.1.2.2.2.2.1) (0, (0, ()))).1, ())), (((List.getD s.1.2.1 (Int.toNat s.1.2.2.2.2.1) (0, (0, ()))).2.1, ((List.getD s.1.2.2.1 (Int.toNat s.1.2.2.2.2.1) (0, (0, ()))).2.1, ())), (1, ())))]), ((IntKind.wrap .i64 (s.1.2.2.2.2.1 + 1)), ()))))), (s.2.1, ())))
                    else
                    none)
                  else
                  none)
                else
                none)
              else
              none)
            else
            none)
          else
          (bif (decide (0 ≤ s.1.2.2.2.2.1) && decide (s.1.2.2.2.2.1 < (List.length s.1.2.1 : Int))) then
            (bif (decide (0 ≤ s.1.2.2.2.2.1) && decide (s.1.2.2.2.2.1 < (List.length s.1.2.2.1 : Int))) then
              (bif (decide (0 ≤ s.1.2.2.2.2.1) && decide (s.1.2.2.2.2.1 < (List.length s.1.2.1 : Int))) then
                (bif (decide (0 ≤ s.1.2.2.2.2.1) && decide (s.1.2.2.2.2.1 < (List.length s.1.2.2.1 : Int))) then
                  (bif (decide (List.length s.1.2.2.2.1 + List.length [(((List.getD s.1.2.1 (Int.toNat s.1.2.2.2.2.1) (0, (0, ()))).1, ((List.getD s.1.2.2.1 (Int.toNat s.1.2.2.2.2.1) (0, (0, ()))).1, ())), (((List.getD s.1.2.1 (Int.toNat s.1.2.2.2.2.1) (0, (0, ()))).2.1, ((List.getD s.1.2.2.1 (Int.toNat s.1.2.2.2.2.1) (0, (0, ()))).2.1, ())), (2, ())))] ≤ LIM)) then
                    some (0, ((s.1.1, (s.1.2.1, (s.1.2.2.1, ((s.1.2.2.2.1 ++ [(((List.getD s.1.2.1 (Int.toNat s.1.2.2.2.2.1) (0, (0, ()))).1, ((List.getD s.1.2.2.1 (Int.toNat s.1.2.2.2.2.1) (0, (0, ()))).1, ())), (((List.getD s.1.2.1 (Int.toNat s.1.2.2.2.2.1) (0, (0, ()))).2.1, ((List.getD s.1.2.2.1 (Int.toNat s.1.2.2.2.2.1) (0, (0, ()))).2.1, ())), (2, ())))]), ((IntKind.wrap .i64 (s.1.2.2.2.2.1 + 1)), ()))))), (s.2.1, ())))
                    else
                    none)
                  else
                  none)
                else
                none)
              else
              none)
            else
            none))
        else
        none))
    else
    none)
  else
  some (1, ((s.1.1, (s.1.2.1, (s.1.2.2.1, (s.1.2.2.2.1, (s.1.2.2.2.2.1, ()))))), (s.2.1, ()))))
noncomputable def g40_talikref01_Known_l0_fuel (s : (((List E72) × ((List E23) × ((List E23) × ((List E53) × (Int × Unit))))) × (E25 × Unit))) : Nat := Int.toNat ((List.length s.1.1 : Int) - s.1.2.2.2.2.1) + 1
noncomputable def g40_talikref01_Known_l0_run (s : (((List E72) × ((List E23) × ((List E23) × ((List E53) × (Int × Unit))))) × (E25 × Unit))) : Option (Nat × (((List E72) × ((List E23) × ((List E23) × ((List E53) × (Int × Unit))))) × (E25 × Unit))) := iter g40_talikref01_Known_l0_step (g40_talikref01_Known_l0_fuel s) s
noncomputable def g40_talikref01_Known_l0_L : LoopT := loopT g40_talikref01_Known_l0_S [.exit 0] g40_talikref01_Known_l0_run
noncomputable def g40_talikref01_Known (a0 : E25) (a1 : (List E72)) : Option (List E53) :=
  (Option.bind (g26_talikref01_End a0 a1 false) fun r1 =>
  (Option.bind (g19_talikref01_Follow a0 r1 0) fun r2 =>
    (Option.bind (g26_talikref01_End a0 a1 true) fun r3 =>
      (Option.bind (g19_talikref01_Follow a0 r3 0) fun r4 =>
        (Option.bind (g40_talikref01_Known_l0_run ((a1, (r2, (r4, ([], (0, ()))))), (a0, ()))) fun q5 =>
          some q5.2.1.2.2.2.1)))))
noncomputable def g40_talikref01_Known_E : CEnt := pureE 40 [.dat T25, .dat (.list T72)] (.dat (.list T53)) fun x => g40_talikref01_Known x.1 x.2.1
noncomputable def g40_talikref01_Known_l0_c : Code := loopAt (bodyOf Tryd.f40) 0
theorem g40_talikref01_Known_l0_V : LValid 0 Tryd.prog (.loop g40_talikref01_Known_l0_c) g40_talikref01_Known_l0_L false := by
  have hb : ∀ s, codeR Tryd.prog g40_talikref01_Known_C g40_talikref01_Known_l0_c [] (g40_talikref01_Known_l0_S.encE s) (g40_talikref01_Known_l0_S.encB s) (kst g40_talikref01_Known_l0_S [.exit 0]) = g40_talikref01_Known_l0_step s := by
    intro s; kernel_rfl
  have hL : LV 0 Tryd.prog false (loopsOf g40_talikref01_Known_l0_c) [] := by unfold LV; cases loopsOf g40_talikref01_Known_l0_c <;> trivial
  exact loopT_valid (fuel := g40_talikref01_Known_l0_fuel) mixed g40_talikref01_Known_CV hL (by kernel_rfl) (by decide) rfl hb (fun s r h => h)
theorem g40_talikref01_Known_LV : LV 0 Tryd.prog false (loopsOf (bodyOf Tryd.f40)) [g40_talikref01_Known_l0_L] := by
  have hl : loopsOf (bodyOf Tryd.f40) = [.loop g40_talikref01_Known_l0_c] := by kernel_rfl
  rw [hl]; exact ⟨g40_talikref01_Known_l0_V, trivial⟩
theorem g40_talikref01_Known_ent : Ent Tryd.prog 40 := ⟨by decide, enters_of Tryd.func40 (by kernel_rfl) rfl⟩
theorem g40_talikref01_Known_hev : ∀ x, fnR Tryd.prog g40_talikref01_Known_C [g40_talikref01_Known_l0_L] Tryd.f40 (bodyOf Tryd.f40) (encs [.dat T25, .dat (.list T72)] x) ⟨[], [], 0⟩ (frzF (.dat (.list T53))) = g40_talikref01_Known x.1 x.2.1 := by
  intro x; kernel_rfl
theorem g40_talikref01_Known_valid : g40_talikref01_Known_E.Valid Tryd.prog :=
  pureE_valid (by kernel_rfl) (by kernel_rfl) g40_talikref01_Known_ent (frz_lcall mixed Tryd.func40 rfl g40_talikref01_Known_ent g40_talikref01_Known_CV g40_talikref01_Known_LV (by kernel_rfl) (by kernel_rfl) g40_talikref01_Known_hev)

end Go.Proofs.YtbidmbjkjpdgdaaDoor.Abs
