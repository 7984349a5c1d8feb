import Derived.Test.YtcijddeommognaaDoorF2
import Derived.Test.YtcijddeommognaaDoorF1
import Derived.IntWalk
import Derived.Test.YtcijddeommognaaDoorA3
/-
  Functions of the store layer, and what they come to, as typed functions; part 3. Printed by a program of mine (gen.py).
-/
set_option linter.unusedVariables false
set_option maxRecDepth 100000
namespace Go.Proofs.YtcijddeommognaaDoor.Abs
open Go.Shelf Go.Sort
noncomputable def g27_talikref06_First_C : CalT := tabC [g38_talikref06_Run_E, g56_talikref06_Lack_E]
theorem g27_talikref06_First_CV : CV Tryd.prog g27_talikref06_First_C := tabC_valid (l := [g38_talikref06_Run_E, g56_talikref06_Lack_E]) ⟨g38_talikref06_Run_valid, g56_talikref06_Lack_valid, trivial⟩
noncomputable def g27_talikref06_First_l0_c : Code := loopAt (bodyOf Tryd.f27) 0
noncomputable def g27_talikref06_First_l1_c : Code := loopAt g27_talikref06_First_l0_c 0
noncomputable def g27_talikref06_First_l1_S : SPat := ⟨[.any, .dat (.int .i64), .fix (.bptr 0 []), .any, .any, .any, .any, .dat (.int .i64), .dat (.int .i64), .dat .bool, .dat (.int .i64), .dat (.int .i64), .any, .any, .any, .any, .any, .any, .any, .any, .any, .any, .any, .any, .any, .any, .any, .any, .any, .any, .any, .any, .any, .any, .any, .any, .any, .any, .any, .any, .any, .any, .any, .any, .any, .any, .any, .any, .any, .any, .any, .any, .any, .any, .any, .any, .any, .any, .any, .any, .any, .any, .any, .any, .any], [.dat T27], 0⟩
noncomputable def g27_talikref06_First_l1_step (s : TY62) : Option TY63 :=
  (bif (decide (s.1.2.2.2.2.2.1 < (List.length s.2.1.2.2.2.2.2.2.2.1 : Int))) then
  (Option.bind (g38_talikref06_Run s.2.1 s.1.1 s.1.2.2.2.2.1 s.1.2.2.2.2.2.1) fun r1 =>
    (Option.bind (g56_talikref06_Lack r1.2.2.1) fun r2 =>
      (bif r2.2.2.1 then
        (bif (!s.1.2.2.2.1) then
          some (0, ((s.1.1, (r2.1, (r2.2.1, (true, (s.1.2.2.2.2.1, ((IntKind.wrap .i64 (s.1.2.2.2.2.2.1 + 1)), ())))))), (s.2.1, ())))
          else
          (bif (decide (r2.1 < s.1.2.1)) then
            some (0, ((s.1.1, (r2.1, (r2.2.1, (true, (s.1.2.2.2.2.1, ((IntKind.wrap .i64 (s.1.2.2.2.2.2.1 + 1)), ())))))), (s.2.1, ())))
            else
            (bif (r2.1 == s.1.2.1) then
              (bif (decide (r2.2.1 < s.1.2.2.1)) then
                some (0, ((s.1.1, (r2.1, (r2.2.1, (true, (s.1.2.2.2.2.1, ((IntKind.wrap .i64 (s.1.2.2.2.2.2.1 + 1)), ())))))), (s.2.1, ())))
                else
                some (0, ((s.1.1, (s.1.2.1, (s.1.2.2.1, (s.1.2.2.2.1, (s.1.2.2.2.2.1, ((IntKind.wrap .i64 (s.1.2.2.2.2.2.1 + 1)), ())))))), (s.2.1, ()))))
              else
              some (0, ((s.1.1, (s.1.2.1, (s.1.2.2.1, (s.1.2.2.2.1, (s.1.2.2.2.2.1, ((IntKind.wrap .i64 (s.1.2.2.2.2.2.1 + 1)), ())))))), (s.2.1, ()))))))
        else
        some (0, ((s.1.1, (s.1.2.1, (s.1.2.2.1, (s.1.2.2.2.1, (s.1.2.2.2.2.1, ((IntKind.wrap .i64 (s.1.2.2.2.2.2.1 + 1)), ())))))), (s.2.1, ()))))))
  else
  some (1, ((s.1.1, (s.1.2.1, (s.1.2.2.1, (s.1.2.2.2.1, (s.1.2.2.2.2.1, (s.1.2.2.2.2.2.1, ())))))), (s.2.1, ()))))
noncomputable def g27_talikref06_First_l1_fuel (s : TY62) : Nat := Int.toNat ((List.length s.2.1.2.2.2.2.2.2.2.1 : Int) - s.1.2.2.2.2.2.1) + 1
noncomputable def g27_talikref06_First_l1_run (s : TY62) : Option TY63 := iter g27_talikref06_First_l1_step (g27_talikref06_First_l1_fuel s) s
noncomputable def g27_talikref06_First_l1_L : LoopT := loopT g27_talikref06_First_l1_S [.exit 2] g27_talikref06_First_l1_run
noncomputable def g27_talikref06_First_l0_S : SPat := ⟨[.any, .dat (.int .i64), .fix (.bptr 0 []), .any, .any, .any, .any, .dat (.int .i64), .dat (.int .i64), .dat .bool, .dat (.int .i64), .any, .any, .any, .any, .any, .any, .any, .any, .any, .any, .any, .any, .any, .any, .any, .any, .any, .any, .any, .any, .any, .any, .any, .any, .any, .any, .any, .any, .any, .any, .any, .any, .any, .any, .any, .any, .any, .any, .any, .any, .any, .any, .any, .any, .any, .any, .any, .any, .any, .any, .any, .any, .any, .any], [.dat T27], 0⟩
abbrev TY94 : Type := (Nat × ((Int × (Int × (Int × (Bool × (Int × Unit))))) × (E27 × Unit)))
noncomputable def g27_talikref06_First_l0_step (s : ((Int × (Int × (Int × (Bool × (Int × Unit))))) × (E27 × Unit))) : Option TY94 :=
  (bif (decide (s.1.2.2.2.2.1 < (List.length s.2.1.2.2.2.2.2.2.1 : Int))) then
  (Option.bind (g27_talikref06_First_l1_run ((s.1.1, (s.1.2.1, (s.1.2.2.1, (s.1.2.2.2.1, (s.1.2.2.2.2.1, (0, ())))))), (s.2.1, ()))) fun q3 =>
    some (0, ((q3.2.1.1, (q3.2.1.2.1, (q3.2.1.2.2.1, (q3.2.1.2.2.2.1, ((IntKind.wrap .i64 (q3.2.1.2.2.2.2.1 + 1)), ()))))), (q3.2.2.1, ()))))
  else
  some (1, ((s.1.1, (s.1.2.1, (s.1.2.2.1, (s.1.2.2.2.1, (s.1.2.2.2.2.1, ()))))), (s.2.1, ()))))
noncomputable def g27_talikref06_First_l0_fuel (s : ((Int × (Int × (Int × (Bool × (Int × Unit))))) × (E27 × Unit))) : Nat := Int.toNat ((List.length s.2.1.2.2.2.2.2.2.1 : Int) - s.1.2.2.2.2.1) + 1
noncomputable def g27_talikref06_First_l0_run (s : ((Int × (Int × (Int × (Bool × (Int × Unit))))) × (E27 × Unit))) : Option TY94 := iter g27_talikref06_First_l0_step (g27_talikref06_First_l0_fuel s) s
noncomputable def g27_talikref06_First_l0_L : LoopT := loopT g27_talikref06_First_l0_S [.exit 0] g27_talikref06_First_l0_run
noncomputable def g27_talikref06_First (a0 : E27) (a1 : Int) : Option (Int × (Int × (Bool × Unit))) :=
  (Option.bind (g27_talikref06_First_l0_run ((a1, (0, (0, (false, (0, ()))))), (a0, ()))) fun q4 =>
  some (q4.2.1.2.1, (q4.2.1.2.2.1, (q4.2.1.2.2.2.1, ()))))
noncomputable def g27_talikref06_First_E : CEnt := pureE 27 [.dat T27, .dat (.int .i64)] (.tup (.cons (.dat (.int .i64)) (.cons (.dat (.int .i64)) (.cons (.dat .bool) (.nil))))) fun x => g27_talikref06_First x.1 x.2.1
theorem g27_talikref06_First_l1_V : LValid 0 Tryd.prog (.loop g27_talikref06_First_l1_c) g27_talikref06_First_l1_L false := by
  have hb : ∀ s, codeR Tryd.prog g27_talikref06_First_C g27_talikref06_First_l1_c [] (g27_talikref06_First_l1_S.encE s) (g27_talikref06_First_l1_S.encB s) (kst g27_talikref06_First_l1_S [.exit 2]) = g27_talikref06_First_l1_step s := by
    intro s; kernel_rfl
  have hL : LV 0 Tryd.prog false (loopsOf g27_talikref06_First_l1_c) [] := by unfold LV; cases loopsOf g27_talikref06_First_l1_c <;> trivial
  exact loopT_valid (fuel := g27_talikref06_First_l1_fuel) mixed g27_talikref06_First_CV hL (by kernel_rfl) (by decide) rfl hb (fun s r h => h)
theorem g27_talikref06_First_l0_V : LValid 0 Tryd.prog (.loop g27_talikref06_First_l0_c) g27_talikref06_First_l0_L false := by
  have hb : ∀ s, codeR Tryd.prog g27_talikref06_First_C g27_talikref06_First_l0_c [g27_talikref06_First_l1_L] (g27_talikref06_First_l0_S.encE s) (g27_talikref06_First_l0_S.encB s) (kst g27_talikref06_First_l0_S [.exit 0]) = g27_talikref06_First_l0_step s := by
    intro s; kernel_rfl
  have hl : loopsOf g27_talikref06_First_l0_c = [.loop g27_talikref06_First_l1_c] := by kernel_rfl
  have hL : LV 0 Tryd.prog false (loopsOf g27_talikref06_First_l0_c) [g27_talikref06_First_l1_L] := by rw [hl]; exact ⟨g27_talikref06_First_l1_V, trivial⟩
  exact loopT_valid (fuel := g27_talikref06_First_l0_fuel) mixed g27_talikref06_First_CV hL (by kernel_rfl) (by decide) rfl hb (fun s r h => h)
theorem g27_talikref06_First_LV : LV 0 Tryd.prog false (loopsOf (bodyOf Tryd.f27)) [g27_talikref06_First_l0_L] := by
  have hl : loopsOf (bodyOf Tryd.f27) = [.loop g27_talikref06_First_l0_c] := by kernel_rfl
  rw [hl]; exact ⟨g27_talikref06_First_l0_V, trivial⟩
theorem g27_talikref06_First_ent : Ent Tryd.prog 27 := ⟨by decide, enters_of Tryd.func27 (by kernel_rfl) rfl⟩
theorem g27_talikref06_First_hev : ∀ x, fnR Tryd.prog g27_talikref06_First_C [g27_talikref06_First_l0_L] Tryd.f27 (bodyOf Tryd.f27) (encs [.dat T27, .dat (.int .i64)] x) ⟨[], [], 0⟩ (frzF (.tup (.cons (.dat (.int .i64)) (.cons (.dat (.int .i64)) (.cons (.dat .bool) (.nil)))))) = g27_talikref06_First x.1 x.2.1 := by
  intro x; kernel_rfl
theorem g27_talikref06_First_valid : g27_talikref06_First_E.Valid Tryd.prog :=
  pureE_valid (by kernel_rfl) (by kernel_rfl) g27_talikref06_First_ent (frz_lcall mixed Tryd.func27 rfl g27_talikref06_First_ent g27_talikref06_First_CV g27_talikref06_First_LV (by kernel_rfl) (by kernel_rfl) g27_talikref06_First_hev)

noncomputable def g18_taliklaw06_ice_C : CalT := tabC []
theorem g18_taliklaw06_ice_CV : CV Tryd.prog g18_taliklaw06_ice_C := tabC_valid (l := []) trivial
noncomputable def g18_taliklaw06_ice (a0 : E27) (a1 : Int) : Option Bool :=
  (bif (decide (a1 ≥ 0)) then
  some (decide (a1 < (List.length a0.2.2.2.2.2.2.1 : Int)))
  else
  some false)
noncomputable def g18_taliklaw06_ice_E : CEnt := pureE 18 [.dat T27, .dat (.int .i64)] (.dat .bool) fun x => g18_taliklaw06_ice x.1 x.2.1
theorem g18_taliklaw06_ice_LV : LV 0 Tryd.prog false (loopsOf (bodyOf Tryd.f18)) [] := by unfold LV; cases loopsOf (bodyOf Tryd.f18) <;> trivial
theorem g18_taliklaw06_ice_ent : Ent Tryd.prog 18 := ⟨by decide, enters_of Tryd.func18 (by kernel_rfl) rfl⟩
theorem g18_taliklaw06_ice_hev : ∀ x, fnR Tryd.prog g18_taliklaw06_ice_C [] Tryd.f18 (bodyOf Tryd.f18) (encs [.dat T27, .dat (.int .i64)] x) ⟨[], [], 0⟩ (frzF (.dat .bool)) = g18_taliklaw06_ice x.1 x.2.1 := by
  intro x; kernel_rfl
theorem g18_taliklaw06_ice_valid : g18_taliklaw06_ice_E.Valid Tryd.prog :=
  pureE_valid (by kernel_rfl) (by kernel_rfl) g18_taliklaw06_ice_ent (frz_lcall mixed Tryd.func18 rfl g18_taliklaw06_ice_ent g18_taliklaw06_ice_CV g18_taliklaw06_ice_LV (by kernel_rfl) (by kernel_rfl) g18_taliklaw06_ice_hev)

noncomputable def g19_taliklaw06_winter_C : CalT := tabC []
theorem g19_taliklaw06_winter_CV : CV Tryd.prog g19_taliklaw06_winter_C := tabC_valid (l := []) trivial
noncomputable def g19_taliklaw06_winter (a0 : E27) (a1 : Int) : Option Bool :=
  (bif (decide (a1 ≥ 0)) then
  some (decide (a1 < (List.length a0.2.2.2.2.2.2.2.1 : Int)))
  else
  some false)
noncomputable def g19_taliklaw06_winter_E : CEnt := pureE 19 [.dat T27, .dat (.int .i64)] (.dat .bool) fun x => g19_taliklaw06_winter x.1 x.2.1
theorem g19_taliklaw06_winter_LV : LV 0 Tryd.prog false (loopsOf (bodyOf Tryd.f19)) [] := by unfold LV; cases loopsOf (bodyOf Tryd.f19) <;> trivial
theorem g19_taliklaw06_winter_ent : Ent Tryd.prog 19 := ⟨by decide, enters_of Tryd.func19 (by kernel_rfl) rfl⟩
theorem g19_taliklaw06_winter_hev : ∀ x, fnR Tryd.prog g19_taliklaw06_winter_C [] Tryd.f19 (bodyOf Tryd.f19) (encs [.dat T27, .dat (.int .i64)] x) ⟨[], [], 0⟩ (frzF (.dat .bool)) = g19_taliklaw06_winter x.1 x.2.1 := by
  intro x; kernel_rfl
theorem g19_taliklaw06_winter_valid : g19_taliklaw06_winter_E.Valid Tryd.prog :=
  pureE_valid (by kernel_rfl) (by kernel_rfl) g19_taliklaw06_winter_ent (frz_lcall mixed Tryd.func19 rfl g19_taliklaw06_winter_ent g19_taliklaw06_winter_CV g19_taliklaw06_winter_LV (by kernel_rfl) (by kernel_rfl) g19_taliklaw06_winter_hev)

noncomputable def g30_talikref06_Cost_C : CalT := tabC [g22_talikref06_Has_E]
theorem g30_talikref06_Cost_CV : CV Tryd.prog g30_talikref06_Cost_C := tabC_valid (l := [g22_talikref06_Has_E]) ⟨g22_talikref06_Has_valid, trivial⟩
noncomputable def g30_talikref06_Cost_l0_c : Code := loopAt (bodyOf Tryd.f30) 0
noncomputable def g30_talikref06_Cost_l0_S : SPat := ⟨[.any, .dat (.int .i64), .fix (.bptr 0 []), .any, .any, .dat (.int .i64), .dat (.int .i64), .any, .any, .any, .any, .any, .any, .any, .any, .any, .any, .any, .any, .any, .any, .any, .any, .any, .any, .any], [.dat T27], 0⟩
noncomputable def g30_talikref06_Cost_l0_step (s : ((Int × (Int × (Int × Unit))) × (E27 × Unit))) : Option (Nat × ((Int × (Int × (Int × Unit))) × (E27 × Unit))) :=
  (bif (decide (s.1.2.2.1 < (List.length s.2.1.2.2.2.2.2.1 : Int))) then
  (Option.bind (g22_talikref06_Has s.1.1 s.1.2.2.1) fun r1 =>
    (bif r1 then
      (bif (decide (0 ≤ s.1.2.2.1) && decide (s.1.2.2.1 < (List.length s.2.1.2.2.2.2.2.1 : Int))) then
        some (0, ((s.1.1, ((IntKind.wrap .i64 (s.1.2.1 + (List.getD s.2.1.2.2.2.2.2.1 (Int.toNat s.1.2.2.1) (0, ((List.replicate 3 0), (0, ())))).2.2.1)), ((IntKind.wrap .i64 (s.1.2.2.1 + 1)), ()))), (s.2.1, ())))
        else
        none)
      else
      some (0, ((s.1.1, (s.1.2.1, ((IntKind.wrap .i64 (s.1.2.2.1 + 1)), ()))), (s.2.1, ())))))
  else
  some (1, ((s.1.1, (s.1.2.1, (s.1.2.2.1, ()))), (s.2.1, ()))))
noncomputable def g30_talikref06_Cost_l0_fuel (s : ((Int × (Int × (Int × Unit))) × (E27 × Unit))) : Nat := Int.toNat ((List.length s.2.1.2.2.2.2.2.1 : Int) - s.1.2.2.1) + 1
noncomputable def g30_talikref06_Cost_l0_run (s : ((Int × (Int × (Int × Unit))) × (E27 × Unit))) : Option (Nat × ((Int × (Int × (Int × Unit))) × (E27 × Unit))) := iter g30_talikref06_Cost_l0_step (g30_talikref06_Cost_l0_fuel s) s
noncomputable def g30_talikref06_Cost_l0_L : LoopT := loopT g30_talikref06_Cost_l0_S [.exit 0] g30_talikref06_Cost_l0_run
noncomputable def g30_talikref06_Cost (a0 : E27) (a1 : Int) : Option Int :=
  (Option.bind (g30_talikref06_Cost_l0_run ((a1, (0, (0, ()))), (a0, ()))) fun q2 =>
  some q2.2.1.2.1)
noncomputable def g30_talikref06_Cost_E : CEnt := pureE 30 [.dat T27, .dat (.int .i64)] (.dat (.int .i64)) fun x => g30_talikref06_Cost x.1 x.2.1
theorem g30_talikref06_Cost_l0_V : LValid 0 Tryd.prog (.loop g30_talikref06_Cost_l0_c) g30_talikref06_Cost_l0_L false := by
  have hb : ∀ s, codeR Tryd.prog g30_talikref06_Cost_C g30_talikref06_Cost_l0_c [] (g30_talikref06_Cost_l0_S.encE s) (g30_talikref06_Cost_l0_S.encB s) (kst g30_talikref06_Cost_l0_S [.exit 0]) = g30_talikref06_Cost_l0_step s := by
    intro s; kernel_rfl
  have hL : LV 0 Tryd.prog false (loopsOf g30_talikref06_Cost_l0_c) [] := by unfold LV; cases loopsOf g30_talikref06_Cost_l0_c <;> trivial
  exact loopT_valid (fuel := g30_talikref06_Cost_l0_fuel) mixed g30_talikref06_Cost_CV hL (by kernel_rfl) (by decide) rfl hb (fun s r h => h)
theorem g30_talikref06_Cost_LV : LV 0 Tryd.prog false (loopsOf (bodyOf Tryd.f30)) [g30_talikref06_Cost_l0_L] := by
  have hl : loopsOf (bodyOf Tryd.f30) = [.loop g30_talikref06_Cost_l0_c] := by kernel_rfl
  rw [hl]; exact ⟨g30_talikref06_Cost_l0_V, trivial⟩
theorem g30_talikref06_Cost_ent : Ent Tryd.prog 30 := ⟨by decide, enters_of Tryd.func30 (by kernel_rfl) rfl⟩
theorem g30_talikref06_Cost_hev : ∀ x, fnR Tryd.prog g30_talikref06_Cost_C [g30_talikref06_Cost_l0_L] Tryd.f30 (bodyOf Tryd.f30) (encs [.dat T27, .dat (.int .i64)] x) ⟨[], [], 0⟩ (frzF (.dat (.int .i64))) = g30_talikref06_Cost x.1 x.2.1 := by
  intro x; kernel_rfl
theorem g30_talikref06_Cost_valid : g30_talikref06_Cost_E.Valid Tryd.prog :=
  pureE_valid (by kernel_rfl) (by kernel_rfl) g30_talikref06_Cost_ent (frz_lcall mixed Tryd.func30 rfl g30_talikref06_Cost_ent g30_talikref06_Cost_CV g30_talikref06_Cost_LV (by kernel_rfl) (by kernel_rfl) g30_talikref06_Cost_hev)

noncomputable def g29_talikref06_Best_C : CalT := tabC [g47_talikref06_Plans_E, g26_talikref06_Fault_E, g30_talikref06_Cost_E]
theorem g29_talikref06_Best_CV : CV Tryd.prog g29_talikref06_Best_C := tabC_valid (l := [g47_talikref06_Plans_E, g26_talikref06_Fault_E, g30_talikref06_Cost_E]) ⟨g47_talikref06_Plans_valid, g26_talikref06_Fault_valid, g30_talikref06_Cost_valid, trivial⟩
noncomputable def g29_talikref06_Best_l0_c : Code := loopAt (bodyOf Tryd.f29) 0
noncomputable def g29_talikref06_Best_l0_S : SPat := ⟨[.any, .fix (.bptr 0 []), .any, .dat (.int .i64), .dat (.int .i64), .any, .any, .any, .any, .any, .any, .any, .any, .any, .any, .any, .any, .any, .any, .any, .any, .any, .any, .any, .any, .any, .any, .any, .any, .any, .any], [.dat T27], 0⟩
noncomputable def g29_talikref06_Best_l0_step (s : ((Int × (Int × Unit)) × (E27 × Unit))) : Option (Nat × ((Int × (Int × Unit)) × (E27 × Unit))) :=
  (Option.bind (g47_talikref06_Plans s.2.1) fun r1 =>
  (bif (decide (s.1.2.1 < r1)) then
    (bif (decide (s.1.1 < 0)) then
      (Option.bind (g26_talikref06_Fault s.2.1 s.1.2.1) fun r2 =>
        (bif (!r2.1) then
          some (0, ((s.1.2.1, ((IntKind.wrap .i64 (s.1.2.1 + 1)), ())), (s.2.1, ())))
          else
          some (0, ((s.1.1, ((IntKind.wrap .i64 (s.1.2.1 + 1)), ())), (s.2.1, ())))))
      else
      (Option.bind (g30_talikref06_Cost s.2.1 s.1.2.1) fun r3 =>
        (Option.bind (g30_talikref06_Cost s.2.1 s.1.1) fun r4 =>
          (bif (decide (r3 < r4)) then
            (Option.bind (g26_talikref06_Fault s.2.1 s.1.2.1) fun r5 =>
              (bif (!r5.1) then
                some (0, ((s.1.2.1, ((IntKind.wrap .i64 (s.1.2.1 + 1)), ())), (s.2.1, ())))
                else
                some (0, ((s.1.1, ((IntKind.wrap .i64 (s.1.2.1 + 1)), ())), (s.2.1, ())))))
            else
            some (0, ((s.1.1, ((IntKind.wrap .i64 (s.1.2.1 + 1)), ())), (s.2.1, ())))))))
    else
    some (1, ((s.1.1, (s.1.2.1, ())), (s.2.1, ())))))
noncomputable def g29_talikref06_Best_l0_fuel (s : ((Int × (Int × Unit)) × (E27 × Unit))) : Nat := 100000
noncomputable def g29_talikref06_Best_l0_run (s : ((Int × (Int × Unit)) × (E27 × Unit))) : Option (Nat × ((Int × (Int × Unit)) × (E27 × Unit))) := iter g29_talikref06_Best_l0_step (g29_talikref06_Best_l0_fuel s) s
noncomputable def g29_talikref06_Best_l0_L : LoopT := loopT g29_talikref06_Best_l0_S [.exit 0] g29_talikref06_Best_l0_run
noncomputable def g29_talikref06_Best (a0 : E27) : Option Int :=
  (Option.bind (g29_talikref06_Best_l0_run (((-1), (0, ())), (a0, ()))) fun q6 =>
  some q6.2.1.1)
noncomputable def g29_talikref06_Best_E : CEnt := pureE 29 [.dat T27] (.dat (.int .i64)) fun x => g29_talikref06_Best x.1
theorem g29_talikref06_Best_l0_V : LValid 0 Tryd.prog (.loop g29_talikref06_Best_l0_c) g29_talikref06_Best_l0_L false := by
  have hb : ∀ s, codeR Tryd.prog g29_talikref06_Best_C g29_talikref06_Best_l0_c [] (g29_talikref06_Best_l0_S.encE s) (g29_talikref06_Best_l0_S.encB s) (kst g29_talikref06_Best_l0_S [.exit 0]) = g29_talikref06_Best_l0_step s := by
    intro s; kernel_rfl
  have hL : LV 0 Tryd.prog false (loopsOf g29_talikref06_Best_l0_c) [] := by unfold LV; cases loopsOf g29_talikref06_Best_l0_c <;> trivial
  exact loopT_valid (fuel := g29_talikref06_Best_l0_fuel) mixed g29_talikref06_Best_CV hL (by kernel_rfl) (by decide) rfl hb (fun s r h => h)
theorem g29_talikref06_Best_LV : LV 0 Tryd.prog false (loopsOf (bodyOf Tryd.f29)) [g29_talikref06_Best_l0_L] := by
  have hl : loopsOf (bodyOf Tryd.f29) = [.loop g29_talikref06_Best_l0_c] := by kernel_rfl
  rw [hl]; exact ⟨g29_talikref06_Best_l0_V, trivial⟩
theorem g29_talikref06_Best_ent : Ent Tryd.prog 29 := ⟨by decide, enters_of Tryd.func29 (by kernel_rfl) rfl⟩
theorem g29_talikref06_Best_hev : ∀ x, fnR Tryd.prog g29_talikref06_Best_C [g29_talikref06_Best_l0_L] Tryd.f29 (bodyOf Tryd.f29) (encs [.dat T27] x) ⟨[], [], 0⟩ (frzF (.dat (.int .i64))) = g29_talikref06_Best x.1 := by
  intro x; kernel_rfl
theorem g29_talikref06_Best_valid : g29_talikref06_Best_E.Valid Tryd.prog :=
  pureE_valid (by kernel_rfl) (by kernel_rfl) g29_talikref06_Best_ent (frz_lcall mixed Tryd.func29 rfl g29_talikref06_Best_ent g29_talikref06_Best_CV g29_talikref06_Best_LV (by kernel_rfl) (by kernel_rfl) g29_talikref06_Best_hev)

noncomputable def g32_talikref06_Prices_C : CalT := tabC [g46_talikref06_in_E]
theorem g32_talikref06_Prices_CV : CV Tryd.prog g32_talikref06_Prices_C := tabC_valid (l := [g46_talikref06_in_E]) ⟨g46_talikref06_in_valid, trivial⟩
noncomputable def g32_talikref06_Prices (a0 : (List Int)) : Option Bool :=
  (Option.bind (g46_talikref06_in (List.getD a0 (Int.toNat 0) 0) 0 1000000) fun r1 =>
  (bif r1 then
    (Option.bind (g46_talikref06_in (List.getD a0 (Int.toNat 1) 0) 0 1000000) fun r2 =>
      (bif r2 then
        (Option.bind (g46_talikref06_in (List.getD a0 (Int.toNat 2) 0) 0 1000000) fun r3 =>
          some r3)
        else
        some false))
    else
    some false))
noncomputable def g32_talikref06_Prices_E : CEnt := pureE 32 [.dat (.arr 3 (.int .i64))] (.dat .bool) fun x => g32_talikref06_Prices x.1
theorem g32_talikref06_Prices_LV : LV 0 Tryd.prog false (loopsOf (bodyOf Tryd.f32)) [] := by unfold LV; cases loopsOf (bodyOf Tryd.f32) <;> trivial
theorem g32_talikref06_Prices_ent : Ent Tryd.prog 32 := ⟨by decide, enters_of Tryd.func32 (by kernel_rfl) rfl⟩
theorem g32_talikref06_Prices_hev : ∀ x, fnR Tryd.prog g32_talikref06_Prices_C [] Tryd.f32 (bodyOf Tryd.f32) (encs [.dat (.arr 3 (.int .i64))] x) ⟨[], [], 0⟩ (frzF (.dat .bool)) = g32_talikref06_Prices x.1 := by
  intro x; kernel_rfl
theorem g32_talikref06_Prices_valid : g32_talikref06_Prices_E.Valid Tryd.prog :=
  pureE_valid (by kernel_rfl) (by kernel_rfl) g32_talikref06_Prices_ent (frz_lcall mixed Tryd.func32 rfl g32_talikref06_Prices_ent g32_talikref06_Prices_CV g32_talikref06_Prices_LV (by kernel_rfl) (by kernel_rfl) g32_talikref06_Prices_hev)

noncomputable def g33_talikref06_Fair_C : CalT := tabC []
theorem g33_talikref06_Fair_CV : CV Tryd.prog g33_talikref06_Fair_C := tabC_valid (l := []) trivial
noncomputable def g33_talikref06_Fair_l0_c : Code := loopAt (bodyOf Tryd.f33) 0
noncomputable def g33_talikref06_Fair_l0_S : SPat := ⟨[.any, .any, .fix (.bptr 0 []), .fix (.bptr 1 []), .dat .bool, .dat (.int .i64), .any, .any, .any, .any, .any, .any, .any, .any, .any, .any, .any, .any, .any, .any, .any, .any, .any, .any, .any, .any, .any, .any, .any, .any, .any, .any, .any, .any, .any, .any, .any, .any, .any, .any, .any, .any, .any, .any], [.dat T27, .dat (.arr 3 (.int .i64))], 0⟩
noncomputable def g33_talikref06_Fair_l0_step (s : ((Bool × (Int × Unit)) × (E27 × ((List Int) × Unit)))) : Option (Nat × ((Bool × (Int × Unit)) × (E27 × ((List Int) × Unit)))) :=
  (bif (decide (s.1.2.1 < (List.length s.2.1.2.2.2.2.2.1 : Int))) then
  (bif (decide (0 ≤ s.1.2.1) && decide (s.1.2.1 < (List.length s.2.1.2.2.2.2.2.1 : Int))) then
    (bif (decide (0 ≤ s.1.2.1) && decide (s.1.2.1 < (List.length s.2.1.2.2.2.2.2.1 : Int))) then
      (bif (decide ((IntKind.wrap .i64 ((IntKind.wrap .i64 ((IntKind.wrap .i64 ((List.getD s.2.2.1 (Int.toNat 0) 0) * (List.getD (List.getD s.2.1.2.2.2.2.2.1 (Int.toNat s.1.2.1) (0, ((List.replicate 3 0), (0, ())))).2.1 (Int.toNat 0) 0))) + (IntKind.wrap .i64 ((List.getD s.2.2.1 (Int.toNat 1) 0) * (List.getD (List.getD s.2.1.2.2.2.2.2.1 (Int.toNat s.1.2.1) (0, ((List.replicate 3 0), (0, ())))).2.1 (Int.toNat 1) 0))))) + (IntKind.wrap .i64 ((List.getD s.2.2.1 (Int.toNat 2) 0) * (List.getD (List.getD s.2.1.2.2.2.2.2.1 (Int.toNat s.1.2.1) (0, ((List.replicate 3 0), (0, ())))).2.1 (Int.toNat 2) 0))))) > (List.getD s.2.1.2.2.2.2.2.1 (Int.toNat s.1.2.1) (0, ((List.replicate 3 0), (0, ())))).2.2.1)) then
        some (1, ((false, (s.1.2.1, ())), (s.2.1, (s.2.2.1, ()))))
        else
        some (0, ((s.1.1, ((IntKind.wrap .i64 (s.1.2.1 + 1)), ())), (s.2.1, (s.2.2.1, ())))))
      else
      none)
    else
    none)
  else
  some (2, ((s.1.1, (s.1.2.1, ())), (s.2.1, (s.2.2.1, ())))))
noncomputable def g33_talikref06_Fair_l0_fuel (s : ((Bool × (Int × Unit)) × (E27 × ((List Int) × Unit)))) : Nat := Int.toNat ((List.length s.2.1.2.2.2.2.2.1 : Int) - s.1.2.1) + 1
noncomputable def g33_talikref06_Fair_l0_run (s : ((Bool × (Int × Unit)) × (E27 × ((List Int) × Unit)))) : Option (Nat × ((Bool × (Int × Unit)) × (E27 × ((List Int) × Unit)))) := iter g33_talikref06_Fair_l0_step (g33_talikref06_Fair_l0_fuel s) s
noncomputable def g33_talikref06_Fair_l0_L : LoopT := loopT g33_talikref06_Fair_l0_S [.ret, .exit 0] g33_talikref06_Fair_l0_run
noncomputable def g33_talikref06_Fair (a0 : E27) (a1 : (List Int)) : Option Bool :=
  (Option.bind (g33_talikref06_Fair_l0_run ((false, (0, ())), (a0, (a1, ())))) fun q1 =>
  (natK q1.1
    (some q1.2.1.1)
    (fun _ => some true)))
noncomputable def g33_talikref06_Fair_E : CEnt := pureE 33 [.dat T27, .dat (.arr 3 (.int .i64))] (.dat .bool) fun x => g33_talikref06_Fair x.1 x.2.1
theorem g33_talikref06_Fair_l0_V : LValid 0 Tryd.prog (.loop g33_talikref06_Fair_l0_c) g33_talikref06_Fair_l0_L false := by
  have hb : ∀ s, codeR Tryd.prog g33_talikref06_Fair_C g33_talikref06_Fair_l0_c [] (g33_talikref06_Fair_l0_S.encE s) (g33_talikref06_Fair_l0_S.encB s) (kst g33_talikref06_Fair_l0_S [.ret, .exit 0]) = g33_talikref06_Fair_l0_step s := by
    intro s; kernel_rfl
  have hL : LV 0 Tryd.prog false (loopsOf g33_talikref06_Fair_l0_c) [] := by unfold LV; cases loopsOf g33_talikref06_Fair_l0_c <;> trivial
  exact loopT_valid (fuel := g33_talikref06_Fair_l0_fuel) mixed g33_talikref06_Fair_CV hL (by kernel_rfl) (by decide) rfl hb (fun s r h => h)
theorem g33_talikref06_Fair_LV : LV 0 Tryd.prog false (loopsOf (bodyOf Tryd.f33)) [g33_talikref06_Fair_l0_L] := by
  have hl : loopsOf (bodyOf Tryd.f33) = [.loop g33_talikref06_Fair_l0_c] := by kernel_rfl
  rw [hl]; exact ⟨g33_talikref06_Fair_l0_V, trivial⟩
theorem g33_talikref06_Fair_ent : Ent Tryd.prog 33 := ⟨by decide, enters_of Tryd.func33 (by kernel_rfl) rfl⟩
theorem g33_talikref06_Fair_hev : ∀ x, fnR Tryd.prog g33_talikref06_Fair_C [g33_talikref06_Fair_l0_L] Tryd.f33 (bodyOf Tryd.f33) (encs [.dat T27, .dat (.arr 3 (.int .i64))] x) ⟨[], [], 0⟩ (frzF (.dat .bool)) = g33_talikref06_Fair x.1 x.2.1 := by
  intro x; kernel_rfl
theorem g33_talikref06_Fair_valid : g33_talikref06_Fair_E.Valid Tryd.prog :=
  pureE_valid (by kernel_rfl) (by kernel_rfl) g33_talikref06_Fair_ent (frz_lcall mixed Tryd.func33 rfl g33_talikref06_Fair_ent g33_talikref06_Fair_CV g33_talikref06_Fair_LV (by kernel_rfl) (by kernel_rfl) g33_talikref06_Fair_hev)

noncomputable def g34_talikref06_Floor_C : CalT := tabC []
theorem g34_talikref06_Floor_CV : CV Tryd.prog g34_talikref06_Floor_C := tabC_valid (l := []) trivial
noncomputable def g34_talikref06_Floor_l0_c : Code := loopAt (bodyOf Tryd.f34) 0
noncomputable def g34_talikref06_Floor_l1_c : Code := loopAt g34_talikref06_Floor_l0_c 0
noncomputable def g34_talikref06_Floor_l1_S : SPat := ⟨[.any, .dat (.int .i64), .any, .fix (.bptr 0 []), .any, .fix (.bptr 1 []), .any, .dat (.int .i64), .dat (.int .i64), .dat (.int .i64), .dat (.int .i64), .any, .any, .any, .any, .any, .any, .any, .any, .any, .any, .any, .any, .any, .any, .any, .any, .any, .any, .any, .any, .any, .any, .any, .any, .any, .any, .any, .any, .any, .any, .any, .any, .any, .any, .any, .any], [.dat T27, .dat (.arr 3 (.int .i64))], 0⟩
abbrev TY97 : Type := ((Int × (Int × (Int × (Int × (Int × Unit))))) × (E27 × ((List Int) × Unit)))
abbrev TY98 : Type := (Nat × ((Int × (Int × (Int × (Int × (Int × Unit))))) × (E27 × ((List Int) × Unit))))
noncomputable def g34_talikref06_Floor_l1_step (s : TY97) : Option TY98 :=
  (bif (decide (s.1.2.2.2.2.1 < s.2.1.2.2.2.1)) then
  (bif (decide (0 ≤ s.1.1) && decide (s.1.1 < (List.length s.2.1.2.2.2.2.2.2.2.1 : Int))) then
    (bif (decide (0 ≤ s.1.2.2.2.2.1) && decide (s.1.2.2.2.2.1 < (List.length (List.getD s.2.1.2.2.2.2.2.2.2.1 (Int.toNat s.1.1) []) : Int))) then
      (bif (decide (0 ≤ s.1.2.2.1) && decide (s.1.2.2.1 < (3 : Int))) then
        some (0, ((s.1.1, (s.1.2.1, (s.1.2.2.1, ((IntKind.wrap .i64 (s.1.2.2.2.1 + (List.getD (List.getD (List.getD s.2.1.2.2.2.2.2.2.2.1 (Int.toNat s.1.1) []) (Int.toNat s.1.2.2.2.2.1) (List.replicate 3 0)) (Int.toNat s.1.2.2.1) 0))), ((IntKind.wrap .i64 (s.1.2.2.2.2.1 + 1)), ()))))), (s.2.1, (s.2.2.1, ()))))
        else
        none)
      else
      none)
    else
    none)
  else
  some (1, ((s.1.1, (s.1.2.1, (s.1.2.2.1, (s.1.2.2.2.1, (s.1.2.2.2.2.1, ()))))), (s.2.1, (s.2.2.1, ())))))
noncomputable def g34_talikref06_Floor_l1_fuel (s : TY97) : Nat := Int.toNat (s.2.1.2.2.2.1 - s.1.2.2.2.2.1) + 1
noncomputable def g34_talikref06_Floor_l1_run (s : TY97) : Option TY98 := iter g34_talikref06_Floor_l1_step (g34_talikref06_Floor_l1_fuel s) s
noncomputable def g34_talikref06_Floor_l1_L : LoopT := loopT g34_talikref06_Floor_l1_S [.exit 2] g34_talikref06_Floor_l1_run
noncomputable def g34_talikref06_Floor_l0_S : SPat := ⟨[.any, .dat (.int .i64), .any, .fix (.bptr 0 []), .any, .fix (.bptr 1 []), .any, .dat (.int .i64), .dat (.int .i64), .any, .any, .any, .any, .any, .any, .any, .any, .any, .any, .any, .any, .any, .any, .any, .any, .any, .any, .any, .any, .any, .any, .any, .any, .any, .any, .any, .any, .any, .any, .any, .any, .any, .any, .any, .any, .any, .any], [.dat T27, .dat (.arr 3 (.int .i64))], 0⟩
noncomputable def g34_talikref06_Floor_l0_step (s : ((Int × (Int × (Int × Unit))) × (E27 × ((List Int) × Unit)))) : Option (Nat × ((Int × (Int × (Int × Unit))) × (E27 × ((List Int) × Unit)))) :=
  (bif (decide (s.1.2.2.1 < 3)) then
  (Option.bind (g34_talikref06_Floor_l1_run ((s.1.1, (s.1.2.1, (s.1.2.2.1, (0, (0, ()))))), (s.2.1, (s.2.2.1, ())))) fun q1 =>
    (bif (decide (0 ≤ q1.2.1.2.2.1) && decide (q1.2.1.2.2.1 < (3 : Int))) then
      (bif (decide (0 ≤ q1.2.1.2.2.1) && decide (q1.2.1.2.2.1 < (3 : Int))) then
        some (0, ((q1.2.1.1, ((IntKind.wrap .i64 (q1.2.1.2.1 + (IntKind.wrap .i64 ((List.getD q1.2.2.2.1 (Int.toNat q1.2.1.2.2.1) 0) * (if (IntKind.wrap .i64 (q1.2.1.2.2.2.1 - (List.getD q1.2.2.1.1 (Int.toNat q1.2.1.2.2.1) 0))) > 0 then (IntKind.wrap .i64 (q1.2.1.2.2.2.1 - (List.getD q1.2.2.1.1 (Int.toNat q1.2.1.2.2.1) 0))) else 0))))), ((IntKind.wrap .i64 (q1.2.1.2.2.1 + 1)), ()))), (q1.2.2.1, (q1.2.2.2.1, ()))))
        else
        none)
      else
      none))
  else
  some (1, ((s.1.1, (s.1.2.1, (s.1.2.2.1, ()))), (s.2.1, (s.2.2.1, ())))))
noncomputable def g34_talikref06_Floor_l0_fuel (s : ((Int × (Int × (Int × Unit))) × (E27 × ((List Int) × Unit)))) : Nat := Int.toNat (3 - s.1.2.2.1) + 1
noncomputable def g34_talikref06_Floor_l0_run (s : ((Int × (Int × (Int × Unit))) × (E27 × ((List Int) × Unit)))) : Option (Nat × ((Int × (Int × (Int × Unit))) × (E27 × ((List Int) × Unit)))) := iter g34_talikref06_Floor_l0_step (g34_talikref06_Floor_l0_fuel s) s
noncomputable def g34_talikref06_Floor_l0_L : LoopT := loopT g34_talikref06_Floor_l0_S [.exit 0] g34_talikref06_Floor_l0_run
noncomputable def g34_talikref06_Floor (a0 : E27) (a1 : Int) (a2 : (List Int)) : Option Int :=
  (Option.bind (g34_talikref06_Floor_l0_run ((a1, (0, (0, ()))), (a0, (a2, ())))) fun q2 =>
  some q2.2.1.2.1)
noncomputable def g34_talikref06_Floor_E : CEnt := pureE 34 [.dat T27, .dat (.int .i64), .dat (.arr 3 (.int .i64))] (.dat (.int .i64)) fun x => g34_talikref06_Floor x.1 x.2.1 x.2.2.1
theorem g34_talikref06_Floor_l1_V : LValid 0 Tryd.prog (.loop g34_talikref06_Floor_l1_c) g34_talikref06_Floor_l1_L false := by
  have hb : ∀ s, codeR Tryd.prog g34_talikref06_Floor_C g34_talikref06_Floor_l1_c [] (g34_talikref06_Floor_l1_S.encE s) (g34_talikref06_Floor_l1_S.encB s) (kst g34_talikref06_Floor_l1_S [.exit 2]) = g34_talikref06_Floor_l1_step s := by
    intro s; kernel_rfl
  have hL : LV 0 Tryd.prog false (loopsOf g34_talikref06_Floor_l1_c) [] := by unfold LV; cases loopsOf g34_talikref06_Floor_l1_c <;> trivial
  exact loopT_valid (fuel := g34_talikref06_Floor_l1_fuel) mixed g34_talikref06_Floor_CV hL (by kernel_rfl) (by decide) rfl hb (fun s r h => h)
theorem g34_talikref06_Floor_l0_V : LValid 0 Tryd.prog (.loop g34_talikref06_Floor_l0_c) g34_talikref06_Floor_l0_L false := by
  have hb : ∀ s, codeR Tryd.prog g34_talikref06_Floor_C g34_talikref06_Floor_l0_c [g34_talikref06_Floor_l1_L] (g34_talikref06_Floor_l0_S.encE s) (g34_talikref06_Floor_l0_S.encB s) (kst g34_talikref06_Floor_l0_S [.exit 0]) = g34_talikref06_Floor_l0_step s := by
    intro s; kernel_rfl
  have hl : loopsOf g34_talikref06_Floor_l0_c = [.loop g34_talikref06_Floor_l1_c] := by kernel_rfl
  have hL : LV 0 Tryd.prog false (loopsOf g34_talikref06_Floor_l0_c) [g34_talikref06_Floor_l1_L] := by rw [hl]; exact ⟨g34_talikref06_Floor_l1_V, trivial⟩
  exact loopT_valid (fuel := g34_talikref06_Floor_l0_fuel) mixed g34_talikref06_Floor_CV hL (by kernel_rfl) (by decide) rfl hb (fun s r h => h)
theorem g34_talikref06_Floor_LV : LV 0 Tryd.prog false (loopsOf (bodyOf Tryd.f34)) [g34_talikref06_Floor_l0_L] := by
  have hl : loopsOf (bodyOf Tryd.f34) = [.loop g34_talikref06_Floor_l0_c] := by kernel_rfl
  rw [hl]; exact ⟨g34_talikref06_Floor_l0_V, trivial⟩
theorem g34_talikref06_Floor_ent : Ent Tryd.prog 34 := ⟨by decide, enters_of Tryd.func34 (by kernel_rfl) rfl⟩
theorem g34_talikref06_Floor_hev : ∀ x, fnR Tryd.prog g34_talikref06_Floor_C [g34_talikref06_Floor_l0_L] Tryd.f34 (bodyOf Tryd.f34) (encs [.dat T27, .dat (.int .i64), .dat (.arr 3 (.int .i64))] x) ⟨[], [], 0⟩ (frzF (.dat (.int .i64))) = g34_talikref06_Floor x.1 x.2.1 x.2.2.1 := by
  intro x; kernel_rfl
theorem g34_talikref06_Floor_valid : g34_talikref06_Floor_E.Valid Tryd.prog :=
  pureE_valid (by kernel_rfl) (by kernel_rfl) g34_talikref06_Floor_ent (frz_lcall mixed Tryd.func34 rfl g34_talikref06_Floor_ent g34_talikref06_Floor_CV g34_talikref06_Floor_LV (by kernel_rfl) (by kernel_rfl) g34_talikref06_Floor_hev)

noncomputable def g35_taliklaw06_harder_C : CalT := tabC [g16_talikref06_Store_E, g24_store_Fault_E, g28_store_Best_E]
theorem g35_taliklaw06_harder_CV : CV Tryd.prog g35_taliklaw06_harder_C := tabC_valid (l := [g16_talikref06_Store_E, g24_store_Fault_E, g28_store_Best_E]) ⟨g16_talikref06_Store_valid, g24_store_Fault_valid, g28_store_Best_valid, trivial⟩
noncomputable def g35_taliklaw06_harder (a0 : E27) (a1 : E27) (a2 : Int) : Option Bool :=
  (Option.bind (g16_talikref06_Store a1) fun r1 =>
  (bif (!r1) then
    some true
    else
    (Option.bind (g24_store_Fault a0 a2) fun r2 =>
      (Option.bind (g24_store_Fault a1 a2) fun r3 =>
        (Option.bind (g28_store_Best a0) fun r4 =>
          (Option.bind (g28_store_Best a1) fun r5 =>
            (bif (r2.2.1 != 0) then
              some false
              else
              (bif (r3.2.1 != 0) then
                some false
                else
                (bif r2.1.1 then
                  (bif (!r3.1.1) then
                    some false
                    else
                    (bif (r5.2.2.1 == 5) then
                      (bif (r4.2.2.1 == 0) then
                        some true
                        else
                        (bif (r4.2.2.1 == 5) then
                          some true
                          else
                          (bif (r5.2.2.1 == 0) then
                            (bif (r4.2.2.1 == 0) then
                              some (decide (r5.2.1 ≥ r4.2.1))
                              else
                              some false)
                            else
                            some false)))
                      else
                      (bif (r5.2.2.1 == 0) then
                        (bif (r4.2.2.1 == 0) then
                          some (decide (r5.2.1 ≥ r4.2.1))
                          else
                          some false)
                        else
                        some false)))
                  else
                  (bif (r5.2.2.1 == 5) then
                    (bif (r4.2.2.1 == 0) then
                      some true
                      else
                      (bif (r4.2.2.1 == 5) then
                        some true
                        else
                        (bif (r5.2.2.1 == 0) then
                          (bif (r4.2.2.1 == 0) then
                            some (decide (r5.2.1 ≥ r4.2.1))
                            else
                            some false)
                          else
                          some false)))
                    else
                    (bif (r5.2.2.1 == 0) then
                      (bif (r4.2.2.1 == 0) then
                        some (decide (r5.2.1 ≥ r4.2.1))
                        else
                        some false)
                      else
                      some false)))))))))))
noncomputable def g35_taliklaw06_harder_E : CEnt := pureE 35 [.dat T27, .dat T27, .dat (.int .i64)] (.dat .bool) fun x => g35_taliklaw06_harder x.1 x.2.1 x.2.2.1
theorem g35_taliklaw06_harder_LV : LV 0 Tryd.prog false (loopsOf (bodyOf Tryd.f35)) [] := by unfold LV; cases loopsOf (bodyOf Tryd.f35) <;> trivial
theorem g35_taliklaw06_harder_ent : Ent Tryd.prog 35 := ⟨by decide, enters_of Tryd.func35 (by kernel_rfl) rfl⟩
theorem g35_taliklaw06_harder_hev : ∀ x, fnR Tryd.prog g35_taliklaw06_harder_C [] Tryd.f35 (bodyOf Tryd.f35) (encs [.dat T27, .dat T27, .dat (.int .i64)] x) ⟨[], [], 0⟩ (frzF (.dat .bool)) = g35_taliklaw06_harder x.1 x.2.1 x.2.2.1 := by
  intro x; kernel_rfl
theorem g35_taliklaw06_harder_valid : g35_taliklaw06_harder_E.Valid Tryd.prog :=
  pureE_valid (by kernel_rfl) (by kernel_rfl) g35_taliklaw06_harder_ent (frz_lcall mixed Tryd.func35 rfl g35_taliklaw06_harder_ent g35_taliklaw06_harder_CV g35_taliklaw06_harder_LV (by kernel_rfl) (by kernel_rfl) g35_taliklaw06_harder_hev)

noncomputable def g36_store_Check_C : CalT := tabC [g51_store_valid_E]
theorem g36_store_Check_CV : CV Tryd.prog g36_store_Check_C := tabC_valid (l := [g51_store_valid_E]) ⟨g51_store_valid_valid, trivial⟩
noncomputable def g36_store_Check (a0 : E27) : Option Int :=
  (Option.bind (g51_store_valid a0) fun r1 =>
  (bif (!r1) then
    some 2
    else
    some 0))
noncomputable def g36_store_Check_E : CEnt := pureE 36 [.dat T27] (.dat (.int .i64)) fun x => g36_store_Check x.1
theorem g36_store_Check_LV : LV 0 Tryd.prog false (loopsOf (bodyOf Tryd.f36)) [] := by unfold LV; cases loopsOf (bodyOf Tryd.f36) <;> trivial
theorem g36_store_Check_ent : Ent Tryd.prog 36 := ⟨by decide, enters_of Tryd.func36 (by kernel_rfl) rfl⟩
theorem g36_store_Check_hev : ∀ x, fnR Tryd.prog g36_store_Check_C [] Tryd.f36 (bodyOf Tryd.f36) (encs [.dat T27] x) ⟨[], [], 0⟩ (frzF (.dat (.int .i64))) = g36_store_Check x.1 := by
  intro x; kernel_rfl
theorem g36_store_Check_valid : g36_store_Check_E.Valid Tryd.prog :=
  pureE_valid (by kernel_rfl) (by kernel_rfl) g36_store_Check_ent (frz_lcall mixed Tryd.func36 rfl g36_store_Check_ent g36_store_Check_CV g36_store_Check_LV (by kernel_rfl) (by kernel_rfl) g36_store_Check_hev)

noncomputable def g37_talikref06_SameTrace_C : CalT := tabC [g50_talikref06_SameGoods_E]
theorem g37_talikref06_SameTrace_CV : CV Tryd.prog g37_talikref06_SameTrace_C := tabC_valid (l := [g50_talikref06_SameGoods_E]) ⟨g50_talikref06_SameGoods_valid, trivial⟩
noncomputable def g37_talikref06_SameTrace (a0 : E33) (a1 : E33) : Option Bool :=
  (Option.bind (g50_talikref06_SameGoods a0.1 a1.1) fun r1 =>
  (bif r1 then
    (Option.bind (g50_talikref06_SameGoods a0.2.1 a1.2.1) fun r2 =>
      (bif r2 then
        (Option.bind (g50_talikref06_SameGoods a0.2.2.1 a1.2.2.1) fun r3 =>
          some r3)
        else
        some false))
    else
    some false))
noncomputable def g37_talikref06_SameTrace_E : CEnt := pureE 37 [.dat T33, .dat T33] (.dat .bool) fun x => g37_talikref06_SameTrace x.1 x.2.1
theorem g37_talikref06_SameTrace_LV : LV 0 Tryd.prog false (loopsOf (bodyOf Tryd.f37)) [] := by unfold LV; cases loopsOf (bodyOf Tryd.f37) <;> trivial
theorem g37_talikref06_SameTrace_ent : Ent Tryd.prog 37 := ⟨by decide, enters_of Tryd.func37 (by kernel_rfl) rfl⟩
theorem g37_talikref06_SameTrace_hev : ∀ x, fnR Tryd.prog g37_talikref06_SameTrace_C [] Tryd.f37 (bodyOf Tryd.f37) (encs [.dat T33, .dat T33] x) ⟨[], [], 0⟩ (frzF (.dat .bool)) = g37_talikref06_SameTrace x.1 x.2.1 := by
  intro x; kernel_rfl
theorem g37_talikref06_SameTrace_valid : g37_talikref06_SameTrace_E.Valid Tryd.prog :=
  pureE_valid (by kernel_rfl) (by kernel_rfl) g37_talikref06_SameTrace_ent (frz_lcall mixed Tryd.func37 rfl g37_talikref06_SameTrace_ent g37_talikref06_SameTrace_CV g37_talikref06_SameTrace_LV (by kernel_rfl) (by kernel_rfl) g37_talikref06_SameTrace_hev)

end Go.Proofs.YtcijddeommognaaDoor.Abs

/-
  Plain lemmas: rounds; answers that tell a proposition; lists by index.
-/
set_option linter.unusedVariables false
set_option linter.unusedSimpArgs false
set_option maxRecDepth 100000
namespace Go.Proofs.YtcijddeommognaaDoor.Abs

theorem wr {n : Int} (h : -9223372036854775808 ≤ n) (h' : n ≤ 9223372036854775807) : IntKind.wrap .i64 n = n := by rw [IntKind.wrap_i64]; omega
theorem wr1 {i : Nat} (h : i < 2 ^ 62) : IntKind.wrap .i64 ((i : Int) + 1) = ((i + 1 : Nat) : Int) := by rw [wr (by omega) (by omega)]; omega

theorem iter_one {α : Type} {step : α → Option (Nat × α)} {fuel : Nat} {s s' : α} (h : step s = some (0, s')) : iter step (fuel + 1) s = iter step fuel s' := by
  simp only [iter, h, Option.bind_some]
theorem iter_out {α : Type} {step : α → Option (Nat × α)} {fuel n : Nat} {s s' : α} (h : step s = some (n + 1, s')) : iter step (fuel + 1) s = some (n, s') := by
  simp only [iter, h, Option.bind_some]
/-- Rounds told one by one, that end at the first place at which something is so, or behind the last one. -/
theorem iter_fn' {α : Type} {step : α → Option (Nat × α)} {n k1 k2 : Nat} {bad : Nat → Bool} (F X : Nat → α) (Y : α) (hgo : ∀ i, i < n → step (F i) = some (bif bad i then (k1 + 1, X i) else (0, F (i + 1)))) (hend : step (F n) = some (k2 + 1, Y)) :
    ∀ (m i fuel : Nat), i + m = n → m < fuel → (∃ j, i ≤ j ∧ j < n ∧ bad j = true ∧ (∀ l, i ≤ l → l < j → bad l = false) ∧ iter step fuel (F i) = some (k1, X j)) ∨ ((∀ l, i ≤ l → l < n → bad l = false) ∧ iter step fuel (F i) = some (k2, Y))
  | _, _, 0, _, hf => by omega
  | 0, i, fuel + 1, hi, hf => by
    obtain rfl : i = n := by omega
    exact .inr ⟨fun l h h' => by omega, iter_out hend⟩
  | m + 1, i, fuel + 1, hi, hf => by
    have h := hgo i (by omega)
    cases hb : bad i with
    | true =>
      rw [hb] at h
      exact .inl ⟨i, Nat.le_refl _, by omega, hb, fun l h h' => by omega, iter_out h⟩
    | false =>
      rw [hb] at h
      rw [iter_one h]
      rcases iter_fn' F X Y hgo hend m (i + 1) fuel (by omega) (by omega) with ⟨j, a1, a2, a3, a4, a5⟩ | ⟨a1, a2⟩
      · refine .inl ⟨j, by omega, a2, a3, fun l h h' => ?_, a5⟩
        rcases Nat.eq_or_lt_of_le h with rfl | h
        · exact hb
        · exact a4 l h h'
      · refine .inr ⟨fun l h h' => ?_, a2⟩
        rcases Nat.eq_or_lt_of_le h with rfl | h
        · exact hb
        · exact a1 l h h'
theorem iter_fn {α : Type} {step : α → Option (Nat × α)} {n k1 k2 fuel : Nat} {bad : Nat → Bool} (F X : Nat → α) (Y : α) (hgo : ∀ i, i < n → step (F i) = some (bif bad i then (k1 + 1, X i) else (0, F (i + 1)))) (hend : step (F n) = some (k2 + 1, Y)) (hf : n < fuel) :
    (∃ j, j < n ∧ bad j = true ∧ (∀ l, l < j → bad l = false) ∧ iter step fuel (F 0) = some (k1, X j)) ∨ ((∀ l, l < n → bad l = false) ∧ iter step fuel (F 0) = some (k2, Y)) := by
  rcases iter_fn' F X Y hgo hend n 0 fuel (by omega) hf with ⟨j, _, h⟩ | ⟨h, h'⟩
  · exact .inl ⟨j, h.1, h.2.1, fun l hl => h.2.2.1 l (Nat.zero_le _) hl, h.2.2.2⟩
  · exact .inr ⟨fun l hl => h l (Nat.zero_le _) hl, h'⟩
/-- Rounds that all go on. -/
theorem iter_run {α : Type} {step : α → Option (Nat × α)} {n k fuel : Nat} (F : Nat → α) (Y : α) (hgo : ∀ i, i < n → step (F i) = some (0, F (i + 1))) (hend : step (F n) = some (k + 1, Y)) (hf : n < fuel) : iter step fuel (F 0) = some (k, Y) := by
  rcases iter_fn (bad := fun _ => false) (k1 := 0) F F Y hgo hend hf with ⟨j, _, h, _⟩ | ⟨_, h⟩
  · cases h
  · exact h
/-- Rounds by what holds. -/
theorem iter_inv {α : Type} {step : α → Option (Nat × α)} {k : Nat} (I : Nat → α → Prop) (E : α → Prop) {n : Nat} (hgo : ∀ i s, I i s → i < n → ∃ s', step s = some (0, s') ∧ I (i + 1) s') (hend : ∀ s, I n s → ∃ s', step s = some (k + 1, s') ∧ E s') :
    ∀ (m i fuel : Nat) (s : α), i + m = n → m < fuel → I i s → ∃ q, iter step fuel s = some (k, q) ∧ E q
  | _, _, 0, _, _, hf, _ => by omega
  | 0, i, fuel + 1, s, hi, hf, hs => by
    obtain rfl : i = n := by omega
    obtain ⟨s', h1, h2⟩ := hend s hs
    exact ⟨s', iter_out h1, h2⟩
  | m + 1, i, fuel + 1, s, hi, hf, hs => by
    obtain ⟨s', h1, h2⟩ := hgo i s hs (by omega)
    rw [iter_one h1]
    exact iter_inv I E hgo hend m (i + 1) fuel s' (by omega) (by omega) h2

/-- An answer that tells whether something is so. -/
def Tells (f : Option Bool) (P : Prop) : Prop := ∃ b, f = some b ∧ (b = true ↔ P)
theorem Tells.iff {f : Option Bool} {P Q : Prop} (h : Tells f P) (e : P ↔ Q) : Tells f Q := by obtain ⟨b, h1, h2⟩ := h; exact ⟨b, h1, h2.trans e⟩
theorem tells_dec {p : Prop} [Decidable p] : Tells (some (decide p)) p := ⟨_, rfl, decide_eq_true_iff⟩
theorem tells_true : Tells (some true) True := ⟨_, rfl, by simp⟩
theorem tells_false : Tells (some false) False := ⟨_, rfl, by simp⟩
theorem tells_f {P : Prop} (h : ¬ P) : Tells (some false) P := ⟨false, rfl, by simp [h]⟩
theorem tells_t {P : Prop} (h : P) : Tells (some true) P := ⟨true, rfl, by simp [h]⟩
theorem three_lt {k : Nat} (h : k < 3) : (decide (0 ≤ (k : Int)) && decide ((k : Int) < (3 : Int))) = true := by simp; omega
theorem three_lt' {k : Nat} (h : k < 3) : decide ((k : Int) < (3 : Int)) = true := by simp; omega
theorem tells_and {f g : Option Bool} {P Q : Prop} (h : Tells f P) (k : P → Tells g Q) : Tells (Option.bind f fun r => bif r then g else some false) (P ∧ Q) := by
  obtain ⟨b, rfl, h2⟩ := h
  cases b with
  | true =>
    have hp := h2.1 rfl
    obtain ⟨c, h3, h4⟩ := k hp
    exact ⟨c, by simpa using h3, by simp [h4, hp]⟩
  | false => exact ⟨false, rfl, by simp; intro hp; exact absurd (h2.2 hp) (by simp)⟩
theorem tells_nand {f g : Option Bool} {P Q : Prop} (h : Tells f P) (k : P → Tells g Q) : Tells (Option.bind f fun r => bif (!r) then some false else g) (P ∧ Q) := by
  obtain ⟨b, rfl, h2⟩ := h
  cases b with
  | true =>
    have hp := h2.1 rfl
    obtain ⟨c, h3, h4⟩ := k hp
    exact ⟨c, by simpa using h3, by simp [h4, hp]⟩
  | false => exact ⟨false, rfl, by simp; intro hp; exact absurd (h2.2 hp) (by simp)⟩
theorem tells_nand' {f g : Option Bool} {P Q : Prop} (h : Tells f P) (k : ¬ P → Tells g Q) : Tells (Option.bind f fun r => bif (!r) then g else some false) (¬ P ∧ Q) := by
  obtain ⟨b, rfl, h2⟩ := h
  cases b with
  | true => exact tells_f fun hp => hp.1 (h2.1 rfl)
  | false =>
    have hp : ¬ P := fun hp => by have := h2.2 hp; cases this
    obtain ⟨c, h3, h4⟩ := k hp
    exact ⟨c, by simpa using h3, by simp [h4, hp]⟩
theorem tells_cond {g : Option Bool} {p Q : Prop} [Decidable p] (k : p → Tells g Q) : Tells (bif decide p then g else some false) (p ∧ Q) := by
  by_cases hp : p
  · obtain ⟨c, h3, h4⟩ := k hp
    exact ⟨c, by simpa [hp] using h3, by simp [h4, hp]⟩
  · exact ⟨false, by simp [hp], by simp [hp]⟩
theorem tells_ncond {g : Option Bool} {p Q : Prop} [Decidable p] (k : ¬ p → Tells g Q) : Tells (bif decide p then some false else g) (¬ p ∧ Q) := by
  by_cases hp : p
  · exact ⟨false, by simp [hp], by simp [hp]⟩
  · obtain ⟨c, h3, h4⟩ := k hp
    exact ⟨c, by simpa [hp] using h3, by simp [h4, hp]⟩
theorem tells_bind {f : Option Bool} {P : Prop} (h : Tells f P) : Tells (Option.bind f fun r => some r) P := by obtain ⟨b, rfl, h2⟩ := h; exact ⟨b, rfl, h2⟩
theorem tells_not {f : Option Bool} {P : Prop} (h : Tells f P) : Tells (Option.bind f fun r => some (!r)) (¬ P) := by obtain ⟨b, rfl, h2⟩ := h; exact ⟨!b, rfl, by rw [← h2]; simp⟩
theorem Tells.val {f : Option Bool} {P : Prop} (h : Tells f P) (hp : P) : f = some true := by obtain ⟨b, rfl, h2⟩ := h; rw [h2.2 hp]
theorem Tells.nval {f : Option Bool} {P : Prop} (h : Tells f P) (hp : ¬ P) : f = some false := by
  obtain ⟨b, rfl, h2⟩ := h
  cases b with
  | true => exact absurd (h2.1 rfl) hp
  | false => rfl

theorem getD_toNat {α : Type} (l : List α) (i : Nat) (d : α) : List.getD l (Int.toNat (i : Int)) d = l.getD i d := by simp
theorem inside_lt {i n : Nat} (h : i < n) : (decide (0 ≤ (i : Int)) && decide ((i : Int) < (n : Int))) = true := by simp; omega
theorem ge0 (i : Nat) : decide (0 ≤ (i : Int)) = true := by simp
theorem lt_int {i n : Nat} (h : i < n) : decide ((i : Int) < (n : Int)) = true := by simp; omega
theorem nlt_int (n : Nat) : decide ((n : Int) < (n : Int)) = false := by simp
theorem getD_mem {α : Type} {l : List α} {i : Nat} {d : α} (h : i < l.length) : l.getD i d ∈ l := by
  rw [List.getD_eq_getElem?_getD, List.getElem?_eq_getElem h]; exact List.getElem_mem h
theorem forall_getD {α : Type} {l : List α} (d : α) {p : α → Prop} : (∀ i, i < l.length → p (l.getD i d)) ↔ ∀ x ∈ l, p x := by
  constructor
  · intro h x hx
    obtain ⟨i, hi, rfl⟩ := List.mem_iff_getElem.1 hx
    have := h i hi
    rwa [List.getD_eq_getElem?_getD, List.getElem?_eq_getElem hi] at this
  · intro h i hi
    exact h _ (getD_mem hi)
end Go.Proofs.YtcijddeommognaaDoor.Abs

/-
  Plain laws of the store layer, first part: which stores and plans are as defined.
-/
set_option linter.unusedVariables false
set_option linter.unusedSimpArgs false
set_option maxRecDepth 100000
namespace Go.Proofs.YtcijddeommognaaDoor.Abs

def In (x lo hi : Int) : Prop := lo ≤ x ∧ x ≤ hi
def G3 (g : List Int) : Prop := In (g.getD 0 0) 0 1000 ∧ In (g.getD 1 0) 0 1000 ∧ In (g.getD 2 0) 0 1000
def OkShip (x : E39) : Prop := In x.1 0 7 ∧ G3 x.2.1 ∧ In x.2.2.1 0 1000000
def dShip : E39 := (0, ((List.replicate 3 0), (0, ())))
theorem G3.at {g : List Int} (h : G3 g) (k : Nat) : In (g.getD k 0) 0 1000 ∨ 3 ≤ k := by
  obtain ⟨h0, h1, h2⟩ := h
  match k with
  | 0 => exact .inl h0
  | 1 => exact .inl h1
  | 2 => exact .inl h2
  | n + 3 => exact .inr (by omega)
structure OkS (s : E27) : Prop where
  stock : G3 s.1
  yard : G3 s.2.1
  le : s.1.getD 0 0 ≤ s.2.1.getD 0 0 ∧ s.1.getD 1 0 ≤ s.2.1.getD 1 0 ∧ s.1.getD 2 0 ≤ s.2.1.getD 2 0
  rate : In s.2.2.1 0 3000
  weeks : In s.2.2.2.1 1 30
  land : In s.2.2.2.2.1 1 8
  lw : s.2.2.2.2.1 ≤ s.2.2.2.1
  nships : (s.2.2.2.2.2.1.length : Int) ≤ 6
  ships : ∀ x ∈ s.2.2.2.2.2.1, OkShip x
  nices : In (s.2.2.2.2.2.2.1.length : Int) 1 4
  nwin : In (s.2.2.2.2.2.2.2.1.length : Int) 1 4
  ices : ∀ l ∈ s.2.2.2.2.2.2.1, (l.length : Int) = s.2.2.2.2.1
  wins : ∀ l ∈ s.2.2.2.2.2.2.2.1, (l.length : Int) = s.2.2.2.1 ∧ ∀ g ∈ l, G3 g
/-- Lists that are not too long. -/
structure ShortS (s : E27) : Prop where
  ships : s.2.2.2.2.2.1.length ≤ 10
  nices : s.2.2.2.2.2.2.1.length ≤ 8
  nwin : s.2.2.2.2.2.2.2.1.length ≤ 8
  ices : ∀ l ∈ s.2.2.2.2.2.2.1, l.length ≤ 15
  wins : ∀ l ∈ s.2.2.2.2.2.2.2.1, l.length ≤ 40

/-- Lists that are not too long, or by one. -/
structure ShortW (s : E27) : Prop where
  ships : s.2.2.2.2.2.1.length ≤ 10
  nices : s.2.2.2.2.2.2.1.length ≤ 9
  nwin : s.2.2.2.2.2.2.2.1.length ≤ 9
  ices : ∀ l ∈ s.2.2.2.2.2.2.1, l.length ≤ 15
  wins : ∀ l ∈ s.2.2.2.2.2.2.2.1, l.length ≤ 40
theorem ShortS.w {s : E27} (h : ShortS s) : ShortW s := ⟨h.ships, Nat.le_succ_of_le h.nices, Nat.le_succ_of_le h.nwin, h.ices, h.wins⟩
instance {s : E27} : Coe (ShortS s) (ShortW s) := ⟨ShortS.w⟩

theorem in53 (x lo hi : Int) : Tells (g53_store_in x lo hi) (In x lo hi) := by
  unfold g53_store_in
  exact (tells_cond fun _ => tells_dec).iff (by unfold In; constructor <;> intro h <;> exact ⟨h.1, h.2⟩)
theorem in46 (x lo hi : Int) : Tells (g46_talikref06_in x lo hi) (In x lo hi) := in53 x lo hi

theorem short15 (s : E27) : Tells (g15_taliklaw06_short s) (ShortS s) := by
  have L0 : (∃ j, j < min s.2.2.2.2.2.2.1.length 10 ∧ 15 < (s.2.2.2.2.2.2.1.getD j []).length ∧ g15_taliklaw06_short_l0_run ((false, (0, ())), (s, ())) = some (0, ((false, ((j : Int), ())), (s, ())))) ∨ ((∀ l, l < min s.2.2.2.2.2.2.1.length 10 → (s.2.2.2.2.2.2.1.getD l []).length ≤ 15) ∧ ∃ q, g15_taliklaw06_short_l0_run ((false, (0, ())), (s, ())) = some (1, ((false, q), (s, ())))) := by
    rcases iter_fn (step := g15_taliklaw06_short_l0_step) (n := min s.2.2.2.2.2.2.1.length 10) (k1 := 0) (k2 := 1) (bad := fun i => decide (15 < (s.2.2.2.2.2.2.1.getD i []).length)) (fuel := g15_taliklaw06_short_l0_fuel ((false, (0, ())), (s, ())))
      (fun i => ((false, ((i : Int), ())), (s, ()))) (fun i => ((false, ((i : Int), ())), (s, ()))) ((false, (((min s.2.2.2.2.2.2.1.length 10 : Nat) : Int), ())), (s, ()))
      (fun i hi => by
        have h1 : i < s.2.2.2.2.2.2.1.length := by omega
        have h2 : decide ((i : Int) < 10) = true := by simp; omega
        simp only [g15_taliklaw06_short_l0_step, lt_int h1, h2, inside_lt h1, cond_true, getD_toNat, wr1 (i := i) (by omega)]
        by_cases hb : 15 < (s.2.2.2.2.2.2.1.getD i []).length
        · rw [decide_eq_true (show ((s.2.2.2.2.2.2.1.getD i []).length : Int) > 15 by omega), decide_eq_true hb]; rfl
        · rw [decide_eq_false (show ¬ ((s.2.2.2.2.2.2.1.getD i []).length : Int) > 15 by omega), decide_eq_false hb]; rfl)
      (by
        simp only [g15_taliklaw06_short_l0_step]
        by_cases h : s.2.2.2.2.2.2.1.length ≤ 10
        · have e : min s.2.2.2.2.2.2.1.length 10 = s.2.2.2.2.2.2.1.length := by omega
          rw [e, nlt_int]; rfl
        · have e : min s.2.2.2.2.2.2.1.length 10 = 10 := by omega
          have h1 : (decide ((10 : Int) < (s.2.2.2.2.2.2.1.length : Int))) = true := by simp; omega
          rw [e]
          show (bif decide ((10 : Int) < (s.2.2.2.2.2.2.1.length : Int)) then _ else _) = _
          rw [h1]; rfl)
      (by simp [g15_taliklaw06_short_l0_fuel]; omega) with ⟨j, h1, h2, _, h3⟩ | ⟨h1, h2⟩
    · exact .inl ⟨j, h1, of_decide_eq_true h2, h3⟩
    · exact .inr ⟨fun l hl => by have := of_decide_eq_false (h1 l hl); omega, _, h2⟩
  have L1 : (∃ j, j < min s.2.2.2.2.2.2.2.1.length 10 ∧ 40 < (s.2.2.2.2.2.2.2.1.getD j []).length ∧ g15_taliklaw06_short_l1_run ((false, (0, ())), (s, ())) = some (0, ((false, ((j : Int), ())), (s, ())))) ∨ ((∀ l, l < min s.2.2.2.2.2.2.2.1.length 10 → (s.2.2.2.2.2.2.2.1.getD l []).length ≤ 40) ∧ ∃ q, g15_taliklaw06_short_l1_run ((false, (0, ())), (s, ())) = some (1, ((false, q), (s, ())))) := by
    rcases iter_fn (step := g15_taliklaw06_short_l1_step) (n := min s.2.2.2.2.2.2.2.1.length 10) (k1 := 0) (k2 := 1) (bad := fun i => decide (40 < (s.2.2.2.2.2.2.2.1.getD i []).length)) (fuel := g15_taliklaw06_short_l1_fuel ((false, (0, ())), (s, ())))
      (fun i => ((false, ((i : Int), ())), (s, ()))) (fun i => ((false, ((i : Int), ())), (s, ()))) ((false, (((min s.2.2.2.2.2.2.2.1.length 10 : Nat) : Int), ())), (s, ()))
      (fun i hi => by
        have h1 : i < s.2.2.2.2.2.2.2.1.length := by omega
        have h2 : decide ((i : Int) < 10) = true := by simp; omega
        simp only [g15_taliklaw06_short_l1_step, lt_int h1, h2, inside_lt h1, cond_true, getD_toNat, wr1 (i := i) (by omega)]
        by_cases hb : 40 < (s.2.2.2.2.2.2.2.1.getD i []).length
        · rw [decide_eq_true (show ((s.2.2.2.2.2.2.2.1.getD i []).length : Int) > 40 by omega), decide_eq_true hb]; rfl
        · rw [decide_eq_false (show ¬ ((s.2.2.2.2.2.2.2.1.getD i []).length : Int) > 40 by omega), decide_eq_false hb]; rfl)
      (by
        simp only [g15_taliklaw06_short_l1_step]
        by_cases h : s.2.2.2.2.2.2.2.1.length ≤ 10
        · have e : min s.2.2.2.2.2.2.2.1.length 10 = s.2.2.2.2.2.2.2.1.length := by omega
          rw [e, nlt_int]; rfl
        · have e : min s.2.2.2.2.2.2.2.1.length 10 = 10 := by omega
          have h1 : (decide ((10 : Int) < (s.2.2.2.2.2.2.2.1.length : Int))) = true := by simp; omega
          rw [e]
          show (bif decide ((10 : Int) < (s.2.2.2.2.2.2.2.1.length : Int)) then _ else _) = _
          rw [h1]; rfl)
      (by simp [g15_taliklaw06_short_l1_fuel]; omega) with ⟨j, h1, h2, _, h3⟩ | ⟨h1, h2⟩
    · exact .inl ⟨j, h1, of_decide_eq_true h2, h3⟩
    · exact .inr ⟨fun l hl => by have := of_decide_eq_false (h1 l hl); omega, _, h2⟩
  unfold g15_taliklaw06_short
  rcases L0 with ⟨j, h1, h2, h3⟩ | ⟨h1, q, h3⟩
  · rw [h3]
    refine tells_f fun h => ?_
    have := h.ices _ (getD_mem (d := []) (show j < s.2.2.2.2.2.2.1.length by omega))
    omega
  · rw [h3]
    simp only [Option.bind_some, natK]
    rcases L1 with ⟨j, k1, k2, k3⟩ | ⟨k1, q', k3⟩
    · rw [k3]
      refine tells_f fun h => ?_
      have := h.wins _ (getD_mem (d := []) (show j < s.2.2.2.2.2.2.2.1.length by omega))
      omega
    · rw [k3]
      simp only [Option.bind_some, natK]
      refine Tells.iff (tells_cond fun a => tells_cond fun b => tells_dec) ⟨fun ⟨a, b, c⟩ => ?_, fun h => ?_⟩
      · have hi := (forall_getD (p := fun l : List Bool => l.length ≤ 15) []).1 (fun i hi => h1 i (by omega))
        have hw := (forall_getD (p := fun l : List (List Int) => l.length ≤ 40) []).1 (fun i hi => k1 i (by omega))
        exact ⟨by omega, by omega, by omega, hi, hw⟩
      · have := h.ships; have := h.nices; have := h.nwin
        exact ⟨by omega, by omega, by omega⟩

theorem amount76 (g : List Int) : Tells (g76_store_amount g) (G3 g) := by
  have S : ∀ k : Nat, k < 3 → g76_store_amount_l0_step ((false, ((k : Int), ())), (g, ())) = Option.bind (g53_store_in (g.getD k 0) 0 1000) fun r1 => bif (!r1) then some (1, ((false, ((k : Int), ())), (g, ()))) else some (0, ((false, (((k + 1 : Nat) : Int), ())), (g, ()))) := fun k hk => by
    simp only [g76_store_amount_l0_step, three_lt hk, cond_true, three_lt' hk, Bool.and_true, show decide (0 ≤ (k : Int)) = true by simp, getD_toNat, wr1 (i := k) (by omega)]
  rcases iter_fn (step := g76_store_amount_l0_step) (n := 3) (k1 := 0) (k2 := 1) (bad := fun i => (g53_store_in (g.getD i 0) 0 1000) == some false) (fuel := g76_store_amount_l0_fuel ((false, (0, ())), (g, ())))
    (fun i => ((false, ((i : Int), ())), (g, ()))) (fun i => ((false, ((i : Int), ())), (g, ()))) ((false, (3, ())), (g, ()))
    (fun i hi => by
      rw [S i hi]
      obtain ⟨b, hb, _⟩ := in53 (g.getD i 0) 0 1000
      rw [hb]
      cases b <;> rfl) rfl (by simp [g76_store_amount_l0_fuel]) with ⟨j, h1, h2, _, h3⟩ | ⟨h1, h2⟩
  · have h3' : g76_store_amount_l0_run ((false, (0, ())), (g, ())) = some (0, ((false, ((j : Int), ())), (g, ()))) := h3
    unfold g76_store_amount
    rw [h3']
    refine tells_f fun h => ?_
    have : g53_store_in (g.getD j 0) 0 1000 = some false := by simpa using h2
    rcases h.at j with h | h
    · rw [(in53 _ _ _).val h] at this; cases this
    · omega
  · have h2' : g76_store_amount_l0_run ((false, (0, ())), (g, ())) = some (1, ((false, (3, ())), (g, ()))) := h2
    unfold g76_store_amount
    rw [h2']
    refine tells_t ?_
    have key : ∀ k, k < 3 → In (g.getD k 0) 0 1000 := fun k hk => by
      obtain ⟨b, hb, hb2⟩ := in53 (g.getD k 0) 0 1000
      have := h1 k hk
      rw [hb] at this
      cases b with
      | true => exact hb2.1 rfl
      | false => simp at this
    exact ⟨key 0 (by omega), key 1 (by omega), key 2 (by omega)⟩
theorem goods45 (g : List Int) : Tells (g45_talikref06_Goods g) (G3 g) := by
  unfold g45_talikref06_Goods
  exact tells_and (in46 _ _ _) fun _ => tells_and (in46 _ _ _) fun _ => tells_bind (in46 _ _ _)
theorem ship78 (x : E39) : Tells (g78_store_ship x) (OkShip x) := by
  unfold g78_store_ship
  exact tells_and (in53 _ _ _) fun _ => tells_and (amount76 _) fun _ => tells_bind (in53 _ _ _)

/-- ContainsFunc. -/
theorem tells_find {f : Option Bool} {n : Nat} {bad : Nat → Bool} (h : (∃ j, j < n ∧ bad j = true ∧ f = some true) ∨ ((∀ l, l < n → bad l = false) ∧ f = some false)) : Tells f (∃ j, j < n ∧ bad j = true) := by
  rcases h with ⟨j, h1, h2, h3⟩ | ⟨h1, h2⟩
  · rw [h3]; exact tells_t ⟨j, h1, h2⟩
  · rw [h2]; exact tells_f fun ⟨j, a, b⟩ => by rw [h1 j a] at b; cases b
theorem contains60 (l : List E39) (hl : l.length < 2 ^ 40) : Tells (g60_slices_ContainsFunc l) (¬ ∀ x ∈ l, OkShip x) := by
  have h := iter_fn (step := g89_slices_IndexFunc_l0_step) (n := l.length) (k1 := 0) (k2 := 1) (bad := fun i => g77_store_valid_1 (l.getD i dShip) == some true) (fuel := g89_slices_IndexFunc_l0_fuel ((l, (0, ((List.length l : Int), (0, ())))), ()))
    (fun i => ((l, (0, ((List.length l : Int), ((i : Int), ())))), ())) (fun i => ((l, ((i : Int), ((List.length l : Int), ((i : Int), ())))), ())) ((l, (0, ((List.length l : Int), ((List.length l : Int), ())))), ())
    (fun i hi => by
      simp only [g89_slices_IndexFunc_l0_step, lt_int hi, inside_lt hi, cond_true, getD_toNat, wr1 (i := i) (by omega)]
      rw [show (0, ((List.replicate 3 0), (0, ()))) = dShip from rfl]
      obtain ⟨b, hb, _⟩ := tells_not (ship78 (l.getD i dShip))
      have hb : g77_store_valid_1 (l.getD i dShip) = some b := hb
      rw [hb]
      cases b <;> rfl)
    (by simp only [g89_slices_IndexFunc_l0_step, nlt_int, cond_false]) (by simp [g89_slices_IndexFunc_l0_fuel])
  refine Tells.iff (tells_find (n := l.length) (bad := fun i => g77_store_valid_1 (l.getD i dShip) == some true) ?_) ?_
  · rcases h with ⟨j, h1, h2, _, h3⟩ | ⟨h1, h2⟩
    · refine .inl ⟨j, h1, h2, ?_⟩
      unfold g60_slices_ContainsFunc g89_slices_IndexFunc g89_slices_IndexFunc_l0_run
      rw [show ((0 : Nat) : Int) = 0 from rfl] at h3
      rw [h3]
      simp [natK]
    · refine .inr ⟨h1, ?_⟩
      unfold g60_slices_ContainsFunc g89_slices_IndexFunc g89_slices_IndexFunc_l0_run
      rw [show ((0 : Nat) : Int) = 0 from rfl] at h2
      rw [h2]
      simp [natK]
  · constructor
    · rintro ⟨j, h1, h2⟩ h
      have := (tells_not (ship78 (l.getD j dShip))).nval (fun hn => hn (h _ (getD_mem h1)))
      have this : g77_store_valid_1 (l.getD j dShip) = some false := this
      rw [this] at h2; simp at h2
    · intro h
      apply Classical.byContradiction
      intro hn
      apply h
      refine (forall_getD dShip).1 fun i hi => Classical.byContradiction fun hb => hn ⟨i, hi, ?_⟩
      have := (tells_not (ship78 (l.getD i dShip))).val hb
      have this : g77_store_valid_1 (l.getD i dShip) = some true := this
      rw [this]; rfl
end Go.Proofs.YtcijddeommognaaDoor.Abs

/-
  Plain laws of the store layer, second part: stores that are as defined. Printed in part by a program of mine (mk_sq1.py).
-/
set_option linter.unusedVariables false
set_option linter.unusedSimpArgs false
set_option maxRecDepth 100000
namespace Go.Proofs.YtcijddeommognaaDoor.Abs
open Classical

theorem contains83 (l : List (List Int)) (hl : l.length < 2 ^ 40) : Tells (g83_slices_ContainsFunc l) (¬ ∀ x ∈ l, G3 x) := by
  have S : ∀ i, i < l.length → ∃ c, g84_store_valid_3_1 (l.getD i (List.replicate 3 0)) = some c ∧ (c = true ↔ ¬ (fun x => G3 x) (l.getD i (List.replicate 3 0))) := fun i hi => (by obtain ⟨c, h1, h2⟩ := tells_not (amount76 (l.getD i (List.replicate 3 0))); exact ⟨c, h1, h2⟩)
  have hB : ∀ i, i < l.length → ((fun i => decide (¬ (fun x => G3 x) (l.getD i (List.replicate 3 0)))) i = true ↔ ¬ (fun x => G3 x) (l.getD i (List.replicate 3 0))) := fun i _ => decide_eq_true_iff
  have h := iter_fn (step := g99_slices_IndexFunc_l0_step) (n := l.length) (k1 := 0) (k2 := 1) (bad := fun i => decide (¬ (fun x => G3 x) (l.getD i (List.replicate 3 0)))) (fuel := g99_slices_IndexFunc_l0_fuel ((l, (0, ((List.length l : Int), (0, ())))), ()))
    (fun i => ((l, (0, ((List.length l : Int), ((i : Int), ())))), ())) (fun i => ((l, ((i : Int), ((List.length l : Int), ((i : Int), ())))), ())) ((l, (0, ((List.length l : Int), ((List.length l : Int), ())))), ())
    (fun i hi => by
      simp only [g99_slices_IndexFunc_l0_step, lt_int hi, ge0, Bool.and_true, cond_true, getD_toNat, wr1 (i := i) (by omega)]
      obtain ⟨c, hc, hc2⟩ := S i hi
      rw [hc]
      cases c with
      | true => rw [decide_eq_true (hc2.1 rfl)]; rfl
      | false => rw [decide_eq_false (fun hn => by have := hc2.2 hn; cases this)]; rfl)
    (by simp only [g99_slices_IndexFunc_l0_step, nlt_int, cond_false]) (by simp [g99_slices_IndexFunc_l0_fuel])
  rw [show ((0 : Nat) : Int) = 0 from rfl] at h
  rcases h with ⟨j, h1, h2, _, h3⟩ | ⟨h1, h2⟩
  · have e : g83_slices_ContainsFunc l = some true := by
      unfold g83_slices_ContainsFunc g99_slices_IndexFunc g99_slices_IndexFunc_l0_run
      rw [h3]
      simp [natK]
    rw [e]
    exact tells_t fun hall => of_decide_eq_true h2 (hall _ (getD_mem h1))
  · have e : g83_slices_ContainsFunc l = some false := by
      unfold g83_slices_ContainsFunc g99_slices_IndexFunc g99_slices_IndexFunc_l0_run
      rw [h2]
      simp [natK]
    rw [e]
    exact tells_f fun hn => hn ((forall_getD (List.replicate 3 0)).1 fun i hi => Classical.byContradiction fun hb => of_decide_eq_false (h1 i hi) hb)
theorem contains79 (l : List (List Bool)) (b : E27) (hl : l.length < 2 ^ 40) : ∃ c, g79_slices_ContainsFunc l b = some (c, (b, ())) ∧ (c = true ↔ ¬ ∀ x ∈ l, (x.length : Int) = b.2.2.2.2.1) := by
  have S : ∀ i, i < l.length → ∃ c, g80_store_valid_2 (l.getD i []) b = some (c, (b, ())) ∧ (c = true ↔ ¬ (fun x => (x.length : Int) = b.2.2.2.2.1) (l.getD i [])) := fun i hi => (by refine ⟨_, rfl, ?_⟩; simp)
  have hB : ∀ i, i < l.length → ((fun i => decide (¬ (fun x => (x.length : Int) = b.2.2.2.2.1) (l.getD i []))) i = true ↔ ¬ (fun x => (x.length : Int) = b.2.2.2.2.1) (l.getD i [])) := fun i _ => decide_eq_true_iff
  have h := iter_fn (step := g97_slices_IndexFunc_l0_step) (n := l.length) (k1 := 0) (k2 := 1) (bad := fun i => decide (¬ (fun x => (x.length : Int) = b.2.2.2.2.1) (l.getD i []))) (fuel := g97_slices_IndexFunc_l0_fuel ((l, (0, ((List.length l : Int), (0, ())))), (b, ())))
    (fun i => ((l, (0, ((List.length l : Int), ((i : Int), ())))), (b, ()))) (fun i => ((l, ((i : Int), ((List.length l : Int), ((i : Int), ())))), (b, ()))) ((l, (0, ((List.length l : Int), ((List.length l : Int), ())))), (b, ()))
    (fun i hi => by
      simp only [g97_slices_IndexFunc_l0_step, lt_int hi, ge0, Bool.and_true, cond_true, getD_toNat, wr1 (i := i) (by omega)]
      obtain ⟨c, hc, hc2⟩ := S i hi
      rw [hc]
      cases c with
      | true => rw [decide_eq_true (hc2.1 rfl)]; rfl
      | false => rw [decide_eq_false (fun hn => by have := hc2.2 hn; cases this)]; rfl)
    (by simp only [g97_slices_IndexFunc_l0_step, nlt_int, cond_false]) (by simp [g97_slices_IndexFunc_l0_fuel])
  rw [show ((0 : Nat) : Int) = 0 from rfl] at h
  rcases h with ⟨j, h1, h2, _, h3⟩ | ⟨h1, h2⟩
  · refine ⟨true, ?_, ⟨fun _ hall => of_decide_eq_true h2 (hall _ (getD_mem h1)), fun _ => rfl⟩⟩
    unfold g79_slices_ContainsFunc g97_slices_IndexFunc g97_slices_IndexFunc_l0_run
    rw [h3]
    simp [natK]
  · refine ⟨false, ?_, ⟨(fun h => by cases h), fun hn => absurd ((forall_getD []).1 fun i hi => Classical.byContradiction fun hb => of_decide_eq_false (h1 i hi) hb) hn⟩⟩
    unfold g79_slices_ContainsFunc g97_slices_IndexFunc g97_slices_IndexFunc_l0_run
    rw [h2]
    simp [natK]
theorem win82 (l : List (List Int)) (b : E27) (hl : l.length < 2 ^ 40) : ∃ c, g82_store_valid_3 l b = some (c, (b, ())) ∧ (c = true ↔ ¬ ((l.length : Int) = b.2.2.2.1 ∧ ∀ g ∈ l, G3 g)) := by
  unfold g82_store_valid_3
  by_cases h : (l.length : Int) = b.2.2.2.1
  · have : ((l.length : Int) != b.2.2.2.1) = false := by simp [h]
    rw [this]
    obtain ⟨c, h1, h2⟩ := contains83 l hl
    rw [h1]
    exact ⟨c, rfl, by rw [h2]; simp [h]⟩
  · have : ((l.length : Int) != b.2.2.2.1) = true := by simp [h]
    rw [this]
    exact ⟨true, rfl, by simp [h]⟩
theorem contains81 (l : List (List (List Int))) (b : E27) (hl : l.length < 2 ^ 40) (h40 : ∀ i, i < l.length → (l.getD i []).length < 2 ^ 40) : ∃ c, g81_slices_ContainsFunc l b = some (c, (b, ())) ∧ (c = true ↔ ¬ ∀ x ∈ l, ((x.length : Int) = b.2.2.2.1 ∧ ∀ g ∈ x, G3 g)) := by
  have S : ∀ i, i < l.length → ∃ c, g82_store_valid_3 (l.getD i []) b = some (c, (b, ())) ∧ (c = true ↔ ¬ (fun x => ((x.length : Int) = b.2.2.2.1 ∧ ∀ g ∈ x, G3 g)) (l.getD i [])) := fun i hi => (win82 _ b (h40 i hi))
  have hB : ∀ i, i < l.length → ((fun i => decide (¬ (fun x => ((x.length : Int) = b.2.2.2.1 ∧ ∀ g ∈ x, G3 g)) (l.getD i []))) i = true ↔ ¬ (fun x => ((x.length : Int) = b.2.2.2.1 ∧ ∀ g ∈ x, G3 g)) (l.getD i [])) := fun i _ => decide_eq_true_iff
  have h := iter_fn (step := g98_slices_IndexFunc_l0_step) (n := l.length) (k1 := 0) (k2 := 1) (bad := fun i => decide (¬ (fun x => ((x.length : Int) = b.2.2.2.1 ∧ ∀ g ∈ x, G3 g)) (l.getD i []))) (fuel := g98_slices_IndexFunc_l0_fuel ((l, (0, ((List.length l : Int), (0, ())))), (b, ())))
    (fun i => ((l, (0, ((List.length l : Int), ((i : Int), ())))), (b, ()))) (fun i => ((l, ((i : Int), ((List.length l : Int), ((i : Int), ())))), (b, ()))) ((l, (0, ((List.length l : Int), ((List.length l : Int), ())))), (b, ()))
    (fun i hi => by
      simp only [g98_slices_IndexFunc_l0_step, lt_int hi, ge0, Bool.and_true, cond_true, getD_toNat, wr1 (i := i) (by omega)]
      obtain ⟨c, hc, hc2⟩ := S i hi
      rw [hc]
      cases c with
      | true => rw [decide_eq_true (hc2.1 rfl)]; rfl
      | false => rw [decide_eq_false (fun hn => by have := hc2.2 hn; cases this)]; rfl)
    (by simp only [g98_slices_IndexFunc_l0_step, nlt_int, cond_false]) (by simp [g98_slices_IndexFunc_l0_fuel])
  rw [show ((0 : Nat) : Int) = 0 from rfl] at h
  rcases h with ⟨j, h1, h2, _, h3⟩ | ⟨h1, h2⟩
  · refine ⟨true, ?_, ⟨fun _ hall => of_decide_eq_true h2 (hall _ (getD_mem h1)), fun _ => rfl⟩⟩
    unfold g81_slices_ContainsFunc g98_slices_IndexFunc g98_slices_IndexFunc_l0_run
    rw [h3]
    simp [natK]
  · refine ⟨false, ?_, ⟨(fun h => by cases h), fun hn => absurd ((forall_getD []).1 fun i hi => Classical.byContradiction fun hb => of_decide_eq_false (h1 i hi) hb) hn⟩⟩
    unfold g81_slices_ContainsFunc g98_slices_IndexFunc g98_slices_IndexFunc_l0_run
    rw [h2]
    simp [natK]
theorem valid51 (s : E27) (hs : ShortW s) : Tells (g51_store_valid s) (OkS s) := by
  have L0 : Tells (Option.bind (g51_store_valid_l0_run ((false, (0, ())), (s, ()))) fun q => natK q.1 (some q.2.1.1) fun _ => some true) (s.1.getD 0 0 ≤ s.2.1.getD 0 0 ∧ s.1.getD 1 0 ≤ s.2.1.getD 1 0 ∧ s.1.getD 2 0 ≤ s.2.1.getD 2 0) ∧
      ∀ q, g51_store_valid_l0_run ((false, (0, ())), (s, ())) = some q → q.2.2.1 = s ∧ (q.1 = 0 → q.2.1.1 = false) := by
    rcases iter_fn (step := g51_store_valid_l0_step) (n := 3) (k1 := 0) (k2 := 1) (bad := fun i => decide (s.1.getD i 0 > s.2.1.getD i 0)) (fuel := g51_store_valid_l0_fuel ((false, (0, ())), (s, ())))
      (fun i => ((false, ((i : Int), ())), (s, ()))) (fun i => ((false, ((i : Int), ())), (s, ()))) ((false, (3, ())), (s, ()))
      (fun i hi => by
        simp only [g51_store_valid_l0_step, three_lt' hi, show decide (0 ≤ (i : Int)) = true by simp, Bool.and_true, cond_true, getD_toNat, wr1 (i := i) (by omega)]
        cases decide (s.1.getD i 0 > s.2.1.getD i 0) <;> rfl)
      rfl (by simp [g51_store_valid_l0_fuel]) with ⟨j, h1, h2, _, h3⟩ | ⟨h1, h2⟩
    · have h3' : g51_store_valid_l0_run ((false, (0, ())), (s, ())) = some (0, ((false, ((j : Int), ())), (s, ()))) := h3
      rw [h3']
      refine ⟨tells_f fun ⟨a, b, c⟩ => ?_, fun q hq => by cases hq; exact ⟨rfl, fun _ => rfl⟩⟩
      have h2 := of_decide_eq_true h2
      match j, h1, h2 with
      | 0, _, h2 => omega
      | 1, _, h2 => omega
      | 2, _, h2 => omega
    · have h2' : g51_store_valid_l0_run ((false, (0, ())), (s, ())) = some (1, ((false, (3, ())), (s, ()))) := h2
      rw [h2']
      refine ⟨tells_t ⟨?_, ?_, ?_⟩, fun q hq => by cases hq; exact ⟨rfl, fun h => by cases h⟩⟩
      · have := of_decide_eq_false (h1 0 (by omega)); omega
      · have := of_decide_eq_false (h1 1 (by omega)); omega
      · have := of_decide_eq_false (h1 2 (by omega)); omega
  unfold g51_store_valid
  refine Tells.iff (tells_nand (amount76 _) fun p1 => tells_nand (amount76 _) fun p2 => tells_nand (in53 _ _ _) fun p3 => tells_nand (in53 _ _ _) fun p4 => tells_nand (in53 _ _ _) fun p5 => tells_ncond fun p6 => tells_ncond (Q := (s.1.getD 0 0 ≤ s.2.1.getD 0 0 ∧ s.1.getD 1 0 ≤ s.2.1.getD 1 0 ∧ s.1.getD 2 0 ≤ s.2.1.getD 2 0) ∧ In (s.2.2.2.2.2.2.1.length : Int) 1 4 ∧ In (s.2.2.2.2.2.2.2.1.length : Int) 1 4 ∧ (∀ x ∈ s.2.2.2.2.2.1, OkShip x) ∧ (∀ l ∈ s.2.2.2.2.2.2.1, (l.length : Int) = s.2.2.2.2.1) ∧ ∀ l ∈ s.2.2.2.2.2.2.2.1, (l.length : Int) = s.2.2.2.1 ∧ ∀ g ∈ l, G3 g) fun p7 => ?_) ?_
  · obtain ⟨⟨b, e1, e2⟩, e3⟩ := L0
    cases hq : g51_store_valid_l0_run ((false, (0, ())), (s, ())) with
    | none => rw [hq] at e1; cases e1
    | some q =>
      obtain ⟨k, ⟨f, i⟩, s', u⟩ := q
      obtain ⟨e4, e5⟩ := e3 _ hq
      have e4 : s' = s := e4
      subst e4
      rw [hq] at e1
      cases k with
      | zero =>
        have : f = false := e5 rfl
        subst this
        simp only [Option.bind_some, natK, Option.some.injEq] at e1
        subst e1
        simp only [Option.bind_some, natK]
        exact tells_f fun h => by have := e2.2 h.1; cases this
      | succ k =>
        simp only [Option.bind_some, natK, Option.some.injEq] at e1
        subst e1
        have hle := e2.1 rfl
        simp only [Option.bind_some, natK]
        refine Tells.iff (tells_and (in53 _ _ _) fun q1 => tells_and (in53 _ _ _) fun q2 => tells_nand' (contains60 _ (by have := hs.ships; show List.length s'.2.2.2.2.2.1 < _; omega)) (Q := (∀ l ∈ s'.2.2.2.2.2.2.1, (l.length : Int) = s'.2.2.2.2.1) ∧ ∀ l ∈ s'.2.2.2.2.2.2.2.1, (l.length : Int) = s'.2.2.2.1 ∧ ∀ g ∈ l, G3 g) fun q3 => ?_) ?_
        · obtain ⟨c, c1, c2⟩ := contains79 s'.2.2.2.2.2.2.1 s' (by have := hs.nices; show List.length s'.2.2.2.2.2.2.1 < _; omega)
          rw [c1]
          cases c with
          | true => exact tells_f fun h => c2.1 rfl h.1
          | false =>
            have hi : ∀ l ∈ s'.2.2.2.2.2.2.1, (l.length : Int) = s'.2.2.2.2.1 := Classical.byContradiction fun hn => by have := c2.2 hn; cases this
            obtain ⟨d, d1, d2⟩ := contains81 s'.2.2.2.2.2.2.2.1 s' (by have := hs.nwin; show List.length s'.2.2.2.2.2.2.2.1 < _; omega) (fun i hi => by have := hs.wins _ (getD_mem (d := []) hi); omega)
            simp only [Option.bind_some, Bool.not_false, cond_true]
            rw [d1]
            cases d with
            | true => exact tells_f fun h => d2.1 rfl h.2
            | false => exact tells_t ⟨hi, Classical.byContradiction fun hn => by have := d2.2 hn; cases this⟩
        · constructor
          · rintro ⟨a, b, c, d, e⟩; exact ⟨hle, a, b, Classical.byContradiction c, d, e⟩
          · rintro ⟨_, a, b, c, d, e⟩; exact ⟨a, b, fun h => h c, d, e⟩
  · constructor
    · rintro ⟨a1, a2, a3, a4, a5, a6, a7, a8, a9, a10, a11, a12, a13⟩
      exact ⟨a1, a2, a8, a3, a4, a5, by omega, by omega, a11, a9, a10, a12, a13⟩
    · intro h
      exact ⟨h.stock, h.yard, h.rate, h.weeks, h.land, by have := h.lw; omega, by have := h.nships; omega, h.le, h.nices, h.nwin, h.ships, h.ices, h.wins⟩
end Go.Proofs.YtcijddeommognaaDoor.Abs

/-
  Plain laws of the store layer, third part: the reference's stores and plans; the ships of a plan.
-/
set_option linter.unusedVariables false
set_option linter.unusedSimpArgs false
set_option maxRecDepth 100000
namespace Go.Proofs.YtcijddeommognaaDoor.Abs
open Classical

theorem ships40 (l : List E39) (hl : l.length < 2 ^ 40) : Tells (g40_talikref06_Ships l) (∀ x ∈ l, OkShip x) := by
  have h := iter_fn (step := g40_talikref06_Ships_l0_step) (n := l.length) (k1 := 0) (k2 := 1) (bad := fun i => decide (¬ OkShip (l.getD i dShip))) (fuel := g40_talikref06_Ships_l0_fuel ((l, (false, (0, ()))), ()))
    (fun i => ((l, (false, ((i : Int), ()))), ())) (fun i => ((l, (false, ((i : Int), ()))), ())) ((l, (false, ((l.length : Int), ()))), ())
    (fun i hi => by
      simp only [g40_talikref06_Ships_l0_step, lt_int hi, ge0, Bool.and_true, cond_true, getD_toNat, wr1 (i := i) (by omega)]
      rw [show (0, ((List.replicate 3 0), (0, ()))) = dShip from rfl]
      obtain ⟨b1, h1, k1⟩ := in46 (l.getD i dShip).1 0 7
      obtain ⟨b2, h2, k2⟩ := goods45 (l.getD i dShip).2.1
      obtain ⟨b3, h3, k3⟩ := in46 (l.getD i dShip).2.2.1 0 1000000
      rw [h1, h2, h3]
      cases b1 with
      | false => rw [decide_eq_true (show ¬ OkShip (l.getD i dShip) from fun hn => by have := k1.2 hn.1; cases this)]; rfl
      | true =>
        cases b2 with
        | false => rw [decide_eq_true (show ¬ OkShip (l.getD i dShip) from fun hn => by have := k2.2 hn.2.1; cases this)]; rfl
        | true =>
          cases b3 with
          | false => rw [decide_eq_true (show ¬ OkShip (l.getD i dShip) from fun hn => by have := k3.2 hn.2.2; cases this)]; rfl
          | true => rw [decide_eq_false (show ¬ ¬ OkShip (l.getD i dShip) from fun hn => hn ⟨k1.1 rfl, k2.1 rfl, k3.1 rfl⟩)]; rfl)
    (by simp only [g40_talikref06_Ships_l0_step, nlt_int, cond_false]) (by simp [g40_talikref06_Ships_l0_fuel])
  rw [show ((0 : Nat) : Int) = 0 from rfl] at h
  unfold g40_talikref06_Ships g40_talikref06_Ships_l0_run
  rcases h with ⟨j, h1, h2, _, h3⟩ | ⟨h1, h2⟩
  · rw [h3]
    exact tells_f fun hall => of_decide_eq_true h2 (hall _ (getD_mem h1))
  · rw [h2]
    exact tells_t ((forall_getD dShip).1 fun i hi => Classical.byContradiction fun hb => of_decide_eq_false (h1 i hi) hb)

theorem store16_l0 (s : E27) (hs : ShortW s) : (∃ q, g16_talikref06_Store_l0_run ((false, (0, ())), (s, ())) = some (0, ((false, q), (s, ()))) ∧ ¬ ∀ l ∈ s.2.2.2.2.2.2.1, (l.length : Int) = s.2.2.2.2.1) ∨ (∃ q, g16_talikref06_Store_l0_run ((false, (0, ())), (s, ())) = some (1, ((false, q), (s, ()))) ∧ ∀ l ∈ s.2.2.2.2.2.2.1, (l.length : Int) = s.2.2.2.2.1) := by
  have h := iter_fn (step := g16_talikref06_Store_l0_step) (n := s.2.2.2.2.2.2.1.length) (k1 := 0) (k2 := 1) (bad := fun i => decide (¬ ((s.2.2.2.2.2.2.1.getD i []).length : Int) = s.2.2.2.2.1)) (fuel := g16_talikref06_Store_l0_fuel ((false, (0, ())), (s, ())))
    (fun i => ((false, ((i : Int), ())), (s, ()))) (fun i => ((false, ((i : Int), ())), (s, ()))) ((false, ((s.2.2.2.2.2.2.1.length : Int), ())), (s, ()))
    (fun i hi => by
      simp only [g16_talikref06_Store_l0_step, lt_int hi, ge0, Bool.and_true, cond_true, getD_toNat, wr1 (i := i) (by have := hs.nices; omega)]
      by_cases hb : ((s.2.2.2.2.2.2.1.getD i []).length : Int) = s.2.2.2.2.1
      · rw [show (((s.2.2.2.2.2.2.1.getD i []).length : Int) != s.2.2.2.2.1) = false from by rw [hb]; simp, decide_eq_false (fun hn => hn hb)]; rfl
      · rw [show (((s.2.2.2.2.2.2.1.getD i []).length : Int) != s.2.2.2.2.1) = true by simpa using hb, decide_eq_true hb]; rfl)
    (by simp only [g16_talikref06_Store_l0_step, nlt_int, cond_false]) (by simp [g16_talikref06_Store_l0_fuel])
  rw [show ((0 : Nat) : Int) = 0 from rfl] at h
  rcases h with ⟨j, h1, h2, _, h3⟩ | ⟨h1, h2⟩
  · exact .inl ⟨_, h3, fun hall => of_decide_eq_true h2 (hall _ (getD_mem h1))⟩
  · exact .inr ⟨_, h2, (forall_getD []).1 fun i hi => Classical.byContradiction fun hb => of_decide_eq_false (h1 i hi) hb⟩
theorem store16_l2 (s : E27) (hs : ShortW s) (n : Nat) (hn : n < s.2.2.2.2.2.2.2.1.length) : (∃ q, g16_talikref06_Store_l2_run ((false, ((n : Int), (0, ()))), (s, ())) = some (0, ((false, ((n : Int), q)), (s, ()))) ∧ ¬ ∀ g ∈ s.2.2.2.2.2.2.2.1.getD n [], G3 g) ∨ (∃ q, g16_talikref06_Store_l2_run ((false, ((n : Int), (0, ()))), (s, ())) = some (1, ((false, ((n : Int), q)), (s, ()))) ∧ ∀ g ∈ s.2.2.2.2.2.2.2.1.getD n [], G3 g) := by
  have hlen := hs.wins _ (getD_mem (d := []) hn)
  have h := iter_fn (step := g16_talikref06_Store_l2_step) (n := (s.2.2.2.2.2.2.2.1.getD n []).length) (k1 := 0) (k2 := 1) (bad := fun i => decide (¬ G3 ((s.2.2.2.2.2.2.2.1.getD n []).getD i (List.replicate 3 0)))) (fuel := g16_talikref06_Store_l2_fuel ((false, ((n : Int), (0, ()))), (s, ())))
    (fun i => ((false, ((n : Int), ((i : Int), ()))), (s, ()))) (fun i => ((false, ((n : Int), ((i : Int), ()))), (s, ()))) ((false, ((n : Int), (((s.2.2.2.2.2.2.2.1.getD n []).length : Int), ()))), (s, ()))
    (fun i hi => by
      simp only [g16_talikref06_Store_l2_step, lt_int hn, ge0, Bool.and_true, cond_true, getD_toNat, lt_int hi, wr1 (i := i) (by omega)]
      obtain ⟨b1, h1, k1⟩ := goods45 ((s.2.2.2.2.2.2.2.1.getD n []).getD i (List.replicate 3 0))
      rw [h1]
      cases b1 with
      | false => rw [decide_eq_true (show ¬ G3 ((s.2.2.2.2.2.2.2.1.getD n []).getD i (List.replicate 3 0)) from fun hn => by have := k1.2 hn; cases this)]; rfl
      | true => rw [decide_eq_false (show ¬ ¬ G3 ((s.2.2.2.2.2.2.2.1.getD n []).getD i (List.replicate 3 0)) from fun hn => hn (k1.1 rfl))]; rfl)
    (by simp only [g16_talikref06_Store_l2_step, lt_int hn, ge0, Bool.and_true, cond_true, getD_toNat, nlt_int, cond_false]) (by simp only [g16_talikref06_Store_l2_fuel, getD_toNat]; omega)
  rw [show ((0 : Nat) : Int) = 0 from rfl] at h
  rcases h with ⟨j, h1, h2, _, h3⟩ | ⟨h1, h2⟩
  · exact .inl ⟨_, h3, fun hall => of_decide_eq_true h2 (hall _ (getD_mem h1))⟩
  · exact .inr ⟨_, h2, (forall_getD (List.replicate 3 0)).1 fun i hi => Classical.byContradiction fun hb => of_decide_eq_false (h1 i hi) hb⟩
theorem store16_l1 (s : E27) (hs : ShortW s) : (∃ q, g16_talikref06_Store_l1_run ((false, (0, ())), (s, ())) = some (0, ((false, q), (s, ()))) ∧ ¬ ∀ l ∈ s.2.2.2.2.2.2.2.1, (l.length : Int) = s.2.2.2.1 ∧ ∀ g ∈ l, G3 g) ∨ (∃ q, g16_talikref06_Store_l1_run ((false, (0, ())), (s, ())) = some (1, ((false, q), (s, ()))) ∧ ∀ l ∈ s.2.2.2.2.2.2.2.1, (l.length : Int) = s.2.2.2.1 ∧ ∀ g ∈ l, G3 g) := by
  have h := iter_fn (step := g16_talikref06_Store_l1_step) (n := s.2.2.2.2.2.2.2.1.length) (k1 := 0) (k2 := 1) (bad := fun i => decide (¬ (((s.2.2.2.2.2.2.2.1.getD i []).length : Int) = s.2.2.2.1 ∧ ∀ g ∈ s.2.2.2.2.2.2.2.1.getD i [], G3 g))) (fuel := g16_talikref06_Store_l1_fuel ((false, (0, ())), (s, ())))
    (fun i => ((false, ((i : Int), ())), (s, ()))) (fun i => ((false, ((i : Int), ())), (s, ()))) ((false, ((s.2.2.2.2.2.2.2.1.length : Int), ())), (s, ()))
    (fun i hi => by
      simp only [g16_talikref06_Store_l1_step, lt_int hi, ge0, Bool.and_true, cond_true, getD_toNat, wr1 (i := i) (by have := hs.nwin; omega)]
      by_cases hb : ((s.2.2.2.2.2.2.2.1.getD i []).length : Int) = s.2.2.2.1
      · rw [show (((s.2.2.2.2.2.2.2.1.getD i []).length : Int) != s.2.2.2.1) = false from by rw [hb]; simp]
        rcases store16_l2 s hs i hi with ⟨q, h1, h2⟩ | ⟨q, h1, h2⟩
        · rw [h1, decide_eq_true (show ¬ (((s.2.2.2.2.2.2.2.1.getD i []).length : Int) = s.2.2.2.1 ∧ ∀ g ∈ s.2.2.2.2.2.2.2.1.getD i [], G3 g) from fun hn => h2 hn.2)]; rfl
        · rw [h1, decide_eq_false (show ¬ ¬ (((s.2.2.2.2.2.2.2.1.getD i []).length : Int) = s.2.2.2.1 ∧ ∀ g ∈ s.2.2.2.2.2.2.2.1.getD i [], G3 g) from fun hn => hn ⟨hb, h2⟩)]
          simp only [cond_false, Option.bind_some, natK, wr1 (i := i) (by have := hs.nwin; omega)]
      · rw [show (((s.2.2.2.2.2.2.2.1.getD i []).length : Int) != s.2.2.2.1) = true by simpa using hb, decide_eq_true (show ¬ (((s.2.2.2.2.2.2.2.1.getD i []).length : Int) = s.2.2.2.1 ∧ ∀ g ∈ s.2.2.2.2.2.2.2.1.getD i [], G3 g) from fun hn => hb hn.1)]; rfl)
    (by simp only [g16_talikref06_Store_l1_step, nlt_int, cond_false]) (by simp [g16_talikref06_Store_l1_fuel])
  rw [show ((0 : Nat) : Int) = 0 from rfl] at h
  rcases h with ⟨j, h1, h2, _, h3⟩ | ⟨h1, h2⟩
  · exact .inl ⟨_, h3, fun hall => of_decide_eq_true h2 (hall _ (getD_mem h1))⟩
  · exact .inr ⟨_, h2, (forall_getD []).1 fun i hi => Classical.byContradiction fun hb => of_decide_eq_false (h1 i hi) hb⟩
theorem store16 (s : E27) (hs : ShortW s) : Tells (g16_talikref06_Store s) (OkS s) := by
  unfold g16_talikref06_Store
  refine Tells.iff (tells_nand (goods45 _) fun p1 => tells_nand (goods45 _) fun p2 => tells_ncond fun p3 => tells_ncond fun p4 => tells_ncond (Q := (∀ l ∈ s.2.2.2.2.2.2.1, (l.length : Int) = s.2.2.2.2.1) ∧ (∀ l ∈ s.2.2.2.2.2.2.2.1, (l.length : Int) = s.2.2.2.1 ∧ ∀ g ∈ l, G3 g) ∧ In s.2.2.1 0 3000 ∧ In s.2.2.2.1 1 30 ∧ In s.2.2.2.2.1 1 8 ∧ s.2.2.2.2.1 ≤ s.2.2.2.1 ∧ (s.2.2.2.2.2.1.length : Int) ≤ 6 ∧ (∀ x ∈ s.2.2.2.2.2.1, OkShip x) ∧ In (s.2.2.2.2.2.2.1.length : Int) 1 4 ∧ In (s.2.2.2.2.2.2.2.1.length : Int) 1 4) fun p5 => ?_) ?_
  · rcases store16_l0 s hs with ⟨q, h1, h2⟩ | ⟨q, h1, h2⟩
    · rw [h1]; exact tells_f fun h => h2 h.1
    · rw [h1]
      simp only [Option.bind_some, natK]
      rcases store16_l1 s hs with ⟨q', h3, h4⟩ | ⟨q', h3, h4⟩
      · rw [h3]; exact tells_f fun h => h4 h.2.1
      · rw [h3]
        simp only [Option.bind_some, natK]
        refine Tells.iff (tells_and (in46 _ _ _) fun p1 => tells_and (in46 _ _ _) fun p2 => tells_and (in46 _ _ _) fun p3 => tells_cond fun p4 => tells_cond fun p5 => tells_and (ships40 _ (by have := hs.ships; omega)) fun p6 => tells_and (in46 _ _ _) fun p7 => tells_bind (in46 _ _ _)) ?_
        constructor
        · rintro ⟨a, b, c, d, e, f, g, i⟩; exact ⟨h2, h4, a, b, c, d, e, f, g, i⟩
        · rintro ⟨_, _, h⟩; exact h
  · constructor
    · rintro ⟨a1, a2, a3, a4, a5, a6, a7, a8, a9, a10, a11, a12, a13, a14, a15⟩
      exact ⟨a1, a2, ⟨Int.not_lt.1 a3, Int.not_lt.1 a4, Int.not_lt.1 a5⟩, a8, a9, a10, a11, a12, a13, a14, a15, a6, a7⟩
    · intro h
      exact ⟨h.stock, h.yard, Int.not_lt.2 h.le.1, Int.not_lt.2 h.le.2.1, Int.not_lt.2 h.le.2.2, h.ices, h.wins, h.rate, h.weeks, h.land, h.lw, h.nships, h.ships, h.nices, h.nwin⟩

/-! ### Plans -/
def OkP (s : E27) (p : Int) : Prop := In p 0 (((2 ^ s.2.2.2.2.2.1.length : Nat) : Int) - 1)
theorem pow10 {n : Nat} (h : n ≤ 10) : (2 ^ n : Nat) ≤ 1024 := Nat.pow_le_pow_right (by decide) h
theorem plans47 (s : E27) (h10 : s.2.2.2.2.2.1.length ≤ 10) : g47_talikref06_Plans s = some ((2 ^ s.2.2.2.2.2.1.length : Nat) : Int) := by
  have h := iter_run (step := g47_talikref06_Plans_l0_step) (n := s.2.2.2.2.2.1.length) (k := 0) (fuel := g47_talikref06_Plans_l0_fuel ((1, (0, ())), (s, ())))
    (fun i => ((((2 ^ i : Nat) : Int), ((i : Int), ())), (s, ()))) ((((2 ^ s.2.2.2.2.2.1.length : Nat) : Int), ((s.2.2.2.2.2.1.length : Int), ())), (s, ()))
    (fun i hi => by
      have := pow10 (show i ≤ 10 by omega)
      simp only [g47_talikref06_Plans_l0_step, lt_int hi, cond_true, wr1 (i := i) (by omega), Nat.pow_succ]
      generalize (2 ^ i : Nat) = P at *
      rw [wr (by omega) (by omega)]
      have : (2 : Int) * (P : Int) = ((P * 2 : Nat) : Int) := by omega
      rw [this])
    (by simp only [g47_talikref06_Plans_l0_step, nlt_int, cond_false]) (by simp [g47_talikref06_Plans_l0_fuel])
  have h : g47_talikref06_Plans_l0_run ((1, (0, ())), (s, ())) = _ := h
  unfold g47_talikref06_Plans
  rw [h]; rfl
theorem plan17 (s : E27) (h10 : s.2.2.2.2.2.1.length ≤ 10) (p : Int) : Tells (g17_talikref06_Plan s p) (OkP s p) := by
  unfold g17_talikref06_Plan
  rw [plans47 s h10]
  have := pow10 h10
  have h1 : 0 < (2 ^ s.2.2.2.2.2.1.length : Nat) := Nat.pow_pos (by decide)
  simp only [Option.bind_some]
  unfold OkP
  generalize (2 ^ s.2.2.2.2.2.1.length : Nat) = P at *
  rw [wr (by omega) (by omega)]
  exact tells_bind (in46 _ _ _)
theorem planned52 (s : E27) (h10 : s.2.2.2.2.2.1.length ≤ 10) (p : Int) : Tells (g52_store_planned s p) (OkP s p) := by
  unfold g52_store_planned
  have := pow10 h10
  have h1 : 0 < (2 ^ s.2.2.2.2.2.1.length : Nat) := Nat.pow_pos (by decide)
  have h0 : (!decide ((s.2.2.2.2.2.1.length : Int) < 0)) = true := by simp
  rw [h0]
  have e : min (Int.toNat (s.2.2.2.2.2.1.length : Int)) (IntKind.bits .i64) = s.2.2.2.2.2.1.length := by
    show min (Int.toNat (s.2.2.2.2.2.1.length : Int)) 64 = _
    simp; omega
  have e2 : (1 * 2 ^ s.2.2.2.2.2.1.length : Int) = ((2 ^ s.2.2.2.2.2.1.length : Nat) : Int) := by simp
  rw [e, e2]
  unfold OkP
  generalize (2 ^ s.2.2.2.2.2.1.length : Nat) = P at *
  rw [wr (n := (P : Int)) (by omega) (by omega), wr (by omega) (by omega)]
  exact tells_bind (in53 _ _ _)

/-! ### Bits -/
theorem has22 (p i : Nat) (hp : p < 2 ^ 40) (hi : i ≤ 40) : g22_talikref06_Has (p : Int) (i : Int) = some (p.testBit i) := by
  have h := iter_run (step := g22_talikref06_Has_l0_step) (n := i) (k := 0) (fuel := g22_talikref06_Has_l0_fuel (((p : Int), ((i : Int), (0, ()))), ()))
    (fun k => ((((p / 2 ^ k : Nat) : Int), ((i : Int), ((k : Int), ()))), ())) ((((p / 2 ^ i : Nat) : Int), ((i : Int), ((i : Int), ()))), ())
    (fun k hk => by
      have h1 : p / 2 ^ k ≤ p := Nat.div_le_self _ _
      have h2 : Int.tdiv ((p / 2 ^ k : Nat) : Int) 2 = ((p / 2 ^ (k + 1) : Nat) : Int) := by
        rw [Nat.pow_succ, ← Nat.div_div_eq_div_mul]
        generalize p / 2 ^ k = q
        rw [Int.tdiv_eq_ediv_of_nonneg (by omega)]
        omega
      have h3 : p / 2 ^ (k + 1) ≤ p := Nat.div_le_self _ _
      simp only [g22_talikref06_Has_l0_step, lt_int hk, cond_true, wr1 (i := k) (by omega), h2]
      generalize p / 2 ^ (k + 1) = q at *
      rw [wr (n := (q : Int)) (by omega) (by omega)])
    (by simp only [g22_talikref06_Has_l0_step, nlt_int, cond_false]) (by simp [g22_talikref06_Has_l0_fuel])
  simp only [Nat.pow_zero, Nat.div_one] at h
  have h : g22_talikref06_Has_l0_run (((p : Int), ((i : Int), (0, ()))), ()) = _ := h
  unfold g22_talikref06_Has
  rw [h]
  simp only [Option.bind_some]
  rw [Nat.testBit_eq_decide_div_mod_eq]
  generalize p / 2 ^ i = q
  rw [Int.tmod_eq_emod_of_nonneg (by omega)]
  congr 1
  by_cases hb : q % 2 = 1
  · rw [decide_eq_true hb]; simp; omega
  · rw [decide_eq_false hb]; simp; omega
theorem bit88 (p i : Nat) (hp : p < 2 ^ 40) (hi : i < 6) : ((IntKind.wrap .i64 ((BitVec.toNat ((BitVec.ofInt (IntKind.bits .i64) (Int.fdiv (p : Int) (2 ^ (min (Int.toNat (i : Int)) (IntKind.bits .i64))))) &&& (BitVec.ofInt (IntKind.bits .i64) 1)) : Nat) : Int)) == 1) = p.testBit i := by
  have e : min (Int.toNat (i : Int)) (IntKind.bits .i64) = i := by
    show min (Int.toNat (i : Int)) 64 = _
    simp; omega
  have e2 : Int.fdiv (p : Int) (2 ^ i) = ((p / 2 ^ i : Nat) : Int) := by
    have : (2 ^ i : Int) = ((2 ^ i : Nat) : Int) := by simp
    rw [this, Int.fdiv_eq_ediv_of_nonneg _ (Int.natCast_nonneg _)]
    rfl
  rw [e, e2, Nat.testBit_eq_decide_div_mod_eq]
  have hq : p / 2 ^ i < 2 ^ 40 := Nat.lt_of_le_of_lt (Nat.div_le_self _ _) hp
  generalize p / 2 ^ i = q at *
  have e3 : BitVec.toNat ((BitVec.ofInt (IntKind.bits .i64) (q : Int)) &&& (BitVec.ofInt (IntKind.bits .i64) 1)) = q % 2 := by
    rw [BitVec.toNat_and]
    have h1 : (BitVec.ofInt (IntKind.bits .i64) (q : Int)).toNat = q := by
      show (BitVec.ofInt 64 (q : Int)).toNat = q
      rw [BitVec.toNat_ofInt]
      omega
    have h2 : (BitVec.ofInt (IntKind.bits .i64) (1 : Int)).toNat = 1 := by decide
    rw [h1, h2, Nat.and_one_is_mod]
  rw [e3, wr (by omega) (by omega)]
  by_cases hb : q % 2 = 1
  · rw [decide_eq_true hb]; simp; omega
  · rw [decide_eq_false hb]; simp; omega
end Go.Proofs.YtcijddeommognaaDoor.Abs

/-
  Plain laws of the store layer: a run, first part: what is landed.
-/
set_option linter.unusedVariables false
set_option linter.unusedSimpArgs false
set_option maxRecDepth 100000
namespace Go.Proofs.YtcijddeommognaaDoor.Abs

abbrev rs (s : E27) (il : List Bool) (wl : List (List Int)) (p w : Int) (yard : List Int) (ns : Nat) (waits : List Int) (nh nl : Nat) (st la : List (List Int)) : TY3 := (s, (il, (wl, (p, (w, (yard, (ns, ((waits, ()), (nh, ((nl, (st, (la, ()))), ()))))))))))
def z3 : List Int := List.replicate 3 0
def mm (a room left : Int) : Int := if left < (if room < a then room else a) then left else (if room < a then room else a)
theorem getD_set_self {α : Type} {l : List α} {i : Nat} {x d : α} (h : i < l.length) : (l.set i x).getD i d = x := by
  rw [List.getD_eq_getElem?_getD, List.getElem?_set]; simp [h]
theorem getD_set_ne {α : Type} {l : List α} {i j : Nat} {x d : α} (h : i ≠ j) : (l.set i x).getD j d = l.getD j d := by
  rw [List.getD_eq_getElem?_getD, List.getElem?_set, List.getD_eq_getElem?_getD]; simp [h]

theorem land_l1_step (s : E27) (il : List Bool) (wl : List (List Int)) (p w : Int) (yard : List Int) (ns : Nat) (waits : List Int) (nh nl : Nat) (st la : List (List Int)) (ab : List (List Int)) (here : List Bool) (ld : List (List Int)) (gs : List Int) (left : Int) (i : Nat) (A : List Int) (B C : Int) (k : Nat) (hk : k < 3) (hi : i < ns) (hi2 : i < ab.length) (hgs : gs.length = 3) (m : Int) (hm : m = mm (List.getD (ab.getD i z3) k 0) (IntKind.wrap .i64 (s.2.1.getD k 0 - yard.getD k 0)) left) :
    g86_store_run_land_l1_step ((left, ((i : Int), (A, (B, (C, ((k : Int), ())))))), (rs s il wl p w yard ns waits nh nl st la, (ab, (here, (ld, (gs, ())))))) =
      some (0, ((IntKind.wrap .i64 (left - m), ((i : Int), (A, (B, (C, (((k + 1 : Nat) : Int), ())))))), (rs s il wl p w (yard.set k (IntKind.wrap .i64 (yard.getD k 0 + m))) ns waits nh nl st la, (ab.set i ((ab.getD i z3).set k (IntKind.wrap .i64 ((ab.getD i z3).getD k 0 - m))), (here, (ld, (gs.set k m, ()))))))) := by
  have h3 := lt_int hk
  have hin := lt_int hi
  have hab : decide (i < ab.length) = true := decide_eq_true hi2
  have hw := wr1 (i := k) (by omega)
  subst hm
  simp only [g86_store_run_land_l1_step, rs, show ((3 : Nat) : Int) = 3 from rfl, three_lt' hk, hin, ge0, Bool.and_true, cond_true, Int.toNat_natCast, hab, hw, getD_set_self (show k < gs.length by omega), mm, z3]
  rfl

theorem len3 {α : Type} {l : List α} (h : l.length = 3) : ∃ a b c, l = [a, b, c] := by
  match l, h with
  | [a, b, c], _ => exact ⟨a, b, c, rfl⟩
def add3 (a b : List Int) : List Int := [a.getD 0 0 + b.getD 0 0, a.getD 1 0 + b.getD 1 0, a.getD 2 0 + b.getD 2 0]
def sub3 (a b : List Int) : List Int := [a.getD 0 0 - b.getD 0 0, a.getD 1 0 - b.getD 1 0, a.getD 2 0 - b.getD 2 0]
def sum3 (a : List Int) : Int := a.getD 0 0 + a.getD 1 0 + a.getD 2 0
def md0 (Y y a : List Int) (left : Int) : Int := mm (a.getD 0 0) (Y.getD 0 0 - y.getD 0 0) left
def md1 (Y y a : List Int) (left : Int) : Int := mm (a.getD 1 0) (Y.getD 1 0 - y.getD 1 0) (left - md0 Y y a left)
def md2 (Y y a : List Int) (left : Int) : Int := mm (a.getD 2 0) (Y.getD 2 0 - y.getD 2 0) (left - md0 Y y a left - md1 Y y a left)
/-- What of a ship's goods is landed. -/
def md (Y y a : List Int) (left : Int) : List Int := [md0 Y y a left, md1 Y y a left, md2 Y y a left]
theorem mm_le {a r l : Int} (ha : 0 ≤ a) (hr : 0 ≤ r) (hl : 0 ≤ l) : 0 ≤ mm a r l ∧ mm a r l ≤ a ∧ mm a r l ≤ r ∧ mm a r l ≤ l := by
  unfold mm; split <;> split <;> omega
/-- Three numbers, each within bounds. -/
structure B3 (Y y : List Int) : Prop where
  len : y.length = 3
  b0 : 0 ≤ y.getD 0 0 ∧ y.getD 0 0 ≤ Y.getD 0 0
  b1 : 0 ≤ y.getD 1 0 ∧ y.getD 1 0 ≤ Y.getD 1 0
  b2 : 0 ≤ y.getD 2 0 ∧ y.getD 2 0 ≤ Y.getD 2 0
structure MdOk (Y y a : List Int) (left : Int) : Prop where
  h0 : 0 ≤ md0 Y y a left ∧ md0 Y y a left ≤ a.getD 0 0 ∧ md0 Y y a left ≤ Y.getD 0 0 - y.getD 0 0
  h1 : 0 ≤ md1 Y y a left ∧ md1 Y y a left ≤ a.getD 1 0 ∧ md1 Y y a left ≤ Y.getD 1 0 - y.getD 1 0
  h2 : 0 ≤ md2 Y y a left ∧ md2 Y y a left ≤ a.getD 2 0 ∧ md2 Y y a left ≤ Y.getD 2 0 - y.getD 2 0
  l0 : md0 Y y a left ≤ left
  l1 : md0 Y y a left + md1 Y y a left ≤ left
  l2 : md0 Y y a left + md1 Y y a left + md2 Y y a left ≤ left
theorem md_ok {Y y C a : List Int} {left : Int} (hy : B3 Y y) (ha : B3 C a) (hl : 0 ≤ left) : MdOk Y y a left := by
  have k0 := mm_le (l := left) ha.b0.1 (show 0 ≤ Y.getD 0 0 - y.getD 0 0 by have := hy.b0; omega) hl
  have e0 : md0 Y y a left = mm (a.getD 0 0) (Y.getD 0 0 - y.getD 0 0) left := rfl
  rw [← e0] at k0
  have k1 := mm_le (l := left - md0 Y y a left) ha.b1.1 (show 0 ≤ Y.getD 1 0 - y.getD 1 0 by have := hy.b1; omega) (by omega)
  have e1 : md1 Y y a left = mm (a.getD 1 0) (Y.getD 1 0 - y.getD 1 0) (left - md0 Y y a left) := rfl
  rw [← e1] at k1
  have k2 := mm_le (l := left - md0 Y y a left - md1 Y y a left) ha.b2.1 (show 0 ≤ Y.getD 2 0 - y.getD 2 0 by have := hy.b2; omega) (by omega)
  have e2 : md2 Y y a left = mm (a.getD 2 0) (Y.getD 2 0 - y.getD 2 0) (left - md0 Y y a left - md1 Y y a left) := rfl
  rw [← e2] at k2
  exact ⟨⟨k0.1, k0.2.1, k0.2.2.1⟩, ⟨k1.1, k1.2.1, k1.2.2.1⟩, ⟨k2.1, k2.2.1, k2.2.2.1⟩, k0.2.2.2, by omega, by omega⟩
def Le3 (Y : List Int) (n : Int) : Prop := Y.getD 0 0 ≤ n ∧ Y.getD 1 0 ≤ n ∧ Y.getD 2 0 ≤ n
theorem land_l1_run (s : E27) (il : List Bool) (wl : List (List Int)) (p w : Int) (yard : List Int) (ns : Nat) (waits : List Int) (nh nl : Nat) (st la : List (List Int)) (ab : List (List Int)) (here : List Bool) (ld : List (List Int)) (left : Int) (i : Nat) (A : List Int) (B C : Int) (hi : i < ns) (hi2 : i < ab.length) (g c : List Int) (hg : ab.getD i z3 = g) (hy : B3 s.2.1 yard) (hY : Le3 s.2.1 1000) (hgb : B3 c g) (hc : Le3 c 1000) (hl : 0 ≤ left ∧ left ≤ 3000) :
    g86_store_run_land_l1_run ((left, ((i : Int), (A, (B, (C, (0, ())))))), (rs s il wl p w yard ns waits nh nl st la, (ab, (here, (ld, ([0, 0, 0], ())))))) =
      some (0, ((left - sum3 (md s.2.1 yard g left), ((i : Int), (A, (B, (C, (3, ())))))), (rs s il wl p w (add3 yard (md s.2.1 yard g left)) ns waits nh nl st la, (ab.set i (sub3 g (md s.2.1 yard g left)), (here, (ld, (md s.2.1 yard g left, ()))))))) := by
  have K := md_ok hy hgb hl.1
  obtain ⟨hY0, hY1, hY2⟩ := hY
  obtain ⟨hc0, hc1, hc2⟩ := hc
  obtain ⟨⟨p0, q0, r0⟩, ⟨p1, q1, r1⟩, ⟨p2, q2, r2⟩, l0, l1, l2⟩ := K
  have e0 : md0 s.2.1 yard g left = mm (g.getD 0 0) (s.2.1.getD 0 0 - yard.getD 0 0) left := rfl
  have e1 : md1 s.2.1 yard g left = mm (g.getD 1 0) (s.2.1.getD 1 0 - yard.getD 1 0) (left - md0 s.2.1 yard g left) := rfl
  have e2 : md2 s.2.1 yard g left = mm (g.getD 2 0) (s.2.1.getD 2 0 - yard.getD 2 0) (left - md0 s.2.1 yard g left - md1 s.2.1 yard g left) := rfl
  simp only [md]
  generalize md0 s.2.1 yard g left = m0 at *
  generalize md1 s.2.1 yard g left = m1 at *
  generalize md2 s.2.1 yard g left = m2 at *
  obtain ⟨y0, y1, y2, rfl⟩ := len3 hy.len
  obtain ⟨a0, a1, a2, rfl⟩ := len3 hgb.len
  have hy0 := hy.b0; have hy1 := hy.b1; have hy2 := hy.b2
  have hg0 := hgb.b0; have hg1 := hgb.b1; have hg2 := hgb.b2
  simp only [List.getD_cons_zero, List.getD_cons_succ] at *
  have S0 := land_l1_step s il wl p w [y0, y1, y2] ns waits nh nl st la ab here ld [0, 0, 0] left i A B C 0 (by omega) hi hi2 rfl m0 (by
    rw [hg, e0]; simp only [List.getD_cons_zero, List.getD_cons_succ]; rw [wr (by omega) (by omega)])
  have S1 := land_l1_step s il wl p w [y0 + m0, y1, y2] ns waits nh nl st la (ab.set i [a0 - m0, a1, a2]) here ld [m0, 0, 0] (left - m0) i A B C 1 (by omega) hi (by simpa using hi2) rfl m1 (by
    rw [getD_set_self hi2, e1]; simp only [List.getD_cons_zero, List.getD_cons_succ]; rw [wr (by omega) (by omega)])
  have S2 := land_l1_step s il wl p w [y0 + m0, y1 + m1, y2] ns waits nh nl st la (ab.set i [a0 - m0, a1 - m1, a2]) here ld [m0, m1, 0] (left - m0 - m1) i A B C 2 (by omega) hi (by simpa using hi2) rfl m2 (by
    rw [getD_set_self hi2, e2]; simp only [List.getD_cons_zero, List.getD_cons_succ]; rw [wr (by omega) (by omega)])
  rw [hg] at S0
  rw [getD_set_self hi2, List.set_set] at S1 S2
  simp only [List.getD_cons_zero, List.getD_cons_succ, List.set_cons_zero, List.set_cons_succ] at S0 S1 S2
  rw [wr (n := left - m0) (by omega) (by omega), wr (n := y0 + m0) (by omega) (by omega), wr (n := a0 - m0) (by omega) (by omega)] at S0
  rw [wr (n := left - m0 - m1) (by omega) (by omega), wr (n := y1 + m1) (by omega) (by omega), wr (n := a1 - m1) (by omega) (by omega)] at S1
  rw [wr (n := left - m0 - m1 - m2) (by omega) (by omega), wr (n := y2 + m2) (by omega) (by omega), wr (n := a2 - m2) (by omega) (by omega)] at S2
  unfold g86_store_run_land_l1_run
  rw [show g86_store_run_land_l1_fuel ((left, ((i : Int), (A, (B, (C, (0, ())))))), (rs s il wl p w [y0, y1, y2] ns waits nh nl st la, (ab, (here, (ld, ([0, 0, 0], ())))))) = 4 from rfl]
  rw [show (0 : Int) = ((0 : Nat) : Int) from rfl] at *
  rw [iter_one S0, iter_one S1, iter_one S2]
  have e : left - m0 - m1 - m2 = left - sum3 [m0, m1, m2] := by simp [sum3]; omega
  rw [e]
  rfl

/-! ### Goods put together -/
theorem foldl_take_succ {α β : Type} (f : α → β → α) (x : α) {q : List β} {j : Nat} (h : j < q.length) (d : β) : (q.take (j + 1)).foldl f x = f ((q.take j).foldl f x) (q.getD j d) := by
  rw [List.take_add_one, List.getD_eq_getElem?_getD, List.getElem?_eq_getElem h, List.foldl_append]
  rfl
theorem added_l1_step (l : List (List Int)) (n i : Int) (A out g : List Int) (k : Nat) (hk : k < 3) :
    g63_store_added_l1_step ((l, (n, (i, ((k : Int), ())))), (A, (out, (g, ())))) = some (0, ((l, (n, (i, (((k + 1 : Nat) : Int), ())))), (A, (out.set k (IntKind.wrap .i64 (out.getD k 0 + g.getD k 0)), (g, ()))))) := by
  have h3 := lt_int hk
  have hw := wr1 (i := k) (by omega)
  simp only [g63_store_added_l1_step, show ((3 : Nat) : Int) = 3 from rfl, three_lt' hk, ge0, Bool.and_true, cond_true, Int.toNat_natCast, hw]
theorem added_l1_run (l : List (List Int)) (n i : Int) (A out g : List Int) (ho : B3 [100000, 100000, 100000] out) (hg : B3 [1000, 1000, 1000] g) :
    g63_store_added_l1_run ((l, (n, (i, (0, ())))), (A, (out, (g, ())))) = some (0, ((l, (n, (i, (3, ())))), (A, (add3 out g, (g, ()))))) := by
  obtain ⟨y0, y1, y2, rfl⟩ := len3 ho.len
  obtain ⟨a0, a1, a2, rfl⟩ := len3 hg.len
  have hy0 := ho.b0; have hy1 := ho.b1; have hy2 := ho.b2
  have hg0 := hg.b0; have hg1 := hg.b1; have hg2 := hg.b2
  simp only [List.getD_cons_zero, List.getD_cons_succ] at *
  have S0 := added_l1_step l n i A [y0, y1, y2] [a0, a1, a2] 0 (by omega)
  have S1 := added_l1_step l n i A [y0 + a0, y1, y2] [a0, a1, a2] 1 (by omega)
  have S2 := added_l1_step l n i A [y0 + a0, y1 + a1, y2] [a0, a1, a2] 2 (by omega)
  simp only [List.getD_cons_zero, List.getD_cons_succ, List.set_cons_zero, List.set_cons_succ] at S0 S1 S2
  rw [wr (n := y0 + a0) (by omega) (by omega)] at S0
  rw [wr (n := y1 + a1) (by omega) (by omega)] at S1
  rw [wr (n := y2 + a2) (by omega) (by omega)] at S2
  unfold g63_store_added_l1_run
  rw [show g63_store_added_l1_fuel ((l, (n, (i, (0, ())))), (A, ([y0, y1, y2], ([a0, a1, a2], ())))) = 4 from rfl]
  rw [show (0 : Int) = ((0 : Nat) : Int) from rfl] at *
  rw [iter_one S0, iter_one S1, iter_one S2]
  rfl
def sumL (l : List (List Int)) : List Int := l.foldl add3 [0, 0, 0]
theorem b3_add {X Y Z a b : List Int} (ha : B3 X a) (hb : B3 Y b) (h0 : X.getD 0 0 + Y.getD 0 0 ≤ Z.getD 0 0) (h1 : X.getD 1 0 + Y.getD 1 0 ≤ Z.getD 1 0) (h2 : X.getD 2 0 + Y.getD 2 0 ≤ Z.getD 2 0) : B3 Z (add3 a b) := by
  have a0 := ha.b0; have a1 := ha.b1; have a2 := ha.b2
  have b0 := hb.b0; have b1 := hb.b1; have b2 := hb.b2
  refine ⟨rfl, ?_, ?_, ?_⟩ <;> simp only [add3, List.getD_cons_zero, List.getD_cons_succ] <;> omega
theorem sumL_bound (l : List (List Int)) (h : ∀ g ∈ l, B3 [1000, 1000, 1000] g) : ∀ (i : Nat), i ≤ l.length → B3 [1000 * (i : Int), 1000 * (i : Int), 1000 * (i : Int)] (sumL (l.take i))
  | 0, _ => ⟨rfl, by simp [sumL], by simp [sumL], by simp [sumL]⟩
  | i + 1, hi => by
    have := sumL_bound l h i (by omega)
    unfold sumL at *
    rw [foldl_take_succ add3 _ (show i < l.length by omega) []]
    exact b3_add this (h _ (getD_mem (by omega))) (by simp only [List.getD_cons_zero]; omega) (by simp only [List.getD_cons_zero, List.getD_cons_succ]; omega) (by simp only [List.getD_cons_zero, List.getD_cons_succ]; omega)
theorem added63 (l : List (List Int)) (h : ∀ g ∈ l, B3 [1000, 1000, 1000] g) (hl : l.length ≤ 100) : g63_store_added l = some (sumL l) := by
  have K := iter_run (step := g63_store_added_l0_step) (n := l.length) (k := 0) (fuel := g63_store_added_l0_fuel ((l, ((l.length : Int), (0, ()))), ([0, 0, 0], ([0, 0, 0], ()))))
    (fun i => ((l, ((l.length : Int), ((i : Int), ()))), ([0, 0, 0], (sumL (l.take i), ())))) ((l, ((l.length : Int), ((l.length : Int), ()))), ([0, 0, 0], (sumL l, ())))
    (fun i hi => by
      have hb := sumL_bound l h i (by omega)
      have hg := h _ (getD_mem (d := List.replicate 3 0) hi)
      have hb' : B3 [100000, 100000, 100000] (sumL (l.take i)) := by
        have b0 := hb.b0; have b1 := hb.b1; have b2 := hb.b2
        simp only [List.getD_cons_zero, List.getD_cons_succ] at b0 b1 b2
        refine ⟨hb.len, ?_, ?_, ?_⟩ <;> simp only [List.getD_cons_zero, List.getD_cons_succ] <;> omega
      simp only [g63_store_added_l0_step, lt_int hi, ge0, Bool.and_true, cond_true, getD_toNat, added_l1_run _ _ _ _ _ _ hb' hg, Option.bind_some, wr1 (i := i) (by omega)]
      rw [show add3 (sumL (l.take i)) (l.getD i (List.replicate 3 0)) = sumL (l.take (i + 1)) from (foldl_take_succ add3 _ hi _).symm])
    (by simp only [g63_store_added_l0_step, nlt_int, cond_false, List.take_length]) (by simp [g63_store_added_l0_fuel])
  have K : g63_store_added_l0_run ((l, ((l.length : Int), (0, ()))), ([0, 0, 0], ([0, 0, 0], ()))) = _ := K
  unfold g63_store_added
  rw [K]; rfl

/-! ### What a ship lands, what all that wait land -/
def cg (s : E27) (i : Nat) : List Int := (s.2.2.2.2.2.1.getD i dShip).2.1
def shN (s : E27) : Nat := s.2.2.2.2.2.1.length
/-- What a store needs to be: its arrays have their lengths. -/
structure WfS (s : E27) : Prop where
  stock : s.1.length = 3
  yard : s.2.1.length = 3
  ships : ∀ x ∈ s.2.2.2.2.2.1, x.2.1.length = 3
  wins : ∀ l ∈ s.2.2.2.2.2.2.2.1, ∀ g ∈ l, g.length = 3
abbrev LS := Int × List Int × List (List Int)
def landM (s : E27) (x : LS) (i : Nat) : List Int := md s.2.1 x.2.1 (sub3 (cg s i) (x.2.2.getD i z3)) x.1
def landOne (s : E27) (x : LS) (i : Nat) : LS := (x.1 - sum3 (landM s x i), add3 x.2.1 (landM s x i), x.2.2.set i (add3 (x.2.2.getD i z3) (landM s x i)))
structure LInv (s : E27) (x : LS) : Prop where
  left : 0 ≤ x.1 ∧ x.1 ≤ 3000
  yard : B3 s.2.1 x.2.1
  len : x.2.2.length = shN s
  ld : ∀ i, i < shN s → B3 (cg s i) (x.2.2.getD i z3)
theorem b3_sub {Y y : List Int} (h : B3 Y y) : B3 Y (sub3 Y y) := by
  have b0 := h.b0; have b1 := h.b1; have b2 := h.b2
  refine ⟨rfl, ?_, ?_, ?_⟩ <;> simp only [sub3, List.getD_cons_zero, List.getD_cons_succ] <;> omega
theorem landM_ok {s : E27} {x : LS} (h : LInv s x) {i : Nat} (hi : i < shN s) : MdOk s.2.1 x.2.1 (sub3 (cg s i) (x.2.2.getD i z3)) x.1 := md_ok h.yard (b3_sub (h.ld i hi)) h.left.1
theorem landM_b3 {s : E27} {x : LS} (h : LInv s x) {i : Nat} (hi : i < shN s) : B3 (sub3 (cg s i) (x.2.2.getD i z3)) (landM s x i) ∧ B3 (sub3 s.2.1 x.2.1) (landM s x i) := by
  have K := landM_ok h hi
  have h0 := K.h0; have h1 := K.h1; have h2 := K.h2
  refine ⟨⟨rfl, ?_, ?_, ?_⟩, ⟨rfl, ?_, ?_, ?_⟩⟩ <;> simp only [landM, md, sub3, List.getD_cons_zero, List.getD_cons_succ] at * <;> omega
theorem b3_up {Y y m : List Int} (h : B3 Y y) (k : B3 (sub3 Y y) m) : B3 Y (add3 y m) := by
  have a0 := h.b0; have a1 := h.b1; have a2 := h.b2
  have b0 := k.b0; have b1 := k.b1; have b2 := k.b2
  refine ⟨rfl, ?_, ?_, ?_⟩ <;> simp only [add3, sub3, List.getD_cons_zero, List.getD_cons_succ] at * <;> omega
theorem landOne_inv {s : E27} {x : LS} (h : LInv s x) {i : Nat} (hi : i < shN s) : LInv s (landOne s x i) := by
  have K := landM_ok h hi
  obtain ⟨K1, K2⟩ := landM_b3 h hi
  have h0 := K.h0; have h1 := K.h1; have h2 := K.h2; have l2 := K.l2
  refine ⟨?_, b3_up h.yard K2, ?_, ?_⟩
  · have hl := h.left
    simp only [landOne, sum3, landM, md, List.getD_cons_zero, List.getD_cons_succ]
    omega
  · simp only [landOne, List.length_set]; exact h.len
  · intro j hj
    simp only [landOne]
    by_cases e : i = j
    · subst e
      rw [getD_set_self (by rw [h.len]; exact hi)]
      exact b3_up (h.ld i hi) K1
    · rw [getD_set_ne e]; exact h.ld j hj
theorem land_inv {s : E27} {x : LS} (h : LInv s x) : ∀ (q : List Nat), (∀ i ∈ q, i < shN s) → LInv s (q.foldl (landOne s) x)
  | [], _ => h
  | i :: q, hq => land_inv (x := landOne s x i) (landOne_inv h (hq i (by simp))) q fun j hj => hq j (by simp [hj])
/-- What is still aboard. -/
structure AbOk (s : E27) (ab ld : List (List Int)) : Prop where
  len : ab.length = shN s
  eq : ∀ i, i < shN s → ab.getD i z3 = sub3 (cg s i) (ld.getD i z3)
theorem landOne_ab {s : E27} {x : LS} (h : LInv s x) {i : Nat} (hi : i < shN s) {ab : List (List Int)} (ha : AbOk s ab x.2.2) : AbOk s (ab.set i (sub3 (sub3 (cg s i) (x.2.2.getD i z3)) (landM s x i))) (landOne s x i).2.2 := by
  refine ⟨by rw [List.length_set]; exact ha.len, fun j hj => ?_⟩
  simp only [landOne]
  by_cases e : i = j
  · subst e
    rw [getD_set_self (by rw [ha.len]; exact hi), getD_set_self (by rw [h.len]; exact hi)]
    simp only [sub3, add3, List.getD_cons_zero, List.getD_cons_succ]
    congr 1
    · omega
    · congr 1
      · omega
      · congr 1; omega
  · rw [getD_set_ne e, getD_set_ne e]; exact ha.eq j hj
theorem G3.le {g : List Int} (h : G3 g) : Le3 g 1000 := ⟨h.1.2, h.2.1.2, h.2.2.2⟩
theorem OkS.cg {s : E27} (h : OkS s) {i : Nat} (hi : i < shN s) : G3 (cg s i) := (h.ships _ (getD_mem hi)).2.1
theorem b3_1000 {Y y : List Int} (h : B3 Y y) (hY : Le3 Y 1000) : B3 [1000, 1000, 1000] y := by
  have a0 := h.b0; have a1 := h.b1; have a2 := h.b2
  obtain ⟨h0, h1, h2⟩ := hY
  refine ⟨h.len, ?_, ?_, ?_⟩ <;> simp only [List.getD_cons_zero, List.getD_cons_succ] <;> omega
theorem added_two {x y : List Int} (hx : B3 [1000, 1000, 1000] x) (hy : B3 [1000, 1000, 1000] y) : g63_store_added [x, y] = some (add3 x y) := by
  rw [added63 [x, y] (by intro g hg; simp at hg; rcases hg with rfl | rfl <;> assumption) (by simp)]
  obtain ⟨y0, y1, y2, rfl⟩ := len3 hx.len
  simp [sumL, add3]
theorem b3_le {X Y y : List Int} (h : B3 X y) (h0 : X.getD 0 0 ≤ Y.getD 0 0) (h1 : X.getD 1 0 ≤ Y.getD 1 0) (h2 : X.getD 2 0 ≤ Y.getD 2 0) : B3 Y y := by
  have a0 := h.b0; have a1 := h.b1; have a2 := h.b2
  exact ⟨h.len, by omega, by omega, by omega⟩
theorem b3_sub_le {Y y m : List Int} (h : B3 Y y) (k : B3 (sub3 Y y) m) : B3 Y m := by
  have a0 := h.b0; have a1 := h.b1; have a2 := h.b2
  refine b3_le k ?_ ?_ ?_ <;> simp only [sub3, List.getD_cons_zero, List.getD_cons_succ] <;> omega
def ints (q : List Nat) : List Int := q.map fun i => ((i : Nat) : Int)
theorem ints_len (q : List Nat) : (ints q).length = q.length := List.length_map ..
theorem land_l0_step (s : E27) (hs : OkS s) (il : List Bool) (wl : List (List Int)) (p w : Int) (waits : List Nat) (st la : List (List Int)) (ab : List (List Int)) (here : List Bool) (x : LS) (hx : LInv s x) (ha : AbOk s ab x.2.2) (W : List Int) (nh : Nat) (j : Nat) (hj : j < waits.length) (hq : ∀ i ∈ waits, i < shN s) (hlen : waits.length < 2 ^ 40) :
    g86_store_run_land_l0_step ((x.1, (ints waits, ((waits.length : Int), ((j : Int), ())))), (rs s il wl p w x.2.1 (shN s) W nh (shN s) st la, (ab, (here, (x.2.2, ()))))) =
      some (0, (((landOne s x (waits.getD j 0)).1, (ints waits, ((waits.length : Int), (((j + 1 : Nat) : Int), ())))), (rs s il wl p w (landOne s x (waits.getD j 0)).2.1 (shN s) W nh (shN s) st la, (ab.set (waits.getD j 0) (sub3 (sub3 (cg s (waits.getD j 0)) (x.2.2.getD (waits.getD j 0) z3)) (landM s x (waits.getD j 0))), (here, ((landOne s x (waits.getD j 0)).2.2, ())))))) := by
  have hi : waits.getD j 0 < shN s := hq _ (getD_mem hj)
  have e : (ints waits).getD j 0 = ((waits.getD j 0 : Nat) : Int) := by
    unfold ints; rw [List.getD_eq_getElem?_getD, List.getElem?_map, List.getD_eq_getElem?_getD]
    rw [List.getElem?_eq_getElem hj]; rfl
  generalize hI : waits.getD j 0 = i at *
  have hc := hs.cg hi
  have hld := hx.ld i hi
  have hY := hs.yard.le
  have hgb : B3 (cg s i) (sub3 (cg s i) (x.2.2.getD i z3)) := b3_sub hld
  have hm := landM_b3 hx hi
  have hA := added_two (b3_1000 hld hc.le) (b3_1000 (b3_sub_le hld hm.1) hc.le)
  have h1 : decide (i < x.2.2.length) = true := decide_eq_true (by rw [hx.len]; exact hi)
  have R := land_l1_run s il wl p w x.2.1 (shN s) W nh (shN s) st la ab here x.2.2 x.1 i (ints waits) (waits.length : Int) (j : Int) hi (by rw [ha.len]; exact hi) _ _ (ha.eq i hi) hx.yard hY hgb hc.le hx.left
  simp only [g86_store_run_land_l0_step, lt_int hj, ge0, ints_len, Bool.and_true, cond_true, getD_toNat, e]
  rw [show (0 :: (0 :: (0 :: []))) = [(0 : Int), 0, 0] from rfl, R]
  simp only [Option.bind_some, lt_int hi, ge0, Bool.and_true, cond_true, getD_toNat, Int.toNat_natCast, h1]
  rw [show List.replicate 3 (0 : Int) = z3 from rfl]
  have hA : g63_store_added [x.2.2.getD i z3, md s.2.1 x.2.1 (sub3 (cg s i) (x.2.2.getD i z3)) x.1] = _ := hA
  rw [hA]
  simp only [Option.bind_some, wr1 (i := j) (by omega)]
  rfl
end Go.Proofs.YtcijddeommognaaDoor.Abs

/-
  Plain laws of the store layer: a run, second part: the methods land and need.
-/
set_option linter.unusedVariables false
set_option linter.unusedSimpArgs false
set_option maxRecDepth 100000
namespace Go.Proofs.YtcijddeommognaaDoor.Abs

theorem land_l0_run (s : E27) (hs : OkS s) (il : List Bool) (wl : List (List Int)) (p w : Int) (waits : List Nat) (st la : List (List Int)) (ab : List (List Int)) (here : List Bool) (x : LS) (hx : LInv s x) (ha : AbOk s ab x.2.2) (nh : Nat) (hq : ∀ i ∈ waits, i < shN s) (hlen : waits.length < 2 ^ 40) :
    ∃ q ab', g86_store_run_land_l0_run ((x.1, (ints waits, ((waits.length : Int), (0, ())))), (rs s il wl p w x.2.1 (shN s) (ints waits) nh (shN s) st la, (ab, (here, (x.2.2, ()))))) = some (0, (q, (rs s il wl p w (waits.foldl (landOne s) x).2.1 (shN s) (ints waits) nh (shN s) st la, (ab', (here, ((waits.foldl (landOne s) x).2.2, ()))))))
      ∧ AbOk s ab' (waits.foldl (landOne s) x).2.2 := by
  have hinv : ∀ j, LInv s ((waits.take j).foldl (landOne s) x) := fun j => land_inv hx _ fun i hi => hq i (List.mem_of_mem_take hi)
  obtain ⟨q, h1, ab', h2, h3⟩ := iter_inv (step := g86_store_run_land_l0_step) (k := 0) (n := waits.length)
    (fun j q => ∃ ab', AbOk s ab' ((waits.take j).foldl (landOne s) x).2.2 ∧ q = ((((waits.take j).foldl (landOne s) x).1, (ints waits, ((waits.length : Int), ((j : Int), ())))), (rs s il wl p w ((waits.take j).foldl (landOne s) x).2.1 (shN s) (ints waits) nh (shN s) st la, (ab', (here, (((waits.take j).foldl (landOne s) x).2.2, ()))))))
    (fun q => ∃ ab', AbOk s ab' (waits.foldl (landOne s) x).2.2 ∧ q = (((waits.foldl (landOne s) x).1, (ints waits, ((waits.length : Int), ((waits.length : Int), ())))), (rs s il wl p w (waits.foldl (landOne s) x).2.1 (shN s) (ints waits) nh (shN s) st la, (ab', (here, ((waits.foldl (landOne s) x).2.2, ()))))))
    (fun j q ⟨ab', a1, a2⟩ hj => by
      subst a2
      refine ⟨_, land_l0_step s hs il wl p w waits st la ab' here _ (hinv j) a1 (ints waits) nh j hj hq hlen, ?_⟩
      rw [foldl_take_succ (landOne s) x hj 0]
      exact ⟨_, landOne_ab (hinv j) (hq _ (getD_mem hj)) a1, rfl⟩)
    (fun q ⟨ab', a1, a2⟩ => by
      subst a2
      refine ⟨_, ?_, ab', by simpa using a1, rfl⟩
      simp only [g86_store_run_land_l0_step, nlt_int, cond_false, List.take_length])
    waits.length 0 (g86_store_run_land_l0_fuel ((x.1, (ints waits, ((waits.length : Int), (0, ())))), (rs s il wl p w x.2.1 (shN s) (ints waits) nh (shN s) st la, (ab, (here, (x.2.2, ()))))))
    ((x.1, (ints waits, ((waits.length : Int), (0, ())))), (rs s il wl p w x.2.1 (shN s) (ints waits) nh (shN s) st la, (ab, (here, (x.2.2, ())))))
    (by omega) (by simp [g86_store_run_land_l0_fuel]) ⟨ab, ha, rfl⟩
  subst h3
  exact ⟨_, ab', h1, h2⟩
/-- Whether there is open water in a week. -/
def opn (s : E27) (il : List Bool) (w : Nat) : Bool := decide ((w : Int) < s.2.2.2.2.1) && il.getD w false
theorem land86 (s : E27) (hs : OkS s) (il : List Bool) (hil : (il.length : Int) = s.2.2.2.2.1) (wl : List (List Int)) (p : Int) (w : Nat) (waits : List Nat) (st la : List (List Int)) (ab : List (List Int)) (here : List Bool) (x : LS) (hx : LInv s x) (hr : x.1 = s.2.2.1) (ha : AbOk s ab x.2.2) (nh : Nat) (hq : ∀ i ∈ waits, i < shN s) (hlen : waits.length < 2 ^ 40) :
    ∃ ab', g86_store_run_land (rs s il wl p (w : Int) x.2.1 (shN s) (ints waits) nh (shN s) st la) ab here x.2.2 = some ((), (rs s il wl p w (bif opn s il w then waits.foldl (landOne s) x else x).2.1 (shN s) (ints waits) nh (shN s) st la, (ab', (here, ((bif opn s il w then waits.foldl (landOne s) x else x).2.2, ())))))
      ∧ AbOk s ab' (bif opn s il w then waits.foldl (landOne s) x else x).2.2 := by
  unfold g86_store_run_land opn
  by_cases h1 : (w : Int) < s.2.2.2.2.1
  · rw [decide_eq_true h1, decide_eq_false (show ¬ (w : Int) ≥ s.2.2.2.2.1 by omega)]
    simp only [cond_false, Bool.true_and, ge0, lt_int (show w < il.length by omega), cond_true, getD_toNat]
    cases h2 : il.getD w false with
    | false => exact ⟨ab, rfl, ha⟩
    | true =>
      obtain ⟨q, ab', h3, h4⟩ := land_l0_run s hs il wl p w waits st la ab here x hx ha nh hq hlen
      refine ⟨ab', ?_, h4⟩
      simp only [Bool.not_true, cond_false, cond_true, ints_len, ← hr]
      rw [h3]; rfl
  · rw [decide_eq_false h1, decide_eq_true (show (w : Int) ≥ s.2.2.2.2.1 by omega)]
    exact ⟨ab, rfl, ha⟩

/-! ### Need -/
def mx (a : Int) : Int := if a > 0 then a else 0
def lackM (y n : List Int) : List Int := [mx (n.getD 0 0 - y.getD 0 0), mx (n.getD 1 0 - y.getD 1 0), mx (n.getD 2 0 - y.getD 2 0)]
def restM (y n : List Int) : List Int := [mx (y.getD 0 0 - n.getD 0 0), mx (y.getD 1 0 - n.getD 1 0), mx (y.getD 2 0 - n.getD 2 0)]
theorem need_l0_step (s : E27) (il : List Bool) (wl : List (List Int)) (p : Int) (w : Nat) (yard : List Int) (ns : Nat) (waits : List Int) (nh nl : Nat) (st la : List (List Int)) (ab : List (List Int)) (here : List Bool) (ld : List (List Int)) (lk : List Int) (k : Nat) (hk : k < 3) (hw : w < wl.length) :
    g87_store_run_need_l0_step (((k : Int), ()), (rs s il wl p (w : Int) yard ns waits nh nl st la, (ab, (here, (ld, (lk, ())))))) =
      some (0, ((((k + 1 : Nat) : Int), ()), (rs s il wl p (w : Int) (yard.set k (mx (IntKind.wrap .i64 (yard.getD k 0 - (wl.getD w z3).getD k 0)))) ns waits nh nl st la, (ab, (here, (ld, (lk.set k (mx (IntKind.wrap .i64 ((wl.getD w z3).getD k 0 - yard.getD k 0))), ()))))))) := by
  have h3 := lt_int hk
  have hin := lt_int hw
  have hw := wr1 (i := k) (by omega)
  simp only [g87_store_run_need_l0_step, rs, show ((3 : Nat) : Int) = 3 from rfl, three_lt' hk, hin, ge0, Bool.and_true, cond_true, Int.toNat_natCast, hw, mx, z3]
  rfl
theorem need_l0_run (s : E27) (il : List Bool) (wl : List (List Int)) (p : Int) (w : Nat) (yard : List Int) (ns : Nat) (waits : List Int) (nh nl : Nat) (st la : List (List Int)) (ab : List (List Int)) (here : List Bool) (ld : List (List Int)) (hw : w < wl.length) (hy : B3 [1000, 1000, 1000] yard) (hn : B3 [1000, 1000, 1000] (wl.getD w z3)) :
    g87_store_run_need_l0_run ((0, ()), (rs s il wl p (w : Int) yard ns waits nh nl st la, (ab, (here, (ld, ([0, 0, 0], ())))))) =
      some (0, ((3, ()), (rs s il wl p (w : Int) (restM yard (wl.getD w z3)) ns waits nh nl st la, (ab, (here, (ld, (lackM yard (wl.getD w z3), ()))))))) := by
  obtain ⟨y0, y1, y2, rfl⟩ := len3 hy.len
  obtain ⟨a0, a1, a2, hz⟩ := len3 hn.len
  rw [hz] at hn
  have hy0 := hy.b0; have hy1 := hy.b1; have hy2 := hy.b2
  have hg0 := hn.b0; have hg1 := hn.b1; have hg2 := hn.b2
  simp only [List.getD_cons_zero, List.getD_cons_succ] at hy0 hy1 hy2 hg0 hg1 hg2
  have S0 := need_l0_step s il wl p w [y0, y1, y2] ns waits nh nl st la ab here ld [0, 0, 0] 0 (by omega) hw
  have S1 := need_l0_step s il wl p w [mx (y0 - a0), y1, y2] ns waits nh nl st la ab here ld [mx (a0 - y0), 0, 0] 1 (by omega) hw
  have S2 := need_l0_step s il wl p w [mx (y0 - a0), mx (y1 - a1), y2] ns waits nh nl st la ab here ld [mx (a0 - y0), mx (a1 - y1), 0] 2 (by omega) hw
  rw [hz] at S0 S1 S2
  simp only [List.getD_cons_zero, List.getD_cons_succ, List.set_cons_zero, List.set_cons_succ] at S0 S1 S2
  rw [wr (n := y0 - a0) (by omega) (by omega), wr (n := a0 - y0) (by omega) (by omega)] at S0
  rw [wr (n := y1 - a1) (by omega) (by omega), wr (n := a1 - y1) (by omega) (by omega)] at S1
  rw [wr (n := y2 - a2) (by omega) (by omega), wr (n := a2 - y2) (by omega) (by omega)] at S2
  unfold g87_store_run_need_l0_run
  rw [show g87_store_run_need_l0_fuel ((0, ()), (rs s il wl p (w : Int) [y0, y1, y2] ns waits nh nl st la, (ab, (here, (ld, ([0, 0, 0], ())))))) = 4 from rfl]
  rw [show (0 : Int) = ((0 : Nat) : Int) from rfl] at *
  rw [iter_one S0, iter_one S1, iter_one S2, hz]
  rfl
theorem need87 (s : E27) (il : List Bool) (wl : List (List Int)) (p : Int) (w : Nat) (yard : List Int) (ns : Nat) (waits : List Int) (nh nl : Nat) (st la : List (List Int)) (ab : List (List Int)) (here : List Bool) (ld : List (List Int)) (hw : w < wl.length) (hy : B3 [1000, 1000, 1000] yard) (hn : B3 [1000, 1000, 1000] (wl.getD w z3)) (h1 : st.length ≤ 1000) (h2 : la.length ≤ 1000) :
    g87_store_run_need (rs s il wl p (w : Int) yard ns waits nh nl st la) ab here ld =
      some ((), (rs s il wl p (w : Int) (restM yard (wl.getD w z3)) ns waits nh nl (st ++ [restM yard (wl.getD w z3)]) (la ++ [lackM yard (wl.getD w z3)]), (ab, (here, (ld, ()))))) := by
  have e1 : ∀ x : List Int, decide (la.length + [x].length ≤ LIM) = true := fun x => decide_eq_true (by simp [LIM]; omega)
  have e2 : ∀ x : List Int, decide (st.length + [x].length ≤ LIM) = true := fun x => decide_eq_true (by simp [LIM]; omega)
  unfold g87_store_run_need
  rw [show (0 :: (0 :: (0 :: []))) = [(0 : Int), 0, 0] from rfl, need_l0_run s il wl p w yard ns waits nh nl st la ab here ld hw hy hn]
  simp only [Option.bind_some, e1, e2, cond_true]
end Go.Proofs.YtcijddeommognaaDoor.Abs

/-
  Plain laws of the store layer: a run, third part: the method arrive.
-/
set_option linter.unusedVariables false
set_option linter.unusedSimpArgs false
set_option maxRecDepth 100000
namespace Go.Proofs.YtcijddeommognaaDoor.Abs

/-- The first week in which a ship can come. -/
def fr (s : E27) (i : Nat) : Int := (s.2.2.2.2.2.1.getD i dShip).1
/-- Whether it has come before a week. -/
def openB (s : E27) (il : List Bool) (i : Nat) : Nat → Bool
  | 0 => false
  | w + 1 => openB s il i w || (decide (fr s i ≤ w) && opn s il w)
/-- Whether it comes in a week. -/
def arrB (s : E27) (il : List Bool) (i w : Nat) : Bool := !openB s il i w && (decide (fr s i ≤ w) && opn s il w)
def newQ (s : E27) (il : List Bool) (p w : Nat) (j : Nat) : List Nat := (List.range j).filter fun i => p.testBit i && arrB s il i w
/-- The ships of a plan that have come before a week, in their order. -/
def Qu (s : E27) (il : List Bool) (p : Nat) : Nat → List Nat
  | 0 => []
  | w + 1 => Qu s il p w ++ newQ s il p w 6
structure HereOk (s : E27) (il : List Bool) (p w : Nat) (here : List Bool) : Prop where
  len : here.length = shN s
  eq : ∀ i, i < shN s → here.getD i false = (p.testBit i && openB s il i w)
theorem bit_lt {p n i : Nat} (h : p < 2 ^ n) (hb : p.testBit i = true) : i < n := by
  apply Classical.byContradiction
  intro hn
  have : p < 2 ^ i := Nat.lt_of_lt_of_le h (Nat.pow_le_pow_right (by decide) (by omega))
  rw [Nat.testBit_lt_two_pow this] at hb
  cases hb
theorem newQ_succ (s : E27) (il : List Bool) (p w j : Nat) : newQ s il p w (j + 1) = newQ s il p w j ++ (bif p.testBit j && arrB s il j w then [j] else []) := by
  unfold newQ
  rw [List.range_succ, List.filter_append]
  cases h : (p.testBit j && arrB s il j w) <;> simp [List.filter_cons, h]
theorem newQ_len (s : E27) (il : List Bool) (p w j : Nat) : (newQ s il p w j).length ≤ j := by
  have := List.length_filter_le (fun i => p.testBit i && arrB s il i w) (List.range j)
  rw [List.length_range] at this; exact this
theorem Qu_len (s : E27) (il : List Bool) (p : Nat) : ∀ w, (Qu s il p w).length ≤ 6 * w
  | 0 => by simp [Qu]
  | w + 1 => by
    have := Qu_len s il p w
    have := newQ_len s il p w 6
    simp only [Qu, List.length_append]; omega
theorem Qu_lt (s : E27) (il : List Bool) {p : Nat} (hp : p < 2 ^ shN s) : ∀ w, ∀ i ∈ Qu s il p w, i < shN s
  | 0, i, h => by simp [Qu] at h
  | w + 1, i, h => by
    simp only [Qu, newQ, List.mem_append, List.mem_filter, Bool.and_eq_true] at h
    rcases h with h | h
    · exact Qu_lt s il hp w i h
    · exact bit_lt hp h.2.1

structure HereJ (s : E27) (il : List Bool) (p w j : Nat) (here : List Bool) : Prop where
  len : here.length = shN s
  eq : ∀ i, i < shN s → here.getD i false = (p.testBit i && (openB s il i w || (decide (i < j) && decide (fr s i ≤ w))))
theorem ints_snoc (q : List Nat) (i : Nat) : ints (q ++ [i]) = ints q ++ [(i : Int)] := by simp [ints]
theorem arrive_step (s : E27) (il : List Bool) (wl : List (List Int)) (p w j : Nat) (hp : p < 2 ^ shN s) (hn : shN s ≤ 6) (hj : j < 6) (hop : opn s il w = true) (yard : List Int) (st la : List (List Int)) (ab ld : List (List Int)) (here : List Bool) (hh : HereJ s il p w j here) (q : List Nat) (hq : q.length ≤ 1000) (nl : Nat) :
    ∃ here', HereJ s il p w (j + 1) here' ∧ g88_store_ships_1_l0_step (((j : Int), ()), ((0, UC67), ((p : Int), (rs s il wl (p : Int) (w : Int) yard (shN s) (ints (q ++ newQ s il p w j)) (shN s) nl st la, (ab, (here, (ld, ()))))))) =
      some (0, ((((j + 1 : Nat) : Int), ()), ((0, UC67), ((p : Int), (rs s il wl (p : Int) (w : Int) yard (shN s) (ints (q ++ newQ s il p w (j + 1))) (shN s) nl st la, (ab, (here', (ld, ())))))))) := by
  have hp40 : p < 2 ^ 40 := Nat.lt_of_lt_of_le hp (Nat.pow_le_pow_right (by decide) (by omega))
  have hb := bit88 p j hp40 hj
  have e0 : decide ((j : Int) < 6) = true := decide_eq_true (by omega)
  have e1 : decide ((j : Int) < 0) = false := decide_eq_false (by omega)
  simp only [g88_store_ships_1_l0_step, e0, e1, cond_true, Bool.not_false, hb, wr1 (i := j) (by omega)]
  have stay : p.testBit j = false ∨ openB s il j w = true ∨ decide (fr s j ≤ w) = false → HereJ s il p w (j + 1) here ∧ newQ s il p w (j + 1) = newQ s il p w j := fun h => by
    constructor
    · refine ⟨hh.len, fun i hi => ?_⟩
      rw [hh.eq i hi]
      by_cases e : i = j
      · subst e
        rcases h with h | h | h <;> simp [h]
      · have : decide (i < j + 1) = decide (i < j) := by
          by_cases h' : i < j
          · rw [decide_eq_true h', decide_eq_true (by omega)]
          · rw [decide_eq_false h', decide_eq_false (by omega)]
        rw [this]
    · rw [newQ_succ]
      rcases h with h | h | h <;> simp [arrB, h]
  cases hbit : p.testBit j with
  | false =>
    obtain ⟨h1, h2⟩ := stay (.inl hbit)
    refine ⟨here, h1, ?_⟩
    rw [h2]; rfl
  | true =>
    have hjn : j < shN s := bit_lt hp hbit
    have hl : decide (j < here.length) = true := decide_eq_true (by rw [hh.len]; exact hjn)
    have hhj : here.getD j false = openB s il j w := by rw [hh.eq j hjn, hbit]; simp
    have hsh : decide ((j : Int) < (s.2.2.2.2.2.1.length : Int)) = true := lt_int hjn
    simp only [g85_r0, natK, cond_true, lt_int hjn, ge0, Bool.and_true, Int.toNat_natCast, hl, hhj, hsh]
    cases hO : openB s il j w with
    | true =>
      obtain ⟨h1, h2⟩ := stay (.inr (.inl hO))
      refine ⟨here, h1, ?_⟩
      rw [h2]; rfl
    | false =>
      simp only [Bool.not_false, cond_true]
      cases hF : decide (fr s j ≤ (w : Int)) with
      | false =>
        obtain ⟨h1, h2⟩ := stay (.inr (.inr hF))
        refine ⟨here, h1, ?_⟩
        have hF' : decide ((s.2.2.2.2.2.1.getD j (0, ((List.replicate 3 0), (0, ())))).1 ≤ (w : Int)) = false := hF
        simp only [hF', h2]; rfl
      | true =>
        refine ⟨here.set j true, ⟨by rw [List.length_set]; exact hh.len, fun i hi => ?_⟩, ?_⟩
        · by_cases e : j = i
          · subst e
            rw [getD_set_self (by rw [hh.len]; exact hjn), hbit, hF]
            simp
          · rw [getD_set_ne e, hh.eq i hi]
            have : decide (i < j + 1) = decide (i < j) := by
              by_cases h' : i < j
              · rw [decide_eq_true h', decide_eq_true (by omega)]
              · rw [decide_eq_false h', decide_eq_false (by omega)]
            rw [this]
        · have hN : newQ s il p w (j + 1) = newQ s il p w j ++ [j] := by
            rw [newQ_succ]
            simp [hbit, arrB, hO, hF, hop]
          have hlen : decide ((ints (q ++ newQ s il p w j)).length + [(j : Int)].length ≤ LIM) = true := decide_eq_true (by
            have := newQ_len s il p w j
            rw [ints_len, List.length_append]
            simp [LIM]; omega)
          rw [hN, ← List.append_assoc, ints_snoc]
          have hF' : decide ((s.2.2.2.2.2.1.getD j (0, ((List.replicate 3 0), (0, ())))).1 ≤ (w : Int)) = true := hF
          simp only [hF', cond_true, g100_store_queue_put, hlen, Option.bind_some]
          rfl
theorem arrive_l0 (s : E27) (il : List Bool) (wl : List (List Int)) (p w : Nat) (hp : p < 2 ^ shN s) (hn : shN s ≤ 6) (hop : opn s il w = true) (hw : w ≤ 100) (yard : List Int) (st la : List (List Int)) (ab ld : List (List Int)) (here : List Bool) (hh : HereOk s il p w here) (nl : Nat) :
    ∃ here' q, HereOk s il p (w + 1) here' ∧ g88_store_ships_1_l0_run ((0, ()), ((0, UC67), ((p : Int), (rs s il wl (p : Int) (w : Int) yard (shN s) (ints (Qu s il p w)) (shN s) nl st la, (ab, (here, (ld, ()))))))) =
      some (1, (q, ((0, UC67), ((p : Int), (rs s il wl (p : Int) (w : Int) yard (shN s) (ints (Qu s il p (w + 1))) (shN s) nl st la, (ab, (here', (ld, ())))))))) := by
  have hql := Qu_len s il p w
  obtain ⟨q, h1, h', h2, h3⟩ := iter_inv (step := g88_store_ships_1_l0_step) (k := 1) (n := 6)
    (fun j x => ∃ here', HereJ s il p w j here' ∧ x = (((j : Int), ()), ((0, UC67), ((p : Int), (rs s il wl (p : Int) (w : Int) yard (shN s) (ints (Qu s il p w ++ newQ s il p w j)) (shN s) nl st la, (ab, (here', (ld, ()))))))))
    (fun x => ∃ here', HereJ s il p w 6 here' ∧ x = (((6 : Int), ()), ((0, UC67), ((p : Int), (rs s il wl (p : Int) (w : Int) yard (shN s) (ints (Qu s il p w ++ newQ s il p w 6)) (shN s) nl st la, (ab, (here', (ld, ()))))))))
    (fun j x ⟨h', a1, a2⟩ hj => by
      subst a2
      obtain ⟨h'', b1, b2⟩ := arrive_step s il wl p w j hp hn hj hop yard st la ab ld h' a1 (Qu s il p w) (by omega) nl
      exact ⟨_, b2, h'', b1, rfl⟩)
    (fun x ⟨h', a1, a2⟩ => by
      subst a2
      exact ⟨_, rfl, h', a1, rfl⟩)
    6 0 7 ((0, ()), ((0, UC67), ((p : Int), (rs s il wl (p : Int) (w : Int) yard (shN s) (ints (Qu s il p w)) (shN s) nl st la, (ab, (here, (ld, ()))))))) (by omega) (by omega)
    ⟨here, ⟨hh.len, fun i hi => by rw [hh.eq i hi]; simp⟩, by rw [show newQ s il p w 0 = [] from rfl, List.append_nil]; rfl⟩
  subst h3
  refine ⟨h', _, ⟨h2.len, fun i hi => ?_⟩, h1⟩
  rw [h2.eq i hi]
  simp only [openB, hop, Bool.and_true, decide_eq_true (show i < 6 by omega), Bool.true_and]
theorem arrive85 (s : E27) (il : List Bool) (hil : (il.length : Int) = s.2.2.2.2.1) (wl : List (List Int)) (p w : Nat) (hp : p < 2 ^ shN s) (hn : shN s ≤ 6) (hw : w ≤ 100) (yard : List Int) (st la : List (List Int)) (ab ld : List (List Int)) (here : List Bool) (hh : HereOk s il p w here) (nl : Nat) :
    ∃ here', HereOk s il p (w + 1) here' ∧ g85_store_run_arrive (rs s il wl (p : Int) (w : Int) yard (shN s) (ints (Qu s il p w)) (shN s) nl st la) ab here ld =
      some ((), (rs s il wl (p : Int) (w : Int) yard (shN s) (ints (Qu s il p (w + 1))) (shN s) nl st la, (ab, (here', (ld, ()))))) := by
  have shut : opn s il w = false → HereOk s il p (w + 1) here ∧ Qu s il p (w + 1) = Qu s il p w := fun h => by
    constructor
    · refine ⟨hh.len, fun i hi => ?_⟩
      rw [hh.eq i hi]; simp [openB, h]
    · simp [Qu, newQ, arrB, h]
  unfold g85_store_run_arrive
  by_cases h1 : (w : Int) < s.2.2.2.2.1
  · rw [decide_eq_false (show ¬ (w : Int) ≥ s.2.2.2.2.1 by omega)]
    simp only [cond_false, Bool.true_and, ge0, lt_int (show w < il.length by omega), cond_true, getD_toNat]
    cases h2 : il.getD w false with
    | false =>
      obtain ⟨a1, a2⟩ := shut (by unfold opn; rw [h2]; simp)
      exact ⟨here, a1, by rw [a2]; rfl⟩
    | true =>
      obtain ⟨h', q, a1, a2⟩ := arrive_l0 s il wl p w hp hn (by unfold opn; rw [h2, decide_eq_true h1]; rfl) hw yard st la ab ld here hh nl
      refine ⟨h', a1, ?_⟩
      simp only [Bool.not_true, cond_false, g57_store_ships, Option.bind_some, g88_store_ships_1]
      rw [a2]
      rfl
  · rw [decide_eq_true (show (w : Int) ≥ s.2.2.2.2.1 by omega)]
    obtain ⟨a1, a2⟩ := shut (by simp [opn, h1])
    exact ⟨here, a1, by rw [a2]; rfl⟩
end Go.Proofs.YtcijddeommognaaDoor.Abs

/-
  Plain laws of the store layer: a run, fourth part: the program's trace is the model's.
-/
set_option linter.unusedVariables false
set_option linter.unusedSimpArgs false
set_option maxRecDepth 100000
namespace Go.Proofs.YtcijddeommognaaDoor.Abs

abbrev WS := List Int × List (List Int) × List (List Int) × List (List Int)
/-- What is landed in a week. -/
def landW (s : E27) (il : List Bool) (p : Nat) (x : WS) (w : Nat) : LS := bif opn s il w then (Qu s il p (w + 1)).foldl (landOne s) (s.2.2.1, x.1, x.2.1) else (s.2.2.1, x.1, x.2.1)
def weekM (s : E27) (il : List Bool) (wl : List (List Int)) (p : Nat) (x : WS) (w : Nat) : WS :=
  (restM (landW s il p x w).2.1 (wl.getD w z3), (landW s il p x w).2.2, x.2.2.1 ++ [restM (landW s il p x w).2.1 (wl.getD w z3)], x.2.2.2 ++ [lackM (landW s il p x w).2.1 (wl.getD w z3)])
/-- What becomes of a store in its first weeks. -/
def runM (s : E27) (il : List Bool) (wl : List (List Int)) (p : Nat) : Nat → WS
  | 0 => (s.1, List.replicate (shN s) [0, 0, 0], [], [])
  | w + 1 => weekM s il wl p (runM s il wl p w) w
structure RInv (s : E27) (w : Nat) (x : WS) : Prop where
  yard : B3 s.2.1 x.1
  len : x.2.1.length = shN s
  ld : ∀ i, i < shN s → B3 (cg s i) (x.2.1.getD i z3)
  st : x.2.2.1.length = w
  la : x.2.2.2.length = w
theorem RInv.linv {s : E27} (hs : OkS s) {w : Nat} {x : WS} (h : RInv s w x) : LInv s (s.2.2.1, x.1, x.2.1) := ⟨hs.rate, h.yard, h.len, h.ld⟩
theorem landW_inv {s : E27} (hs : OkS s) (il : List Bool) {p : Nat} (hp : p < 2 ^ shN s) {w : Nat} {x : WS} (h : RInv s w x) : LInv s (landW s il p x w) := by
  unfold landW
  cases opn s il w with
  | true => exact land_inv (h.linv hs) _ (Qu_lt s il hp (w + 1))
  | false => exact h.linv hs
theorem mx_le {a b : Int} (hb : 0 ≤ b) (h : a ≤ b) : 0 ≤ mx a ∧ mx a ≤ b := by unfold mx; split <;> omega
theorem rest_b3 {Y y n : List Int} (hy : B3 Y y) (hn : B3 [1000, 1000, 1000] n) : B3 Y (restM y n) := by
  have a0 := hy.b0; have a1 := hy.b1; have a2 := hy.b2
  have b0 := hn.b0; have b1 := hn.b1; have b2 := hn.b2
  simp only [List.getD_cons_zero, List.getD_cons_succ] at b0 b1 b2
  refine ⟨rfl, ?_, ?_, ?_⟩ <;> simp only [restM, List.getD_cons_zero, List.getD_cons_succ]
  · exact mx_le (by omega) (by omega)
  · exact mx_le (by omega) (by omega)
  · exact mx_le (by omega) (by omega)
/-- A winter as it is to be. -/
structure WinOk (s : E27) (wl : List (List Int)) : Prop where
  len : (wl.length : Int) = s.2.2.2.1
  ok : ∀ g ∈ wl, B3 [1000, 1000, 1000] g
theorem week_inv {s : E27} (hs : OkS s) (il : List Bool) {wl : List (List Int)} (hw : WinOk s wl) {p : Nat} (hp : p < 2 ^ shN s) {w : Nat} (hlt : w < wl.length) {x : WS} (h : RInv s w x) : RInv s (w + 1) (weekM s il wl p x w) := by
  have K := landW_inv hs il hp h
  refine ⟨rest_b3 K.yard (hw.ok _ (getD_mem hlt)), K.len, K.ld, ?_, ?_⟩
  · simp only [weekM, List.length_append, List.length_cons, List.length_nil]; rw [h.st]
  · simp only [weekM, List.length_append, List.length_cons, List.length_nil]; rw [h.la]
theorem G3.b3 {g : List Int} (h : G3 g) (hl : g.length = 3) : B3 [1000, 1000, 1000] g := ⟨hl, h.1, h.2.1, h.2.2⟩
theorem b3_zero {c : List Int} (h : G3 c) : B3 c [0, 0, 0] := ⟨rfl, ⟨by simp, by simpa using h.1.1⟩, ⟨by simp, by simpa using h.2.1.1⟩, ⟨by simp, by simpa using h.2.2.1⟩⟩
theorem run_inv {s : E27} (hs : OkS s) (wf : WfS s) (il : List Bool) {wl : List (List Int)} (hw : WinOk s wl) {p : Nat} (hp : p < 2 ^ shN s) : ∀ w, w ≤ wl.length → RInv s w (runM s il wl p w)
  | 0, _ => by
    refine ⟨⟨wf.stock, ⟨hs.stock.1.1, hs.le.1⟩, ⟨hs.stock.2.1.1, hs.le.2.1⟩, ⟨hs.stock.2.2.1, hs.le.2.2⟩⟩, List.length_replicate, fun i hi => ?_, rfl, rfl⟩
    simp only [runM]
    rw [List.getD_eq_getElem?_getD, List.getElem?_replicate, if_pos hi]
    exact b3_zero (hs.cg hi)
  | w + 1, h => week_inv hs il hw hp (by omega) (run_inv hs wf il hw hp w (by omega))

/-! ### The walk -/
abbrev l2s (W : Int) (w k : Int) (a : E27) (Z : List (List Int) × List (List Int) × List (List Int) × Unit) (here : List Bool) (r : TY3) (e : E39) (ab ld : List (List Int)) : TY38 := ((W, (w, (((), ((), ((), ()))), (k, ())))), (a, (Z, (here, (r, (e, (ab, (ld, ()))))))))
theorem week_walk {s : E27} (hs : OkS s) (il : List Bool) (hil : (il.length : Int) = s.2.2.2.2.1) {wl : List (List Int)} (hw : WinOk s wl) {p : Nat} (hp : p < 2 ^ shN s) {w : Nat} (hlt : w < wl.length) {x : WS} (h : RInv s w x) (W : Int) (a : E27) (Z : List (List Int) × List (List Int) × List (List Int) × Unit) (e : E39) (here : List Bool) (hh : HereOk s il p w here) (ab : List (List Int)) (ha : AbOk s ab x.2.1) :
    ∃ here' ab', HereOk s il p (w + 1) here' ∧ AbOk s ab' (weekM s il wl p x w).2.1 ∧
      g54_store_trace_l2_run (l2s W w 0 a Z here (rs s il wl (p : Int) (w : Int) x.1 (shN s) (ints (Qu s il p w)) (shN s) (shN s) x.2.2.1 x.2.2.2) e ab x.2.1) =
        some (0, l2s W w 3 a Z here' (rs s il wl (p : Int) (w : Int) (weekM s il wl p x w).1 (shN s) (ints (Qu s il p (w + 1))) (shN s) (shN s) (weekM s il wl p x w).2.2.1 (weekM s il wl p x w).2.2.2) e ab' (weekM s il wl p x w).2.1) := by
  have hn : shN s ≤ 6 := by have := hs.nships; unfold shN; omega
  have hwl : w ≤ 100 := by have := hs.weeks.2; have := hw.len; omega
  have hql := Qu_len s il p (w + 1)
  obtain ⟨here', b1, b2⟩ := arrive85 s il hil wl p w hp hn hwl x.1 x.2.2.1 x.2.2.2 ab x.2.1 here hh (shN s)
  obtain ⟨ab', c1, c2⟩ := land86 s hs il hil wl (p : Int) w (Qu s il p (w + 1)) x.2.2.1 x.2.2.2 ab here' (s.2.2.1, x.1, x.2.1) (h.linv hs) rfl ha (shN s) (Qu_lt s il hp (w + 1)) (by omega)
  have K := landW_inv hs il hp h
  have hd := need87 s il wl (p : Int) w (landW s il p x w).2.1 (shN s) (ints (Qu s il p (w + 1))) (shN s) (shN s) x.2.2.1 x.2.2.2 ab' here' (landW s il p x w).2.2 hlt (b3_1000 K.yard hs.yard.le) (hw.ok _ (getD_mem hlt)) (by rw [h.st]; omega) (by rw [h.la]; omega)
  refine ⟨here', ab', b1, c2, ?_⟩
  unfold g54_store_trace_l2_run
  rw [show g54_store_trace_l2_fuel (l2s W w 0 a Z here (rs s il wl (p : Int) (w : Int) x.1 (shN s) (ints (Qu s il p w)) (shN s) (shN s) x.2.2.1 x.2.2.2) e ab x.2.1) = 4 from rfl]
  have S0 : g54_store_trace_l2_step (l2s W w 0 a Z here (rs s il wl (p : Int) (w : Int) x.1 (shN s) (ints (Qu s il p w)) (shN s) (shN s) x.2.2.1 x.2.2.2) e ab x.2.1) = some (0, l2s W w 1 a Z here' (rs s il wl (p : Int) (w : Int) x.1 (shN s) (ints (Qu s il p (w + 1))) (shN s) (shN s) x.2.2.1 x.2.2.2) e ab x.2.1) := by
    simp only [g54_store_trace_l2_step, show decide ((0 : Int) < 3) = true from rfl, show decide ((0 : Int) = 0) = true from rfl, cond_true]
    rw [b2]
    rfl
  have S1 : g54_store_trace_l2_step (l2s W w 1 a Z here' (rs s il wl (p : Int) (w : Int) x.1 (shN s) (ints (Qu s il p (w + 1))) (shN s) (shN s) x.2.2.1 x.2.2.2) e ab x.2.1) = some (0, l2s W w 2 a Z here' (rs s il wl (p : Int) (w : Int) (landW s il p x w).2.1 (shN s) (ints (Qu s il p (w + 1))) (shN s) (shN s) x.2.2.1 x.2.2.2) e ab' (landW s il p x w).2.2) := by
    simp only [g54_store_trace_l2_step, show decide ((1 : Int) < 3) = true from rfl, show decide ((1 : Int) = 0) = false from rfl, show decide ((1 : Int) = 1) = true from rfl, cond_true, cond_false]
    have c1' : g86_store_run_land (rs s il wl (p : Int) (w : Int) x.1 (shN s) (ints (Qu s il p (w + 1))) (shN s) (shN s) x.2.2.1 x.2.2.2) ab here' x.2.1 = _ := c1
    rw [c1']
    rfl
  have S2 : g54_store_trace_l2_step (l2s W w 2 a Z here' (rs s il wl (p : Int) (w : Int) (landW s il p x w).2.1 (shN s) (ints (Qu s il p (w + 1))) (shN s) (shN s) x.2.2.1 x.2.2.2) e ab' (landW s il p x w).2.2) = some (0, l2s W w 3 a Z here' (rs s il wl (p : Int) (w : Int) (weekM s il wl p x w).1 (shN s) (ints (Qu s il p (w + 1))) (shN s) (shN s) (weekM s il wl p x w).2.2.1 (weekM s il wl p x w).2.2.2) e ab' (weekM s il wl p x w).2.1) := by
    simp only [g54_store_trace_l2_step, show decide ((2 : Int) < 3) = true from rfl, show decide ((2 : Int) = 0) = false from rfl, show decide ((2 : Int) = 1) = false from rfl, show decide ((2 : Int) = 2) = true from rfl, cond_true, cond_false]
    rw [hd]
    rfl
  rw [iter_one S0, iter_one S1, iter_one S2]
  rfl
abbrev l1s (W : Int) (w : Int) (a : E27) (Z : List (List Int) × List (List Int) × List (List Int) × Unit) (here : List Bool) (r : TY3) (e : E39) (ab ld : List (List Int)) : TY43 := ((W, (w, ())), (a, (Z, (here, (r, (e, (ab, (ld, ()))))))))
theorem weeks_walk {s : E27} (hs : OkS s) (wf : WfS s) (il : List Bool) (hil : (il.length : Int) = s.2.2.2.2.1) {wl : List (List Int)} (hw : WinOk s wl) {p : Nat} (hp : p < 2 ^ shN s) (a : E27) (Z : List (List Int) × List (List Int) × List (List Int) × Unit) (e : E39) (here : List Bool) (hh : HereOk s il p 0 here) (ab : List (List Int)) (ha : AbOk s ab (List.replicate (shN s) [0, 0, 0])) :
    ∃ here' wk ab', g54_store_trace_l1_run (l1s (wl.length : Int) 0 a Z here (rs s il wl (p : Int) 0 s.1 (shN s) (ints []) (shN s) (shN s) [] []) e ab (List.replicate (shN s) [0, 0, 0])) =
        some (0, l1s (wl.length : Int) (wl.length : Int) a Z here' (rs s il wl (p : Int) wk (runM s il wl p wl.length).1 (shN s) (ints (Qu s il p wl.length)) (shN s) (shN s) (runM s il wl p wl.length).2.2.1 (runM s il wl p wl.length).2.2.2) e ab' (runM s il wl p wl.length).2.1) := by
  have hlen : wl.length ≤ 30 := by have := hs.weeks.2; have := hw.len; omega
  obtain ⟨q, h1, here', wk, ab', b1, b2, b3⟩ := iter_inv (step := g54_store_trace_l1_step) (k := 0) (n := wl.length)
    (fun j q => ∃ here' wk ab', HereOk s il p j here' ∧ AbOk s ab' (runM s il wl p j).2.1 ∧ q = l1s (wl.length : Int) (j : Int) a Z here' (rs s il wl (p : Int) wk (runM s il wl p j).1 (shN s) (ints (Qu s il p j)) (shN s) (shN s) (runM s il wl p j).2.2.1 (runM s il wl p j).2.2.2) e ab' (runM s il wl p j).2.1)
    (fun q => ∃ here' wk ab', HereOk s il p wl.length here' ∧ AbOk s ab' (runM s il wl p wl.length).2.1 ∧ q = l1s (wl.length : Int) (wl.length : Int) a Z here' (rs s il wl (p : Int) wk (runM s il wl p wl.length).1 (shN s) (ints (Qu s il p wl.length)) (shN s) (shN s) (runM s il wl p wl.length).2.2.1 (runM s il wl p wl.length).2.2.2) e ab' (runM s il wl p wl.length).2.1)
    (fun j q ⟨here', wk, ab', c1, c2, c3⟩ hj => by
      subst c3
      obtain ⟨here'', ab'', d1, d2, d3⟩ := week_walk hs il hil hw hp hj (run_inv hs wf il hw hp j (by omega)) (wl.length : Int) a Z e here' c1 ab' c2
      refine ⟨_, ?_, here'', (j : Int), ab'', d1, d2, rfl⟩
      simp only [g54_store_trace_l1_step, lt_int hj, cond_true]
      rw [d3]
      simp only [Option.bind_some, wr1 (i := j) (by omega)]
      rfl)
    (fun q ⟨here', wk, ab', c1, c2, c3⟩ => by
      subst c3
      refine ⟨_, ?_, here', wk, ab', c1, c2, rfl⟩
      simp only [g54_store_trace_l1_step, nlt_int, cond_false])
    wl.length 0 (g54_store_trace_l1_fuel (l1s (wl.length : Int) 0 a Z here (rs s il wl (p : Int) 0 s.1 (shN s) (ints []) (shN s) (shN s) [] []) e ab (List.replicate (shN s) [0, 0, 0])))
    (l1s (wl.length : Int) 0 a Z here (rs s il wl (p : Int) 0 s.1 (shN s) (ints []) (shN s) (shN s) [] []) e ab (List.replicate (shN s) [0, 0, 0]))
    (by omega) (by simp [g54_store_trace_l1_fuel, l1s]) ⟨here, 0, ab, hh, ha, rfl⟩
  subst b3
  exact ⟨here', wk, ab', h1⟩
end Go.Proofs.YtcijddeommognaaDoor.Abs

/-
  Plain laws of the store layer: a run, fifth part: stores without ships; the trace as a whole.
-/
set_option linter.unusedVariables false
set_option linter.unusedSimpArgs false
set_option maxRecDepth 100000
namespace Go.Proofs.YtcijddeommognaaDoor.Abs

abbrev rz (s : E27) (il : List Bool) (wl : List (List Int)) (w : Int) (yard : List Int) (nh : Nat) (st la : List (List Int)) : TY21 := (s, (il, (wl, (0, (w, (yard, ([], (([], ()), (nh, (([], (st, (la, ()))), ()))))))))))
theorem ships88z (r : TY21) (here : List Bool) : g88_store_ships_1_v1 (0, UC67) 0 r here = some ((), ((0, UC67), (0, (r, (here, ()))))) := by kernel_rfl
theorem arrive85z (s : E27) (il : List Bool) (hil : (il.length : Int) = s.2.2.2.2.1) (wl : List (List Int)) (w : Nat) (yard : List Int) (nh : Nat) (st la : List (List Int)) (here : List Bool) :
    g85_store_run_arrive_v1 (rz s il wl (w : Int) yard nh st la) here = some ((), (rz s il wl (w : Int) yard nh st la, (here, ()))) := by
  unfold g85_store_run_arrive_v1
  by_cases h1 : (w : Int) < s.2.2.2.2.1
  · rw [decide_eq_false (show ¬ (w : Int) ≥ s.2.2.2.2.1 by omega)]
    simp only [cond_false, Bool.true_and, ge0, lt_int (show w < il.length by omega), cond_true, getD_toNat]
    cases h2 : il.getD w false with
    | false => rfl
    | true =>
      simp only [Bool.not_true, cond_false, g57_store_ships, Option.bind_some, ships88z]
      rfl
  · rw [decide_eq_true (show (w : Int) ≥ s.2.2.2.2.1 by omega)]
    rfl
theorem land86z (s : E27) (il : List Bool) (hil : (il.length : Int) = s.2.2.2.2.1) (wl : List (List Int)) (w : Nat) (yard : List Int) (nh : Nat) (st la : List (List Int)) (here : List Bool) :
    g86_store_run_land_v1 (rz s il wl (w : Int) yard nh st la) here = some ((), (rz s il wl (w : Int) yard nh st la, (here, ()))) := by
  unfold g86_store_run_land_v1
  by_cases h1 : (w : Int) < s.2.2.2.2.1
  · rw [decide_eq_false (show ¬ (w : Int) ≥ s.2.2.2.2.1 by omega)]
    simp only [cond_false, Bool.true_and, ge0, lt_int (show w < il.length by omega), cond_true, getD_toNat]
    cases h2 : il.getD w false with
    | false => rfl
    | true => rfl
  · rw [decide_eq_true (show (w : Int) ≥ s.2.2.2.2.1 by omega)]
    rfl
theorem need_l0z_step (s : E27) (il : List Bool) (wl : List (List Int)) (w : Nat) (yard : List Int) (nh : Nat) (st la : List (List Int)) (here : List Bool) (lk : List Int) (k : Nat) (hk : k < 3) (hw : w < wl.length) :
    g87_store_run_need_v1_l0_step (((k : Int), ()), (rz s il wl (w : Int) yard nh st la, (here, (lk, ())))) =
      some (0, ((((k + 1 : Nat) : Int), ()), (rz s il wl (w : Int) (yard.set k (mx (IntKind.wrap .i64 (yard.getD k 0 - (wl.getD w z3).getD k 0)))) nh st la, (here, (lk.set k (mx (IntKind.wrap .i64 ((wl.getD w z3).getD k 0 - yard.getD k 0))), ()))))) := by
  have h3 := lt_int hk
  have hin := lt_int hw
  have hw := wr1 (i := k) (by omega)
  simp only [g87_store_run_need_v1_l0_step, show ((3 : Nat) : Int) = 3 from rfl, three_lt' hk, hin, ge0, Bool.and_true, cond_true, Int.toNat_natCast, hw, mx, z3]
  rfl
theorem need87z (s : E27) (il : List Bool) (wl : List (List Int)) (w : Nat) (yard : List Int) (nh : Nat) (st la : List (List Int)) (here : List Bool) (hw : w < wl.length) (hy : B3 [1000, 1000, 1000] yard) (hn : B3 [1000, 1000, 1000] (wl.getD w z3)) (h1 : st.length ≤ 1000) (h2 : la.length ≤ 1000) :
    g87_store_run_need_v1 (rz s il wl (w : Int) yard nh st la) here =
      some ((), (rz s il wl (w : Int) (restM yard (wl.getD w z3)) nh (st ++ [restM yard (wl.getD w z3)]) (la ++ [lackM yard (wl.getD w z3)]), (here, ()))) := by
  have e1 : ∀ x : List Int, decide (la.length + [x].length ≤ LIM) = true := fun x => decide_eq_true (by simp [LIM]; omega)
  have e2 : ∀ x : List Int, decide (st.length + [x].length ≤ LIM) = true := fun x => decide_eq_true (by simp [LIM]; omega)
  have R : g87_store_run_need_v1_l0_run ((0, ()), (rz s il wl (w : Int) yard nh st la, (here, ([0, 0, 0], ())))) = some (0, ((3, ()), (rz s il wl (w : Int) (restM yard (wl.getD w z3)) nh st la, (here, (lackM yard (wl.getD w z3), ()))))) := by
    obtain ⟨y0, y1, y2, rfl⟩ := len3 hy.len
    obtain ⟨a0, a1, a2, hz⟩ := len3 hn.len
    rw [hz] at hn
    have hy0 := hy.b0; have hy1 := hy.b1; have hy2 := hy.b2
    have hg0 := hn.b0; have hg1 := hn.b1; have hg2 := hn.b2
    simp only [List.getD_cons_zero, List.getD_cons_succ] at hy0 hy1 hy2 hg0 hg1 hg2
    have S0 := need_l0z_step s il wl w [y0, y1, y2] nh st la here [0, 0, 0] 0 (by omega) hw
    have S1 := need_l0z_step s il wl w [mx (y0 - a0), y1, y2] nh st la here [mx (a0 - y0), 0, 0] 1 (by omega) hw
    have S2 := need_l0z_step s il wl w [mx (y0 - a0), mx (y1 - a1), y2] nh st la here [mx (a0 - y0), mx (a1 - y1), 0] 2 (by omega) hw
    rw [hz] at S0 S1 S2
    simp only [List.getD_cons_zero, List.getD_cons_succ, List.set_cons_zero, List.set_cons_succ] at S0 S1 S2
    rw [wr (n := y0 - a0) (by omega) (by omega), wr (n := a0 - y0) (by omega) (by omega)] at S0
    rw [wr (n := y1 - a1) (by omega) (by omega), wr (n := a1 - y1) (by omega) (by omega)] at S1
    rw [wr (n := y2 - a2) (by omega) (by omega), wr (n := a2 - y2) (by omega) (by omega)] at S2
    unfold g87_store_run_need_v1_l0_run
    rw [show g87_store_run_need_v1_l0_fuel ((0, ()), (rz s il wl (w : Int) [y0, y1, y2] nh st la, (here, ([0, 0, 0], ())))) = 4 from rfl]
    rw [show (0 : Int) = ((0 : Nat) : Int) from rfl] at *
    rw [iter_one S0, iter_one S1, iter_one S2, hz]
    rfl
  unfold g87_store_run_need_v1
  rw [show (0 :: (0 :: (0 :: []))) = [(0 : Int), 0, 0] from rfl, R]
  simp only [Option.bind_some, e1, e2, cond_true]
theorem Qu_none {s : E27} (h0 : shN s = 0) (il : List Bool) : ∀ w, Qu s il 0 w = []
  | 0 => rfl
  | w + 1 => by simp [Qu, newQ, Qu_none h0 il w]
theorem landW_none {s : E27} (h0 : shN s = 0) (il : List Bool) (x : WS) (w : Nat) : landW s il 0 x w = (s.2.2.1, x.1, x.2.1) := by
  unfold landW
  rw [Qu_none h0]
  cases opn s il w <;> rfl
abbrev l2z (W : Int) (w k : Int) (a : E27) (Z : List (List Int) × List (List Int) × List (List Int) × Unit) (here : List Bool) (r : TY21) : TY41 := ((W, (w, (((), ((), ((), ()))), (k, ())))), (a, (Z, (here, (r, ())))))
theorem weekz_walk {s : E27} (hs : OkS s) (h0 : shN s = 0) (il : List Bool) (hil : (il.length : Int) = s.2.2.2.2.1) {wl : List (List Int)} (hw : WinOk s wl) {w : Nat} (hlt : w < wl.length) {x : WS} (h : RInv s w x) (W : Int) (a : E27) (Z : List (List Int) × List (List Int) × List (List Int) × Unit) (here : List Bool) (nh : Nat) :
    g54_store_trace_l2_v1_run (l2z W w 0 a Z here (rz s il wl (w : Int) x.1 nh x.2.2.1 x.2.2.2)) =
      some (0, l2z W w 3 a Z here (rz s il wl (w : Int) (weekM s il wl 0 x w).1 nh (weekM s il wl 0 x w).2.2.1 (weekM s il wl 0 x w).2.2.2)) := by
  have hwl : w ≤ 100 := by have := hs.weeks.2; have := hw.len; omega
  have b2 := arrive85z s il hil wl w x.1 nh x.2.2.1 x.2.2.2 here
  have c1 := land86z s il hil wl w x.1 nh x.2.2.1 x.2.2.2 here
  have hd := need87z s il wl w x.1 nh x.2.2.1 x.2.2.2 here hlt (b3_1000 h.yard hs.yard.le) (hw.ok _ (getD_mem hlt)) (by rw [h.st]; omega) (by rw [h.la]; omega)
  unfold g54_store_trace_l2_v1_run
  rw [show g54_store_trace_l2_v1_fuel (l2z W w 0 a Z here (rz s il wl (w : Int) x.1 nh x.2.2.1 x.2.2.2)) = 4 from rfl]
  have S0 : g54_store_trace_l2_v1_step (l2z W w 0 a Z here (rz s il wl (w : Int) x.1 nh x.2.2.1 x.2.2.2)) = some (0, l2z W w 1 a Z here (rz s il wl (w : Int) x.1 nh x.2.2.1 x.2.2.2)) := by
    simp only [g54_store_trace_l2_v1_step, show decide ((0 : Int) < 3) = true from rfl, show decide ((0 : Int) = 0) = true from rfl, cond_true]
    rw [b2]
    rfl
  have S1 : g54_store_trace_l2_v1_step (l2z W w 1 a Z here (rz s il wl (w : Int) x.1 nh x.2.2.1 x.2.2.2)) = some (0, l2z W w 2 a Z here (rz s il wl (w : Int) x.1 nh x.2.2.1 x.2.2.2)) := by
    simp only [g54_store_trace_l2_v1_step, show decide ((1 : Int) < 3) = true from rfl, show decide ((1 : Int) = 0) = false from rfl, show decide ((1 : Int) = 1) = true from rfl, cond_true, cond_false]
    rw [c1]
    rfl
  have S2 : g54_store_trace_l2_v1_step (l2z W w 2 a Z here (rz s il wl (w : Int) x.1 nh x.2.2.1 x.2.2.2)) = some (0, l2z W w 3 a Z here (rz s il wl (w : Int) (weekM s il wl 0 x w).1 nh (weekM s il wl 0 x w).2.2.1 (weekM s il wl 0 x w).2.2.2)) := by
    simp only [g54_store_trace_l2_v1_step, show decide ((2 : Int) < 3) = true from rfl, show decide ((2 : Int) = 0) = false from rfl, show decide ((2 : Int) = 1) = false from rfl, show decide ((2 : Int) = 2) = true from rfl, cond_true, cond_false]
    rw [hd]
    simp only [weekM, landW_none h0]
    rfl
  rw [iter_one S0, iter_one S1, iter_one S2]
  rfl
abbrev l1z (W : Int) (w : Int) (a : E27) (Z : List (List Int) × List (List Int) × List (List Int) × Unit) (here : List Bool) (r : TY21) : TY45 := ((W, (w, ())), (a, (Z, (here, (r, ())))))
theorem weeksz_walk {s : E27} (hs : OkS s) (wf : WfS s) (h0 : shN s = 0) (il : List Bool) (hil : (il.length : Int) = s.2.2.2.2.1) {wl : List (List Int)} (hw : WinOk s wl) (a : E27) (Z : List (List Int) × List (List Int) × List (List Int) × Unit) (here : List Bool) (nh : Nat) :
    ∃ wk, g54_store_trace_l1_v1_run (l1z (wl.length : Int) 0 a Z here (rz s il wl 0 s.1 nh [] [])) =
        some (0, l1z (wl.length : Int) (wl.length : Int) a Z here (rz s il wl wk (runM s il wl 0 wl.length).1 nh (runM s il wl 0 wl.length).2.2.1 (runM s il wl 0 wl.length).2.2.2)) := by
  have hp : 0 < 2 ^ shN s := Nat.pow_pos (by decide)
  have hlen : wl.length ≤ 30 := by have := hs.weeks.2; have := hw.len; omega
  obtain ⟨q, h1, wk, b3⟩ := iter_inv (step := g54_store_trace_l1_v1_step) (k := 0) (n := wl.length)
    (fun j q => ∃ wk, q = l1z (wl.length : Int) (j : Int) a Z here (rz s il wl wk (runM s il wl 0 j).1 nh (runM s il wl 0 j).2.2.1 (runM s il wl 0 j).2.2.2))
    (fun q => ∃ wk, q = l1z (wl.length : Int) (wl.length : Int) a Z here (rz s il wl wk (runM s il wl 0 wl.length).1 nh (runM s il wl 0 wl.length).2.2.1 (runM s il wl 0 wl.length).2.2.2))
    (fun j q ⟨wk, c3⟩ hj => by
      subst c3
      have d3 := weekz_walk hs h0 il hil hw hj (run_inv hs wf il hw hp j (by omega)) (wl.length : Int) a Z here nh
      refine ⟨_, ?_, (j : Int), rfl⟩
      simp only [g54_store_trace_l1_v1_step, lt_int hj, cond_true]
      rw [d3]
      simp only [Option.bind_some, wr1 (i := j) (by omega)]
      rfl)
    (fun q ⟨wk, c3⟩ => by
      subst c3
      refine ⟨_, ?_, wk, rfl⟩
      simp only [g54_store_trace_l1_v1_step, nlt_int, cond_false])
    wl.length 0 (g54_store_trace_l1_v1_fuel (l1z (wl.length : Int) 0 a Z here (rz s il wl 0 s.1 nh [] [])))
    (l1z (wl.length : Int) 0 a Z here (rz s il wl 0 s.1 nh [] []))
    (by omega) (by simp [g54_store_trace_l1_v1_fuel, l1z]) ⟨0, rfl⟩
  subst b3
  exact ⟨wk, h1⟩
theorem runz_ld {s : E27} (h0 : shN s = 0) (il : List Bool) (wl : List (List Int)) : ∀ w, (runM s il wl 0 w).2.1 = []
  | 0 => by simp [runM, h0]
  | w + 1 => by
    simp only [runM, weekM, landW_none h0]
    exact runz_ld h0 il wl w

/-! ### The ships put aboard -/
abbrev l0s (l : List E39) (n k : Int) (a : E27) (Z : List (List Int) × List (List Int) × List (List Int) × Unit) (here : List Bool) (r : TY3) (e : E39) (ab ld : List (List Int)) : TY36 := ((l, (n, (k, ()))), (a, (Z, (here, (r, (e, (ab, (ld, ()))))))))
def abM (s : E27) (j : Nat) : List (List Int) := (s.2.2.2.2.2.1.take j).map fun x => x.2.1
theorem abM_len (s : E27) {j : Nat} (h : j ≤ shN s) : (abM s j).length = j := by
  unfold abM shN at *
  rw [List.length_map, List.length_take]; omega
theorem abM_succ (s : E27) {j : Nat} (h : j < shN s) : abM s (j + 1) = abM s j ++ [cg s j] := by
  unfold abM cg shN at *
  rw [List.take_add_one, List.getElem?_eq_getElem h, List.map_append, List.getD_eq_getElem?_getD, List.getElem?_eq_getElem h]
  rfl
theorem aboard_l0 (s : E27) (hn : shN s ≤ 6) (h0 : 0 < shN s) (a : E27) (Z : List (List Int) × List (List Int) × List (List Int) × Unit) (here : List Bool) (il : List Bool) (wl : List (List Int)) (p : Int) (e : E39) :
    g54_store_trace_l0_run (l0s s.2.2.2.2.2.1 (shN s : Int) 1 a Z here (rs s il wl p 0 s.1 1 [] (shN s) 1 [] []) e (abM s 1) (List.replicate 1 [0, 0, 0])) =
      some (0, l0s s.2.2.2.2.2.1 (shN s : Int) (shN s : Int) a Z here (rs s il wl p 0 s.1 (shN s) [] (shN s) (shN s) [] []) e (abM s (shN s)) (List.replicate (shN s) [0, 0, 0])) := by
  have K := iter_run (step := g54_store_trace_l0_step) (n := shN s - 1) (k := 0) (fuel := g54_store_trace_l0_fuel (l0s s.2.2.2.2.2.1 (shN s : Int) 1 a Z here (rs s il wl p 0 s.1 1 [] (shN s) 1 [] []) e (abM s 1) (List.replicate 1 [0, 0, 0])))
    (fun i => l0s s.2.2.2.2.2.1 (shN s : Int) ((i + 1 : Nat) : Int) a Z here (rs s il wl p 0 s.1 (i + 1) [] (shN s) (i + 1) [] []) e (abM s (i + 1)) (List.replicate (i + 1) [0, 0, 0]))
    (l0s s.2.2.2.2.2.1 (shN s : Int) (shN s : Int) a Z here (rs s il wl p 0 s.1 (shN s) [] (shN s) (shN s) [] []) e (abM s (shN s)) (List.replicate (shN s) [0, 0, 0]))
    (fun i hi => by
      have hi' : i + 1 < shN s := by omega
      have hi2 : i + 1 < s.2.2.2.2.2.1.length := hi'
      have a1 : decide (i + 1 = (abM s (i + 1)).length) = true := decide_eq_true (abM_len s (by omega)).symm
      have a2 : ∀ {β : Type} (x : β), decide ((abM s (i + 1)).length + [x].length ≤ LIM) = true := fun x => decide_eq_true (by rw [abM_len s (by omega)]; simp [LIM]; omega)
      have a3 : decide (i + 1 = (List.replicate (i + 1) [(0 : Int), 0, 0]).length) = true := decide_eq_true (by rw [List.length_replicate])
      have a4 : ∀ {β : Type} (x : β), decide ((List.replicate (i + 1) [(0 : Int), 0, 0]).length + [x].length ≤ LIM) = true := fun x => decide_eq_true (by rw [List.length_replicate]; simp [LIM]; omega)
      simp only [g54_store_trace_l0_step, lt_int hi', lt_int hi2, ge0, Bool.and_true, cond_true, getD_toNat, a1, a2, a3, a4, wr1 (i := i + 1) (by omega)]
      rw [abM_succ s hi', List.replicate_succ' (n := i + 1)]
      rfl)
    (by
      have e : shN s - 1 + 1 = shN s := by omega
      simp only [e, g54_store_trace_l0_step, nlt_int, cond_false])
    (by simp only [g54_store_trace_l0_fuel]; omega)
  exact K
theorem winOk {s : E27} (hs : OkS s) (wf : WfS s) {j : Nat} (hj : j < s.2.2.2.2.2.2.2.1.length) : WinOk s (s.2.2.2.2.2.2.2.1.getD j []) :=
  ⟨(hs.wins _ (getD_mem hj)).1, fun g hg => ((hs.wins _ (getD_mem hj)).2 g hg).b3 (wf.wins _ (getD_mem hj) g hg)⟩
def ice (s : E27) (i : Nat) : List Bool := s.2.2.2.2.2.2.1.getD i []
def win (s : E27) (j : Nat) : List (List Int) := s.2.2.2.2.2.2.2.1.getD j []
/-- What becomes of a store. -/
def traceM (s : E27) (p i j : Nat) : E33 := ((runM s (ice s i) (win s j) p (win s j).length).2.1, ((runM s (ice s i) (win s j) p (win s j).length).2.2.1, ((runM s (ice s i) (win s j) p (win s j).length).2.2.2, ())))
theorem trace54 {s : E27} (hs : OkS s) (wf : WfS s) {p : Nat} (hp : p < 2 ^ shN s) {i j : Nat} (hi : i < s.2.2.2.2.2.2.1.length) (hj : j < s.2.2.2.2.2.2.2.1.length) : g54_store_trace s (p : Int) (i : Int) (j : Int) = some (traceM s p i j) := by
  have hn : shN s ≤ 6 := by have := hs.nships; unfold shN; omega
  have hil : ((ice s i).length : Int) = s.2.2.2.2.1 := hs.ices _ (getD_mem hi)
  have hw : WinOk s (win s j) := winOk hs wf hj
  have hweeks : s.2.2.2.1 = ((win s j).length : Int) := hw.len.symm
  have e1 : decide ((s.2.2.2.2.2.1.length : Int) ≤ (LIM : Int)) = true := decide_eq_true (by
    have : s.2.2.2.2.2.1.length ≤ 6 := hn
    simp [LIM]; omega)
  unfold g54_store_trace
  simp only [lt_int hi, lt_int hj, ge0, Bool.and_true, Bool.true_and, decide_true, cond_true, getD_toNat, e1]
  by_cases h0 : shN s = 0
  · have h0' : s.2.2.2.2.2.1.length = 0 := h0
    have hp0 : p = 0 := by rw [h0] at hp; omega
    subst hp0
    obtain ⟨wk, h1⟩ := weeksz_walk hs wf h0 (ice s i) hil hw s ([], ([], ([], ()))) (List.replicate (Int.toNat (s.2.2.2.2.2.1.length : Int)) false) (Int.toNat (s.2.2.2.2.2.1.length : Int))
    rw [decide_eq_false (show ¬ ((0 : Int) < (s.2.2.2.2.2.1.length : Int)) by omega)]
    simp only [cond_false]
    rw [hweeks]
    have h1' : g54_store_trace_l1_v1_run (((((win s j).length : Nat) : Int), (0, ())), (s, (([], ([], ([], ()))), ((List.replicate (Int.toNat (s.2.2.2.2.2.1.length : Int)) false), ((s, ((s.2.2.2.2.2.2.1.getD i []), ((s.2.2.2.2.2.2.2.1.getD j []), (((0 : Nat) : Int), (0, (s.1, ([], (([], ()), ((Int.toNat (s.2.2.2.2.2.1.length : Int)), (([], ([], ([], ()))), ())))))))))), ()))))) = _ := h1
    rw [h1']
    simp only [Option.bind_some, traceM, runz_ld h0]
  · have h0' : 0 < s.2.2.2.2.2.1.length := Nat.pos_of_ne_zero h0
    have hab1 : [(s.2.2.2.2.2.1.getD (Int.toNat 0) (0, ((List.replicate 3 0), (0, ())))).2.1] = abM s 1 := by
      rw [abM_succ s (show 0 < shN s from h0')]; rfl
    have a1 : ∀ {β : Type} (x : β), (decide (0 < List.length [x]) && decide (List.length [x] ≤ LIM)) = true := fun x => by simp [LIM]
    rw [decide_eq_true (show ((0 : Int) < (s.2.2.2.2.2.1.length : Int)) by omega)]
    simp only [cond_true, a1, show decide (0 ≤ (0 : Int)) = true from rfl, Bool.true_and, hab1]
    have K0 := aboard_l0 s hn h0' s ([], ([], ([], ()))) (List.replicate (Int.toNat (s.2.2.2.2.2.1.length : Int)) false) (ice s i) (win s j) (p : Int) (s.2.2.2.2.2.1.getD (Int.toNat 0) (0, ((List.replicate 3 0), (0, ()))))
    have K0' : g54_store_trace_l0_run ((s.2.2.2.2.2.1, ((s.2.2.2.2.2.1.length : Int), ((IntKind.wrap .i64 ((0 : Int) + 1)), ()))), (s, (([], ([], ([], ()))), ((List.replicate (Int.toNat (s.2.2.2.2.2.1.length : Int)) false), ((s, ((s.2.2.2.2.2.2.1.getD i []), ((s.2.2.2.2.2.2.2.1.getD j []), ((p : Int), (0, (s.1, (1, (([], ()), ((Int.toNat (s.2.2.2.2.2.1.length : Int)), ((1, ([], ([], ()))), ())))))))))), ((s.2.2.2.2.2.1.getD (Int.toNat 0) (0, ((List.replicate 3 0), (0, ())))), (abM s 1, ([(0 :: (0 :: (0 :: [])))], ())))))))) = _ := K0
    have hh : HereOk s (ice s i) p 0 (List.replicate (Int.toNat (s.2.2.2.2.2.1.length : Int)) false) := ⟨by simp [shN], fun k hk => by
      rw [List.getD_eq_getElem?_getD, List.getElem?_replicate]
      simp only [openB, Bool.and_false]
      split <;> rfl⟩
    have ha : AbOk s (abM s (shN s)) (List.replicate (shN s) [0, 0, 0]) := ⟨abM_len s (Nat.le_refl _), fun k hk => by
      have hz : (List.replicate (shN s) [(0 : Int), 0, 0]).getD k z3 = [0, 0, 0] := by rw [List.getD_eq_getElem?_getD, List.getElem?_replicate, if_pos hk]; rfl
      rw [hz]
      have hc : (cg s k).length = 3 := wf.ships _ (getD_mem hk)
      have e : (abM s (shN s)).getD k z3 = cg s k := by
        unfold abM cg shN at *
        rw [List.take_length, List.getD_eq_getElem?_getD, List.getElem?_map, List.getD_eq_getElem?_getD, List.getElem?_eq_getElem hk]; rfl
      rw [e]
      obtain ⟨c0, c1, c2, hq⟩ := len3 hc
      rw [hq]; simp [sub3]⟩
    obtain ⟨here', wk, ab', h1⟩ := weeks_walk hs wf (ice s i) hil hw hp s ([], ([], ([], ()))) (s.2.2.2.2.2.1.getD (Int.toNat 0) (0, ((List.replicate 3 0), (0, ())))) _ hh _ ha
    have hR := run_inv hs wf (ice s i) hw hp (win s j).length (Nat.le_refl _)
    have hl1 : List.length (abM s 1) = 1 := abM_len s h0'
    rw [hl1]
    have K0'' := K0'
    rw [show (List.length [(0 :: (0 :: (0 :: ([] : List Nat))))]) = 1 from rfl, K0'']
    simp only [Option.bind_some]
    rw [hweeks]
    have h1' : g54_store_trace_l1_run (l1s (((win s j).length : Nat) : Int) 0 s ([], ([], ([], ()))) (List.replicate (Int.toNat (s.2.2.2.2.2.1.length : Int)) false) (rs s (ice s i) (win s j) (p : Int) 0 s.1 (shN s) [] (shN s) (shN s) [] []) (s.2.2.2.2.2.1.getD (Int.toNat 0) (0, ((List.replicate 3 0), (0, ())))) (abM s (shN s)) (List.replicate (shN s) [0, 0, 0])) = _ := h1
    rw [h1']
    simp only [Option.bind_some]
    have e5 : decide (shN s ≤ (runM s (ice s i) (win s j) p (win s j).length).2.1.length) = true := decide_eq_true (by rw [hR.len]; exact Nat.le_refl _)
    rw [e5]
    simp only [Bool.and_self, cond_true]
    rw [List.take_of_length_le (by rw [hR.len]; exact Nat.le_refl _)]
    rfl
end Go.Proofs.YtcijddeommognaaDoor.Abs

/-
  Plain laws of the store layer: the reference's run, first part: when ships arrive; the queue.
-/
set_option linter.unusedVariables false
set_option linter.unusedSimpArgs false
set_option maxRecDepth 100000
namespace Go.Proofs.YtcijddeommognaaDoor.Abs

theorem openB_iff (s : E27) (il : List Bool) (i : Nat) : ∀ w, openB s il i w = true ↔ ∃ v, v < w ∧ fr s i ≤ v ∧ opn s il v = true
  | 0 => by simp [openB]
  | w + 1 => by
    simp only [openB, Bool.or_eq_true, Bool.and_eq_true, decide_eq_true_eq, openB_iff s il i w]
    constructor
    · rintro (⟨v, h1, h2⟩ | ⟨h1, h2⟩)
      · exact ⟨v, by omega, h2⟩
      · exact ⟨w, by omega, h1, h2⟩
    · rintro ⟨v, h1, h2⟩
      by_cases e : v = w
      · subst e; exact .inr h2
      · exact .inl ⟨v, by omega, h2⟩
theorem openB_mono {s : E27} {il : List Bool} {i w w' : Nat} (h : w ≤ w') (ho : openB s il i w = true) : openB s il i w' = true := by
  obtain ⟨v, h1, h2⟩ := (openB_iff s il i w).1 ho
  exact (openB_iff s il i w').2 ⟨v, by omega, h2⟩
theorem arrB_open {s : E27} {il : List Bool} {i w : Nat} (h : arrB s il i w = true) : openB s il i (w + 1) = true ∧ openB s il i w = false := by
  unfold arrB at h
  simp only [Bool.and_eq_true, Bool.not_eq_true'] at h
  exact ⟨by simp [openB, h.2.1, h.2.2], h.1⟩
theorem arrB_uniq {s : E27} {il : List Bool} {i w w' : Nat} (h : arrB s il i w = true) (h' : arrB s il i w' = true) : w = w' := by
  obtain ⟨a, b⟩ := arrB_open h
  obtain ⟨c, d⟩ := arrB_open h'
  rcases Nat.lt_trichotomy w w' with k | k | k
  · rw [openB_mono (show w + 1 ≤ w' from k) a] at d; cases d
  · exact k
  · rw [openB_mono (show w' + 1 ≤ w from k) c] at b; cases b
theorem opn_eq (s : E27) (il : List Bool) (hil : (il.length : Int) = s.2.2.2.2.1) (w : Nat) : opn s il w = il.getD w false := by
  unfold opn
  by_cases h : w < il.length
  · rw [decide_eq_true (show (w : Int) < s.2.2.2.2.1 by omega)]; rfl
  · rw [decide_eq_false (show ¬ (w : Int) < s.2.2.2.2.1 by omega), List.getD_eq_getElem?_getD, List.getElem?_eq_none (by omega)]; rfl
/-- When a ship arrives. -/
def ArrIs (s : E27) (il : List Bool) (i : Nat) (a : Int) : Prop := (∃ w : Nat, w < il.length ∧ arrB s il i w = true ∧ a = (w : Int)) ∨ (openB s il i il.length = false ∧ a = -1)
theorem arrives23 {s : E27} (hs : OkS s) {i k : Nat} (hi : i < shN s) (hk : k < s.2.2.2.2.2.2.1.length) : ∃ a, g23_talikref06_Arrives s (i : Int) (k : Int) = some a ∧ ArrIs s (ice s k) i a := by
  have hil : ((ice s k).length : Int) = s.2.2.2.2.1 := hs.ices _ (getD_mem hk)
  obtain ⟨hl1, hl8⟩ := hs.land
  obtain ⟨hf0, hf1⟩ := (hs.ships _ (getD_mem (d := dShip) hi)).1
  have hfr : fr s i = (s.2.2.2.2.2.1.getD i dShip).1 := rfl
  rw [← hfr] at hf0 hf1
  obtain ⟨f, hf⟩ : ∃ f : Nat, fr s i = (f : Int) := ⟨(fr s i).toNat, by omega⟩
  have e0 : decide ((i : Int) < (s.2.2.2.2.2.1.length : Int)) = true := lt_int hi
  unfold g23_talikref06_Arrives
  simp only [e0, ge0, Bool.and_true, cond_true, getD_toNat]
  have e1 : (s.2.2.2.2.2.1.getD i (0, ((List.replicate 3 0), (0, ())))).1 = (f : Int) := hf
  rw [e1]
  by_cases hle : f ≤ (ice s k).length
  · rcases iter_fn' (step := g23_talikref06_Arrives_l0_step) (n := (ice s k).length) (k1 := 0) (k2 := 1) (bad := fun w => (ice s k).getD w false)
      (fun w => (((k : Int), (0, ((w : Int), ()))), (s, ()))) (fun w => (((k : Int), ((w : Int), ((w : Int), ()))), (s, ()))) (((k : Int), (0, (((ice s k).length : Int), ()))), (s, ()))
      (fun w hw => by
        have hw' : decide ((w : Int) < s.2.2.2.2.1) = true := decide_eq_true (by omega)
        have hw2 : decide ((w : Int) < ((s.2.2.2.2.2.2.1.getD k []).length : Int)) = true := lt_int hw
        simp only [g23_talikref06_Arrives_l0_step, hw', hw2, lt_int hk, ge0, Bool.and_true, cond_true, getD_toNat, wr1 (i := w) (by omega)]
        rw [show s.2.2.2.2.2.2.1.getD k [] = ice s k from rfl]
        cases (ice s k).getD w false <;> rfl)
      (by
        have hw' : decide ((((ice s k).length : Nat) : Int) < s.2.2.2.2.1) = false := decide_eq_false (by omega)
        simp only [g23_talikref06_Arrives_l0_step, hw', cond_false])
      ((ice s k).length - f) f (g23_talikref06_Arrives_l0_fuel (((k : Int), (0, ((f : Int), ()))), (s, ()))) (by omega) (by simp only [g23_talikref06_Arrives_l0_fuel]; omega) with ⟨j, a1, a2, a3, a4, a5⟩ | ⟨a4, a5⟩
    · have a5' : g23_talikref06_Arrives_l0_run (((k : Int), (0, ((f : Int), ()))), (s, ())) = _ := a5
      rw [a5']
      refine ⟨_, rfl, .inl ⟨j, a2, ?_, rfl⟩⟩
      have hno : openB s (ice s k) i j = false := by
        cases ho : openB s (ice s k) i j with
        | false => rfl
        | true =>
          obtain ⟨v, b1, b2, b3⟩ := (openB_iff _ _ _ _).1 ho
          rw [opn_eq s _ hil, a4 v (by omega) b1] at b3; cases b3
      unfold arrB
      rw [hno, opn_eq s _ hil, a3, decide_eq_true (show fr s i ≤ (j : Int) by omega)]; rfl
    · have a5' : g23_talikref06_Arrives_l0_run (((k : Int), (0, ((f : Int), ()))), (s, ())) = _ := a5
      rw [a5']
      refine ⟨_, rfl, .inr ⟨?_, rfl⟩⟩
      cases ho : openB s (ice s k) i (ice s k).length with
      | false => rfl
      | true =>
        obtain ⟨v, b1, b2, b3⟩ := (openB_iff _ _ _ _).1 ho
        rw [opn_eq s _ hil, a4 v (by omega) b1] at b3; cases b3
  · have hw' : decide ((f : Int) < s.2.2.2.2.1) = false := decide_eq_false (by omega)
    have h : g23_talikref06_Arrives_l0_run (((k : Int), (0, ((f : Int), ()))), (s, ())) = some (1, (((k : Int), (0, ((f : Int), ()))), (s, ()))) := by
      unfold g23_talikref06_Arrives_l0_run
      have : g23_talikref06_Arrives_l0_step (((k : Int), (0, ((f : Int), ()))), (s, ())) = some (1 + 1, (((k : Int), (0, ((f : Int), ()))), (s, ()))) := by
        simp only [g23_talikref06_Arrives_l0_step, hw', cond_false]
      exact iter_out this
    rw [h]
    refine ⟨_, rfl, .inr ⟨?_, rfl⟩⟩
    cases ho : openB s (ice s k) i (ice s k).length with
    | false => rfl
    | true =>
      obtain ⟨v, b1, b2, b3⟩ := (openB_iff _ _ _ _).1 ho
      omega
theorem ArrIs.eq_week {s : E27} {il : List Bool} {i : Nat} {a : Int} (h : ArrIs s il i a) {w : Nat} (hw : w < il.length) : (a == (w : Int)) = arrB s il i w := by
  rcases h with ⟨v, h1, h2, rfl⟩ | ⟨h1, rfl⟩
  · by_cases e : v = w
    · subst e; rw [h2]; simp
    · have : arrB s il i w = false := by
        cases hb : arrB s il i w with
        | false => rfl
        | true => exact absurd (arrB_uniq h2 hb) e
      rw [this]; simp; omega
  · have : arrB s il i w = false := by
      cases hb : arrB s il i w with
      | false => rfl
      | true => rw [openB_mono (show w + 1 ≤ il.length from hw) (arrB_open hb).1] at h1; cases h1
    rw [this]; simp
theorem ArrIs.gt_week {s : E27} {il : List Bool} {i : Nat} {a : Int} (h : ArrIs s il i a) (ho : openB s il i il.length = true) (w : Nat) : decide (a > (w : Int)) = !openB s il i (w + 1) := by
  rcases h with ⟨v, h1, h2, rfl⟩ | ⟨h1, rfl⟩
  · obtain ⟨b1, b2⟩ := arrB_open h2
    by_cases e : v ≤ w
    · rw [openB_mono (show v + 1 ≤ w + 1 by omega) b1, decide_eq_false (by omega)]; rfl
    · have : openB s il i (w + 1) = false := by
        cases hb : openB s il i (w + 1) with
        | false => rfl
        | true => rw [openB_mono (show w + 1 ≤ v by omega) hb] at b2; cases b2
      rw [this, decide_eq_true (by omega)]; rfl
  · rw [ho] at h1; cases h1

/-! ### The queue -/
theorem newQ_n (s : E27) (il : List Bool) {p : Nat} (hp : p < 2 ^ shN s) (w : Nat) : ∀ d, newQ s il p w (shN s + d) = newQ s il p w (shN s)
  | 0 => rfl
  | d + 1 => by
    rw [← Nat.add_assoc, newQ_succ, newQ_n s il hp w d]
    have : p.testBit (shN s + d) = false := by
      cases h : p.testBit (shN s + d) with
      | false => rfl
      | true => have := bit_lt hp h; omega
    rw [this]; simp
theorem queue_l1 {s : E27} (hs : OkS s) {k : Nat} (hk : k < s.2.2.2.2.2.2.1.length) {p : Nat} (hp : p < 2 ^ shN s) {w : Nat} (hw : w < (ice s k).length) (q : List Nat) (hq : q.length ≤ 1000) :
    g64_talikref06_Queue_l1_run (((p : Int), ((k : Int), (ints q, ((w : Int), (0, ()))))), (s, ())) = some (0, (((p : Int), ((k : Int), (ints (q ++ newQ s (ice s k) p w 6), ((w : Int), ((shN s : Int), ()))))), (s, ()))) := by
  have hn : shN s ≤ 6 := by have := hs.nships; unfold shN; omega
  have hp40 : p < 2 ^ 40 := Nat.lt_of_lt_of_le hp (Nat.pow_le_pow_right (by decide) (by omega))
  have e6 : newQ s (ice s k) p w 6 = newQ s (ice s k) p w (shN s) := by
    have := newQ_n s (ice s k) hp w (6 - shN s)
    rw [show shN s + (6 - shN s) = 6 by omega] at this; exact this
  have K := iter_run (step := g64_talikref06_Queue_l1_step) (n := shN s) (k := 0) (fuel := g64_talikref06_Queue_l1_fuel (((p : Int), ((k : Int), (ints q, ((w : Int), (0, ()))))), (s, ())))
    (fun i => (((p : Int), ((k : Int), (ints (q ++ newQ s (ice s k) p w i), ((w : Int), ((i : Int), ()))))), (s, ())))
    ((((p : Int), ((k : Int), (ints (q ++ newQ s (ice s k) p w 6), ((w : Int), ((shN s : Int), ()))))), (s, ())))
    (fun i hi => by
      have e0 : decide ((i : Int) < (s.2.2.2.2.2.1.length : Int)) = true := lt_int hi
      have hl := newQ_len s (ice s k) p w i
      have e1 : ∀ {β : Type} (x : β), decide ((ints (q ++ newQ s (ice s k) p w i)).length + [x].length ≤ LIM) = true := fun x => decide_eq_true (by rw [ints_len, List.length_append]; simp [LIM]; omega)
      simp only [g64_talikref06_Queue_l1_step, e0, cond_true, has22 p i hp40 (by omega), Option.bind_some, wr1 (i := i) (by omega)]
      rw [newQ_succ]
      cases hb : p.testBit i with
      | false => simp only [cond_false, Bool.false_and, List.append_nil]
      | true =>
        obtain ⟨a, h1, h2⟩ := arrives23 hs hi hk
        simp only [cond_true, h1, Option.bind_some, h2.eq_week hw, Bool.true_and, e1]
        cases arrB s (ice s k) i w with
        | false => simp only [cond_false, List.append_nil]
        | true => simp only [cond_true, ← List.append_assoc, ints_snoc])
    (by
      have e0 : decide ((shN s : Int) < (s.2.2.2.2.2.1.length : Int)) = false := nlt_int _
      simp only [g64_talikref06_Queue_l1_step, e0, cond_false, e6])
    (by simp only [g64_talikref06_Queue_l1_fuel, shN]; omega)
  rw [show newQ s (ice s k) p w 0 = [] from rfl, List.append_nil] at K
  exact K
theorem queue64 {s : E27} (hs : OkS s) {k : Nat} (hk : k < s.2.2.2.2.2.2.1.length) {p : Nat} (hp : p < 2 ^ shN s) : g64_talikref06_Queue s (p : Int) (k : Int) = some (ints (Qu s (ice s k) p (ice s k).length)) := by
  have hil : ((ice s k).length : Int) = s.2.2.2.2.1 := hs.ices _ (getD_mem hk)
  have hland := hs.land.2
  have K := iter_run (step := g64_talikref06_Queue_l0_step) (n := (ice s k).length) (k := 0) (fuel := g64_talikref06_Queue_l0_fuel (((p : Int), ((k : Int), ([], (0, ())))), (s, ())))
    (fun w => (((p : Int), ((k : Int), (ints (Qu s (ice s k) p w), ((w : Int), ())))), (s, ())))
    ((((p : Int), ((k : Int), (ints (Qu s (ice s k) p (ice s k).length), (((ice s k).length : Int), ())))), (s, ())))
    (fun w hw => by
      have e0 : decide ((w : Int) < s.2.2.2.2.1) = true := decide_eq_true (by omega)
      have := Qu_len s (ice s k) p w
      simp only [g64_talikref06_Queue_l0_step, e0, cond_true, queue_l1 hs hk hp hw _ (show (Qu s (ice s k) p w).length ≤ 1000 by omega), Option.bind_some, wr1 (i := w) (by omega)]
      rfl)
    (by
      have e0 : decide ((((ice s k).length : Nat) : Int) < s.2.2.2.2.1) = false := decide_eq_false (by omega)
      simp only [g64_talikref06_Queue_l0_step, e0, cond_false])
    (by simp only [g64_talikref06_Queue_l0_fuel]; omega)
  have K : g64_talikref06_Queue_l0_run (((p : Int), ((k : Int), ([], (0, ())))), (s, ())) = _ := K
  unfold g64_talikref06_Queue
  rw [K]; rfl
theorem Qu_open (s : E27) (il : List Bool) (p : Nat) : ∀ w, ∀ i ∈ Qu s il p w, openB s il i w = true
  | 0, i, h => by simp [Qu] at h
  | w + 1, i, h => by
    simp only [Qu, newQ, List.mem_append, List.mem_filter, Bool.and_eq_true] at h
    rcases h with h | h
    · exact openB_mono (by omega) (Qu_open s il p w i h)
    · exact (arrB_open h.2.2).1
theorem Qu_split (s : E27) (il : List Bool) (p w : Nat) : ∀ d, ∃ r, Qu s il p (w + d) = Qu s il p w ++ r ∧ ∀ i ∈ r, openB s il i w = false
  | 0 => ⟨[], by simp, by simp⟩
  | d + 1 => by
    obtain ⟨r, h1, h2⟩ := Qu_split s il p w d
    refine ⟨r ++ newQ s il p (w + d) 6, ?_, fun i hi => ?_⟩
    · rw [← Nat.add_assoc]
      simp only [Qu]
      rw [h1, List.append_assoc]
    · rcases List.mem_append.1 hi with hi | hi
      · exact h2 i hi
      · simp only [newQ, List.mem_filter, Bool.and_eq_true] at hi
        have := (arrB_open hi.2.2).2
        cases hb : openB s il i w with
        | false => rfl
        | true => rw [openB_mono (show w ≤ w + d by omega) hb] at this; cases this
end Go.Proofs.YtcijddeommognaaDoor.Abs

/-
  Plain laws of the store layer: the reference's run, second part.
-/
set_option linter.unusedVariables false
set_option linter.unusedSimpArgs false
set_option maxRecDepth 100000
namespace Go.Proofs.YtcijddeommognaaDoor.Abs

abbrev L2 := Int × (Int × (Bool × ((List (List Bool)) × (Int × ((List Bool) × ((List Bool) × (Int × (Bool × (Bool × Unit)))))))))
theorem ref_l2_step (s : E27) (a b : Int) (Q : List Int) (w n : Int) (T : L2) (Z : List (List Int) × List (List Int) × List (List Int) × Unit) (ld : List (List Int)) (N : Nat) (V : List (List Int) × List (List Int) × Unit) (yard : List Int) (left : Int) (i k : Nat) (hk : k < 3) (hi : i < shN s) (hN : i < N) (hld : i < ld.length) (m : Int)
    (hm : m = mm (IntKind.wrap .i64 ((cg s i).getD k 0 - (ld.getD i z3).getD k 0)) (IntKind.wrap .i64 (s.2.1.getD k 0 - yard.getD k 0)) left) :
    g38_talikref06_Run_l2_step ((a, (b, (Q, (w, (left, (n, ((i : Int), ((k : Int), T)))))))), (s, (Z, (ld, ((N, V), (yard, ())))))) =
      some (0, ((a, (b, (Q, (w, (IntKind.wrap .i64 (left - m), (n, ((i : Int), (((k + 1 : Nat) : Int), T)))))))), (s, (Z, (ld.set i ((ld.getD i z3).set k (IntKind.wrap .i64 ((ld.getD i z3).getD k 0 + m))), ((N, V), (yard.set k (IntKind.wrap .i64 (yard.getD k 0 + m)), ()))))))) := by
  have h3 := lt_int hk
  have hin : decide ((i : Int) < (s.2.2.2.2.2.1.length : Int)) = true := lt_int hi
  have hN' := lt_int hN
  have hab : decide (i < ld.length) = true := decide_eq_true hld
  have hw := wr1 (i := k) (by omega)
  subst hm
  simp only [g38_talikref06_Run_l2_step, show ((3 : Nat) : Int) = 3 from rfl, three_lt' hk, hin, hN', ge0, Bool.and_true, cond_true, Int.toNat_natCast, hab, hw, mm, z3, cg, dShip]
  rfl
theorem ref_l2_run (s : E27) (a b : Int) (Q : List Int) (w n : Int) (T : L2) (Z : List (List Int) × List (List Int) × List (List Int) × Unit) (N : Nat) (V : List (List Int) × List (List Int) × Unit) (x : LS) (hx : LInv s x) (hs : OkS s) (i : Nat) (hi : i < shN s) (hN : i < N) :
    g38_talikref06_Run_l2_run ((a, (b, (Q, (w, (x.1, (n, ((i : Int), (0, T)))))))), (s, (Z, (x.2.2, ((N, V), (x.2.1, ())))))) =
      some (0, ((a, (b, (Q, (w, ((landOne s x i).1, (n, ((i : Int), (3, T)))))))), (s, (Z, ((landOne s x i).2.2, ((N, V), ((landOne s x i).2.1, ()))))))) := by
  have hc := (hs.cg hi).le
  have hY := hs.yard.le
  have hld := hx.ld i hi
  have hi2 : i < x.2.2.length := by rw [hx.len]; exact hi
  have K := landM_ok hx hi
  obtain ⟨left, yard, ld⟩ := x
  obtain ⟨hY0, hY1, hY2⟩ := hY
  obtain ⟨hc0, hc1, hc2⟩ := hc
  have hl := hx.left
  have hy := hx.yard
  simp only at hl hy hld hi2 K
  simp only [landOne, landM, md]
  have e0 : md0 s.2.1 yard (sub3 (cg s i) (ld.getD i z3)) left = mm ((cg s i).getD 0 0 - (ld.getD i z3).getD 0 0) (s.2.1.getD 0 0 - yard.getD 0 0) left := rfl
  have e1 : md1 s.2.1 yard (sub3 (cg s i) (ld.getD i z3)) left = mm ((cg s i).getD 1 0 - (ld.getD i z3).getD 1 0) (s.2.1.getD 1 0 - yard.getD 1 0) (left - md0 s.2.1 yard (sub3 (cg s i) (ld.getD i z3)) left) := rfl
  have e2 : md2 s.2.1 yard (sub3 (cg s i) (ld.getD i z3)) left = mm ((cg s i).getD 2 0 - (ld.getD i z3).getD 2 0) (s.2.1.getD 2 0 - yard.getD 2 0) (left - md0 s.2.1 yard (sub3 (cg s i) (ld.getD i z3)) left - md1 s.2.1 yard (sub3 (cg s i) (ld.getD i z3)) left) := rfl
  obtain ⟨⟨p0, q0, r0⟩, ⟨p1, q1, r1⟩, ⟨p2, q2, r2⟩, l0, l1, l2⟩ := K
  generalize md0 s.2.1 yard (sub3 (cg s i) (ld.getD i z3)) left = m0 at *
  generalize md1 s.2.1 yard (sub3 (cg s i) (ld.getD i z3)) left = m1 at *
  generalize md2 s.2.1 yard (sub3 (cg s i) (ld.getD i z3)) left = m2 at *
  simp only [sub3, List.getD_cons_zero, List.getD_cons_succ] at q0 q1 q2
  obtain ⟨y0, y1, y2, rfl⟩ := len3 hy.len
  have hg : ∃ d0 d1 d2, ld.getD i z3 = [d0, d1, d2] := len3 hld.len
  obtain ⟨d0, d1, d2, hg⟩ := hg
  rw [hg] at hld e0 e1 e2 q0 q1 q2 ⊢
  have hy0 := hy.b0; have hy1 := hy.b1; have hy2 := hy.b2
  have hg0 := hld.b0; have hg1 := hld.b1; have hg2 := hld.b2
  simp only [List.getD_cons_zero, List.getD_cons_succ] at hy0 hy1 hy2 hg0 hg1 hg2 e0 e1 e2 q0 q1 q2 r0 r1 r2 ⊢
  have S0 := ref_l2_step s a b Q w n T Z ld N V [y0, y1, y2] left i 0 (by omega) hi hN hi2 m0 (by
    rw [hg, e0]; simp only [List.getD_cons_zero, List.getD_cons_succ]; rw [wr (by omega) (by omega), wr (by omega) (by omega)])
  have S1 := ref_l2_step s a b Q w n T Z (ld.set i [d0 + m0, d1, d2]) N V [y0 + m0, y1, y2] (left - m0) i 1 (by omega) hi hN (by simpa using hi2) m1 (by
    rw [getD_set_self hi2, e1]; simp only [List.getD_cons_zero, List.getD_cons_succ]; rw [wr (by omega) (by omega), wr (by omega) (by omega)])
  have S2 := ref_l2_step s a b Q w n T Z (ld.set i [d0 + m0, d1 + m1, d2]) N V [y0 + m0, y1 + m1, y2] (left - m0 - m1) i 2 (by omega) hi hN (by simpa using hi2) m2 (by
    rw [getD_set_self hi2, e2]; simp only [List.getD_cons_zero, List.getD_cons_succ]; rw [wr (by omega) (by omega), wr (by omega) (by omega)])
  rw [hg] at S0
  rw [getD_set_self hi2, List.set_set] at S1 S2
  simp only [List.getD_cons_zero, List.getD_cons_succ, List.set_cons_zero, List.set_cons_succ] at S0 S1 S2
  rw [wr (n := left - m0) (by omega) (by omega), wr (n := y0 + m0) (by omega) (by omega), wr (n := d0 + m0) (by omega) (by omega)] at S0
  rw [wr (n := left - m0 - m1) (by omega) (by omega), wr (n := y1 + m1) (by omega) (by omega), wr (n := d1 + m1) (by omega) (by omega)] at S1
  rw [wr (n := left - m0 - m1 - m2) (by omega) (by omega), wr (n := y2 + m2) (by omega) (by omega), wr (n := d2 + m2) (by omega) (by omega)] at S2
  unfold g38_talikref06_Run_l2_run
  rw [show g38_talikref06_Run_l2_fuel ((a, (b, (Q, (w, (left, (n, ((i : Int), (0, T)))))))), (s, (Z, (ld, ((N, V), ([y0, y1, y2], ())))))) = 4 from rfl]
  rw [show (0 : Int) = ((0 : Nat) : Int) from rfl] at *
  rw [iter_one S0, iter_one S1, iter_one S2]
  have e : left - m0 - m1 - m2 = left - sum3 [m0, m1, m2] := by simp [sum3]; omega
  rw [e]
  rfl
theorem foldl_skip {α β : Type} (f : α → β → α) (c : β → Bool) (q r : List β) (hq : ∀ i ∈ q, c i = true) (hr : ∀ i ∈ r, c i = false) (x : α) : (q ++ r).foldl (fun x i => bif c i then f x i else x) x = q.foldl f x := by
  induction q generalizing x with
  | nil =>
    simp only [List.nil_append, List.foldl_nil]
    induction r with
    | nil => rfl
    | cons i r ih =>
      simp only [List.foldl_cons, hr i (by simp), cond_false]
      exact ih fun j hj => hr j (by simp [hj])
  | cons i q ih =>
    simp only [List.cons_append, List.foldl_cons, hq i (by simp), cond_true]
    exact ih (fun j hj => hq j (by simp [hj])) _
/-- A ship of the queue, passed over if it has not come. -/
def skipOne (s : E27) (il : List Bool) (w : Nat) (x : LS) (i : Nat) : LS := bif openB s il i (w + 1) then landOne s x i else x
theorem skip_inv {s : E27} (il : List Bool) (w : Nat) : ∀ {x : LS} (h : LInv s x) (q : List Nat), (∀ i ∈ q, i < shN s) → LInv s (q.foldl (skipOne s il w) x)
  | x, h, [], _ => h
  | x, h, i :: q, hq => by
    refine skip_inv il w (x := skipOne s il w x i) ?_ q fun j hj => hq j (by simp [hj])
    unfold skipOne
    cases openB s il i (w + 1) with
    | true => exact landOne_inv h (hq i (by simp))
    | false => exact h
theorem ref_l1_run (s : E27) (hs : OkS s) {k : Nat} (hk : k < s.2.2.2.2.2.2.1.length) (b : Int) {p : Nat} (hp : p < 2 ^ shN s) {w : Nat} (hw100 : w ≤ 100) (Z : List (List Int) × List (List Int) × List (List Int) × Unit) (V : List (List Int) × List (List Int) × Unit) (x : WS) (hx : RInv s w x) :
    ∃ left n, g38_talikref06_Run_l1_run (((k : Int), (b, (ints (Qu s (ice s k) p (ice s k).length), ((w : Int), (s.2.2.1, (0, ())))))), (s, (Z, (x.2.1, ((shN s, V), (x.1, ())))))) =
      some (0, (((k : Int), (b, (ints (Qu s (ice s k) p (ice s k).length), ((w : Int), (left, (n, ())))))), (s, (Z, ((landW s (ice s k) p x w).2.2, ((shN s, V), ((landW s (ice s k) p x w).2.1, ()))))))) := by
  have hil : ((ice s k).length : Int) = s.2.2.2.2.1 := hs.ices _ (getD_mem hk)
  have hl8 : s.2.2.2.2.1 ≤ 8 := hs.land.2
  have hql := Qu_len s (ice s k) p (ice s k).length
  generalize hQ : Qu s (ice s k) p (ice s k).length = Q at *
  cases ho : opn s (ice s k) w with
  | false =>
    refine ⟨s.2.2.1, 0, ?_⟩
    have e : landW s (ice s k) p x w = (s.2.2.1, x.1, x.2.1) := by unfold landW; rw [ho]; rfl
    rw [e]
    unfold g38_talikref06_Run_l1_run
    have : g38_talikref06_Run_l1_step (((k : Int), (b, (ints Q, ((w : Int), (s.2.2.1, (0, ())))))), (s, (Z, (x.2.1, ((shN s, V), (x.1, ())))))) = some (0 + 1, (((k : Int), (b, (ints Q, ((w : Int), (s.2.2.1, (0, ())))))), (s, (Z, (x.2.1, ((shN s, V), (x.1, ()))))))) := by
      simp only [g38_talikref06_Run_l1_step, ints_len]
      cases h1 : decide ((0 : Int) < (Q.length : Int)) with
      | false => rfl
      | true =>
        by_cases h2 : w < (ice s k).length
        · have h2' : decide ((w : Int) < s.2.2.2.2.1) = true := decide_eq_true (by omega)
          have h3 : decide ((w : Int) < ((s.2.2.2.2.2.2.1.getD k []).length : Int)) = true := lt_int h2
          have h4 : (s.2.2.2.2.2.2.1.getD k []).getD w false = false := (opn_eq s (ice s k) hil w).symm.trans ho
          simp only [cond_true, h2', h3, lt_int hk, ge0, Bool.and_true, getD_toNat, Int.toNat_natCast, h4, cond_false]
        · have h2' : decide ((w : Int) < s.2.2.2.2.1) = false := decide_eq_false (by omega)
          simp only [cond_true, h2', cond_false]
    exact iter_out this
  | true =>
    have hopn := opn_eq s (ice s k) hil w
    rw [ho] at hopn
    have hwl : w < (ice s k).length := by
      apply Classical.byContradiction
      intro h
      rw [List.getD_eq_getElem?_getD, List.getElem?_eq_none (by omega)] at hopn; cases hopn
    have hlt : ∀ i ∈ Q, i < shN s := by rw [← hQ]; exact Qu_lt s _ hp _
    have hop : ∀ i ∈ Q, openB s (ice s k) i (ice s k).length = true := by rw [← hQ]; exact Qu_open s _ p _
    have h2' : decide ((w : Int) < s.2.2.2.2.1) = true := decide_eq_true (by omega)
    have h3 : decide ((w : Int) < ((s.2.2.2.2.2.2.1.getD k []).length : Int)) = true := lt_int hwl
    have h4 : (s.2.2.2.2.2.2.1.getD k []).getD w false = true := hopn.symm
    have K := iter_run (step := g38_talikref06_Run_l1_step) (n := Q.length) (k := 0) (fuel := g38_talikref06_Run_l1_fuel (((k : Int), (b, (ints Q, ((w : Int), (s.2.2.1, (0, ())))))), (s, (Z, (x.2.1, ((shN s, V), (x.1, ())))))))
      (fun j => (((k : Int), (b, (ints Q, ((w : Int), (((Q.take j).foldl (skipOne s (ice s k) w) (s.2.2.1, x.1, x.2.1)).1, ((j : Int), ())))))), (s, (Z, (((Q.take j).foldl (skipOne s (ice s k) w) (s.2.2.1, x.1, x.2.1)).2.2, ((shN s, V), (((Q.take j).foldl (skipOne s (ice s k) w) (s.2.2.1, x.1, x.2.1)).2.1, ())))))))
      (((k : Int), (b, (ints Q, ((w : Int), ((Q.foldl (skipOne s (ice s k) w) (s.2.2.1, x.1, x.2.1)).1, ((Q.length : Int), ())))))), (s, (Z, ((Q.foldl (skipOne s (ice s k) w) (s.2.2.1, x.1, x.2.1)).2.2, ((shN s, V), ((Q.foldl (skipOne s (ice s k) w) (s.2.2.1, x.1, x.2.1)).2.1, ()))))))
      (fun j hj => by
        have hI := skip_inv (ice s k) w (hx.linv hs) (Q.take j) fun i hi => hlt i (List.mem_of_mem_take hi)
        have hi := hlt _ (getD_mem (d := 0) hj)
        have e : (ints Q).getD j 0 = ((Q.getD j 0 : Nat) : Int) := by
          unfold ints; rw [List.getD_eq_getElem?_getD, List.getElem?_map, List.getD_eq_getElem?_getD, List.getElem?_eq_getElem hj]; rfl
        obtain ⟨a, a1, a2⟩ := arrives23 hs hi hk
        rw [foldl_take_succ (skipOne s (ice s k) w) _ hj 0]
        simp only [g38_talikref06_Run_l1_step, ints_len, lt_int hj, h2', h3, lt_int hk, ge0, Bool.and_true, cond_true, getD_toNat, Int.toNat_natCast, h4, e, a1, Option.bind_some, a2.gt_week (hop _ (getD_mem hj)) w]
        generalize (Q.take j).foldl (skipOne s (ice s k) w) (s.2.2.1, x.1, x.2.1) = y at *
        cases hO : openB s (ice s k) (Q.getD j 0) (w + 1) with
        | false =>
          simp only [skipOne, hO, Bool.not_false, cond_true, cond_false, wr1 (i := j) (by omega)]
        | true =>
          simp only [skipOne, hO, Bool.not_true, cond_true, cond_false]
          rw [ref_l2_run s (k : Int) b (ints Q) (w : Int) (j : Int) _ Z (shN s) V y hI hs (Q.getD j 0) hi hi]
          simp only [Option.bind_some, wr1 (i := j) (by omega)])
      (by simp only [g38_talikref06_Run_l1_step, ints_len, nlt_int, cond_false, List.take_length])
      (by simp only [g38_talikref06_Run_l1_fuel, ints_len]; omega)
    refine ⟨(Q.foldl (skipOne s (ice s k) w) (s.2.2.1, x.1, x.2.1)).1, (Q.length : Int), ?_⟩
    have e : landW s (ice s k) p x w = Q.foldl (skipOne s (ice s k) w) (s.2.2.1, x.1, x.2.1) := by
      unfold landW
      rw [ho]
      simp only [cond_true]
      obtain ⟨r, r1, r2⟩ := Qu_split s (ice s k) p (w + 1) ((ice s k).length - (w + 1))
      rw [show w + 1 + ((ice s k).length - (w + 1)) = (ice s k).length by omega, hQ] at r1
      rw [r1]
      exact (foldl_skip (landOne s) (fun i => openB s (ice s k) i (w + 1)) _ _ (fun i hi => Qu_open s _ p _ i hi) r2 _).symm
    rw [e]
    exact K
theorem ref_l3_step (s : E27) (a : Int) (j : Nat) (Q : List Int) (w : Nat) (Z : List (List Int) × List (List Int) × List (List Int) × Unit) (ld : List (List Int)) (V : Nat × List (List Int) × List (List Int) × Unit) (yard lk : List Int) (k : Nat) (hk : k < 3) (hj : j < s.2.2.2.2.2.2.2.1.length) (hw : w < (win s j).length) :
    g38_talikref06_Run_l3_step ((a, ((j : Int), (Q, ((w : Int), ((k : Int), ()))))), (s, (Z, (ld, (V, (yard, (lk, ()))))))) =
      some (0, ((a, ((j : Int), (Q, ((w : Int), (((k + 1 : Nat) : Int), ()))))), (s, (Z, (ld, (V, (yard.set k (mx (IntKind.wrap .i64 (yard.getD k 0 - ((win s j).getD w z3).getD k 0))), (lk.set k (mx (IntKind.wrap .i64 (((win s j).getD w z3).getD k 0 - yard.getD k 0))), ())))))))) := by
  have h3 := lt_int hk
  have hin : decide ((w : Int) < ((s.2.2.2.2.2.2.2.1.getD j []).length : Int)) = true := lt_int hw
  have hw := wr1 (i := k) (by omega)
  simp only [g38_talikref06_Run_l3_step, show ((3 : Nat) : Int) = 3 from rfl, three_lt' hk, hin, lt_int hj, ge0, Bool.and_true, cond_true, Int.toNat_natCast, getD_toNat, hw, mx, z3, win]
  rfl
theorem ref_l3_run (s : E27) (a : Int) (j : Nat) (Q : List Int) (w : Nat) (Z : List (List Int) × List (List Int) × List (List Int) × Unit) (ld : List (List Int)) (V : Nat × List (List Int) × List (List Int) × Unit) (yard : List Int) (hj : j < s.2.2.2.2.2.2.2.1.length) (hw : w < (win s j).length) (hy : B3 [1000, 1000, 1000] yard) (hn : B3 [1000, 1000, 1000] ((win s j).getD w z3)) :
    g38_talikref06_Run_l3_run ((a, ((j : Int), (Q, ((w : Int), (0, ()))))), (s, (Z, (ld, (V, (yard, ([0, 0, 0], ()))))))) =
      some (0, ((a, ((j : Int), (Q, ((w : Int), (3, ()))))), (s, (Z, (ld, (V, (restM yard ((win s j).getD w z3), (lackM yard ((win s j).getD w z3), ())))))))) := by
  obtain ⟨y0, y1, y2, rfl⟩ := len3 hy.len
  obtain ⟨a0, a1, a2, hz⟩ := len3 hn.len
  rw [hz] at hn
  have hy0 := hy.b0; have hy1 := hy.b1; have hy2 := hy.b2
  have hg0 := hn.b0; have hg1 := hn.b1; have hg2 := hn.b2
  simp only [List.getD_cons_zero, List.getD_cons_succ] at hy0 hy1 hy2 hg0 hg1 hg2
  have S0 := ref_l3_step s a j Q w Z ld V [y0, y1, y2] [0, 0, 0] 0 (by omega) hj hw
  have S1 := ref_l3_step s a j Q w Z ld V [mx (y0 - a0), y1, y2] [mx (a0 - y0), 0, 0] 1 (by omega) hj hw
  have S2 := ref_l3_step s a j Q w Z ld V [mx (y0 - a0), mx (y1 - a1), y2] [mx (a0 - y0), mx (a1 - y1), 0] 2 (by omega) hj hw
  rw [hz] at S0 S1 S2
  simp only [List.getD_cons_zero, List.getD_cons_succ, List.set_cons_zero, List.set_cons_succ] at S0 S1 S2
  rw [wr (n := y0 - a0) (by omega) (by omega), wr (n := a0 - y0) (by omega) (by omega)] at S0
  rw [wr (n := y1 - a1) (by omega) (by omega), wr (n := a1 - y1) (by omega) (by omega)] at S1
  rw [wr (n := y2 - a2) (by omega) (by omega), wr (n := a2 - y2) (by omega) (by omega)] at S2
  unfold g38_talikref06_Run_l3_run
  rw [show g38_talikref06_Run_l3_fuel ((a, ((j : Int), (Q, ((w : Int), (0, ()))))), (s, (Z, (ld, (V, ([y0, y1, y2], ([0, 0, 0], ()))))))) = 4 from rfl]
  rw [show (0 : Int) = ((0 : Nat) : Int) from rfl] at *
  rw [iter_one S0, iter_one S1, iter_one S2, hz]
  rfl
theorem run38 {s : E27} (hs : OkS s) (wf : WfS s) {p : Nat} (hp : p < 2 ^ shN s) {i j : Nat} (hi : i < s.2.2.2.2.2.2.1.length) (hj : j < s.2.2.2.2.2.2.2.1.length) : g38_talikref06_Run s (p : Int) (i : Int) (j : Int) = some (traceM s p i j) := by
  have hn : shN s ≤ 6 := by have := hs.nships; unfold shN; omega
  have hw : WinOk s (win s j) := winOk hs wf hj
  have hlen : (win s j).length ≤ 30 := by have := hs.weeks.2; have := hw.len; omega
  have hweeks : s.2.2.2.1 = ((win s j).length : Int) := hw.len.symm
  have e1 : decide ((s.2.2.2.2.2.1.length : Int) ≤ (LIM : Int)) = true := decide_eq_true (by
    have : s.2.2.2.2.2.1.length ≤ 6 := hn
    simp [LIM]; omega)
  have hR := fun w h => run_inv hs wf (ice s i) hw hp w h
  have K := iter_run (step := g38_talikref06_Run_l0_step) (n := (win s j).length) (k := 0) (fuel := g38_talikref06_Run_l0_fuel (((i : Int), ((j : Int), (ints (Qu s (ice s i) p (ice s i).length), (0, ())))), (s, (([], ([], ([], ()))), (List.replicate (shN s) z3, ((shN s, ([], ([], ()))), (s.1, ())))))))
    (fun w => (((i : Int), ((j : Int), (ints (Qu s (ice s i) p (ice s i).length), ((w : Int), ())))), (s, (([], ([], ([], ()))), ((runM s (ice s i) (win s j) p w).2.1, ((shN s, ((runM s (ice s i) (win s j) p w).2.2.1, ((runM s (ice s i) (win s j) p w).2.2.2, ()))), ((runM s (ice s i) (win s j) p w).1, ())))))))
    (((i : Int), ((j : Int), (ints (Qu s (ice s i) p (ice s i).length), (((win s j).length : Int), ())))), (s, (([], ([], ([], ()))), ((runM s (ice s i) (win s j) p (win s j).length).2.1, ((shN s, ((runM s (ice s i) (win s j) p (win s j).length).2.2.1, ((runM s (ice s i) (win s j) p (win s j).length).2.2.2, ()))), ((runM s (ice s i) (win s j) p (win s j).length).1, ()))))))
    (fun w hlt => by
      have hx := hR w (by omega)
      have h0 : decide ((w : Int) < s.2.2.2.1) = true := decide_eq_true (by omega)
      obtain ⟨left, n, b1⟩ := ref_l1_run s hs hi (j : Int) hp (show w ≤ 100 by omega) ([], ([], ([], ()))) ((runM s (ice s i) (win s j) p w).2.2.1, ((runM s (ice s i) (win s j) p w).2.2.2, ())) _ hx
      have L := landW_inv hs (ice s i) hp hx
      have b2 := ref_l3_run s (i : Int) j (ints (Qu s (ice s i) p (ice s i).length)) w ([], ([], ([], ()))) (landW s (ice s i) p (runM s (ice s i) (win s j) p w) w).2.2 (shN s, ((runM s (ice s i) (win s j) p w).2.2.1, ((runM s (ice s i) (win s j) p w).2.2.2, ()))) (landW s (ice s i) p (runM s (ice s i) (win s j) p w) w).2.1 hj hlt (b3_1000 L.yard hs.yard.le) (hw.ok _ (getD_mem hlt))
      have e3 : ∀ {β : Type} (x : β), decide ((runM s (ice s i) (win s j) p w).2.2.1.length + [x].length ≤ LIM) = true := fun x => decide_eq_true (by rw [hx.st]; simp [LIM]; omega)
      have e4 : ∀ {β : Type} (x : β), decide ((runM s (ice s i) (win s j) p w).2.2.2.length + [x].length ≤ LIM) = true := fun x => decide_eq_true (by rw [hx.la]; simp [LIM]; omega)
      simp only [g38_talikref06_Run_l0_step, h0, cond_true, b1, Option.bind_some, b2, e3, e4, wr1 (i := w) (by omega)]
      rfl)
    (by
      have h0 : decide ((((win s j).length : Nat) : Int) < s.2.2.2.1) = false := decide_eq_false (by omega)
      simp only [g38_talikref06_Run_l0_step, h0, cond_false])
    (by simp only [g38_talikref06_Run_l0_fuel]; omega)
  have K' : g38_talikref06_Run_l0_run (((i : Int), ((j : Int), (ints (Qu s (ice s i) p (ice s i).length), (0, ())))), (s, (([], ([], ([], ()))), ((List.replicate (Int.toNat (s.2.2.2.2.2.1.length : Int)) (List.replicate 3 0)), (((Int.toNat (s.2.2.2.2.2.1.length : Int)), ([], ([], ()))), (s.1, ())))))) = _ := K
  have e5 : decide (shN s ≤ (runM s (ice s i) (win s j) p (win s j).length).2.1.length) = true := decide_eq_true (by rw [(hR _ (Nat.le_refl _)).len]; exact Nat.le_refl _)
  unfold g38_talikref06_Run
  rw [queue64 hs hi hp]
  simp only [Option.bind_some, e1, show decide ((0 : Int) ≤ (s.2.2.2.2.2.1.length : Int)) = true from ge0 _, Bool.and_true, Bool.true_and, decide_true, cond_true, K', e5]
  rw [List.take_of_length_le (by rw [(hR _ (Nat.le_refl _)).len]; exact Nat.le_refl _)]
  rfl
end Go.Proofs.YtcijddeommognaaDoor.Abs

/-
  What the document's examples show.
-/
set_option maxRecDepth 1000000
namespace Go.Proofs.YtcijddeommognaaDoor.Abs
theorem known20 : g20_taliklaw06_known = some true := by kernel_rfl
end Go.Proofs.YtcijddeommognaaDoor.Abs

/-
  Plain laws of the store layer: what Run and Check answer; lists that are the same.
-/
set_option linter.unusedVariables false
set_option linter.unusedSimpArgs false
set_option maxRecDepth 100000
namespace Go.Proofs.YtcijddeommognaaDoor.Abs

open Classical in
theorem wf27 {s : E27} (h : wfD T27 s) : WfS s :=
  ⟨h.1.1, h.2.1.1, fun x hx => (h.2.2.2.2.2.1 x hx).2.1.1, fun l hl g hg => (h.2.2.2.2.2.2.2.1 l hl g hg).1⟩
theorem same_refl (l : List (List Int)) (hl : l.length < 2 ^ 40) : g50_talikref06_SameGoods l l = some true := by
  have K := iter_run (step := g50_talikref06_SameGoods_l0_step) (n := l.length) (k := 1) (fuel := g50_talikref06_SameGoods_l0_fuel ((l, (l, (false, (0, ())))), ()))
    (fun i => ((l, (l, (false, ((i : Int), ())))), ())) ((l, (l, (false, ((l.length : Int), ())))), ())
    (fun i hi => by
      have e : ((List.range' 0 3).all (fun e0 : Nat => ((l.getD i (List.replicate 3 0)).getD e0 0 == (l.getD i (List.replicate 3 0)).getD e0 0))) = true := by simp
      simp only [g50_talikref06_SameGoods_l0_step, lt_int hi, ge0, Bool.and_true, cond_true, getD_toNat, e, Bool.not_true, cond_false, wr1 (i := i) (by omega)])
    (by simp only [g50_talikref06_SameGoods_l0_step, nlt_int, cond_false]) (by simp [g50_talikref06_SameGoods_l0_fuel])
  have K : g50_talikref06_SameGoods_l0_run ((l, (l, (false, (0, ())))), ()) = _ := K
  unfold g50_talikref06_SameGoods
  rw [K]
  simp [natK]
theorem sameTrace_refl (x : E33) (h1 : x.1.length < 2 ^ 40) (h2 : x.2.1.length < 2 ^ 40) (h3 : x.2.2.1.length < 2 ^ 40) : g37_talikref06_SameTrace x x = some true := by
  unfold g37_talikref06_SameTrace
  rw [same_refl _ h1, same_refl _ h2, same_refl _ h3]; rfl
theorem in_lt {x : Int} {n : Nat} (h : In x 0 ((n : Int) - 1)) : ∃ k : Nat, x = (k : Int) ∧ k < n := ⟨x.toNat, by obtain ⟨a, b⟩ := h; omega, by obtain ⟨a, b⟩ := h; omega⟩
theorem lt_in {k n : Nat} (h : k < n) : In (k : Int) 0 ((n : Int) - 1) := ⟨by omega, by omega⟩
theorem okp_nat {s : E27} {p : Int} (h : OkP s p) : ∃ k : Nat, p = (k : Int) ∧ k < 2 ^ shN s := in_lt h
theorem nat_okp {s : E27} {p : Nat} (h : p < 2 ^ shN s) : OkP s (p : Int) := lt_in h
theorem ice18 (s : E27) (i : Int) : Tells (g18_taliklaw06_ice s i) (In i 0 ((s.2.2.2.2.2.2.1.length : Int) - 1)) := by
  unfold g18_taliklaw06_ice
  exact (tells_cond fun _ => tells_dec).iff ⟨fun h => ⟨h.1, by have := h.2; omega⟩, fun h => ⟨h.1, by have := h.2; omega⟩⟩
theorem winter19 (s : E27) (i : Int) : Tells (g19_taliklaw06_winter s i) (In i 0 ((s.2.2.2.2.2.2.2.1.length : Int) - 1)) := by
  unfold g19_taliklaw06_winter
  exact (tells_cond fun _ => tells_dec).iff ⟨fun h => ⟨h.1, by have := h.2; omega⟩, fun h => ⟨h.1, by have := h.2; omega⟩⟩
theorem ShortS.n10 {s : E27} (h : ShortS s) : s.2.2.2.2.2.1.length ≤ 10 := h.ships
theorem ShortW.n10 {s : E27} (h : ShortW s) : s.2.2.2.2.2.1.length ≤ 10 := h.ships
open Classical in
theorem check36 {s : E27} (h : ShortW s) : g36_store_Check s = some (if OkS s then 0 else 2) := by
  unfold g36_store_Check
  by_cases hk : OkS s
  · rw [(valid51 s h).val hk, if_pos hk]; rfl
  · rw [(valid51 s h).nval hk, if_neg hk]; rfl
def GoodIn (s : E27) (p i n : Int) : Prop := OkS s ∧ OkP s p ∧ In i 0 ((s.2.2.2.2.2.2.1.length : Int) - 1) ∧ In n 0 ((s.2.2.2.2.2.2.2.1.length : Int) - 1)
theorem run21_ok {s : E27} (h : ShortW s) (hs : OkS s) (wf : WfS s) {p i j : Nat} (hp : p < 2 ^ shN s) (hi : i < s.2.2.2.2.2.2.1.length) (hj : j < s.2.2.2.2.2.2.2.1.length) : g21_store_Run s (p : Int) (i : Int) (j : Int) = some (traceM s p i j, (0, ())) := by
  have e1 := h.nices; have e2 := h.nwin
  unfold g21_store_Run
  rw [(valid51 s h).val hs]
  simp only [Option.bind_some, Bool.not_true, cond_false]
  rw [(planned52 s h.n10 _).val (nat_okp hp)]
  simp only [Option.bind_some, Bool.not_true, cond_false]
  rw [wr (by omega) (by omega), (in53 _ _ _).val (lt_in hi)]
  simp only [Option.bind_some, Bool.not_true, cond_false]
  rw [wr (by omega) (by omega), (in53 _ _ _).val (lt_in hj)]
  simp only [Option.bind_some, Bool.not_true, cond_false, trace54 hs wf hp hi hj]
theorem run21_bad {s : E27} (h : ShortW s) {p i n : Int} (hb : ¬ GoodIn s p i n) : g21_store_Run s p i n = some (([], ([], ([], ()))), (2, ())) := by
  have e1 := h.nices; have e2 := h.nwin
  unfold g21_store_Run
  by_cases hs : OkS s
  · rw [(valid51 s h).val hs]
    simp only [Option.bind_some, Bool.not_true, cond_false]
    by_cases hp : OkP s p
    · rw [(planned52 s h.n10 _).val hp]
      simp only [Option.bind_some, Bool.not_true, cond_false]
      rw [wr (by omega) (by omega)]
      by_cases hi : In i 0 ((s.2.2.2.2.2.2.1.length : Int) - 1)
      · rw [(in53 _ _ _).val hi]
        simp only [Option.bind_some, Bool.not_true, cond_false]
        rw [wr (by omega) (by omega), (in53 _ _ _).nval (fun hn => hb ⟨hs, hp, hi, hn⟩)]
        rfl
      · rw [(in53 _ _ _).nval hi]; rfl
    · rw [(planned52 s h.n10 _).nval hp]; rfl
  · rw [(valid51 s h).nval hs]; rfl
theorem trace_lens {s : E27} (hs : OkS s) (wf : WfS s) {p i j : Nat} (hp : p < 2 ^ shN s) (hj : j < s.2.2.2.2.2.2.2.1.length) : (traceM s p i j).1.length = shN s ∧ (traceM s p i j).2.1.length = (win s j).length ∧ (traceM s p i j).2.2.1.length = (win s j).length := by
  have K := run_inv hs wf (ice s i) (winOk hs wf hj) hp (win s j).length (Nat.le_refl _)
  exact ⟨K.len, K.st, K.la⟩
theorem shN_le {s : E27} (hs : OkS s) : shN s ≤ 6 := by have := hs.nships; unfold shN; omega
theorem win_len {s : E27} (hs : OkS s) (wf : WfS s) {j : Nat} (hj : j < s.2.2.2.2.2.2.2.1.length) : ((win s j).length : Int) = s.2.2.2.1 ∧ (win s j).length ≤ 30 := by
  have h1 := (winOk hs wf hj).len
  have h2 := hs.weeks.2
  exact ⟨h1, by have : ((win s j).length : Int) = s.2.2.2.1 := h1; omega⟩
theorem sameTrace_run {s : E27} (hs : OkS s) (wf : WfS s) {p i j : Nat} (hp : p < 2 ^ shN s) (hj : j < s.2.2.2.2.2.2.2.1.length) : g37_talikref06_SameTrace (traceM s p i j) (traceM s p i j) = some true := by
  obtain ⟨h1, h2, h3⟩ := trace_lens hs wf (i := i) hp hj
  have := shN_le hs
  have := (win_len hs wf hj).2
  exact sameTrace_refl _ (by omega) (by omega) (by omega)
end Go.Proofs.YtcijddeommognaaDoor.Abs
