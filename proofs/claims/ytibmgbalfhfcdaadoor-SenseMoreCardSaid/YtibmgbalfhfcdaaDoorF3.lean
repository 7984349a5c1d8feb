import Derived.Test.YtibmgbalfhfcdaaDoorF2
set_option linter.unusedVariables false
set_option maxRecDepth 100000
namespace Go.Proofs.YtibmgbalfhfcdaaDoor.Abs
open Go.Shelf Go.Sort
noncomputable def G56_C : CalT := tabC [G60_E]
theorem G56_CV : CV Tryd.prog G56_C := tabC_valid (l := _) ⟨G60_valid, trivial⟩
noncomputable def G56_l0_c : Code := loopAt (bodyOf Tryd.f56) 0
noncomputable def G56_l0_S : SPat := ⟨[.dat (.list (.int .i64)), .dat (.int .i64), .any, .any, .dat .bool, .dat (.int .i64), .any, .any, .any, .any, .any, .any, .any, .any, .any, .any, .any, .any, .any, .any, .any, .any, .any, .any, .any, .any, .any, .any, .any, .any, .any, .any, .any, .any, .any, .any], [], 0⟩
noncomputable def G56_l0_step (s : (((List Int) × (Int × (Bool × (Int × Unit)))) × Unit)) : Option (Nat × (((List Int) × (Int × (Bool × (Int × Unit)))) × Unit)) :=
  (bif (decide (s.1.2.2.2.1 < (List.length s.1.1 : Int))) then
  (bif (decide (0 ≤ s.1.2.2.2.1) && decide (s.1.2.2.2.1 < (List.length s.1.1 : Int))) then
    (Option.bind (G60 (List.getD s.1.1 (Int.toNat s.1.2.2.2.1) 0) 0 (IntKind.wrap .i64 (s.1.2.1 - 1))) fun r1 =>
      (bif (!r1) then
        some (1, ((s.1.1, (s.1.2.1, (false, (s.1.2.2.2.1, ())))), ()))
        else
        (bif (decide (s.1.2.2.2.1 > 0)) then
          (bif (decide (0 ≤ s.1.2.2.2.1) && decide (s.1.2.2.2.1 < (List.length s.1.1 : Int))) then
            (bif (decide (0 ≤ (IntKind.wrap .i64 (s.1.2.2.2.1 - 1))) && decide ((IntKind.wrap .i64 (s.1.2.2.2.1 - 1)) < (List.length s.1.1 : Int))) then
              (bif (decide ((List.getD s.1.1 (Int.toNat s.1.2.2.2.1) 0) ≤ (List.getD s.1.1 (Int.toNat (IntKind.wrap .i64 (s.1.2.2.2.1 - 1))) 0))) then
                some (1, ((s.1.1, (s.1.2.1, (false, (s.1.2.2.2.1, ())))), ()))
                else
                some (0, ((s.1.1, (s.1.2.1, (s.1.2.2.1, ((IntKind.wrap .i64 (s.1.2.2.2.1 + 1)), ())))), ())))
              else
              none)
            else
            none)
          else
          some (0, ((s.1.1, (s.1.2.1, (s.1.2.2.1, ((IntKind.wrap .i64 (s.1.2.2.2.1 + 1)), ())))), ())))))
    else
    none)
  else
  some (2, ((s.1.1, (s.1.2.1, (s.1.2.2.1, (s.1.2.2.2.1, ())))), ())))
noncomputable def G56_l0_fuel (s : (((List Int) × (Int × (Bool × (Int × Unit)))) × Unit)) : Nat := Int.toNat ((List.length s.1.1 : Int) - s.1.2.2.2.1) + 1
noncomputable def G56_l0_run (s : (((List Int) × (Int × (Bool × (Int × Unit)))) × Unit)) : Option (Nat × (((List Int) × (Int × (Bool × (Int × Unit)))) × Unit)) := iter G56_l0_step (G56_l0_fuel s) s
noncomputable def G56_l0_L : LoopT := loopT G56_l0_S [.ret, .exit 0] G56_l0_run
noncomputable def G56 (a0 : (List Int)) (a1 : Int) : Option Bool :=
  (Option.bind (G56_l0_run ((a0, (a1, (false, (0, ())))), ())) fun q2 =>
  (natK q2.1
    (some q2.2.1.2.2.1)
    (fun _ => some true)))
noncomputable def G56_E : CEnt := pureE 56 [.dat (.list (.int .i64)), .dat (.int .i64)] (.dat .bool) fun x => G56 x.1 x.2.1
theorem G56_l0_V : LValid 0 Tryd.prog (.loop G56_l0_c) G56_l0_L false := by
  exact loopT_valid (fuel := G56_l0_fuel) mixed G56_CV (lvNil _) (by kernel_rfl) (by decide) rfl (by intro s; kernel_rfl) (fun s r h => h)
theorem G56_LV : LV 0 Tryd.prog false (loopsOf (bodyOf Tryd.f56)) [G56_l0_L] := by
  have hl : loopsOf (bodyOf Tryd.f56) = [.loop G56_l0_c] := by kernel_rfl
  rw [hl]; exact ⟨G56_l0_V, trivial⟩
theorem G56_ent : Ent Tryd.prog 56 := ⟨by decide, enters_of Tryd.func56 (by kernel_rfl) rfl⟩
theorem G56_hev : ∀ x, fnR Tryd.prog G56_C [G56_l0_L] Tryd.f56 (bodyOf Tryd.f56) (encs [.dat (.list (.int .i64)), .dat (.int .i64)] x) ⟨[], [], 0⟩ (frzF (.dat .bool)) = G56 x.1 x.2.1 := by
  intro x; kernel_rfl
theorem G56_valid : G56_E.Valid Tryd.prog :=
  pureE_valid (by kernel_rfl) (by kernel_rfl) G56_ent (frz_lcall mixed Tryd.func56 rfl G56_ent G56_CV G56_LV (by kernel_rfl) (by kernel_rfl) G56_hev)
noncomputable def G18_C : CalT := tabC [G56_E]
theorem G18_CV : CV Tryd.prog G18_C := tabC_valid (l := _) ⟨G56_valid, trivial⟩
noncomputable def G18 (a0 : E23) (a1 : E26) : Option Bool :=
  (Option.bind (G56 a1.1 (List.length a0.2.2.2.2.1 : Int)) fun r1 =>
  (bif r1 then
    (Option.bind (G56 a1.2.1 a0.2.2.2.1) fun r2 =>
      some r2)
    else
    some false))
noncomputable def G18_E : CEnt := pureE 18 [.dat T23, .dat T26] (.dat .bool) fun x => G18 x.1 x.2.1
theorem G18_LV : LV 0 Tryd.prog false (loopsOf (bodyOf Tryd.f18)) [] := by unfold LV; cases loopsOf (bodyOf Tryd.f18) <;> trivial
theorem G18_ent : Ent Tryd.prog 18 := ⟨by decide, enters_of Tryd.func18 (by kernel_rfl) rfl⟩
theorem G18_hev : ∀ x, fnR Tryd.prog G18_C [] Tryd.f18 (bodyOf Tryd.f18) (encs [.dat T23, .dat T26] x) ⟨[], [], 0⟩ (frzF (.dat .bool)) = G18 x.1 x.2.1 := by
  intro x; kernel_rfl
theorem G18_valid : G18_E.Valid Tryd.prog :=
  pureE_valid (by kernel_rfl) (by kernel_rfl) G18_ent (frz_lcall mixed Tryd.func18 rfl G18_ent G18_CV G18_LV (by kernel_rfl) (by kernel_rfl) G18_hev)
noncomputable def G29_C : CalT := tabC []
theorem G29_CV : CV Tryd.prog G29_C := tabC_valid (l := _) trivial
noncomputable def G29_l0_c : Code := loopAt (bodyOf Tryd.f29) 0
noncomputable def G29_l0_S : SPat := ⟨[.dat (.list (.int .i64)), .dat (.int .i64), .any, .any, .dat .bool, .dat (.int .i64), .any, .any, .any, .any, .any, .any, .any, .any, .any, .any, .any, .any], [], 0⟩
noncomputable def G29_l0_step (s : (((List Int) × (Int × (Bool × (Int × Unit)))) × Unit)) : Option (Nat × (((List Int) × (Int × (Bool × (Int × Unit)))) × Unit)) :=
  (bif (decide (s.1.2.2.2.1 < (List.length s.1.1 : Int))) then
  (bif (decide (0 ≤ s.1.2.2.2.1) && decide (s.1.2.2.2.1 < (List.length s.1.1 : Int))) then
    (bif ((List.getD s.1.1 (Int.toNat s.1.2.2.2.1) 0) == s.1.2.1) then
      some (1, ((s.1.1, (s.1.2.1, (true, (s.1.2.2.2.1, ())))), ()))
      else
      some (0, ((s.1.1, (s.1.2.1, (s.1.2.2.1, ((IntKind.wrap .i64 (s.1.2.2.2.1 + 1)), ())))), ())))
    else
    none)
  else
  some (2, ((s.1.1, (s.1.2.1, (s.1.2.2.1, (s.1.2.2.2.1, ())))), ())))
noncomputable def G29_l0_fuel (s : (((List Int) × (Int × (Bool × (Int × Unit)))) × Unit)) : Nat := Int.toNat ((List.length s.1.1 : Int) - s.1.2.2.2.1) + 1
noncomputable def G29_l0_run (s : (((List Int) × (Int × (Bool × (Int × Unit)))) × Unit)) : Option (Nat × (((List Int) × (Int × (Bool × (Int × Unit)))) × Unit)) := iter G29_l0_step (G29_l0_fuel s) s
noncomputable def G29_l0_L : LoopT := loopT G29_l0_S [.ret, .exit 0] G29_l0_run
noncomputable def G29 (a0 : (List Int)) (a1 : Int) : Option Bool :=
  (Option.bind (G29_l0_run ((a0, (a1, (false, (0, ())))), ())) fun q1 =>
  (natK q1.1
    (some q1.2.1.2.2.1)
    (fun _ => some false)))
noncomputable def G29_E : CEnt := pureE 29 [.dat (.list (.int .i64)), .dat (.int .i64)] (.dat .bool) fun x => G29 x.1 x.2.1
theorem G29_l0_V : LValid 0 Tryd.prog (.loop G29_l0_c) G29_l0_L false := by
  exact loopT_valid (fuel := G29_l0_fuel) mixed G29_CV (lvNil _) (by kernel_rfl) (by decide) rfl (by intro s; kernel_rfl) (fun s r h => h)
theorem G29_LV : LV 0 Tryd.prog false (loopsOf (bodyOf Tryd.f29)) [G29_l0_L] := by
  have hl : loopsOf (bodyOf Tryd.f29) = [.loop G29_l0_c] := by kernel_rfl
  rw [hl]; exact ⟨G29_l0_V, trivial⟩
theorem G29_ent : Ent Tryd.prog 29 := ⟨by decide, enters_of Tryd.func29 (by kernel_rfl) rfl⟩
theorem G29_hev : ∀ x, fnR Tryd.prog G29_C [G29_l0_L] Tryd.f29 (bodyOf Tryd.f29) (encs [.dat (.list (.int .i64)), .dat (.int .i64)] x) ⟨[], [], 0⟩ (frzF (.dat .bool)) = G29 x.1 x.2.1 := by
  intro x; kernel_rfl
theorem G29_valid : G29_E.Valid Tryd.prog :=
  pureE_valid (by kernel_rfl) (by kernel_rfl) G29_ent (frz_lcall mixed Tryd.func29 rfl G29_ent G29_CV G29_LV (by kernel_rfl) (by kernel_rfl) G29_hev)
noncomputable def G23_C : CalT := tabC []
theorem G23_CV : CV Tryd.prog G23_C := tabC_valid (l := _) trivial
noncomputable def G23 (a0 : E23) : Option Int :=
  some (IntKind.wrap .i64 ((List.length a0.2.2.2.2.1 : Int) + a0.2.2.2.1))
noncomputable def G23_E : CEnt := pureE 23 [.dat T23] (.dat (.int .i64)) fun x => G23 x.1
theorem G23_LV : LV 0 Tryd.prog false (loopsOf (bodyOf Tryd.f23)) [] := by unfold LV; cases loopsOf (bodyOf Tryd.f23) <;> trivial
theorem G23_ent : Ent Tryd.prog 23 := ⟨by decide, enters_of Tryd.func23 (by kernel_rfl) rfl⟩
theorem G23_hev : ∀ x, fnR Tryd.prog G23_C [] Tryd.f23 (bodyOf Tryd.f23) (encs [.dat T23] x) ⟨[], [], 0⟩ (frzF (.dat (.int .i64))) = G23 x.1 := by
  intro x; kernel_rfl
theorem G23_valid : G23_E.Valid Tryd.prog :=
  pureE_valid (by kernel_rfl) (by kernel_rfl) G23_ent (frz_lcall mixed Tryd.func23 rfl G23_ent G23_CV G23_LV (by kernel_rfl) (by kernel_rfl) G23_hev)
end Go.Proofs.YtibmgbalfhfcdaaDoor.Abs
set_option linter.unusedVariables false
set_option maxRecDepth 100000
namespace Go.Proofs.YtibmgbalfhfcdaaDoor.Abs
open Go.Shelf Go.Sort
end Go.Proofs.YtibmgbalfhfcdaaDoor.Abs
