import Derived.Test.YtibmgbalfhfcdaaDoorF2
set_option linter.unusedVariables false
set_option maxRecDepth 100000
namespace Go.Proofs.YtibmgbalfhfcdaaDoor.Abs
open Go.Shelf Go.Sort
noncomputable def G56_C : CalT := tabC [G60_E]
theorem G56_CV : CV Tryd.prog G56_C := tabC_valid (l := _) ⟨G60_valid, trivial⟩
noncomputable def G56_l0_c : Code := loopAt (bodyOf Tryd.f56) 0
noncomputable def G56_l0_S : SPat := ⟨[.dat (.list (.int .i64)), .dat (.int .i64), .any, .any, .dat .bool, .dat (.int .i64), .any, .any, .any, .any, .any, .any, .any, .any, .any, .any, .any, .any, .any, .any, .any, .any, .any, .any, .any, .any, .any, .any, .any, .any, .any, .any, .any, .any, .any, .any], [], 0⟩
noncomputable def G56_l0_step (s : (((List Int) × (Int × (Bool × (Int × Unit)))) × Unit)) : Option (Nat × (((List Int) × (Int × (Bool × (Int × Unit)))) × Unit)) :=
  (bif (decide (s.1.2.2.2.1 < (List.length s.1.1 : Int))) then
  (bif (decide (0 ≤ s.1.2.2.2.1) && decide (s.1.2.2.2.1 < (List.length s.1.1 : Int))) then
    (Option.bind (G60 (List.getD s.1.1 (Int.toNat s.1.2.2.2.1) 0) 0 (IntKind.wrap .i64 (s.1.2.1 - 1))) fun r1 =>
      (bif (!r1) then
        some (1, ((s.1.1, (s.1.2.1, (false, (s.1.2.2.2.1, ())))), ()))
        else
        (bif (decide (s.1.2.2.2.1 > 0)) then
          (bif (decide (0 ≤ s.1.2.2.2.1) && decide (s.1.2.2.2.1 < (List.length s.1.1 : Int))) then
            (bif (decide (0 ≤ (IntKind.wrap .i64 (s.1.2.2.2.1 - 1))) && decide ((IntKind.wrap .i64 (s.1.2.2.2.1 - 1)) < (List.length s.1.1 : Int))) then
              (bif (decide ((List.getD s.1.1 (Int.toNat s.1.2.2.2.1) 0) ≤ (List.getD s.1.1 (Int.toNat (IntKind.wrap .i64 (s.1.2.2.2.1 - 1))) 0))) then
                some (1, ((s.1.1, (s.1.2.1, (false, (s.1.2.2.2.1, ())))), ()))
                else
                some (0, ((s.1.1, (s.1.2.1, (s.1.2.2.1, ((IntKind.wrap .i64 (s.1.2.2.2.1 + 1)), ())))), ())))
              else
              none)
            else
            none)
          else
          some (0, ((s.1.1, (s.1.2.1, (s.1.2.2.1, ((IntKind.wrap .i64 (s.1.2.2.2.1 + 1)), ())))), ())))))
    else
    none)
  else
  some (2, ((s.1.1, (s.1.2.1, (s.1.2.2.1, (s.1.2.2.2.1, ())))), ())))
noncomputable def G56_l0_fuel (s : (((List Int) × (Int × (Bool × (Int × Unit)))) × Unit)) : Nat := Int.toNat ((List.length s.1.1 : Int) - s.1.2.2.2.1) + 1
noncomputable def G56_l0_run (s : (((List Int) × (Int × (Bool × (Int × Unit)))) × Unit)) : Option (Nat × (((List Int) × (Int × (Bool × (Int × Unit)))) × Unit)) := iter G56_l0_step (G56_l0_fuel s) s
noncomputable def G56_l0_L : LoopT := loopT G56_l0_S [.ret, .exit 0] G56_l0_run
noncomputable def G56 (a0 : (List Int)) (a1 : Int) : Option Bool :=
  (Option.bind (G56_l0_run ((a0, (a1, (false, (0, ())))), ())) fun q2 =>
  (natK q2.1
    (some q2.2.1.2.2.1)
    (fun _ => some true)))
noncomputable def G56_E : CEnt := pureE 56 [.dat (.list (.int .i64)), .dat (.int .i64)] (.dat .bool) fun x => G56 x.1 x.2.1
theorem G56_l0_V : LValid 0 Tryd.prog (.loop G56_l0_c) G56_l0_L false := by
  exact loopT_valid (fuel := G56_l0_fuel) mixed G56_CV (lvNil _) (by kernel_rfl) (by decide) rfl (by intro s; kernel_rfl) (fun s r h => h)
theorem G56_LV : LV 0 Tryd.prog false (loopsOf (bodyOf Tryd.f56)) [G56_l0_L] := by
  have hl : loopsOf (bodyOf Tryd.f56) = [.loop G56_l0_c] := by kernel_rfl
  rw [hl]; exact ⟨G56_l0_V, trivial⟩
theorem G56_ent : Ent Tryd.prog 56 := ⟨by decide, enters_of Tryd.func56 (by kernel_rfl) rfl⟩
theorem G56_hev : ∀ x, fnR Tryd.prog G56_C [G56_l0_L] Tryd.f56 (bodyOf Tryd.f56) (encs [.dat (.list (.int .i64)), .dat (.int .i64)] x) ⟨[], [], 0⟩ (frzF (.dat .bool)) = G56 x.1 x.2.1 := by
  intro x; kernel_rfl
theorem G56_valid : G56_E.Valid Tryd.prog :=
  pureE_valid (by kernel_rfl) (by kernel_rfl) G56_ent (frz_lcall mixed Tryd.func56 rfl G56_ent G56_CV G56_LV (by kernel_rfl) (by kernel_rfl) G56_hev)
noncomputable def G18_C : CalT := tabC [G56_E]
theorem G18_CV : CV Tryd.prog G18_C := tabC_valid (l := _) ⟨G56_valid, trivial⟩
noncomputable def G18 (a0 : E23) (a1 : E26) : Option Bool :=
  (Option.bind (G56 a1.1 (List.length a0.2.2.2.2.1 : Int)) fun r1 =>
  (bif r1 then
    (Option.bind (G56 a1.2.1 a0.2.2.2.1) fun r2 =>
      some r2)
    else
    some false))
noncomputable def G18_E : CEnt := pureE 18 [.dat T23, .dat T26] (.dat .bool) fun x => G18 x.1 x.2.1
theorem G18_LV : LV 0 Tryd.prog false (loopsOf (bodyOf Tryd.f18)) [] := by unfold LV; cases loopsOf (bodyOf Tryd.f18) <;> trivial
theorem G18_ent : Ent Tryd.prog 18 := ⟨by decide, enters_of Tryd.func18 (by kernel_rfl) rfl⟩
theorem G18_hev : ∀ x, fnR Tryd.prog G18_C [] Tryd.f18 (bodyOf Tryd.f18) (encs [.dat T23, .dat T26] x) ⟨[], [], 0⟩ (frzF (.dat .bool)) = G18 x.1 x.2.1 := by
  intro x; kernel_rfl
theorem G18_valid : G18_E.Valid Tryd.prog :=
  pureE_valid (by kernel_rfl) (by kernel_rfl) G18_ent (frz_lcall mixed Tryd.func18 rfl G18_ent G18_CV G18_LV (by kernel_rfl) (by kernel_rfl) G18_hev)
noncomputable def G29_C : CalT := tabC []
theorem G29_CV : CV Tryd.prog G29_C := tabC_valid (l := _) trivial
noncomputable def G29_l0_c : Code := loopAt (bodyOf Tryd.f29) 0
noncomputable def G29_l0_S : SPat := ⟨[.dat (.list (.int .i64)), .dat (.int .i64), .any, .any, .dat .bool, .dat (.int .i64), .any, .any, .any, .any, .any, .any, .any, .any, .any, .any, .any, .any], [], 0⟩
noncomputable def G29_l0_step (s : (((List Int) × (Int × (Bool × (Int × Unit)))) × Unit)) : Option (Nat × (((List Int) × (Int × (Bool × (Int × Unit)))) × Unit)) :=
  (bif (decide (s.1.2.2.2.1 < (List.length s.1.1 : Int))) then
  (bif (decide (0 ≤ s.1.2.2.2.1) && decide (s.1.2.2.2.1 < (List.length s.1.1 : Int))) then
    (bif ((List.getD s.1.1 (Int.toNat s.1.2.2.2.1) 0) == s.1.2.1) then
      some (1, ((s.1.1, (s.1.2.1, (true, (s.1.2.2.2.1, ())))), ()))
      else
      some (0, ((s.1.1, (s.1.2.1, (s.1.2.2.1, ((IntKind.wrap .i64 (s.1.2.2.2.1 + 1)), ())))), ())))
    else
    none)
  else
  some (2, ((s.1.1, (s.1.2.1, (s.1.2.2.1, (s.1.2.2.2.1, ())))), ())))
noncomputable def G29_l0_fuel (s : (((List Int) × (Int × (Bool × (Int × Unit)))) × Unit)) : Nat := Int.toNat ((List.length s.1.1 : Int) - s.1.2.2.2.1) + 1
noncomputable def G29_l0_run (s : (((List Int) × (Int × (Bool × (Int × Unit)))) × Unit)) : Option (Nat × (((List Int) × (Int × (Bool × (Int × Unit)))) × Unit)) := iter G29_l0_step (G29_l0_fuel s) s
noncomputable def G29_l0_L : LoopT := loopT G29_l0_S [.ret, .exit 0] G29_l0_run
noncomputable def G29 (a0 : (List Int)) (a1 : Int) : Option Bool :=
  (Option.bind (G29_l0_run ((a0, (a1, (false, (0, ())))), ())) fun q1 =>
  (natK q1.1
    (some q1.2.1.2.2.1)
    (fun _ => some false)))
noncomputable def G29_E : CEnt := pureE 29 [.dat (.list (.int .i64)), .dat (.int .i64)] (.dat .bool) fun x => G29 x.1 x.2.1
theorem G29_l0_V : LValid 0 Tryd.prog (.loop G29_l0_c) G29_l0_L false := by
  exact loopT_valid (fuel := G29_l0_fuel) mixed G29_CV (lvNil _) (by kernel_rfl) (by decide) rfl (by intro s; kernel_rfl) (fun s r h => h)
theorem G29_LV : LV 0 Tryd.prog false (loopsOf (bodyOf Tryd.f29)) [G29_l0_L] := by
  have hl : loopsOf (bodyOf Tryd.f29) = [.loop G29_l0_c] := by kernel_rfl
  rw [hl]; exact ⟨G29_l0_V, trivial⟩
theorem G29_ent : Ent Tryd.prog 29 := ⟨by decide, enters_of Tryd.func29 (by kernel_rfl) rfl⟩
theorem G29_hev : ∀ x, fnR Tryd.prog G29_C [G29_l0_L] Tryd.f29 (bodyOf Tryd.f29) (encs [.dat (.list (.int .i64)), .dat (.int .i64)] x) ⟨[], [], 0⟩ (frzF (.dat .bool)) = G29 x.1 x.2.1 := by
  intro x; kernel_rfl
theorem G29_valid : G29_E.Valid Tryd.prog :=
  pureE_valid (by kernel_rfl) (by kernel_rfl) G29_ent (frz_lcall mixed Tryd.func29 rfl G29_ent G29_CV G29_LV (by kernel_rfl) (by kernel_rfl) G29_hev)
noncomputable def G21_C : CalT := tabC [G60_E]
theorem G21_CV : CV Tryd.prog G21_C := tabC_valid (l := _) ⟨G60_valid, trivial⟩
noncomputable def G21_l0_c : Code := loopAt (bodyOf Tryd.f21) 0
noncomputable def G21_l1_c : Code := loopAt (bodyOf Tryd.f21) 1
noncomputable def G21_l0_S : SPat := ⟨[.any, .any, .fix (.bptr 0 []), .fix (.bptr 1 []), .dat .bool, .dat (.int .i64), .any, .any, .any, .any, .any, .any, .any, .any, .any, .any, .any, .any, .any, .any, .any, .any, .any, .any, .any, .any, .any, .any, .any, .any, .any, .any, .any, .any, .any, .any, .any, .any, .any, .any, .any, .any, .any, .any, .any, .any, .any, .any, .any, .any, .any, .any, .any, .any, .any, .any, .any, .any, .any, .any, .any, .any, .any, .any, .any, .any, .any, .any, .any, .any, .any, .any, .any, .any, .any, .any], [.dat T23, .dat T30], 0⟩
noncomputable def G21_l0_step (s : ((Bool × (Int × Unit)) × (E23 × (E30 × Unit)))) : Option (Nat × ((Bool × (Int × Unit)) × (E23 × (E30 × Unit)))) :=
  (bif (decide (s.1.2.1 < s.2.1.2.2.2.1)) then
  (bif (decide (0 ≤ s.1.2.1) && decide (s.1.2.1 < (List.length s.2.2.1.1 : Int))) then
    (Option.bind (G60 (List.getD s.2.2.1.1 (Int.toNat s.1.2.1) 0) 2000 3200) fun r1 =>
      (bif (!r1) then
        some (1, ((false, (s.1.2.1, ())), (s.2.1, (s.2.2.1, ()))))
        else
        (bif (decide (0 ≤ s.1.2.1) && decide (s.1.2.1 < (List.length s.2.2.1.2.1 : Int))) then
          (Option.bind (G60 (List.getD s.2.2.1.2.1 (Int.toNat s.1.2.1) 0) (IntKind.wrap .i64 (0 - s.2.1.2.2.1)) s.2.1.2.2.1) fun r2 =>
            (bif (!r2) then
              some (1, ((false, (s.1.2.1, ())), (s.2.1, (s.2.2.1, ()))))
              else
              some (0, ((s.1.1, ((IntKind.wrap .i64 (s.1.2.1 + 1)), ())), (s.2.1, (s.2.2.1, ()))))))
          else
          none)))
    else
    none)
  else
  some (2, ((s.1.1, (s.1.2.1, ())), (s.2.1, (s.2.2.1, ())))))
noncomputable def G21_l0_fuel (s : ((Bool × (Int × Unit)) × (E23 × (E30 × Unit)))) : Nat := Int.toNat (s.2.1.2.2.2.1 - s.1.2.1) + 1
noncomputable def G21_l0_run (s : ((Bool × (Int × Unit)) × (E23 × (E30 × Unit)))) : Option (Nat × ((Bool × (Int × Unit)) × (E23 × (E30 × Unit)))) := iter G21_l0_step (G21_l0_fuel s) s
noncomputable def G21_l0_L : LoopT := loopT G21_l0_S [.ret, .exit 0] G21_l0_run
noncomputable def G21_l1_S : SPat := ⟨[.any, .any, .fix (.bptr 0 []), .fix (.bptr 1 []), .dat .bool, .any, .dat (.int .i64), .any, .any, .any, .any, .any, .any, .any, .any, .any, .any, .any, .any, .any, .any, .any, .any, .any, .any, .any, .any, .any, .any, .any, .any, .any, .any, .any, .any, .any, .any, .any, .any, .any, .any, .any, .any, .any, .any, .any, .any, .any, .any, .any, .any, .any, .any, .any, .any, .any, .any, .any, .any, .any, .any, .any, .any, .any, .any, .any, .any, .any, .any, .any, .any, .any, .any, .any, .any, .any], [.dat T23, .dat T30], 0⟩
noncomputable def G21_l1_step (s : ((Bool × (Int × Unit)) × (E23 × (E30 × Unit)))) : Option (Nat × ((Bool × (Int × Unit)) × (E23 × (E30 × Unit)))) :=
  (bif (decide (s.1.2.1 < (List.length s.2.1.2.2.2.2.1 : Int))) then
  (bif (decide (0 ≤ s.1.2.1) && decide (s.1.2.1 < (List.length s.2.2.1.2.2.1 : Int))) then
    (Option.bind (G60 (List.getD s.2.2.1.2.2.1 (Int.toNat s.1.2.1) 0) (IntKind.wrap .i64 (0 - s.2.1.2.1)) s.2.1.2.1) fun r4 =>
      (bif (!r4) then
        some (1, ((false, (s.1.2.1, ())), (s.2.1, (s.2.2.1, ()))))
        else
        some (0, ((s.1.1, ((IntKind.wrap .i64 (s.1.2.1 + 1)), ())), (s.2.1, (s.2.2.1, ()))))))
    else
    none)
  else
  some (2, ((s.1.1, (s.1.2.1, ())), (s.2.1, (s.2.2.1, ())))))
noncomputable def G21_l1_fuel (s : ((Bool × (Int × Unit)) × (E23 × (E30 × Unit)))) : Nat := Int.toNat ((List.length s.2.1.2.2.2.2.1 : Int) - s.1.2.1) + 1
noncomputable def G21_l1_run (s : ((Bool × (Int × Unit)) × (E23 × (E30 × Unit)))) : Option (Nat × ((Bool × (Int × Unit)) × (E23 × (E30 × Unit)))) := iter G21_l1_step (G21_l1_fuel s) s
noncomputable def G21_l1_L : LoopT := loopT G21_l1_S [.ret, .exit 2] G21_l1_run
noncomputable def G21 (a0 : E23) (a1 : E30) : Option Bool :=
  (bif ((List.length a1.1 : Int) != a0.2.2.2.1) then
  some false
  else
  (bif ((List.length a1.2.1 : Int) != a0.2.2.2.1) then
    some false
    else
    (bif ((List.length a1.2.2.1 : Int) != (List.length a0.2.2.2.2.1 : Int)) then
      some false
      else
      (Option.bind (G21_l0_run ((false, (0, ())), (a0, (a1, ())))) fun q3 =>
        (natK q3.1
          (some q3.2.1.1)
          (fun _ => (Option.bind (G21_l1_run ((q3.2.1.1, (0, ())), (q3.2.2.1, (q3.2.2.2.1, ())))) fun q5 =>
            (natK q5.1
              (some q5.2.1.1)
              (fun _ => some true)))))))))
noncomputable def G21_E : CEnt := pureE 21 [.dat T23, .dat T30] (.dat .bool) fun x => G21 x.1 x.2.1
theorem G21_l0_V : LValid 0 Tryd.prog (.loop G21_l0_c) G21_l0_L false := by
  exact loopT_valid (fuel := G21_l0_fuel) mixed G21_CV (lvNil _) (by kernel_rfl) (by decide) rfl (by intro s; kernel_rfl) (fun s r h => h)
theorem G21_l1_V : LValid 0 Tryd.prog (.loop G21_l1_c) G21_l1_L false := by
  exact loopT_valid (fuel := G21_l1_fuel) mixed G21_CV (lvNil _) (by kernel_rfl) (by decide) rfl (by intro s; kernel_rfl) (fun s r h => h)
theorem G21_LV : LV 0 Tryd.prog false (loopsOf (bodyOf Tryd.f21)) [G21_l0_L, G21_l1_L] := by
  have hl : loopsOf (bodyOf Tryd.f21) = [.loop G21_l0_c, .loop G21_l1_c] := by kernel_rfl
  rw [hl]; exact ⟨G21_l0_V, G21_l1_V, trivial⟩
theorem G21_ent : Ent Tryd.prog 21 := ⟨by decide, enters_of Tryd.func21 (by kernel_rfl) rfl⟩
theorem G21_hev : ∀ x, fnR Tryd.prog G21_C [G21_l0_L, G21_l1_L] Tryd.f21 (bodyOf Tryd.f21) (encs [.dat T23, .dat T30] x) ⟨[], [], 0⟩ (frzF (.dat .bool)) = G21 x.1 x.2.1 := by
  intro x; kernel_rfl
theorem G21_valid : G21_E.Valid Tryd.prog :=
  pureE_valid (by kernel_rfl) (by kernel_rfl) G21_ent (frz_lcall mixed Tryd.func21 rfl G21_ent G21_CV G21_LV (by kernel_rfl) (by kernel_rfl) G21_hev)
noncomputable def G61_C : CalT := tabC []
theorem G61_CV : CV Tryd.prog G61_C := tabC_valid (l := _) trivial
noncomputable def G61 (a0 : E23) (a1 : E30) (a2 : Int) (a3 : Int) : Option Int :=
  (bif (decide (0 ≤ a2) && decide (a2 < (List.length a0.2.2.2.2.1 : Int))) then
  (bif (decide (0 ≤ (List.getD a0.2.2.2.2.1 (Int.toNat a2) 0)) && decide ((List.getD a0.2.2.2.2.1 (Int.toNat a2) 0) < (List.length a1.1 : Int))) then
    (bif (decide (0 ≤ (List.getD a0.2.2.2.2.1 (Int.toNat a2) 0)) && decide ((List.getD a0.2.2.2.2.1 (Int.toNat a2) 0) < (List.length a1.2.1 : Int))) then
      (bif (decide (0 ≤ a2) && decide (a2 < (List.length a1.2.2.1 : Int))) then
        some (IntKind.wrap .i64 ((List.getD a1.1 (Int.toNat (List.getD a0.2.2.2.2.1 (Int.toNat a2) 0)) 0) + (IntKind.wrap .i64 ((IntKind.wrap .i64 ((List.getD a1.2.1 (Int.toNat (List.getD a0.2.2.2.2.1 (Int.toNat a2) 0)) 0) + (List.getD a1.2.2.1 (Int.toNat a2) 0))) * a3))))
        else
        none)
      else
      none)
    else
    none)
  else
  none)
noncomputable def G61_E : CEnt := pureE 61 [.dat T23, .dat T30, .dat (.int .i64), .dat (.int .i64)] (.dat (.int .i64)) fun x => G61 x.1 x.2.1 x.2.2.1 x.2.2.2.1
theorem G61_LV : LV 0 Tryd.prog false (loopsOf (bodyOf Tryd.f61)) [] := by unfold LV; cases loopsOf (bodyOf Tryd.f61) <;> trivial
theorem G61_ent : Ent Tryd.prog 61 := ⟨by decide, enters_of Tryd.func61 (by kernel_rfl) rfl⟩
theorem G61_hev : ∀ x, fnR Tryd.prog G61_C [] Tryd.f61 (bodyOf Tryd.f61) (encs [.dat T23, .dat T30, .dat (.int .i64), .dat (.int .i64)] x) ⟨[], [], 0⟩ (frzF (.dat (.int .i64))) = G61 x.1 x.2.1 x.2.2.1 x.2.2.2.1 := by
  intro x; kernel_rfl
theorem G61_valid : G61_E.Valid Tryd.prog :=
  pureE_valid (by kernel_rfl) (by kernel_rfl) G61_ent (frz_lcall mixed Tryd.func61 rfl G61_ent G61_CV G61_LV (by kernel_rfl) (by kernel_rfl) G61_hev)
noncomputable def G22_C : CalT := tabC [G61_E, G60_E]
theorem G22_CV : CV Tryd.prog G22_C := tabC_valid (l := _) ⟨G61_valid, G60_valid, trivial⟩
noncomputable def G22_l0_c : Code := loopAt (bodyOf Tryd.f22) 0
noncomputable def G22_l0_S : SPat := ⟨[.any, .dat (.list T72), .any, .fix (.bptr 0 []), .any, .fix (.bptr 1 []), .dat .bool, .dat (.int .i64), .any, .any, .any, .any, .any, .any, .any, .any, .any, .any, .any, .any, .any, .any, .any, .any, .any, .any, .any, .any, .any, .any, .any, .any, .any, .any, .any, .any, .any, .any, .any, .any, .any, .any, .any], [.dat T23, .dat T30], 0⟩
noncomputable def G22_l0_step (s : (((List E72) × (Bool × (Int × Unit))) × (E23 × (E30 × Unit)))) : Option (Nat × (((List E72) × (Bool × (Int × Unit))) × (E23 × (E30 × Unit)))) :=
  (bif (decide (s.1.2.2.1 < (List.length s.1.1 : Int))) then
  (bif (decide (0 ≤ s.1.2.2.1) && decide (s.1.2.2.1 < (List.length s.1.1 : Int))) then
    (bif (decide (0 ≤ s.1.2.2.1) && decide (s.1.2.2.1 < (List.length s.1.1 : Int))) then
      (Option.bind (G61 s.2.1 s.2.2.1 ((List.getD s.1.1 (Int.toNat s.1.2.2.1) (0, (0, (0, ())))).1) ((List.getD s.1.1 (Int.toNat s.1.2.2.1) (0, (0, (0, ())))).2.1)) fun r1 =>
        (bif (decide (0 ≤ s.1.2.2.1) && decide (s.1.2.2.1 < (List.length s.1.1 : Int))) then
          (Option.bind (G60 ((List.getD s.1.1 (Int.toNat s.1.2.2.1) (0, (0, (0, ())))).2.2.1) (IntKind.wrap .i64 (r1 - s.2.1.1)) (IntKind.wrap .i64 (r1 + s.2.1.1))) fun r2 =>
            (bif (!r2) then
              some (1, ((s.1.1, (false, (s.1.2.2.1, ()))), (s.2.1, (s.2.2.1, ()))))
              else
              some (0, ((s.1.1, (s.1.2.1, ((IntKind.wrap .i64 (s.1.2.2.1 + 1)), ()))), (s.2.1, (s.2.2.1, ()))))))
          else
          none))
      else
      none)
    else
    none)
  else
  some (2, ((s.1.1, (s.1.2.1, (s.1.2.2.1, ()))), (s.2.1, (s.2.2.1, ())))))
noncomputable def G22_l0_fuel (s : (((List E72) × (Bool × (Int × Unit))) × (E23 × (E30 × Unit)))) : Nat := Int.toNat ((List.length s.1.1 : Int) - s.1.2.2.1) + 1
noncomputable def G22_l0_run (s : (((List E72) × (Bool × (Int × Unit))) × (E23 × (E30 × Unit)))) : Option (Nat × (((List E72) × (Bool × (Int × Unit))) × (E23 × (E30 × Unit)))) := iter G22_l0_step (G22_l0_fuel s) s
noncomputable def G22_l0_L : LoopT := loopT G22_l0_S [.ret, .exit 0] G22_l0_run
noncomputable def G22 (a0 : E23) (a1 : (List E72)) (a2 : E30) : Option Bool :=
  (Option.bind (G22_l0_run ((a1, (false, (0, ()))), (a0, (a2, ())))) fun q3 =>
  (natK q3.1
    (some q3.2.1.2.1)
    (fun _ => some true)))
noncomputable def G22_E : CEnt := pureE 22 [.dat T23, .dat (.list T72), .dat T30] (.dat .bool) fun x => G22 x.1 x.2.1 x.2.2.1
theorem G22_l0_V : LValid 0 Tryd.prog (.loop G22_l0_c) G22_l0_L false := by
  exact loopT_valid (fuel := G22_l0_fuel) mixed G22_CV (lvNil _) (by kernel_rfl) (by decide) rfl (by intro s; kernel_rfl) (fun s r h => h)
theorem G22_LV : LV 0 Tryd.prog false (loopsOf (bodyOf Tryd.f22)) [G22_l0_L] := by
  have hl : loopsOf (bodyOf Tryd.f22) = [.loop G22_l0_c] := by kernel_rfl
  rw [hl]; exact ⟨G22_l0_V, trivial⟩
theorem G22_ent : Ent Tryd.prog 22 := ⟨by decide, enters_of Tryd.func22 (by kernel_rfl) rfl⟩
theorem G22_hev : ∀ x, fnR Tryd.prog G22_C [G22_l0_L] Tryd.f22 (bodyOf Tryd.f22) (encs [.dat T23, .dat (.list T72), .dat T30] x) ⟨[], [], 0⟩ (frzF (.dat .bool)) = G22 x.1 x.2.1 x.2.2.1 := by
  intro x; kernel_rfl
theorem G22_valid : G22_E.Valid Tryd.prog :=
  pureE_valid (by kernel_rfl) (by kernel_rfl) G22_ent (frz_lcall mixed Tryd.func22 rfl G22_ent G22_CV G22_LV (by kernel_rfl) (by kernel_rfl) G22_hev)
end Go.Proofs.YtibmgbalfhfcdaaDoor.Abs
set_option linter.unusedVariables false
set_option maxRecDepth 100000
namespace Go.Proofs.YtibmgbalfhfcdaaDoor.Abs
open Go.Shelf Go.Sort
noncomputable def G38_C : CalT := tabC [G29_E]
theorem G38_CV : CV Tryd.prog G38_C := tabC_valid (l := _) ⟨G29_valid, trivial⟩
noncomputable def G38_l0_c : Code := loopAt (bodyOf Tryd.f38) 0
noncomputable def G38_l1_c : Code := loopAt (bodyOf Tryd.f38) 1
noncomputable def G38_l0_S : SPat := ⟨[.any, .any, .fix (.bptr 0 []), .fix (.bptr 1 []), .dat .bool, .dat (.int .i64), .any, .any, .any, .any, .any, .any, .any, .any, .any, .any, .any, .any, .any, .any, .any, .any, .any, .any, .any, .any, .any, .any, .any, .any, .any, .any, .any, .any, .any, .any, .any, .any, .any, .any, .any, .any, .any, .any, .any, .any, .any], [.dat T30, .dat T26], 0⟩
noncomputable def G38_l0_step (s : ((Bool × (Int × Unit)) × (E30 × (E26 × Unit)))) : Option (Nat × ((Bool × (Int × Unit)) × (E30 × (E26 × Unit)))) :=
  (bif (decide (s.1.2.1 < (List.length s.2.1.2.2.1 : Int))) then
  (bif (decide (0 ≤ s.1.2.1) && decide (s.1.2.1 < (List.length s.2.1.2.2.1 : Int))) then
    (bif ((List.getD s.2.1.2.2.1 (Int.toNat s.1.2.1) 0) != 0) then
      (Option.bind (G29 s.2.2.1.1 s.1.2.1) fun r1 =>
        (bif (!r1) then
          some (1, ((false, (s.1.2.1, ())), (s.2.1, (s.2.2.1, ()))))
          else
          some (0, ((s.1.1, ((IntKind.wrap .i64 (s.1.2.1 + 1)), ())), (s.2.1, (s.2.2.1, ()))))))
      else
      some (0, ((s.1.1, ((IntKind.wrap .i64 (s.1.2.1 + 1)), ())), (s.2.1, (s.2.2.1, ())))))
    else
    none)
  else
  some (2, ((s.1.1, (s.1.2.1, ())), (s.2.1, (s.2.2.1, ())))))
noncomputable def G38_l0_fuel (s : ((Bool × (Int × Unit)) × (E30 × (E26 × Unit)))) : Nat := Int.toNat ((List.length s.2.1.2.2.1 : Int) - s.1.2.1) + 1
noncomputable def G38_l0_run (s : ((Bool × (Int × Unit)) × (E30 × (E26 × Unit)))) : Option (Nat × ((Bool × (Int × Unit)) × (E30 × (E26 × Unit)))) := iter G38_l0_step (G38_l0_fuel s) s
noncomputable def G38_l0_L : LoopT := loopT G38_l0_S [.ret, .exit 0] G38_l0_run
noncomputable def G38_l1_S : SPat := ⟨[.any, .any, .fix (.bptr 0 []), .fix (.bptr 1 []), .dat .bool, .any, .dat (.int .i64), .any, .any, .any, .any, .any, .any, .any, .any, .any, .any, .any, .any, .any, .any, .any, .any, .any, .any, .any, .any, .any, .any, .any, .any, .any, .any, .any, .any, .any, .any, .any, .any, .any, .any, .any, .any, .any, .any, .any, .any], [.dat T30, .dat T26], 0⟩
noncomputable def G38_l1_step (s : ((Bool × (Int × Unit)) × (E30 × (E26 × Unit)))) : Option (Nat × ((Bool × (Int × Unit)) × (E30 × (E26 × Unit)))) :=
  (bif (decide (s.1.2.1 < (List.length s.2.1.2.1 : Int))) then
  (bif (decide (0 ≤ s.1.2.1) && decide (s.1.2.1 < (List.length s.2.1.2.1 : Int))) then
    (bif ((List.getD s.2.1.2.1 (Int.toNat s.1.2.1) 0) != 0) then
      (Option.bind (G29 s.2.2.1.2.1 s.1.2.1) fun r3 =>
        (bif (!r3) then
          some (1, ((false, (s.1.2.1, ())), (s.2.1, (s.2.2.1, ()))))
          else
          some (0, ((s.1.1, ((IntKind.wrap .i64 (s.1.2.1 + 1)), ())), (s.2.1, (s.2.2.1, ()))))))
      else
      some (0, ((s.1.1, ((IntKind.wrap .i64 (s.1.2.1 + 1)), ())), (s.2.1, (s.2.2.1, ())))))
    else
    none)
  else
  some (2, ((s.1.1, (s.1.2.1, ())), (s.2.1, (s.2.2.1, ())))))
noncomputable def G38_l1_fuel (s : ((Bool × (Int × Unit)) × (E30 × (E26 × Unit)))) : Nat := Int.toNat ((List.length s.2.1.2.1 : Int) - s.1.2.1) + 1
noncomputable def G38_l1_run (s : ((Bool × (Int × Unit)) × (E30 × (E26 × Unit)))) : Option (Nat × ((Bool × (Int × Unit)) × (E30 × (E26 × Unit)))) := iter G38_l1_step (G38_l1_fuel s) s
noncomputable def G38_l1_L : LoopT := loopT G38_l1_S [.ret, .exit 2] G38_l1_run
noncomputable def G38 (a0 : E30) (a1 : E26) : Option Bool :=
  (Option.bind (G38_l0_run ((false, (0, ())), (a0, (a1, ())))) fun q2 =>
  (natK q2.1
    (some q2.2.1.1)
    (fun _ => (Option.bind (G38_l1_run ((q2.2.1.1, (0, ())), (q2.2.2.1, (q2.2.2.2.1, ())))) fun q4 =>
      (natK q4.1
        (some q4.2.1.1)
        (fun _ => some true))))))
noncomputable def G38_E : CEnt := pureE 38 [.dat T30, .dat T26] (.dat .bool) fun x => G38 x.1 x.2.1
theorem G38_l0_V : LValid 0 Tryd.prog (.loop G38_l0_c) G38_l0_L false := by
  exact loopT_valid (fuel := G38_l0_fuel) mixed G38_CV (lvNil _) (by kernel_rfl) (by decide) rfl (by intro s; kernel_rfl) (fun s r h => h)
theorem G38_l1_V : LValid 0 Tryd.prog (.loop G38_l1_c) G38_l1_L false := by
  exact loopT_valid (fuel := G38_l1_fuel) mixed G38_CV (lvNil _) (by kernel_rfl) (by decide) rfl (by intro s; kernel_rfl) (fun s r h => h)
theorem G38_LV : LV 0 Tryd.prog false (loopsOf (bodyOf Tryd.f38)) [G38_l0_L, G38_l1_L] := by
  have hl : loopsOf (bodyOf Tryd.f38) = [.loop G38_l0_c, .loop G38_l1_c] := by kernel_rfl
  rw [hl]; exact ⟨G38_l0_V, G38_l1_V, trivial⟩
theorem G38_ent : Ent Tryd.prog 38 := ⟨by decide, enters_of Tryd.func38 (by kernel_rfl) rfl⟩
theorem G38_hev : ∀ x, fnR Tryd.prog G38_C [G38_l0_L, G38_l1_L] Tryd.f38 (bodyOf Tryd.f38) (encs [.dat T30, .dat T26] x) ⟨[], [], 0⟩ (frzF (.dat .bool)) = G38 x.1 x.2.1 := by
  intro x; kernel_rfl
theorem G38_valid : G38_E.Valid Tryd.prog :=
  pureE_valid (by kernel_rfl) (by kernel_rfl) G38_ent (frz_lcall mixed Tryd.func38 rfl G38_ent G38_CV G38_LV (by kernel_rfl) (by kernel_rfl) G38_hev)
noncomputable def G79_C : CalT := tabC [G68_E]
theorem G79_CV : CV Tryd.prog G79_C := tabC_valid (l := _) ⟨G68_valid, trivial⟩
noncomputable def G79 (a0 : Int) : Option Bool :=
  (Option.bind (G68 a0 2000 3200) fun r1 =>
  some (!r1))
noncomputable def G79_E : CEnt := pureE 79 [.dat (.int .i64)] (.dat .bool) fun x => G79 x.1
theorem G79_LV : LV 0 Tryd.prog false (loopsOf (bodyOf Tryd.f79)) [] := by unfold LV; cases loopsOf (bodyOf Tryd.f79) <;> trivial
theorem G79_ent : Ent Tryd.prog 79 := ⟨by decide, enters_of Tryd.func79 (by kernel_rfl) rfl⟩
theorem G79_hev : ∀ x, fnR Tryd.prog G79_C [] Tryd.f79 (bodyOf Tryd.f79) (encs [.dat (.int .i64)] x) ⟨[], [], 0⟩ (frzF (.dat .bool)) = G79 x.1 := by
  intro x; kernel_rfl
theorem G79_valid : G79_E.Valid Tryd.prog :=
  pureE_valid (by kernel_rfl) (by kernel_rfl) G79_ent (frz_lcall mixed Tryd.func79 rfl G79_ent G79_CV G79_LV (by kernel_rfl) (by kernel_rfl) G79_hev)
noncomputable def G95_v1_C : CalT := tabC [G79_E]
theorem G95_v1_CV : CV Tryd.prog G95_v1_C := tabC_valid (l := _) ⟨G79_valid, trivial⟩
noncomputable def G95_v1_l0_c : Code := loopAt (bodyOf Tryd.f95) 0
noncomputable def G95_v1_l0_S : SPat := ⟨[.dat (.list (.int .i64)), .fix (.func (.func 79) .nil .nil), .any, .any, .dat (.int .i64), .any, .any, .dat (.int .i64), .dat (.int .i64), .any, .any, .any, .any, .any, .any, .any, .any, .any, .any], [], 0⟩
noncomputable def G95_v1_l0_step (s : (((List Int) × (Int × (Int × (Int × Unit)))) × Unit)) : Option (Nat × (((List Int) × (Int × (Int × (Int × Unit)))) × Unit)) :=
  (bif (decide (s.1.2.2.2.1 < s.1.2.2.1)) then
  (bif (decide (0 ≤ s.1.2.2.2.1) && decide (s.1.2.2.2.1 < (List.length s.1.1 : Int))) then
    (Option.bind (G79 (List.getD s.1.1 (Int.toNat s.1.2.2.2.1) 0)) fun r1 =>
      (bif r1 then
        some (1, ((s.1.1, (s.1.2.2.2.1, (s.1.2.2.1, (s.1.2.2.2.1, ())))), ()))
        else
        some (0, ((s.1.1, (s.1.2.1, (s.1.2.2.1, ((IntKind.wrap .i64 (s.1.2.2.2.1 + 1)), ())))), ()))))
    else
    none)
  else
  some (2, ((s.1.1, (s.1.2.1, (s.1.2.2.1, (s.1.2.2.2.1, ())))), ())))
noncomputable def G95_v1_l0_fuel (s : (((List Int) × (Int × (Int × (Int × Unit)))) × Unit)) : Nat := Int.toNat (s.1.2.2.1 - s.1.2.2.2.1) + 1
noncomputable def G95_v1_l0_run (s : (((List Int) × (Int × (Int × (Int × Unit)))) × Unit)) : Option (Nat × (((List Int) × (Int × (Int × (Int × Unit)))) × Unit)) := iter G95_v1_l0_step (G95_v1_l0_fuel s) s
noncomputable def G95_v1_l0_L : LoopT := loopT G95_v1_l0_S [.ret, .exit 0] G95_v1_l0_run
noncomputable def G95_v1 (a0 : (List Int)) : Option Int :=
  (Option.bind (G95_v1_l0_run ((a0, (0, ((List.length a0 : Int), (0, ())))), ())) fun q2 =>
  (natK q2.1
    (some q2.2.1.2.1)
    (fun _ => some (-1))))
noncomputable def G95_v1_E : CEnt := pureE 95 [.dat (.list (.int .i64)), .fix (.func (.func 79) .nil .nil)] (.dat (.int .i64)) fun x => G95_v1 x.1
theorem G95_v1_l0_V : LValid 0 Tryd.prog (.loop G95_v1_l0_c) G95_v1_l0_L false := by
  exact loopT_valid (fuel := G95_v1_l0_fuel) mixed G95_v1_CV (lvNil _) (by kernel_rfl) (by decide) rfl (by intro s; kernel_rfl) (fun s r h => h)
theorem G95_v1_LV : LV 0 Tryd.prog false (loopsOf (bodyOf Tryd.f95)) [G95_v1_l0_L] := by
  have hl : loopsOf (bodyOf Tryd.f95) = [.loop G95_v1_l0_c] := by kernel_rfl
  rw [hl]; exact ⟨G95_v1_l0_V, trivial⟩
theorem G95_v1_ent : Ent Tryd.prog 95 := ⟨by decide, enters_of Tryd.func95 (by kernel_rfl) rfl⟩
theorem G95_v1_hev : ∀ x, fnR Tryd.prog G95_v1_C [G95_v1_l0_L] Tryd.f95 (bodyOf Tryd.f95) (encs [.dat (.list (.int .i64)), .fix (.func (.func 79) .nil .nil)] x) ⟨[], [], 0⟩ (frzF (.dat (.int .i64))) = G95_v1 x.1 := by
  intro x; kernel_rfl
theorem G95_v1_valid : G95_v1_E.Valid Tryd.prog :=
  pureE_valid (by kernel_rfl) (by kernel_rfl) G95_v1_ent (frz_lcall mixed Tryd.func95 rfl G95_v1_ent G95_v1_CV G95_v1_LV (by kernel_rfl) (by kernel_rfl) G95_v1_hev)
noncomputable def G78_v1_C : CalT := tabC [G95_v1_E]
theorem G78_v1_CV : CV Tryd.prog G78_v1_C := tabC_valid (l := _) ⟨G95_v1_valid, trivial⟩
noncomputable def G78_v1 (a0 : (List Int)) : Option Bool :=
  (Option.bind (G95_v1 a0) fun r1 =>
  some (decide (r1 ≥ 0)))
noncomputable def G78_v1_E : CEnt := pureE 78 [.dat (.list (.int .i64)), .fix (.func (.func 79) .nil .nil)] (.dat .bool) fun x => G78_v1 x.1
theorem G78_v1_LV : LV 0 Tryd.prog false (loopsOf (bodyOf Tryd.f78)) [] := by unfold LV; cases loopsOf (bodyOf Tryd.f78) <;> trivial
theorem G78_v1_ent : Ent Tryd.prog 78 := ⟨by decide, enters_of Tryd.func78 (by kernel_rfl) rfl⟩
theorem G78_v1_hev : ∀ x, fnR Tryd.prog G78_v1_C [] Tryd.f78 (bodyOf Tryd.f78) (encs [.dat (.list (.int .i64)), .fix (.func (.func 79) .nil .nil)] x) ⟨[], [], 0⟩ (frzF (.dat .bool)) = G78_v1 x.1 := by
  intro x; kernel_rfl
theorem G78_v1_valid : G78_v1_E.Valid Tryd.prog :=
  pureE_valid (by kernel_rfl) (by kernel_rfl) G78_v1_ent (frz_lcall mixed Tryd.func78 rfl G78_v1_ent G78_v1_CV G78_v1_LV (by kernel_rfl) (by kernel_rfl) G78_v1_hev)
noncomputable def G96_C : CalT := tabC [G68_E]
theorem G96_CV : CV Tryd.prog G96_C := tabC_valid (l := _) ⟨G68_valid, trivial⟩
noncomputable def G96 (a0 : Int) (b1 : Int) : Option (Bool × (Int × Unit)) :=
  (Option.bind (G68 a0 (IntKind.wrap .i64 (0 - b1)) b1) fun r1 =>
  some ((!r1), (b1, ())))
abbrev G96_CS : CSpec := ⟨[.dat (.int .i64), .fix (.bptr 0 [])], [.dat (.int .i64)], 0, [.dat (.int .i64)], 0, .dat .bool⟩
noncomputable def G96_E : CEnt := boxE 96 G96_CS fun x => G96 x.1.1 x.2.1
theorem G96_LV : LV 1 Tryd.prog false (loopsOf (bodyOf Tryd.f96)) [] := by unfold LV; cases loopsOf (bodyOf Tryd.f96) <;> trivial
theorem G96_ent : Ent Tryd.prog 96 := ⟨by decide, enters_of Tryd.func96 (by kernel_rfl) rfl⟩
theorem G96_hev : ∀ x : G96_CS.In, fnR Tryd.prog G96_C [] Tryd.f96 (bodyOf Tryd.f96) (encs G96_CS.A x.1) ⟨encs G96_CS.I x.2, [], G96_CS.nt⟩ (finK G96_CS) = G96 x.1.1 x.2.1 := by
  intro x; kernel_rfl
theorem G96_valid : G96_E.Valid Tryd.prog :=
  boxE_valid (S := G96_CS) (by kernel_rfl) (.inr G96_ent) (fn_lcall (S := G96_CS) mixed Tryd.func96 rfl G96_ent G96_CV G96_LV (by kernel_rfl) (by kernel_rfl) G96_hev)
noncomputable def G95_v2_C : CalT := tabC [G96_E]
theorem G95_v2_CV : CV Tryd.prog G95_v2_C := tabC_valid (l := _) ⟨G96_valid, trivial⟩
noncomputable def G95_v2_l0_c : Code := loopAt (bodyOf Tryd.f95) 0
noncomputable def G95_v2_l0_S : SPat := ⟨[.dat (.list (.int .i64)), .fix (.func (.func 96) .nil (.cons (.bptr 0 []) .nil)), .any, .any, .dat (.int .i64), .any, .any, .dat (.int .i64), .dat (.int .i64), .any, .any, .any, .any, .any, .any, .any, .any, .any, .any], [.dat (.int .i64)], 0⟩
noncomputable def G95_v2_l0_step (s : (((List Int) × (Int × (Int × (Int × Unit)))) × (Int × Unit))) : Option (Nat × (((List Int) × (Int × (Int × (Int × Unit)))) × (Int × Unit))) :=
  (bif (decide (s.1.2.2.2.1 < s.1.2.2.1)) then
  (bif (decide (0 ≤ s.1.2.2.2.1) && decide (s.1.2.2.2.1 < (List.length s.1.1 : Int))) then
    (Option.bind (G96 (List.getD s.1.1 (Int.toNat s.1.2.2.2.1) 0) s.2.1) fun r1 =>
      (bif r1.1 then
        some (1, ((s.1.1, (s.1.2.2.2.1, (s.1.2.2.1, (s.1.2.2.2.1, ())))), (r1.2.1, ())))
        else
        some (0, ((s.1.1, (s.1.2.1, (s.1.2.2.1, ((IntKind.wrap .i64 (s.1.2.2.2.1 + 1)), ())))), (r1.2.1, ())))))
    else
    none)
  else
  some (2, ((s.1.1, (s.1.2.1, (s.1.2.2.1, (s.1.2.2.2.1, ())))), (s.2.1, ()))))
noncomputable def G95_v2_l0_fuel (s : (((List Int) × (Int × (Int × (Int × Unit)))) × (Int × Unit))) : Nat := Int.toNat (s.1.2.2.1 - s.1.2.2.2.1) + 1
noncomputable def G95_v2_l0_run (s : (((List Int) × (Int × (Int × (Int × Unit)))) × (Int × Unit))) : Option (Nat × (((List Int) × (Int × (Int × (Int × Unit)))) × (Int × Unit))) := iter G95_v2_l0_step (G95_v2_l0_fuel s) s
noncomputable def G95_v2_l0_L : LoopT := loopT G95_v2_l0_S [.ret, .exit 0] G95_v2_l0_run
noncomputable def G95_v2 (a0 : (List Int)) (b1 : Int) : Option (Int × (Int × Unit)) :=
  (Option.bind (G95_v2_l0_run ((a0, (0, ((List.length a0 : Int), (0, ())))), (b1, ()))) fun q2 =>
  (natK q2.1
    (some (q2.2.1.2.1, (q2.2.2.1, ())))
    (fun _ => some ((-1), (q2.2.2.1, ())))))
abbrev G95_v2_CS : CSpec := ⟨[.dat (.list (.int .i64)), .fix (.func (.func 96) .nil (.cons (.bptr 0 []) .nil))], [.dat (.int .i64)], 0, [.dat (.int .i64)], 0, .dat (.int .i64)⟩
noncomputable def G95_v2_E : CEnt := boxE 95 G95_v2_CS fun x => G95_v2 x.1.1 x.2.1
theorem G95_v2_l0_V : LValid 1 Tryd.prog (.loop G95_v2_l0_c) G95_v2_l0_L false := by
  have hb : ∀ s, codeR Tryd.prog G95_v2_C G95_v2_l0_c [] (G95_v2_l0_S.encE s) (G95_v2_l0_S.encB s) (kst G95_v2_l0_S [.ret, .exit 0]) = G95_v2_l0_step s := by
    intro s; kernel_rfl
  have hL : LV 1 Tryd.prog false (loopsOf G95_v2_l0_c) [] := by unfold LV; cases loopsOf G95_v2_l0_c <;> trivial
  exact loopT_valid (fuel := G95_v2_l0_fuel) mixed G95_v2_CV hL (by kernel_rfl) (by decide) rfl hb (fun s r h => h)
theorem G95_v2_LV : LV 1 Tryd.prog false (loopsOf (bodyOf Tryd.f95)) [G95_v2_l0_L] := by
  have hl : loopsOf (bodyOf Tryd.f95) = [.loop G95_v2_l0_c] := by kernel_rfl
  rw [hl]; exact ⟨G95_v2_l0_V, trivial⟩
theorem G95_v2_ent : Ent Tryd.prog 95 := ⟨by decide, enters_of Tryd.func95 (by kernel_rfl) rfl⟩
theorem G95_v2_hev : ∀ x : G95_v2_CS.In, fnR Tryd.prog G95_v2_C [G95_v2_l0_L] Tryd.f95 (bodyOf Tryd.f95) (encs G95_v2_CS.A x.1) ⟨encs G95_v2_CS.I x.2, [], G95_v2_CS.nt⟩ (finK G95_v2_CS) = G95_v2 x.1.1 x.2.1 := by
  intro x; kernel_rfl
theorem G95_v2_valid : G95_v2_E.Valid Tryd.prog :=
  boxE_valid (S := G95_v2_CS) (by kernel_rfl) (.inr G95_v2_ent) (fn_lcall (S := G95_v2_CS) mixed Tryd.func95 rfl G95_v2_ent G95_v2_CV G95_v2_LV (by kernel_rfl) (by kernel_rfl) G95_v2_hev)
noncomputable def G78_v2_C : CalT := tabC [G95_v2_E]
theorem G78_v2_CV : CV Tryd.prog G78_v2_C := tabC_valid (l := _) ⟨G95_v2_valid, trivial⟩
noncomputable def G78_v2 (a0 : (List Int)) (b1 : Int) : Option (Bool × (Int × Unit)) :=
  (Option.bind (G95_v2 a0 b1) fun r1 =>
  some ((decide (r1.1 ≥ 0)), (r1.2.1, ())))
abbrev G78_v2_CS : CSpec := ⟨[.dat (.list (.int .i64)), .fix (.func (.func 96) .nil (.cons (.bptr 0 []) .nil))], [.dat (.int .i64)], 0, [.dat (.int .i64)], 0, .dat .bool⟩
noncomputable def G78_v2_E : CEnt := boxE 78 G78_v2_CS fun x => G78_v2 x.1.1 x.2.1
theorem G78_v2_LV : LV 1 Tryd.prog false (loopsOf (bodyOf Tryd.f78)) [] := by unfold LV; cases loopsOf (bodyOf Tryd.f78) <;> trivial
theorem G78_v2_ent : Ent Tryd.prog 78 := ⟨by decide, enters_of Tryd.func78 (by kernel_rfl) rfl⟩
theorem G78_v2_hev : ∀ x : G78_v2_CS.In, fnR Tryd.prog G78_v2_C [] Tryd.f78 (bodyOf Tryd.f78) (encs G78_v2_CS.A x.1) ⟨encs G78_v2_CS.I x.2, [], G78_v2_CS.nt⟩ (finK G78_v2_CS) = G78_v2 x.1.1 x.2.1 := by
  intro x; kernel_rfl
theorem G78_v2_valid : G78_v2_E.Valid Tryd.prog :=
  boxE_valid (S := G78_v2_CS) (by kernel_rfl) (.inr G78_v2_ent) (fn_lcall (S := G78_v2_CS) mixed Tryd.func78 rfl G78_v2_ent G78_v2_CV G78_v2_LV (by kernel_rfl) (by kernel_rfl) G78_v2_hev)
noncomputable def G80_C : CalT := tabC [G78_v2_E]
theorem G80_CV : CV Tryd.prog G80_C := tabC_valid (l := _) ⟨G78_v2_valid, trivial⟩
noncomputable def G80 (a0 : (List Int)) (a1 : Int) (a2 : Int) : Option Bool :=
  (bif ((List.length a0 : Int) == a1) then
  (Option.bind (G78_v2 a0 a2) fun r1 =>
    some (!r1.1))
  else
  some false)
noncomputable def G80_E : CEnt := pureE 80 [.dat (.list (.int .i64)), .dat (.int .i64), .dat (.int .i64)] (.dat .bool) fun x => G80 x.1 x.2.1 x.2.2.1
theorem G80_LV : LV 0 Tryd.prog false (loopsOf (bodyOf Tryd.f80)) [] := by unfold LV; cases loopsOf (bodyOf Tryd.f80) <;> trivial
theorem G80_ent : Ent Tryd.prog 80 := ⟨by decide, enters_of Tryd.func80 (by kernel_rfl) rfl⟩
theorem G80_hev : ∀ x, fnR Tryd.prog G80_C [] Tryd.f80 (bodyOf Tryd.f80) (encs [.dat (.list (.int .i64)), .dat (.int .i64), .dat (.int .i64)] x) ⟨[], [], 0⟩ (frzF (.dat .bool)) = G80 x.1 x.2.1 x.2.2.1 := by
  intro x; kernel_rfl
theorem G80_valid : G80_E.Valid Tryd.prog :=
  pureE_valid (by kernel_rfl) (by kernel_rfl) G80_ent (frz_lcall mixed Tryd.func80 rfl G80_ent G80_CV G80_LV (by kernel_rfl) (by kernel_rfl) G80_hev)
noncomputable def G77_C : CalT := tabC [G78_v1_E, G80_E]
theorem G77_CV : CV Tryd.prog G77_C := tabC_valid (l := _) ⟨G78_v1_valid, G80_valid, trivial⟩
noncomputable def G77 (b0 : (E23 × ((List E72) × (Unit × Unit)))) (b1 : E30) (b2 : E23) (b3 : (List (E56 × E94))) : Option (Bool × ((E23 × ((List E72) × (Unit × Unit))) × (E30 × (E23 × ((List (E56 × E94)) × Unit))))) :=
  (bif ((List.length b1.1 : Int) == b2.2.2.2.1) then
  (Option.bind (G78_v1 b1.1) fun r1 =>
    (bif (!r1) then
      (Option.bind (G80 b1.2.1 b2.2.2.2.1 b2.2.2.1) fun r2 =>
        (bif r2 then
          (Option.bind (G80 b1.2.2.1 (List.length b2.2.2.2.2.1 : Int) b2.2.1) fun r3 =>
            some (r3, ((b0.1, (b0.2.1, ((), b0.2.2.2))), (b1, (b2, (b3, ()))))))
          else
          some (false, ((b0.1, (b0.2.1, ((), b0.2.2.2))), (b1, (b2, (b3, ())))))))
      else
      some (false, ((b0.1, (b0.2.1, ((), b0.2.2.2))), (b1, (b2, (b3, ())))))))
  else
  some (false, ((b0.1, (b0.2.1, ((), b0.2.2.2))), (b1, (b2, (b3, ()))))))
abbrev G77_CS : CSpec := ⟨[.fix (.bptr 0 []), .fix (.bptr 1 []), .fix (.bptr 2 [])], [.cons (.dat T23) (.cons (.dat (.list T72)) (.cons (.fix (.mref 3)) (.nil))), .dat T30, .dat T23, .map T56 T94], 0, [.cons (.dat T23) (.cons (.dat (.list T72)) (.cons (.fix (.mref 3)) (.nil))), .dat T30, .dat T23, .map T56 T94], 0, .dat .bool⟩
noncomputable def G77_E : CEnt := boxE 77 G77_CS fun x => G77 x.2.1 x.2.2.1 x.2.2.2.1 x.2.2.2.2.1
theorem G77_LV : LV 4 Tryd.prog false (loopsOf (bodyOf Tryd.f77)) [] := by unfold LV; cases loopsOf (bodyOf Tryd.f77) <;> trivial
theorem G77_ent : Ent Tryd.prog 77 := ⟨by decide, enters_of Tryd.func77 (by kernel_rfl) rfl⟩
theorem G77_hev : ∀ x : G77_CS.In, fnR Tryd.prog G77_C [] Tryd.f77 (bodyOf Tryd.f77) (encs G77_CS.A x.1) ⟨encs G77_CS.I x.2, [], G77_CS.nt⟩ (finK G77_CS) = G77 x.2.1 x.2.2.1 x.2.2.2.1 x.2.2.2.2.1 := by
  intro x; kernel_rfl
theorem G77_valid : G77_E.Valid Tryd.prog :=
  boxE_valid (S := G77_CS) (by kernel_rfl) (.inr G77_ent) (fn_lcall (S := G77_CS) mixed Tryd.func77 rfl G77_ent G77_CV G77_LV (by kernel_rfl) (by kernel_rfl) G77_hev)
noncomputable def G49_v6_C : CalT := tabC [G83_E, G81_E, G77_E]
theorem G49_v6_CV : CV Tryd.prog G49_v6_C := tabC_valid (l := _) ⟨G83_valid, G81_valid, G77_valid, trivial⟩
abbrev TY152 : Type := (E30 × (E23 × (E23 × ((List (E56 × E94)) × ((E23 × ((List E72) × (Unit × Unit))) × Unit)))))
noncomputable def G49_v6 (a0 : E23) (a1 : (List E72)) (b2 : E30) (b3 : E23) : Option (((Unit × (Int × Unit)) × (E30 × (E23 × Unit))) ⊕ ((Unit × (Int × Unit)) × TY152)) :=
  (bif (decide ((List.length a1 : Int) > 24)) then
  some (Sum.inl (((), (3, ())), (b2, (b3, ()))))
  else
  (Option.bind (G83 a0) fun r1 =>
    (bif (!r1) then
      some (Sum.inl (((), (2, ())), (b2, (b3, ()))))
      else
      (Option.bind (G81 a1 a0) fun r2 =>
        (bif r2.1 then
          some (Sum.inl (((), (2, ())), (b2, (b3, ()))))
          else
          (Option.bind (G77 (a0, (a1, ((), ()))) b2 b3 ([] : List (E56 × E94))) fun r3 =>
            (bif (!r3.1) then
              some (Sum.inl (((), (2, ())), (r3.2.2.1, (r3.2.2.2.1, ()))))
              else
              some (Sum.inr (((), (0, ())), (r3.2.2.1, (r3.2.2.2.1, (r2.2.1, (r3.2.2.2.2.1, ((r3.2.1.1, (r3.2.1.2.1, ((), r3.2.1.2.2.2))), ()))))))))))))))
abbrev G49_v6_CS : CSpec := ⟨[.dat T23, .dat (.list T72), .fix (.func (.func 77) .nil (.cons (.bptr 0 []) (.cons (.bptr 1 []) .nil)))], [.dat T30, .dat T23], 0, [.dat T30, .dat T23], 0, .tup (.cons (.fix .pnil) (.cons (.dat (.int .i64)) (.nil)))⟩
abbrev G49_v6_O2 : List PTy := [.dat T30, .dat T23, .dat T23, .map T56 T94, .cons (.dat T23) (.cons (.dat (.list T72)) (.cons (.fix (.mref 3)) (.nil)))]
abbrev G49_v6_R2 : PTy := .tup (.cons (.fix (.bptr 4 [])) (.cons (.dat (.int .i64)) (.nil)))
noncomputable def G49_v6_E : CEnt := altE 49 G49_v6_CS G49_v6_O2 0 G49_v6_R2 fun x => G49_v6 x.1.1 x.1.2.1 x.2.1 x.2.2.1
theorem G49_v6_LV : LV 2 Tryd.prog false (loopsOf (bodyOf Tryd.f49)) [] := by unfold LV; cases loopsOf (bodyOf Tryd.f49) <;> trivial
theorem G49_v6_ent : Ent Tryd.prog 49 := ⟨by decide, enters_of Tryd.func49 (by kernel_rfl) rfl⟩
theorem G49_v6_hev : ∀ x : G49_v6_CS.In, fnR Tryd.prog G49_v6_C [] Tryd.f49 (bodyOf Tryd.f49) (encs G49_v6_CS.A x.1) ⟨encs G49_v6_CS.I x.2, [], G49_v6_CS.nt⟩ (finK2 G49_v6_CS G49_v6_O2 0 G49_v6_R2) = G49_v6 x.1.1 x.1.2.1 x.2.1 x.2.2.1 := by
  intro x; kernel_rfl
theorem G49_v6_valid : G49_v6_E.Valid Tryd.prog :=
  altE_valid (S := G49_v6_CS) (by kernel_rfl) (by kernel_rfl) (.inr G49_v6_ent) (alt_lcall (S := G49_v6_CS) mixed Tryd.func49 rfl G49_v6_ent G49_v6_CV G49_v6_LV (by kernel_rfl) (by kernel_rfl) (by kernel_rfl) (by kernel_rfl) G49_v6_hev)
noncomputable def G82_C : CalT := tabC [G68_E]
theorem G82_CV : CV Tryd.prog G82_C := tabC_valid (l := _) ⟨G68_valid, trivial⟩
noncomputable def G82 (a0 : E72) (b1 : E23) (b2 : E30) : Option (Bool × (E23 × (E30 × Unit))) :=
  (bif (decide (0 ≤ a0.1) && decide (a0.1 < (List.length b1.2.2.2.2.1 : Int))) then
  (bif (decide (0 ≤ (List.getD b1.2.2.2.2.1 (Int.toNat a0.1) 0)) && decide ((List.getD b1.2.2.2.2.1 (Int.toNat a0.1) 0) < (List.length b2.1 : Int))) then
    (bif (decide (0 ≤ (List.getD b1.2.2.2.2.1 (Int.toNat a0.1) 0)) && decide ((List.getD b1.2.2.2.2.1 (Int.toNat a0.1) 0) < (List.length b2.2.1 : Int))) then
      (bif (decide (0 ≤ a0.1) && decide (a0.1 < (List.length b2.2.2.1 : Int))) then
        (Option.bind (G68 (IntKind.wrap .i64 ((IntKind.wrap .i64 (a0.2.2.1 - (List.getD b2.1 (Int.toNat (List.getD b1.2.2.2.2.1 (Int.toNat a0.1) 0)) 0))) - (IntKind.wrap .i64 ((IntKind.wrap .i64 ((List.getD b2.2.1 (Int.toNat (List.getD b1.2.2.2.2.1 (Int.toNat a0.1) 0)) 0) + (List.getD b2.2.2.1 (Int.toNat a0.1) 0))) * a0.2.1)))) (IntKind.wrap .i64 (0 - b1.1)) b1.1) fun r1 =>
          some ((!r1), (b1, (b2, ()))))
        else
        none)
      else
      none)
    else
    none)
  else
  none)
abbrev G82_CS : CSpec := ⟨[.dat T72, .fix (.bptr 0 []), .fix (.bptr 1 [])], [.dat T23, .dat T30], 0, [.dat T23, .dat T30], 0, .dat .bool⟩
noncomputable def G82_E : CEnt := boxE 82 G82_CS fun x => G82 x.1.1 x.2.1 x.2.2.1
theorem G82_LV : LV 2 Tryd.prog false (loopsOf (bodyOf Tryd.f82)) [] := by unfold LV; cases loopsOf (bodyOf Tryd.f82) <;> trivial
theorem G82_ent : Ent Tryd.prog 82 := ⟨by decide, enters_of Tryd.func82 (by kernel_rfl) rfl⟩
theorem G82_hev : ∀ x : G82_CS.In, fnR Tryd.prog G82_C [] Tryd.f82 (bodyOf Tryd.f82) (encs G82_CS.A x.1) ⟨encs G82_CS.I x.2, [], G82_CS.nt⟩ (finK G82_CS) = G82 x.1.1 x.2.1 x.2.2.1 := by
  intro x; kernel_rfl
theorem G82_valid : G82_E.Valid Tryd.prog :=
  boxE_valid (S := G82_CS) (by kernel_rfl) (.inr G82_ent) (fn_lcall (S := G82_CS) mixed Tryd.func82 rfl G82_ent G82_CV G82_LV (by kernel_rfl) (by kernel_rfl) G82_hev)
noncomputable def G97_v1_C : CalT := tabC [G82_E]
theorem G97_v1_CV : CV Tryd.prog G97_v1_C := tabC_valid (l := _) ⟨G82_valid, trivial⟩
noncomputable def G97_v1_l0_c : Code := loopAt (bodyOf Tryd.f97) 0
noncomputable def G97_v1_l0_S : SPat := ⟨[.dat (.list T72), .fix (.func (.func 82) .nil (.cons (.bptr 0 []) (.cons (.bptr 1 []) .nil))), .any, .any, .dat (.int .i64), .any, .any, .dat (.int .i64), .dat (.int .i64), .any, .any, .any, .any, .any, .any, .any, .any, .any, .any], [.dat T23, .dat T30], 0⟩
abbrev TY153 : Type := (Nat × (((List E72) × (Int × (Int × (Int × Unit)))) × (E23 × (E30 × Unit))))
noncomputable def G97_v1_l0_step (s : (((List E72) × (Int × (Int × (Int × Unit)))) × (E23 × (E30 × Unit)))) : Option TY153 :=
  (bif (decide (s.1.2.2.2.1 < s.1.2.2.1)) then
  (bif (decide (0 ≤ s.1.2.2.2.1) && decide (s.1.2.2.2.1 < (List.length s.1.1 : Int))) then
    (Option.bind (G82 (List.getD s.1.1 (Int.toNat s.1.2.2.2.1) (0, (0, (0, ())))) s.2.1 s.2.2.1) fun r1 =>
      (bif r1.1 then
        some (1, ((s.1.1, (s.1.2.2.2.1, (s.1.2.2.1, (s.1.2.2.2.1, ())))), (r1.2.1, (r1.2.2.1, ()))))
        else
        some (0, ((s.1.1, (s.1.2.1, (s.1.2.2.1, ((IntKind.wrap .i64 (s.1.2.2.2.1 + 1)), ())))), (r1.2.1, (r1.2.2.1, ()))))))
    else
    none)
  else
  some (2, ((s.1.1, (s.1.2.1, (s.1.2.2.1, (s.1.2.2.2.1, ())))), (s.2.1, (s.2.2.1, ())))))
noncomputable def G97_v1_l0_fuel (s : (((List E72) × (Int × (Int × (Int × Unit)))) × (E23 × (E30 × Unit)))) : Nat := Int.toNat (s.1.2.2.1 - s.1.2.2.2.1) + 1
noncomputable def G97_v1_l0_run (s : (((List E72) × (Int × (Int × (Int × Unit)))) × (E23 × (E30 × Unit)))) : Option TY153 := iter G97_v1_l0_step (G97_v1_l0_fuel s) s
noncomputable def G97_v1_l0_L : LoopT := loopT G97_v1_l0_S [.ret, .exit 0] G97_v1_l0_run
noncomputable def G97_v1 (a0 : (List E72)) (b1 : E23) (b2 : E30) : Option (Int × (E23 × (E30 × Unit))) :=
  (Option.bind (G97_v1_l0_run ((a0, (0, ((List.length a0 : Int), (0, ())))), (b1, (b2, ())))) fun q2 =>
  (natK q2.1
    (some (q2.2.1.2.1, (q2.2.2.1, (q2.2.2.2.1, ()))))
    (fun _ => some ((-1), (q2.2.2.1, (q2.2.2.2.1, ()))))))
abbrev G97_v1_CS : CSpec := ⟨[.dat (.list T72), .fix (.func (.func 82) .nil (.cons (.bptr 0 []) (.cons (.bptr 1 []) .nil)))], [.dat T23, .dat T30], 0, [.dat T23, .dat T30], 0, .dat (.int .i64)⟩
noncomputable def G97_v1_E : CEnt := boxE 97 G97_v1_CS fun x => G97_v1 x.1.1 x.2.1 x.2.2.1
theorem G97_v1_l0_V : LValid 2 Tryd.prog (.loop G97_v1_l0_c) G97_v1_l0_L false := by
  have hb : ∀ s, codeR Tryd.prog G97_v1_C G97_v1_l0_c [] (G97_v1_l0_S.encE s) (G97_v1_l0_S.encB s) (kst G97_v1_l0_S [.ret, .exit 0]) = G97_v1_l0_step s := by
    intro s; kernel_rfl
  have hL : LV 2 Tryd.prog false (loopsOf G97_v1_l0_c) [] := by unfold LV; cases loopsOf G97_v1_l0_c <;> trivial
  exact loopT_valid (fuel := G97_v1_l0_fuel) mixed G97_v1_CV hL (by kernel_rfl) (by decide) rfl hb (fun s r h => h)
theorem G97_v1_LV : LV 2 Tryd.prog false (loopsOf (bodyOf Tryd.f97)) [G97_v1_l0_L] := by
  have hl : loopsOf (bodyOf Tryd.f97) = [.loop G97_v1_l0_c] := by kernel_rfl
  rw [hl]; exact ⟨G97_v1_l0_V, trivial⟩
theorem G97_v1_ent : Ent Tryd.prog 97 := ⟨by decide, enters_of Tryd.func97 (by kernel_rfl) rfl⟩
theorem G97_v1_hev : ∀ x : G97_v1_CS.In, fnR Tryd.prog G97_v1_C [G97_v1_l0_L] Tryd.f97 (bodyOf Tryd.f97) (encs G97_v1_CS.A x.1) ⟨encs G97_v1_CS.I x.2, [], G97_v1_CS.nt⟩ (finK G97_v1_CS) = G97_v1 x.1.1 x.2.1 x.2.2.1 := by
  intro x; kernel_rfl
theorem G97_v1_valid : G97_v1_E.Valid Tryd.prog :=
  boxE_valid (S := G97_v1_CS) (by kernel_rfl) (.inr G97_v1_ent) (fn_lcall (S := G97_v1_CS) mixed Tryd.func97 rfl G97_v1_ent G97_v1_CV G97_v1_LV (by kernel_rfl) (by kernel_rfl) G97_v1_hev)
noncomputable def G81_v1_C : CalT := tabC [G97_v1_E]
theorem G81_v1_CV : CV Tryd.prog G81_v1_C := tabC_valid (l := _) ⟨G97_v1_valid, trivial⟩
noncomputable def G81_v1 (a0 : (List E72)) (b1 : E23) (b2 : E30) : Option (Bool × (E23 × (E30 × Unit))) :=
  (Option.bind (G97_v1 a0 b1 b2) fun r1 =>
  some ((decide (r1.1 ≥ 0)), (r1.2.1, (r1.2.2.1, ()))))
abbrev G81_v1_CS : CSpec := ⟨[.dat (.list T72), .fix (.func (.func 82) .nil (.cons (.bptr 0 []) (.cons (.bptr 1 []) .nil)))], [.dat T23, .dat T30], 0, [.dat T23, .dat T30], 0, .dat .bool⟩
noncomputable def G81_v1_E : CEnt := boxE 81 G81_v1_CS fun x => G81_v1 x.1.1 x.2.1 x.2.2.1
theorem G81_v1_LV : LV 2 Tryd.prog false (loopsOf (bodyOf Tryd.f81)) [] := by unfold LV; cases loopsOf (bodyOf Tryd.f81) <;> trivial
theorem G81_v1_ent : Ent Tryd.prog 81 := ⟨by decide, enters_of Tryd.func81 (by kernel_rfl) rfl⟩
theorem G81_v1_hev : ∀ x : G81_v1_CS.In, fnR Tryd.prog G81_v1_C [] Tryd.f81 (bodyOf Tryd.f81) (encs G81_v1_CS.A x.1) ⟨encs G81_v1_CS.I x.2, [], G81_v1_CS.nt⟩ (finK G81_v1_CS) = G81_v1 x.1.1 x.2.1 x.2.2.1 := by
  intro x; kernel_rfl
theorem G81_v1_valid : G81_v1_E.Valid Tryd.prog :=
  boxE_valid (S := G81_v1_CS) (by kernel_rfl) (.inr G81_v1_ent) (fn_lcall (S := G81_v1_CS) mixed Tryd.func81 rfl G81_v1_ent G81_v1_CV G81_v1_LV (by kernel_rfl) (by kernel_rfl) G81_v1_hev)
noncomputable def G39_C : CalT := tabC [G49_v6_E, G81_v1_E]
theorem G39_CV : CV Tryd.prog G39_C := tabC_valid (l := _) ⟨G49_v6_valid, G81_v1_valid, trivial⟩
noncomputable def G39 (a0 : E23) (a1 : (List E72)) (a2 : E30) : Option (Bool × (Int × Unit)) :=
  (Option.bind (G49_v6 a0 a1 a2 a0) fun r1 =>
  (altK r1
    (fun r2 => (bif (r2.1.2.1 != 0) then
      some (false, (r2.1.2.1, ()))
      else
      none))
    (fun r3 => (bif (r3.1.2.1 != 0) then
      some (false, (r3.1.2.1, ()))
      else
      (Option.bind (G81_v1 r3.2.2.2.2.2.1.2.1 r3.2.2.1 r3.2.1) fun r4 =>
        some ((!r4.1), (0, ())))))))
noncomputable def G39_E : CEnt := pureE 39 [.dat T23, .dat (.list T72), .dat T30] (.tup (.cons (.dat .bool) (.cons (.dat (.int .i64)) (.nil)))) fun x => G39 x.1 x.2.1 x.2.2.1
theorem G39_LV : LV 0 Tryd.prog false (loopsOf (bodyOf Tryd.f39)) [] := by unfold LV; cases loopsOf (bodyOf Tryd.f39) <;> trivial
theorem G39_ent : Ent Tryd.prog 39 := ⟨by decide, enters_of Tryd.func39 (by kernel_rfl) rfl⟩
theorem G39_hev : ∀ x, fnR Tryd.prog G39_C [] Tryd.f39 (bodyOf Tryd.f39) (encs [.dat T23, .dat (.list T72), .dat T30] x) ⟨[], [], 0⟩ (frzF (.tup (.cons (.dat .bool) (.cons (.dat (.int .i64)) (.nil))))) = G39 x.1 x.2.1 x.2.2.1 := by
  intro x; kernel_rfl
theorem G39_valid : G39_E.Valid Tryd.prog :=
  pureE_valid (by kernel_rfl) (by kernel_rfl) G39_ent (frz_lcall mixed Tryd.func39 rfl G39_ent G39_CV G39_LV (by kernel_rfl) (by kernel_rfl) G39_hev)
noncomputable def G40_C : CalT := tabC []
theorem G40_CV : CV Tryd.prog G40_C := tabC_valid (l := _) trivial
noncomputable def G40_l0_c : Code := loopAt (bodyOf Tryd.f40) 0
noncomputable def G40_l1_c : Code := loopAt G40_l0_c 0
noncomputable def G40_l1_S : SPat := ⟨[.any, .any, .fix (.bptr 0 []), .fix (.bptr 1 []), .any, .own 0 (.int .i64), .dat (.int .i64), .dat (.int .i64), .any, .any, .any, .any, .any, .any, .any, .any, .any, .any, .any, .any, .any, .any, .any, .any, .any, .any, .any, .any, .any, .any, .any, .any, .any, .any, .any, .any, .any, .any, .any, .any, .any, .any, .any, .any, .any, .any, .any, .any, .any, .any], [.dat T23, .dat T30], 1⟩
noncomputable def G40_l1_step (s : (((List Int) × (Int × (Int × Unit))) × (E23 × (E30 × Unit)))) : Option (Nat × (((List Int) × (Int × (Int × Unit))) × (E23 × (E30 × Unit)))) :=
  (bif (decide (s.1.2.2.1 < (List.length s.2.1.2.2.2.2.1 : Int))) then
  (bif (decide (0 ≤ s.1.2.2.1) && decide (s.1.2.2.1 < (List.length s.2.1.2.2.2.2.1 : Int))) then
    (bif ((List.getD s.2.1.2.2.2.2.1 (Int.toNat s.1.2.2.1) 0) == s.1.2.1) then
      (bif (decide (0 ≤ s.1.2.2.1) && decide (s.1.2.2.1 < (List.length s.2.2.1.2.2.1 : Int))) then
        (bif (decide (List.length s.1.1 + List.length [(List.getD s.2.2.1.2.2.1 (Int.toNat s.1.2.2.1) 0)] ≤ LIM)) then
          some (0, (((s.1.1 ++ [(List.getD s.2.2.1.2.2.1 (Int.toNat s.1.2.2.1) 0)]), (s.1.2.1, ((IntKind.wrap .i64 (s.1.2.2.1 + 1)), ()))), (s.2.1, (s.2.2.1, ()))))
          else
          none)
        else
        none)
      else
      some (0, ((s.1.1, (s.1.2.1, ((IntKind.wrap .i64 (s.1.2.2.1 + 1)), ()))), (s.2.1, (s.2.2.1, ())))))
    else
    none)
  else
  some (1, ((s.1.1, (s.1.2.1, (s.1.2.2.1, ()))), (s.2.1, (s.2.2.1, ())))))
noncomputable def G40_l1_fuel (s : (((List Int) × (Int × (Int × Unit))) × (E23 × (E30 × Unit)))) : Nat := Int.toNat ((List.length s.2.1.2.2.2.2.1 : Int) - s.1.2.2.1) + 1
noncomputable def G40_l1_run (s : (((List Int) × (Int × (Int × Unit))) × (E23 × (E30 × Unit)))) : Option (Nat × (((List Int) × (Int × (Int × Unit))) × (E23 × (E30 × Unit)))) := iter G40_l1_step (G40_l1_fuel s) s
noncomputable def G40_l1_L : LoopT := loopT G40_l1_S [.exit 2] G40_l1_run
noncomputable def G40_l0_S : SPat := ⟨[.any, .any, .fix (.bptr 0 []), .fix (.bptr 1 []), .any, .own 0 (.int .i64), .dat (.int .i64), .any, .any, .any, .any, .any, .any, .any, .any, .any, .any, .any, .any, .any, .any, .any, .any, .any, .any, .any, .any, .any, .any, .any, .any, .any, .any, .any, .any, .any, .any, .any, .any, .any, .any, .any, .any, .any, .any, .any, .any, .any, .any, .any], [.dat T23, .dat T30], 1⟩
noncomputable def G40_l0_step (s : (((List Int) × (Int × Unit)) × (E23 × (E30 × Unit)))) : Option (Nat × (((List Int) × (Int × Unit)) × (E23 × (E30 × Unit)))) :=
  (bif (decide (s.1.2.1 < s.2.1.2.2.2.1)) then
  (bif (decide (0 ≤ s.1.2.1) && decide (s.1.2.1 < (List.length s.2.2.1.1 : Int))) then
    (bif (decide (0 ≤ s.1.2.1) && decide (s.1.2.1 < (List.length s.2.2.1.2.1 : Int))) then
      (bif (decide (List.length s.1.1 + List.length [(List.getD s.2.2.1.1 (Int.toNat s.1.2.1) 0), (List.getD s.2.2.1.2.1 (Int.toNat s.1.2.1) 0)] ≤ LIM)) then
        (Option.bind (G40_l1_run (((s.1.1 ++ [(List.getD s.2.2.1.1 (Int.toNat s.1.2.1) 0), (List.getD s.2.2.1.2.1 (Int.toNat s.1.2.1) 0)]), (s.1.2.1, (0, ()))), (s.2.1, (s.2.2.1, ())))) fun q1 =>
          some (0, ((q1.2.1.1, ((IntKind.wrap .i64 (q1.2.1.2.1 + 1)), ())), (q1.2.2.1, (q1.2.2.2.1, ())))))
        else
        none)
      else
      none)
    else
    none)
  else
  some (1, ((s.1.1, (s.1.2.1, ())), (s.2.1, (s.2.2.1, ())))))
noncomputable def G40_l0_fuel (s : (((List Int) × (Int × Unit)) × (E23 × (E30 × Unit)))) : Nat := Int.toNat (s.2.1.2.2.2.1 - s.1.2.1) + 1
noncomputable def G40_l0_run (s : (((List Int) × (Int × Unit)) × (E23 × (E30 × Unit)))) : Option (Nat × (((List Int) × (Int × Unit)) × (E23 × (E30 × Unit)))) := iter G40_l0_step (G40_l0_fuel s) s
noncomputable def G40_l0_L : LoopT := loopT G40_l0_S [.exit 0] G40_l0_run
noncomputable def G40 (a0 : E23) (a1 : E30) : Option (List Int) :=
  (Option.bind (G40_l0_run (([], (0, ())), (a0, (a1, ())))) fun q2 =>
  some q2.2.1.1)
noncomputable def G40_E : CEnt := pureE 40 [.dat T23, .dat T30] (.dat (.list (.int .i64))) fun x => G40 x.1 x.2.1
theorem G40_l1_V : LValid 0 Tryd.prog (.loop G40_l1_c) G40_l1_L false := by
  exact loopT_valid (fuel := G40_l1_fuel) mixed G40_CV (lvNil _) (by kernel_rfl) (by decide) rfl (by intro s; kernel_rfl) (fun s r h => h)
theorem G40_l0_V : LValid 0 Tryd.prog (.loop G40_l0_c) G40_l0_L false := by
  have hb : ∀ s, codeR Tryd.prog G40_C G40_l0_c [G40_l1_L] (G40_l0_S.encE s) (G40_l0_S.encB s) (kst G40_l0_S [.exit 0]) = G40_l0_step s := by
    intro s; kernel_rfl
  have hl : loopsOf G40_l0_c = [.loop G40_l1_c] := by kernel_rfl
  have hL : LV 0 Tryd.prog false (loopsOf G40_l0_c) [G40_l1_L] := by rw [hl]; exact ⟨G40_l1_V, trivial⟩
  exact loopT_valid (fuel := G40_l0_fuel) mixed G40_CV hL (by kernel_rfl) (by decide) rfl hb (fun s r h => h)
theorem G40_LV : LV 0 Tryd.prog false (loopsOf (bodyOf Tryd.f40)) [G40_l0_L] := by
  have hl : loopsOf (bodyOf Tryd.f40) = [.loop G40_l0_c] := by kernel_rfl
  rw [hl]; exact ⟨G40_l0_V, trivial⟩
theorem G40_ent : Ent Tryd.prog 40 := ⟨by decide, enters_of Tryd.func40 (by kernel_rfl) rfl⟩
theorem G40_hev : ∀ x, fnR Tryd.prog G40_C [G40_l0_L] Tryd.f40 (bodyOf Tryd.f40) (encs [.dat T23, .dat T30] x) ⟨[], [], 0⟩ (frzF (.dat (.list (.int .i64)))) = G40 x.1 x.2.1 := by
  intro x; kernel_rfl
theorem G40_valid : G40_E.Valid Tryd.prog :=
  pureE_valid (by kernel_rfl) (by kernel_rfl) G40_ent (frz_lcall mixed Tryd.func40 rfl G40_ent G40_CV G40_LV (by kernel_rfl) (by kernel_rfl) G40_hev)
end Go.Proofs.YtibmgbalfhfcdaaDoor.Abs
