import Derived.Test.YtibmgbalfhfcdaaDoorF2
set_option linter.unusedVariables false
set_option maxRecDepth 100000
namespace Go.Proofs.YtibmgbalfhfcdaaDoor.Abs
open Go.Shelf Go.Sort
noncomputable def G56_C : CalT := tabC [G60_E]
theorem G56_CV : CV Tryd.prog G56_C := tabC_valid (l := _) ⟨G60_valid, trivial⟩
noncomputable def G56_l0_c : Code := loopAt (bodyOf Tryd.f56) 0
noncomputable def G56_l0_S : SPat := ⟨[.dat (.list (.int .i64)), .dat (.int .i64), .any, .any, .dat .bool, .dat (.int .i64), .any, .any, .any, .any, .any, .any, .any, .any, .any, .any, .any, .any, .any, .any, .any, .any, .any, .any, .any, .any, .any, .any, .any, .any, .any, .any, .any, .any, .any, .any], [], 0⟩
noncomputable def G56_l0_step (s : (((List Int) × (Int × (Bool × (Int × Unit)))) × Unit)) : Option (Nat × (((List Int) × (Int × (Bool × (Int × Unit)))) × Unit)) :=
  (bif (decide (s.1.2.2.2.1 < (List.length s.1.1 : Int))) then
  (bif (decide (0 ≤ s.1.2.2.2.1) && decide (s.1.2.2.2.1 < (List.length s.1.1 : Int))) then
    (Option.bind (G60 (List.getD s.1.1 (Int.toNat s.1.2.2.2.1) 0) 0 (IntKind.wrap .i64 (s.1.2.1 - 1))) fun r1 =>
      (bif (!r1) then
        some (1, ((s.1.1, (s.1.2.1, (false, (s.1.2.2.2.1, ())))), ()))
        else
        (bif (decide (s.1.2.2.2.1 > 0)) then
          (bif (decide (0 ≤ s.1.2.2.2.1) && decide (s.1.2.2.2.1 < (List.length s.1.1 : Int))) then
            (bif (decide (0 ≤ (IntKind.wrap .i64 (s.1.2.2.2.1 - 1))) && decide ((IntKind.wrap .i64 (s.1.2.2.2.1 - 1)) < (List.length s.1.1 : Int))) then
              (bif (decide ((List.getD s.1.1 (Int.toNat s.1.2.2.2.1) 0) ≤ (List.getD s.1.1 (Int.toNat (IntKind.wrap .i64 (s.1.2.2.2.1 - 1))) 0))) then
                some (1, ((s.1.1, (s.1.2.1, (false, (s.1.2.2.2.1, ())))), ()))
                else
                some (0, ((s.1.1, (s.1.2.1, (s.1.2.2.1, ((IntKind.wrap .i64 (s.1.2.2.2.1 + 1)), ())))), ())))
              else
              none)
            else
            none)
          else
          some (0, ((s.1.1, (s.1.2.1, (s.1.2.2.1, ((IntKind.wrap .i64 (s.1.2.2.2.1 + 1)), ())))), ())))))
    else
    none)
  else
  some (2, ((s.1.1, (s.1.2.1, (s.1.2.2.1, (s.1.2.2.2.1, ())))), ())))
noncomputable def G56_l0_fuel (s : (((List Int) × (Int × (Bool × (Int × Unit)))) × Unit)) : Nat := Int.toNat ((List.length s.1.1 : Int) - s.1.2.2.2.1) + 1
noncomputable def G56_l0_run (s : (((List Int) × (Int × (Bool × (Int × Unit)))) × Unit)) : Option (Nat × (((List Int) × (Int × (Bool × (Int × Unit)))) × Unit)) := iter G56_l0_step (G56_l0_fuel s) s
noncomputable def G56_l0_L : LoopT := loopT G56_l0_S [.ret, .exit 0] G56_l0_run
noncomputable def G56 (a0 : (List Int)) (a1 : Int) : Option Bool :=
  (Option.bind (G56_l0_run ((a0, (a1, (false, (0, ())))), ())) fun q2 =>
  (natK q2.1
    (some q2.2.1.2.2.1)
    (fun _ => some true)))
noncomputable def G56_E : CEnt := pureE 56 [.dat (.list (.int .i64)), .dat (.int .i64)] (.dat .bool) fun x => G56 x.1 x.2.1
theorem G56_l0_V : LValid 0 Tryd.prog (.loop G56_l0_c) G56_l0_L false := by
  exact loopT_valid (fuel := G56_l0_fuel) mixed G56_CV (lvNil _) (by kernel_rfl) (by decide) rfl (by intro s; kernel_rfl) (fun s r h => h)
theorem G56_LV : LV 0 Tryd.prog false (loopsOf (bodyOf Tryd.f56)) [G56_l0_L] := by
  have hl : loopsOf (bodyOf Tryd.f56) = [.loop G56_l0_c] := by kernel_rfl
  rw [hl]; exact ⟨G56_l0_V, trivial⟩
theorem G56_ent : Ent Tryd.prog 56 := ⟨by decide, enters_of Tryd.func56 (by kernel_rfl) rfl⟩
theorem G56_hev : ∀ x, fnR Tryd.prog G56_C [G56_l0_L] Tryd.f56 (bodyOf Tryd.f56) (encs [.dat (.list (.int .i64)), .dat (.int .i64)] x) ⟨[], [], 0⟩ (frzF (.dat .bool)) = G56 x.1 x.2.1 := by
  intro x; kernel_rfl
theorem G56_valid : G56_E.Valid Tryd.prog :=
  pureE_valid (by kernel_rfl) (by kernel_rfl) G56_ent (frz_lcall mixed Tryd.func56 rfl G56_ent G56_CV G56_LV (by kernel_rfl) (by kernel_rfl) G56_hev)
noncomputable def G18_C : CalT := tabC [G56_E]
theorem G18_CV : CV Tryd.prog G18_C := tabC_valid (l := _) ⟨G56_valid, trivial⟩
noncomputable def G18 (a0 : E23) (a1 : E26) : Option Bool :=
  (Option.bind (G56 a1.1 (List.length a0.2.2.2.2.1 : Int)) fun r1 =>
  (bif r1 then
    (Option.bind (G56 a1.2.1 a0.2.2.2.1) fun r2 =>
      some r2)
    else
    some false))
noncomputable def G18_E : CEnt := pureE 18 [.dat T23, .dat T26] (.dat .bool) fun x => G18 x.1 x.2.1
theorem G18_LV : LV 0 Tryd.prog false (loopsOf (bodyOf Tryd.f18)) [] := by unfold LV; cases loopsOf (bodyOf Tryd.f18) <;> trivial
theorem G18_ent : Ent Tryd.prog 18 := ⟨by decide, enters_of Tryd.func18 (by kernel_rfl) rfl⟩
theorem G18_hev : ∀ x, fnR Tryd.prog G18_C [] Tryd.f18 (bodyOf Tryd.f18) (encs [.dat T23, .dat T26] x) ⟨[], [], 0⟩ (frzF (.dat .bool)) = G18 x.1 x.2.1 := by
  intro x; kernel_rfl
theorem G18_valid : G18_E.Valid Tryd.prog :=
  pureE_valid (by kernel_rfl) (by kernel_rfl) G18_ent (frz_lcall mixed Tryd.func18 rfl G18_ent G18_CV G18_LV (by kernel_rfl) (by kernel_rfl) G18_hev)
noncomputable def G29_C : CalT := tabC []
theorem G29_CV : CV Tryd.prog G29_C := tabC_valid (l := _) trivial
noncomputable def G29_l0_c : Code := loopAt (bodyOf Tryd.f29) 0
noncomputable def G29_l0_S : SPat := ⟨[.dat (.list (.int .i64)), .dat (.int .i64), .any, .any, .dat .bool, .dat (.int .i64), .any, .any, .any, .any, .any, .any, .any, .any, .any, .any, .any, .any], [], 0⟩
noncomputable def G29_l0_step (s : (((List Int) × (Int × (Bool × (Int × Unit)))) × Unit)) : Option (Nat × (((List Int) × (Int × (Bool × (Int × Unit)))) × Unit)) :=
  (bif (decide (s.1.2.2.2.1 < (List.length s.1.1 : Int))) then
  (bif (decide (0 ≤ s.1.2.2.2.1) && decide (s.1.2.2.2.1 < (List.length s.1.1 : Int))) then
    (bif ((List.getD s.1.1 (Int.toNat s.1.2.2.2.1) 0) == s.1.2.1) then
      some (1, ((s.1.1, (s.1.2.1, (true, (s.1.2.2.2.1, ())))), ()))
      else
      some (0, ((s.1.1, (s.1.2.1, (s.1.2.2.1, ((IntKind.wrap .i64 (s.1.2.2.2.1 + 1)), ())))), ())))
    else
    none)
  else
  some (2, ((s.1.1, (s.1.2.1, (s.1.2.2.1, (s.1.2.2.2.1, ())))), ())))
noncomputable def G29_l0_fuel (s : (((List Int) × (Int × (Bool × (Int × Unit)))) × Unit)) : Nat := Int.toNat ((List.length s.1.1 : Int) - s.1.2.2.2.1) + 1
noncomputable def G29_l0_run (s : (((List Int) × (Int × (Bool × (Int × Unit)))) × Unit)) : Option (Nat × (((List Int) × (Int × (Bool × (Int × Unit)))) × Unit)) := iter G29_l0_step (G29_l0_fuel s) s
noncomputable def G29_l0_L : LoopT := loopT G29_l0_S [.ret, .exit 0] G29_l0_run
noncomputable def G29 (a0 : (List Int)) (a1 : Int) : Option Bool :=
  (Option.bind (G29_l0_run ((a0, (a1, (false, (0, ())))), ())) fun q1 =>
  (natK q1.1
    (some q1.2.1.2.2.1)
    (fun _ => some false)))
noncomputable def G29_E : CEnt := pureE 29 [.dat (.list (.int .i64)), .dat (.int .i64)] (.dat .bool) fun x => G29 x.1 x.2.1
theorem G29_l0_V : LValid 0 Tryd.prog (.loop G29_l0_c) G29_l0_L false := by
  exact loopT_valid (fuel := G29_l0_fuel) mixed G29_CV (lvNil _) (by kernel_rfl) (by decide) rfl (by intro s; kernel_rfl) (fun s r h => h)
theorem G29_LV : LV 0 Tryd.prog false (loopsOf (bodyOf Tryd.f29)) [G29_l0_L] := by
  have hl : loopsOf (bodyOf Tryd.f29) = [.loop G29_l0_c] := by kernel_rfl
  rw [hl]; exact ⟨G29_l0_V, trivial⟩
theorem G29_ent : Ent Tryd.prog 29 := ⟨by decide, enters_of Tryd.func29 (by kernel_rfl) rfl⟩
theorem G29_hev : ∀ x, fnR Tryd.prog G29_C [G29_l0_L] Tryd.f29 (bodyOf Tryd.f29) (encs [.dat (.list (.int .i64)), .dat (.int .i64)] x) ⟨[], [], 0⟩ (frzF (.dat .bool)) = G29 x.1 x.2.1 := by
  intro x; kernel_rfl
theorem G29_valid : G29_E.Valid Tryd.prog :=
  pureE_valid (by kernel_rfl) (by kernel_rfl) G29_ent (frz_lcall mixed Tryd.func29 rfl G29_ent G29_CV G29_LV (by kernel_rfl) (by kernel_rfl) G29_hev)
noncomputable def G21_C : CalT := tabC [G60_E]
theorem G21_CV : CV Tryd.prog G21_C := tabC_valid (l := _) ⟨G60_valid, trivial⟩
noncomputable def G21_l0_c : Code := loopAt (bodyOf Tryd.f21) 0
noncomputable def G21_l1_c : Code := loopAt (bodyOf Tryd.f21) 1
noncomputable def G21_l0_S : SPat := ⟨[.any, .any, .fix (.bptr 0 []), .fix (.bptr 1 []), .dat .bool, .dat (.int .i64), .any, .any, .any, .any, .any, .any, .any, .any, .any, .any, .any, .any, .any, .any, .any, .any, .any, .any, .any, .any, .any, .any, .any, .any, .any, .any, .any, .any, .any, .any, .any, .any, .any, .any, .any, .any, .any, .any, .any, .any, .any, .any, .any, .any, .any, .any, .any, .any, .any, .any, .any, .any, .any, .any, .any, .any, .any, .any, .any, .any, .any, .any, .any, .any, .any, .any, .any, .any, .any, .any], [.dat T23, .dat T30], 0⟩
noncomputable def G21_l0_step (s : ((Bool × (Int × Unit)) × (E23 × (E30 × Unit)))) : Option (Nat × ((Bool × (Int × Unit)) × (E23 × (E30 × Unit)))) :=
  (bif (decide (s.1.2.1 < s.2.1.2.2.2.1)) then
  (bif (decide (0 ≤ s.1.2.1) && decide (s.1.2.1 < (List.length s.2.2.1.1 : Int))) then
    (Option.bind (G60 (List.getD s.2.2.1.1 (Int.toNat s.1.2.1) 0) 2000 3200) fun r1 =>
      (bif (!r1) then
        some (1, ((false, (s.1.2.1, ())), (s.2.1, (s.2.2.1, ()))))
        else
        (bif (decide (0 ≤ s.1.2.1) && decide (s.1.2.1 < (List.length s.2.2.1.2.1 : Int))) then
          (Option.bind (G60 (List.getD s.2.2.1.2.1 (Int.toNat s.1.2.1) 0) (IntKind.wrap .i64 (0 - s.2.1.2.2.1)) s.2.1.2.2.1) fun r2 =>
            (bif (!r2) then
              some (1, ((false, (s.1.2.1, ())), (s.2.1, (s.2.2.1, ()))))
              else
              some (0, ((s.1.1, ((IntKind.wrap .i64 (s.1.2.1 + 1)), ())), (s.2.1, (s.2.2.1, ()))))))
          else
          none)))
    else
    none)
  else
  some (2, ((s.1.1, (s.1.2.1, ())), (s.2.1, (s.2.2.1, ())))))
noncomputable def G21_l0_fuel (s : ((Bool × (Int × Unit)) × (E23 × (E30 × Unit)))) : Nat := Int.toNat (s.2.1.2.2.2.1 - s.1.2.1) + 1
noncomputable def G21_l0_run (s : ((Bool × (Int × Unit)) × (E23 × (E30 × Unit)))) : Option (Nat × ((Bool × (Int × Unit)) × (E23 × (E30 × Unit)))) := iter G21_l0_step (G21_l0_fuel s) s
noncomputable def G21_l0_L : LoopT := loopT G21_l0_S [.ret, .exit 0] G21_l0_run
noncomputable def G21_l1_S : SPat := ⟨[.any, .any, .fix (.bptr 0 []), .fix (.bptr 1 []), .dat .bool, .any, .dat (.int .i64), .any, .any, .any, .any, .any, .any, .any, .any, .any, .any, .any, .any, .any, .any, .any, .any, .any, .any, .any, .any, .any, .any, .any, .any, .any, .any, .any, .any, .any, .any, .any, .any, .any, .any, .any, .any, .any, .any, .any, .any, .any, .any, .any, .any, .any, .any, .any, .any, .any, .any, .any, .any, .any, .any, .any, .any, .any, .any, .any, .any, .any, .any, .any, .any, .any, .any, .any, .any, .any], [.dat T23, .dat T30], 0⟩
noncomputable def G21_l1_step (s : ((Bool × (Int × Unit)) × (E23 × (E30 × Unit)))) : Option (Nat × ((Bool × (Int × Unit)) × (E23 × (E30 × Unit)))) :=
  (bif (decide (s.1.2.1 < (List.length s.2.1.2.2.2.2.1 : Int))) then
  (bif (decide (0 ≤ s.1.2.1) && decide (s.1.2.1 < (List.length s.2.2.1.2.2.1 : Int))) then
    (Option.bind (G60 (List.getD s.2.2.1.2.2.1 (Int.toNat s.1.2.1) 0) (IntKind.wrap .i64 (0 - s.2.1.2.1)) s.2.1.2.1) fun r4 =>
      (bif (!r4) then
        some (1, ((false, (s.1.2.1, ())), (s.2.1, (s.2.2.1, ()))))
        else
        some (0, ((s.1.1, ((IntKind.wrap .i64 (s.1.2.1 + 1)), ())), (s.2.1, (s.2.2.1, ()))))))
    else
    none)
  else
  some (2, ((s.1.1, (s.1.2.1, ())), (s.2.1, (s.2.2.1, ())))))
noncomputable def G21_l1_fuel (s : ((Bool × (Int × Unit)) × (E23 × (E30 × Unit)))) : Nat := Int.toNat ((List.length s.2.1.2.2.2.2.1 : Int) - s.1.2.1) + 1
noncomputable def G21_l1_run (s : ((Bool × (Int × Unit)) × (E23 × (E30 × Unit)))) : Option (Nat × ((Bool × (Int × Unit)) × (E23 × (E30 × Unit)))) := iter G21_l1_step (G21_l1_fuel s) s
noncomputable def G21_l1_L : LoopT := loopT G21_l1_S [.ret, .exit 2] G21_l1_run
noncomputable def G21 (a0 : E23) (a1 : E30) : Option Bool :=
  (bif ((List.length a1.1 : Int) != a0.2.2.2.1) then
  some false
  else
  (bif ((List.length a1.2.1 : Int) != a0.2.2.2.1) then
    some false
    else
    (bif ((List.length a1.2.2.1 : Int) != (List.length a0.2.2.2.2.1 : Int)) then
      some false
      else
      (Option.bind (G21_l0_run ((false, (0, ())), (a0, (a1, ())))) fun q3 =>
        (natK q3.1
          (some q3.2.1.1)
          (fun _ => (Option.bind (G21_l1_run ((q3.2.1.1, (0, ())), (q3.2.2.1, (q3.2.2.2.1, ())))) fun q5 =>
            (natK q5.1
              (some q5.2.1.1)
              (fun _ => some true)))))))))
noncomputable def G21_E : CEnt := pureE 21 [.dat T23, .dat T30] (.dat .bool) fun x => G21 x.1 x.2.1
theorem G21_l0_V : LValid 0 Tryd.prog (.loop G21_l0_c) G21_l0_L false := by
  exact loopT_valid (fuel := G21_l0_fuel) mixed G21_CV (lvNil _) (by kernel_rfl) (by decide) rfl (by intro s; kernel_rfl) (fun s r h => h)
theorem G21_l1_V : LValid 0 Tryd.prog (.loop G21_l1_c) G21_l1_L false := by
  exact loopT_valid (fuel := G21_l1_fuel) mixed G21_CV (lvNil _) (by kernel_rfl) (by decide) rfl (by intro s; kernel_rfl) (fun s r h => h)
theorem G21_LV : LV 0 Tryd.prog false (loopsOf (bodyOf Tryd.f21)) [G21_l0_L, G21_l1_L] := by
  have hl : loopsOf (bodyOf Tryd.f21) = [.loop G21_l0_c, .loop G21_l1_c] := by kernel_rfl
  rw [hl]; exact ⟨G21_l0_V, G21_l1_V, trivial⟩
theorem G21_ent : Ent Tryd.prog 21 := ⟨by decide, enters_of Tryd.func21 (by kernel_rfl) rfl⟩
theorem G21_hev : ∀ x, fnR Tryd.prog G21_C [G21_l0_L, G21_l1_L] Tryd.f21 (bodyOf Tryd.f21) (encs [.dat T23, .dat T30] x) ⟨[], [], 0⟩ (frzF (.dat .bool)) = G21 x.1 x.2.1 := by
  intro x; kernel_rfl
theorem G21_valid : G21_E.Valid Tryd.prog :=
  pureE_valid (by kernel_rfl) (by kernel_rfl) G21_ent (frz_lcall mixed Tryd.func21 rfl G21_ent G21_CV G21_LV (by kernel_rfl) (by kernel_rfl) G21_hev)
noncomputable def G61_C : CalT := tabC []
theorem G61_CV : CV Tryd.prog G61_C := tabC_valid (l := _) trivial
noncomputable def G61 (a0 : E23) (a1 : E30) (a2 : Int) (a3 : Int) : Option Int :=
  (bif (decide (0 ≤ a2) && decide (a2 < (List.length a0.2.2.2.2.1 : Int))) then
  (bif (decide (0 ≤ (List.getD a0.2.2.2.2.1 (Int.toNat a2) 0)) && decide ((List.getD a0.2.2.2.2.1 (Int.toNat a2) 0) < (List.length a1.1 : Int))) then
    (bif (decide (0 ≤ (List.getD a0.2.2.2.2.1 (Int.toNat a2) 0)) && decide ((List.getD a0.2.2.2.2.1 (Int.toNat a2) 0) < (List.length a1.2.1 : Int))) then
      (bif (decide (0 ≤ a2) && decide (a2 < (List.length a1.2.2.1 : Int))) then
        some (IntKind.wrap .i64 ((List.getD a1.1 (Int.toNat (List.getD a0.2.2.2.2.1 (Int.toNat a2) 0)) 0) + (IntKind.wrap .i64 ((IntKind.wrap .i64 ((List.getD a1.2.1 (Int.toNat (List.getD a0.2.2.2.2.1 (Int.toNat a2) 0)) 0) + (List.getD a1.2.2.1 (Int.toNat a2) 0))) * a3))))
        else
        none)
      else
      none)
    else
    none)
  else
  none)
noncomputable def G61_E : CEnt := pureE 61 [.dat T23, .dat T30, .dat (.int .i64), .dat (.int .i64)] (.dat (.int .i64)) fun x => G61 x.1 x.2.1 x.2.2.1 x.2.2.2.1
theorem G61_LV : LV 0 Tryd.prog false (loopsOf (bodyOf Tryd.f61)) [] := by unfold LV; cases loopsOf (bodyOf Tryd.f61) <;> trivial
theorem G61_ent : Ent Tryd.prog 61 := ⟨by decide, enters_of Tryd.func61 (by kernel_rfl) rfl⟩
theorem G61_hev : ∀ x, fnR Tryd.prog G61_C [] Tryd.f61 (bodyOf Tryd.f61) (encs [.dat T23, .dat T30, .dat (.int .i64), .dat (.int .i64)] x) ⟨[], [], 0⟩ (frzF (.dat (.int .i64))) = G61 x.1 x.2.1 x.2.2.1 x.2.2.2.1 := by
  intro x; kernel_rfl
theorem G61_valid : G61_E.Valid Tryd.prog :=
  pureE_valid (by kernel_rfl) (by kernel_rfl) G61_ent (frz_lcall mixed Tryd.func61 rfl G61_ent G61_CV G61_LV (by kernel_rfl) (by kernel_rfl) G61_hev)
noncomputable def G22_C : CalT := tabC [G61_E, G60_E]
theorem G22_CV : CV Tryd.prog G22_C := tabC_valid (l := _) ⟨G61_valid, G60_valid, trivial⟩
noncomputable def G22_l0_c : Code := loopAt (bodyOf Tryd.f22) 0
noncomputable def G22_l0_S : SPat := ⟨[.any, .dat (.list T72), .any, .fix (.bptr 0 []), .any, .fix (.bptr 1 []), .dat .bool, .dat (.int .i64), .any, .any, .any, .any, .any, .any, .any, .any, .any, .any, .any, .any, .any, .any, .any, .any, .any, .any, .any, .any, .any, .any, .any, .any, .any, .any, .any, .any, .any, .any, .any, .any, .any, .any, .any], [.dat T23, .dat T30], 0⟩
noncomputable def G22_l0_step (s : (((List E72) × (Bool × (Int × Unit))) × (E23 × (E30 × Unit)))) : Option (Nat × (((List E72) × (Bool × (Int × Unit))) × (E23 × (E30 × Unit)))) :=
  (bif (decide (s.1.2.2.1 < (List.length s.1.1 : Int))) then
  (bif (decide (0 ≤ s.1.2.2.1) && decide (s.1.2.2.1 < (List.length s.1.1 : Int))) then
    (bif (decide (0 ≤ s.1.2.2.1) && decide (s.1.2.2.1 < (List.length s.1.1 : Int))) then
      (Option.bind (G61 s.2.1 s.2.2.1 ((List.getD s.1.1 (Int.toNat s.1.2.2.1) (0, (0, (0, ())))).1) ((List.getD s.1.1 (Int.toNat s.1.2.2.1) (0, (0, (0, ())))).2.1)) fun r1 =>
        (bif (decide (0 ≤ s.1.2.2.1) && decide (s.1.2.2.1 < (List.length s.1.1 : Int))) then
          (Option.bind (G60 ((List.getD s.1.1 (Int.toNat s.1.2.2.1) (0, (0, (0, ())))).2.2.1) (IntKind.wrap .i64 (r1 - s.2.1.1)) (IntKind.wrap .i64 (r1 + s.2.1.1))) fun r2 =>
            (bif (!r2) then
              some (1, ((s.1.1, (false, (s.1.2.2.1, ()))), (s.2.1, (s.2.2.1, ()))))
              else
              some (0, ((s.1.1, (s.1.2.1, ((IntKind.wrap .i64 (s.1.2.2.1 + 1)), ()))), (s.2.1, (s.2.2.1, ()))))))
          else
          none))
      else
      none)
    else
    none)
  else
  some (2, ((s.1.1, (s.1.2.1, (s.1.2.2.1, ()))), (s.2.1, (s.2.2.1, ())))))
noncomputable def G22_l0_fuel (s : (((List E72) × (Bool × (Int × Unit))) × (E23 × (E30 × Unit)))) : Nat := Int.toNat ((List.length s.1.1 : Int) - s.1.2.2.1) + 1
noncomputable def G22_l0_run (s : (((List E72) × (Bool × (Int × Unit))) × (E23 × (E30 × Unit)))) : Option (Nat × (((List E72) × (Bool × (Int × Unit))) × (E23 × (E30 × Unit)))) := iter G22_l0_step (G22_l0_fuel s) s
noncomputable def G22_l0_L : LoopT := loopT G22_l0_S [.ret, .exit 0] G22_l0_run
noncomputable def G22 (a0 : E23) (a1 : (List E72)) (a2 : E30) : Option Bool :=
  (Option.bind (G22_l0_run ((a1, (false, (0, ()))), (a0, (a2, ())))) fun q3 =>
  (natK q3.1
    (some q3.2.1.2.1)
    (fun _ => some true)))
noncomputable def G22_E : CEnt := pureE 22 [.dat T23, .dat (.list T72), .dat T30] (.dat .bool) fun x => G22 x.1 x.2.1 x.2.2.1
theorem G22_l0_V : LValid 0 Tryd.prog (.loop G22_l0_c) G22_l0_L false := by
  exact loopT_valid (fuel := G22_l0_fuel) mixed G22_CV (lvNil _) (by kernel_rfl) (by decide) rfl (by intro s; kernel_rfl) (fun s r h => h)
theorem G22_LV : LV 0 Tryd.prog false (loopsOf (bodyOf Tryd.f22)) [G22_l0_L] := by
  have hl : loopsOf (bodyOf Tryd.f22) = [.loop G22_l0_c] := by kernel_rfl
  rw [hl]; exact ⟨G22_l0_V, trivial⟩
theorem G22_ent : Ent Tryd.prog 22 := ⟨by decide, enters_of Tryd.func22 (by kernel_rfl) rfl⟩
theorem G22_hev : ∀ x, fnR Tryd.prog G22_C [G22_l0_L] Tryd.f22 (bodyOf Tryd.f22) (encs [.dat T23, .dat (.list T72), .dat T30] x) ⟨[], [], 0⟩ (frzF (.dat .bool)) = G22 x.1 x.2.1 x.2.2.1 := by
  intro x; kernel_rfl
theorem G22_valid : G22_E.Valid Tryd.prog :=
  pureE_valid (by kernel_rfl) (by kernel_rfl) G22_ent (frz_lcall mixed Tryd.func22 rfl G22_ent G22_CV G22_LV (by kernel_rfl) (by kernel_rfl) G22_hev)
noncomputable def G23_C : CalT := tabC []
theorem G23_CV : CV Tryd.prog G23_C := tabC_valid (l := _) trivial
noncomputable def G23 (a0 : E23) : Option Int :=
  some (IntKind.wrap .i64 ((List.length a0.2.2.2.2.1 : Int) + a0.2.2.2.1))
noncomputable def G23_E : CEnt := pureE 23 [.dat T23] (.dat (.int .i64)) fun x => G23 x.1
theorem G23_LV : LV 0 Tryd.prog false (loopsOf (bodyOf Tryd.f23)) [] := by unfold LV; cases loopsOf (bodyOf Tryd.f23) <;> trivial
theorem G23_ent : Ent Tryd.prog 23 := ⟨by decide, enters_of Tryd.func23 (by kernel_rfl) rfl⟩
theorem G23_hev : ∀ x, fnR Tryd.prog G23_C [] Tryd.f23 (bodyOf Tryd.f23) (encs [.dat T23] x) ⟨[], [], 0⟩ (frzF (.dat (.int .i64))) = G23 x.1 := by
  intro x; kernel_rfl
theorem G23_valid : G23_E.Valid Tryd.prog :=
  pureE_valid (by kernel_rfl) (by kernel_rfl) G23_ent (frz_lcall mixed Tryd.func23 rfl G23_ent G23_CV G23_LV (by kernel_rfl) (by kernel_rfl) G23_hev)
noncomputable def G24_C : CalT := tabC []
theorem G24_CV : CV Tryd.prog G24_C := tabC_valid (l := _) trivial
noncomputable def G24_l0_c : Code := loopAt (bodyOf Tryd.f24) 0
noncomputable def G24_l1_c : Code := loopAt (bodyOf Tryd.f24) 1
noncomputable def G24_l0_S : SPat := ⟨[.any, .fix (.bptr 0 []), .fix (.bptr 1 []), .fix (.bptr 2 []), .dat (.int .i64), .any, .any, .any, .any, .any, .any, .any, .any, .any, .any, .any, .any, .any, .any, .any, .any, .any, .any, .any, .any, .any, .any, .any, .any, .any, .any, .any, .any, .any, .any, .any, .any, .any, .any, .any, .any, .any, .any, .any, .any], [.dat T30, .cons (.own 0 (.int .i64)) (.cons (.own 1 (.int .i64)) (.nil)), .cons (.own 2 (.int .i64)) (.cons (.own 3 (.int .i64)) (.nil))], 4⟩
abbrev TY106 : Type := ((Int × Unit) × (E30 × (((List Int) × ((List Int) × Unit)) × (((List Int) × ((List Int) × Unit)) × Unit))))
abbrev TY107 : Type := (Nat × ((Int × Unit) × (E30 × (((List Int) × ((List Int) × Unit)) × (((List Int) × ((List Int) × Unit)) × Unit)))))
noncomputable def G24_l0_step (s : TY106) : Option TY107 :=
  (bif (decide (s.1.1 < (List.length s.2.1.2.2.1 : Int))) then
  (bif (decide (0 ≤ s.1.1) && decide (s.1.1 < (List.length s.2.1.2.2.1 : Int))) then
    (bif ((List.getD s.2.1.2.2.1 (Int.toNat s.1.1) 0) != 0) then
      (bif (decide (List.length s.2.2.2.1.1 + List.length [s.1.1] ≤ LIM)) then
        some (0, (((IntKind.wrap .i64 (s.1.1 + 1)), ()), (s.2.1, (s.2.2.1, (((s.2.2.2.1.1 ++ [s.1.1]), s.2.2.2.1.2), ())))))
        else
        none)
      else
      some (0, (((IntKind.wrap .i64 (s.1.1 + 1)), ()), (s.2.1, (s.2.2.1, (s.2.2.2.1, ()))))))
    else
    none)
  else
  some (1, ((s.1.1, ()), (s.2.1, (s.2.2.1, (s.2.2.2.1, ()))))))
noncomputable def G24_l0_fuel (s : TY106) : Nat := Int.toNat ((List.length s.2.1.2.2.1 : Int) - s.1.1) + 1
noncomputable def G24_l0_run (s : TY106) : Option TY107 := iter G24_l0_step (G24_l0_fuel s) s
noncomputable def G24_l0_L : LoopT := loopT G24_l0_S [.exit 0] G24_l0_run
noncomputable def G24_l1_S : SPat := ⟨[.any, .fix (.bptr 0 []), .fix (.bptr 1 []), .fix (.bptr 2 []), .any, .dat (.int .i64), .any, .any, .any, .any, .any, .any, .any, .any, .any, .any, .any, .any, .any, .any, .any, .any, .any, .any, .any, .any, .any, .any, .any, .any, .any, .any, .any, .any, .any, .any, .any, .any, .any, .any, .any, .any, .any, .any, .any], [.dat T30, .cons (.own 0 (.int .i64)) (.cons (.own 1 (.int .i64)) (.nil)), .cons (.own 2 (.int .i64)) (.cons (.own 3 (.int .i64)) (.nil))], 4⟩
noncomputable def G24_l1_step (s : TY106) : Option TY107 :=
  (bif (decide (s.1.1 < (List.length s.2.1.2.1 : Int))) then
  (bif (decide (0 ≤ s.1.1) && decide (s.1.1 < (List.length s.2.1.2.1 : Int))) then
    (bif ((List.getD s.2.1.2.1 (Int.toNat s.1.1) 0) != 0) then
      (bif (decide (List.length s.2.2.2.1.2.1 + List.length [s.1.1] ≤ LIM)) then
        some (0, (((IntKind.wrap .i64 (s.1.1 + 1)), ()), (s.2.1, (s.2.2.1, ((s.2.2.2.1.1, ((s.2.2.2.1.2.1 ++ [s.1.1]), s.2.2.2.1.2.2)), ())))))
        else
        none)
      else
      some (0, (((IntKind.wrap .i64 (s.1.1 + 1)), ()), (s.2.1, (s.2.2.1, (s.2.2.2.1, ()))))))
    else
    none)
  else
  some (1, ((s.1.1, ()), (s.2.1, (s.2.2.1, (s.2.2.2.1, ()))))))
noncomputable def G24_l1_fuel (s : TY106) : Nat := Int.toNat ((List.length s.2.1.2.1 : Int) - s.1.1) + 1
noncomputable def G24_l1_run (s : TY106) : Option TY107 := iter G24_l1_step (G24_l1_fuel s) s
noncomputable def G24_l1_L : LoopT := loopT G24_l1_S [.exit 2] G24_l1_run
noncomputable def G24 (a0 : E30) : Option E26 :=
  (Option.bind (G24_l0_run ((0, ()), (a0, (([], ([], ())), (([], ([], ())), ()))))) fun q1 =>
  (Option.bind (G24_l1_run ((0, ()), (q1.2.2.1, (q1.2.2.2.1, (q1.2.2.2.2.1, ()))))) fun q2 =>
    some q2.2.2.2.2.1))
noncomputable def G24_E : CEnt := pureE 24 [.dat T30] (.dat T26) fun x => G24 x.1
theorem G24_l0_V : LValid 0 Tryd.prog (.loop G24_l0_c) G24_l0_L false := by
  exact loopT_valid (fuel := G24_l0_fuel) mixed G24_CV (lvNil _) (by kernel_rfl) (by decide) rfl (by intro s; kernel_rfl) (fun s r h => h)
theorem G24_l1_V : LValid 0 Tryd.prog (.loop G24_l1_c) G24_l1_L false := by
  exact loopT_valid (fuel := G24_l1_fuel) mixed G24_CV (lvNil _) (by kernel_rfl) (by decide) rfl (by intro s; kernel_rfl) (fun s r h => h)
theorem G24_LV : LV 0 Tryd.prog false (loopsOf (bodyOf Tryd.f24)) [G24_l0_L, G24_l1_L] := by
  have hl : loopsOf (bodyOf Tryd.f24) = [.loop G24_l0_c, .loop G24_l1_c] := by kernel_rfl
  rw [hl]; exact ⟨G24_l0_V, G24_l1_V, trivial⟩
theorem G24_ent : Ent Tryd.prog 24 := ⟨by decide, enters_of Tryd.func24 (by kernel_rfl) rfl⟩
theorem G24_hev : ∀ x, fnR Tryd.prog G24_C [G24_l0_L, G24_l1_L] Tryd.f24 (bodyOf Tryd.f24) (encs [.dat T30] x) ⟨[], [], 0⟩ (frzF (.dat T26)) = G24 x.1 := by
  intro x; kernel_rfl
theorem G24_valid : G24_E.Valid Tryd.prog :=
  pureE_valid (by kernel_rfl) (by kernel_rfl) G24_ent (frz_lcall mixed Tryd.func24 rfl G24_ent G24_CV G24_LV (by kernel_rfl) (by kernel_rfl) G24_hev)
noncomputable def G27_C : CalT := tabC []
theorem G27_CV : CV Tryd.prog G27_C := tabC_valid (l := _) trivial
noncomputable def G27 (a0 : E26) : Option Int :=
  some (IntKind.wrap .i64 ((List.length a0.1 : Int) + (List.length a0.2.1 : Int)))
noncomputable def G27_E : CEnt := pureE 27 [.dat T26] (.dat (.int .i64)) fun x => G27 x.1
theorem G27_LV : LV 0 Tryd.prog false (loopsOf (bodyOf Tryd.f27)) [] := by unfold LV; cases loopsOf (bodyOf Tryd.f27) <;> trivial
theorem G27_ent : Ent Tryd.prog 27 := ⟨by decide, enters_of Tryd.func27 (by kernel_rfl) rfl⟩
theorem G27_hev : ∀ x, fnR Tryd.prog G27_C [] Tryd.f27 (bodyOf Tryd.f27) (encs [.dat T26] x) ⟨[], [], 0⟩ (frzF (.dat (.int .i64))) = G27 x.1 := by
  intro x; kernel_rfl
theorem G27_valid : G27_E.Valid Tryd.prog :=
  pureE_valid (by kernel_rfl) (by kernel_rfl) G27_ent (frz_lcall mixed Tryd.func27 rfl G27_ent G27_CV G27_LV (by kernel_rfl) (by kernel_rfl) G27_hev)
end Go.Proofs.YtibmgbalfhfcdaaDoor.Abs
set_option linter.unusedVariables false
set_option maxRecDepth 100000
namespace Go.Proofs.YtibmgbalfhfcdaaDoor.Abs
open Go.Shelf Go.Sort
end Go.Proofs.YtibmgbalfhfcdaaDoor.Abs
