import Derived.Test.YtibmgbalfhfcdaaDoorF2
set_option linter.unusedVariables false
set_option maxRecDepth 100000
namespace Go.Proofs.YtibmgbalfhfcdaaDoor.Abs
open Go.Shelf Go.Sort
noncomputable def G56_C : CalT := tabC [G60_E]
theorem G56_CV : CV Tryd.prog G56_C := tabC_valid (l := _) ⟨G60_valid, trivial⟩
noncomputable def G56_l0_c : Code := loopAt (bodyOf Tryd.f56) 0
noncomputable def G56_l0_S : SPat := ⟨[.dat (.list (.int .i64)), .dat (.int .i64), .any, .any, .dat .bool, .dat (.int .i64), .any, .any, .any, .any, .any, .any, .any, .any, .any, .any, .any, .any, .any, .any, .any, .any, .any, .any, .any, .any, .any, .any, .any, .any, .any, .any, .any, .any, .any, .any], [], 0⟩
noncomputable def G56_l0_step (s : (((List Int) × (Int × (Bool × (Int × Unit)))) × Unit)) : Option (Nat × (((List Int) × (Int × (Bool × (Int × Unit)))) × Unit)) :=
  (bif (decide (s.1.2.2.2.1 < (List.length s.1.1 : Int))) then
  (bif (decide (0 ≤ s.1.2.2.2.1) && decide (s.1.2.2.2.1 < (List.length s.1.1 : Int))) then
    (Option.bind (G60 (List.getD s.1.1 (Int.toNat s.1.2.2.2.1) 0) 0 (IntKind.wrap .i64 (s.1.2.1 - 1))) fun r1 =>
      (bif (!r1) then
        some (1, ((s.1.1, (s.1.2.1, (false, (s.1.2.2.2.1, ())))), ()))
        else
        (bif (decide (s.1.2.2.2.1 > 0)) then
          (bif (decide (0 ≤ s.1.2.2.2.1) && decide (s.1.2.2.2.1 < (List.length s.1.1 : Int))) then
            (bif (decide (0 ≤ (IntKind.wrap .i64 (s.1.2.2.2.1 - 1))) && decide ((IntKind.wrap .i64 (s.1.2.2.2.1 - 1)) < (List.length s.1.1 : Int))) then
              (bif (decide ((List.getD s.1.1 (Int.toNat s.1.2.2.2.1) 0) ≤ (List.getD s.1.1 (Int.toNat (IntKind.wrap .i64 (s.1.2.2.2.1 - 1))) 0))) then
                some (1, ((s.1.1, (s.1.2.1, (false, (s.1.2.2.2.1, ())))), ()))
                else
                some (0, ((s.1.1, (s.1.2.1, (s.1.2.2.1, ((IntKind.wrap .i64 (s.1.2.2.2.1 + 1)), ())))), ())))
              else
              none)
            else
            none)
          else
          some (0, ((s.1.1, (s.1.2.1, (s.1.2.2.1, ((IntKind.wrap .i64 (s.1.2.2.2.1 + 1)), ())))), ())))))
    else
    none)
  else
  some (2, ((s.1.1, (s.1.2.1, (s.1.2.2.1, (s.1.2.2.2.1, ())))), ())))
noncomputable def G56_l0_fuel (s : (((List Int) × (Int × (Bool × (Int × Unit)))) × Unit)) : Nat := Int.toNat ((List.length s.1.1 : Int) - s.1.2.2.2.1) + 1
noncomputable def G56_l0_run (s : (((List Int) × (Int × (Bool × (Int × Unit)))) × Unit)) : Option (Nat × (((List Int) × (Int × (Bool × (Int × Unit)))) × Unit)) := iter G56_l0_step (G56_l0_fuel s) s
noncomputable def G56_l0_L : LoopT := loopT G56_l0_S [.ret, .exit 0] G56_l0_run
noncomputable def G56 (a0 : (List Int)) (a1 : Int) : Option Bool :=
  (Option.bind (G56_l0_run ((a0, (a1, (false, (0, ())))), ())) fun q2 =>
  (natK q2.1
    (some q2.2.1.2.2.1)
    (fun _ => some true)))
noncomputable def G56_E : CEnt := pureE 56 [.dat (.list (.int .i64)), .dat (.int .i64)] (.dat .bool) fun x => G56 x.1 x.2.1
theorem G56_l0_V : LValid 0 Tryd.prog (.loop G56_l0_c) G56_l0_L false := by
  exact loopT_valid (fuel := G56_l0_fuel) mixed G56_CV (lvNil _) (by kernel_rfl) (by decide) rfl (by intro s; kernel_rfl) (fun s r h => h)
theorem G56_LV : LV 0 Tryd.prog false (loopsOf (bodyOf Tryd.f56)) [G56_l0_L] := by
  have hl : loopsOf (bodyOf Tryd.f56) = [.loop G56_l0_c] := by kernel_rfl
  rw [hl]; exact ⟨G56_l0_V, trivial⟩
theorem G56_ent : Ent Tryd.prog 56 := ⟨by decide, enters_of Tryd.func56 (by kernel_rfl) rfl⟩
theorem G56_hev : ∀ x, fnR Tryd.prog G56_C [G56_l0_L] Tryd.f56 (bodyOf Tryd.f56) (encs [.dat (.list (.int .i64)), .dat (.int .i64)] x) ⟨[], [], 0⟩ (frzF (.dat .bool)) = G56 x.1 x.2.1 := by
  intro x; kernel_rfl
theorem G56_valid : G56_E.Valid Tryd.prog :=
  pureE_valid (by kernel_rfl) (by kernel_rfl) G56_ent (frz_lcall mixed Tryd.func56 rfl G56_ent G56_CV G56_LV (by kernel_rfl) (by kernel_rfl) G56_hev)
noncomputable def G18_C : CalT := tabC [G56_E]
theorem G18_CV : CV Tryd.prog G18_C := tabC_valid (l := _) ⟨G56_valid, trivial⟩
noncomputable def G18 (a0 : E23) (a1 : E26) : Option Bool :=
  (Option.bind (G56 a1.1 (List.length a0.2.2.2.2.1 : Int)) fun r1 =>
  (bif r1 then
    (Option.bind (G56 a1.2.1 a0.2.2.2.1) fun r2 =>
      some r2)
    else
    some false))
noncomputable def G18_E : CEnt := pureE 18 [.dat T23, .dat T26] (.dat .bool) fun x => G18 x.1 x.2.1
theorem G18_LV : LV 0 Tryd.prog false (loopsOf (bodyOf Tryd.f18)) [] := by unfold LV; cases loopsOf (bodyOf Tryd.f18) <;> trivial
theorem G18_ent : Ent Tryd.prog 18 := ⟨by decide, enters_of Tryd.func18 (by kernel_rfl) rfl⟩
theorem G18_hev : ∀ x, fnR Tryd.prog G18_C [] Tryd.f18 (bodyOf Tryd.f18) (encs [.dat T23, .dat T26] x) ⟨[], [], 0⟩ (frzF (.dat .bool)) = G18 x.1 x.2.1 := by
  intro x; kernel_rfl
theorem G18_valid : G18_E.Valid Tryd.prog :=
  pureE_valid (by kernel_rfl) (by kernel_rfl) G18_ent (frz_lcall mixed Tryd.func18 rfl G18_ent G18_CV G18_LV (by kernel_rfl) (by kernel_rfl) G18_hev)
noncomputable def G29_C : CalT := tabC []
theorem G29_CV : CV Tryd.prog G29_C := tabC_valid (l := _) trivial
noncomputable def G29_l0_c : Code := loopAt (bodyOf Tryd.f29) 0
noncomputable def G29_l0_S : SPat := ⟨[.dat (.list (.int .i64)), .dat (.int .i64), .any, .any, .dat .bool, .dat (.int .i64), .any, .any, .any, .any, .any, .any, .any, .any, .any, .any, .any, .any], [], 0⟩
noncomputable def G29_l0_step (s : (((List Int) × (Int × (Bool × (Int × Unit)))) × Unit)) : Option (Nat × (((List Int) × (Int × (Bool × (Int × Unit)))) × Unit)) :=
  (bif (decide (s.1.2.2.2.1 < (List.length s.1.1 : Int))) then
  (bif (decide (0 ≤ s.1.2.2.2.1) && decide (s.1.2.2.2.1 < (List.length s.1.1 : Int))) then
    (bif ((List.getD s.1.1 (Int.toNat s.1.2.2.2.1) 0) == s.1.2.1) then
      some (1, ((s.1.1, (s.1.2.1, (true, (s.1.2.2.2.1, ())))), ()))
      else
      some (0, ((s.1.1, (s.1.2.1, (s.1.2.2.1, ((IntKind.wrap .i64 (s.1.2.2.2.1 + 1)), ())))), ())))
    else
    none)
  else
  some (2, ((s.1.1, (s.1.2.1, (s.1.2.2.1, (s.1.2.2.2.1, ())))), ())))
noncomputable def G29_l0_fuel (s : (((List Int) × (Int × (Bool × (Int × Unit)))) × Unit)) : Nat := Int.toNat ((List.length s.1.1 : Int) - s.1.2.2.2.1) + 1
noncomputable def G29_l0_run (s : (((List Int) × (Int × (Bool × (Int × Unit)))) × Unit)) : Option (Nat × (((List Int) × (Int × (Bool × (Int × Unit)))) × Unit)) := iter G29_l0_step (G29_l0_fuel s) s
noncomputable def G29_l0_L : LoopT := loopT G29_l0_S [.ret, .exit 0] G29_l0_run
noncomputable def G29 (a0 : (List Int)) (a1 : Int) : Option Bool :=
  (Option.bind (G29_l0_run ((a0, (a1, (false, (0, ())))), ())) fun q1 =>
  (natK q1.1
    (some q1.2.1.2.2.1)
    (fun _ => some false)))
noncomputable def G29_E : CEnt := pureE 29 [.dat (.list (.int .i64)), .dat (.int .i64)] (.dat .bool) fun x => G29 x.1 x.2.1
theorem G29_l0_V : LValid 0 Tryd.prog (.loop G29_l0_c) G29_l0_L false := by
  exact loopT_valid (fuel := G29_l0_fuel) mixed G29_CV (lvNil _) (by kernel_rfl) (by decide) rfl (by intro s; kernel_rfl) (fun s r h => h)
theorem G29_LV : LV 0 Tryd.prog false (loopsOf (bodyOf Tryd.f29)) [G29_l0_L] := by
  have hl : loopsOf (bodyOf Tryd.f29) = [.loop G29_l0_c] := by kernel_rfl
  rw [hl]; exact ⟨G29_l0_V, trivial⟩
theorem G29_ent : Ent Tryd.prog 29 := ⟨by decide, enters_of Tryd.func29 (by kernel_rfl) rfl⟩
theorem G29_hev : ∀ x, fnR Tryd.prog G29_C [G29_l0_L] Tryd.f29 (bodyOf Tryd.f29) (encs [.dat (.list (.int .i64)), .dat (.int .i64)] x) ⟨[], [], 0⟩ (frzF (.dat .bool)) = G29 x.1 x.2.1 := by
  intro x; kernel_rfl
theorem G29_valid : G29_E.Valid Tryd.prog :=
  pureE_valid (by kernel_rfl) (by kernel_rfl) G29_ent (frz_lcall mixed Tryd.func29 rfl G29_ent G29_CV G29_LV (by kernel_rfl) (by kernel_rfl) G29_hev)
noncomputable def G92_C : CalT := tabC [G60_E]
theorem G92_CV : CV Tryd.prog G92_C := tabC_valid (l := _) ⟨G60_valid, trivial⟩
noncomputable def G92_l0_c : Code := loopAt (bodyOf Tryd.f92) 0
noncomputable def G92_l1_c : Code := loopAt G92_l0_c 0
noncomputable def G92_l1_S : SPat := ⟨[.any, .dat (.list T72), .dat (.int .i64), .dat (.int .i64), .dat (.int .i64), .dat (.int .i64), .fix (.bptr 0 []), .any, .any, .any, .any, .any, .dat (.int .i64), .dat .bool, .dat (.int .i64), .dat .bool, .dat (.int .i64), .any, .any, .any, .any, .any, .any, .any, .any, .any, .any, .any, .any, .any, .any, .any, .any, .any, .any, .any, .any, .any, .any, .any, .any, .any, .any, .any, .any, .any, .any, .any, .any, .any, .any, .any, .any, .any, .any, .any, .any, .any, .any, .any, .any, .any, .any, .any, .any, .any, .any, .any], [.dat T23], 0⟩
abbrev TY88 : Type := (((List E72) × (Int × (Int × (Int × (Int × (Int × (Bool × (Int × (Bool × (Int × Unit)))))))))) × (E23 × Unit))
abbrev TY89 : Type := (Nat × (((List E72) × (Int × (Int × (Int × (Int × (Int × (Bool × (Int × (Bool × (Int × Unit)))))))))) × (E23 × Unit)))
noncomputable def G92_l1_step (s : TY88) : Option TY89 :=
  (bif (decide (s.1.2.2.2.2.2.2.2.2.2.1 < (List.length s.1.1 : Int))) then
  (bif s.1.2.2.2.2.2.2.2.2.1 then
    (bif (decide (0 ≤ s.1.2.2.2.2.2.2.2.2.2.1) && decide (s.1.2.2.2.2.2.2.2.2.2.1 < (List.length s.1.1 : Int))) then
      (bif ((List.getD s.1.1 (Int.toNat s.1.2.2.2.2.2.2.2.2.2.1) (0, (0, (0, ())))).1 == s.1.2.1) then
        (bif (decide (0 ≤ s.1.2.2.2.2.2.2.2.2.2.1) && decide (s.1.2.2.2.2.2.2.2.2.2.1 < (List.length s.1.1 : Int))) then
          (bif (decide (0 ≤ s.1.2.2.2.2.2.2.2.2.2.1) && decide (s.1.2.2.2.2.2.2.2.2.2.1 < (List.length s.1.1 : Int))) then
            (Option.bind (G60 ((List.getD s.1.1 (Int.toNat s.1.2.2.2.2.2.2.2.2.2.1) (0, (0, (0, ())))).2.2.1) (IntKind.wrap .i64 ((IntKind.wrap .i64 (s.1.2.2.1 + (IntKind.wrap .i64 ((IntKind.wrap .i64 (s.1.2.2.2.1 + s.1.2.2.2.2.2.2.2.1)) * (List.getD s.1.1 (Int.toNat s.1.2.2.2.2.2.2.2.2.2.1) (0, (0, (0, ())))).2.1)))) - s.2.1.1)) (IntKind.wrap .i64 ((IntKind.wrap .i64 (s.1.2.2.1 + (IntKind.wrap .i64 ((IntKind.wrap .i64 (s.1.2.2.2.1 + s.1.2.2.2.2.2.2.2.1)) * (List.getD s.1.1 (Int.toNat s.1.2.2.2.2.2.2.2.2.2.1) (0, (0, (0, ())))).2.1)))) + s.2.1.1))) fun r1 =>
              some (0, ((s.1.1, (s.1.2.1, (s.1.2.2.1, (s.1.2.2.2.1, (s.1.2.2.2.2.1, (s.1.2.2.2.2.2.1, (s.1.2.2.2.2.2.2.1, (s.1.2.2.2.2.2.2.2.1, (r1, ((IntKind.wrap .i64 (s.1.2.2.2.2.2.2.2.2.2.1 + 1)), ())))))))))), (s.2.1, ()))))
            else
            none)
          else
          none)
        else
        some (0, ((s.1.1, (s.1.2.1, (s.1.2.2.1, (s.1.2.2.2.1, (s.1.2.2.2.2.1, (s.1.2.2.2.2.2.1, (s.1.2.2.2.2.2.2.1, (s.1.2.2.2.2.2.2.2.1, (s.1.2.2.2.2.2.2.2.2.1, ((IntKind.wrap .i64 (s.1.2.2.2.2.2.2.2.2.2.1 + 1)), ())))))))))), (s.2.1, ()))))
      else
      none)
    else
    some (1, ((s.1.1, (s.1.2.1, (s.1.2.2.1, (s.1.2.2.2.1, (s.1.2.2.2.2.1, (s.1.2.2.2.2.2.1, (s.1.2.2.2.2.2.2.1, (s.1.2.2.2.2.2.2.2.1, (s.1.2.2.2.2.2.2.2.2.1, (s.1.2.2.2.2.2.2.2.2.2.1, ())))))))))), (s.2.1, ()))))
  else
  some (1, ((s.1.1, (s.1.2.1, (s.1.2.2.1, (s.1.2.2.2.1, (s.1.2.2.2.2.1, (s.1.2.2.2.2.2.1, (s.1.2.2.2.2.2.2.1, (s.1.2.2.2.2.2.2.2.1, (s.1.2.2.2.2.2.2.2.2.1, (s.1.2.2.2.2.2.2.2.2.2.1, ())))))))))), (s.2.1, ()))))
noncomputable def G92_l1_fuel (s : TY88) : Nat := Int.toNat ((List.length s.1.1 : Int) - s.1.2.2.2.2.2.2.2.2.2.1) + 1
noncomputable def G92_l1_run (s : TY88) : Option TY89 := iter G92_l1_step (G92_l1_fuel s) s
noncomputable def G92_l1_L : LoopT := loopT G92_l1_S [.exit 2] G92_l1_run
noncomputable def G92_l0_S : SPat := ⟨[.any, .dat (.list T72), .dat (.int .i64), .dat (.int .i64), .dat (.int .i64), .dat (.int .i64), .fix (.bptr 0 []), .any, .any, .any, .any, .any, .dat (.int .i64), .dat .bool, .dat (.int .i64), .any, .any, .any, .any, .any, .any, .any, .any, .any, .any, .any, .any, .any, .any, .any, .any, .any, .any, .any, .any, .any, .any, .any, .any, .any, .any, .any, .any, .any, .any, .any, .any, .any, .any, .any, .any, .any, .any, .any, .any, .any, .any, .any, .any, .any, .any, .any, .any, .any, .any, .any, .any, .any], [.dat T23], 0⟩
abbrev TY90 : Type := (((List E72) × (Int × (Int × (Int × (Int × (Int × (Bool × (Int × Unit)))))))) × (E23 × Unit))
abbrev TY91 : Type := (Nat × (((List E72) × (Int × (Int × (Int × (Int × (Int × (Bool × (Int × Unit)))))))) × (E23 × Unit)))
noncomputable def G92_l0_step (s : TY90) : Option TY91 :=
  (bif (decide (s.1.2.2.2.2.2.2.2.1 ≤ s.1.2.2.2.2.1)) then
  (Option.bind (G92_l1_run ((s.1.1, (s.1.2.1, (s.1.2.2.1, (s.1.2.2.2.1, (s.1.2.2.2.2.1, (s.1.2.2.2.2.2.1, (s.1.2.2.2.2.2.2.1, (s.1.2.2.2.2.2.2.2.1, (true, (0, ())))))))))), (s.2.1, ()))) fun q2 =>
    (bif q2.2.1.2.2.2.2.2.2.2.2.1 then
      some (1, ((q2.2.1.1, (q2.2.1.2.1, (q2.2.1.2.2.1, (q2.2.1.2.2.2.1, (q2.2.1.2.2.2.2.1, (q2.2.1.2.2.2.2.2.2.2.1, (true, (q2.2.1.2.2.2.2.2.2.2.1, ())))))))), (q2.2.2.1, ())))
      else
      some (0, ((q2.2.1.1, (q2.2.1.2.1, (q2.2.1.2.2.1, (q2.2.1.2.2.2.1, (q2.2.1.2.2.2.2.1, (q2.2.1.2.2.2.2.2.1, (q2.2.1.2.2.2.2.2.2.1, ((IntKind.wrap .i64 (q2.2.1.2.2.2.2.2.2.2.1 + 1)), ())))))))), (q2.2.2.1, ())))))
  else
  some (2, ((s.1.1, (s.1.2.1, (s.1.2.2.1, (s.1.2.2.2.1, (s.1.2.2.2.2.1, (s.1.2.2.2.2.2.1, (s.1.2.2.2.2.2.2.1, (s.1.2.2.2.2.2.2.2.1, ())))))))), (s.2.1, ()))))
noncomputable def G92_l0_fuel (s : TY90) : Nat := 100000
noncomputable def G92_l0_run (s : TY90) : Option TY91 := iter G92_l0_step (G92_l0_fuel s) s
noncomputable def G92_l0_L : LoopT := loopT G92_l0_S [.ret, .exit 0] G92_l0_run
noncomputable def G92 (a0 : E23) (a1 : (List E72)) (a2 : Int) (a3 : Int) (a4 : Int) (a5 : Int) : Option (Int × (Bool × Unit)) :=
  (Option.bind (G92_l0_run ((a1, (a2, (a3, (a4, (a5, (0, (false, ((IntKind.wrap .i64 (0 - a5)), ())))))))), (a0, ()))) fun q3 =>
  (natK q3.1
    (some (q3.2.1.2.2.2.2.2.1, (q3.2.1.2.2.2.2.2.2.1, ())))
    (fun _ => some (0, (false, ())))))
noncomputable def G92_E : CEnt := pureE 92 [.dat T23, .dat (.list T72), .dat (.int .i64), .dat (.int .i64), .dat (.int .i64), .dat (.int .i64)] (.tup (.cons (.dat (.int .i64)) (.cons (.dat .bool) (.nil)))) fun x => G92 x.1 x.2.1 x.2.2.1 x.2.2.2.1 x.2.2.2.2.1 x.2.2.2.2.2.1
theorem G92_l1_V : LValid 0 Tryd.prog (.loop G92_l1_c) G92_l1_L false := by
  exact loopT_valid (fuel := G92_l1_fuel) mixed G92_CV (lvNil _) (by kernel_rfl) (by decide) rfl (by intro s; kernel_rfl) (fun s r h => h)
theorem G92_l0_V : LValid 0 Tryd.prog (.loop G92_l0_c) G92_l0_L false := by
  have hb : ∀ s, codeR Tryd.prog G92_C G92_l0_c [G92_l1_L] (G92_l0_S.encE s) (G92_l0_S.encB s) (kst G92_l0_S [.ret, .exit 0]) = G92_l0_step s := by
    intro s; kernel_rfl
  have hl : loopsOf G92_l0_c = [.loop G92_l1_c] := by kernel_rfl
  have hL : LV 0 Tryd.prog false (loopsOf G92_l0_c) [G92_l1_L] := by rw [hl]; exact ⟨G92_l1_V, trivial⟩
  exact loopT_valid (fuel := G92_l0_fuel) mixed G92_CV hL (by kernel_rfl) (by decide) rfl hb (fun s r h => h)
theorem G92_LV : LV 0 Tryd.prog false (loopsOf (bodyOf Tryd.f92)) [G92_l0_L] := by
  have hl : loopsOf (bodyOf Tryd.f92) = [.loop G92_l0_c] := by kernel_rfl
  rw [hl]; exact ⟨G92_l0_V, trivial⟩
theorem G92_ent : Ent Tryd.prog 92 := ⟨by decide, enters_of Tryd.func92 (by kernel_rfl) rfl⟩
theorem G92_hev : ∀ x, fnR Tryd.prog G92_C [G92_l0_L] Tryd.f92 (bodyOf Tryd.f92) (encs [.dat T23, .dat (.list T72), .dat (.int .i64), .dat (.int .i64), .dat (.int .i64), .dat (.int .i64)] x) ⟨[], [], 0⟩ (frzF (.tup (.cons (.dat (.int .i64)) (.cons (.dat .bool) (.nil))))) = G92 x.1 x.2.1 x.2.2.1 x.2.2.2.1 x.2.2.2.2.1 x.2.2.2.2.2.1 := by
  intro x; kernel_rfl
theorem G92_valid : G92_E.Valid Tryd.prog :=
  pureE_valid (by kernel_rfl) (by kernel_rfl) G92_ent (frz_lcall mixed Tryd.func92 rfl G92_ent G92_CV G92_LV (by kernel_rfl) (by kernel_rfl) G92_hev)
noncomputable def G59_C : CalT := tabC [G29_E, G92_E]
theorem G59_CV : CV Tryd.prog G59_C := tabC_valid (l := _) ⟨G29_valid, G92_valid, trivial⟩
noncomputable def G59_l0_c : Code := loopAt (bodyOf Tryd.f59) 0
noncomputable def G59_l0_S : SPat := ⟨[.any, .dat (.list T72), .any, .dat (.int .i64), .dat (.int .i64), .dat (.int .i64), .fix (.bptr 0 []), .any, .fix (.bptr 1 []), .any, .any, .any, .own 0 (.int .i64), .dat .bool, .own 1 (.int .i64), .dat (.int .i64), .any, .any, .any, .any, .any, .any, .any, .any, .any, .any, .any, .any, .any, .any, .any, .any, .any, .any, .any, .any, .any, .any, .any, .any, .any, .any, .any, .any, .any, .any, .any, .any, .any, .any, .any, .any, .any, .any, .any, .any], [.dat T23, .dat T26], 2⟩
abbrev TY92 : Type := (((List E72) × (Int × (Int × (Int × ((List Int) × (Bool × ((List Int) × (Int × Unit)))))))) × (E23 × (E26 × Unit)))
abbrev TY93 : Type := (Nat × (((List E72) × (Int × (Int × (Int × ((List Int) × (Bool × ((List Int) × (Int × Unit)))))))) × (E23 × (E26 × Unit))))
noncomputable def G59_l0_step (s : TY92) : Option TY93 :=
  (bif (decide (s.1.2.2.2.2.2.2.2.1 < (List.length s.2.1.2.2.2.2.1 : Int))) then
  (bif (decide (0 ≤ s.1.2.2.2.2.2.2.2.1) && decide (s.1.2.2.2.2.2.2.2.1 < (List.length s.2.1.2.2.2.2.1 : Int))) then
    (bif ((List.getD s.2.1.2.2.2.2.1 (Int.toNat s.1.2.2.2.2.2.2.2.1) 0) != s.1.2.1) then
      some (0, ((s.1.1, (s.1.2.1, (s.1.2.2.1, (s.1.2.2.2.1, (s.1.2.2.2.2.1, (s.1.2.2.2.2.2.1, (s.1.2.2.2.2.2.2.1, ((IntKind.wrap .i64 (s.1.2.2.2.2.2.2.2.1 + 1)), ())))))))), (s.2.1, (s.2.2.1, ()))))
      else
      (Option.bind (G29 s.2.2.1.1 s.1.2.2.2.2.2.2.2.1) fun r1 =>
        (bif r1 then
          (Option.bind (G92 s.2.1 s.1.1 s.1.2.2.2.2.2.2.2.1 s.1.2.2.1 s.1.2.2.2.1 s.2.1.2.1) fun r2 =>
            (bif (!r2.2.1) then
              some (1, ((s.1.1, (s.1.2.1, (s.1.2.2.1, (s.1.2.2.2.1, ([], (false, (s.1.2.2.2.2.2.2.1, (s.1.2.2.2.2.2.2.2.1, ())))))))), (s.2.1, (s.2.2.1, ()))))
              else
              (bif (decide (List.length s.1.2.2.2.2.2.2.1 + List.length [r2.1] ≤ LIM)) then
                some (0, ((s.1.1, (s.1.2.1, (s.1.2.2.1, (s.1.2.2.2.1, (s.1.2.2.2.2.1, (s.1.2.2.2.2.2.1, ((s.1.2.2.2.2.2.2.1 ++ [r2.1]), ((IntKind.wrap .i64 (s.1.2.2.2.2.2.2.2.1 + 1)), ())))))))), (s.2.1, (s.2.2.1, ()))))
                else
                none)))
          else
          (Option.bind (G92 s.2.1 s.1.1 s.1.2.2.2.2.2.2.2.1 s.1.2.2.1 s.1.2.2.2.1 0) fun r3 =>
            (bif (!r3.2.1) then
              some (1, ((s.1.1, (s.1.2.1, (s.1.2.2.1, (s.1.2.2.2.1, ([], (false, (s.1.2.2.2.2.2.2.1, (s.1.2.2.2.2.2.2.2.1, ())))))))), (s.2.1, (s.2.2.1, ()))))
              else
              (bif (decide (List.length s.1.2.2.2.2.2.2.1 + List.length [r3.1] ≤ LIM)) then
                some (0, ((s.1.1, (s.1.2.1, (s.1.2.2.1, (s.1.2.2.2.1, (s.1.2.2.2.2.1, (s.1.2.2.2.2.2.1, ((s.1.2.2.2.2.2.2.1 ++ [r3.1]), ((IntKind.wrap .i64 (s.1.2.2.2.2.2.2.2.1 + 1)), ())))))))), (s.2.1, (s.2.2.1, ()))))
                else
                none))))))
    else
    none)
  else
  some (2, ((s.1.1, (s.1.2.1, (s.1.2.2.1, (s.1.2.2.2.1, (s.1.2.2.2.2.1, (s.1.2.2.2.2.2.1, (s.1.2.2.2.2.2.2.1, (s.1.2.2.2.2.2.2.2.1, ())))))))), (s.2.1, (s.2.2.1, ())))))
noncomputable def G59_l0_fuel (s : TY92) : Nat := Int.toNat ((List.length s.2.1.2.2.2.2.1 : Int) - s.1.2.2.2.2.2.2.2.1) + 1
noncomputable def G59_l0_run (s : TY92) : Option TY93 := iter G59_l0_step (G59_l0_fuel s) s
noncomputable def G59_l0_L : LoopT := loopT G59_l0_S [.ret, .exit 0] G59_l0_run
noncomputable def G59 (a0 : E23) (a1 : (List E72)) (a2 : E26) (a3 : Int) (a4 : Int) (a5 : Int) : Option ((List Int) × (Bool × Unit)) :=
  (Option.bind (G59_l0_run ((a1, (a3, (a4, (a5, ([], (false, ([], (0, ())))))))), (a0, (a2, ())))) fun q4 =>
  (natK q4.1
    (some (q4.2.1.2.2.2.2.1, (q4.2.1.2.2.2.2.2.1, ())))
    (fun _ => some (q4.2.1.2.2.2.2.2.2.1, (true, ())))))
noncomputable def G59_E : CEnt := pureE 59 [.dat T23, .dat (.list T72), .dat T26, .dat (.int .i64), .dat (.int .i64), .dat (.int .i64)] (.tup (.cons (.dat (.list (.int .i64))) (.cons (.dat .bool) (.nil)))) fun x => G59 x.1 x.2.1 x.2.2.1 x.2.2.2.1 x.2.2.2.2.1 x.2.2.2.2.2.1
theorem G59_l0_V : LValid 0 Tryd.prog (.loop G59_l0_c) G59_l0_L false := by
  exact loopT_valid (fuel := G59_l0_fuel) mixed G59_CV (lvNil _) (by kernel_rfl) (by decide) rfl (by intro s; kernel_rfl) (fun s r h => h)
theorem G59_LV : LV 0 Tryd.prog false (loopsOf (bodyOf Tryd.f59)) [G59_l0_L] := by
  have hl : loopsOf (bodyOf Tryd.f59) = [.loop G59_l0_c] := by kernel_rfl
  rw [hl]; exact ⟨G59_l0_V, trivial⟩
theorem G59_ent : Ent Tryd.prog 59 := ⟨by decide, enters_of Tryd.func59 (by kernel_rfl) rfl⟩
theorem G59_hev : ∀ x, fnR Tryd.prog G59_C [G59_l0_L] Tryd.f59 (bodyOf Tryd.f59) (encs [.dat T23, .dat (.list T72), .dat T26, .dat (.int .i64), .dat (.int .i64), .dat (.int .i64)] x) ⟨[], [], 0⟩ (frzF (.tup (.cons (.dat (.list (.int .i64))) (.cons (.dat .bool) (.nil))))) = G59 x.1 x.2.1 x.2.2.1 x.2.2.2.1 x.2.2.2.2.1 x.2.2.2.2.2.1 := by
  intro x; kernel_rfl
theorem G59_valid : G59_E.Valid Tryd.prog :=
  pureE_valid (by kernel_rfl) (by kernel_rfl) G59_ent (frz_lcall mixed Tryd.func59 rfl G59_ent G59_CV G59_LV (by kernel_rfl) (by kernel_rfl) G59_hev)
noncomputable def G58_C : CalT := tabC [G29_E, G84_E, G59_E]
theorem G58_CV : CV Tryd.prog G58_C := tabC_valid (l := _) ⟨G29_valid, G84_valid, G59_valid, trivial⟩
noncomputable def G58_l0_c : Code := loopAt (bodyOf Tryd.f58) 0
noncomputable def G58_l1_c : Code := loopAt G58_l0_c 0
noncomputable def G58_l1_S : SPat := ⟨[.any, .dat (.list T72), .any, .dat (.int .i64), .fix (.bptr 0 []), .any, .fix (.bptr 1 []), .any, .fix (.bptr 2 []), .dat .bool, .dat (.int .i64), .fix (.bptr 3 []), .dat (.int .i64), .dat (.int .i64), .any, .any, .any, .any, .any, .any, .any, .any, .any, .any, .any, .any, .any, .any, .any, .any, .any, .any, .any, .any, .any, .any, .any, .any, .any, .any, .any, .any, .any, .any, .any, .any, .any, .any, .any, .any, .any, .any, .any, .any, .any, .any], [.dat T23, .dat T26, .cons (.dat (.int .i64)) (.cons (.dat (.int .i64)) (.nil)), .dat T56], 0⟩
abbrev TY94 : Type := (((List E72) × (Int × (Bool × (Int × (Int × (Int × Unit)))))) × (E23 × (E26 × ((Int × (Int × Unit)) × (E56 × Unit)))))
abbrev TY95 : Type := (Nat × (((List E72) × (Int × (Bool × (Int × (Int × (Int × Unit)))))) × (E23 × (E26 × ((Int × (Int × Unit)) × (E56 × Unit))))))
noncomputable def G58_l1_step (s : TY94) : Option TY95 :=
  (bif (decide (s.1.2.2.2.2.2.1 ≤ s.1.2.2.2.1)) then
  (Option.bind (G59 s.2.1 s.1.1 s.2.2.1 s.1.2.1 s.1.2.2.2.2.1 s.1.2.2.2.2.2.1) fun r3 =>
    (bif r3.2.1 then
      some (1, ((s.1.1, (s.1.2.1, (true, (s.1.2.2.2.1, (s.1.2.2.2.2.1, (s.1.2.2.2.2.2.1, ())))))), (s.2.1, (s.2.2.1, ((s.1.2.2.2.2.1, (s.1.2.2.2.2.2.1, ())), (s.2.2.2.2.1, ()))))))
      else
      some (0, ((s.1.1, (s.1.2.1, (s.1.2.2.1, (s.1.2.2.2.1, (s.1.2.2.2.2.1, ((IntKind.wrap .i64 (s.1.2.2.2.2.2.1 + 1)), ())))))), (s.2.1, (s.2.2.1, (s.2.2.2.1, (s.2.2.2.2.1, ()))))))))
  else
  some (2, ((s.1.1, (s.1.2.1, (s.1.2.2.1, (s.1.2.2.2.1, (s.1.2.2.2.2.1, (s.1.2.2.2.2.2.1, ())))))), (s.2.1, (s.2.2.1, (s.2.2.2.1, (s.2.2.2.2.1, ())))))))
noncomputable def G58_l1_fuel (s : TY94) : Nat := 100000
noncomputable def G58_l1_run (s : TY94) : Option TY95 := iter G58_l1_step (G58_l1_fuel s) s
noncomputable def G58_l1_L : LoopT := loopT G58_l1_S [.ret, .exit 2] G58_l1_run
noncomputable def G58_l0_S : SPat := ⟨[.any, .dat (.list T72), .any, .dat (.int .i64), .fix (.bptr 0 []), .any, .fix (.bptr 1 []), .any, .fix (.bptr 2 []), .dat .bool, .dat (.int .i64), .fix (.bptr 3 []), .dat (.int .i64), .any, .any, .any, .any, .any, .any, .any, .any, .any, .any, .any, .any, .any, .any, .any, .any, .any, .any, .any, .any, .any, .any, .any, .any, .any, .any, .any, .any, .any, .any, .any, .any, .any, .any, .any, .any, .any, .any, .any, .any, .any, .any, .any], [.dat T23, .dat T26, .cons (.dat (.int .i64)) (.cons (.dat (.int .i64)) (.nil)), .dat T56], 0⟩
abbrev TY96 : Type := (((List E72) × (Int × (Bool × (Int × (Int × Unit))))) × (E23 × (E26 × ((Int × (Int × Unit)) × (E56 × Unit)))))
abbrev TY97 : Type := (Nat × (((List E72) × (Int × (Bool × (Int × (Int × Unit))))) × (E23 × (E26 × ((Int × (Int × Unit)) × (E56 × Unit))))))
noncomputable def G58_l0_step (s : TY96) : Option TY97 :=
  (bif (decide (s.1.2.2.2.2.1 ≤ s.2.2.2.2.1.2.1)) then
  (Option.bind (G58_l1_run ((s.1.1, (s.1.2.1, (s.1.2.2.1, (s.1.2.2.2.1, (s.1.2.2.2.2.1, ((IntKind.wrap .i64 (0 - s.1.2.2.2.1)), ())))))), (s.2.1, (s.2.2.1, (s.2.2.2.1, (s.2.2.2.2.1, ())))))) fun q4 =>
    (natK q4.1
      (some (1, ((q4.2.1.1, (q4.2.1.2.1, (q4.2.1.2.2.1, (q4.2.1.2.2.2.1, (q4.2.1.2.2.2.2.1, ()))))), (q4.2.2.1, (q4.2.2.2.1, (q4.2.2.2.2.1, (q4.2.2.2.2.2.1, ())))))))
      (fun _ => some (0, ((q4.2.1.1, (q4.2.1.2.1, (q4.2.1.2.2.1, (q4.2.1.2.2.2.1, ((IntKind.wrap .i64 (q4.2.1.2.2.2.2.1 + 1)), ()))))), (q4.2.2.1, (q4.2.2.2.1, (q4.2.2.2.2.1, (q4.2.2.2.2.2.1, ())))))))))
  else
  some (2, ((s.1.1, (s.1.2.1, (s.1.2.2.1, (s.1.2.2.2.1, (s.1.2.2.2.2.1, ()))))), (s.2.1, (s.2.2.1, (s.2.2.2.1, (s.2.2.2.2.1, ())))))))
noncomputable def G58_l0_fuel (s : TY96) : Nat := 100000
noncomputable def G58_l0_run (s : TY96) : Option TY97 := iter G58_l0_step (G58_l0_fuel s) s
noncomputable def G58_l0_L : LoopT := loopT G58_l0_S [.ret, .exit 0] G58_l0_run
noncomputable def G58 (a0 : E23) (a1 : (List E72)) (a2 : E26) (a3 : Int) : Option (E56 × (Bool × Unit)) :=
  (Option.bind (G29 a2.2.1 a3) fun r1 =>
  (bif r1 then
    (Option.bind (G84 a0 a1 a3) fun r2 =>
      (Option.bind (G58_l0_run ((a1, (a3, (false, (a0.2.2.1, (r2.1, ()))))), (a0, (a2, ((0, (0, ())), (r2, ())))))) fun q5 =>
        (natK q5.1
          (some (q5.2.2.2.2.1, (q5.2.1.2.2.1, ())))
          (fun _ => some ((0, (0, ())), (false, ()))))))
    else
    (Option.bind (G84 a0 a1 a3) fun r6 =>
      (Option.bind (G58_l0_run ((a1, (a3, (false, (0, (r6.1, ()))))), (a0, (a2, ((0, (0, ())), (r6, ())))))) fun q7 =>
        (natK q7.1
          (some (q7.2.2.2.2.1, (q7.2.1.2.2.1, ())))
          (fun _ => some ((0, (0, ())), (false, ()))))))))
noncomputable def G58_E : CEnt := pureE 58 [.dat T23, .dat (.list T72), .dat T26, .dat (.int .i64)] (.tup (.cons (.dat T56) (.cons (.dat .bool) (.nil)))) fun x => G58 x.1 x.2.1 x.2.2.1 x.2.2.2.1
theorem G58_l1_V : LValid 0 Tryd.prog (.loop G58_l1_c) G58_l1_L false := by
  exact loopT_valid (fuel := G58_l1_fuel) mixed G58_CV (lvNil _) (by kernel_rfl) (by decide) rfl (by intro s; kernel_rfl) (fun s r h => h)
theorem G58_l0_V : LValid 0 Tryd.prog (.loop G58_l0_c) G58_l0_L false := by
  have hb : ∀ s, codeR Tryd.prog G58_C G58_l0_c [G58_l1_L] (G58_l0_S.encE s) (G58_l0_S.encB s) (kst G58_l0_S [.ret, .exit 0]) = G58_l0_step s := by
    intro s; kernel_rfl
  have hl : loopsOf G58_l0_c = [.loop G58_l1_c] := by kernel_rfl
  have hL : LV 0 Tryd.prog false (loopsOf G58_l0_c) [G58_l1_L] := by rw [hl]; exact ⟨G58_l1_V, trivial⟩
  exact loopT_valid (fuel := G58_l0_fuel) mixed G58_CV hL (by kernel_rfl) (by decide) rfl hb (fun s r h => h)
theorem G58_LV : LV 0 Tryd.prog false (loopsOf (bodyOf Tryd.f58)) [G58_l0_L] := by
  have hl : loopsOf (bodyOf Tryd.f58) = [.loop G58_l0_c] := by kernel_rfl
  rw [hl]; exact ⟨G58_l0_V, trivial⟩
theorem G58_ent : Ent Tryd.prog 58 := ⟨by decide, enters_of Tryd.func58 (by kernel_rfl) rfl⟩
theorem G58_hev : ∀ x, fnR Tryd.prog G58_C [G58_l0_L] Tryd.f58 (bodyOf Tryd.f58) (encs [.dat T23, .dat (.list T72), .dat T26, .dat (.int .i64)] x) ⟨[], [], 0⟩ (frzF (.tup (.cons (.dat T56) (.cons (.dat .bool) (.nil))))) = G58 x.1 x.2.1 x.2.2.1 x.2.2.2.1 := by
  intro x; kernel_rfl
theorem G58_valid : G58_E.Valid Tryd.prog :=
  pureE_valid (by kernel_rfl) (by kernel_rfl) G58_ent (frz_lcall mixed Tryd.func58 rfl G58_ent G58_CV G58_LV (by kernel_rfl) (by kernel_rfl) G58_hev)
noncomputable def G20_C : CalT := tabC [G58_E, G59_E]
theorem G20_CV : CV Tryd.prog G20_C := tabC_valid (l := _) ⟨G58_valid, G59_valid, trivial⟩
noncomputable def G20_l0_c : Code := loopAt (bodyOf Tryd.f20) 0
noncomputable def G20_l1_c : Code := loopAt G20_l0_c 0
noncomputable def G20_l1_S : SPat := ⟨[.any, .dat (.list T72), .any, .fix (.bptr 0 []), .any, .fix (.bptr 1 []), .fix (.bptr 2 []), .dat .bool, .fix (.bptr 4 []), .dat (.int .i64), .any, .any, .dat (.list (.int .i64)), .any, .dat (.int .i64), .dat (.int .i64), .any, .any, .any, .any, .any, .any, .any, .any, .any, .any, .any, .any, .any, .any, .any, .any, .any, .any, .any, .any, .any, .any, .any, .any, .any, .any, .any, .any, .any, .any, .any, .any, .any, .any, .any, .any, .any, .any, .any, .any, .any, .any, .any, .any, .any, .any, .any, .any, .any, .any, .any, .any, .any, .any, .any, .any, .any, .any, .any, .any, .any, .any, .any, .any, .any, .any, .any, .any, .any, .any, .any, .any, .any], [.dat T23, .dat T26, .cons (.own 0 (.int .i64)) (.cons (.own 1 (.int .i64)) (.cons (.own 2 (.int .i64)) (.nil))), .vrow 3 (.int .i64), .cons (.own 4 (.int .i64)) (.cons (.own 5 (.int .i64)) (.cons (.vec 3 3 (.int .i64)) (.nil))), .dat T56], 6⟩
abbrev TY98 : Type := (((List E72) × (Bool × (Int × ((List Int) × (Int × (Int × Unit)))))) × (E23 × (E26 × (((List Int) × ((List Int) × ((List Int) × Unit))) × ((List Int) × (((List Int) × ((List Int) × (Nat × Unit))) × (E56 × Unit)))))))
abbrev TY99 : Type := (Nat × (((List E72) × (Bool × (Int × ((List Int) × (Int × (Int × Unit)))))) × (E23 × (E26 × (((List Int) × ((List Int) × ((List Int) × Unit))) × ((List Int) × (((List Int) × ((List Int) × (Nat × Unit))) × (E56 × Unit))))))))
noncomputable def G20_l1_step (s : TY98) : Option TY99 :=
  (bif (decide (s.1.2.2.2.2.2.1 < (List.length s.2.1.2.2.2.2.1 : Int))) then
  (bif (decide (0 ≤ s.1.2.2.2.2.2.1) && decide (s.1.2.2.2.2.2.1 < (List.length s.2.1.2.2.2.2.1 : Int))) then
    (bif ((List.getD s.2.1.2.2.2.2.1 (Int.toNat s.1.2.2.2.2.2.1) 0) == s.1.2.2.1) then
      (bif (decide (0 ≤ s.1.2.2.2.2.1) && decide (s.1.2.2.2.2.1 < (List.length s.1.2.2.2.1 : Int))) then
        (bif (decide (0 ≤ s.1.2.2.2.2.2.1) && decide (s.1.2.2.2.2.2.1 < (s.2.2.2.2.2.1.2.2.1 : Int))) then
          (bif (decide ((Int.toNat s.1.2.2.2.2.2.1) < List.length s.2.2.2.2.1)) then
            some (0, ((s.1.1, (s.1.2.1, (s.1.2.2.1, (s.1.2.2.2.1, ((IntKind.wrap .i64 (s.1.2.2.2.2.1 + 1)), ((IntKind.wrap .i64 (s.1.2.2.2.2.2.1 + 1)), ())))))), (s.2.1, (s.2.2.1, (s.2.2.2.1, ((List.set s.2.2.2.2.1 (Int.toNat s.1.2.2.2.2.2.1) (List.getD s.1.2.2.2.1 (Int.toNat s.1.2.2.2.2.1) 0)), (s.2.2.2.2.2.1, (s.2.2.2.2.2.2.1, ()))))))))
            else
            none)
          else
          none)
        else
        none)
      else
      some (0, ((s.1.1, (s.1.2.1, (s.1.2.2.1, (s.1.2.2.2.1, (s.1.2.2.2.2.1, ((IntKind.wrap .i64 (s.1.2.2.2.2.2.1 + 1)), ())))))), (s.2.1, (s.2.2.1, (s.2.2.2.1, (s.2.2.2.2.1, (s.2.2.2.2.2.1, (s.2.2.2.2.2.2.1, ())))))))))
    else
    none)
  else
  some (1, ((s.1.1, (s.1.2.1, (s.1.2.2.1, (s.1.2.2.2.1, (s.1.2.2.2.2.1, (s.1.2.2.2.2.2.1, ())))))), (s.2.1, (s.2.2.1, (s.2.2.2.1, (s.2.2.2.2.1, (s.2.2.2.2.2.1, (s.2.2.2.2.2.2.1, ())))))))))
noncomputable def G20_l1_fuel (s : TY98) : Nat := Int.toNat ((List.length s.2.1.2.2.2.2.1 : Int) - s.1.2.2.2.2.2.1) + 1
noncomputable def G20_l1_run (s : TY98) : Option TY99 := iter G20_l1_step (G20_l1_fuel s) s
noncomputable def G20_l1_L : LoopT := loopT G20_l1_S [.exit 2] G20_l1_run
noncomputable def G20_l0_S : SPat := ⟨[.any, .dat (.list T72), .any, .fix (.bptr 0 []), .any, .fix (.bptr 1 []), .fix (.bptr 2 []), .dat .bool, .fix (.bptr 4 []), .dat (.int .i64), .any, .any, .any, .any, .any, .any, .any, .any, .any, .any, .any, .any, .any, .any, .any, .any, .any, .any, .any, .any, .any, .any, .any, .any, .any, .any, .any, .any, .any, .any, .any, .any, .any, .any, .any, .any, .any, .any, .any, .any, .any, .any, .any, .any, .any, .any, .any, .any, .any, .any, .any, .any, .any, .any, .any, .any, .any, .any, .any, .any, .any, .any, .any, .any, .any, .any, .any, .any, .any, .any, .any, .any, .any, .any, .any, .any, .any, .any, .any], [.dat T23, .dat T26, .cons (.own 0 (.int .i64)) (.cons (.own 1 (.int .i64)) (.cons (.own 2 (.int .i64)) (.nil))), .vrow 3 (.int .i64), .cons (.own 4 (.int .i64)) (.cons (.own 5 (.int .i64)) (.cons (.vec 3 3 (.int .i64)) (.nil)))], 6⟩
abbrev TY100 : Type := (((List E72) × (Bool × (Int × Unit))) × (E23 × (E26 × (((List Int) × ((List Int) × ((List Int) × Unit))) × ((List Int) × (((List Int) × ((List Int) × (Nat × Unit))) × Unit))))))
abbrev TY101 : Type := (Nat × (((List E72) × (Bool × (Int × Unit))) × (E23 × (E26 × (((List Int) × ((List Int) × ((List Int) × Unit))) × ((List Int) × (((List Int) × ((List Int) × (Nat × Unit))) × Unit)))))))
noncomputable def G20_l0_step (s : TY100) : Option TY101 :=
  (bif (decide (s.1.2.2.1 < s.2.1.2.2.2.1)) then
  (Option.bind (G58 s.2.1 s.1.1 s.2.2.1 s.1.2.2.1) fun r1 =>
    (bif (!r1.2.1) then
      some (1, ((s.1.1, (false, (s.1.2.2.1, ()))), (s.2.1, (s.2.2.1, (([], ([], ([], ()))), (s.2.2.2.2.1, (s.2.2.2.2.2.1, ())))))))
      else
      (bif (decide (List.length s.2.2.2.2.2.1.1 + List.length [r1.1.1] ≤ LIM)) then
        (bif (decide (List.length s.2.2.2.2.2.1.2.1 + List.length [r1.1.2.1] ≤ LIM)) then
          (Option.bind (G59 s.2.1 s.1.1 s.2.2.1 s.1.2.2.1 r1.1.1 r1.1.2.1) fun r2 =>
            (Option.bind (G20_l1_run ((s.1.1, (s.1.2.1, (s.1.2.2.1, (r2.1, (0, (0, ())))))), (s.2.1, (s.2.2.1, (s.2.2.2.1, (s.2.2.2.2.1, (((s.2.2.2.2.2.1.1 ++ [r1.1.1]), ((s.2.2.2.2.2.1.2.1 ++ [r1.1.2.1]), s.2.2.2.2.2.1.2.2)), (r1.1, ())))))))) fun q3 =>
              some (0, ((q3.2.1.1, (q3.2.1.2.1, ((IntKind.wrap .i64 (q3.2.1.2.2.1 + 1)), ()))), (q3.2.2.1, (q3.2.2.2.1, (q3.2.2.2.2.1, (q3.2.2.2.2.2.1, (q3.2.2.2.2.2.2.1, ())))))))))
          else
          none)
        else
        none)))
  else
  some (2, ((s.1.1, (s.1.2.1, (s.1.2.2.1, ()))), (s.2.1, (s.2.2.1, (s.2.2.2.1, (s.2.2.2.2.1, (s.2.2.2.2.2.1, ()))))))))
noncomputable def G20_l0_fuel (s : TY100) : Nat := Int.toNat (s.2.1.2.2.2.1 - s.1.2.2.1) + 1
noncomputable def G20_l0_run (s : TY100) : Option TY101 := iter G20_l0_step (G20_l0_fuel s) s
noncomputable def G20_l0_L : LoopT := loopT G20_l0_S [.ret, .exit 0] G20_l0_run
noncomputable def G20 (a0 : E23) (a1 : (List E72)) (a2 : E26) : Option (E30 × (Bool × Unit)) :=
  (bif (decide ((0 : Int) ≤ (List.length a0.2.2.2.2.1 : Int)) && decide ((List.length a0.2.2.2.2.1 : Int) ≤ (LIM : Int)) && decide ((List.length a0.2.2.2.2.1 : Int) = (List.length a0.2.2.2.2.1 : Int))) then
  (Option.bind (G20_l0_run ((a1, (false, (0, ()))), (a0, (a2, (([], ([], ([], ()))), ((List.replicate (Int.toNat (List.length a0.2.2.2.2.1 : Int)) 0), (([], ([], ((Int.toNat (List.length a0.2.2.2.2.1 : Int)), ()))), ()))))))) fun q4 =>
    (natK q4.1
      (some (q4.2.2.2.2.1, (q4.2.1.2.1, ())))
      (fun _ => (bif (((decide (q4.2.2.2.2.2.2.1.2.2.1 ≤ List.length q4.2.2.2.2.2.1)) && true) && true) then
        some ((q4.2.2.2.2.2.2.1.1, (q4.2.2.2.2.2.2.1.2.1, ((List.take q4.2.2.2.2.2.2.1.2.2.1 q4.2.2.2.2.2.1), q4.2.2.2.2.2.2.1.2.2.2))), (true, ()))
        else
        none))))
  else
  none)
noncomputable def G20_E : CEnt := pureE 20 [.dat T23, .dat (.list T72), .dat T26] (.tup (.cons (.dat T30) (.cons (.dat .bool) (.nil)))) fun x => G20 x.1 x.2.1 x.2.2.1
theorem G20_l1_V : LValid 0 Tryd.prog (.loop G20_l1_c) G20_l1_L false := by
  exact loopT_valid (fuel := G20_l1_fuel) mixed G20_CV (lvNil _) (by kernel_rfl) (by decide) rfl (by intro s; kernel_rfl) (fun s r h => h)
theorem G20_l0_V : LValid 0 Tryd.prog (.loop G20_l0_c) G20_l0_L false := by
  have hb : ∀ s, codeR Tryd.prog G20_C G20_l0_c [G20_l1_L] (G20_l0_S.encE s) (G20_l0_S.encB s) (kst G20_l0_S [.ret, .exit 0]) = G20_l0_step s := by
    intro s; kernel_rfl
  have hl : loopsOf G20_l0_c = [.loop G20_l1_c] := by kernel_rfl
  have hL : LV 0 Tryd.prog false (loopsOf G20_l0_c) [G20_l1_L] := by rw [hl]; exact ⟨G20_l1_V, trivial⟩
  exact loopT_valid (fuel := G20_l0_fuel) mixed G20_CV hL (by kernel_rfl) (by decide) rfl hb (fun s r h => h)
theorem G20_LV : LV 0 Tryd.prog false (loopsOf (bodyOf Tryd.f20)) [G20_l0_L] := by
  have hl : loopsOf (bodyOf Tryd.f20) = [.loop G20_l0_c] := by kernel_rfl
  rw [hl]; exact ⟨G20_l0_V, trivial⟩
theorem G20_ent : Ent Tryd.prog 20 := ⟨by decide, enters_of Tryd.func20 (by kernel_rfl) rfl⟩
theorem G20_hev : ∀ x, fnR Tryd.prog G20_C [G20_l0_L] Tryd.f20 (bodyOf Tryd.f20) (encs [.dat T23, .dat (.list T72), .dat T26] x) ⟨[], [], 0⟩ (frzV (.tup (.cons (.dat T30) (.cons (.dat .bool) (.nil))))) = G20 x.1 x.2.1 x.2.2.1 := by
  intro x; kernel_rfl
theorem G20_valid : G20_E.Valid Tryd.prog :=
  pureE_valid (by kernel_rfl) (by kernel_rfl) G20_ent (frzV_lcall mixed Tryd.func20 rfl G20_ent G20_CV G20_LV (by kernel_rfl) (by kernel_rfl) G20_hev)
end Go.Proofs.YtibmgbalfhfcdaaDoor.Abs
set_option linter.unusedVariables false
set_option maxRecDepth 100000
namespace Go.Proofs.YtibmgbalfhfcdaaDoor.Abs
open Go.Shelf Go.Sort
end Go.Proofs.YtibmgbalfhfcdaaDoor.Abs
