import Derived.Test.YtcijddeommognaaDoorX1
set_option linter.unusedVariables false
set_option maxRecDepth 100000
namespace Go.Proofs.YtcijddeommognaaDoor.Abs
open Go.Shelf Go.Sort
abbrev T39 : DTy := (.cons (.int .i64) (.cons (.arr 3 (.int .i64)) (.cons (.int .i64) .nil)))
abbrev E39 : Type := (Int × ((List Int) × (Int × Unit)))
abbrev T44 : DTy := (.cons .bool (.cons (.int .i64) (.cons (.int .i64) (.cons (.int .i64) (.cons (.int .i64) .nil)))))
abbrev E44 : Type := (Bool × (Int × (Int × (Int × (Int × Unit)))))
abbrev T33 : DTy := (.cons (.list (.arr 3 (.int .i64))) (.cons (.list (.arr 3 (.int .i64))) (.cons (.list (.arr 3 (.int .i64))) .nil)))
abbrev E33 : Type := ((List (List Int)) × ((List (List Int)) × ((List (List Int)) × Unit)))
abbrev T27 : DTy := (.cons (.arr 3 (.int .i64)) (.cons (.arr 3 (.int .i64)) (.cons (.int .i64) (.cons (.int .i64) (.cons (.int .i64) (.cons (.list T39) (.cons (.list (.list .bool)) (.cons (.list (.list (.arr 3 (.int .i64)))) .nil))))))))
abbrev E27 : Type := ((List Int) × ((List Int) × (Int × (Int × (Int × ((List E39) × ((List (List Bool)) × ((List (List (List Int))) × Unit))))))))
noncomputable def G49_C : CalT := tabC []
theorem G49_CV : CV Tryd.prog G49_C := tabC_valid (l := _) trivial
noncomputable def G49 : Option (List E39) :=
  some ([(0, ((4 :: (2 :: (1 :: []))), (50, ()))), (1, ((2 :: (4 :: (1 :: []))), (40, ()))), (0, ((6 :: (6 :: (3 :: []))), (100, ())))])
noncomputable def G49_E : CEnt := pureE 49 [] (.dat (.list T39)) fun x => G49
theorem G49_LV : LV 0 Tryd.prog false (loopsOf (bodyOf Tryd.f49)) [] := by unfold LV; cases loopsOf (bodyOf Tryd.f49) <;> trivial
theorem G49_ent : Ent Tryd.prog 49 := ⟨by decide, enters_of Tryd.func49 (by kernel_rfl) rfl⟩
theorem G49_hev : ∀ x, fnR Tryd.prog G49_C [] Tryd.f49 (bodyOf Tryd.f49) (encs [] x) ⟨[], [], 0⟩ (frzF (.dat (.list T39))) = G49 := by
  intro x; kernel_rfl
theorem G49_valid : G49_E.Valid Tryd.prog :=
  pureE_valid (by kernel_rfl) (by kernel_rfl) G49_ent (frz_lcall mixed Tryd.func49 rfl G49_ent G49_CV G49_LV (by kernel_rfl) (by kernel_rfl) G49_hev)
noncomputable def G48_C : CalT := tabC [G49_E]
theorem G48_CV : CV Tryd.prog G48_C := tabC_valid (l := _) ⟨G49_valid, trivial⟩
noncomputable def G48 : Option E27 :=
  (Option.bind G49 fun r1 =>
  some ((2 :: (1 :: (0 :: []))), ((10 :: (8 :: (5 :: []))), (4, (4, (3, (r1, ([[true, true, true], [false, true, true]], ([[(1 :: (1 :: (0 :: []))), (1 :: (1 :: (0 :: []))), (1 :: (1 :: (0 :: []))), (1 :: (1 :: (1 :: [])))]], ())))))))))
noncomputable def G48_E : CEnt := pureE 48 [] (.dat T27) fun x => G48
theorem G48_LV : LV 0 Tryd.prog false (loopsOf (bodyOf Tryd.f48)) [] := by unfold LV; cases loopsOf (bodyOf Tryd.f48) <;> trivial
theorem G48_ent : Ent Tryd.prog 48 := ⟨by decide, enters_of Tryd.func48 (by kernel_rfl) rfl⟩
theorem G48_hev : ∀ x, fnR Tryd.prog G48_C [] Tryd.f48 (bodyOf Tryd.f48) (encs [] x) ⟨[], [], 0⟩ (frzF (.dat T27)) = G48 := by
  intro x; kernel_rfl
theorem G48_valid : G48_E.Valid Tryd.prog :=
  pureE_valid (by kernel_rfl) (by kernel_rfl) G48_ent (frz_lcall mixed Tryd.func48 rfl G48_ent G48_CV G48_LV (by kernel_rfl) (by kernel_rfl) G48_hev)
noncomputable def G53_C : CalT := tabC []
theorem G53_CV : CV Tryd.prog G53_C := tabC_valid (l := _) trivial
noncomputable def G53 (a0 : Int) (a1 : Int) (a2 : Int) : Option Bool :=
  (bif (decide (a0 ≥ a1)) then
  some (decide (a0 ≤ a2))
  else
  some false)
noncomputable def G53_E : CEnt := pureE 53 [.dat (.int .i64), .dat (.int .i64), .dat (.int .i64)] (.dat .bool) fun x => G53 x.1 x.2.1 x.2.2.1
theorem G53_LV : LV 0 Tryd.prog false (loopsOf (bodyOf Tryd.f53)) [] := by unfold LV; cases loopsOf (bodyOf Tryd.f53) <;> trivial
theorem G53_ent : Ent Tryd.prog 53 := ⟨by decide, enters_of Tryd.func53 (by kernel_rfl) rfl⟩
theorem G53_hev : ∀ x, fnR Tryd.prog G53_C [] Tryd.f53 (bodyOf Tryd.f53) (encs [.dat (.int .i64), .dat (.int .i64), .dat (.int .i64)] x) ⟨[], [], 0⟩ (frzF (.dat .bool)) = G53 x.1 x.2.1 x.2.2.1 := by
  intro x; kernel_rfl
theorem G53_valid : G53_E.Valid Tryd.prog :=
  pureE_valid (by kernel_rfl) (by kernel_rfl) G53_ent (frz_lcall mixed Tryd.func53 rfl G53_ent G53_CV G53_LV (by kernel_rfl) (by kernel_rfl) G53_hev)
noncomputable def G76_C : CalT := tabC [G53_E]
theorem G76_CV : CV Tryd.prog G76_C := tabC_valid (l := _) ⟨G53_valid, trivial⟩
noncomputable def G76_l0_c : Code := loopAt (bodyOf Tryd.f76) 0
noncomputable def G76_l0_S : SPat := ⟨[.any, .fix (.bptr 0 []), .dat .bool, .any, .dat (.int .i64), .any, .any, .any, .any, .any, .any, .any, .any], [.dat (.arr 3 (.int .i64))], 0⟩
noncomputable def G76_l0_step (s : ((Bool × (Int × Unit)) × ((List Int) × Unit))) : Option (Nat × ((Bool × (Int × Unit)) × ((List Int) × Unit))) :=
  (bif (decide (s.1.2.1 < 3)) then
  (bif (decide (0 ≤ s.1.2.1) && decide (s.1.2.1 < (3 : Int))) then
    (Option.bind (G53 (List.getD s.2.1 (Int.toNat s.1.2.1) 0) 0 1000) fun r1 =>
      (bif (!r1) then
        some (1, ((false, (s.1.2.1, ())), (s.2.1, ())))
        else
        some (0, ((s.1.1, ((IntKind.wrap .i64 (s.1.2.1 + 1)), ())), (s.2.1, ())))))
    else
    none)
  else
  some (2, ((s.1.1, (s.1.2.1, ())), (s.2.1, ()))))
noncomputable def G76_l0_fuel (s : ((Bool × (Int × Unit)) × ((List Int) × Unit))) : Nat := Int.toNat (3 - s.1.2.1) + 1
noncomputable def G76_l0_run (s : ((Bool × (Int × Unit)) × ((List Int) × Unit))) : Option (Nat × ((Bool × (Int × Unit)) × ((List Int) × Unit))) := iter G76_l0_step (G76_l0_fuel s) s
noncomputable def G76_l0_L : LoopT := loopT G76_l0_S [.ret, .exit 0] G76_l0_run
noncomputable def G76 (a0 : (List Int)) : Option Bool :=
  (Option.bind (G76_l0_run ((false, (0, ())), (a0, ()))) fun q2 =>
  (natK q2.1
    (some q2.2.1.1)
    (fun _ => some true)))
noncomputable def G76_E : CEnt := pureE 76 [.dat (.arr 3 (.int .i64))] (.dat .bool) fun x => G76 x.1
theorem G76_l0_V : LValid 0 Tryd.prog (.loop G76_l0_c) G76_l0_L false := by
  exact loopT_valid (fuel := G76_l0_fuel) mixed G76_CV (lvNil _) (by kernel_rfl) (by decide) rfl (by intro s; kernel_rfl) (fun s r h => h)
theorem G76_LV : LV 0 Tryd.prog false (loopsOf (bodyOf Tryd.f76)) [G76_l0_L] := by
  have hl : loopsOf (bodyOf Tryd.f76) = [.loop G76_l0_c] := by kernel_rfl
  rw [hl]; exact ⟨G76_l0_V, trivial⟩
theorem G76_ent : Ent Tryd.prog 76 := ⟨by decide, enters_of Tryd.func76 (by kernel_rfl) rfl⟩
theorem G76_hev : ∀ x, fnR Tryd.prog G76_C [G76_l0_L] Tryd.f76 (bodyOf Tryd.f76) (encs [.dat (.arr 3 (.int .i64))] x) ⟨[], [], 0⟩ (frzF (.dat .bool)) = G76 x.1 := by
  intro x; kernel_rfl
theorem G76_valid : G76_E.Valid Tryd.prog :=
  pureE_valid (by kernel_rfl) (by kernel_rfl) G76_ent (frz_lcall mixed Tryd.func76 rfl G76_ent G76_CV G76_LV (by kernel_rfl) (by kernel_rfl) G76_hev)
noncomputable def G78_C : CalT := tabC [G53_E, G76_E]
theorem G78_CV : CV Tryd.prog G78_C := tabC_valid (l := _) ⟨G53_valid, G76_valid, trivial⟩
noncomputable def G78 (a0 : E39) : Option Bool :=
  (Option.bind (G53 a0.1 0 7) fun r1 =>
  (bif r1 then
    (Option.bind (G76 a0.2.1) fun r2 =>
      (bif r2 then
        (Option.bind (G53 a0.2.2.1 0 1000000) fun r3 =>
          some r3)
        else
        some false))
    else
    some false))
noncomputable def G78_E : CEnt := pureE 78 [.dat T39] (.dat .bool) fun x => G78 x.1
theorem G78_LV : LV 0 Tryd.prog false (loopsOf (bodyOf Tryd.f78)) [] := by unfold LV; cases loopsOf (bodyOf Tryd.f78) <;> trivial
theorem G78_ent : Ent Tryd.prog 78 := ⟨by decide, enters_of Tryd.func78 (by kernel_rfl) rfl⟩
theorem G78_hev : ∀ x, fnR Tryd.prog G78_C [] Tryd.f78 (bodyOf Tryd.f78) (encs [.dat T39] x) ⟨[], [], 0⟩ (frzF (.dat .bool)) = G78 x.1 := by
  intro x; kernel_rfl
theorem G78_valid : G78_E.Valid Tryd.prog :=
  pureE_valid (by kernel_rfl) (by kernel_rfl) G78_ent (frz_lcall mixed Tryd.func78 rfl G78_ent G78_CV G78_LV (by kernel_rfl) (by kernel_rfl) G78_hev)
noncomputable def G77_C : CalT := tabC [G78_E]
theorem G77_CV : CV Tryd.prog G77_C := tabC_valid (l := _) ⟨G78_valid, trivial⟩
noncomputable def G77 (a0 : E39) : Option Bool :=
  (Option.bind (G78 a0) fun r1 =>
  some (!r1))
noncomputable def G77_E : CEnt := pureE 77 [.dat T39] (.dat .bool) fun x => G77 x.1
theorem G77_LV : LV 0 Tryd.prog false (loopsOf (bodyOf Tryd.f77)) [] := by unfold LV; cases loopsOf (bodyOf Tryd.f77) <;> trivial
theorem G77_ent : Ent Tryd.prog 77 := ⟨by decide, enters_of Tryd.func77 (by kernel_rfl) rfl⟩
theorem G77_hev : ∀ x, fnR Tryd.prog G77_C [] Tryd.f77 (bodyOf Tryd.f77) (encs [.dat T39] x) ⟨[], [], 0⟩ (frzF (.dat .bool)) = G77 x.1 := by
  intro x; kernel_rfl
theorem G77_valid : G77_E.Valid Tryd.prog :=
  pureE_valid (by kernel_rfl) (by kernel_rfl) G77_ent (frz_lcall mixed Tryd.func77 rfl G77_ent G77_CV G77_LV (by kernel_rfl) (by kernel_rfl) G77_hev)
noncomputable def G89_C : CalT := tabC [G77_E]
theorem G89_CV : CV Tryd.prog G89_C := tabC_valid (l := _) ⟨G77_valid, trivial⟩
noncomputable def G89_l0_c : Code := loopAt (bodyOf Tryd.f89) 0
noncomputable def G89_l0_S : SPat := ⟨[.dat (.list T39), .fix (.func (.func 77) .nil .nil), .any, .any, .dat (.int .i64), .any, .any, .dat (.int .i64), .dat (.int .i64), .any, .any, .any, .any, .any, .any, .any, .any, .any, .any], [], 0⟩
noncomputable def G89_l0_step (s : (((List E39) × (Int × (Int × (Int × Unit)))) × Unit)) : Option (Nat × (((List E39) × (Int × (Int × (Int × Unit)))) × Unit)) :=
  (bif (decide (s.1.2.2.2.1 < s.1.2.2.1)) then
  (bif (decide (0 ≤ s.1.2.2.2.1) && decide (s.1.2.2.2.1 < (List.length s.1.1 : Int))) then
    (Option.bind (G77 (List.getD s.1.1 (Int.toNat s.1.2.2.2.1) (0, ((List.replicate 3 0), (0, ()))))) fun r1 =>
      (bif r1 then
        some (1, ((s.1.1, (s.1.2.2.2.1, (s.1.2.2.1, (s.1.2.2.2.1, ())))), ()))
        else
        some (0, ((s.1.1, (s.1.2.1, (s.1.2.2.1, ((IntKind.wrap .i64 (s.1.2.2.2.1 + 1)), ())))), ()))))
    else
    none)
  else
  some (2, ((s.1.1, (s.1.2.1, (s.1.2.2.1, (s.1.2.2.2.1, ())))), ())))
noncomputable def G89_l0_fuel (s : (((List E39) × (Int × (Int × (Int × Unit)))) × Unit)) : Nat := Int.toNat (s.1.2.2.1 - s.1.2.2.2.1) + 1
noncomputable def G89_l0_run (s : (((List E39) × (Int × (Int × (Int × Unit)))) × Unit)) : Option (Nat × (((List E39) × (Int × (Int × (Int × Unit)))) × Unit)) := iter G89_l0_step (G89_l0_fuel s) s
noncomputable def G89_l0_L : LoopT := loopT G89_l0_S [.ret, .exit 0] G89_l0_run
noncomputable def G89 (a0 : (List E39)) : Option Int :=
  (Option.bind (G89_l0_run ((a0, (0, ((List.length a0 : Int), (0, ())))), ())) fun q2 =>
  (natK q2.1
    (some q2.2.1.2.1)
    (fun _ => some (-1))))
noncomputable def G89_E : CEnt := pureE 89 [.dat (.list T39), .fix (.func (.func 77) .nil .nil)] (.dat (.int .i64)) fun x => G89 x.1
theorem G89_l0_V : LValid 0 Tryd.prog (.loop G89_l0_c) G89_l0_L false := by
  exact loopT_valid (fuel := G89_l0_fuel) mixed G89_CV (lvNil _) (by kernel_rfl) (by decide) rfl (by intro s; kernel_rfl) (fun s r h => h)
theorem G89_LV : LV 0 Tryd.prog false (loopsOf (bodyOf Tryd.f89)) [G89_l0_L] := by
  have hl : loopsOf (bodyOf Tryd.f89) = [.loop G89_l0_c] := by kernel_rfl
  rw [hl]; exact ⟨G89_l0_V, trivial⟩
theorem G89_ent : Ent Tryd.prog 89 := ⟨by decide, enters_of Tryd.func89 (by kernel_rfl) rfl⟩
theorem G89_hev : ∀ x, fnR Tryd.prog G89_C [G89_l0_L] Tryd.f89 (bodyOf Tryd.f89) (encs [.dat (.list T39), .fix (.func (.func 77) .nil .nil)] x) ⟨[], [], 0⟩ (frzF (.dat (.int .i64))) = G89 x.1 := by
  intro x; kernel_rfl
theorem G89_valid : G89_E.Valid Tryd.prog :=
  pureE_valid (by kernel_rfl) (by kernel_rfl) G89_ent (frz_lcall mixed Tryd.func89 rfl G89_ent G89_CV G89_LV (by kernel_rfl) (by kernel_rfl) G89_hev)
noncomputable def G60_C : CalT := tabC [G89_E]
theorem G60_CV : CV Tryd.prog G60_C := tabC_valid (l := _) ⟨G89_valid, trivial⟩
noncomputable def G60 (a0 : (List E39)) : Option Bool :=
  (Option.bind (G89 a0) fun r1 =>
  some (decide (r1 ≥ 0)))
noncomputable def G60_E : CEnt := pureE 60 [.dat (.list T39), .fix (.func (.func 77) .nil .nil)] (.dat .bool) fun x => G60 x.1
theorem G60_LV : LV 0 Tryd.prog false (loopsOf (bodyOf Tryd.f60)) [] := by unfold LV; cases loopsOf (bodyOf Tryd.f60) <;> trivial
theorem G60_ent : Ent Tryd.prog 60 := ⟨by decide, enters_of Tryd.func60 (by kernel_rfl) rfl⟩
theorem G60_hev : ∀ x, fnR Tryd.prog G60_C [] Tryd.f60 (bodyOf Tryd.f60) (encs [.dat (.list T39), .fix (.func (.func 77) .nil .nil)] x) ⟨[], [], 0⟩ (frzF (.dat .bool)) = G60 x.1 := by
  intro x; kernel_rfl
theorem G60_valid : G60_E.Valid Tryd.prog :=
  pureE_valid (by kernel_rfl) (by kernel_rfl) G60_ent (frz_lcall mixed Tryd.func60 rfl G60_ent G60_CV G60_LV (by kernel_rfl) (by kernel_rfl) G60_hev)
noncomputable def G80_C : CalT := tabC []
theorem G80_CV : CV Tryd.prog G80_C := tabC_valid (l := _) trivial
noncomputable def G80 (a0 : (List Bool)) (b1 : E27) : Option (Bool × (E27 × Unit)) :=
  some (((List.length a0 : Int) != b1.2.2.2.2.1), (b1, ()))
abbrev G80_CS : CSpec := ⟨[.dat (.list .bool), .fix (.bptr 0 [])], [.dat T27], 0, [.dat T27], 0, .dat .bool⟩
noncomputable def G80_E : CEnt := boxE 80 G80_CS fun x => G80 x.1.1 x.2.1
theorem G80_LV : LV 1 Tryd.prog false (loopsOf (bodyOf Tryd.f80)) [] := by unfold LV; cases loopsOf (bodyOf Tryd.f80) <;> trivial
theorem G80_ent : Ent Tryd.prog 80 := ⟨by decide, enters_of Tryd.func80 (by kernel_rfl) rfl⟩
theorem G80_hev : ∀ x : G80_CS.In, fnR Tryd.prog G80_C [] Tryd.f80 (bodyOf Tryd.f80) (encs G80_CS.A x.1) ⟨encs G80_CS.I x.2, [], G80_CS.nt⟩ (finK G80_CS) = G80 x.1.1 x.2.1 := by
  intro x; kernel_rfl
theorem G80_valid : G80_E.Valid Tryd.prog :=
  boxE_valid (S := G80_CS) (by kernel_rfl) (.inr G80_ent) (fn_lcall (S := G80_CS) mixed Tryd.func80 rfl G80_ent G80_CV G80_LV (by kernel_rfl) (by kernel_rfl) G80_hev)
noncomputable def G97_C : CalT := tabC [G80_E]
theorem G97_CV : CV Tryd.prog G97_C := tabC_valid (l := _) ⟨G80_valid, trivial⟩
noncomputable def G97_l0_c : Code := loopAt (bodyOf Tryd.f97) 0
noncomputable def G97_l0_S : SPat := ⟨[.dat (.list (.list .bool)), .fix (.func (.func 80) .nil (.cons (.bptr 0 []) .nil)), .any, .any, .dat (.int .i64), .any, .any, .dat (.int .i64), .dat (.int .i64), .any, .any, .any, .any, .any, .any, .any, .any, .any, .any], [.dat T27], 0⟩
abbrev TY0 : Type := (Nat × (((List (List Bool)) × (Int × (Int × (Int × Unit)))) × (E27 × Unit)))
noncomputable def G97_l0_step (s : (((List (List Bool)) × (Int × (Int × (Int × Unit)))) × (E27 × Unit))) : Option TY0 :=
  (bif (decide (s.1.2.2.2.1 < s.1.2.2.1)) then
  (bif (decide (0 ≤ s.1.2.2.2.1) && decide (s.1.2.2.2.1 < (List.length s.1.1 : Int))) then
    (Option.bind (G80 (List.getD s.1.1 (Int.toNat s.1.2.2.2.1) []) s.2.1) fun r1 =>
      (bif r1.1 then
        some (1, ((s.1.1, (s.1.2.2.2.1, (s.1.2.2.1, (s.1.2.2.2.1, ())))), (r1.2.1, ())))
        else
        some (0, ((s.1.1, (s.1.2.1, (s.1.2.2.1, ((IntKind.wrap .i64 (s.1.2.2.2.1 + 1)), ())))), (r1.2.1, ())))))
    else
    none)
  else
  some (2, ((s.1.1, (s.1.2.1, (s.1.2.2.1, (s.1.2.2.2.1, ())))), (s.2.1, ()))))
noncomputable def G97_l0_fuel (s : (((List (List Bool)) × (Int × (Int × (Int × Unit)))) × (E27 × Unit))) : Nat := Int.toNat (s.1.2.2.1 - s.1.2.2.2.1) + 1
noncomputable def G97_l0_run (s : (((List (List Bool)) × (Int × (Int × (Int × Unit)))) × (E27 × Unit))) : Option TY0 := iter G97_l0_step (G97_l0_fuel s) s
noncomputable def G97_l0_L : LoopT := loopT G97_l0_S [.ret, .exit 0] G97_l0_run
noncomputable def G97 (a0 : (List (List Bool))) (b1 : E27) : Option (Int × (E27 × Unit)) :=
  (Option.bind (G97_l0_run ((a0, (0, ((List.length a0 : Int), (0, ())))), (b1, ()))) fun q2 =>
  (natK q2.1
    (some (q2.2.1.2.1, (q2.2.2.1, ())))
    (fun _ => some ((-1), (q2.2.2.1, ())))))
abbrev G97_CS : CSpec := ⟨[.dat (.list (.list .bool)), .fix (.func (.func 80) .nil (.cons (.bptr 0 []) .nil))], [.dat T27], 0, [.dat T27], 0, .dat (.int .i64)⟩
noncomputable def G97_E : CEnt := boxE 97 G97_CS fun x => G97 x.1.1 x.2.1
theorem G97_l0_V : LValid 1 Tryd.prog (.loop G97_l0_c) G97_l0_L false := by
  have hb : ∀ s, codeR Tryd.prog G97_C G97_l0_c [] (G97_l0_S.encE s) (G97_l0_S.encB s) (kst G97_l0_S [.ret, .exit 0]) = G97_l0_step s := by
    intro s; kernel_rfl
  have hL : LV 1 Tryd.prog false (loopsOf G97_l0_c) [] := by unfold LV; cases loopsOf G97_l0_c <;> trivial
  exact loopT_valid (fuel := G97_l0_fuel) mixed G97_CV hL (by kernel_rfl) (by decide) rfl hb (fun s r h => h)
theorem G97_LV : LV 1 Tryd.prog false (loopsOf (bodyOf Tryd.f97)) [G97_l0_L] := by
  have hl : loopsOf (bodyOf Tryd.f97) = [.loop G97_l0_c] := by kernel_rfl
  rw [hl]; exact ⟨G97_l0_V, trivial⟩
theorem G97_ent : Ent Tryd.prog 97 := ⟨by decide, enters_of Tryd.func97 (by kernel_rfl) rfl⟩
theorem G97_hev : ∀ x : G97_CS.In, fnR Tryd.prog G97_C [G97_l0_L] Tryd.f97 (bodyOf Tryd.f97) (encs G97_CS.A x.1) ⟨encs G97_CS.I x.2, [], G97_CS.nt⟩ (finK G97_CS) = G97 x.1.1 x.2.1 := by
  intro x; kernel_rfl
theorem G97_valid : G97_E.Valid Tryd.prog :=
  boxE_valid (S := G97_CS) (by kernel_rfl) (.inr G97_ent) (fn_lcall (S := G97_CS) mixed Tryd.func97 rfl G97_ent G97_CV G97_LV (by kernel_rfl) (by kernel_rfl) G97_hev)
noncomputable def G79_C : CalT := tabC [G97_E]
theorem G79_CV : CV Tryd.prog G79_C := tabC_valid (l := _) ⟨G97_valid, trivial⟩
noncomputable def G79 (a0 : (List (List Bool))) (b1 : E27) : Option (Bool × (E27 × Unit)) :=
  (Option.bind (G97 a0 b1) fun r1 =>
  some ((decide (r1.1 ≥ 0)), (r1.2.1, ())))
abbrev G79_CS : CSpec := ⟨[.dat (.list (.list .bool)), .fix (.func (.func 80) .nil (.cons (.bptr 0 []) .nil))], [.dat T27], 0, [.dat T27], 0, .dat .bool⟩
noncomputable def G79_E : CEnt := boxE 79 G79_CS fun x => G79 x.1.1 x.2.1
theorem G79_LV : LV 1 Tryd.prog false (loopsOf (bodyOf Tryd.f79)) [] := by unfold LV; cases loopsOf (bodyOf Tryd.f79) <;> trivial
theorem G79_ent : Ent Tryd.prog 79 := ⟨by decide, enters_of Tryd.func79 (by kernel_rfl) rfl⟩
theorem G79_hev : ∀ x : G79_CS.In, fnR Tryd.prog G79_C [] Tryd.f79 (bodyOf Tryd.f79) (encs G79_CS.A x.1) ⟨encs G79_CS.I x.2, [], G79_CS.nt⟩ (finK G79_CS) = G79 x.1.1 x.2.1 := by
  intro x; kernel_rfl
theorem G79_valid : G79_E.Valid Tryd.prog :=
  boxE_valid (S := G79_CS) (by kernel_rfl) (.inr G79_ent) (fn_lcall (S := G79_CS) mixed Tryd.func79 rfl G79_ent G79_CV G79_LV (by kernel_rfl) (by kernel_rfl) G79_hev)
noncomputable def G84_C : CalT := tabC [G76_E]
theorem G84_CV : CV Tryd.prog G84_C := tabC_valid (l := _) ⟨G76_valid, trivial⟩
noncomputable def G84 (a0 : (List Int)) : Option Bool :=
  (Option.bind (G76 a0) fun r1 =>
  some (!r1))
noncomputable def G84_E : CEnt := pureE 84 [.dat (.arr 3 (.int .i64))] (.dat .bool) fun x => G84 x.1
theorem G84_LV : LV 0 Tryd.prog false (loopsOf (bodyOf Tryd.f84)) [] := by unfold LV; cases loopsOf (bodyOf Tryd.f84) <;> trivial
theorem G84_ent : Ent Tryd.prog 84 := ⟨by decide, enters_of Tryd.func84 (by kernel_rfl) rfl⟩
theorem G84_hev : ∀ x, fnR Tryd.prog G84_C [] Tryd.f84 (bodyOf Tryd.f84) (encs [.dat (.arr 3 (.int .i64))] x) ⟨[], [], 0⟩ (frzF (.dat .bool)) = G84 x.1 := by
  intro x; kernel_rfl
theorem G84_valid : G84_E.Valid Tryd.prog :=
  pureE_valid (by kernel_rfl) (by kernel_rfl) G84_ent (frz_lcall mixed Tryd.func84 rfl G84_ent G84_CV G84_LV (by kernel_rfl) (by kernel_rfl) G84_hev)
noncomputable def G99_C : CalT := tabC [G84_E]
theorem G99_CV : CV Tryd.prog G99_C := tabC_valid (l := _) ⟨G84_valid, trivial⟩
noncomputable def G99_l0_c : Code := loopAt (bodyOf Tryd.f99) 0
noncomputable def G99_l0_S : SPat := ⟨[.dat (.list (.arr 3 (.int .i64))), .fix (.func (.func 84) .nil .nil), .any, .any, .dat (.int .i64), .any, .any, .dat (.int .i64), .dat (.int .i64), .any, .any, .any, .any, .any, .any, .any, .any, .any, .any], [], 0⟩
noncomputable def G99_l0_step (s : (((List (List Int)) × (Int × (Int × (Int × Unit)))) × Unit)) : Option (Nat × (((List (List Int)) × (Int × (Int × (Int × Unit)))) × Unit)) :=
  (bif (decide (s.1.2.2.2.1 < s.1.2.2.1)) then
  (bif (decide (0 ≤ s.1.2.2.2.1) && decide (s.1.2.2.2.1 < (List.length s.1.1 : Int))) then
    (Option.bind (G84 (List.getD s.1.1 (Int.toNat s.1.2.2.2.1) (List.replicate 3 0))) fun r1 =>
      (bif r1 then
        some (1, ((s.1.1, (s.1.2.2.2.1, (s.1.2.2.1, (s.1.2.2.2.1, ())))), ()))
        else
        some (0, ((s.1.1, (s.1.2.1, (s.1.2.2.1, ((IntKind.wrap .i64 (s.1.2.2.2.1 + 1)), ())))), ()))))
    else
    none)
  else
  some (2, ((s.1.1, (s.1.2.1, (s.1.2.2.1, (s.1.2.2.2.1, ())))), ())))
noncomputable def G99_l0_fuel (s : (((List (List Int)) × (Int × (Int × (Int × Unit)))) × Unit)) : Nat := Int.toNat (s.1.2.2.1 - s.1.2.2.2.1) + 1
noncomputable def G99_l0_run (s : (((List (List Int)) × (Int × (Int × (Int × Unit)))) × Unit)) : Option (Nat × (((List (List Int)) × (Int × (Int × (Int × Unit)))) × Unit)) := iter G99_l0_step (G99_l0_fuel s) s
noncomputable def G99_l0_L : LoopT := loopT G99_l0_S [.ret, .exit 0] G99_l0_run
noncomputable def G99 (a0 : (List (List Int))) : Option Int :=
  (Option.bind (G99_l0_run ((a0, (0, ((List.length a0 : Int), (0, ())))), ())) fun q2 =>
  (natK q2.1
    (some q2.2.1.2.1)
    (fun _ => some (-1))))
noncomputable def G99_E : CEnt := pureE 99 [.dat (.list (.arr 3 (.int .i64))), .fix (.func (.func 84) .nil .nil)] (.dat (.int .i64)) fun x => G99 x.1
theorem G99_l0_V : LValid 0 Tryd.prog (.loop G99_l0_c) G99_l0_L false := by
  exact loopT_valid (fuel := G99_l0_fuel) mixed G99_CV (lvNil _) (by kernel_rfl) (by decide) rfl (by intro s; kernel_rfl) (fun s r h => h)
theorem G99_LV : LV 0 Tryd.prog false (loopsOf (bodyOf Tryd.f99)) [G99_l0_L] := by
  have hl : loopsOf (bodyOf Tryd.f99) = [.loop G99_l0_c] := by kernel_rfl
  rw [hl]; exact ⟨G99_l0_V, trivial⟩
theorem G99_ent : Ent Tryd.prog 99 := ⟨by decide, enters_of Tryd.func99 (by kernel_rfl) rfl⟩
theorem G99_hev : ∀ x, fnR Tryd.prog G99_C [G99_l0_L] Tryd.f99 (bodyOf Tryd.f99) (encs [.dat (.list (.arr 3 (.int .i64))), .fix (.func (.func 84) .nil .nil)] x) ⟨[], [], 0⟩ (frzF (.dat (.int .i64))) = G99 x.1 := by
  intro x; kernel_rfl
theorem G99_valid : G99_E.Valid Tryd.prog :=
  pureE_valid (by kernel_rfl) (by kernel_rfl) G99_ent (frz_lcall mixed Tryd.func99 rfl G99_ent G99_CV G99_LV (by kernel_rfl) (by kernel_rfl) G99_hev)
noncomputable def G83_C : CalT := tabC [G99_E]
theorem G83_CV : CV Tryd.prog G83_C := tabC_valid (l := _) ⟨G99_valid, trivial⟩
noncomputable def G83 (a0 : (List (List Int))) : Option Bool :=
  (Option.bind (G99 a0) fun r1 =>
  some (decide (r1 ≥ 0)))
noncomputable def G83_E : CEnt := pureE 83 [.dat (.list (.arr 3 (.int .i64))), .fix (.func (.func 84) .nil .nil)] (.dat .bool) fun x => G83 x.1
theorem G83_LV : LV 0 Tryd.prog false (loopsOf (bodyOf Tryd.f83)) [] := by unfold LV; cases loopsOf (bodyOf Tryd.f83) <;> trivial
theorem G83_ent : Ent Tryd.prog 83 := ⟨by decide, enters_of Tryd.func83 (by kernel_rfl) rfl⟩
theorem G83_hev : ∀ x, fnR Tryd.prog G83_C [] Tryd.f83 (bodyOf Tryd.f83) (encs [.dat (.list (.arr 3 (.int .i64))), .fix (.func (.func 84) .nil .nil)] x) ⟨[], [], 0⟩ (frzF (.dat .bool)) = G83 x.1 := by
  intro x; kernel_rfl
theorem G83_valid : G83_E.Valid Tryd.prog :=
  pureE_valid (by kernel_rfl) (by kernel_rfl) G83_ent (frz_lcall mixed Tryd.func83 rfl G83_ent G83_CV G83_LV (by kernel_rfl) (by kernel_rfl) G83_hev)
noncomputable def G82_C : CalT := tabC [G83_E]
theorem G82_CV : CV Tryd.prog G82_C := tabC_valid (l := _) ⟨G83_valid, trivial⟩
noncomputable def G82 (a0 : (List (List Int))) (b1 : E27) : Option (Bool × (E27 × Unit)) :=
  (bif ((List.length a0 : Int) != b1.2.2.2.1) then
  some (true, (b1, ()))
  else
  (Option.bind (G83 a0) fun r1 =>
    some (r1, (b1, ()))))
abbrev G82_CS : CSpec := ⟨[.dat (.list (.arr 3 (.int .i64))), .fix (.bptr 0 [])], [.dat T27], 0, [.dat T27], 0, .dat .bool⟩
noncomputable def G82_E : CEnt := boxE 82 G82_CS fun x => G82 x.1.1 x.2.1
theorem G82_LV : LV 1 Tryd.prog false (loopsOf (bodyOf Tryd.f82)) [] := by unfold LV; cases loopsOf (bodyOf Tryd.f82) <;> trivial
theorem G82_ent : Ent Tryd.prog 82 := ⟨by decide, enters_of Tryd.func82 (by kernel_rfl) rfl⟩
theorem G82_hev : ∀ x : G82_CS.In, fnR Tryd.prog G82_C [] Tryd.f82 (bodyOf Tryd.f82) (encs G82_CS.A x.1) ⟨encs G82_CS.I x.2, [], G82_CS.nt⟩ (finK G82_CS) = G82 x.1.1 x.2.1 := by
  intro x; kernel_rfl
theorem G82_valid : G82_E.Valid Tryd.prog :=
  boxE_valid (S := G82_CS) (by kernel_rfl) (.inr G82_ent) (fn_lcall (S := G82_CS) mixed Tryd.func82 rfl G82_ent G82_CV G82_LV (by kernel_rfl) (by kernel_rfl) G82_hev)
noncomputable def G98_C : CalT := tabC [G82_E]
theorem G98_CV : CV Tryd.prog G98_C := tabC_valid (l := _) ⟨G82_valid, trivial⟩
noncomputable def G98_l0_c : Code := loopAt (bodyOf Tryd.f98) 0
noncomputable def G98_l0_S : SPat := ⟨[.dat (.list (.list (.arr 3 (.int .i64)))), .fix (.func (.func 82) .nil (.cons (.bptr 0 []) .nil)), .any, .any, .dat (.int .i64), .any, .any, .dat (.int .i64), .dat (.int .i64), .any, .any, .any, .any, .any, .any, .any, .any, .any, .any], [.dat T27], 0⟩
abbrev TY1 : Type := (((List (List (List Int))) × (Int × (Int × (Int × Unit)))) × (E27 × Unit))
abbrev TY2 : Type := (Nat × (((List (List (List Int))) × (Int × (Int × (Int × Unit)))) × (E27 × Unit)))
noncomputable def G98_l0_step (s : TY1) : Option TY2 :=
  (bif (decide (s.1.2.2.2.1 < s.1.2.2.1)) then
  (bif (decide (0 ≤ s.1.2.2.2.1) && decide (s.1.2.2.2.1 < (List.length s.1.1 : Int))) then
    (Option.bind (G82 (List.getD s.1.1 (Int.toNat s.1.2.2.2.1) []) s.2.1) fun r1 =>
      (bif r1.1 then
        some (1, ((s.1.1, (s.1.2.2.2.1, (s.1.2.2.1, (s.1.2.2.2.1, ())))), (r1.2.1, ())))
        else
        some (0, ((s.1.1, (s.1.2.1, (s.1.2.2.1, ((IntKind.wrap .i64 (s.1.2.2.2.1 + 1)), ())))), (r1.2.1, ())))))
    else
    none)
  else
  some (2, ((s.1.1, (s.1.2.1, (s.1.2.2.1, (s.1.2.2.2.1, ())))), (s.2.1, ()))))
noncomputable def G98_l0_fuel (s : TY1) : Nat := Int.toNat (s.1.2.2.1 - s.1.2.2.2.1) + 1
noncomputable def G98_l0_run (s : TY1) : Option TY2 := iter G98_l0_step (G98_l0_fuel s) s
noncomputable def G98_l0_L : LoopT := loopT G98_l0_S [.ret, .exit 0] G98_l0_run
noncomputable def G98 (a0 : (List (List (List Int)))) (b1 : E27) : Option (Int × (E27 × Unit)) :=
  (Option.bind (G98_l0_run ((a0, (0, ((List.length a0 : Int), (0, ())))), (b1, ()))) fun q2 =>
  (natK q2.1
    (some (q2.2.1.2.1, (q2.2.2.1, ())))
    (fun _ => some ((-1), (q2.2.2.1, ())))))
abbrev G98_CS : CSpec := ⟨[.dat (.list (.list (.arr 3 (.int .i64)))), .fix (.func (.func 82) .nil (.cons (.bptr 0 []) .nil))], [.dat T27], 0, [.dat T27], 0, .dat (.int .i64)⟩
noncomputable def G98_E : CEnt := boxE 98 G98_CS fun x => G98 x.1.1 x.2.1
theorem G98_l0_V : LValid 1 Tryd.prog (.loop G98_l0_c) G98_l0_L false := by
  have hb : ∀ s, codeR Tryd.prog G98_C G98_l0_c [] (G98_l0_S.encE s) (G98_l0_S.encB s) (kst G98_l0_S [.ret, .exit 0]) = G98_l0_step s := by
    intro s; kernel_rfl
  have hL : LV 1 Tryd.prog false (loopsOf G98_l0_c) [] := by unfold LV; cases loopsOf G98_l0_c <;> trivial
  exact loopT_valid (fuel := G98_l0_fuel) mixed G98_CV hL (by kernel_rfl) (by decide) rfl hb (fun s r h => h)
theorem G98_LV : LV 1 Tryd.prog false (loopsOf (bodyOf Tryd.f98)) [G98_l0_L] := by
  have hl : loopsOf (bodyOf Tryd.f98) = [.loop G98_l0_c] := by kernel_rfl
  rw [hl]; exact ⟨G98_l0_V, trivial⟩
theorem G98_ent : Ent Tryd.prog 98 := ⟨by decide, enters_of Tryd.func98 (by kernel_rfl) rfl⟩
theorem G98_hev : ∀ x : G98_CS.In, fnR Tryd.prog G98_C [G98_l0_L] Tryd.f98 (bodyOf Tryd.f98) (encs G98_CS.A x.1) ⟨encs G98_CS.I x.2, [], G98_CS.nt⟩ (finK G98_CS) = G98 x.1.1 x.2.1 := by
  intro x; kernel_rfl
theorem G98_valid : G98_E.Valid Tryd.prog :=
  boxE_valid (S := G98_CS) (by kernel_rfl) (.inr G98_ent) (fn_lcall (S := G98_CS) mixed Tryd.func98 rfl G98_ent G98_CV G98_LV (by kernel_rfl) (by kernel_rfl) G98_hev)
noncomputable def G81_C : CalT := tabC [G98_E]
theorem G81_CV : CV Tryd.prog G81_C := tabC_valid (l := _) ⟨G98_valid, trivial⟩
noncomputable def G81 (a0 : (List (List (List Int)))) (b1 : E27) : Option (Bool × (E27 × Unit)) :=
  (Option.bind (G98 a0 b1) fun r1 =>
  some ((decide (r1.1 ≥ 0)), (r1.2.1, ())))
abbrev G81_CS : CSpec := ⟨[.dat (.list (.list (.arr 3 (.int .i64)))), .fix (.func (.func 82) .nil (.cons (.bptr 0 []) .nil))], [.dat T27], 0, [.dat T27], 0, .dat .bool⟩
noncomputable def G81_E : CEnt := boxE 81 G81_CS fun x => G81 x.1.1 x.2.1
theorem G81_LV : LV 1 Tryd.prog false (loopsOf (bodyOf Tryd.f81)) [] := by unfold LV; cases loopsOf (bodyOf Tryd.f81) <;> trivial
theorem G81_ent : Ent Tryd.prog 81 := ⟨by decide, enters_of Tryd.func81 (by kernel_rfl) rfl⟩
theorem G81_hev : ∀ x : G81_CS.In, fnR Tryd.prog G81_C [] Tryd.f81 (bodyOf Tryd.f81) (encs G81_CS.A x.1) ⟨encs G81_CS.I x.2, [], G81_CS.nt⟩ (finK G81_CS) = G81 x.1.1 x.2.1 := by
  intro x; kernel_rfl
theorem G81_valid : G81_E.Valid Tryd.prog :=
  boxE_valid (S := G81_CS) (by kernel_rfl) (.inr G81_ent) (fn_lcall (S := G81_CS) mixed Tryd.func81 rfl G81_ent G81_CV G81_LV (by kernel_rfl) (by kernel_rfl) G81_hev)
noncomputable def G51_C : CalT := tabC [G76_E, G53_E, G60_E, G79_E, G81_E]
theorem G51_CV : CV Tryd.prog G51_C := tabC_valid (l := _) ⟨G76_valid, G53_valid, G60_valid, G79_valid, G81_valid, trivial⟩
noncomputable def G51_l0_c : Code := loopAt (bodyOf Tryd.f51) 0
noncomputable def G51_l0_S : SPat := ⟨[.any, .fix (.bptr 0 []), .dat .bool, .any, .any, .any, .any, .any, .any, .any, .any, .any, .any, .any, .any, .any, .any, .any, .any, .any, .any, .any, .any, .any, .any, .any, .any, .any, .any, .any, .any, .any, .any, .any, .any, .any, .any, .any, .any, .any, .any, .any, .any, .any, .any, .dat (.int .i64), .any, .any, .any, .any, .any, .any, .any, .any, .any, .any, .any, .any, .any, .any, .any, .any, .any, .any, .any, .any, .any, .any, .any, .any, .any, .any, .any, .any, .any, .any, .any, .any, .any, .any, .any, .any, .any, .any, .any, .any, .any, .any], [.dat T27], 0⟩
noncomputable def G51_l0_step (s : ((Bool × (Int × Unit)) × (E27 × Unit))) : Option (Nat × ((Bool × (Int × Unit)) × (E27 × Unit))) :=
  (bif (decide (s.1.2.1 < 3)) then
  (bif (decide (0 ≤ s.1.2.1) && decide (s.1.2.1 < (3 : Int))) then
    (bif (decide (0 ≤ s.1.2.1) && decide (s.1.2.1 < (3 : Int))) then
      (bif (decide ((List.getD s.2.1.1 (Int.toNat s.1.2.1) 0) > (List.getD s.2.1.2.1 (Int.toNat s.1.2.1) 0))) then
        some (1, ((false, (s.1.2.1, ())), (s.2.1, ())))
        else
        some (0, ((s.1.1, ((IntKind.wrap .i64 (s.1.2.1 + 1)), ())), (s.2.1, ()))))
      else
      none)
    else
    none)
  else
  some (2, ((s.1.1, (s.1.2.1, ())), (s.2.1, ()))))
noncomputable def G51_l0_fuel (s : ((Bool × (Int × Unit)) × (E27 × Unit))) : Nat := Int.toNat (3 - s.1.2.1) + 1
noncomputable def G51_l0_run (s : ((Bool × (Int × Unit)) × (E27 × Unit))) : Option (Nat × ((Bool × (Int × Unit)) × (E27 × Unit))) := iter G51_l0_step (G51_l0_fuel s) s
noncomputable def G51_l0_L : LoopT := loopT G51_l0_S [.ret, .exit 0] G51_l0_run
noncomputable def G51 (a0 : E27) : Option Bool :=
  (Option.bind (G76 a0.1) fun r1 =>
  (bif (!r1) then
    some false
    else
    (Option.bind (G76 a0.2.1) fun r2 =>
      (bif (!r2) then
        some false
        else
        (Option.bind (G53 a0.2.2.1 0 3000) fun r3 =>
          (bif (!r3) then
            some false
            else
            (Option.bind (G53 a0.2.2.2.1 1 30) fun r4 =>
              (bif (!r4) then
                some false
                else
                (Option.bind (G53 a0.2.2.2.2.1 1 8) fun r5 =>
                  (bif (!r5) then
                    some false
                    else
                    (bif (decide (a0.2.2.2.2.1 > a0.2.2.2.1)) then
                      some false
                      else
                      (bif (decide ((List.length a0.2.2.2.2.2.1 : Int) > 6)) then
                        some false
                        else
                        (Option.bind (G51_l0_run ((false, (0, ())), (a0, ()))) fun q6 =>
                          (natK q6.1
                            (some q6.2.1.1)
                            (fun _ => (Option.bind (G53 (List.length q6.2.2.1.2.2.2.2.2.2.1 : Int) 1 4) fun r7 =>
                              (bif r7 then
                                (Option.bind (G53 (List.length q6.2.2.1.2.2.2.2.2.2.2.1 : Int) 1 4) fun r8 =>
                                  (bif r8 then
                                    (Option.bind (G60 q6.2.2.1.2.2.2.2.2.1) fun r9 =>
                                      (bif (!r9) then
                                        (Option.bind (G79 q6.2.2.1.2.2.2.2.2.2.1 q6.2.2.1) fun r10 =>
                                          (bif (!r10.1) then
                                            (Option.bind (G81 r10.2.1.2.2.2.2.2.2.2.1 r10.2.1) fun r11 =>
                                              some (!r11.1))
                                            else
                                            some false))
                                        else
                                        some false))
                                    else
                                    some false))
                                else
                                some false)))))))))))))))))
noncomputable def G51_E : CEnt := pureE 51 [.dat T27] (.dat .bool) fun x => G51 x.1
theorem G51_l0_V : LValid 0 Tryd.prog (.loop G51_l0_c) G51_l0_L false := by
  exact loopT_valid (fuel := G51_l0_fuel) mixed G51_CV (lvNil _) (by kernel_rfl) (by decide) rfl (by intro s; kernel_rfl) (fun s r h => h)
theorem G51_LV : LV 0 Tryd.prog false (loopsOf (bodyOf Tryd.f51)) [G51_l0_L] := by
  have hl : loopsOf (bodyOf Tryd.f51) = [.loop G51_l0_c] := by kernel_rfl
  rw [hl]; exact ⟨G51_l0_V, trivial⟩
theorem G51_ent : Ent Tryd.prog 51 := ⟨by decide, enters_of Tryd.func51 (by kernel_rfl) rfl⟩
theorem G51_hev : ∀ x, fnR Tryd.prog G51_C [G51_l0_L] Tryd.f51 (bodyOf Tryd.f51) (encs [.dat T27] x) ⟨[], [], 0⟩ (frzF (.dat .bool)) = G51 x.1 := by
  intro x; kernel_rfl
theorem G51_valid : G51_E.Valid Tryd.prog :=
  pureE_valid (by kernel_rfl) (by kernel_rfl) G51_ent (frz_lcall mixed Tryd.func51 rfl G51_ent G51_CV G51_LV (by kernel_rfl) (by kernel_rfl) G51_hev)
noncomputable def G52_C : CalT := tabC [G53_E]
theorem G52_CV : CV Tryd.prog G52_C := tabC_valid (l := _) ⟨G53_valid, trivial⟩
noncomputable def G52 (a0 : E27) (a1 : Int) : Option Bool :=
  (bif (!decide ((List.length a0.2.2.2.2.2.1 : Int) < 0)) then
  (Option.bind (G53 a1 0 (IntKind.wrap .i64 ((IntKind.wrap .i64 (1 * 2 ^ (min (Int.toNat (List.length a0.2.2.2.2.2.1 : Int)) (IntKind.bits .i64)))) - 1))) fun r1 =>
    some r1)
  else
  none)
noncomputable def G52_E : CEnt := pureE 52 [.dat T27, .dat (.int .i64)] (.dat .bool) fun x => G52 x.1 x.2.1
theorem G52_LV : LV 0 Tryd.prog false (loopsOf (bodyOf Tryd.f52)) [] := by unfold LV; cases loopsOf (bodyOf Tryd.f52) <;> trivial
theorem G52_ent : Ent Tryd.prog 52 := ⟨by decide, enters_of Tryd.func52 (by kernel_rfl) rfl⟩
theorem G52_hev : ∀ x, fnR Tryd.prog G52_C [] Tryd.f52 (bodyOf Tryd.f52) (encs [.dat T27, .dat (.int .i64)] x) ⟨[], [], 0⟩ (frzF (.dat .bool)) = G52 x.1 x.2.1 := by
  intro x; kernel_rfl
theorem G52_valid : G52_E.Valid Tryd.prog :=
  pureE_valid (by kernel_rfl) (by kernel_rfl) G52_ent (frz_lcall mixed Tryd.func52 rfl G52_ent G52_CV G52_LV (by kernel_rfl) (by kernel_rfl) G52_hev)
noncomputable def G57_C : CalT := tabC []
theorem G57_CV : CV Tryd.prog G57_C := tabC_valid (l := _) trivial
noncomputable def G57 (a0 : Int) : Option (Unit × (Int × Unit)) :=
  some ((), (a0, ()))
abbrev G57_CS : CSpec := ⟨[.dat (.int .i64)], [], 0, [.dat (.int .i64)], 0, .fix (.func (.func 88) .nil (.cons (.bptr 0 []) .nil))⟩
noncomputable def G57_E : CEnt := boxE 57 G57_CS fun x => G57 x.1.1
theorem G57_LV : LV 0 Tryd.prog false (loopsOf (bodyOf Tryd.f57)) [] := by unfold LV; cases loopsOf (bodyOf Tryd.f57) <;> trivial
theorem G57_ent : Ent Tryd.prog 57 := ⟨by decide, enters_of Tryd.func57 (by kernel_rfl) rfl⟩
theorem G57_hev : ∀ x : G57_CS.In, fnR Tryd.prog G57_C [] Tryd.f57 (bodyOf Tryd.f57) (encs G57_CS.A x.1) ⟨encs G57_CS.I x.2, [], G57_CS.nt⟩ (finK G57_CS) = G57 x.1.1 := by
  intro x; kernel_rfl
theorem G57_valid : G57_E.Valid Tryd.prog :=
  boxE_valid (S := G57_CS) (by kernel_rfl) (.inr G57_ent) (fn_lcall (S := G57_CS) mixed Tryd.func57 rfl G57_ent G57_CV G57_LV (by kernel_rfl) (by kernel_rfl) G57_hev)
noncomputable def G100_C : CalT := tabC []
theorem G100_CV : CV Tryd.prog G100_C := tabC_valid (l := _) trivial
abbrev TY3 : Type := (E27 × ((List Bool) × ((List (List Int)) × (Int × (Int × ((List Int) × (Nat × (((List Int) × Unit) × (Nat × ((Nat × ((List (List Int)) × ((List (List Int)) × Unit))) × Unit))))))))))
abbrev TY4 : Type := (Unit × ((E27 × ((List Bool) × ((List (List Int)) × (Int × (Int × ((List Int) × (Nat × (((List Int) × Unit) × (Nat × ((Nat × ((List (List Int)) × ((List (List Int)) × Unit))) × Unit)))))))))) × ((List (List Int)) × ((List Bool) × ((List (List Int)) × Unit)))))
noncomputable def G100 (a0 : Int) (b1 : TY3) (b2 : (List (List Int))) (b3 : (List Bool)) (b4 : (List (List Int))) : Option TY4 :=
  (bif (decide (List.length b1.2.2.2.2.2.2.2.1.1 + List.length [a0] ≤ LIM)) then
  some ((), ((b1.1, (b1.2.1, (b1.2.2.1, (b1.2.2.2.1, (b1.2.2.2.2.1, (b1.2.2.2.2.2.1, (b1.2.2.2.2.2.2.1, (((b1.2.2.2.2.2.2.2.1.1 ++ [a0]), b1.2.2.2.2.2.2.2.1.2), b1.2.2.2.2.2.2.2.2)))))))), (b2, (b3, (b4, ())))))
  else
  none)
abbrev G100_CS : CSpec := ⟨[.fix (.bptr 0 [.fld 7 20]), .dat (.int .i64)], [.cons (.dat T27) (.cons (.dat (.list .bool)) (.cons (.dat (.list (.arr 3 (.int .i64)))) (.cons (.dat (.int .i64)) (.cons (.dat (.int .i64)) (.cons (.dat (.arr 3 (.int .i64))) (.cons (.vec 0 1 (.arr 3 (.int .i64))) (.cons (.cons (.own 1 (.int .i64)) (.nil)) (.cons (.vec 2 2 .bool) (.cons (.cons (.vec 3 3 (.arr 3 (.int .i64))) (.cons (.own 4 (.arr 3 (.int .i64))) (.cons (.own 5 (.arr 3 (.int .i64))) (.nil)))) (.nil)))))))))), .vrow 0 (.arr 3 (.int .i64)), .vrow 2 .bool, .vrow 3 (.arr 3 (.int .i64))], 6, [.cons (.dat T27) (.cons (.dat (.list .bool)) (.cons (.dat (.list (.arr 3 (.int .i64)))) (.cons (.dat (.int .i64)) (.cons (.dat (.int .i64)) (.cons (.dat (.arr 3 (.int .i64))) (.cons (.vec 0 1 (.arr 3 (.int .i64))) (.cons (.cons (.own 1 (.int .i64)) (.nil)) (.cons (.vec 2 2 .bool) (.cons (.cons (.vec 3 3 (.arr 3 (.int .i64))) (.cons (.own 4 (.arr 3 (.int .i64))) (.cons (.own 5 (.arr 3 (.int .i64))) (.nil)))) (.nil)))))))))), .vrow 0 (.arr 3 (.int .i64)), .vrow 2 .bool, .vrow 3 (.arr 3 (.int .i64))], 6, .tup (.nil)⟩
noncomputable def G100_E : CEnt := boxE 100 G100_CS fun x => G100 x.1.1 x.2.1 x.2.2.1 x.2.2.2.1 x.2.2.2.2.1
theorem G100_LV : LV 4 Tryd.prog false (loopsOf (bodyOf Tryd.f100)) [] := by unfold LV; cases loopsOf (bodyOf Tryd.f100) <;> trivial
theorem G100_ent : Ent Tryd.prog 100 := ⟨by decide, enters_of Tryd.func100 (by kernel_rfl) rfl⟩
theorem G100_hev : ∀ x : G100_CS.In, fnR Tryd.prog G100_C [] Tryd.f100 (bodyOf Tryd.f100) (encs G100_CS.A x.1) ⟨encs G100_CS.I x.2, [], G100_CS.nt⟩ (finK G100_CS) = G100 x.1.1 x.2.1 x.2.2.1 x.2.2.2.1 x.2.2.2.2.1 := by
  intro x; kernel_rfl
theorem G100_valid : G100_E.Valid Tryd.prog :=
  boxE_valid (S := G100_CS) (by kernel_rfl) (.inr G100_ent) (fn_lcall (S := G100_CS) mixed Tryd.func100 rfl G100_ent G100_CV G100_LV (by kernel_rfl) (by kernel_rfl) G100_hev)
noncomputable def G85_C : CalT := tabC [G100_E]
theorem G85_CV : CV Tryd.prog G85_C := tabC_valid (l := _) ⟨G100_valid, trivial⟩
abbrev UT67 : Type := (Unit × (Unit × (Unit × (Unit × (Unit × (Unit × (Unit × (Unit × (Unit × (Unit × (Unit × (Unit × (Unit × (Unit × (Unit × (Unit × (Unit × (Unit × (Unit × (Unit × (Unit × (Unit × (Unit × (Unit × (Unit × (Unit × (Unit × (Unit × (Unit × (Unit × (Unit × (Unit × (Unit × (Unit × (Unit × (Unit × (Unit × (Unit × (Unit × (Unit × (Unit × (Unit × (Unit × (Unit × (Unit × (Unit × (Unit × (Unit × (Unit × (Unit × (Unit × (Unit × (Unit × (Unit × (Unit × (Unit × (Unit × (Unit × (Unit × (Unit × (Unit × (Unit × (Unit × (Unit × (Unit × (Unit × (Unit × Unit)))))))))))))))))))))))))))))))))))))))))))))))))))))))))))))))))))
abbrev UC67 : (Unit × (Unit × (Unit × (Unit × (Unit × (Unit × (Unit × (Unit × (Unit × (Unit × (Unit × (Unit × (Unit × (Unit × (Unit × (Unit × (Unit × (Unit × (Unit × (Unit × (Unit × (Unit × (Unit × (Unit × (Unit × (Unit × (Unit × (Unit × (Unit × (Unit × (Unit × (Unit × (Unit × (Unit × (Unit × (Unit × (Unit × (Unit × (Unit × (Unit × (Unit × (Unit × (Unit × (Unit × (Unit × (Unit × (Unit × (Unit × (Unit × (Unit × (Unit × (Unit × (Unit × (Unit × (Unit × (Unit × (Unit × (Unit × (Unit × (Unit × (Unit × (Unit × (Unit × (Unit × (Unit × (Unit × (Unit × Unit))))))))))))))))))))))))))))))))))))))))))))))))))))))))))))))))))) := ((), ((), ((), ((), ((), ((), ((), ((), ((), ((), ((), ((), ((), ((), ((), ((), ((), ((), ((), ((), ((), ((), ((), ((), ((), ((), ((), ((), ((), ((), ((), ((), ((), ((), ((), ((), ((), ((), ((), ((), ((), ((), ((), ((), ((), ((), ((), ((), ((), ((), ((), ((), ((), ((), ((), ((), ((), ((), ((), ((), ((), ((), ((), ((), ((), ((), ((), ())))))))))))))))))))))))))))))))))))))))))))))))))))))))))))))))))))
abbrev TY5 : Type := ((Nat × UT67) × ((E27 × ((List Bool) × ((List (List Int)) × (Int × (Int × ((List Int) × (Nat × (((List Int) × Unit) × (Nat × ((Nat × ((List (List Int)) × ((List (List Int)) × Unit))) × Unit)))))))))) × ((List (List Int)) × ((List Bool) × ((List (List Int)) × Unit)))))
noncomputable def G85 (a0 : Int) (b1 : (Nat × UT67)) (b2 : TY3) (b3 : (List (List Int))) (b4 : (List Bool)) (b5 : (List (List Int))) : Option (Bool × TY5) :=
  (natK b1.1
  ((bif (decide (0 ≤ a0) && decide (a0 < (b2.2.2.2.2.2.2.2.2.1 : Int))) then
    (bif (decide ((Int.toNat a0) < List.length b4)) then
      (bif (!(List.getD b4 (Int.toNat a0) false)) then
        (bif (decide (0 ≤ a0) && decide (a0 < (List.length b2.1.2.2.2.2.2.1 : Int))) then
          (bif (decide ((List.getD b2.1.2.2.2.2.2.1 (Int.toNat a0) (0, ((List.replicate 3 0), (0, ())))).1 ≤ b2.2.2.2.2.1)) then
            (bif (decide (0 ≤ a0) && decide (a0 < (b2.2.2.2.2.2.2.2.2.1 : Int))) then
              (bif (decide ((Int.toNat a0) < List.length b4)) then
                (Option.bind (G100 a0 b2 b3 (List.set b4 (Int.toNat a0) true) b5) fun r1 =>
                  some (true, ((0, UC67), (r1.2.1, (r1.2.2.1, (r1.2.2.2.1, (r1.2.2.2.2.1, ())))))))
                else
                none)
              else
              none)
            else
            some (true, ((0, UC67), (b2, (b3, (b4, (b5, ())))))))
          else
          none)
        else
        some (true, ((0, UC67), (b2, (b3, (b4, (b5, ())))))))
      else
      none)
    else
    none))
  (fun _ => none))
abbrev AN65 : PTy := (.cons (.any) (.cons (.any) (.cons (.any) (.cons (.any) (.cons (.any) (.cons (.any) (.cons (.any) (.cons (.any) (.cons (.any) (.cons (.any) (.cons (.any) (.cons (.any) (.cons (.any) (.cons (.any) (.cons (.any) (.cons (.any) (.cons (.any) (.cons (.any) (.cons (.any) (.cons (.any) (.cons (.any) (.cons (.any) (.cons (.any) (.cons (.any) (.cons (.any) (.cons (.any) (.cons (.any) (.cons (.any) (.cons (.any) (.cons (.any) (.cons (.any) (.cons (.any) (.cons (.any) (.cons (.any) (.cons (.any) (.cons (.any) (.cons (.any) (.cons (.any) (.cons (.any) (.cons (.any) (.cons (.any) (.cons (.any) (.cons (.any) (.cons (.any) (.cons (.any) (.cons (.any) (.cons (.any) (.cons (.any) (.cons (.any) (.cons (.any) (.cons (.any) (.cons (.any) (.cons (.any) (.cons (.any) (.cons (.any) (.cons (.any) (.cons (.any) (.cons (.any) (.cons (.any) (.cons (.any) (.cons (.any) (.cons (.any) (.cons (.any) (.cons (.any) (.cons (.any) (.nil))))))))))))))))))))))))))))))))))))))))))))))))))))))))))))))))))
abbrev G85_CS : CSpec := ⟨[.fix (.yref 0), .dat (.int .i64)], [.lp 85 0 (.cons (.any) (.cons (.fix (.bptr 1 [])) AN65)), .fix (.bptr 2 []), .cons (.dat T27) (.cons (.dat (.list .bool)) (.cons (.dat (.list (.arr 3 (.int .i64)))) (.cons (.dat (.int .i64)) (.cons (.dat (.int .i64)) (.cons (.dat (.arr 3 (.int .i64))) (.cons (.vec 0 3 (.arr 3 (.int .i64))) (.cons (.cons (.own 1 (.int .i64)) (.nil)) (.cons (.vec 2 4 .bool) (.cons (.cons (.vec 3 5 (.arr 3 (.int .i64))) (.cons (.own 4 (.arr 3 (.int .i64))) (.cons (.own 5 (.arr 3 (.int .i64))) (.nil)))) (.nil)))))))))), .vrow 0 (.arr 3 (.int .i64)), .vrow 2 .bool, .vrow 3 (.arr 3 (.int .i64))], 6, [.lp 85 0 (.cons (.any) (.cons (.fix (.bptr 1 [])) AN65)), .fix (.bptr 2 []), .cons (.dat T27) (.cons (.dat (.list .bool)) (.cons (.dat (.list (.arr 3 (.int .i64)))) (.cons (.dat (.int .i64)) (.cons (.dat (.int .i64)) (.cons (.dat (.arr 3 (.int .i64))) (.cons (.vec 0 3 (.arr 3 (.int .i64))) (.cons (.cons (.own 1 (.int .i64)) (.nil)) (.cons (.vec 2 4 .bool) (.cons (.cons (.vec 3 5 (.arr 3 (.int .i64))) (.cons (.own 4 (.arr 3 (.int .i64))) (.cons (.own 5 (.arr 3 (.int .i64))) (.nil)))) (.nil)))))))))), .vrow 0 (.arr 3 (.int .i64)), .vrow 2 .bool, .vrow 3 (.arr 3 (.int .i64))], 6, .dat .bool⟩
noncomputable def G85_E : CEnt := boxE YLD G85_CS fun x => G85 x.1.1 x.2.1 x.2.2.1 x.2.2.2.1 x.2.2.2.2.1 x.2.2.2.2.2.1
theorem G85_LV : LV 6 Tryd.prog true (loopsOf (rfBody (lcode 85 0))) [] := by unfold LV; cases loopsOf (rfBody (lcode 85 0)) <;> trivial
theorem G85_hev : ∀ x : G85_CS.In, roundR Tryd.prog G85_C [] 85 0 (encs G85_CS.A x.1) ⟨encs G85_CS.I x.2, [], G85_CS.nt⟩ (finK G85_CS) = G85 x.1.1 x.2.1 x.2.2.1 x.2.2.2.1 x.2.2.2.2.1 x.2.2.2.2.2.1 := by
  intro x; kernel_rfl
theorem G85_valid : G85_E.Valid Tryd.prog :=
  boxE_valid (S := G85_CS) (by kernel_rfl) (.inl rfl) (rd_lcall' (S := G85_CS) mixed G85_CV (by kernel_rfl) G85_LV ⟨_, rfl⟩ (by decide) (by kernel_rfl) (by kernel_rfl) G85_hev)
noncomputable def G88_C : CalT := tabC [G85_E]
theorem G88_CV : CV Tryd.prog G88_C := tabC_valid (l := _) ⟨G85_valid, trivial⟩
noncomputable def G88_l0_c : Code := loopAt (bodyOf Tryd.f88) 0
abbrev PA6 : PTy := (.cons (.dat (.list .bool)) (.cons (.dat (.list (.arr 3 (.int .i64)))) (.cons (.dat (.int .i64)) (.cons (.dat (.int .i64)) (.cons (.dat (.arr 3 (.int .i64))) (.cons (.vec 0 4 (.arr 3 (.int .i64))) (.cons (.cons (.own 1 (.int .i64)) (.nil)) (.cons (.vec 2 5 .bool) (.cons (.cons (.vec 3 6 (.arr 3 (.int .i64))) (.cons (.own 4 (.arr 3 (.int .i64))) (.cons (.own 5 (.arr 3 (.int .i64))) (.nil)))) (.nil))))))))))
noncomputable def G88_l0_S : SPat := ⟨[.fix (.yref 0), .fix (.bptr 1 []), .any, .any, .dat (.int .i64), .any, .any, .any, .any, .any, .any, .any, .any, .any, .any, .any, .any, .any, .any], [.lp 85 0 (.cons (.any) (.cons (.fix (.bptr 2 [])) AN65)), .dat (.int .i64), .fix (.bptr 3 []), .cons (.dat T27) PA6, .vrow 0 (.arr 3 (.int .i64)), .vrow 2 .bool, .vrow 3 (.arr 3 (.int .i64))], 6⟩
abbrev TY7 : Type := ((Int × Unit) × ((Nat × UT67) × (Int × ((E27 × ((List Bool) × ((List (List Int)) × (Int × (Int × ((List Int) × (Nat × (((List Int) × Unit) × (Nat × ((Nat × ((List (List Int)) × ((List (List Int)) × Unit))) × Unit)))))))))) × ((List (List Int)) × ((List Bool) × ((List (List Int)) × Unit)))))))
abbrev TY8 : Type := (Nat × ((Int × Unit) × ((Nat × UT67) × (Int × ((E27 × ((List Bool) × ((List (List Int)) × (Int × (Int × ((List Int) × (Nat × (((List Int) × Unit) × (Nat × ((Nat × ((List (List Int)) × ((List (List Int)) × Unit))) × Unit)))))))))) × ((List (List Int)) × ((List Bool) × ((List (List Int)) × Unit))))))))
noncomputable def G88_l0_step (s : TY7) : Option TY8 :=
  (bif (decide (s.1.1 < 6)) then
  (bif (!decide (s.1.1 < 0)) then
    (bif ((IntKind.wrap .i64 ((BitVec.toNat ((BitVec.ofInt (IntKind.bits .i64) (Int.fdiv s.2.2.1 (2 ^ (min (Int.toNat s.1.1) (IntKind.bits .i64))))) &&& (BitVec.ofInt (IntKind.bits .i64) 1)) : Nat) : Int)) == 1) then
      (Option.bind (G85 s.1.1 (s.2.1.1, UC67) s.2.2.2.1 s.2.2.2.2.1 s.2.2.2.2.2.1 s.2.2.2.2.2.2.1) fun r1 =>
        (bif (!r1.1) then
          some (1, ((s.1.1, ()), ((r1.2.1.1, UC67), (s.2.2.1, (r1.2.2.1, (r1.2.2.2.1, (r1.2.2.2.2.1, (r1.2.2.2.2.2.1, ()))))))))
          else
          some (0, (((IntKind.wrap .i64 (s.1.1 + 1)), ()), ((r1.2.1.1, UC67), (s.2.2.1, (r1.2.2.1, (r1.2.2.2.1, (r1.2.2.2.2.1, (r1.2.2.2.2.2.1, ()))))))))))
      else
      some (0, (((IntKind.wrap .i64 (s.1.1 + 1)), ()), ((s.2.1.1, UC67), (s.2.2.1, (s.2.2.2.1, (s.2.2.2.2.1, (s.2.2.2.2.2.1, (s.2.2.2.2.2.2.1, ())))))))))
    else
    none)
  else
  some (2, ((s.1.1, ()), ((s.2.1.1, UC67), (s.2.2.1, (s.2.2.2.1, (s.2.2.2.2.1, (s.2.2.2.2.2.1, (s.2.2.2.2.2.2.1, ())))))))))
noncomputable def G88_l0_fuel (s : TY7) : Nat := Int.toNat (6 - s.1.1) + 1
noncomputable def G88_l0_run (s : TY7) : Option TY8 := iter G88_l0_step (G88_l0_fuel s) s
noncomputable def G88_l0_L : LoopT := loopT G88_l0_S [.ret, .exit 0] G88_l0_run
abbrev TY9 : Type := (Unit × ((Nat × UT67) × (Int × ((E27 × ((List Bool) × ((List (List Int)) × (Int × (Int × ((List Int) × (Nat × (((List Int) × Unit) × (Nat × ((Nat × ((List (List Int)) × ((List (List Int)) × Unit))) × Unit)))))))))) × ((List (List Int)) × ((List Bool) × ((List (List Int)) × Unit)))))))
noncomputable def G88 (b0 : (Nat × UT67)) (b1 : Int) (b2 : TY3) (b3 : (List (List Int))) (b4 : (List Bool)) (b5 : (List (List Int))) : Option TY9 :=
  (Option.bind (G88_l0_run ((0, ()), ((b0.1, UC67), (b1, (b2, (b3, (b4, (b5, ())))))))) fun q2 =>
  (natK q2.1
    (some ((), ((q2.2.2.1.1, UC67), (q2.2.2.2.1, (q2.2.2.2.2.1, (q2.2.2.2.2.2.1, (q2.2.2.2.2.2.2.1, (q2.2.2.2.2.2.2.2.1, ()))))))))
    (fun _ => some ((), ((q2.2.2.1.1, UC67), (q2.2.2.2.1, (q2.2.2.2.2.1, (q2.2.2.2.2.2.1, (q2.2.2.2.2.2.2.1, (q2.2.2.2.2.2.2.2.1, ()))))))))))
abbrev G88_CS : CSpec := ⟨[.fix (.yref 0), .fix (.bptr 1 [])], [.lp 85 0 (.cons (.any) (.cons (.fix (.bptr 2 [])) AN65)), .dat (.int .i64), .fix (.bptr 3 []), .cons (.dat T27) (.cons (.dat (.list .bool)) (.cons (.dat (.list (.arr 3 (.int .i64)))) (.cons (.dat (.int .i64)) (.cons (.dat (.int .i64)) (.cons (.dat (.arr 3 (.int .i64))) (.cons (.vec 0 4 (.arr 3 (.int .i64))) (.cons (.cons (.own 1 (.int .i64)) (.nil)) (.cons (.vec 2 5 .bool) (.cons (.cons (.vec 3 6 (.arr 3 (.int .i64))) (.cons (.own 4 (.arr 3 (.int .i64))) (.cons (.own 5 (.arr 3 (.int .i64))) (.nil)))) (.nil)))))))))), .vrow 0 (.arr 3 (.int .i64)), .vrow 2 .bool, .vrow 3 (.arr 3 (.int .i64))], 6, [.lp 85 0 (.cons (.any) (.cons (.fix (.bptr 2 [])) AN65)), .dat (.int .i64), .fix (.bptr 3 []), .cons (.dat T27) (.cons (.dat (.list .bool)) (.cons (.dat (.list (.arr 3 (.int .i64)))) (.cons (.dat (.int .i64)) (.cons (.dat (.int .i64)) (.cons (.dat (.arr 3 (.int .i64))) (.cons (.vec 0 4 (.arr 3 (.int .i64))) (.cons (.cons (.own 1 (.int .i64)) (.nil)) (.cons (.vec 2 5 .bool) (.cons (.cons (.vec 3 6 (.arr 3 (.int .i64))) (.cons (.own 4 (.arr 3 (.int .i64))) (.cons (.own 5 (.arr 3 (.int .i64))) (.nil)))) (.nil)))))))))), .vrow 0 (.arr 3 (.int .i64)), .vrow 2 .bool, .vrow 3 (.arr 3 (.int .i64))], 6, .tup (.nil)⟩
noncomputable def G88_E : CEnt := boxE 88 G88_CS fun x => G88 x.2.1 x.2.2.1 x.2.2.2.1 x.2.2.2.2.1 x.2.2.2.2.2.1 x.2.2.2.2.2.2.1
theorem G88_l0_V : LValid 7 Tryd.prog (.loop G88_l0_c) G88_l0_L false := by
  have hb : ∀ s, codeR Tryd.prog G88_C G88_l0_c [] (G88_l0_S.encE s) (G88_l0_S.encB s) (kst G88_l0_S [.ret, .exit 0]) = G88_l0_step s := by
    intro s; kernel_rfl
  have hL : LV 7 Tryd.prog false (loopsOf G88_l0_c) [] := by unfold LV; cases loopsOf G88_l0_c <;> trivial
  exact loopT_valid (fuel := G88_l0_fuel) mixed G88_CV hL (by kernel_rfl) (by decide) rfl hb (fun s r h => h)
theorem G88_LV : LV 7 Tryd.prog false (loopsOf (bodyOf Tryd.f88)) [G88_l0_L] := by
  have hl : loopsOf (bodyOf Tryd.f88) = [.loop G88_l0_c] := by kernel_rfl
  rw [hl]; exact ⟨G88_l0_V, trivial⟩
theorem G88_ent : Ent Tryd.prog 88 := ⟨by decide, enters_of Tryd.func88 (by kernel_rfl) rfl⟩
theorem G88_hev : ∀ x : G88_CS.In, fnR Tryd.prog G88_C [G88_l0_L] Tryd.f88 (bodyOf Tryd.f88) (encs G88_CS.A x.1) ⟨encs G88_CS.I x.2, [], G88_CS.nt⟩ (finK G88_CS) = G88 x.2.1 x.2.2.1 x.2.2.2.1 x.2.2.2.2.1 x.2.2.2.2.2.1 x.2.2.2.2.2.2.1 := by
  intro x; kernel_rfl
theorem G88_valid : G88_E.Valid Tryd.prog :=
  boxE_valid (S := G88_CS) (by kernel_rfl) (.inr G88_ent) (fn_lcall (S := G88_CS) mixed Tryd.func88 rfl G88_ent G88_CV G88_LV (by kernel_rfl) (by kernel_rfl) G88_hev)
noncomputable def g85_store_run_arrive_C : CalT := tabC [G57_E, G88_E]
theorem g85_store_run_arrive_CV : CV Tryd.prog g85_store_run_arrive_C := tabC_valid (l := _) ⟨G57_valid, G88_valid, trivial⟩
noncomputable def g85_store_run_arrive_f0_L : LoopT := rfT g85_store_run_arrive_C 85 0 (.tmp 30) [.normal]
noncomputable def g85_store_run_arrive (b0 : TY3) (b1 : (List (List Int))) (b2 : (List Bool)) (b3 : (List (List Int))) : Option TY4 :=
  (bif (decide (b0.2.2.2.2.1 ≥ b0.1.2.2.2.2.1)) then
  some ((), (b0, (b1, (b2, (b3, ())))))
  else
  (bif (decide (0 ≤ b0.2.2.2.2.1) && decide (b0.2.2.2.2.1 < (List.length b0.2.1 : Int))) then
    (bif (!(List.getD b0.2.1 (Int.toNat b0.2.2.2.2.1) false)) then
      some ((), (b0, (b1, (b2, (b3, ())))))
      else
      (Option.bind (G57 b0.2.2.2.1) fun r1 =>
        (Option.bind (G88 (0, UC67) r1.2.1 b0 b1 b2 b3) fun r2 =>
          (bif (r2.2.1.1 == 0) then
            some ((), (r2.2.2.2.1, (r2.2.2.2.2.1, (r2.2.2.2.2.2.1, (r2.2.2.2.2.2.2.1, ())))))
            else
            none))))
    else
    none))
abbrev g85_store_run_arrive_CS : CSpec := ⟨[.fix (.bptr 0 [])], [.cons (.dat T27) (.cons (.dat (.list .bool)) (.cons (.dat (.list (.arr 3 (.int .i64)))) (.cons (.dat (.int .i64)) (.cons (.dat (.int .i64)) (.cons (.dat (.arr 3 (.int .i64))) (.cons (.vec 0 1 (.arr 3 (.int .i64))) (.cons (.cons (.own 1 (.int .i64)) (.nil)) (.cons (.vec 2 2 .bool) (.cons (.cons (.vec 3 3 (.arr 3 (.int .i64))) (.cons (.own 4 (.arr 3 (.int .i64))) (.cons (.own 5 (.arr 3 (.int .i64))) (.nil)))) (.nil)))))))))), .vrow 0 (.arr 3 (.int .i64)), .vrow 2 .bool, .vrow 3 (.arr 3 (.int .i64))], 6, [.cons (.dat T27) (.cons (.dat (.list .bool)) (.cons (.dat (.list (.arr 3 (.int .i64)))) (.cons (.dat (.int .i64)) (.cons (.dat (.int .i64)) (.cons (.dat (.arr 3 (.int .i64))) (.cons (.vec 0 1 (.arr 3 (.int .i64))) (.cons (.cons (.own 1 (.int .i64)) (.nil)) (.cons (.vec 2 2 .bool) (.cons (.cons (.vec 3 3 (.arr 3 (.int .i64))) (.cons (.own 4 (.arr 3 (.int .i64))) (.cons (.own 5 (.arr 3 (.int .i64))) (.nil)))) (.nil)))))))))), .vrow 0 (.arr 3 (.int .i64)), .vrow 2 .bool, .vrow 3 (.arr 3 (.int .i64))], 6, .tup (.nil)⟩
noncomputable def g85_store_run_arrive_E : CEnt := boxE 85 g85_store_run_arrive_CS fun x => g85_store_run_arrive x.2.1 x.2.2.1 x.2.2.2.1 x.2.2.2.2.1
theorem g85_store_run_arrive_f0_V : LValid 4 Tryd.prog (lcode 85 0) g85_store_run_arrive_f0_L := rfT_valid' g85_store_run_arrive_CV (by kernel_rfl)
theorem g85_store_run_arrive_LV : LV 4 Tryd.prog false (loopsOf (bodyOf Tryd.f85)) [g85_store_run_arrive_f0_L] := by
  have hl : loopsOf (bodyOf Tryd.f85) = [(lcode 85 0)] := by kernel_rfl
  rw [hl]; exact ⟨g85_store_run_arrive_f0_V, trivial⟩
theorem g85_store_run_arrive_ent : Ent Tryd.prog 85 := ⟨by decide, enters_of Tryd.func85 (by kernel_rfl) rfl⟩
theorem g85_store_run_arrive_hev : ∀ x : g85_store_run_arrive_CS.In, fnR Tryd.prog g85_store_run_arrive_C [g85_store_run_arrive_f0_L] Tryd.f85 (bodyOf Tryd.f85) (encs g85_store_run_arrive_CS.A x.1) ⟨encs g85_store_run_arrive_CS.I x.2, [], g85_store_run_arrive_CS.nt⟩ (finK g85_store_run_arrive_CS) = g85_store_run_arrive x.2.1 x.2.2.1 x.2.2.2.1 x.2.2.2.2.1 := by
  intro x; kernel_rfl
theorem g85_store_run_arrive_valid : g85_store_run_arrive_E.Valid Tryd.prog :=
  boxE_valid (S := g85_store_run_arrive_CS) (by kernel_rfl) (.inr g85_store_run_arrive_ent) (fn_lcall (S := g85_store_run_arrive_CS) mixed Tryd.func85 rfl g85_store_run_arrive_ent g85_store_run_arrive_CV g85_store_run_arrive_LV (by kernel_rfl) (by kernel_rfl) g85_store_run_arrive_hev)
noncomputable def G63_C : CalT := tabC []
theorem G63_CV : CV Tryd.prog G63_C := tabC_valid (l := _) trivial
noncomputable def G63_l0_c : Code := loopAt (bodyOf Tryd.f63) 0
noncomputable def G63_l1_c : Code := loopAt G63_l0_c 0
noncomputable def G63_l1_S : SPat := ⟨[.any, .any, .fix (.bptr 0 []), .fix (.bptr 1 []), .any, .fix (.bptr 2 []), .any, .dat (.list (.arr 3 (.int .i64))), .dat (.int .i64), .dat (.int .i64), .any, .any, .any, .dat (.int .i64), .any, .any, .any, .any, .any, .any, .any, .any, .any, .any, .any, .any, .any], [.dat (.arr 3 (.int .i64)), .dat (.arr 3 (.int .i64)), .dat (.arr 3 (.int .i64))], 0⟩
abbrev TY10 : Type := (((List (List Int)) × (Int × (Int × (Int × Unit)))) × ((List Int) × ((List Int) × ((List Int) × Unit))))
abbrev TY11 : Type := (Nat × (((List (List Int)) × (Int × (Int × (Int × Unit)))) × ((List Int) × ((List Int) × ((List Int) × Unit)))))
noncomputable def G63_l1_step (s : TY10) : Option TY11 :=
  (bif (decide (s.1.2.2.2.1 < 3)) then
  (bif (decide (0 ≤ s.1.2.2.2.1) && decide (s.1.2.2.2.1 < (3 : Int))) then
    (bif (decide (0 ≤ s.1.2.2.2.1) && decide (s.1.2.2.2.1 < (3 : Int))) then
      (bif (decide (0 ≤ s.1.2.2.2.1) && decide (s.1.2.2.2.1 < (3 : Int))) then
        some (0, ((s.1.1, (s.1.2.1, (s.1.2.2.1, ((IntKind.wrap .i64 (s.1.2.2.2.1 + 1)), ())))), (s.2.1, ((List.set s.2.2.1 (Int.toNat s.1.2.2.2.1) (IntKind.wrap .i64 ((List.getD s.2.2.1 (Int.toNat s.1.2.2.2.1) 0) + (List.getD s.2.2.2.1 (Int.toNat s.1.2.2.2.1) 0)))), (s.2.2.2.1, ())))))
        else
        none)
      else
      none)
    else
    none)
  else
  some (1, ((s.1.1, (s.1.2.1, (s.1.2.2.1, (s.1.2.2.2.1, ())))), (s.2.1, (s.2.2.1, (s.2.2.2.1, ()))))))
noncomputable def G63_l1_fuel (s : TY10) : Nat := Int.toNat (3 - s.1.2.2.2.1) + 1
noncomputable def G63_l1_run (s : TY10) : Option TY11 := iter G63_l1_step (G63_l1_fuel s) s
noncomputable def G63_l1_L : LoopT := loopT G63_l1_S [.exit 2] G63_l1_run
noncomputable def G63_l0_S : SPat := ⟨[.any, .any, .fix (.bptr 0 []), .fix (.bptr 1 []), .any, .any, .any, .dat (.list (.arr 3 (.int .i64))), .dat (.int .i64), .dat (.int .i64), .any, .any, .any, .any, .any, .any, .any, .any, .any, .any, .any, .any, .any, .any, .any, .any, .any], [.dat (.arr 3 (.int .i64)), .dat (.arr 3 (.int .i64))], 0⟩
abbrev TY12 : Type := (((List (List Int)) × (Int × (Int × Unit))) × ((List Int) × ((List Int) × Unit)))
abbrev TY13 : Type := (Nat × (((List (List Int)) × (Int × (Int × Unit))) × ((List Int) × ((List Int) × Unit))))
noncomputable def G63_l0_step (s : TY12) : Option TY13 :=
  (bif (decide (s.1.2.2.1 < s.1.2.1)) then
  (bif (decide (0 ≤ s.1.2.2.1) && decide (s.1.2.2.1 < (List.length s.1.1 : Int))) then
    (Option.bind (G63_l1_run ((s.1.1, (s.1.2.1, (s.1.2.2.1, (0, ())))), (s.2.1, (s.2.2.1, ((List.getD s.1.1 (Int.toNat s.1.2.2.1) (List.replicate 3 0)), ()))))) fun q1 =>
      some (0, ((q1.2.1.1, (q1.2.1.2.1, ((IntKind.wrap .i64 (q1.2.1.2.2.1 + 1)), ()))), (q1.2.2.1, (q1.2.2.2.1, ())))))
    else
    none)
  else
  some (1, ((s.1.1, (s.1.2.1, (s.1.2.2.1, ()))), (s.2.1, (s.2.2.1, ())))))
noncomputable def G63_l0_fuel (s : TY12) : Nat := Int.toNat (s.1.2.1 - s.1.2.2.1) + 1
noncomputable def G63_l0_run (s : TY12) : Option TY13 := iter G63_l0_step (G63_l0_fuel s) s
noncomputable def G63_l0_L : LoopT := loopT G63_l0_S [.exit 0] G63_l0_run
noncomputable def G63 (a0 : (List (List Int))) : Option (List Int) :=
  (Option.bind (G63_l0_run ((a0, ((List.length a0 : Int), (0, ()))), ((0 :: (0 :: (0 :: []))), ((0 :: (0 :: (0 :: []))), ())))) fun q2 =>
  some q2.2.2.2.1)
noncomputable def G63_E : CEnt := pureE 63 [.dat (.list (.arr 3 (.int .i64)))] (.dat (.arr 3 (.int .i64))) fun x => G63 x.1
theorem G63_l1_V : LValid 0 Tryd.prog (.loop G63_l1_c) G63_l1_L false := by
  exact loopT_valid (fuel := G63_l1_fuel) mixed G63_CV (lvNil _) (by kernel_rfl) (by decide) rfl (by intro s; kernel_rfl) (fun s r h => h)
theorem G63_l0_V : LValid 0 Tryd.prog (.loop G63_l0_c) G63_l0_L false := by
  have hb : ∀ s, codeR Tryd.prog G63_C G63_l0_c [G63_l1_L] (G63_l0_S.encE s) (G63_l0_S.encB s) (kst G63_l0_S [.exit 0]) = G63_l0_step s := by
    intro s; kernel_rfl
  have hl : loopsOf G63_l0_c = [.loop G63_l1_c] := by kernel_rfl
  have hL : LV 0 Tryd.prog false (loopsOf G63_l0_c) [G63_l1_L] := by rw [hl]; exact ⟨G63_l1_V, trivial⟩
  exact loopT_valid (fuel := G63_l0_fuel) mixed G63_CV hL (by kernel_rfl) (by decide) rfl hb (fun s r h => h)
theorem G63_LV : LV 0 Tryd.prog false (loopsOf (bodyOf Tryd.f63)) [G63_l0_L] := by
  have hl : loopsOf (bodyOf Tryd.f63) = [.loop G63_l0_c] := by kernel_rfl
  rw [hl]; exact ⟨G63_l0_V, trivial⟩
theorem G63_ent : Ent Tryd.prog 63 := ⟨by decide, enters_of Tryd.func63 (by kernel_rfl) rfl⟩
theorem G63_hev : ∀ x, fnR Tryd.prog G63_C [G63_l0_L] Tryd.f63 (bodyOf Tryd.f63) (encs [.dat (.list (.arr 3 (.int .i64)))] x) ⟨[], [], 0⟩ (frzF (.dat (.arr 3 (.int .i64)))) = G63 x.1 := by
  intro x; kernel_rfl
theorem G63_valid : G63_E.Valid Tryd.prog :=
  pureE_valid (by kernel_rfl) (by kernel_rfl) G63_ent (frz_lcall mixed Tryd.func63 rfl G63_ent G63_CV G63_LV (by kernel_rfl) (by kernel_rfl) G63_hev)
noncomputable def G86_C : CalT := tabC [G63_E]
theorem G86_CV : CV Tryd.prog G86_C := tabC_valid (l := _) ⟨G63_valid, trivial⟩
noncomputable def G86_l0_c : Code := loopAt (bodyOf Tryd.f86) 0
noncomputable def G86_l1_c : Code := loopAt G86_l0_c 0
abbrev PA14 : PTy := (.cons (.dat (.list .bool)) (.cons (.dat (.list (.arr 3 (.int .i64)))) (.cons (.dat (.int .i64)) (.cons (.dat (.int .i64)) (.cons (.dat (.arr 3 (.int .i64))) (.cons (.vec 0 1 (.arr 3 (.int .i64))) (.cons (.cons (.own 1 (.int .i64)) (.nil)) (.cons (.vec 2 2 .bool) (.cons (.cons (.vec 3 3 (.arr 3 (.int .i64))) (.cons (.own 4 (.arr 3 (.int .i64))) (.cons (.own 5 (.arr 3 (.int .i64))) (.nil)))) (.nil))))))))))
noncomputable def G86_l1_S : SPat := ⟨[.fix (.bptr 0 []), .any, .dat (.int .i64), .any, .dat (.int .i64), .fix (.bptr 4 []), .any, .any, .any, .any, .any, .any, .any, .any, .any, .any, .any, .any, .any, .any, .any, .any, .any, .any, .any, .any, .any, .any, .any, .any, .any, .any, .any, .any, .any, .any, .any, .any, .any, .dat (.list (.int .i64)), .dat (.int .i64), .dat (.int .i64), .any, .any, .any, .dat (.int .i64), .any, .any, .any, .any, .any, .any, .any, .any, .any, .any, .any, .any, .any, .any, .any, .any, .any, .any, .any, .any, .any, .any, .any, .any, .any, .any, .any, .any, .any, .any, .any, .any, .any, .any, .any, .any, .any, .any, .any, .any, .any, .any, .any, .any, .any, .any, .any, .any, .any, .any, .any, .any, .any, .any, .any, .any, .any, .any, .any, .any, .any, .any, .any, .any, .any, .any, .any, .any, .any, .any, .any, .any, .any, .any, .any, .any, .any, .any, .any, .any, .any, .any], [.cons (.dat T27) PA14, .vrow 0 (.arr 3 (.int .i64)), .vrow 2 .bool, .vrow 3 (.arr 3 (.int .i64)), .dat (.arr 3 (.int .i64))], 6⟩
abbrev TY15 : Type := ((Int × (Int × ((List Int) × (Int × (Int × (Int × Unit)))))) × ((E27 × ((List Bool) × ((List (List Int)) × (Int × (Int × ((List Int) × (Nat × (((List Int) × Unit) × (Nat × ((Nat × ((List (List Int)) × ((List (List Int)) × Unit))) × Unit)))))))))) × ((List (List Int)) × ((List Bool) × ((List (List Int)) × ((List Int) × Unit))))))
abbrev TY16 : Type := (Nat × ((Int × (Int × ((List Int) × (Int × (Int × (Int × Unit)))))) × ((E27 × ((List Bool) × ((List (List Int)) × (Int × (Int × ((List Int) × (Nat × (((List Int) × Unit) × (Nat × ((Nat × ((List (List Int)) × ((List (List Int)) × Unit))) × Unit)))))))))) × ((List (List Int)) × ((List Bool) × ((List (List Int)) × ((List Int) × Unit)))))))
noncomputable def G86_l1_step (s : TY15) : Option TY16 :=
  (bif (decide (s.1.2.2.2.2.2.1 < 3)) then
  (bif (decide (0 ≤ s.1.2.1) && decide (s.1.2.1 < (s.2.1.2.2.2.2.2.2.1 : Int))) then
    (bif (decide (0 ≤ s.1.2.2.2.2.2.1) && decide (s.1.2.2.2.2.2.1 < (3 : Int))) then
      (bif (decide ((Int.toNat s.1.2.1) < List.length s.2.2.1)) then
        (bif (decide (0 ≤ s.1.2.2.2.2.2.1) && decide (s.1.2.2.2.2.2.1 < (3 : Int))) then
          (bif (decide (0 ≤ s.1.2.2.2.2.2.1) && decide (s.1.2.2.2.2.2.1 < (3 : Int))) then
            (bif (decide (0 ≤ s.1.2.2.2.2.2.1) && decide (s.1.2.2.2.2.2.1 < (3 : Int))) then
              (bif (decide (0 ≤ s.1.2.2.2.2.2.1) && decide (s.1.2.2.2.2.2.1 < (3 : Int))) then
                (bif (decide (0 ≤ s.1.2.1) && decide (s.1.2.1 < (s.2.1.2.2.2.2.2.2.1 : Int))) then
                  (bif (decide (0 ≤ s.1.2.2.2.2.2.1) && decide (s.1.2.2.2.2.2.1 < (3 : Int))) then
                    (bif (decide ((Int.toNat s.1.2.1) < List.length s.2.2.1)) then
                      (bif (decide (0 ≤ s.1.2.2.2.2.2.1) && decide (s.1.2.2.2.2.2.1 < (3 : Int))) then
                        (bif (decide (0 ≤ s.1.2.1) && decide (s.1.2.1 < (s.2.1.2.2.2.2.2.2.1 : Int))) then
                          (bif (decide (0 ≤ s.1.2.2.2.2.2.1) && decide (s.1.2.2.2.2.2.1 < (3 : Int))) then
                            (bif (decide ((Int.toNat s.1.2.1) < List.length s.2.2.1)) then
                              (bif (decide (0 ≤ s.1.2.2.2.2.2.1) && decide (s.1.2.2.2.2.2.1 < (3 : Int))) then
                                (bif (decide (0 ≤ s.1.2.2.2.2.2.1) && decide (s.1.2.2.2.2.2.1 < (3 : Int))) then
                                  (bif (decide (0 ≤ s.1.2.2.2.2.2.1) && decide (s.1.2.2.2.2.2.1 < (3 : Int))) then
                                    some (0, (((IntKind.wrap .i64 (s.1.1 - (List.getD (List.set s.2.2.2.2.2.1 (Int.toNat s.1.2.2.2.2.2.1) (if s.1.1 < (if (IntKind.wrap .i64 ((List.getD s.2.1.1.2.1 (Int.toNat s.1.2.2.2.2.2.1) 0) - (List.getD s.2.1.2.2.2.2.2.1 (Int.toNat s.1.2.2.2.2.2.1) 0))) < (List.getD (List.getD s.2.2.1 (Int.toNat s.1.2.1) (List.replicate 3 0)) (Int.toNat s.1.2.2.2.2.2.1) 0) then (IntKind.wrap .i64 ((List.getD s.2.1.1.2.1 (Int.toNat s.1.2.2.2.2.2.1) 0) - (List.getD s.2.1.2.2.2.2.2.1 (Int.toNat s.1.2.2.2.2.2.1) 0))) else (List.getD (List.getD s.2.2.1 (Int.toNat s.1.2.1) (List.replicate 3 0)) (Int.toNat s.1.2.2.2.2.2.1) 0)) then s.1.1 else (if (IntKind.wrap .i64 ((List.getD s.2.1.1.2.1 (Int.toNat s.1.2.2.2.2.2.1) 0) - (List.getD s.2.1.2.2.2.2.2.1 (Int.toNat s.1.2.2.2.2.2.1) 0))) < (List.getD (List.getD s.2.2.1 (Int.toNat s.1.2.1) (List.replicate 3 0)) (Int.toNat s.1.2.2.2.2.2.1) 0) then (IntKind.wrap .i64 ((List.getD s.2.1.1.2.1 (Int.toNat s.1.2.2.2.2.2.1) 0) - (List.getD s.2.1.2.2.2.2.2.1 (Int.toNat s.1.2.2.2.2.2.1) 0))) else (List.getD (List.getD s.2.2.1 (Int.toNat s.1.2.1) (List.replicate 3 0)) (Int.toNat s.1.2.2.2.2.2.1) 0)))) (Int.toNat s.1.2.2.2.2.2.1) 0))), (s.1.2.1, (s.1.2.2.1, (s.1.2.2.2.1, (s.1.2.2.2.2.1, ((IntKind.wrap .i64 (s.1.2.2.2.2.2.1 + 1)), ())))))), ((s.2.1.1, (s.2.1.2.1, (s.2.1.2.2.1, (s.2.1.2.2.2.1, (s.2.1.2.2.2.2.1, ((List.set s.2.1.2.2.2.2.2.1 (Int.toNat s.1.2.2.2.2.2.1) (IntKind.wrap .i64 ((List.getD s.2.1.2.2.2.2.2.1 (Int.toNat s.1.2.2.2.2.2.1) 0) + (List.getD (List.set s.2.2.2.2.2.1 (Int.toNat s.1.2.2.2.2.2.1) (if s.1.1 < (if (IntKind.wrap .i64 ((List.getD s.2.1.1.2.1 (Int.toNat s.1.2.2.2.2.2.1) 0) - (List.getD s.2.1.2.2.2.2.2.1 (Int.toNat s.1.2.2.2.2.2.1) 0))) < (List.getD (List.getD s.2.2.1 (Int.toNat s.1.2.1) (List.replicate 3 0)) (Int.toNat s.1.2.2.2.2.2.1) 0) then (IntKind.wrap .i64 ((List.getD s.2.1.1.2.1 (Int.toNat s.1.2.2.2.2.2.1) 0) - (List.getD s.2.1.2.2.2.2.2.1 (Int.toNat s.1.2.2.2.2.2.1) 0))) else (List.getD (List.getD s.2.2.1 (Int.toNat s.1.2.1) (List.replicate 3 0)) (Int.toNat s.1.2.2.2.2.2.1) 0)) then s.1.1 else (if (IntKind.wrap .i64 ((List.getD s.2.1.1.2.1 (Int.toNat s.1.2.2.2.2.2.1) 0) - (List.getD s.2.1.2.2.2.2.2.1 (Int.toNat s.1.2.2.2.2.2.1) 0))) < (List.getD (List.getD s.2.2.1 (Int.toNat s.1.2.1) (List.replicate 3 0)) (Int.toNat s.1.2.2.2.2.2.1) 0) then (IntKind.wrap .i64 ((List.getD s.2.1.1.2.1 (Int.toNat s.1.2.2.2.2.2.1) 0) - (List.getD s.2.1.2.2.2.2.2.1 (Int.toNat s.1.2.2.2.2.2.1) 0))) else (List.getD (List.getD s.2.2.1 (Int.toNat s.1.2.1) (List.replicate 3 0)) (Int.toNat s.1.2.2.2.2.2.1) 0)))) (Int.toNat s.1.2.2.2.2.2.1) 0)))), s.2.1.2.2.2.2.2.2)))))), ((List.set s.2.2.1 (Int.toNat s.1.2.1) (List.set (List.getD s.2.2.1 (Int.toNat s.1.2.1) (List.replicate 3 0)) (Int.toNat s.1.2.2.2.2.2.1) (IntKind.wrap .i64 ((List.getD (List.getD s.2.2.1 (Int.toNat s.1.2.1) (List.replicate 3 0)) (Int.toNat s.1.2.2.2.2.2.1) 0) - (List.getD (List.set s.2.2.2.2.2.1 (Int.toNat s.1.2.2.2.2.2.1) (if s.1.1 < (if (IntKind.wrap .i64 ((List.getD s.2.1.1.2.1 (Int.toNat s.1.2.2.2.2.2.1) 0) - (List.getD s.2.1.2.2.2.2.2.1 (Int.toNat s.1.2.2.2.2.2.1) 0))) < (List.getD (List.getD s.2.2.1 (Int.toNat s.1.2.1) (List.replicate 3 0)) (Int.toNat s.1.2.2.2.2.2.1) 0) then (IntKind.wrap .i64 ((List.getD s.2.1.1.2.1 (Int.toNat s.1.2.2.2.2.2.1) 0) - (List.getD s.2.1.2.2.2.2.2.1 (Int.toNat s.1.2.2.2.2.2.1) 0))) else (List.getD (List.getD s.2.2.1 (Int.toNat s.1.2.1) (List.replicate 3 0)) (Int.toNat s.1.2.2.2.2.2.1) 0)) then s.1.1 else (if (IntKind.wrap .i64 ((List.getD s.2.1.1.2.1 (Int.toNat s.1.2.2.2.2.2.1) 0) - (List.getD s.2.1.2.2.2.2.2.1 (Int.toNat s.1.2.2.2.2.2.1) 0))) < (List.getD (List.getD s.2.2.1 (Int.toNat s.1.2.1) (List.replicate 3 0)) (Int.toNat s.1.2.2.2.2.2.1) 0) then (IntKind.wrap .i64 ((List.getD s.2.1.1.2.1 (Int.toNat s.1.2.2.2.2.2.1) 0) - (List.getD s.2.1.2.2.2.2.2.1 (Int.toNat s.1.2.2.2.2.2.1) 0))) else (List.getD (List.getD s.2.2.1 (Int.toNat s.1.2.1) (List.replicate 3 0)) (Int.toNat s.1.2.2.2.2.2.1) 0)))) (Int.toNat s.1.2.2.2.2.2.1) 0))))), (s.2.2.2.1, (s.2.2.2.2.1, ((List.set s.2.2.2.2.2.1 (Int.toNat s.1.2.2.2.2.2.1) (if s.1.1 < (if (IntKind.wrap .i64 ((List.getD s.2.1.1.2.1 (Int.toNat s.1.2.2.2.2.2.1) 0) - (List.getD s.2.1.2.2.2.2.2.1 (Int.toNat s.1.2.2.2.2.2.1) 0))) < (List.getD (List.getD s.2.2.1 (Int.toNat s.1.2.1) (List.replicate 3 0)) (Int.toNat s.1.2.2.2.2.2.1) 0) then (IntKind.wrap .i64 ((List.getD s.2.1.1.2.1 (Int.toNat s.1.2.2.2.2.2.1) 0) - (List.getD s.2.1.2.2.2.2.2.1 (Int.toNat s.1.2.2.2.2.2.1) 0))) else (List.getD (List.getD s.2.2.1 (Int.toNat s.1.2.1) (List.replicate 3 0)) (Int.toNat s.1.2.2.2.2.2.1) 0)) then s.1.1 else (if (IntKind.wrap .i64 ((List.getD s.2.1.1.2.1 (Int.toNat s.1.2.2.2.2.2.1) 0) - (List.getD s.2.1.2.2.2.2.2.1 (Int.toNat s.1.2.2.2.2.2.1) 0))) < (List.getD (List.getD s.2.2.1 (Int.toNat s.1.2.1) (List.replicate 3 0)) (Int.toNat s.1.2.2.2.2.2.1) 0) then (IntKind.wrap .i64 ((List.getD s.2.1.1.2.1 (Int.toNat s.1.2.2.2.2.2.1) 0) - (List.getD s.2.1.2.2.2.2.2.1 (Int.toNat s.1.2.2.2.2.2.1) 0))) else (List.getD (List.getD s.2.2.1 (Int.toNat s.1.2.1) (List.replicate 3 0)) (Int.toNat s.1.2.2.2.2.2.1) 0)))), ())))))))
                                    else
                                    none)
                                  else
                                  none)
                                else
                                none)
                              else
                              none)
                            else
                            none)
                          else
                          none)
                        else
                        none)
                      else
                      none)
                    else
                    none)
                  else
                  none)
                else
                none)
              else
              none)
            else
            none)
          else
          none)
        else
        none)
      else
      none)
    else
    none)
  else
  some (1, ((s.1.1, (s.1.2.1, (s.1.2.2.1, (s.1.2.2.2.1, (s.1.2.2.2.2.1, (s.1.2.2.2.2.2.1, ())))))), (s.2.1, (s.2.2.1, (s.2.2.2.1, (s.2.2.2.2.1, (s.2.2.2.2.2.1, ()))))))))
noncomputable def G86_l1_fuel (s : TY15) : Nat := Int.toNat (3 - s.1.2.2.2.2.2.1) + 1
noncomputable def G86_l1_run (s : TY15) : Option TY16 := iter G86_l1_step (G86_l1_fuel s) s
noncomputable def G86_l1_L : LoopT := loopT G86_l1_S [.exit 2] G86_l1_run
noncomputable def G86_l0_S : SPat := ⟨[.fix (.bptr 0 []), .any, .dat (.int .i64), .any, .any, .any, .any, .any, .any, .any, .any, .any, .any, .any, .any, .any, .any, .any, .any, .any, .any, .any, .any, .any, .any, .any, .any, .any, .any, .any, .any, .any, .any, .any, .any, .any, .any, .any, .any, .dat (.list (.int .i64)), .dat (.int .i64), .dat (.int .i64), .any, .any, .any, .any, .any, .any, .any, .any, .any, .any, .any, .any, .any, .any, .any, .any, .any, .any, .any, .any, .any, .any, .any, .any, .any, .any, .any, .any, .any, .any, .any, .any, .any, .any, .any, .any, .any, .any, .any, .any, .any, .any, .any, .any, .any, .any, .any, .any, .any, .any, .any, .any, .any, .any, .any, .any, .any, .any, .any, .any, .any, .any, .any, .any, .any, .any, .any, .any, .any, .any, .any, .any, .any, .any, .any, .any, .any, .any, .any, .any, .any, .any, .any, .any, .any, .any], [.cons (.dat T27) PA14, .vrow 0 (.arr 3 (.int .i64)), .vrow 2 .bool, .vrow 3 (.arr 3 (.int .i64))], 6⟩
abbrev TY17 : Type := ((Int × ((List Int) × (Int × (Int × Unit)))) × ((E27 × ((List Bool) × ((List (List Int)) × (Int × (Int × ((List Int) × (Nat × (((List Int) × Unit) × (Nat × ((Nat × ((List (List Int)) × ((List (List Int)) × Unit))) × Unit)))))))))) × ((List (List Int)) × ((List Bool) × ((List (List Int)) × Unit)))))
abbrev TY18 : Type := (Nat × ((Int × ((List Int) × (Int × (Int × Unit)))) × ((E27 × ((List Bool) × ((List (List Int)) × (Int × (Int × ((List Int) × (Nat × (((List Int) × Unit) × (Nat × ((Nat × ((List (List Int)) × ((List (List Int)) × Unit))) × Unit)))))))))) × ((List (List Int)) × ((List Bool) × ((List (List Int)) × Unit))))))
noncomputable def G86_l0_step (s : TY17) : Option TY18 :=
  (bif (decide (s.1.2.2.2.1 < s.1.2.2.1)) then
  (bif (decide (0 ≤ s.1.2.2.2.1) && decide (s.1.2.2.2.1 < (List.length s.1.2.1 : Int))) then
    (Option.bind (G86_l1_run ((s.1.1, ((List.getD s.1.2.1 (Int.toNat s.1.2.2.2.1) 0), (s.1.2.1, (s.1.2.2.1, (s.1.2.2.2.1, (0, ())))))), (s.2.1, (s.2.2.1, (s.2.2.2.1, (s.2.2.2.2.1, ((0 :: (0 :: (0 :: []))), ()))))))) fun q1 =>
      (bif (decide (0 ≤ q1.2.1.2.1) && decide (q1.2.1.2.1 < (q1.2.2.1.2.2.2.2.2.2.2.2.2.1.1 : Int))) then
        (bif (decide ((Int.toNat q1.2.1.2.1) < List.length q1.2.2.2.2.2.1)) then
          (Option.bind (G63 [(List.getD q1.2.2.2.2.2.1 (Int.toNat q1.2.1.2.1) (List.replicate 3 0)), q1.2.2.2.2.2.2.1]) fun r2 =>
            (bif (decide (0 ≤ q1.2.1.2.1) && decide (q1.2.1.2.1 < (q1.2.2.1.2.2.2.2.2.2.2.2.2.1.1 : Int))) then
              (bif (decide ((Int.toNat q1.2.1.2.1) < List.length q1.2.2.2.2.2.1)) then
                some (0, ((q1.2.1.1, (q1.2.1.2.2.1, (q1.2.1.2.2.2.1, ((IntKind.wrap .i64 (q1.2.1.2.2.2.2.1 + 1)), ())))), (q1.2.2.1, (q1.2.2.2.1, (q1.2.2.2.2.1, ((List.set q1.2.2.2.2.2.1 (Int.toNat q1.2.1.2.1) r2), ()))))))
                else
                none)
              else
              none))
          else
          none)
        else
        none))
    else
    none)
  else
  some (1, ((s.1.1, (s.1.2.1, (s.1.2.2.1, (s.1.2.2.2.1, ())))), (s.2.1, (s.2.2.1, (s.2.2.2.1, (s.2.2.2.2.1, ())))))))
noncomputable def G86_l0_fuel (s : TY17) : Nat := Int.toNat (s.1.2.2.1 - s.1.2.2.2.1) + 1
noncomputable def G86_l0_run (s : TY17) : Option TY18 := iter G86_l0_step (G86_l0_fuel s) s
noncomputable def G86_l0_L : LoopT := loopT G86_l0_S [.exit 0] G86_l0_run
noncomputable def G86 (b0 : TY3) (b1 : (List (List Int))) (b2 : (List Bool)) (b3 : (List (List Int))) : Option TY4 :=
  (bif (decide (b0.2.2.2.2.1 ≥ b0.1.2.2.2.2.1)) then
  some ((), (b0, (b1, (b2, (b3, ())))))
  else
  (bif (decide (0 ≤ b0.2.2.2.2.1) && decide (b0.2.2.2.2.1 < (List.length b0.2.1 : Int))) then
    (bif (!(List.getD b0.2.1 (Int.toNat b0.2.2.2.2.1) false)) then
      some ((), (b0, (b1, (b2, (b3, ())))))
      else
      (Option.bind (G86_l0_run ((b0.1.2.2.1, (b0.2.2.2.2.2.2.2.1.1, ((List.length b0.2.2.2.2.2.2.2.1.1 : Int), (0, ())))), (b0, (b1, (b2, (b3, ())))))) fun q3 =>
        some ((), (q3.2.2.1, (q3.2.2.2.1, (q3.2.2.2.2.1, (q3.2.2.2.2.2.1, ())))))))
    else
    none))
abbrev G86_CS : CSpec := ⟨[.fix (.bptr 0 [])], [.cons (.dat T27) (.cons (.dat (.list .bool)) (.cons (.dat (.list (.arr 3 (.int .i64)))) (.cons (.dat (.int .i64)) (.cons (.dat (.int .i64)) (.cons (.dat (.arr 3 (.int .i64))) (.cons (.vec 0 1 (.arr 3 (.int .i64))) (.cons (.cons (.own 1 (.int .i64)) (.nil)) (.cons (.vec 2 2 .bool) (.cons (.cons (.vec 3 3 (.arr 3 (.int .i64))) (.cons (.own 4 (.arr 3 (.int .i64))) (.cons (.own 5 (.arr 3 (.int .i64))) (.nil)))) (.nil)))))))))), .vrow 0 (.arr 3 (.int .i64)), .vrow 2 .bool, .vrow 3 (.arr 3 (.int .i64))], 6, [.cons (.dat T27) (.cons (.dat (.list .bool)) (.cons (.dat (.list (.arr 3 (.int .i64)))) (.cons (.dat (.int .i64)) (.cons (.dat (.int .i64)) (.cons (.dat (.arr 3 (.int .i64))) (.cons (.vec 0 1 (.arr 3 (.int .i64))) (.cons (.cons (.own 1 (.int .i64)) (.nil)) (.cons (.vec 2 2 .bool) (.cons (.cons (.vec 3 3 (.arr 3 (.int .i64))) (.cons (.own 4 (.arr 3 (.int .i64))) (.cons (.own 5 (.arr 3 (.int .i64))) (.nil)))) (.nil)))))))))), .vrow 0 (.arr 3 (.int .i64)), .vrow 2 .bool, .vrow 3 (.arr 3 (.int .i64))], 6, .tup (.nil)⟩
noncomputable def G86_E : CEnt := boxE 86 G86_CS fun x => G86 x.2.1 x.2.2.1 x.2.2.2.1 x.2.2.2.2.1
theorem G86_l1_V : LValid 4 Tryd.prog (.loop G86_l1_c) G86_l1_L false := by
  have hb : ∀ s, codeR Tryd.prog G86_C G86_l1_c [] (G86_l1_S.encE s) (G86_l1_S.encB s) (kst G86_l1_S [.exit 2]) = G86_l1_step s := by
    intro s; kernel_rfl
  have hL : LV 4 Tryd.prog false (loopsOf G86_l1_c) [] := by unfold LV; cases loopsOf G86_l1_c <;> trivial
  exact loopT_valid (fuel := G86_l1_fuel) mixed G86_CV hL (by kernel_rfl) (by decide) rfl hb (fun s r h => h)
theorem G86_l0_V : LValid 4 Tryd.prog (.loop G86_l0_c) G86_l0_L false := by
  have hb : ∀ s, codeR Tryd.prog G86_C G86_l0_c [G86_l1_L] (G86_l0_S.encE s) (G86_l0_S.encB s) (kst G86_l0_S [.exit 0]) = G86_l0_step s := by
    intro s; kernel_rfl
  have hl : loopsOf G86_l0_c = [.loop G86_l1_c] := by kernel_rfl
  have hL : LV 4 Tryd.prog false (loopsOf G86_l0_c) [G86_l1_L] := by rw [hl]; exact ⟨G86_l1_V, trivial⟩
  exact loopT_valid (fuel := G86_l0_fuel) mixed G86_CV hL (by kernel_rfl) (by decide) rfl hb (fun s r h => h)
theorem G86_LV : LV 4 Tryd.prog false (loopsOf (bodyOf Tryd.f86)) [G86_l0_L] := by
  have hl : loopsOf (bodyOf Tryd.f86) = [.loop G86_l0_c] := by kernel_rfl
  rw [hl]; exact ⟨G86_l0_V, trivial⟩
theorem G86_ent : Ent Tryd.prog 86 := ⟨by decide, enters_of Tryd.func86 (by kernel_rfl) rfl⟩
theorem G86_hev : ∀ x : G86_CS.In, fnR Tryd.prog G86_C [G86_l0_L] Tryd.f86 (bodyOf Tryd.f86) (encs G86_CS.A x.1) ⟨encs G86_CS.I x.2, [], G86_CS.nt⟩ (finK G86_CS) = G86 x.2.1 x.2.2.1 x.2.2.2.1 x.2.2.2.2.1 := by
  intro x; kernel_rfl
theorem G86_valid : G86_E.Valid Tryd.prog :=
  boxE_valid (S := G86_CS) (by kernel_rfl) (.inr G86_ent) (fn_lcall (S := G86_CS) mixed Tryd.func86 rfl G86_ent G86_CV G86_LV (by kernel_rfl) (by kernel_rfl) G86_hev)
noncomputable def G87_C : CalT := tabC []
theorem G87_CV : CV Tryd.prog G87_C := tabC_valid (l := _) trivial
noncomputable def G87_l0_c : Code := loopAt (bodyOf Tryd.f87) 0
noncomputable def G87_l0_S : SPat := ⟨[.fix (.bptr 0 []), .any, .fix (.bptr 4 []), .any, .any, .dat (.int .i64), .any, .any, .any, .any, .any, .any, .any, .any, .any, .any, .any, .any, .any, .any, .any, .any, .any, .any, .any, .any, .any, .any, .any, .any, .any, .any, .any, .any, .any, .any, .any, .any, .any, .any, .any, .any, .any, .any, .any, .any, .any, .any, .any, .any, .any, .any, .any, .any, .any, .any, .any, .any, .any, .any, .any, .any, .any, .any, .any, .any, .any, .any, .any, .any, .any, .any, .any], [.cons (.dat T27) PA14, .vrow 0 (.arr 3 (.int .i64)), .vrow 2 .bool, .vrow 3 (.arr 3 (.int .i64)), .dat (.arr 3 (.int .i64))], 6⟩
abbrev TY19 : Type := ((Int × Unit) × ((E27 × ((List Bool) × ((List (List Int)) × (Int × (Int × ((List Int) × (Nat × (((List Int) × Unit) × (Nat × ((Nat × ((List (List Int)) × ((List (List Int)) × Unit))) × Unit)))))))))) × ((List (List Int)) × ((List Bool) × ((List (List Int)) × ((List Int) × Unit))))))
abbrev TY20 : Type := (Nat × ((Int × Unit) × ((E27 × ((List Bool) × ((List (List Int)) × (Int × (Int × ((List Int) × (Nat × (((List Int) × Unit) × (Nat × ((Nat × ((List (List Int)) × ((List (List Int)) × Unit))) × Unit)))))))))) × ((List (List Int)) × ((List Bool) × ((List (List Int)) × ((List Int) × Unit)))))))
noncomputable def G87_l0_step (s : TY19) : Option TY20 :=
  (bif (decide (s.1.1 < 3)) then
  (bif (decide (0 ≤ s.2.1.2.2.2.2.1) && decide (s.2.1.2.2.2.2.1 < (List.length s.2.1.2.2.1 : Int))) then
    (bif (decide (0 ≤ s.1.1) && decide (s.1.1 < (3 : Int))) then
      (bif (decide (0 ≤ s.1.1) && decide (s.1.1 < (3 : Int))) then
        (bif (decide (0 ≤ s.1.1) && decide (s.1.1 < (3 : Int))) then
          (bif (decide (0 ≤ s.1.1) && decide (s.1.1 < (3 : Int))) then
            (bif (decide (0 ≤ s.1.1) && decide (s.1.1 < (3 : Int))) then
              some (0, (((IntKind.wrap .i64 (s.1.1 + 1)), ()), ((s.2.1.1, (s.2.1.2.1, (s.2.1.2.2.1, (s.2.1.2.2.2.1, (s.2.1.2.2.2.2.1, ((List.set s.2.1.2.2.2.2.2.1 (Int.toNat s.1.1) (if (IntKind.wrap .i64 ((List.getD s.2.1.2.2.2.2.2.1 (Int.toNat s.1.1) 0) - (List.getD (List.getD s.2.1.2.2.1 (Int.toNat s.2.1.2.2.2.2.1) (List.replicate 3 0)) (Int.toNat s.1.1) 0))) > 0 then (IntKind.wrap .i64 ((List.getD s.2.1.2.2.2.2.2.1 (Int.toNat s.1.1) 0) - (List.getD (List.getD s.2.1.2.2.1 (Int.toNat s.2.1.2.2.2.2.1) (List.replicate 3 0)) (Int.toNat s.1.1) 0))) else 0)), s.2.1.2.2.2.2.2.2)))))), (s.2.2.1, (s.2.2.2.1, (s.2.2.2.2.1, ((List.set s.2.2.2.2.2.1 (Int.toNat s.1.1) (if (IntKind.wrap .i64 ((List.getD (List.getD s.2.1.2.2.1 (Int.toNat s.2.1.2.2.2.2.1) (List.replicate 3 0)) (Int.toNat s.1.1) 0) - (List.getD s.2.1.2.2.2.2.2.1 (Int.toNat s.1.1) 0))) > 0 then (IntKind.wrap .i64 ((List.getD (List.getD s.2.1.2.2.1 (Int.toNat s.2.1.2.2.2.2.1) (List.replicate 3 0)) (Int.toNat s.1.1) 0) - (List.getD s.2.1.2.2.2.2.2.1 (Int.toNat s.1.1) 0))) else 0)), ())))))))
              else
              none)
            else
            none)
          else
          none)
        else
        none)
      else
      none)
    else
    none)
  else
  some (1, ((s.1.1, ()), (s.2.1, (s.2.2.1, (s.2.2.2.1, (s.2.2.2.2.1, (s.2.2.2.2.2.1, ()))))))))
noncomputable def G87_l0_fuel (s : TY19) : Nat := Int.toNat (3 - s.1.1) + 1
noncomputable def G87_l0_run (s : TY19) : Option TY20 := iter G87_l0_step (G87_l0_fuel s) s
noncomputable def G87_l0_L : LoopT := loopT G87_l0_S [.exit 0] G87_l0_run
noncomputable def G87 (b0 : TY3) (b1 : (List (List Int))) (b2 : (List Bool)) (b3 : (List (List Int))) : Option TY4 :=
  (Option.bind (G87_l0_run ((0, ()), (b0, (b1, (b2, (b3, ((0 :: (0 :: (0 :: []))), ()))))))) fun q1 =>
  (bif (decide (List.length q1.2.2.1.2.2.2.2.2.2.2.2.2.1.2.2.1 + List.length [q1.2.2.2.2.2.2.1] ≤ LIM)) then
    (bif (decide (List.length q1.2.2.1.2.2.2.2.2.2.2.2.2.1.2.1 + List.length [q1.2.2.1.2.2.2.2.2.1] ≤ LIM)) then
      some ((), ((q1.2.2.1.1, (q1.2.2.1.2.1, (q1.2.2.1.2.2.1, (q1.2.2.1.2.2.2.1, (q1.2.2.1.2.2.2.2.1, (q1.2.2.1.2.2.2.2.2.1, (q1.2.2.1.2.2.2.2.2.2.1, (q1.2.2.1.2.2.2.2.2.2.2.1, (q1.2.2.1.2.2.2.2.2.2.2.2.1, ((q1.2.2.1.2.2.2.2.2.2.2.2.2.1.1, ((q1.2.2.1.2.2.2.2.2.2.2.2.2.1.2.1 ++ [q1.2.2.1.2.2.2.2.2.1]), ((q1.2.2.1.2.2.2.2.2.2.2.2.2.1.2.2.1 ++ [q1.2.2.2.2.2.2.1]), q1.2.2.1.2.2.2.2.2.2.2.2.2.1.2.2.2))), q1.2.2.1.2.2.2.2.2.2.2.2.2.2)))))))))), (q1.2.2.2.1, (q1.2.2.2.2.1, (q1.2.2.2.2.2.1, ())))))
      else
      none)
    else
    none))
abbrev G87_CS : CSpec := ⟨[.fix (.bptr 0 [])], [.cons (.dat T27) (.cons (.dat (.list .bool)) (.cons (.dat (.list (.arr 3 (.int .i64)))) (.cons (.dat (.int .i64)) (.cons (.dat (.int .i64)) (.cons (.dat (.arr 3 (.int .i64))) (.cons (.vec 0 1 (.arr 3 (.int .i64))) (.cons (.cons (.own 1 (.int .i64)) (.nil)) (.cons (.vec 2 2 .bool) (.cons (.cons (.vec 3 3 (.arr 3 (.int .i64))) (.cons (.own 4 (.arr 3 (.int .i64))) (.cons (.own 5 (.arr 3 (.int .i64))) (.nil)))) (.nil)))))))))), .vrow 0 (.arr 3 (.int .i64)), .vrow 2 .bool, .vrow 3 (.arr 3 (.int .i64))], 6, [.cons (.dat T27) (.cons (.dat (.list .bool)) (.cons (.dat (.list (.arr 3 (.int .i64)))) (.cons (.dat (.int .i64)) (.cons (.dat (.int .i64)) (.cons (.dat (.arr 3 (.int .i64))) (.cons (.vec 0 1 (.arr 3 (.int .i64))) (.cons (.cons (.own 1 (.int .i64)) (.nil)) (.cons (.vec 2 2 .bool) (.cons (.cons (.vec 3 3 (.arr 3 (.int .i64))) (.cons (.own 4 (.arr 3 (.int .i64))) (.cons (.own 5 (.arr 3 (.int .i64))) (.nil)))) (.nil)))))))))), .vrow 0 (.arr 3 (.int .i64)), .vrow 2 .bool, .vrow 3 (.arr 3 (.int .i64))], 6, .tup (.nil)⟩
noncomputable def G87_E : CEnt := boxE 87 G87_CS fun x => G87 x.2.1 x.2.2.1 x.2.2.2.1 x.2.2.2.2.1
theorem G87_l0_V : LValid 4 Tryd.prog (.loop G87_l0_c) G87_l0_L false := by
  have hb : ∀ s, codeR Tryd.prog G87_C G87_l0_c [] (G87_l0_S.encE s) (G87_l0_S.encB s) (kst G87_l0_S [.exit 0]) = G87_l0_step s := by
    intro s; kernel_rfl
  have hL : LV 4 Tryd.prog false (loopsOf G87_l0_c) [] := by unfold LV; cases loopsOf G87_l0_c <;> trivial
  exact loopT_valid (fuel := G87_l0_fuel) mixed G87_CV hL (by kernel_rfl) (by decide) rfl hb (fun s r h => h)
theorem G87_LV : LV 4 Tryd.prog false (loopsOf (bodyOf Tryd.f87)) [G87_l0_L] := by
  have hl : loopsOf (bodyOf Tryd.f87) = [.loop G87_l0_c] := by kernel_rfl
  rw [hl]; exact ⟨G87_l0_V, trivial⟩
theorem G87_ent : Ent Tryd.prog 87 := ⟨by decide, enters_of Tryd.func87 (by kernel_rfl) rfl⟩
theorem G87_hev : ∀ x : G87_CS.In, fnR Tryd.prog G87_C [G87_l0_L] Tryd.f87 (bodyOf Tryd.f87) (encs G87_CS.A x.1) ⟨encs G87_CS.I x.2, [], G87_CS.nt⟩ (finK G87_CS) = G87 x.2.1 x.2.2.1 x.2.2.2.1 x.2.2.2.2.1 := by
  intro x; kernel_rfl
theorem G87_valid : G87_E.Valid Tryd.prog :=
  boxE_valid (S := G87_CS) (by kernel_rfl) (.inr G87_ent) (fn_lcall (S := G87_CS) mixed Tryd.func87 rfl G87_ent G87_CV G87_LV (by kernel_rfl) (by kernel_rfl) G87_hev)
end Go.Proofs.YtcijddeommognaaDoor.Abs
set_option linter.unusedVariables false
set_option maxRecDepth 100000
namespace Go.Proofs.YtcijddeommognaaDoor.Abs
open Go.Shelf Go.Sort
noncomputable def G100_v1_C : CalT := tabC []
theorem G100_v1_CV : CV Tryd.prog G100_v1_C := tabC_valid (l := _) trivial
abbrev TY21 : Type := (E27 × ((List Bool) × ((List (List Int)) × (Int × (Int × ((List Int) × ((List (List Int)) × (((List Int) × Unit) × (Nat × (((List (List Int)) × ((List (List Int)) × ((List (List Int)) × Unit))) × Unit))))))))))
abbrev TY22 : Type := (Unit × ((E27 × ((List Bool) × ((List (List Int)) × (Int × (Int × ((List Int) × ((List (List Int)) × (((List Int) × Unit) × (Nat × (((List (List Int)) × ((List (List Int)) × ((List (List Int)) × Unit))) × Unit)))))))))) × ((List Bool) × Unit)))
noncomputable def G100_v1 (a0 : Int) (b1 : TY21) (b2 : (List Bool)) : Option TY22 :=
  (bif (decide (List.length b1.2.2.2.2.2.2.2.1.1 + List.length [a0] ≤ LIM)) then
  some ((), ((b1.1, (b1.2.1, (b1.2.2.1, (b1.2.2.2.1, (b1.2.2.2.2.1, (b1.2.2.2.2.2.1, (b1.2.2.2.2.2.2.1, (((b1.2.2.2.2.2.2.2.1.1 ++ [a0]), b1.2.2.2.2.2.2.2.1.2), b1.2.2.2.2.2.2.2.2)))))))), (b2, ())))
  else
  none)
abbrev G100_v1_CS : CSpec := ⟨[.fix (.bptr 0 [.fld 7 20]), .dat (.int .i64)], [.cons (.dat T27) (.cons (.dat (.list .bool)) (.cons (.dat (.list (.arr 3 (.int .i64)))) (.cons (.dat (.int .i64)) (.cons (.dat (.int .i64)) (.cons (.dat (.arr 3 (.int .i64))) (.cons (.own 0 (.arr 3 (.int .i64))) (.cons (.cons (.own 1 (.int .i64)) (.nil)) (.cons (.vec 2 1 .bool) (.cons (.cons (.own 3 (.arr 3 (.int .i64))) (.cons (.own 4 (.arr 3 (.int .i64))) (.cons (.own 5 (.arr 3 (.int .i64))) (.nil)))) (.nil)))))))))), .vrow 2 .bool], 6, [.cons (.dat T27) (.cons (.dat (.list .bool)) (.cons (.dat (.list (.arr 3 (.int .i64)))) (.cons (.dat (.int .i64)) (.cons (.dat (.int .i64)) (.cons (.dat (.arr 3 (.int .i64))) (.cons (.own 0 (.arr 3 (.int .i64))) (.cons (.cons (.own 1 (.int .i64)) (.nil)) (.cons (.vec 2 1 .bool) (.cons (.cons (.own 3 (.arr 3 (.int .i64))) (.cons (.own 4 (.arr 3 (.int .i64))) (.cons (.own 5 (.arr 3 (.int .i64))) (.nil)))) (.nil)))))))))), .vrow 2 .bool], 6, .tup (.nil)⟩
noncomputable def G100_v1_E : CEnt := boxE 100 G100_v1_CS fun x => G100_v1 x.1.1 x.2.1 x.2.2.1
theorem G100_v1_LV : LV 2 Tryd.prog false (loopsOf (bodyOf Tryd.f100)) [] := by unfold LV; cases loopsOf (bodyOf Tryd.f100) <;> trivial
theorem G100_v1_ent : Ent Tryd.prog 100 := ⟨by decide, enters_of Tryd.func100 (by kernel_rfl) rfl⟩
theorem G100_v1_hev : ∀ x : G100_v1_CS.In, fnR Tryd.prog G100_v1_C [] Tryd.f100 (bodyOf Tryd.f100) (encs G100_v1_CS.A x.1) ⟨encs G100_v1_CS.I x.2, [], G100_v1_CS.nt⟩ (finK G100_v1_CS) = G100_v1 x.1.1 x.2.1 x.2.2.1 := by
  intro x; kernel_rfl
theorem G100_v1_valid : G100_v1_E.Valid Tryd.prog :=
  boxE_valid (S := G100_v1_CS) (by kernel_rfl) (.inr G100_v1_ent) (fn_lcall (S := G100_v1_CS) mixed Tryd.func100 rfl G100_v1_ent G100_v1_CV G100_v1_LV (by kernel_rfl) (by kernel_rfl) G100_v1_hev)
noncomputable def G85_v1_C : CalT := tabC [G100_v1_E]
theorem G85_v1_CV : CV Tryd.prog G85_v1_C := tabC_valid (l := _) ⟨G100_v1_valid, trivial⟩
abbrev TY23 : Type := ((Nat × UT67) × ((E27 × ((List Bool) × ((List (List Int)) × (Int × (Int × ((List Int) × ((List (List Int)) × (((List Int) × Unit) × (Nat × (((List (List Int)) × ((List (List Int)) × ((List (List Int)) × Unit))) × Unit)))))))))) × ((List Bool) × Unit)))
noncomputable def G85_v1 (a0 : Int) (b1 : (Nat × UT67)) (b2 : TY21) (b3 : (List Bool)) : Option (Bool × TY23) :=
  (natK b1.1
  ((bif (decide (0 ≤ a0) && decide (a0 < (b2.2.2.2.2.2.2.2.2.1 : Int))) then
    (bif (decide ((Int.toNat a0) < List.length b3)) then
      (bif (!(List.getD b3 (Int.toNat a0) false)) then
        (bif (decide (0 ≤ a0) && decide (a0 < (List.length b2.1.2.2.2.2.2.1 : Int))) then
          (bif (decide ((List.getD b2.1.2.2.2.2.2.1 (Int.toNat a0) (0, ((List.replicate 3 0), (0, ())))).1 ≤ b2.2.2.2.2.1)) then
            (bif (decide (0 ≤ a0) && decide (a0 < (b2.2.2.2.2.2.2.2.2.1 : Int))) then
              (bif (decide ((Int.toNat a0) < List.length b3)) then
                (Option.bind (G100_v1 a0 b2 (List.set b3 (Int.toNat a0) true)) fun r1 =>
                  some (true, ((0, UC67), (r1.2.1, (r1.2.2.1, ())))))
                else
                none)
              else
              none)
            else
            some (true, ((0, UC67), (b2, (b3, ())))))
          else
          none)
        else
        some (true, ((0, UC67), (b2, (b3, ())))))
      else
      none)
    else
    none))
  (fun _ => none))
abbrev G85_v1_CS : CSpec := ⟨[.fix (.yref 0), .dat (.int .i64)], [.lp 85 0 (.cons (.any) (.cons (.fix (.bptr 1 [])) AN65)), .fix (.bptr 2 []), .cons (.dat T27) (.cons (.dat (.list .bool)) (.cons (.dat (.list (.arr 3 (.int .i64)))) (.cons (.dat (.int .i64)) (.cons (.dat (.int .i64)) (.cons (.dat (.arr 3 (.int .i64))) (.cons (.own 0 (.arr 3 (.int .i64))) (.cons (.cons (.own 1 (.int .i64)) (.nil)) (.cons (.vec 2 3 .bool) (.cons (.cons (.own 3 (.arr 3 (.int .i64))) (.cons (.own 4 (.arr 3 (.int .i64))) (.cons (.own 5 (.arr 3 (.int .i64))) (.nil)))) (.nil)))))))))), .vrow 2 .bool], 6, [.lp 85 0 (.cons (.any) (.cons (.fix (.bptr 1 [])) AN65)), .fix (.bptr 2 []), .cons (.dat T27) (.cons (.dat (.list .bool)) (.cons (.dat (.list (.arr 3 (.int .i64)))) (.cons (.dat (.int .i64)) (.cons (.dat (.int .i64)) (.cons (.dat (.arr 3 (.int .i64))) (.cons (.own 0 (.arr 3 (.int .i64))) (.cons (.cons (.own 1 (.int .i64)) (.nil)) (.cons (.vec 2 3 .bool) (.cons (.cons (.own 3 (.arr 3 (.int .i64))) (.cons (.own 4 (.arr 3 (.int .i64))) (.cons (.own 5 (.arr 3 (.int .i64))) (.nil)))) (.nil)))))))))), .vrow 2 .bool], 6, .dat .bool⟩
noncomputable def G85_v1_E : CEnt := boxE YLD G85_v1_CS fun x => G85_v1 x.1.1 x.2.1 x.2.2.1 x.2.2.2.1
theorem G85_v1_LV : LV 4 Tryd.prog true (loopsOf (rfBody (lcode 85 0))) [] := by unfold LV; cases loopsOf (rfBody (lcode 85 0)) <;> trivial
theorem G85_v1_hev : ∀ x : G85_v1_CS.In, roundR Tryd.prog G85_v1_C [] 85 0 (encs G85_v1_CS.A x.1) ⟨encs G85_v1_CS.I x.2, [], G85_v1_CS.nt⟩ (finK G85_v1_CS) = G85_v1 x.1.1 x.2.1 x.2.2.1 x.2.2.2.1 := by
  intro x; kernel_rfl
theorem G85_v1_valid : G85_v1_E.Valid Tryd.prog :=
  boxE_valid (S := G85_v1_CS) (by kernel_rfl) (.inl rfl) (rd_lcall' (S := G85_v1_CS) mixed G85_v1_CV (by kernel_rfl) G85_v1_LV ⟨_, rfl⟩ (by decide) (by kernel_rfl) (by kernel_rfl) G85_v1_hev)
noncomputable def G88_v1_C : CalT := tabC [G85_v1_E]
theorem G88_v1_CV : CV Tryd.prog G88_v1_C := tabC_valid (l := _) ⟨G85_v1_valid, trivial⟩
noncomputable def G88_v1_l0_c : Code := loopAt (bodyOf Tryd.f88) 0
abbrev PA24 : PTy := (.cons (.dat (.list .bool)) (.cons (.dat (.list (.arr 3 (.int .i64)))) (.cons (.dat (.int .i64)) (.cons (.dat (.int .i64)) (.cons (.dat (.arr 3 (.int .i64))) (.cons (.own 0 (.arr 3 (.int .i64))) (.cons (.cons (.own 1 (.int .i64)) (.nil)) (.cons (.vec 2 4 .bool) (.cons (.cons (.own 3 (.arr 3 (.int .i64))) (.cons (.own 4 (.arr 3 (.int .i64))) (.cons (.own 5 (.arr 3 (.int .i64))) (.nil)))) (.nil))))))))))
noncomputable def G88_v1_l0_S : SPat := ⟨[.fix (.yref 0), .fix (.bptr 1 []), .any, .any, .dat (.int .i64), .any, .any, .any, .any, .any, .any, .any, .any, .any, .any, .any, .any, .any, .any], [.lp 85 0 (.cons (.any) (.cons (.fix (.bptr 2 [])) AN65)), .dat (.int .i64), .fix (.bptr 3 []), .cons (.dat T27) PA24, .vrow 2 .bool], 6⟩
abbrev TY25 : Type := ((Int × Unit) × ((Nat × UT67) × (Int × ((E27 × ((List Bool) × ((List (List Int)) × (Int × (Int × ((List Int) × ((List (List Int)) × (((List Int) × Unit) × (Nat × (((List (List Int)) × ((List (List Int)) × ((List (List Int)) × Unit))) × Unit)))))))))) × ((List Bool) × Unit)))))
abbrev TY26 : Type := (Nat × ((Int × Unit) × ((Nat × UT67) × (Int × ((E27 × ((List Bool) × ((List (List Int)) × (Int × (Int × ((List Int) × ((List (List Int)) × (((List Int) × Unit) × (Nat × (((List (List Int)) × ((List (List Int)) × ((List (List Int)) × Unit))) × Unit)))))))))) × ((List Bool) × Unit))))))
noncomputable def G88_v1_l0_step (s : TY25) : Option TY26 :=
  (bif (decide (s.1.1 < 6)) then
  (bif (!decide (s.1.1 < 0)) then
    (bif ((IntKind.wrap .i64 ((BitVec.toNat ((BitVec.ofInt (IntKind.bits .i64) (Int.fdiv s.2.2.1 (2 ^ (min (Int.toNat s.1.1) (IntKind.bits .i64))))) &&& (BitVec.ofInt (IntKind.bits .i64) 1)) : Nat) : Int)) == 1) then
      (Option.bind (G85_v1 s.1.1 (s.2.1.1, UC67) s.2.2.2.1 s.2.2.2.2.1) fun r1 =>
        (bif (!r1.1) then
          some (1, ((s.1.1, ()), ((r1.2.1.1, UC67), (s.2.2.1, (r1.2.2.1, (r1.2.2.2.1, ()))))))
          else
          some (0, (((IntKind.wrap .i64 (s.1.1 + 1)), ()), ((r1.2.1.1, UC67), (s.2.2.1, (r1.2.2.1, (r1.2.2.2.1, ()))))))))
      else
      some (0, (((IntKind.wrap .i64 (s.1.1 + 1)), ()), ((s.2.1.1, UC67), (s.2.2.1, (s.2.2.2.1, (s.2.2.2.2.1, ())))))))
    else
    none)
  else
  some (2, ((s.1.1, ()), ((s.2.1.1, UC67), (s.2.2.1, (s.2.2.2.1, (s.2.2.2.2.1, ())))))))
noncomputable def G88_v1_l0_fuel (s : TY25) : Nat := Int.toNat (6 - s.1.1) + 1
noncomputable def G88_v1_l0_run (s : TY25) : Option TY26 := iter G88_v1_l0_step (G88_v1_l0_fuel s) s
noncomputable def G88_v1_l0_L : LoopT := loopT G88_v1_l0_S [.ret, .exit 0] G88_v1_l0_run
abbrev TY27 : Type := (Unit × ((Nat × UT67) × (Int × ((E27 × ((List Bool) × ((List (List Int)) × (Int × (Int × ((List Int) × ((List (List Int)) × (((List Int) × Unit) × (Nat × (((List (List Int)) × ((List (List Int)) × ((List (List Int)) × Unit))) × Unit)))))))))) × ((List Bool) × Unit)))))
noncomputable def G88_v1 (b0 : (Nat × UT67)) (b1 : Int) (b2 : TY21) (b3 : (List Bool)) : Option TY27 :=
  (Option.bind (G88_v1_l0_run ((0, ()), ((b0.1, UC67), (b1, (b2, (b3, ())))))) fun q2 =>
  (natK q2.1
    (some ((), ((q2.2.2.1.1, UC67), (q2.2.2.2.1, (q2.2.2.2.2.1, (q2.2.2.2.2.2.1, ()))))))
    (fun _ => some ((), ((q2.2.2.1.1, UC67), (q2.2.2.2.1, (q2.2.2.2.2.1, (q2.2.2.2.2.2.1, ()))))))))
abbrev G88_v1_CS : CSpec := ⟨[.fix (.yref 0), .fix (.bptr 1 [])], [.lp 85 0 (.cons (.any) (.cons (.fix (.bptr 2 [])) AN65)), .dat (.int .i64), .fix (.bptr 3 []), .cons (.dat T27) (.cons (.dat (.list .bool)) (.cons (.dat (.list (.arr 3 (.int .i64)))) (.cons (.dat (.int .i64)) (.cons (.dat (.int .i64)) (.cons (.dat (.arr 3 (.int .i64))) (.cons (.own 0 (.arr 3 (.int .i64))) (.cons (.cons (.own 1 (.int .i64)) (.nil)) (.cons (.vec 2 4 .bool) (.cons (.cons (.own 3 (.arr 3 (.int .i64))) (.cons (.own 4 (.arr 3 (.int .i64))) (.cons (.own 5 (.arr 3 (.int .i64))) (.nil)))) (.nil)))))))))), .vrow 2 .bool], 6, [.lp 85 0 (.cons (.any) (.cons (.fix (.bptr 2 [])) AN65)), .dat (.int .i64), .fix (.bptr 3 []), .cons (.dat T27) (.cons (.dat (.list .bool)) (.cons (.dat (.list (.arr 3 (.int .i64)))) (.cons (.dat (.int .i64)) (.cons (.dat (.int .i64)) (.cons (.dat (.arr 3 (.int .i64))) (.cons (.own 0 (.arr 3 (.int .i64))) (.cons (.cons (.own 1 (.int .i64)) (.nil)) (.cons (.vec 2 4 .bool) (.cons (.cons (.own 3 (.arr 3 (.int .i64))) (.cons (.own 4 (.arr 3 (.int .i64))) (.cons (.own 5 (.arr 3 (.int .i64))) (.nil)))) (.nil)))))))))), .vrow 2 .bool], 6, .tup (.nil)⟩
noncomputable def G88_v1_E : CEnt := boxE 88 G88_v1_CS fun x => G88_v1 x.2.1 x.2.2.1 x.2.2.2.1 x.2.2.2.2.1
theorem G88_v1_l0_V : LValid 5 Tryd.prog (.loop G88_v1_l0_c) G88_v1_l0_L false := by
  have hb : ∀ s, codeR Tryd.prog G88_v1_C G88_v1_l0_c [] (G88_v1_l0_S.encE s) (G88_v1_l0_S.encB s) (kst G88_v1_l0_S [.ret, .exit 0]) = G88_v1_l0_step s := by
    intro s; kernel_rfl
  have hL : LV 5 Tryd.prog false (loopsOf G88_v1_l0_c) [] := by unfold LV; cases loopsOf G88_v1_l0_c <;> trivial
  exact loopT_valid (fuel := G88_v1_l0_fuel) mixed G88_v1_CV hL (by kernel_rfl) (by decide) rfl hb (fun s r h => h)
theorem G88_v1_LV : LV 5 Tryd.prog false (loopsOf (bodyOf Tryd.f88)) [G88_v1_l0_L] := by
  have hl : loopsOf (bodyOf Tryd.f88) = [.loop G88_v1_l0_c] := by kernel_rfl
  rw [hl]; exact ⟨G88_v1_l0_V, trivial⟩
theorem G88_v1_ent : Ent Tryd.prog 88 := ⟨by decide, enters_of Tryd.func88 (by kernel_rfl) rfl⟩
theorem G88_v1_hev : ∀ x : G88_v1_CS.In, fnR Tryd.prog G88_v1_C [G88_v1_l0_L] Tryd.f88 (bodyOf Tryd.f88) (encs G88_v1_CS.A x.1) ⟨encs G88_v1_CS.I x.2, [], G88_v1_CS.nt⟩ (finK G88_v1_CS) = G88_v1 x.2.1 x.2.2.1 x.2.2.2.1 x.2.2.2.2.1 := by
  intro x; kernel_rfl
theorem G88_v1_valid : G88_v1_E.Valid Tryd.prog :=
  boxE_valid (S := G88_v1_CS) (by kernel_rfl) (.inr G88_v1_ent) (fn_lcall (S := G88_v1_CS) mixed Tryd.func88 rfl G88_v1_ent G88_v1_CV G88_v1_LV (by kernel_rfl) (by kernel_rfl) G88_v1_hev)
noncomputable def g85_store_run_arrive_v1_C : CalT := tabC [G57_E, G88_v1_E]
theorem g85_store_run_arrive_v1_CV : CV Tryd.prog g85_store_run_arrive_v1_C := tabC_valid (l := _) ⟨G57_valid, G88_v1_valid, trivial⟩
noncomputable def g85_store_run_arrive_v1_f0_L : LoopT := rfT g85_store_run_arrive_v1_C 85 0 (.tmp 30) [.normal]
noncomputable def g85_store_run_arrive_v1 (b0 : TY21) (b1 : (List Bool)) : Option TY22 :=
  (bif (decide (b0.2.2.2.2.1 ≥ b0.1.2.2.2.2.1)) then
  some ((), (b0, (b1, ())))
  else
  (bif (decide (0 ≤ b0.2.2.2.2.1) && decide (b0.2.2.2.2.1 < (List.length b0.2.1 : Int))) then
    (bif (!(List.getD b0.2.1 (Int.toNat b0.2.2.2.2.1) false)) then
      some ((), (b0, (b1, ())))
      else
      (Option.bind (G57 b0.2.2.2.1) fun r1 =>
        (Option.bind (G88_v1 (0, UC67) r1.2.1 b0 b1) fun r2 =>
          (bif (r2.2.1.1 == 0) then
            some ((), (r2.2.2.2.1, (r2.2.2.2.2.1, ())))
            else
            none))))
    else
    none))
abbrev g85_store_run_arrive_v1_CS : CSpec := ⟨[.fix (.bptr 0 [])], [.cons (.dat T27) (.cons (.dat (.list .bool)) (.cons (.dat (.list (.arr 3 (.int .i64)))) (.cons (.dat (.int .i64)) (.cons (.dat (.int .i64)) (.cons (.dat (.arr 3 (.int .i64))) (.cons (.own 0 (.arr 3 (.int .i64))) (.cons (.cons (.own 1 (.int .i64)) (.nil)) (.cons (.vec 2 1 .bool) (.cons (.cons (.own 3 (.arr 3 (.int .i64))) (.cons (.own 4 (.arr 3 (.int .i64))) (.cons (.own 5 (.arr 3 (.int .i64))) (.nil)))) (.nil)))))))))), .vrow 2 .bool], 6, [.cons (.dat T27) (.cons (.dat (.list .bool)) (.cons (.dat (.list (.arr 3 (.int .i64)))) (.cons (.dat (.int .i64)) (.cons (.dat (.int .i64)) (.cons (.dat (.arr 3 (.int .i64))) (.cons (.own 0 (.arr 3 (.int .i64))) (.cons (.cons (.own 1 (.int .i64)) (.nil)) (.cons (.vec 2 1 .bool) (.cons (.cons (.own 3 (.arr 3 (.int .i64))) (.cons (.own 4 (.arr 3 (.int .i64))) (.cons (.own 5 (.arr 3 (.int .i64))) (.nil)))) (.nil)))))))))), .vrow 2 .bool], 6, .tup (.nil)⟩
noncomputable def g85_store_run_arrive_v1_E : CEnt := boxE 85 g85_store_run_arrive_v1_CS fun x => g85_store_run_arrive_v1 x.2.1 x.2.2.1
theorem g85_store_run_arrive_v1_f0_V : LValid 2 Tryd.prog (lcode 85 0) g85_store_run_arrive_v1_f0_L := rfT_valid' g85_store_run_arrive_v1_CV (by kernel_rfl)
theorem g85_store_run_arrive_v1_LV : LV 2 Tryd.prog false (loopsOf (bodyOf Tryd.f85)) [g85_store_run_arrive_v1_f0_L] := by
  have hl : loopsOf (bodyOf Tryd.f85) = [(lcode 85 0)] := by kernel_rfl
  rw [hl]; exact ⟨g85_store_run_arrive_v1_f0_V, trivial⟩
theorem g85_store_run_arrive_v1_ent : Ent Tryd.prog 85 := ⟨by decide, enters_of Tryd.func85 (by kernel_rfl) rfl⟩
theorem g85_store_run_arrive_v1_hev : ∀ x : g85_store_run_arrive_v1_CS.In, fnR Tryd.prog g85_store_run_arrive_v1_C [g85_store_run_arrive_v1_f0_L] Tryd.f85 (bodyOf Tryd.f85) (encs g85_store_run_arrive_v1_CS.A x.1) ⟨encs g85_store_run_arrive_v1_CS.I x.2, [], g85_store_run_arrive_v1_CS.nt⟩ (finK g85_store_run_arrive_v1_CS) = g85_store_run_arrive_v1 x.2.1 x.2.2.1 := by
  intro x; kernel_rfl
theorem g85_store_run_arrive_v1_valid : g85_store_run_arrive_v1_E.Valid Tryd.prog :=
  boxE_valid (S := g85_store_run_arrive_v1_CS) (by kernel_rfl) (.inr g85_store_run_arrive_v1_ent) (fn_lcall (S := g85_store_run_arrive_v1_CS) mixed Tryd.func85 rfl g85_store_run_arrive_v1_ent g85_store_run_arrive_v1_CV g85_store_run_arrive_v1_LV (by kernel_rfl) (by kernel_rfl) g85_store_run_arrive_v1_hev)
noncomputable def G86_v1_C : CalT := tabC [G63_E]
theorem G86_v1_CV : CV Tryd.prog G86_v1_C := tabC_valid (l := _) ⟨G63_valid, trivial⟩
noncomputable def G86_v1_l0_c : Code := loopAt (bodyOf Tryd.f86) 0
noncomputable def G86_v1_l1_c : Code := loopAt G86_v1_l0_c 0
abbrev PA28 : PTy := (.cons (.dat (.list .bool)) (.cons (.dat (.list (.arr 3 (.int .i64)))) (.cons (.dat (.int .i64)) (.cons (.dat (.int .i64)) (.cons (.dat (.arr 3 (.int .i64))) (.cons (.own 0 (.arr 3 (.int .i64))) (.cons (.cons (.own 1 (.int .i64)) (.nil)) (.cons (.vec 2 1 .bool) (.cons (.cons (.own 3 (.arr 3 (.int .i64))) (.cons (.own 4 (.arr 3 (.int .i64))) (.cons (.own 5 (.arr 3 (.int .i64))) (.nil)))) (.nil))))))))))
noncomputable def G86_v1_l1_S : SPat := ⟨[.fix (.bptr 0 []), .any, .dat (.int .i64), .any, .dat (.int .i64), .fix (.bptr 2 []), .any, .any, .any, .any, .any, .any, .any, .any, .any, .any, .any, .any, .any, .any, .any, .any, .any, .any, .any, .any, .any, .any, .any, .any, .any, .any, .any, .any, .any, .any, .any, .any, .any, .dat (.list (.int .i64)), .dat (.int .i64), .dat (.int .i64), .any, .any, .any, .dat (.int .i64), .any, .any, .any, .any, .any, .any, .any, .any, .any, .any, .any, .any, .any, .any, .any, .any, .any, .any, .any, .any, .any, .any, .any, .any, .any, .any, .any, .any, .any, .any, .any, .any, .any, .any, .any, .any, .any, .any, .any, .any, .any, .any, .any, .any, .any, .any, .any, .any, .any, .any, .any, .any, .any, .any, .any, .any, .any, .any, .any, .any, .any, .any, .any, .any, .any, .any, .any, .any, .any, .any, .any, .any, .any, .any, .any, .any, .any, .any, .any, .any, .any, .any], [.cons (.dat T27) PA28, .vrow 2 .bool, .dat (.arr 3 (.int .i64))], 6⟩
abbrev TY29 : Type := ((Int × (Int × ((List Int) × (Int × (Int × (Int × Unit)))))) × ((E27 × ((List Bool) × ((List (List Int)) × (Int × (Int × ((List Int) × ((List (List Int)) × (((List Int) × Unit) × (Nat × (((List (List Int)) × ((List (List Int)) × ((List (List Int)) × Unit))) × Unit)))))))))) × ((List Bool) × ((List Int) × Unit))))
abbrev TY30 : Type := (Nat × ((Int × (Int × ((List Int) × (Int × (Int × (Int × Unit)))))) × ((E27 × ((List Bool) × ((List (List Int)) × (Int × (Int × ((List Int) × ((List (List Int)) × (((List Int) × Unit) × (Nat × (((List (List Int)) × ((List (List Int)) × ((List (List Int)) × Unit))) × Unit)))))))))) × ((List Bool) × ((List Int) × Unit)))))
noncomputable def G86_v1_l1_step (s : TY29) : Option TY30 :=
  (bif (decide (s.1.2.2.2.2.2.1 < 3)) then
  (bif (decide (0 ≤ s.1.2.1) && decide (s.1.2.1 < (List.length s.2.1.2.2.2.2.2.2.1 : Int))) then
    (bif (decide (0 ≤ s.1.2.2.2.2.2.1) && decide (s.1.2.2.2.2.2.1 < (3 : Int))) then
      (bif (decide (0 ≤ s.1.2.2.2.2.2.1) && decide (s.1.2.2.2.2.2.1 < (3 : Int))) then
        (bif (decide (0 ≤ s.1.2.2.2.2.2.1) && decide (s.1.2.2.2.2.2.1 < (3 : Int))) then
          (bif (decide (0 ≤ s.1.2.2.2.2.2.1) && decide (s.1.2.2.2.2.2.1 < (3 : Int))) then
            (bif (decide (0 ≤ s.1.2.2.2.2.2.1) && decide (s.1.2.2.2.2.2.1 < (3 : Int))) then
              (bif (decide (0 ≤ s.1.2.1) && decide (s.1.2.1 < (List.length s.2.1.2.2.2.2.2.2.1 : Int))) then
                (bif (decide (0 ≤ s.1.2.2.2.2.2.1) && decide (s.1.2.2.2.2.2.1 < (3 : Int))) then
                  (bif (decide (0 ≤ s.1.2.2.2.2.2.1) && decide (s.1.2.2.2.2.2.1 < (3 : Int))) then
                    (bif (decide (0 ≤ s.1.2.1) && decide (s.1.2.1 < (List.length s.2.1.2.2.2.2.2.2.1 : Int))) then
                      (bif (decide (0 ≤ s.1.2.2.2.2.2.1) && decide (s.1.2.2.2.2.2.1 < (3 : Int))) then
                        none
                        else
                        none)
                      else
                      none)
                    else
                    none)
                  else
                  none)
                else
                none)
              else
              none)
            else
            none)
          else
          none)
        else
        none)
      else
      none)
    else
    none)
  else
  some (1, ((s.1.1, (s.1.2.1, (s.1.2.2.1, (s.1.2.2.2.1, (s.1.2.2.2.2.1, (s.1.2.2.2.2.2.1, ())))))), (s.2.1, (s.2.2.1, (s.2.2.2.1, ()))))))
noncomputable def G86_v1_l1_fuel (s : TY29) : Nat := Int.toNat (3 - s.1.2.2.2.2.2.1) + 1
noncomputable def G86_v1_l1_run (s : TY29) : Option TY30 := iter G86_v1_l1_step (G86_v1_l1_fuel s) s
noncomputable def G86_v1_l1_L : LoopT := loopT G86_v1_l1_S [.exit 2] G86_v1_l1_run
noncomputable def G86_v1_l0_S : SPat := ⟨[.fix (.bptr 0 []), .any, .dat (.int .i64), .any, .any, .any, .any, .any, .any, .any, .any, .any, .any, .any, .any, .any, .any, .any, .any, .any, .any, .any, .any, .any, .any, .any, .any, .any, .any, .any, .any, .any, .any, .any, .any, .any, .any, .any, .any, .dat (.list (.int .i64)), .dat (.int .i64), .dat (.int .i64), .any, .any, .any, .any, .any, .any, .any, .any, .any, .any, .any, .any, .any, .any, .any, .any, .any, .any, .any, .any, .any, .any, .any, .any, .any, .any, .any, .any, .any, .any, .any, .any, .any, .any, .any, .any, .any, .any, .any, .any, .any, .any, .any, .any, .any, .any, .any, .any, .any, .any, .any, .any, .any, .any, .any, .any, .any, .any, .any, .any, .any, .any, .any, .any, .any, .any, .any, .any, .any, .any, .any, .any, .any, .any, .any, .any, .any, .any, .any, .any, .any, .any, .any, .any, .any, .any], [.cons (.dat T27) PA28, .vrow 2 .bool], 6⟩
abbrev TY31 : Type := ((Int × ((List Int) × (Int × (Int × Unit)))) × ((E27 × ((List Bool) × ((List (List Int)) × (Int × (Int × ((List Int) × ((List (List Int)) × (((List Int) × Unit) × (Nat × (((List (List Int)) × ((List (List Int)) × ((List (List Int)) × Unit))) × Unit)))))))))) × ((List Bool) × Unit)))
abbrev TY32 : Type := (Nat × ((Int × ((List Int) × (Int × (Int × Unit)))) × ((E27 × ((List Bool) × ((List (List Int)) × (Int × (Int × ((List Int) × ((List (List Int)) × (((List Int) × Unit) × (Nat × (((List (List Int)) × ((List (List Int)) × ((List (List Int)) × Unit))) × Unit)))))))))) × ((List Bool) × Unit))))
noncomputable def G86_v1_l0_step (s : TY31) : Option TY32 :=
  (bif (decide (s.1.2.2.2.1 < s.1.2.2.1)) then
  (bif (decide (0 ≤ s.1.2.2.2.1) && decide (s.1.2.2.2.1 < (List.length s.1.2.1 : Int))) then
    (Option.bind (G86_v1_l1_run ((s.1.1, ((List.getD s.1.2.1 (Int.toNat s.1.2.2.2.1) 0), (s.1.2.1, (s.1.2.2.1, (s.1.2.2.2.1, (0, ())))))), (s.2.1, (s.2.2.1, ((0 :: (0 :: (0 :: []))), ()))))) fun q1 =>
      (bif (decide (0 ≤ q1.2.1.2.1) && decide (q1.2.1.2.1 < (List.length q1.2.2.1.2.2.2.2.2.2.2.2.2.1.1 : Int))) then
        (Option.bind (G63 [(List.getD q1.2.2.1.2.2.2.2.2.2.2.2.2.1.1 (Int.toNat q1.2.1.2.1) (List.replicate 3 0)), q1.2.2.2.2.1]) fun r2 =>
          (bif (decide (0 ≤ q1.2.1.2.1) && decide (q1.2.1.2.1 < (List.length q1.2.2.1.2.2.2.2.2.2.2.2.2.1.1 : Int))) then
            none
            else
            none))
        else
        none))
    else
    none)
  else
  some (1, ((s.1.1, (s.1.2.1, (s.1.2.2.1, (s.1.2.2.2.1, ())))), (s.2.1, (s.2.2.1, ())))))
noncomputable def G86_v1_l0_fuel (s : TY31) : Nat := Int.toNat (s.1.2.2.1 - s.1.2.2.2.1) + 1
noncomputable def G86_v1_l0_run (s : TY31) : Option TY32 := iter G86_v1_l0_step (G86_v1_l0_fuel s) s
noncomputable def G86_v1_l0_L : LoopT := loopT G86_v1_l0_S [.exit 0] G86_v1_l0_run
noncomputable def G86_v1 (b0 : TY21) (b1 : (List Bool)) : Option TY22 :=
  (bif (decide (b0.2.2.2.2.1 ≥ b0.1.2.2.2.2.1)) then
  some ((), (b0, (b1, ())))
  else
  (bif (decide (0 ≤ b0.2.2.2.2.1) && decide (b0.2.2.2.2.1 < (List.length b0.2.1 : Int))) then
    (bif (!(List.getD b0.2.1 (Int.toNat b0.2.2.2.2.1) false)) then
      some ((), (b0, (b1, ())))
      else
      (Option.bind (G86_v1_l0_run ((b0.1.2.2.1, (b0.2.2.2.2.2.2.2.1.1, ((List.length b0.2.2.2.2.2.2.2.1.1 : Int), (0, ())))), (b0, (b1, ())))) fun q3 =>
        some ((), (q3.2.2.1, (q3.2.2.2.1, ())))))
    else
    none))
abbrev G86_v1_CS : CSpec := ⟨[.fix (.bptr 0 [])], [.cons (.dat T27) (.cons (.dat (.list .bool)) (.cons (.dat (.list (.arr 3 (.int .i64)))) (.cons (.dat (.int .i64)) (.cons (.dat (.int .i64)) (.cons (.dat (.arr 3 (.int .i64))) (.cons (.own 0 (.arr 3 (.int .i64))) (.cons (.cons (.own 1 (.int .i64)) (.nil)) (.cons (.vec 2 1 .bool) (.cons (.cons (.own 3 (.arr 3 (.int .i64))) (.cons (.own 4 (.arr 3 (.int .i64))) (.cons (.own 5 (.arr 3 (.int .i64))) (.nil)))) (.nil)))))))))), .vrow 2 .bool], 6, [.cons (.dat T27) (.cons (.dat (.list .bool)) (.cons (.dat (.list (.arr 3 (.int .i64)))) (.cons (.dat (.int .i64)) (.cons (.dat (.int .i64)) (.cons (.dat (.arr 3 (.int .i64))) (.cons (.own 0 (.arr 3 (.int .i64))) (.cons (.cons (.own 1 (.int .i64)) (.nil)) (.cons (.vec 2 1 .bool) (.cons (.cons (.own 3 (.arr 3 (.int .i64))) (.cons (.own 4 (.arr 3 (.int .i64))) (.cons (.own 5 (.arr 3 (.int .i64))) (.nil)))) (.nil)))))))))), .vrow 2 .bool], 6, .tup (.nil)⟩
noncomputable def G86_v1_E : CEnt := boxE 86 G86_v1_CS fun x => G86_v1 x.2.1 x.2.2.1
theorem G86_v1_l1_V : LValid 2 Tryd.prog (.loop G86_v1_l1_c) G86_v1_l1_L false := by
  have hb : ∀ s, codeR Tryd.prog G86_v1_C G86_v1_l1_c [] (G86_v1_l1_S.encE s) (G86_v1_l1_S.encB s) (kst G86_v1_l1_S [.exit 2]) = G86_v1_l1_step s := by
    intro s; kernel_rfl
  have hL : LV 2 Tryd.prog false (loopsOf G86_v1_l1_c) [] := by unfold LV; cases loopsOf G86_v1_l1_c <;> trivial
  exact loopT_valid (fuel := G86_v1_l1_fuel) mixed G86_v1_CV hL (by kernel_rfl) (by decide) rfl hb (fun s r h => h)
theorem G86_v1_l0_V : LValid 2 Tryd.prog (.loop G86_v1_l0_c) G86_v1_l0_L false := by
  have hb : ∀ s, codeR Tryd.prog G86_v1_C G86_v1_l0_c [G86_v1_l1_L] (G86_v1_l0_S.encE s) (G86_v1_l0_S.encB s) (kst G86_v1_l0_S [.exit 0]) = G86_v1_l0_step s := by
    intro s; kernel_rfl
  have hl : loopsOf G86_v1_l0_c = [.loop G86_v1_l1_c] := by kernel_rfl
  have hL : LV 2 Tryd.prog false (loopsOf G86_v1_l0_c) [G86_v1_l1_L] := by rw [hl]; exact ⟨G86_v1_l1_V, trivial⟩
  exact loopT_valid (fuel := G86_v1_l0_fuel) mixed G86_v1_CV hL (by kernel_rfl) (by decide) rfl hb (fun s r h => h)
theorem G86_v1_LV : LV 2 Tryd.prog false (loopsOf (bodyOf Tryd.f86)) [G86_v1_l0_L] := by
  have hl : loopsOf (bodyOf Tryd.f86) = [.loop G86_v1_l0_c] := by kernel_rfl
  rw [hl]; exact ⟨G86_v1_l0_V, trivial⟩
theorem G86_v1_ent : Ent Tryd.prog 86 := ⟨by decide, enters_of Tryd.func86 (by kernel_rfl) rfl⟩
theorem G86_v1_hev : ∀ x : G86_v1_CS.In, fnR Tryd.prog G86_v1_C [G86_v1_l0_L] Tryd.f86 (bodyOf Tryd.f86) (encs G86_v1_CS.A x.1) ⟨encs G86_v1_CS.I x.2, [], G86_v1_CS.nt⟩ (finK G86_v1_CS) = G86_v1 x.2.1 x.2.2.1 := by
  intro x; kernel_rfl
theorem G86_v1_valid : G86_v1_E.Valid Tryd.prog :=
  boxE_valid (S := G86_v1_CS) (by kernel_rfl) (.inr G86_v1_ent) (fn_lcall (S := G86_v1_CS) mixed Tryd.func86 rfl G86_v1_ent G86_v1_CV G86_v1_LV (by kernel_rfl) (by kernel_rfl) G86_v1_hev)
noncomputable def G87_v1_C : CalT := tabC []
theorem G87_v1_CV : CV Tryd.prog G87_v1_C := tabC_valid (l := _) trivial
noncomputable def G87_v1_l0_c : Code := loopAt (bodyOf Tryd.f87) 0
noncomputable def G87_v1_l0_S : SPat := ⟨[.fix (.bptr 0 []), .any, .fix (.bptr 2 []), .any, .any, .dat (.int .i64), .any, .any, .any, .any, .any, .any, .any, .any, .any, .any, .any, .any, .any, .any, .any, .any, .any, .any, .any, .any, .any, .any, .any, .any, .any, .any, .any, .any, .any, .any, .any, .any, .any, .any, .any, .any, .any, .any, .any, .any, .any, .any, .any, .any, .any, .any, .any, .any, .any, .any, .any, .any, .any, .any, .any, .any, .any, .any, .any, .any, .any, .any, .any, .any, .any, .any, .any], [.cons (.dat T27) PA28, .vrow 2 .bool, .dat (.arr 3 (.int .i64))], 6⟩
abbrev TY33 : Type := ((Int × Unit) × ((E27 × ((List Bool) × ((List (List Int)) × (Int × (Int × ((List Int) × ((List (List Int)) × (((List Int) × Unit) × (Nat × (((List (List Int)) × ((List (List Int)) × ((List (List Int)) × Unit))) × Unit)))))))))) × ((List Bool) × ((List Int) × Unit))))
abbrev TY34 : Type := (Nat × ((Int × Unit) × ((E27 × ((List Bool) × ((List (List Int)) × (Int × (Int × ((List Int) × ((List (List Int)) × (((List Int) × Unit) × (Nat × (((List (List Int)) × ((List (List Int)) × ((List (List Int)) × Unit))) × Unit)))))))))) × ((List Bool) × ((List Int) × Unit)))))
noncomputable def G87_v1_l0_step (s : TY33) : Option TY34 :=
  (bif (decide (s.1.1 < 3)) then
  (bif (decide (0 ≤ s.2.1.2.2.2.2.1) && decide (s.2.1.2.2.2.2.1 < (List.length s.2.1.2.2.1 : Int))) then
    (bif (decide (0 ≤ s.1.1) && decide (s.1.1 < (3 : Int))) then
      (bif (decide (0 ≤ s.1.1) && decide (s.1.1 < (3 : Int))) then
        (bif (decide (0 ≤ s.1.1) && decide (s.1.1 < (3 : Int))) then
          (bif (decide (0 ≤ s.1.1) && decide (s.1.1 < (3 : Int))) then
            (bif (decide (0 ≤ s.1.1) && decide (s.1.1 < (3 : Int))) then
              some (0, (((IntKind.wrap .i64 (s.1.1 + 1)), ()), ((s.2.1.1, (s.2.1.2.1, (s.2.1.2.2.1, (s.2.1.2.2.2.1, (s.2.1.2.2.2.2.1, ((List.set s.2.1.2.2.2.2.2.1 (Int.toNat s.1.1) (if (IntKind.wrap .i64 ((List.getD s.2.1.2.2.2.2.2.1 (Int.toNat s.1.1) 0) - (List.getD (List.getD s.2.1.2.2.1 (Int.toNat s.2.1.2.2.2.2.1) (List.replicate 3 0)) (Int.toNat s.1.1) 0))) > 0 then (IntKind.wrap .i64 ((List.getD s.2.1.2.2.2.2.2.1 (Int.toNat s.1.1) 0) - (List.getD (List.getD s.2.1.2.2.1 (Int.toNat s.2.1.2.2.2.2.1) (List.replicate 3 0)) (Int.toNat s.1.1) 0))) else 0)), s.2.1.2.2.2.2.2.2)))))), (s.2.2.1, ((List.set s.2.2.2.1 (Int.toNat s.1.1) (if (IntKind.wrap .i64 ((List.getD (List.getD s.2.1.2.2.1 (Int.toNat s.2.1.2.2.2.2.1) (List.replicate 3 0)) (Int.toNat s.1.1) 0) - (List.getD s.2.1.2.2.2.2.2.1 (Int.toNat s.1.1) 0))) > 0 then (IntKind.wrap .i64 ((List.getD (List.getD s.2.1.2.2.1 (Int.toNat s.2.1.2.2.2.2.1) (List.replicate 3 0)) (Int.toNat s.1.1) 0) - (List.getD s.2.1.2.2.2.2.2.1 (Int.toNat s.1.1) 0))) else 0)), ())))))
              else
              none)
            else
            none)
          else
          none)
        else
        none)
      else
      none)
    else
    none)
  else
  some (1, ((s.1.1, ()), (s.2.1, (s.2.2.1, (s.2.2.2.1, ()))))))
noncomputable def G87_v1_l0_fuel (s : TY33) : Nat := Int.toNat (3 - s.1.1) + 1
noncomputable def G87_v1_l0_run (s : TY33) : Option TY34 := iter G87_v1_l0_step (G87_v1_l0_fuel s) s
noncomputable def G87_v1_l0_L : LoopT := loopT G87_v1_l0_S [.exit 0] G87_v1_l0_run
noncomputable def G87_v1 (b0 : TY21) (b1 : (List Bool)) : Option TY22 :=
  (Option.bind (G87_v1_l0_run ((0, ()), (b0, (b1, ((0 :: (0 :: (0 :: []))), ()))))) fun q1 =>
  (bif (decide (List.length q1.2.2.1.2.2.2.2.2.2.2.2.2.1.2.2.1 + List.length [q1.2.2.2.2.1] ≤ LIM)) then
    (bif (decide (List.length q1.2.2.1.2.2.2.2.2.2.2.2.2.1.2.1 + List.length [q1.2.2.1.2.2.2.2.2.1] ≤ LIM)) then
      some ((), ((q1.2.2.1.1, (q1.2.2.1.2.1, (q1.2.2.1.2.2.1, (q1.2.2.1.2.2.2.1, (q1.2.2.1.2.2.2.2.1, (q1.2.2.1.2.2.2.2.2.1, (q1.2.2.1.2.2.2.2.2.2.1, (q1.2.2.1.2.2.2.2.2.2.2.1, (q1.2.2.1.2.2.2.2.2.2.2.2.1, ((q1.2.2.1.2.2.2.2.2.2.2.2.2.1.1, ((q1.2.2.1.2.2.2.2.2.2.2.2.2.1.2.1 ++ [q1.2.2.1.2.2.2.2.2.1]), ((q1.2.2.1.2.2.2.2.2.2.2.2.2.1.2.2.1 ++ [q1.2.2.2.2.1]), q1.2.2.1.2.2.2.2.2.2.2.2.2.1.2.2.2))), q1.2.2.1.2.2.2.2.2.2.2.2.2.2)))))))))), (q1.2.2.2.1, ())))
      else
      none)
    else
    none))
abbrev G87_v1_CS : CSpec := ⟨[.fix (.bptr 0 [])], [.cons (.dat T27) (.cons (.dat (.list .bool)) (.cons (.dat (.list (.arr 3 (.int .i64)))) (.cons (.dat (.int .i64)) (.cons (.dat (.int .i64)) (.cons (.dat (.arr 3 (.int .i64))) (.cons (.own 0 (.arr 3 (.int .i64))) (.cons (.cons (.own 1 (.int .i64)) (.nil)) (.cons (.vec 2 1 .bool) (.cons (.cons (.own 3 (.arr 3 (.int .i64))) (.cons (.own 4 (.arr 3 (.int .i64))) (.cons (.own 5 (.arr 3 (.int .i64))) (.nil)))) (.nil)))))))))), .vrow 2 .bool], 6, [.cons (.dat T27) (.cons (.dat (.list .bool)) (.cons (.dat (.list (.arr 3 (.int .i64)))) (.cons (.dat (.int .i64)) (.cons (.dat (.int .i64)) (.cons (.dat (.arr 3 (.int .i64))) (.cons (.own 0 (.arr 3 (.int .i64))) (.cons (.cons (.own 1 (.int .i64)) (.nil)) (.cons (.vec 2 1 .bool) (.cons (.cons (.own 3 (.arr 3 (.int .i64))) (.cons (.own 4 (.arr 3 (.int .i64))) (.cons (.own 5 (.arr 3 (.int .i64))) (.nil)))) (.nil)))))))))), .vrow 2 .bool], 6, .tup (.nil)⟩
noncomputable def G87_v1_E : CEnt := boxE 87 G87_v1_CS fun x => G87_v1 x.2.1 x.2.2.1
theorem G87_v1_l0_V : LValid 2 Tryd.prog (.loop G87_v1_l0_c) G87_v1_l0_L false := by
  have hb : ∀ s, codeR Tryd.prog G87_v1_C G87_v1_l0_c [] (G87_v1_l0_S.encE s) (G87_v1_l0_S.encB s) (kst G87_v1_l0_S [.exit 0]) = G87_v1_l0_step s := by
    intro s; kernel_rfl
  have hL : LV 2 Tryd.prog false (loopsOf G87_v1_l0_c) [] := by unfold LV; cases loopsOf G87_v1_l0_c <;> trivial
  exact loopT_valid (fuel := G87_v1_l0_fuel) mixed G87_v1_CV hL (by kernel_rfl) (by decide) rfl hb (fun s r h => h)
theorem G87_v1_LV : LV 2 Tryd.prog false (loopsOf (bodyOf Tryd.f87)) [G87_v1_l0_L] := by
  have hl : loopsOf (bodyOf Tryd.f87) = [.loop G87_v1_l0_c] := by kernel_rfl
  rw [hl]; exact ⟨G87_v1_l0_V, trivial⟩
theorem G87_v1_ent : Ent Tryd.prog 87 := ⟨by decide, enters_of Tryd.func87 (by kernel_rfl) rfl⟩
theorem G87_v1_hev : ∀ x : G87_v1_CS.In, fnR Tryd.prog G87_v1_C [G87_v1_l0_L] Tryd.f87 (bodyOf Tryd.f87) (encs G87_v1_CS.A x.1) ⟨encs G87_v1_CS.I x.2, [], G87_v1_CS.nt⟩ (finK G87_v1_CS) = G87_v1 x.2.1 x.2.2.1 := by
  intro x; kernel_rfl
theorem G87_v1_valid : G87_v1_E.Valid Tryd.prog :=
  boxE_valid (S := G87_v1_CS) (by kernel_rfl) (.inr G87_v1_ent) (fn_lcall (S := G87_v1_CS) mixed Tryd.func87 rfl G87_v1_ent G87_v1_CV G87_v1_LV (by kernel_rfl) (by kernel_rfl) G87_v1_hev)
noncomputable def G54_C : CalT := CalT.vecs (tabC [g85_store_run_arrive_E, G86_E, G87_E, g85_store_run_arrive_v1_E, G86_v1_E, G87_v1_E]) [32]
theorem G54_CV : CV Tryd.prog G54_C := CV.vecs (C := tabC [g85_store_run_arrive_E, G86_E, G87_E, g85_store_run_arrive_v1_E, G86_v1_E, G87_v1_E]) (tabC_valid (l := _) ⟨g85_store_run_arrive_valid, G86_valid, G87_valid, g85_store_run_arrive_v1_valid, G86_v1_valid, G87_v1_valid, trivial⟩)
noncomputable def G54_l0_c : Code := loopAt (bodyOf Tryd.f54) 0
noncomputable def G54_l1_c : Code := loopAt (bodyOf Tryd.f54) 1
noncomputable def G54_l2_c : Code := loopAt G54_l1_c 0
abbrev PA35 : PTy := (.cons (.dat (.list .bool)) (.cons (.dat (.list (.arr 3 (.int .i64)))) (.cons (.dat (.int .i64)) (.cons (.dat (.int .i64)) (.cons (.dat (.arr 3 (.int .i64))) (.cons (.vec 4 5 (.arr 3 (.int .i64))) (.cons (.cons (.own 5 (.int .i64)) (.nil)) (.cons (.vec 3 2 .bool) (.cons (.cons (.vec 6 6 (.arr 3 (.int .i64))) (.cons (.own 7 (.arr 3 (.int .i64))) (.cons (.own 8 (.arr 3 (.int .i64))) (.nil)))) (.nil))))))))))
noncomputable def G54_l0_S : SPat := ⟨[.any, .any, .any, .any, .fix (.bptr 0 []), .any, .any, .any, .fix (.bptr 1 []), .fix (.bptr 3 []), .any, .any, .any, .any, .any, .any, .any, .any, .any, .any, .any, .any, .any, .any, .any, .any, .any, .any, .any, .any, .any, .any, .any, .any, .any, .dat (.list T39), .dat (.int .i64), .dat (.int .i64), .any, .any, .any, .any, .any, .any, .any, .any, .any, .any, .any, .any, .any, .any, .any, .any, .any, .any, .any, .any, .any, .any, .any, .any, .any, .any, .any, .any, .any, .any, .any, .any, .any, .any, .any, .any, .any, .any, .any, .any, .any, .any, .any, .any, .any, .any, .any, .any, .any, .any, .any, .any, .any], [.dat T27, .cons (.own 0 (.arr 3 (.int .i64))) (.cons (.own 1 (.arr 3 (.int .i64))) (.cons (.own 2 (.arr 3 (.int .i64))) (.nil))), .vrow 3 .bool, .cons (.dat T27) PA35, .dat T39, .vrow 4 (.arr 3 (.int .i64)), .vrow 6 (.arr 3 (.int .i64))], 9⟩
abbrev TY36 : Type := (((List E39) × (Int × (Int × Unit))) × (E27 × (((List (List Int)) × ((List (List Int)) × ((List (List Int)) × Unit))) × ((List Bool) × ((E27 × ((List Bool) × ((List (List Int)) × (Int × (Int × ((List Int) × (Nat × (((List Int) × Unit) × (Nat × ((Nat × ((List (List Int)) × ((List (List Int)) × Unit))) × Unit)))))))))) × (E39 × ((List (List Int)) × ((List (List Int)) × Unit))))))))
abbrev TY37 : Type := (Nat × (((List E39) × (Int × (Int × Unit))) × (E27 × (((List (List Int)) × ((List (List Int)) × ((List (List Int)) × Unit))) × ((List Bool) × ((E27 × ((List Bool) × ((List (List Int)) × (Int × (Int × ((List Int) × (Nat × (((List Int) × Unit) × (Nat × ((Nat × ((List (List Int)) × ((List (List Int)) × Unit))) × Unit)))))))))) × (E39 × ((List (List Int)) × ((List (List Int)) × Unit)))))))))
noncomputable def G54_l0_step (s : TY36) : Option TY37 :=
  (bif (decide (s.1.2.2.1 < s.1.2.1)) then
  (bif (decide (0 ≤ s.1.2.2.1) && decide (s.1.2.2.1 < (List.length s.1.1 : Int))) then
    (bif (decide (s.2.2.2.2.1.2.2.2.2.2.2.1 = List.length s.2.2.2.2.2.2.1) && decide (List.length s.2.2.2.2.2.2.1 + List.length [(List.getD s.1.1 (Int.toNat s.1.2.2.1) (0, ((List.replicate 3 0), (0, ())))).2.1] ≤ LIM)) then
      (bif (decide (s.2.2.2.2.1.2.2.2.2.2.2.2.2.2.1.1 = List.length s.2.2.2.2.2.2.2.1) && decide (List.length s.2.2.2.2.2.2.2.1 + List.length [(0 :: (0 :: (0 :: [])))] ≤ LIM)) then
        some (0, ((s.1.1, (s.1.2.1, ((IntKind.wrap .i64 (s.1.2.2.1 + 1)), ()))), (s.2.1, (s.2.2.1, (s.2.2.2.1, ((s.2.2.2.2.1.1, (s.2.2.2.2.1.2.1, (s.2.2.2.2.1.2.2.1, (s.2.2.2.2.1.2.2.2.1, (s.2.2.2.2.1.2.2.2.2.1, (s.2.2.2.2.1.2.2.2.2.2.1, ((s.2.2.2.2.1.2.2.2.2.2.2.1 + List.length [(List.getD s.1.1 (Int.toNat s.1.2.2.1) (0, ((List.replicate 3 0), (0, ())))).2.1]), (s.2.2.2.2.1.2.2.2.2.2.2.2.1, (s.2.2.2.2.1.2.2.2.2.2.2.2.2.1, (((s.2.2.2.2.1.2.2.2.2.2.2.2.2.2.1.1 + List.length [(0 :: (0 :: (0 :: [])))]), s.2.2.2.2.1.2.2.2.2.2.2.2.2.2.1.2), s.2.2.2.2.1.2.2.2.2.2.2.2.2.2.2)))))))))), (s.2.2.2.2.2.1, ((s.2.2.2.2.2.2.1 ++ [(List.getD s.1.1 (Int.toNat s.1.2.2.1) (0, ((List.replicate 3 0), (0, ())))).2.1]), ((s.2.2.2.2.2.2.2.1 ++ [(0 :: (0 :: (0 :: [])))]), ())))))))))
        else
        none)
      else
      none)
    else
    none)
  else
  some (1, ((s.1.1, (s.1.2.1, (s.1.2.2.1, ()))), (s.2.1, (s.2.2.1, (s.2.2.2.1, (s.2.2.2.2.1, (s.2.2.2.2.2.1, (s.2.2.2.2.2.2.1, (s.2.2.2.2.2.2.2.1, ()))))))))))
noncomputable def G54_l0_fuel (s : TY36) : Nat := Int.toNat (s.1.2.1 - s.1.2.2.1) + 1
noncomputable def G54_l0_run (s : TY36) : Option TY37 := iter G54_l0_step (G54_l0_fuel s) s
noncomputable def G54_l0_L : LoopT := peelT Tryd.prog G54_C [] G54_l0_c G54_l0_S [.exit 0] G54_l0_run
noncomputable def G54_l2_S : SPat := ⟨[.any, .any, .any, .any, .any, .any, .any, .any, .fix (.bptr 1 []), .fix (.bptr 3 []), .any, .any, .any, .any, .any, .any, .any, .any, .any, .any, .any, .any, .any, .any, .any, .any, .any, .any, .any, .any, .any, .any, .any, .any, .any, .any, .any, .any, .any, .any, .any, .any, .any, .any, .any, .any, .any, .any, .any, .any, .any, .any, .any, .any, .any, .any, .any, .any, .any, .any, .any, .any, .any, .any, .any, .any, .dat (.int .i64), .dat (.int .i64), .any, .any, .any, .any, .any, .any, .any, .any, .any, .any, .any, .cons (.fix (.func (.func 85) (.cons (.bptr 3 []) .nil) .nil)) (.cons (.fix (.func (.func 86) (.cons (.bptr 3 []) .nil) .nil)) (.cons (.fix (.func (.func 87) (.cons (.bptr 3 []) .nil) .nil)) (.nil))), .dat (.int .i64), .any, .any, .any, .any, .any, .any, .any, .any, .any, .any], [.dat T27, .cons (.own 0 (.arr 3 (.int .i64))) (.cons (.own 1 (.arr 3 (.int .i64))) (.cons (.own 2 (.arr 3 (.int .i64))) (.nil))), .vrow 3 .bool, .cons (.dat T27) PA35, .dat T39, .vrow 4 (.arr 3 (.int .i64)), .vrow 6 (.arr 3 (.int .i64))], 9⟩
abbrev TY38 : Type := ((Int × (Int × ((Unit × (Unit × (Unit × Unit))) × (Int × Unit)))) × (E27 × (((List (List Int)) × ((List (List Int)) × ((List (List Int)) × Unit))) × ((List Bool) × ((E27 × ((List Bool) × ((List (List Int)) × (Int × (Int × ((List Int) × (Nat × (((List Int) × Unit) × (Nat × ((Nat × ((List (List Int)) × ((List (List Int)) × Unit))) × Unit)))))))))) × (E39 × ((List (List Int)) × ((List (List Int)) × Unit))))))))
abbrev TY39 : Type := (Nat × ((Int × (Int × ((Unit × (Unit × (Unit × Unit))) × (Int × Unit)))) × (E27 × (((List (List Int)) × ((List (List Int)) × ((List (List Int)) × Unit))) × ((List Bool) × ((E27 × ((List Bool) × ((List (List Int)) × (Int × (Int × ((List Int) × (Nat × (((List Int) × Unit) × (Nat × ((Nat × ((List (List Int)) × ((List (List Int)) × Unit))) × Unit)))))))))) × (E39 × ((List (List Int)) × ((List (List Int)) × Unit)))))))))
noncomputable def G54_l2_step (s : TY38) : Option TY39 :=
  (bif (decide (s.1.2.2.2.1 < 3)) then
  (bif (decide (s.1.2.2.2.1 = (0 : Int))) then
    (Option.bind (g85_store_run_arrive s.2.2.2.2.1 s.2.2.2.2.2.2.1 s.2.2.2.1 s.2.2.2.2.2.2.2.1) fun r2 =>
      some (0, ((s.1.1, (s.1.2.1, (((), ((), ((), s.1.2.2.1.2.2.2))), ((IntKind.wrap .i64 (s.1.2.2.2.1 + 1)), ())))), (s.2.1, (s.2.2.1, (r2.2.2.2.1, (r2.2.1, (s.2.2.2.2.2.1, (r2.2.2.1, (r2.2.2.2.2.1, ()))))))))))
    else
    (bif (decide (s.1.2.2.2.1 = (1 : Int))) then
      (Option.bind (G86 s.2.2.2.2.1 s.2.2.2.2.2.2.1 s.2.2.2.1 s.2.2.2.2.2.2.2.1) fun r3 =>
        some (0, ((s.1.1, (s.1.2.1, (((), ((), ((), s.1.2.2.1.2.2.2))), ((IntKind.wrap .i64 (s.1.2.2.2.1 + 1)), ())))), (s.2.1, (s.2.2.1, (r3.2.2.2.1, (r3.2.1, (s.2.2.2.2.2.1, (r3.2.2.1, (r3.2.2.2.2.1, ()))))))))))
      else
      (bif (decide (s.1.2.2.2.1 = (2 : Int))) then
        (Option.bind (G87 s.2.2.2.2.1 s.2.2.2.2.2.2.1 s.2.2.2.1 s.2.2.2.2.2.2.2.1) fun r4 =>
          some (0, ((s.1.1, (s.1.2.1, (((), ((), ((), s.1.2.2.1.2.2.2))), ((IntKind.wrap .i64 (s.1.2.2.2.1 + 1)), ())))), (s.2.1, (s.2.2.1, (r4.2.2.2.1, (r4.2.1, (s.2.2.2.2.2.1, (r4.2.2.1, (r4.2.2.2.2.1, ()))))))))))
        else
        none)))
  else
  some (1, ((s.1.1, (s.1.2.1, (((), ((), ((), s.1.2.2.1.2.2.2))), (s.1.2.2.2.1, ())))), (s.2.1, (s.2.2.1, (s.2.2.2.1, (s.2.2.2.2.1, (s.2.2.2.2.2.1, (s.2.2.2.2.2.2.1, (s.2.2.2.2.2.2.2.1, ()))))))))))
noncomputable def G54_l2_fuel (s : TY38) : Nat := Int.toNat (3 - s.1.2.2.2.1) + 1
noncomputable def G54_l2_run (s : TY38) : Option TY39 := iter G54_l2_step (G54_l2_fuel s) s
noncomputable def G54_l2_O : LoopT := loopT G54_l2_S [.exit 4] G54_l2_run
abbrev PA40 : PTy := (.cons (.dat (.list .bool)) (.cons (.dat (.list (.arr 3 (.int .i64)))) (.cons (.dat (.int .i64)) (.cons (.dat (.int .i64)) (.cons (.dat (.arr 3 (.int .i64))) (.cons (.own 4 (.arr 3 (.int .i64))) (.cons (.cons (.own 5 (.int .i64)) (.nil)) (.cons (.vec 3 2 .bool) (.cons (.cons (.own 6 (.arr 3 (.int .i64))) (.cons (.own 7 (.arr 3 (.int .i64))) (.cons (.own 8 (.arr 3 (.int .i64))) (.nil)))) (.nil))))))))))
noncomputable def G54_l2_v1_S : SPat := ⟨[.any, .any, .any, .any, .any, .any, .any, .any, .fix (.bptr 1 []), .fix (.bptr 3 []), .any, .any, .any, .any, .any, .any, .any, .any, .any, .any, .any, .any, .any, .any, .any, .any, .any, .any, .any, .any, .any, .any, .any, .any, .any, .any, .any, .any, .any, .any, .any, .any, .any, .any, .any, .any, .any, .any, .any, .any, .any, .any, .any, .any, .any, .any, .any, .any, .any, .any, .any, .any, .any, .any, .any, .any, .dat (.int .i64), .dat (.int .i64), .any, .any, .any, .any, .any, .any, .any, .any, .any, .any, .any, .cons (.fix (.func (.func 85) (.cons (.bptr 3 []) .nil) .nil)) (.cons (.fix (.func (.func 86) (.cons (.bptr 3 []) .nil) .nil)) (.cons (.fix (.func (.func 87) (.cons (.bptr 3 []) .nil) .nil)) (.nil))), .dat (.int .i64), .any, .any, .any, .any, .any, .any, .any, .any, .any, .any], [.dat T27, .cons (.own 0 (.arr 3 (.int .i64))) (.cons (.own 1 (.arr 3 (.int .i64))) (.cons (.own 2 (.arr 3 (.int .i64))) (.nil))), .vrow 3 .bool, .cons (.dat T27) PA40], 9⟩
abbrev TY41 : Type := ((Int × (Int × ((Unit × (Unit × (Unit × Unit))) × (Int × Unit)))) × (E27 × (((List (List Int)) × ((List (List Int)) × ((List (List Int)) × Unit))) × ((List Bool) × ((E27 × ((List Bool) × ((List (List Int)) × (Int × (Int × ((List Int) × ((List (List Int)) × (((List Int) × Unit) × (Nat × (((List (List Int)) × ((List (List Int)) × ((List (List Int)) × Unit))) × Unit)))))))))) × Unit)))))
abbrev TY42 : Type := (Nat × ((Int × (Int × ((Unit × (Unit × (Unit × Unit))) × (Int × Unit)))) × (E27 × (((List (List Int)) × ((List (List Int)) × ((List (List Int)) × Unit))) × ((List Bool) × ((E27 × ((List Bool) × ((List (List Int)) × (Int × (Int × ((List Int) × ((List (List Int)) × (((List Int) × Unit) × (Nat × (((List (List Int)) × ((List (List Int)) × ((List (List Int)) × Unit))) × Unit)))))))))) × Unit))))))
noncomputable def G54_l2_v1_step (s : TY41) : Option TY42 :=
  (bif (decide (s.1.2.2.2.1 < 3)) then
  (bif (decide (s.1.2.2.2.1 = (0 : Int))) then
    (Option.bind (g85_store_run_arrive_v1 s.2.2.2.2.1 s.2.2.2.1) fun r7 =>
      some (0, ((s.1.1, (s.1.2.1, (((), ((), ((), s.1.2.2.1.2.2.2))), ((IntKind.wrap .i64 (s.1.2.2.2.1 + 1)), ())))), (s.2.1, (s.2.2.1, (r7.2.2.1, (r7.2.1, ())))))))
    else
    (bif (decide (s.1.2.2.2.1 = (1 : Int))) then
      (Option.bind (G86_v1 s.2.2.2.2.1 s.2.2.2.1) fun r8 =>
        some (0, ((s.1.1, (s.1.2.1, (((), ((), ((), s.1.2.2.1.2.2.2))), ((IntKind.wrap .i64 (s.1.2.2.2.1 + 1)), ())))), (s.2.1, (s.2.2.1, (r8.2.2.1, (r8.2.1, ())))))))
      else
      (bif (decide (s.1.2.2.2.1 = (2 : Int))) then
        (Option.bind (G87_v1 s.2.2.2.2.1 s.2.2.2.1) fun r9 =>
          some (0, ((s.1.1, (s.1.2.1, (((), ((), ((), s.1.2.2.1.2.2.2))), ((IntKind.wrap .i64 (s.1.2.2.2.1 + 1)), ())))), (s.2.1, (s.2.2.1, (r9.2.2.1, (r9.2.1, ())))))))
        else
        none)))
  else
  some (1, ((s.1.1, (s.1.2.1, (((), ((), ((), s.1.2.2.1.2.2.2))), (s.1.2.2.2.1, ())))), (s.2.1, (s.2.2.1, (s.2.2.2.1, (s.2.2.2.2.1, ())))))))
noncomputable def G54_l2_v1_fuel (s : TY41) : Nat := Int.toNat (3 - s.1.2.2.2.1) + 1
noncomputable def G54_l2_v1_run (s : TY41) : Option TY42 := iter G54_l2_v1_step (G54_l2_v1_fuel s) s
noncomputable def G54_l2_v1_O : LoopT := loopT G54_l2_v1_S [.exit 4] G54_l2_v1_run
noncomputable def G54_l2_L : LoopT := orT G54_l2_S.fit G54_l2_O (G54_l2_v1_O)
noncomputable def G54_l1_S : SPat := ⟨[.any, .any, .any, .any, .any, .any, .any, .any, .fix (.bptr 1 []), .fix (.bptr 3 []), .any, .any, .any, .any, .any, .any, .any, .any, .any, .any, .any, .any, .any, .any, .any, .any, .any, .any, .any, .any, .any, .any, .any, .any, .any, .any, .any, .any, .any, .any, .any, .any, .any, .any, .any, .any, .any, .any, .any, .any, .any, .any, .any, .any, .any, .any, .any, .any, .any, .any, .any, .any, .any, .any, .any, .any, .dat (.int .i64), .dat (.int .i64), .any, .any, .any, .any, .any, .any, .any, .any, .any, .any, .any, .any, .any, .any, .any, .any, .any, .any, .any, .any, .any, .any, .any], [.dat T27, .cons (.own 0 (.arr 3 (.int .i64))) (.cons (.own 1 (.arr 3 (.int .i64))) (.cons (.own 2 (.arr 3 (.int .i64))) (.nil))), .vrow 3 .bool, .cons (.dat T27) PA35, .dat T39, .vrow 4 (.arr 3 (.int .i64)), .vrow 6 (.arr 3 (.int .i64))], 9⟩
abbrev TY43 : Type := ((Int × (Int × Unit)) × (E27 × (((List (List Int)) × ((List (List Int)) × ((List (List Int)) × Unit))) × ((List Bool) × ((E27 × ((List Bool) × ((List (List Int)) × (Int × (Int × ((List Int) × (Nat × (((List Int) × Unit) × (Nat × ((Nat × ((List (List Int)) × ((List (List Int)) × Unit))) × Unit)))))))))) × (E39 × ((List (List Int)) × ((List (List Int)) × Unit))))))))
abbrev TY44 : Type := (Nat × ((Int × (Int × Unit)) × (E27 × (((List (List Int)) × ((List (List Int)) × ((List (List Int)) × Unit))) × ((List Bool) × ((E27 × ((List Bool) × ((List (List Int)) × (Int × (Int × ((List Int) × (Nat × (((List Int) × Unit) × (Nat × ((Nat × ((List (List Int)) × ((List (List Int)) × Unit))) × Unit)))))))))) × (E39 × ((List (List Int)) × ((List (List Int)) × Unit)))))))))
noncomputable def G54_l1_step (s : TY43) : Option TY44 :=
  (bif (decide (s.1.2.1 < s.1.1)) then
  (Option.bind (G54_l2_run ((s.1.1, (s.1.2.1, (((), ((), ((), ()))), (0, ())))), (s.2.1, (s.2.2.1, (s.2.2.2.1, ((s.2.2.2.2.1.1, (s.2.2.2.2.1.2.1, (s.2.2.2.2.1.2.2.1, (s.2.2.2.2.1.2.2.2.1, (s.1.2.1, s.2.2.2.2.1.2.2.2.2.2))))), (s.2.2.2.2.2.1, (s.2.2.2.2.2.2.1, (s.2.2.2.2.2.2.2.1, ()))))))))) fun q5 =>
    some (0, ((q5.2.1.1, ((IntKind.wrap .i64 (q5.2.1.2.1 + 1)), ())), (q5.2.2.1, (q5.2.2.2.1, (q5.2.2.2.2.1, (q5.2.2.2.2.2.1, (q5.2.2.2.2.2.2.1, (q5.2.2.2.2.2.2.2.1, (q5.2.2.2.2.2.2.2.2.1, ()))))))))))
  else
  some (1, ((s.1.1, (s.1.2.1, ())), (s.2.1, (s.2.2.1, (s.2.2.2.1, (s.2.2.2.2.1, (s.2.2.2.2.2.1, (s.2.2.2.2.2.2.1, (s.2.2.2.2.2.2.2.1, ()))))))))))
noncomputable def G54_l1_fuel (s : TY43) : Nat := Int.toNat (s.1.1 - s.1.2.1) + 1
noncomputable def G54_l1_run (s : TY43) : Option TY44 := iter G54_l1_step (G54_l1_fuel s) s
noncomputable def G54_l1_O : LoopT := loopT G54_l1_S [.exit 2] G54_l1_run
noncomputable def G54_l1_v1_S : SPat := ⟨[.any, .any, .any, .any, .any, .any, .any, .any, .fix (.bptr 1 []), .fix (.bptr 3 []), .any, .any, .any, .any, .any, .any, .any, .any, .any, .any, .any, .any, .any, .any, .any, .any, .any, .any, .any, .any, .any, .any, .any, .any, .any, .any, .any, .any, .any, .any, .any, .any, .any, .any, .any, .any, .any, .any, .any, .any, .any, .any, .any, .any, .any, .any, .any, .any, .any, .any, .any, .any, .any, .any, .any, .any, .dat (.int .i64), .dat (.int .i64), .any, .any, .any, .any, .any, .any, .any, .any, .any, .any, .any, .any, .any, .any, .any, .any, .any, .any, .any, .any, .any, .any, .any], [.dat T27, .cons (.own 0 (.arr 3 (.int .i64))) (.cons (.own 1 (.arr 3 (.int .i64))) (.cons (.own 2 (.arr 3 (.int .i64))) (.nil))), .vrow 3 .bool, .cons (.dat T27) PA40], 9⟩
abbrev TY45 : Type := ((Int × (Int × Unit)) × (E27 × (((List (List Int)) × ((List (List Int)) × ((List (List Int)) × Unit))) × ((List Bool) × ((E27 × ((List Bool) × ((List (List Int)) × (Int × (Int × ((List Int) × ((List (List Int)) × (((List Int) × Unit) × (Nat × (((List (List Int)) × ((List (List Int)) × ((List (List Int)) × Unit))) × Unit)))))))))) × Unit)))))
abbrev TY46 : Type := (Nat × ((Int × (Int × Unit)) × (E27 × (((List (List Int)) × ((List (List Int)) × ((List (List Int)) × Unit))) × ((List Bool) × ((E27 × ((List Bool) × ((List (List Int)) × (Int × (Int × ((List Int) × ((List (List Int)) × (((List Int) × Unit) × (Nat × (((List (List Int)) × ((List (List Int)) × ((List (List Int)) × Unit))) × Unit)))))))))) × Unit))))))
noncomputable def G54_l1_v1_step (s : TY45) : Option TY46 :=
  (bif (decide (s.1.2.1 < s.1.1)) then
  (Option.bind (G54_l2_v1_run ((s.1.1, (s.1.2.1, (((), ((), ((), ()))), (0, ())))), (s.2.1, (s.2.2.1, (s.2.2.2.1, ((s.2.2.2.2.1.1, (s.2.2.2.2.1.2.1, (s.2.2.2.2.1.2.2.1, (s.2.2.2.2.1.2.2.2.1, (s.1.2.1, s.2.2.2.2.1.2.2.2.2.2))))), ())))))) fun q10 =>
    some (0, ((q10.2.1.1, ((IntKind.wrap .i64 (q10.2.1.2.1 + 1)), ())), (q10.2.2.1, (q10.2.2.2.1, (q10.2.2.2.2.1, (q10.2.2.2.2.2.1, ())))))))
  else
  some (1, ((s.1.1, (s.1.2.1, ())), (s.2.1, (s.2.2.1, (s.2.2.2.1, (s.2.2.2.2.1, ())))))))
noncomputable def G54_l1_v1_fuel (s : TY45) : Nat := Int.toNat (s.1.1 - s.1.2.1) + 1
noncomputable def G54_l1_v1_run (s : TY45) : Option TY46 := iter G54_l1_v1_step (G54_l1_v1_fuel s) s
noncomputable def G54_l1_v1_O : LoopT := loopT G54_l1_v1_S [.exit 2] G54_l1_v1_run
noncomputable def G54_l1_L : LoopT := orT G54_l1_S.fit G54_l1_O (G54_l1_v1_O)
noncomputable def G54 (a0 : E27) (a1 : Int) (a2 : Int) (a3 : Int) : Option E33 :=
  (bif (decide (0 ≤ a2) && decide (a2 < (List.length a0.2.2.2.2.2.2.1 : Int))) then
  (bif (decide (0 ≤ a3) && decide (a3 < (List.length a0.2.2.2.2.2.2.2.1 : Int))) then
    (bif (decide ((0 : Int) ≤ (List.length a0.2.2.2.2.2.1 : Int)) && decide ((List.length a0.2.2.2.2.2.1 : Int) ≤ (LIM : Int)) && decide ((List.length a0.2.2.2.2.2.1 : Int) = (List.length a0.2.2.2.2.2.1 : Int))) then
      (bif (decide ((0 : Int) < (List.length a0.2.2.2.2.2.1 : Int))) then
        (bif (decide (0 ≤ (0 : Int)) && decide ((0 : Int) < (List.length a0.2.2.2.2.2.1 : Int))) then
          (bif (decide (0 < List.length [(List.getD a0.2.2.2.2.2.1 (Int.toNat 0) (0, ((List.replicate 3 0), (0, ())))).2.1]) && decide (List.length [(List.getD a0.2.2.2.2.2.1 (Int.toNat 0) (0, ((List.replicate 3 0), (0, ())))).2.1] ≤ LIM)) then
            (bif (decide (0 < List.length [(0 :: (0 :: (0 :: [])))]) && decide (List.length [(0 :: (0 :: (0 :: [])))] ≤ LIM)) then
              (Option.bind (G54_l0_run ((a0.2.2.2.2.2.1, ((List.length a0.2.2.2.2.2.1 : Int), ((IntKind.wrap .i64 ((0 : Int) + 1)), ()))), (a0, (([], ([], ([], ()))), ((List.replicate (Int.toNat (List.length a0.2.2.2.2.2.1 : Int)) false), ((a0, ((List.getD a0.2.2.2.2.2.2.1 (Int.toNat a2) []), ((List.getD a0.2.2.2.2.2.2.2.1 (Int.toNat a3) []), (a1, (0, (a0.1, ((List.length [(List.getD a0.2.2.2.2.2.1 (Int.toNat 0) (0, ((List.replicate 3 0), (0, ())))).2.1]), (([], ()), ((Int.toNat (List.length a0.2.2.2.2.2.1 : Int)), (((List.length [(0 :: (0 :: (0 :: [])))]), ([], ([], ()))), ())))))))))), ((List.getD a0.2.2.2.2.2.1 (Int.toNat 0) (0, ((List.replicate 3 0), (0, ())))), ([(List.getD a0.2.2.2.2.2.1 (Int.toNat 0) (0, ((List.replicate 3 0), (0, ())))).2.1], ([(0 :: (0 :: (0 :: [])))], ()))))))))) fun q1 =>
                (Option.bind (G54_l1_run ((q1.2.2.1.2.2.2.1, (0, ())), (q1.2.2.1, (q1.2.2.2.1, (q1.2.2.2.2.1, (q1.2.2.2.2.2.1, (q1.2.2.2.2.2.2.1, (q1.2.2.2.2.2.2.2.1, (q1.2.2.2.2.2.2.2.2.1, ()))))))))) fun q6 =>
                  (bif ((decide (q6.2.2.2.2.2.1.2.2.2.2.2.2.2.2.2.1.1 ≤ List.length q6.2.2.2.2.2.2.2.2.1)) && true) then
                    some ((List.take q6.2.2.2.2.2.1.2.2.2.2.2.2.2.2.2.1.1 q6.2.2.2.2.2.2.2.2.1), q6.2.2.2.2.2.1.2.2.2.2.2.2.2.2.2.1.2)
                    else
                    none)))
              else
              none)
            else
            none)
          else
          none)
        else
        (Option.bind (G54_l1_v1_run ((a0.2.2.2.1, (0, ())), (a0, (([], ([], ([], ()))), ((List.replicate (Int.toNat (List.length a0.2.2.2.2.2.1 : Int)) false), ((a0, ((List.getD a0.2.2.2.2.2.2.1 (Int.toNat a2) []), ((List.getD a0.2.2.2.2.2.2.2.1 (Int.toNat a3) []), (a1, (0, (a0.1, ([], (([], ()), ((Int.toNat (List.length a0.2.2.2.2.2.1 : Int)), (([], ([], ([], ()))), ())))))))))), ())))))) fun q11 =>
          some q11.2.2.2.2.2.1.2.2.2.2.2.2.2.2.2.1))
      else
      none)
    else
    none)
  else
  none)
noncomputable def G54_E : CEnt := pureE 54 [.dat T27, .dat (.int .i64), .dat (.int .i64), .dat (.int .i64)] (.dat T33) fun x => G54 x.1 x.2.1 x.2.2.1 x.2.2.2.1
theorem G54_l0_V : LValid 0 Tryd.prog (.loop G54_l0_c) G54_l0_L false := by
  have hb : ∀ s, codeR Tryd.prog G54_C G54_l0_c [] (G54_l0_S.encE s) (G54_l0_S.encB s) (kst G54_l0_S [.exit 0]) = G54_l0_step s := by
    intro s; kernel_rfl
  have hL : LV 0 Tryd.prog false (loopsOf G54_l0_c) [] := by unfold LV; cases loopsOf G54_l0_c <;> trivial
  exact peelT_valid (fuel := G54_l0_fuel) mixed G54_CV hL (by kernel_rfl) (by decide) rfl hb (fun s r h => h)
theorem G54_l2_VO : LValid 0 Tryd.prog (.loop G54_l2_c) G54_l2_O false := by
  exact loopT_valid (fuel := G54_l2_fuel) mixed G54_CV (lvNil _) (by kernel_rfl) (by decide) rfl (by intro s; kernel_rfl) (fun s r h => h)
theorem G54_l2_v1_VO : LValid 0 Tryd.prog (.loop G54_l2_c) G54_l2_v1_O false := by
  exact loopT_valid (fuel := G54_l2_v1_fuel) mixed G54_CV (lvNil _) (by kernel_rfl) (by decide) rfl (by intro s; kernel_rfl) (fun s r h => h)
theorem G54_l2_V : LValid 0 Tryd.prog (.loop G54_l2_c) G54_l2_L false := orT_valid G54_l2_VO (G54_l2_v1_VO)
theorem G54_l1_VO : LValid 0 Tryd.prog (.loop G54_l1_c) G54_l1_O false := by
  have hb : ∀ s, codeR Tryd.prog G54_C G54_l1_c [G54_l2_L] (G54_l1_S.encE s) (G54_l1_S.encB s) (kst G54_l1_S [.exit 2]) = G54_l1_step s := by
    intro s; kernel_rfl
  have hl : loopsOf G54_l1_c = [.loop G54_l2_c] := by kernel_rfl
  have hL : LV 0 Tryd.prog false (loopsOf G54_l1_c) [G54_l2_L] := by rw [hl]; exact ⟨G54_l2_V, trivial⟩
  exact loopT_valid (fuel := G54_l1_fuel) mixed G54_CV hL (by kernel_rfl) (by decide) rfl hb (fun s r h => h)
theorem G54_l1_v1_VO : LValid 0 Tryd.prog (.loop G54_l1_c) G54_l1_v1_O false := by
  have hb : ∀ s, codeR Tryd.prog G54_C G54_l1_c [G54_l2_L] (G54_l1_v1_S.encE s) (G54_l1_v1_S.encB s) (kst G54_l1_v1_S [.exit 2]) = G54_l1_v1_step s := by
    intro s; kernel_rfl
  have hl : loopsOf G54_l1_c = [.loop G54_l2_c] := by kernel_rfl
  have hL : LV 0 Tryd.prog false (loopsOf G54_l1_c) [G54_l2_L] := by rw [hl]; exact ⟨G54_l2_V, trivial⟩
  exact loopT_valid (fuel := G54_l1_v1_fuel) mixed G54_CV hL (by kernel_rfl) (by decide) rfl hb (fun s r h => h)
theorem G54_l1_V : LValid 0 Tryd.prog (.loop G54_l1_c) G54_l1_L false := orT_valid G54_l1_VO (G54_l1_v1_VO)
theorem G54_LV : LV 0 Tryd.prog false (loopsOf (bodyOf Tryd.f54)) [G54_l0_L, G54_l1_L] := by
  have hl : loopsOf (bodyOf Tryd.f54) = [.loop G54_l0_c, .loop G54_l1_c] := by kernel_rfl
  rw [hl]; exact ⟨G54_l0_V, G54_l1_V, trivial⟩
theorem G54_ent : Ent Tryd.prog 54 := ⟨by decide, enters_of Tryd.func54 (by kernel_rfl) rfl⟩
theorem G54_hev : ∀ x, fnR Tryd.prog G54_C [G54_l0_L, G54_l1_L] Tryd.f54 (bodyOf Tryd.f54) (encs [.dat T27, .dat (.int .i64), .dat (.int .i64), .dat (.int .i64)] x) ⟨[], [], 0⟩ (frzV (.dat T33)) = G54 x.1 x.2.1 x.2.2.1 x.2.2.2.1 := by
  intro x; kernel_rfl
theorem G54_valid : G54_E.Valid Tryd.prog :=
  pureE_valid (by kernel_rfl) (by kernel_rfl) G54_ent (frzV_lcall mixed Tryd.func54 rfl G54_ent G54_CV G54_LV (by kernel_rfl) (by kernel_rfl) G54_hev)
noncomputable def G21_C : CalT := tabC [G51_E, G52_E, G53_E, G54_E]
theorem G21_CV : CV Tryd.prog G21_C := tabC_valid (l := _) ⟨G51_valid, G52_valid, G53_valid, G54_valid, trivial⟩
noncomputable def G21 (a0 : E27) (a1 : Int) (a2 : Int) (a3 : Int) : Option (E33 × (Int × Unit)) :=
  (Option.bind (G51 a0) fun r1 =>
  (bif (!r1) then
    some (([], ([], ([], ()))), (2, ()))
    else
    (Option.bind (G52 a0 a1) fun r2 =>
      (bif (!r2) then
        some (([], ([], ([], ()))), (2, ()))
        else
        (Option.bind (G53 a2 0 (IntKind.wrap .i64 ((List.length a0.2.2.2.2.2.2.1 : Int) - 1))) fun r3 =>
          (bif (!r3) then
            some (([], ([], ([], ()))), (2, ()))
            else
            (Option.bind (G53 a3 0 (IntKind.wrap .i64 ((List.length a0.2.2.2.2.2.2.2.1 : Int) - 1))) fun r4 =>
              (bif (!r4) then
                some (([], ([], ([], ()))), (2, ()))
                else
                (Option.bind (G54 a0 a1 a2 a3) fun r5 =>
                  some (r5, (0, ())))))))))))
noncomputable def G21_E : CEnt := pureE 21 [.dat T27, .dat (.int .i64), .dat (.int .i64), .dat (.int .i64)] (.tup (.cons (.dat T33) (.cons (.dat (.int .i64)) (.nil)))) fun x => G21 x.1 x.2.1 x.2.2.1 x.2.2.2.1
theorem G21_LV : LV 0 Tryd.prog false (loopsOf (bodyOf Tryd.f21)) [] := by unfold LV; cases loopsOf (bodyOf Tryd.f21) <;> trivial
theorem G21_ent : Ent Tryd.prog 21 := ⟨by decide, enters_of Tryd.func21 (by kernel_rfl) rfl⟩
theorem G21_hev : ∀ x, fnR Tryd.prog G21_C [] Tryd.f21 (bodyOf Tryd.f21) (encs [.dat T27, .dat (.int .i64), .dat (.int .i64), .dat (.int .i64)] x) ⟨[], [], 0⟩ (frzF (.tup (.cons (.dat T33) (.cons (.dat (.int .i64)) (.nil))))) = G21 x.1 x.2.1 x.2.2.1 x.2.2.2.1 := by
  intro x; kernel_rfl
theorem G21_valid : G21_E.Valid Tryd.prog :=
  pureE_valid (by kernel_rfl) (by kernel_rfl) G21_ent (frz_lcall mixed Tryd.func21 rfl G21_ent G21_CV G21_LV (by kernel_rfl) (by kernel_rfl) G21_hev)
noncomputable def G55_C : CalT := tabC [G54_E]
theorem G55_CV : CV Tryd.prog G55_C := tabC_valid (l := _) ⟨G54_valid, trivial⟩
noncomputable def G55_l0_c : Code := loopAt (bodyOf Tryd.f55) 0
noncomputable def G55_l1_c : Code := loopAt G55_l0_c 0
noncomputable def G55_l2_c : Code := loopAt G55_l1_c 0
noncomputable def G55_l3_c : Code := loopAt G55_l2_c 0
abbrev PA47 : PTy := (.cons (.dat (.int .i64)) (.cons (.dat (.int .i64)) (.cons (.dat (.int .i64)) (.cons (.dat (.int .i64)) (.nil)))))
noncomputable def G55_l3_S : SPat := ⟨[.any, .dat (.int .i64), .fix (.bptr 0 []), .any, .fix (.bptr 1 []), .dat (.int .i64), .dat (.int .i64), .dat (.int .i64), .fix (.bptr 2 []), .any, .any, .any, .dat (.int .i64), .dat (.int .i64), .any, .any, .any, .any, .dat (.int .i64), .dat (.int .i64), .any, .any, .any, .any, .any, .any, .any, .dat (.list (.arr 3 (.int .i64))), .dat (.int .i64), .dat (.int .i64), .any, .any, .any, .any, .dat (.int .i64), .any, .any, .any, .any, .any, .any, .any, .any, .any, .any, .any, .any, .any, .any, .any, .any], [.dat T27, .cons (.dat .bool) PA47, .dat (.arr 3 (.int .i64))], 0⟩
abbrev TY48 : Type := ((Int × (Int × (Int × (Int × (Int × (Int × (Int × (Int × ((List (List Int)) × (Int × (Int × (Int × Unit)))))))))))) × (E27 × ((Bool × (Int × (Int × (Int × (Int × Unit))))) × ((List Int) × Unit))))
abbrev TY49 : Type := (Nat × ((Int × (Int × (Int × (Int × (Int × (Int × (Int × (Int × ((List (List Int)) × (Int × (Int × (Int × Unit)))))))))))) × (E27 × ((Bool × (Int × (Int × (Int × (Int × Unit))))) × ((List Int) × Unit)))))
noncomputable def G55_l3_step (s : TY48) : Option TY49 :=
  (bif (decide (s.1.2.2.2.2.2.2.2.2.2.2.2.1 < 3)) then
  (bif (decide (0 ≤ s.1.2.2.2.2.2.2.2.2.2.2.2.1) && decide (s.1.2.2.2.2.2.2.2.2.2.2.2.1 < (3 : Int))) then
    (bif (decide ((List.getD s.2.2.2.1 (Int.toNat s.1.2.2.2.2.2.2.2.2.2.2.2.1) 0) > 0)) then
      some (1, ((s.1.1, (s.1.2.1, (s.1.2.2.1, (s.1.2.2.2.1, (s.1.2.2.2.2.1, (s.1.2.2.2.2.2.1, (s.1.2.2.2.2.2.2.1, (s.1.2.2.2.2.2.2.2.1, (s.1.2.2.2.2.2.2.2.2.1, (s.1.2.2.2.2.2.2.2.2.2.1, (s.1.2.2.2.2.2.2.2.2.2.2.1, (s.1.2.2.2.2.2.2.2.2.2.2.2.1, ())))))))))))), (s.2.1, ((true, (s.1.2.1, (s.1.2.2.1, (s.1.2.2.2.1, (s.1.2.2.2.2.2.2.2.2.2.2.2.1, ()))))), (s.2.2.2.1, ())))))
      else
      some (0, ((s.1.1, (s.1.2.1, (s.1.2.2.1, (s.1.2.2.2.1, (s.1.2.2.2.2.1, (s.1.2.2.2.2.2.1, (s.1.2.2.2.2.2.2.1, (s.1.2.2.2.2.2.2.2.1, (s.1.2.2.2.2.2.2.2.2.1, (s.1.2.2.2.2.2.2.2.2.2.1, (s.1.2.2.2.2.2.2.2.2.2.2.1, ((IntKind.wrap .i64 (s.1.2.2.2.2.2.2.2.2.2.2.2.1 + 1)), ())))))))))))), (s.2.1, (s.2.2.1, (s.2.2.2.1, ()))))))
    else
    none)
  else
  some (2, ((s.1.1, (s.1.2.1, (s.1.2.2.1, (s.1.2.2.2.1, (s.1.2.2.2.2.1, (s.1.2.2.2.2.2.1, (s.1.2.2.2.2.2.2.1, (s.1.2.2.2.2.2.2.2.1, (s.1.2.2.2.2.2.2.2.2.1, (s.1.2.2.2.2.2.2.2.2.2.1, (s.1.2.2.2.2.2.2.2.2.2.2.1, (s.1.2.2.2.2.2.2.2.2.2.2.2.1, ())))))))))))), (s.2.1, (s.2.2.1, (s.2.2.2.1, ()))))))
noncomputable def G55_l3_fuel (s : TY48) : Nat := Int.toNat (3 - s.1.2.2.2.2.2.2.2.2.2.2.2.1) + 1
noncomputable def G55_l3_run (s : TY48) : Option TY49 := iter G55_l3_step (G55_l3_fuel s) s
noncomputable def G55_l3_L : LoopT := loopT G55_l3_S [.ret, .exit 6] G55_l3_run
noncomputable def G55_l2_S : SPat := ⟨[.any, .dat (.int .i64), .fix (.bptr 0 []), .any, .fix (.bptr 1 []), .dat (.int .i64), .dat (.int .i64), .any, .any, .any, .any, .any, .dat (.int .i64), .dat (.int .i64), .any, .any, .any, .any, .dat (.int .i64), .dat (.int .i64), .any, .any, .any, .any, .any, .any, .any, .dat (.list (.arr 3 (.int .i64))), .dat (.int .i64), .dat (.int .i64), .any, .any, .any, .any, .any, .any, .any, .any, .any, .any, .any, .any, .any, .any, .any, .any, .any, .any, .any, .any, .any], [.dat T27, .cons (.dat .bool) PA47], 0⟩
abbrev TY50 : Type := ((Int × (Int × (Int × (Int × (Int × (Int × (Int × ((List (List Int)) × (Int × (Int × Unit)))))))))) × (E27 × ((Bool × (Int × (Int × (Int × (Int × Unit))))) × Unit)))
abbrev TY51 : Type := (Nat × ((Int × (Int × (Int × (Int × (Int × (Int × (Int × ((List (List Int)) × (Int × (Int × Unit)))))))))) × (E27 × ((Bool × (Int × (Int × (Int × (Int × Unit))))) × Unit))))
noncomputable def G55_l2_step (s : TY50) : Option TY51 :=
  (bif (decide (s.1.2.2.2.2.2.2.2.2.2.1 < s.1.2.2.2.2.2.2.2.2.1)) then
  (bif (decide (0 ≤ s.1.2.2.2.2.2.2.2.2.2.1) && decide (s.1.2.2.2.2.2.2.2.2.2.1 < (List.length s.1.2.2.2.2.2.2.2.1 : Int))) then
    (Option.bind (G55_l3_run ((s.1.1, (s.1.2.1, (s.1.2.2.1, (s.1.2.2.2.2.2.2.2.2.2.1, (s.1.2.2.2.1, (s.1.2.2.2.2.1, (s.1.2.2.2.2.2.1, (s.1.2.2.2.2.2.2.1, (s.1.2.2.2.2.2.2.2.1, (s.1.2.2.2.2.2.2.2.2.1, (s.1.2.2.2.2.2.2.2.2.2.1, (0, ())))))))))))), (s.2.1, (s.2.2.1, ((List.getD s.1.2.2.2.2.2.2.2.1 (Int.toNat s.1.2.2.2.2.2.2.2.2.2.1) (List.replicate 3 0)), ()))))) fun q2 =>
      (natK q2.1
        (some (1, ((q2.2.1.1, (q2.2.1.2.1, (q2.2.1.2.2.1, (q2.2.1.2.2.2.2.1, (q2.2.1.2.2.2.2.2.1, (q2.2.1.2.2.2.2.2.2.1, (q2.2.1.2.2.2.2.2.2.2.1, (q2.2.1.2.2.2.2.2.2.2.2.1, (q2.2.1.2.2.2.2.2.2.2.2.2.1, (q2.2.1.2.2.2.2.2.2.2.2.2.2.1, ())))))))))), (q2.2.2.1, (q2.2.2.2.1, ())))))
        (fun _ => some (0, ((q2.2.1.1, (q2.2.1.2.1, (q2.2.1.2.2.1, (q2.2.1.2.2.2.2.1, (q2.2.1.2.2.2.2.2.1, (q2.2.1.2.2.2.2.2.2.1, (q2.2.1.2.2.2.2.2.2.2.1, (q2.2.1.2.2.2.2.2.2.2.2.1, (q2.2.1.2.2.2.2.2.2.2.2.2.1, ((IntKind.wrap .i64 (q2.2.1.2.2.2.2.2.2.2.2.2.2.1 + 1)), ())))))))))), (q2.2.2.1, (q2.2.2.2.1, ())))))))
    else
    none)
  else
  some (2, ((s.1.1, (s.1.2.1, (s.1.2.2.1, (s.1.2.2.2.1, (s.1.2.2.2.2.1, (s.1.2.2.2.2.2.1, (s.1.2.2.2.2.2.2.1, (s.1.2.2.2.2.2.2.2.1, (s.1.2.2.2.2.2.2.2.2.1, (s.1.2.2.2.2.2.2.2.2.2.1, ())))))))))), (s.2.1, (s.2.2.1, ())))))
noncomputable def G55_l2_fuel (s : TY50) : Nat := Int.toNat (s.1.2.2.2.2.2.2.2.2.1 - s.1.2.2.2.2.2.2.2.2.2.1) + 1
noncomputable def G55_l2_run (s : TY50) : Option TY51 := iter G55_l2_step (G55_l2_fuel s) s
noncomputable def G55_l2_L : LoopT := loopT G55_l2_S [.ret, .exit 4] G55_l2_run
noncomputable def G55_l1_S : SPat := ⟨[.any, .dat (.int .i64), .fix (.bptr 0 []), .any, .fix (.bptr 1 []), .dat (.int .i64), .any, .any, .any, .any, .any, .any, .dat (.int .i64), .dat (.int .i64), .any, .any, .any, .any, .dat (.int .i64), .dat (.int .i64), .any, .any, .any, .any, .any, .any, .any, .any, .any, .any, .any, .any, .any, .any, .any, .any, .any, .any, .any, .any, .any, .any, .any, .any, .any, .any, .any, .any, .any, .any, .any], [.dat T27, .cons (.dat .bool) PA47], 0⟩
abbrev TY52 : Type := ((Int × (Int × (Int × (Int × (Int × (Int × Unit)))))) × (E27 × ((Bool × (Int × (Int × (Int × (Int × Unit))))) × Unit)))
abbrev TY53 : Type := (Nat × ((Int × (Int × (Int × (Int × (Int × (Int × Unit)))))) × (E27 × ((Bool × (Int × (Int × (Int × (Int × Unit))))) × Unit))))
noncomputable def G55_l1_step (s : TY52) : Option TY53 :=
  (bif (decide (s.1.2.2.2.2.2.1 < s.1.2.2.2.2.1)) then
  (Option.bind (G54 s.2.1 s.1.1 s.1.2.1 s.1.2.2.2.2.2.1) fun r1 =>
    (Option.bind (G55_l2_run ((s.1.1, (s.1.2.1, (s.1.2.2.2.2.2.1, (s.1.2.2.1, (s.1.2.2.2.1, (s.1.2.2.2.2.1, (s.1.2.2.2.2.2.1, (r1.2.2.1, ((List.length r1.2.2.1 : Int), (0, ())))))))))), (s.2.1, (s.2.2.1, ())))) fun q3 =>
      (natK q3.1
        (some (1, ((q3.2.1.1, (q3.2.1.2.1, (q3.2.1.2.2.2.1, (q3.2.1.2.2.2.2.1, (q3.2.1.2.2.2.2.2.1, (q3.2.1.2.2.2.2.2.2.1, ())))))), (q3.2.2.1, (q3.2.2.2.1, ())))))
        (fun _ => some (0, ((q3.2.1.1, (q3.2.1.2.1, (q3.2.1.2.2.2.1, (q3.2.1.2.2.2.2.1, (q3.2.1.2.2.2.2.2.1, ((IntKind.wrap .i64 (q3.2.1.2.2.2.2.2.2.1 + 1)), ())))))), (q3.2.2.1, (q3.2.2.2.1, ()))))))))
  else
  some (2, ((s.1.1, (s.1.2.1, (s.1.2.2.1, (s.1.2.2.2.1, (s.1.2.2.2.2.1, (s.1.2.2.2.2.2.1, ())))))), (s.2.1, (s.2.2.1, ())))))
noncomputable def G55_l1_fuel (s : TY52) : Nat := Int.toNat (s.1.2.2.2.2.1 - s.1.2.2.2.2.2.1) + 1
noncomputable def G55_l1_run (s : TY52) : Option TY53 := iter G55_l1_step (G55_l1_fuel s) s
noncomputable def G55_l1_L : LoopT := loopT G55_l1_S [.ret, .exit 2] G55_l1_run
noncomputable def G55_l0_S : SPat := ⟨[.any, .dat (.int .i64), .fix (.bptr 0 []), .any, .fix (.bptr 1 []), .any, .any, .any, .any, .any, .any, .any, .dat (.int .i64), .dat (.int .i64), .any, .any, .any, .any, .any, .any, .any, .any, .any, .any, .any, .any, .any, .any, .any, .any, .any, .any, .any, .any, .any, .any, .any, .any, .any, .any, .any, .any, .any, .any, .any, .any, .any, .any, .any, .any, .any], [.dat T27, .cons (.dat .bool) PA47], 0⟩
abbrev TY54 : Type := ((Int × (Int × (Int × Unit))) × (E27 × ((Bool × (Int × (Int × (Int × (Int × Unit))))) × Unit)))
abbrev TY55 : Type := (Nat × ((Int × (Int × (Int × Unit))) × (E27 × ((Bool × (Int × (Int × (Int × (Int × Unit))))) × Unit))))
noncomputable def G55_l0_step (s : TY54) : Option TY55 :=
  (bif (decide (s.1.2.2.1 < s.1.2.1)) then
  (Option.bind (G55_l1_run ((s.1.1, (s.1.2.2.1, (s.1.2.1, (s.1.2.2.1, ((List.length s.2.1.2.2.2.2.2.2.2.1 : Int), (0, ())))))), (s.2.1, (s.2.2.1, ())))) fun q4 =>
    (natK q4.1
      (some (1, ((q4.2.1.1, (q4.2.1.2.2.1, (q4.2.1.2.2.2.1, ()))), (q4.2.2.1, (q4.2.2.2.1, ())))))
      (fun _ => some (0, ((q4.2.1.1, (q4.2.1.2.2.1, ((IntKind.wrap .i64 (q4.2.1.2.2.2.1 + 1)), ()))), (q4.2.2.1, (q4.2.2.2.1, ())))))))
  else
  some (2, ((s.1.1, (s.1.2.1, (s.1.2.2.1, ()))), (s.2.1, (s.2.2.1, ())))))
noncomputable def G55_l0_fuel (s : TY54) : Nat := Int.toNat (s.1.2.1 - s.1.2.2.1) + 1
noncomputable def G55_l0_run (s : TY54) : Option TY55 := iter G55_l0_step (G55_l0_fuel s) s
noncomputable def G55_l0_L : LoopT := loopT G55_l0_S [.ret, .exit 0] G55_l0_run
noncomputable def G55 (a0 : E27) (a1 : Int) : Option E44 :=
  (Option.bind (G55_l0_run ((a1, ((List.length a0.2.2.2.2.2.2.1 : Int), (0, ()))), (a0, ((false, (0, (0, (0, (0, ()))))), ())))) fun q5 =>
  (natK q5.1
    (some q5.2.2.2.1)
    (fun _ => some (false, (0, (0, (0, (0, ()))))))))
noncomputable def G55_E : CEnt := pureE 55 [.dat T27, .dat (.int .i64)] (.dat T44) fun x => G55 x.1 x.2.1
theorem G55_l3_V : LValid 0 Tryd.prog (.loop G55_l3_c) G55_l3_L false := by
  exact loopT_valid (fuel := G55_l3_fuel) mixed G55_CV (lvNil _) (by kernel_rfl) (by decide) rfl (by intro s; kernel_rfl) (fun s r h => h)
theorem G55_l2_V : LValid 0 Tryd.prog (.loop G55_l2_c) G55_l2_L false := by
  have hb : ∀ s, codeR Tryd.prog G55_C G55_l2_c [G55_l3_L] (G55_l2_S.encE s) (G55_l2_S.encB s) (kst G55_l2_S [.ret, .exit 4]) = G55_l2_step s := by
    intro s; kernel_rfl
  have hl : loopsOf G55_l2_c = [.loop G55_l3_c] := by kernel_rfl
  have hL : LV 0 Tryd.prog false (loopsOf G55_l2_c) [G55_l3_L] := by rw [hl]; exact ⟨G55_l3_V, trivial⟩
  exact loopT_valid (fuel := G55_l2_fuel) mixed G55_CV hL (by kernel_rfl) (by decide) rfl hb (fun s r h => h)
theorem G55_l1_V : LValid 0 Tryd.prog (.loop G55_l1_c) G55_l1_L false := by
  have hb : ∀ s, codeR Tryd.prog G55_C G55_l1_c [G55_l2_L] (G55_l1_S.encE s) (G55_l1_S.encB s) (kst G55_l1_S [.ret, .exit 2]) = G55_l1_step s := by
    intro s; kernel_rfl
  have hl : loopsOf G55_l1_c = [.loop G55_l2_c] := by kernel_rfl
  have hL : LV 0 Tryd.prog false (loopsOf G55_l1_c) [G55_l2_L] := by rw [hl]; exact ⟨G55_l2_V, trivial⟩
  exact loopT_valid (fuel := G55_l1_fuel) mixed G55_CV hL (by kernel_rfl) (by decide) rfl hb (fun s r h => h)
theorem G55_l0_V : LValid 0 Tryd.prog (.loop G55_l0_c) G55_l0_L false := by
  have hb : ∀ s, codeR Tryd.prog G55_C G55_l0_c [G55_l1_L] (G55_l0_S.encE s) (G55_l0_S.encB s) (kst G55_l0_S [.ret, .exit 0]) = G55_l0_step s := by
    intro s; kernel_rfl
  have hl : loopsOf G55_l0_c = [.loop G55_l1_c] := by kernel_rfl
  have hL : LV 0 Tryd.prog false (loopsOf G55_l0_c) [G55_l1_L] := by rw [hl]; exact ⟨G55_l1_V, trivial⟩
  exact loopT_valid (fuel := G55_l0_fuel) mixed G55_CV hL (by kernel_rfl) (by decide) rfl hb (fun s r h => h)
theorem G55_LV : LV 0 Tryd.prog false (loopsOf (bodyOf Tryd.f55)) [G55_l0_L] := by
  have hl : loopsOf (bodyOf Tryd.f55) = [.loop G55_l0_c] := by kernel_rfl
  rw [hl]; exact ⟨G55_l0_V, trivial⟩
theorem G55_ent : Ent Tryd.prog 55 := ⟨by decide, enters_of Tryd.func55 (by kernel_rfl) rfl⟩
theorem G55_hev : ∀ x, fnR Tryd.prog G55_C [G55_l0_L] Tryd.f55 (bodyOf Tryd.f55) (encs [.dat T27, .dat (.int .i64)] x) ⟨[], [], 0⟩ (frzF (.dat T44)) = G55 x.1 x.2.1 := by
  intro x; kernel_rfl
theorem G55_valid : G55_E.Valid Tryd.prog :=
  pureE_valid (by kernel_rfl) (by kernel_rfl) G55_ent (frz_lcall mixed Tryd.func55 rfl G55_ent G55_CV G55_LV (by kernel_rfl) (by kernel_rfl) G55_hev)
noncomputable def G24_C : CalT := tabC [G51_E, G52_E, G55_E]
theorem G24_CV : CV Tryd.prog G24_C := tabC_valid (l := _) ⟨G51_valid, G52_valid, G55_valid, trivial⟩
noncomputable def G24 (a0 : E27) (a1 : Int) : Option (E44 × (Int × Unit)) :=
  (Option.bind (G51 a0) fun r1 =>
  (bif (!r1) then
    some ((false, (0, (0, (0, (0, ()))))), (2, ()))
    else
    (Option.bind (G52 a0 a1) fun r2 =>
      (bif (!r2) then
        some ((false, (0, (0, (0, (0, ()))))), (2, ()))
        else
        (Option.bind (G55 a0 a1) fun r3 =>
          some (r3, (0, ())))))))
noncomputable def G24_E : CEnt := pureE 24 [.dat T27, .dat (.int .i64)] (.tup (.cons (.dat T44) (.cons (.dat (.int .i64)) (.nil)))) fun x => G24 x.1 x.2.1
theorem G24_LV : LV 0 Tryd.prog false (loopsOf (bodyOf Tryd.f24)) [] := by unfold LV; cases loopsOf (bodyOf Tryd.f24) <;> trivial
theorem G24_ent : Ent Tryd.prog 24 := ⟨by decide, enters_of Tryd.func24 (by kernel_rfl) rfl⟩
theorem G24_hev : ∀ x, fnR Tryd.prog G24_C [] Tryd.f24 (bodyOf Tryd.f24) (encs [.dat T27, .dat (.int .i64)] x) ⟨[], [], 0⟩ (frzF (.tup (.cons (.dat T44) (.cons (.dat (.int .i64)) (.nil))))) = G24 x.1 x.2.1 := by
  intro x; kernel_rfl
theorem G24_valid : G24_E.Valid Tryd.prog :=
  pureE_valid (by kernel_rfl) (by kernel_rfl) G24_ent (frz_lcall mixed Tryd.func24 rfl G24_ent G24_CV G24_LV (by kernel_rfl) (by kernel_rfl) G24_hev)
noncomputable def G25_C : CalT := tabC [G51_E, G52_E, G54_E]
theorem G25_CV : CV Tryd.prog G25_C := tabC_valid (l := _) ⟨G51_valid, G52_valid, G54_valid, trivial⟩
noncomputable def G25_l0_c : Code := loopAt (bodyOf Tryd.f25) 0
noncomputable def G25_l1_c : Code := loopAt G25_l0_c 0
noncomputable def G25_l2_c : Code := loopAt G25_l1_c 0
noncomputable def G25_l3_c : Code := loopAt G25_l2_c 0
noncomputable def G25_l3_S : SPat := ⟨[.any, .dat (.int .i64), .fix (.bptr 0 []), .any, .any, .any, .any, .dat (.int .i64), .dat (.int .i64), .dat .bool, .dat (.int .i64), .any, .dat (.int .i64), .fix (.bptr 1 []), .any, .any, .any, .any, .any, .any, .any, .any, .any, .any, .any, .any, .dat (.int .i64), .dat (.int .i64), .any, .any, .any, .any, .dat (.int .i64), .dat (.int .i64), .any, .any, .any, .any, .any, .any, .any, .dat (.list (.arr 3 (.int .i64))), .dat (.int .i64), .dat (.int .i64), .any, .any, .any, .any, .dat (.int .i64), .any, .any, .any, .any, .any, .any, .any, .any, .any, .any, .any, .any, .any, .any, .any, .any, .any, .any, .any, .any, .any, .any, .any, .any, .any, .any, .any, .any, .any, .any, .any, .any, .any], [.dat T27, .dat (.arr 3 (.int .i64))], 0⟩
abbrev TY56 : Type := ((Int × (Int × (Int × (Bool × (Int × (Int × (Int × (Int × (Int × (Int × ((List (List Int)) × (Int × (Int × (Int × Unit)))))))))))))) × (E27 × ((List Int) × Unit)))
abbrev TY57 : Type := (Nat × ((Int × (Int × (Int × (Bool × (Int × (Int × (Int × (Int × (Int × (Int × ((List (List Int)) × (Int × (Int × (Int × Unit)))))))))))))) × (E27 × ((List Int) × Unit))))
noncomputable def G25_l3_step (s : TY56) : Option TY57 :=
  (bif (decide (s.1.2.2.2.2.2.2.2.2.2.2.2.2.2.1 < 3)) then
  (bif (decide (0 ≤ s.1.2.2.2.2.2.2.2.2.2.2.2.2.2.1) && decide (s.1.2.2.2.2.2.2.2.2.2.2.2.2.2.1 < (3 : Int))) then
    (bif ((List.getD s.2.2.1 (Int.toNat s.1.2.2.2.2.2.2.2.2.2.2.2.2.2.1) 0) == 0) then
      some (0, ((s.1.1, (s.1.2.1, (s.1.2.2.1, (s.1.2.2.2.1, (s.1.2.2.2.2.1, (s.1.2.2.2.2.2.1, (s.1.2.2.2.2.2.2.1, (s.1.2.2.2.2.2.2.2.1, (s.1.2.2.2.2.2.2.2.2.1, (s.1.2.2.2.2.2.2.2.2.2.1, (s.1.2.2.2.2.2.2.2.2.2.2.1, (s.1.2.2.2.2.2.2.2.2.2.2.2.1, (s.1.2.2.2.2.2.2.2.2.2.2.2.2.1, ((IntKind.wrap .i64 (s.1.2.2.2.2.2.2.2.2.2.2.2.2.2.1 + 1)), ())))))))))))))), (s.2.1, (s.2.2.1, ()))))
      else
      (bif (!s.1.2.2.2.1) then
        some (1, ((s.1.1, (s.1.2.2.2.2.2.1, (s.1.2.2.2.2.2.2.2.2.2.2.2.2.2.1, (true, (s.1.2.2.2.2.1, (s.1.2.2.2.2.2.1, (s.1.2.2.2.2.2.2.1, (s.1.2.2.2.2.2.2.2.1, (s.1.2.2.2.2.2.2.2.2.1, (s.1.2.2.2.2.2.2.2.2.2.1, (s.1.2.2.2.2.2.2.2.2.2.2.1, (s.1.2.2.2.2.2.2.2.2.2.2.2.1, (s.1.2.2.2.2.2.2.2.2.2.2.2.2.1, (s.1.2.2.2.2.2.2.2.2.2.2.2.2.2.1, ())))))))))))))), (s.2.1, (s.2.2.1, ()))))
        else
        (bif (decide (s.1.2.2.2.2.2.1 < s.1.2.1)) then
          some (1, ((s.1.1, (s.1.2.2.2.2.2.1, (s.1.2.2.2.2.2.2.2.2.2.2.2.2.2.1, (true, (s.1.2.2.2.2.1, (s.1.2.2.2.2.2.1, (s.1.2.2.2.2.2.2.1, (s.1.2.2.2.2.2.2.2.1, (s.1.2.2.2.2.2.2.2.2.1, (s.1.2.2.2.2.2.2.2.2.2.1, (s.1.2.2.2.2.2.2.2.2.2.2.1, (s.1.2.2.2.2.2.2.2.2.2.2.2.1, (s.1.2.2.2.2.2.2.2.2.2.2.2.2.1, (s.1.2.2.2.2.2.2.2.2.2.2.2.2.2.1, ())))))))))))))), (s.2.1, (s.2.2.1, ()))))
          else
          (bif (s.1.2.2.2.2.2.1 == s.1.2.1) then
            (bif (decide (s.1.2.2.2.2.2.2.2.2.2.2.2.2.2.1 < s.1.2.2.1)) then
              some (1, ((s.1.1, (s.1.2.2.2.2.2.1, (s.1.2.2.2.2.2.2.2.2.2.2.2.2.2.1, (true, (s.1.2.2.2.2.1, (s.1.2.2.2.2.2.1, (s.1.2.2.2.2.2.2.1, (s.1.2.2.2.2.2.2.2.1, (s.1.2.2.2.2.2.2.2.2.1, (s.1.2.2.2.2.2.2.2.2.2.1, (s.1.2.2.2.2.2.2.2.2.2.2.1, (s.1.2.2.2.2.2.2.2.2.2.2.2.1, (s.1.2.2.2.2.2.2.2.2.2.2.2.2.1, (s.1.2.2.2.2.2.2.2.2.2.2.2.2.2.1, ())))))))))))))), (s.2.1, (s.2.2.1, ()))))
              else
              some (1, ((s.1.1, (s.1.2.1, (s.1.2.2.1, (s.1.2.2.2.1, (s.1.2.2.2.2.1, (s.1.2.2.2.2.2.1, (s.1.2.2.2.2.2.2.1, (s.1.2.2.2.2.2.2.2.1, (s.1.2.2.2.2.2.2.2.2.1, (s.1.2.2.2.2.2.2.2.2.2.1, (s.1.2.2.2.2.2.2.2.2.2.2.1, (s.1.2.2.2.2.2.2.2.2.2.2.2.1, (s.1.2.2.2.2.2.2.2.2.2.2.2.2.1, (s.1.2.2.2.2.2.2.2.2.2.2.2.2.2.1, ())))))))))))))), (s.2.1, (s.2.2.1, ())))))
            else
            some (1, ((s.1.1, (s.1.2.1, (s.1.2.2.1, (s.1.2.2.2.1, (s.1.2.2.2.2.1, (s.1.2.2.2.2.2.1, (s.1.2.2.2.2.2.2.1, (s.1.2.2.2.2.2.2.2.1, (s.1.2.2.2.2.2.2.2.2.1, (s.1.2.2.2.2.2.2.2.2.2.1, (s.1.2.2.2.2.2.2.2.2.2.2.1, (s.1.2.2.2.2.2.2.2.2.2.2.2.1, (s.1.2.2.2.2.2.2.2.2.2.2.2.2.1, (s.1.2.2.2.2.2.2.2.2.2.2.2.2.2.1, ())))))))))))))), (s.2.1, (s.2.2.1, ()))))))))
    else
    none)
  else
  some (2, ((s.1.1, (s.1.2.1, (s.1.2.2.1, (s.1.2.2.2.1, (s.1.2.2.2.2.1, (s.1.2.2.2.2.2.1, (s.1.2.2.2.2.2.2.1, (s.1.2.2.2.2.2.2.2.1, (s.1.2.2.2.2.2.2.2.2.1, (s.1.2.2.2.2.2.2.2.2.2.1, (s.1.2.2.2.2.2.2.2.2.2.2.1, (s.1.2.2.2.2.2.2.2.2.2.2.2.1, (s.1.2.2.2.2.2.2.2.2.2.2.2.2.1, (s.1.2.2.2.2.2.2.2.2.2.2.2.2.2.1, ())))))))))))))), (s.2.1, (s.2.2.1, ())))))
noncomputable def G25_l3_fuel (s : TY56) : Nat := Int.toNat (3 - s.1.2.2.2.2.2.2.2.2.2.2.2.2.2.1) + 1
noncomputable def G25_l3_run (s : TY56) : Option TY57 := iter G25_l3_step (G25_l3_fuel s) s
noncomputable def G25_l3_L : LoopT := loopT G25_l3_S [.exit 4, .exit 6] G25_l3_run
noncomputable def G25_l2_S : SPat := ⟨[.any, .dat (.int .i64), .fix (.bptr 0 []), .any, .any, .any, .any, .dat (.int .i64), .dat (.int .i64), .dat .bool, .dat (.int .i64), .any, .any, .any, .any, .any, .any, .any, .any, .any, .any, .any, .any, .any, .any, .any, .dat (.int .i64), .dat (.int .i64), .any, .any, .any, .any, .dat (.int .i64), .dat (.int .i64), .any, .any, .any, .any, .any, .any, .any, .dat (.list (.arr 3 (.int .i64))), .dat (.int .i64), .dat (.int .i64), .any, .any, .any, .any, .any, .any, .any, .any, .any, .any, .any, .any, .any, .any, .any, .any, .any, .any, .any, .any, .any, .any, .any, .any, .any, .any, .any, .any, .any, .any, .any, .any, .any, .any, .any, .any, .any, .any], [.dat T27], 0⟩
abbrev TY58 : Type := ((Int × (Int × (Int × (Bool × (Int × (Int × (Int × (Int × (Int × ((List (List Int)) × (Int × (Int × Unit)))))))))))) × (E27 × Unit))
abbrev TY59 : Type := (Nat × ((Int × (Int × (Int × (Bool × (Int × (Int × (Int × (Int × (Int × ((List (List Int)) × (Int × (Int × Unit)))))))))))) × (E27 × Unit)))
noncomputable def G25_l2_step (s : TY58) : Option TY59 :=
  (bif (decide (s.1.2.2.2.2.2.2.2.2.2.2.2.1 < s.1.2.2.2.2.2.2.2.2.2.2.1)) then
  (bif (decide (0 ≤ s.1.2.2.2.2.2.2.2.2.2.2.2.1) && decide (s.1.2.2.2.2.2.2.2.2.2.2.2.1 < (List.length s.1.2.2.2.2.2.2.2.2.2.1 : Int))) then
    (Option.bind (G25_l3_run ((s.1.1, (s.1.2.1, (s.1.2.2.1, (s.1.2.2.2.1, (s.1.2.2.2.2.1, (s.1.2.2.2.2.2.2.2.2.2.2.2.1, (s.1.2.2.2.2.2.1, (s.1.2.2.2.2.2.2.1, (s.1.2.2.2.2.2.2.2.1, (s.1.2.2.2.2.2.2.2.2.1, (s.1.2.2.2.2.2.2.2.2.2.1, (s.1.2.2.2.2.2.2.2.2.2.2.1, (s.1.2.2.2.2.2.2.2.2.2.2.2.1, (0, ())))))))))))))), (s.2.1, ((List.getD s.1.2.2.2.2.2.2.2.2.2.1 (Int.toNat s.1.2.2.2.2.2.2.2.2.2.2.2.1) (List.replicate 3 0)), ())))) fun q4 =>
      (natK q4.1
        (some (1, ((q4.2.1.1, (q4.2.1.2.1, (q4.2.1.2.2.1, (q4.2.1.2.2.2.1, (q4.2.1.2.2.2.2.1, (q4.2.1.2.2.2.2.2.2.1, (q4.2.1.2.2.2.2.2.2.2.1, (q4.2.1.2.2.2.2.2.2.2.2.1, (q4.2.1.2.2.2.2.2.2.2.2.2.1, (q4.2.1.2.2.2.2.2.2.2.2.2.2.1, (q4.2.1.2.2.2.2.2.2.2.2.2.2.2.1, (q4.2.1.2.2.2.2.2.2.2.2.2.2.2.2.1, ())))))))))))), (q4.2.2.1, ()))))
        (fun _ => some (0, ((q4.2.1.1, (q4.2.1.2.1, (q4.2.1.2.2.1, (q4.2.1.2.2.2.1, (q4.2.1.2.2.2.2.1, (q4.2.1.2.2.2.2.2.2.1, (q4.2.1.2.2.2.2.2.2.2.1, (q4.2.1.2.2.2.2.2.2.2.2.1, (q4.2.1.2.2.2.2.2.2.2.2.2.1, (q4.2.1.2.2.2.2.2.2.2.2.2.2.1, (q4.2.1.2.2.2.2.2.2.2.2.2.2.2.1, ((IntKind.wrap .i64 (q4.2.1.2.2.2.2.2.2.2.2.2.2.2.2.1 + 1)), ())))))))))))), (q4.2.2.1, ()))))))
    else
    none)
  else
  some (1, ((s.1.1, (s.1.2.1, (s.1.2.2.1, (s.1.2.2.2.1, (s.1.2.2.2.2.1, (s.1.2.2.2.2.2.1, (s.1.2.2.2.2.2.2.1, (s.1.2.2.2.2.2.2.2.1, (s.1.2.2.2.2.2.2.2.2.1, (s.1.2.2.2.2.2.2.2.2.2.1, (s.1.2.2.2.2.2.2.2.2.2.2.1, (s.1.2.2.2.2.2.2.2.2.2.2.2.1, ())))))))))))), (s.2.1, ()))))
noncomputable def G25_l2_fuel (s : TY58) : Nat := Int.toNat (s.1.2.2.2.2.2.2.2.2.2.2.1 - s.1.2.2.2.2.2.2.2.2.2.2.2.1) + 1
noncomputable def G25_l2_run (s : TY58) : Option TY59 := iter G25_l2_step (G25_l2_fuel s) s
noncomputable def G25_l2_L : LoopT := loopT G25_l2_S [.exit 4] G25_l2_run
noncomputable def G25_l1_S : SPat := ⟨[.any, .dat (.int .i64), .fix (.bptr 0 []), .any, .any, .any, .any, .dat (.int .i64), .dat (.int .i64), .dat .bool, .dat (.int .i64), .any, .any, .any, .any, .any, .any, .any, .any, .any, .any, .any, .any, .any, .any, .any, .dat (.int .i64), .dat (.int .i64), .any, .any, .any, .any, .dat (.int .i64), .dat (.int .i64), .any, .any, .any, .any, .any, .any, .any, .any, .any, .any, .any, .any, .any, .any, .any, .any, .any, .any, .any, .any, .any, .any, .any, .any, .any, .any, .any, .any, .any, .any, .any, .any, .any, .any, .any, .any, .any, .any, .any, .any, .any, .any, .any, .any, .any, .any, .any, .any], [.dat T27], 0⟩
abbrev TY60 : Type := ((Int × (Int × (Int × (Bool × (Int × (Int × (Int × (Int × (Int × Unit))))))))) × (E27 × Unit))
abbrev TY61 : Type := (Nat × ((Int × (Int × (Int × (Bool × (Int × (Int × (Int × (Int × (Int × Unit))))))))) × (E27 × Unit)))
noncomputable def G25_l1_step (s : TY60) : Option TY61 :=
  (bif (decide (s.1.2.2.2.2.2.2.2.2.1 < s.1.2.2.2.2.2.2.2.1)) then
  (Option.bind (G54 s.2.1 s.1.1 s.1.2.2.2.2.1 s.1.2.2.2.2.2.2.2.2.1) fun r3 =>
    (Option.bind (G25_l2_run ((s.1.1, (s.1.2.1, (s.1.2.2.1, (s.1.2.2.2.1, (s.1.2.2.2.2.1, (s.1.2.2.2.2.2.1, (s.1.2.2.2.2.2.2.1, (s.1.2.2.2.2.2.2.2.1, (s.1.2.2.2.2.2.2.2.2.1, (r3.2.2.1, ((List.length r3.2.2.1 : Int), (0, ())))))))))))), (s.2.1, ()))) fun q5 =>
      some (0, ((q5.2.1.1, (q5.2.1.2.1, (q5.2.1.2.2.1, (q5.2.1.2.2.2.1, (q5.2.1.2.2.2.2.1, (q5.2.1.2.2.2.2.2.1, (q5.2.1.2.2.2.2.2.2.1, (q5.2.1.2.2.2.2.2.2.2.1, ((IntKind.wrap .i64 (q5.2.1.2.2.2.2.2.2.2.2.1 + 1)), ()))))))))), (q5.2.2.1, ())))))
  else
  some (1, ((s.1.1, (s.1.2.1, (s.1.2.2.1, (s.1.2.2.2.1, (s.1.2.2.2.2.1, (s.1.2.2.2.2.2.1, (s.1.2.2.2.2.2.2.1, (s.1.2.2.2.2.2.2.2.1, (s.1.2.2.2.2.2.2.2.2.1, ()))))))))), (s.2.1, ()))))
noncomputable def G25_l1_fuel (s : TY60) : Nat := Int.toNat (s.1.2.2.2.2.2.2.2.1 - s.1.2.2.2.2.2.2.2.2.1) + 1
noncomputable def G25_l1_run (s : TY60) : Option TY61 := iter G25_l1_step (G25_l1_fuel s) s
noncomputable def G25_l1_L : LoopT := loopT G25_l1_S [.exit 2] G25_l1_run
noncomputable def G25_l0_S : SPat := ⟨[.any, .dat (.int .i64), .fix (.bptr 0 []), .any, .any, .any, .any, .dat (.int .i64), .dat (.int .i64), .dat .bool, .any, .any, .any, .any, .any, .any, .any, .any, .any, .any, .any, .any, .any, .any, .any, .any, .dat (.int .i64), .dat (.int .i64), .any, .any, .any, .any, .any, .any, .any, .any, .any, .any, .any, .any, .any, .any, .any, .any, .any, .any, .any, .any, .any, .any, .any, .any, .any, .any, .any, .any, .any, .any, .any, .any, .any, .any, .any, .any, .any, .any, .any, .any, .any, .any, .any, .any, .any, .any, .any, .any, .any, .any, .any, .any, .any, .any], [.dat T27], 0⟩
abbrev TY62 : Type := ((Int × (Int × (Int × (Bool × (Int × (Int × Unit)))))) × (E27 × Unit))
abbrev TY63 : Type := (Nat × ((Int × (Int × (Int × (Bool × (Int × (Int × Unit)))))) × (E27 × Unit)))
noncomputable def G25_l0_step (s : TY62) : Option TY63 :=
  (bif (decide (s.1.2.2.2.2.2.1 < s.1.2.2.2.2.1)) then
  (Option.bind (G25_l1_run ((s.1.1, (s.1.2.1, (s.1.2.2.1, (s.1.2.2.2.1, (s.1.2.2.2.2.2.1, (s.1.2.2.2.2.1, (s.1.2.2.2.2.2.1, ((List.length s.2.1.2.2.2.2.2.2.2.1 : Int), (0, ()))))))))), (s.2.1, ()))) fun q6 =>
    some (0, ((q6.2.1.1, (q6.2.1.2.1, (q6.2.1.2.2.1, (q6.2.1.2.2.2.1, (q6.2.1.2.2.2.2.2.1, ((IntKind.wrap .i64 (q6.2.1.2.2.2.2.2.2.1 + 1)), ())))))), (q6.2.2.1, ()))))
  else
  some (1, ((s.1.1, (s.1.2.1, (s.1.2.2.1, (s.1.2.2.2.1, (s.1.2.2.2.2.1, (s.1.2.2.2.2.2.1, ())))))), (s.2.1, ()))))
noncomputable def G25_l0_fuel (s : TY62) : Nat := Int.toNat (s.1.2.2.2.2.1 - s.1.2.2.2.2.2.1) + 1
noncomputable def G25_l0_run (s : TY62) : Option TY63 := iter G25_l0_step (G25_l0_fuel s) s
noncomputable def G25_l0_L : LoopT := loopT G25_l0_S [.exit 0] G25_l0_run
noncomputable def G25 (a0 : E27) (a1 : Int) : Option (Int × (Int × (Int × Unit))) :=
  (Option.bind (G51 a0) fun r1 =>
  (bif (!r1) then
    some (0, (0, (2, ())))
    else
    (Option.bind (G52 a0 a1) fun r2 =>
      (bif (!r2) then
        some (0, (0, (2, ())))
        else
        (Option.bind (G25_l0_run ((a1, (0, (0, (false, ((List.length a0.2.2.2.2.2.2.1 : Int), (0, ())))))), (a0, ()))) fun q7 =>
          (bif (!q7.2.1.2.2.2.1) then
            some (0, (0, (5, ())))
            else
            some (q7.2.1.2.1, (q7.2.1.2.2.1, (0, ())))))))))
noncomputable def G25_E : CEnt := pureE 25 [.dat T27, .dat (.int .i64)] (.tup (.cons (.dat (.int .i64)) (.cons (.dat (.int .i64)) (.cons (.dat (.int .i64)) (.nil))))) fun x => G25 x.1 x.2.1
theorem G25_l3_V : LValid 0 Tryd.prog (.loop G25_l3_c) G25_l3_L false := by
  exact loopT_valid (fuel := G25_l3_fuel) mixed G25_CV (lvNil _) (by kernel_rfl) (by decide) rfl (by intro s; kernel_rfl) (fun s r h => h)
theorem G25_l2_V : LValid 0 Tryd.prog (.loop G25_l2_c) G25_l2_L false := by
  have hb : ∀ s, codeR Tryd.prog G25_C G25_l2_c [G25_l3_L] (G25_l2_S.encE s) (G25_l2_S.encB s) (kst G25_l2_S [.exit 4]) = G25_l2_step s := by
    intro s; kernel_rfl
  have hl : loopsOf G25_l2_c = [.loop G25_l3_c] := by kernel_rfl
  have hL : LV 0 Tryd.prog false (loopsOf G25_l2_c) [G25_l3_L] := by rw [hl]; exact ⟨G25_l3_V, trivial⟩
  exact loopT_valid (fuel := G25_l2_fuel) mixed G25_CV hL (by kernel_rfl) (by decide) rfl hb (fun s r h => h)
theorem G25_l1_V : LValid 0 Tryd.prog (.loop G25_l1_c) G25_l1_L false := by
  have hb : ∀ s, codeR Tryd.prog G25_C G25_l1_c [G25_l2_L] (G25_l1_S.encE s) (G25_l1_S.encB s) (kst G25_l1_S [.exit 2]) = G25_l1_step s := by
    intro s; kernel_rfl
  have hl : loopsOf G25_l1_c = [.loop G25_l2_c] := by kernel_rfl
  have hL : LV 0 Tryd.prog false (loopsOf G25_l1_c) [G25_l2_L] := by rw [hl]; exact ⟨G25_l2_V, trivial⟩
  exact loopT_valid (fuel := G25_l1_fuel) mixed G25_CV hL (by kernel_rfl) (by decide) rfl hb (fun s r h => h)
theorem G25_l0_V : LValid 0 Tryd.prog (.loop G25_l0_c) G25_l0_L false := by
  have hb : ∀ s, codeR Tryd.prog G25_C G25_l0_c [G25_l1_L] (G25_l0_S.encE s) (G25_l0_S.encB s) (kst G25_l0_S [.exit 0]) = G25_l0_step s := by
    intro s; kernel_rfl
  have hl : loopsOf G25_l0_c = [.loop G25_l1_c] := by kernel_rfl
  have hL : LV 0 Tryd.prog false (loopsOf G25_l0_c) [G25_l1_L] := by rw [hl]; exact ⟨G25_l1_V, trivial⟩
  exact loopT_valid (fuel := G25_l0_fuel) mixed G25_CV hL (by kernel_rfl) (by decide) rfl hb (fun s r h => h)
theorem G25_LV : LV 0 Tryd.prog false (loopsOf (bodyOf Tryd.f25)) [G25_l0_L] := by
  have hl : loopsOf (bodyOf Tryd.f25) = [.loop G25_l0_c] := by kernel_rfl
  rw [hl]; exact ⟨G25_l0_V, trivial⟩
theorem G25_ent : Ent Tryd.prog 25 := ⟨by decide, enters_of Tryd.func25 (by kernel_rfl) rfl⟩
theorem G25_hev : ∀ x, fnR Tryd.prog G25_C [G25_l0_L] Tryd.f25 (bodyOf Tryd.f25) (encs [.dat T27, .dat (.int .i64)] x) ⟨[], [], 0⟩ (frzF (.tup (.cons (.dat (.int .i64)) (.cons (.dat (.int .i64)) (.cons (.dat (.int .i64)) (.nil)))))) = G25 x.1 x.2.1 := by
  intro x; kernel_rfl
theorem G25_valid : G25_E.Valid Tryd.prog :=
  pureE_valid (by kernel_rfl) (by kernel_rfl) G25_ent (frz_lcall mixed Tryd.func25 rfl G25_ent G25_CV G25_LV (by kernel_rfl) (by kernel_rfl) G25_hev)
noncomputable def G28_C : CalT := tabC []
theorem G28_CV : CV Tryd.prog G28_C := tabC_valid (l := _) trivial
abbrev UT50 : Type := (Unit × (Unit × (Unit × (Unit × (Unit × (Unit × (Unit × (Unit × (Unit × (Unit × (Unit × (Unit × (Unit × (Unit × (Unit × (Unit × (Unit × (Unit × (Unit × (Unit × (Unit × (Unit × (Unit × (Unit × (Unit × (Unit × (Unit × (Unit × (Unit × (Unit × (Unit × (Unit × (Unit × (Unit × (Unit × (Unit × (Unit × (Unit × (Unit × (Unit × (Unit × (Unit × (Unit × (Unit × (Unit × (Unit × (Unit × (Unit × (Unit × (Unit × Unit))))))))))))))))))))))))))))))))))))))))))))))))))
abbrev UC50 : (Unit × (Unit × (Unit × (Unit × (Unit × (Unit × (Unit × (Unit × (Unit × (Unit × (Unit × (Unit × (Unit × (Unit × (Unit × (Unit × (Unit × (Unit × (Unit × (Unit × (Unit × (Unit × (Unit × (Unit × (Unit × (Unit × (Unit × (Unit × (Unit × (Unit × (Unit × (Unit × (Unit × (Unit × (Unit × (Unit × (Unit × (Unit × (Unit × (Unit × (Unit × (Unit × (Unit × (Unit × (Unit × (Unit × (Unit × (Unit × (Unit × (Unit × Unit)))))))))))))))))))))))))))))))))))))))))))))))))) := ((), ((), ((), ((), ((), ((), ((), ((), ((), ((), ((), ((), ((), ((), ((), ((), ((), ((), ((), ((), ((), ((), ((), ((), ((), ((), ((), ((), ((), ((), ((), ((), ((), ((), ((), ((), ((), ((), ((), ((), ((), ((), ((), ((), ((), ((), ((), ((), ((), ((), ()))))))))))))))))))))))))))))))))))))))))))))))))))
noncomputable def G28 (a0 : Int) (b1 : (Nat × UT50)) (b2 : E27) (b3 : Int) (b4 : (List (Int × Int))) : Option (Bool × ((Nat × UT50) × (E27 × (Int × ((List (Int × Int)) × Unit))))) :=
  (natK b1.1
  ((bif (decide (0 ≤ a0) && decide (a0 < (List.length b2.2.2.2.2.2.1 : Int))) then
    some (true, ((0, UC50), (b2, (b3, ((putD (.int .i64) b3 (IntKind.wrap .i64 ((Option.getD (findD (.int .i64) b3 b4) 0) + (List.getD b2.2.2.2.2.2.1 (Int.toNat a0) (0, ((List.replicate 3 0), (0, ())))).2.2.1)) b4), ())))))
    else
    none))
  (fun _ => none))
abbrev AN43 : PTy := (.cons (.any) (.cons (.any) (.cons (.any) (.cons (.any) (.cons (.any) (.cons (.any) (.cons (.any) (.cons (.any) (.cons (.any) (.cons (.any) (.cons (.any) (.cons (.any) (.cons (.any) (.cons (.any) (.cons (.any) (.cons (.any) (.cons (.any) (.cons (.any) (.cons (.any) (.cons (.any) (.cons (.any) (.cons (.any) (.cons (.any) (.cons (.any) (.cons (.any) (.cons (.any) (.cons (.any) (.cons (.any) (.cons (.any) (.cons (.any) (.cons (.any) (.cons (.any) (.cons (.any) (.cons (.any) (.cons (.any) (.cons (.any) (.cons (.any) (.cons (.any) (.cons (.any) (.cons (.any) (.cons (.any) (.cons (.any) (.cons (.any) (.nil))))))))))))))))))))))))))))))))))))))))))))
abbrev G28_CS : CSpec := ⟨[.fix (.yref 0), .dat (.int .i64)], [.lp 28 0 (.cons (.any) (.cons (.fix (.bptr 1 [])) (.cons (.any) (.cons (.any) (.cons (.any) (.cons (.fix (.bptr 2 [])) (.cons (.fix (.bptr 3 [])) AN43))))))), .dat T27, .fix (.mref 4), .dat (.int .i64), .map (.int .i64) (.int .i64)], 0, [.lp 28 0 (.cons (.any) (.cons (.fix (.bptr 1 [])) (.cons (.any) (.cons (.any) (.cons (.any) (.cons (.fix (.bptr 2 [])) (.cons (.fix (.bptr 3 [])) AN43))))))), .dat T27, .fix (.mref 4), .dat (.int .i64), .map (.int .i64) (.int .i64)], 0, .dat .bool⟩
noncomputable def G28_E : CEnt := boxE YLD G28_CS fun x => G28 x.1.1 x.2.1 x.2.2.1 x.2.2.2.1 x.2.2.2.2.1
theorem G28_LV : LV 5 Tryd.prog true (loopsOf (rfBody (lcode 28 0))) [] := by unfold LV; cases loopsOf (rfBody (lcode 28 0)) <;> trivial
theorem G28_hev : ∀ x : G28_CS.In, roundR Tryd.prog G28_C [] 28 0 (encs G28_CS.A x.1) ⟨encs G28_CS.I x.2, [], G28_CS.nt⟩ (finK G28_CS) = G28 x.1.1 x.2.1 x.2.2.1 x.2.2.2.1 x.2.2.2.2.1 := by
  intro x; kernel_rfl
theorem G28_valid : G28_E.Valid Tryd.prog :=
  boxE_valid (S := G28_CS) (by kernel_rfl) (.inl rfl) (rd_lcall' (S := G28_CS) mixed G28_CV (by kernel_rfl) G28_LV ⟨_, rfl⟩ (by decide) (by kernel_rfl) (by kernel_rfl) G28_hev)
end Go.Proofs.YtcijddeommognaaDoor.Abs
