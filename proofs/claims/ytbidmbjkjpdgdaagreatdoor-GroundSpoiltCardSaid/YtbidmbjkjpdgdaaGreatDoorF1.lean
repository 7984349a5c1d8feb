import Derived.Test.YtbidmbjkjpdgdaaGreatDoorX1
set_option linter.unusedVariables false
set_option maxRecDepth 100000
namespace Go.Proofs.YtbidmbjkjpdgdaaGreatDoor.Abs
open Go.Shelf Go.Sort
abbrev T23 : DTy := (.cons (.int .i64) (.cons (.int .i64) .nil))
abbrev E23 : Type := (Int × (Int × Unit))
abbrev T48 : DTy := (.cons (.int .i64) T23)
abbrev E48 : Type := (Int × E23)
abbrev T65 : DTy := (.cons (.int .i64) (.cons T23 .nil))
abbrev E65 : Type := (Int × (E23 × Unit))
abbrev T60 : DTy := (.cons T23 (.cons T23 (.cons (.int .i64) .nil)))
abbrev E60 : Type := (E23 × (E23 × (Int × Unit)))
abbrev T52 : DTy := (.cons (.list (.int .i64)) (.cons (.list (.int .i64)) (.cons (.list (.int .i64)) (.cons (.list (.int .i64)) (.cons (.list (.int .i64)) .nil)))))
abbrev E52 : Type := ((List Int) × ((List Int) × ((List Int) × ((List Int) × ((List Int) × Unit)))))
abbrev T25 : DTy := (.cons (.list T65) (.cons T23 .nil))
abbrev E25 : Type := ((List E65) × (E23 × Unit))
abbrev T91 : DTy := (.cons T23 (.cons T23 (.cons T23 .nil)))
abbrev E91 : Type := (E23 × (E23 × (E23 × Unit)))
abbrev T88 : DTy := (.cons T25 (.cons T52 (.cons (.int .i64) (.cons (.int .i64) (.cons (.int .i64) (.cons (.int .i64) (.cons (.list (.int .i64)) (.cons (.list (.int .i64)) (.cons T48 .nil)))))))))
abbrev E88 : Type := (E25 × (E52 × (Int × (Int × (Int × (Int × ((List Int) × ((List Int) × (E48 × Unit)))))))))
noncomputable def G20_C : CalT := tabC []
theorem G20_CV : CV Tryz.prog G20_C := tabC_valid (l := _) trivial
noncomputable def G20 (a0 : Int) (a1 : Int) : Option E23 :=
  some (a0, (a1, ()))
noncomputable def G20_E : CEnt := pureE 20 [.dat (.int .i64), .dat (.int .i64)] (.dat T23) fun x => G20 x.1 x.2.1
theorem G20_LV : LV 0 Tryz.prog false (loopsOf (bodyOf Tryz.f20)) [] := by unfold LV; cases loopsOf (bodyOf Tryz.f20) <;> trivial
theorem G20_ent : Ent Tryz.prog 20 := ⟨by decide, enters_of Tryz.func20 (by kernel_rfl) rfl⟩
theorem G20_hev : ∀ x, fnR Tryz.prog G20_C [] Tryz.f20 (bodyOf Tryz.f20) (encs [.dat (.int .i64), .dat (.int .i64)] x) ⟨[], [], 0⟩ (frzF (.dat T23)) = G20 x.1 x.2.1 := by
  intro x; kernel_rfl
theorem G20_valid : G20_E.Valid Tryz.prog :=
  pureE_valid (by kernel_rfl) (by kernel_rfl) G20_ent (frz_lcall mixed Tryz.func20 rfl G20_ent G20_CV G20_LV (by kernel_rfl) (by kernel_rfl) G20_hev)
noncomputable def G14_C : CalT := tabC [G20_E]
theorem G14_CV : CV Tryz.prog G14_C := tabC_valid (l := _) ⟨G20_valid, trivial⟩
noncomputable def G14 : Option E25 :=
  (Option.bind (G20 100 120) fun r1 =>
  (Option.bind (G20 200 300) fun r2 =>
    (Option.bind (G20 0 2000) fun r3 =>
      some ([(500, (r1, ())), (1000, (r2, ()))], (r3, ())))))
noncomputable def G14_E : CEnt := pureE 14 [] (.dat T25) fun x => G14
theorem G14_LV : LV 0 Tryz.prog false (loopsOf (bodyOf Tryz.f14)) [] := by unfold LV; cases loopsOf (bodyOf Tryz.f14) <;> trivial
theorem G14_ent : Ent Tryz.prog 14 := ⟨by decide, enters_of Tryz.func14 (by kernel_rfl) rfl⟩
theorem G14_hev : ∀ x, fnR Tryz.prog G14_C [] Tryz.f14 (bodyOf Tryz.f14) (encs [] x) ⟨[], [], 0⟩ (frzF (.dat T25)) = G14 := by
  intro x; kernel_rfl
theorem G14_valid : G14_E.Valid Tryz.prog :=
  pureE_valid (by kernel_rfl) (by kernel_rfl) G14_ent (frz_lcall mixed Tryz.func14 rfl G14_ent G14_CV G14_LV (by kernel_rfl) (by kernel_rfl) G14_hev)
noncomputable def G15_C : CalT := tabC [G20_E]
theorem G15_CV : CV Tryz.prog G15_C := tabC_valid (l := _) ⟨G20_valid, trivial⟩
noncomputable def G15_l0_c : Code := loopAt (bodyOf Tryz.f15) 0
noncomputable def G15_l0_S : SPat := ⟨[.dat (.int .i64), .any, .any, .own 0 T91, .dat (.int .i64), .any, .any, .any, .any, .any, .any, .any, .any, .any, .any, .any, .any, .any], [], 1⟩
noncomputable def G15_l0_step (s : ((Int × ((List E91) × (Int × Unit))) × Unit)) : Option (Nat × ((Int × ((List E91) × (Int × Unit))) × Unit)) :=
  (bif (decide (s.1.2.2.1 < s.1.1)) then
  (Option.bind (G20 60000 70000) fun r1 =>
    (Option.bind (G20 50000 90000) fun r2 =>
      (Option.bind (G20 100 300) fun r3 =>
        (bif (decide (List.length s.1.2.1 + List.length [(r1, (r2, (r3, ())))] ≤ LIM)) then
          some (0, ((s.1.1, ((s.1.2.1 ++ [(r1, (r2, (r3, ())))]), ((IntKind.wrap .i64 (s.1.2.2.1 + 1)), ()))), ()))
          else
          none))))
  else
  some (1, ((s.1.1, (s.1.2.1, (s.1.2.2.1, ()))), ())))
noncomputable def G15_l0_fuel (s : ((Int × ((List E91) × (Int × Unit))) × Unit)) : Nat := Int.toNat (s.1.1 - s.1.2.2.1) + 1
noncomputable def G15_l0_run (s : ((Int × ((List E91) × (Int × Unit))) × Unit)) : Option (Nat × ((Int × ((List E91) × (Int × Unit))) × Unit)) := iter G15_l0_step (G15_l0_fuel s) s
noncomputable def G15_l0_L : LoopT := loopT G15_l0_S [.exit 0] G15_l0_run
noncomputable def G15 (a0 : Int) : Option (List E91) :=
  (Option.bind (G15_l0_run ((a0, ([], (0, ()))), ())) fun q4 =>
  some q4.2.1.2.1)
noncomputable def G15_E : CEnt := pureE 15 [.dat (.int .i64)] (.dat (.list T91)) fun x => G15 x.1
theorem G15_l0_V : LValid 0 Tryz.prog (.loop G15_l0_c) G15_l0_L false := by
  have hb : ∀ s, codeR Tryz.prog G15_C G15_l0_c [] (G15_l0_S.encE s) (G15_l0_S.encB s) (kst G15_l0_S [.exit 0]) = G15_l0_step s := by
    intro s; kernel_rfl
  have hL : LV 0 Tryz.prog false (loopsOf G15_l0_c) [] := by unfold LV; cases loopsOf G15_l0_c <;> trivial
  exact loopT_valid (fuel := G15_l0_fuel) mixed G15_CV hL (by kernel_rfl) (by decide) rfl hb (fun s r h => h)
theorem G15_LV : LV 0 Tryz.prog false (loopsOf (bodyOf Tryz.f15)) [G15_l0_L] := by
  have hl : loopsOf (bodyOf Tryz.f15) = [.loop G15_l0_c] := by kernel_rfl
  rw [hl]; exact ⟨G15_l0_V, trivial⟩
theorem G15_ent : Ent Tryz.prog 15 := ⟨by decide, enters_of Tryz.func15 (by kernel_rfl) rfl⟩
theorem G15_hev : ∀ x, fnR Tryz.prog G15_C [G15_l0_L] Tryz.f15 (bodyOf Tryz.f15) (encs [.dat (.int .i64)] x) ⟨[], [], 0⟩ (frzF (.dat (.list T91))) = G15 x.1 := by
  intro x; kernel_rfl
theorem G15_valid : G15_E.Valid Tryz.prog :=
  pureE_valid (by kernel_rfl) (by kernel_rfl) G15_ent (frz_lcall mixed Tryz.func15 rfl G15_ent G15_CV G15_LV (by kernel_rfl) (by kernel_rfl) G15_hev)
noncomputable def G53_C : CalT := tabC []
theorem G53_CV : CV Tryz.prog G53_C := tabC_valid (l := _) trivial
noncomputable def G53 (a0 : Int) (a1 : Int) (a2 : Int) : Option Bool :=
  (bif (decide (a0 ≥ a1)) then
  some (decide (a0 ≤ a2))
  else
  some false)
noncomputable def G53_E : CEnt := pureE 53 [.dat (.int .i64), .dat (.int .i64), .dat (.int .i64)] (.dat .bool) fun x => G53 x.1 x.2.1 x.2.2.1
theorem G53_LV : LV 0 Tryz.prog false (loopsOf (bodyOf Tryz.f53)) [] := by unfold LV; cases loopsOf (bodyOf Tryz.f53) <;> trivial
theorem G53_ent : Ent Tryz.prog 53 := ⟨by decide, enters_of Tryz.func53 (by kernel_rfl) rfl⟩
theorem G53_hev : ∀ x, fnR Tryz.prog G53_C [] Tryz.f53 (bodyOf Tryz.f53) (encs [.dat (.int .i64), .dat (.int .i64), .dat (.int .i64)] x) ⟨[], [], 0⟩ (frzF (.dat .bool)) = G53 x.1 x.2.1 x.2.2.1 := by
  intro x; kernel_rfl
theorem G53_valid : G53_E.Valid Tryz.prog :=
  pureE_valid (by kernel_rfl) (by kernel_rfl) G53_ent (frz_lcall mixed Tryz.func53 rfl G53_ent G53_CV G53_LV (by kernel_rfl) (by kernel_rfl) G53_hev)
noncomputable def G54_C : CalT := tabC []
theorem G54_CV : CV Tryz.prog G54_C := tabC_valid (l := _) trivial
noncomputable def G54 (a0 : E23) (a1 : Int) (a2 : Int) : Option Bool :=
  (bif (decide (a0.1 ≥ a1)) then
  (bif (decide (a0.1 ≤ a0.2.1)) then
    some (decide (a0.2.1 ≤ a2))
    else
    some false)
  else
  some false)
noncomputable def G54_E : CEnt := pureE 54 [.dat T23, .dat (.int .i64), .dat (.int .i64)] (.dat .bool) fun x => G54 x.1 x.2.1 x.2.2.1
theorem G54_LV : LV 0 Tryz.prog false (loopsOf (bodyOf Tryz.f54)) [] := by unfold LV; cases loopsOf (bodyOf Tryz.f54) <;> trivial
theorem G54_ent : Ent Tryz.prog 54 := ⟨by decide, enters_of Tryz.func54 (by kernel_rfl) rfl⟩
theorem G54_hev : ∀ x, fnR Tryz.prog G54_C [] Tryz.f54 (bodyOf Tryz.f54) (encs [.dat T23, .dat (.int .i64), .dat (.int .i64)] x) ⟨[], [], 0⟩ (frzF (.dat .bool)) = G54 x.1 x.2.1 x.2.2.1 := by
  intro x; kernel_rfl
theorem G54_valid : G54_E.Valid Tryz.prog :=
  pureE_valid (by kernel_rfl) (by kernel_rfl) G54_ent (frz_lcall mixed Tryz.func54 rfl G54_ent G54_CV G54_LV (by kernel_rfl) (by kernel_rfl) G54_hev)
noncomputable def G56_C : CalT := tabC [G53_E, G54_E]
theorem G56_CV : CV Tryz.prog G56_C := tabC_valid (l := _) ⟨G53_valid, G54_valid, trivial⟩
noncomputable def G56 (a0 : E65) : Option Bool :=
  (Option.bind (G53 a0.1 1 20000) fun r1 =>
  (bif (!r1) then
    some true
    else
    (Option.bind (G54 a0.2.1 1 1000) fun r2 =>
      some (!r2))))
noncomputable def G56_E : CEnt := pureE 56 [.dat T65] (.dat .bool) fun x => G56 x.1
theorem G56_LV : LV 0 Tryz.prog false (loopsOf (bodyOf Tryz.f56)) [] := by unfold LV; cases loopsOf (bodyOf Tryz.f56) <;> trivial
theorem G56_ent : Ent Tryz.prog 56 := ⟨by decide, enters_of Tryz.func56 (by kernel_rfl) rfl⟩
theorem G56_hev : ∀ x, fnR Tryz.prog G56_C [] Tryz.f56 (bodyOf Tryz.f56) (encs [.dat T65] x) ⟨[], [], 0⟩ (frzF (.dat .bool)) = G56 x.1 := by
  intro x; kernel_rfl
theorem G56_valid : G56_E.Valid Tryz.prog :=
  pureE_valid (by kernel_rfl) (by kernel_rfl) G56_ent (frz_lcall mixed Tryz.func56 rfl G56_ent G56_CV G56_LV (by kernel_rfl) (by kernel_rfl) G56_hev)
noncomputable def G72_C : CalT := tabC [G56_E]
theorem G72_CV : CV Tryz.prog G72_C := tabC_valid (l := _) ⟨G56_valid, trivial⟩
noncomputable def G72_l0_c : Code := loopAt (bodyOf Tryz.f72) 0
noncomputable def G72_l0_S : SPat := ⟨[.dat (.list T65), .fix (.func (.func 56) .nil .nil), .any, .any, .dat (.int .i64), .any, .any, .dat (.int .i64), .dat (.int .i64), .any, .any, .any, .any, .any, .any, .any, .any, .any, .any], [], 0⟩
noncomputable def G72_l0_step (s : (((List E65) × (Int × (Int × (Int × Unit)))) × Unit)) : Option (Nat × (((List E65) × (Int × (Int × (Int × Unit)))) × Unit)) :=
  (bif (decide (s.1.2.2.2.1 < s.1.2.2.1)) then
  (bif (decide (0 ≤ s.1.2.2.2.1) && decide (s.1.2.2.2.1 < (List.length s.1.1 : Int))) then
    (Option.bind (G56 (List.getD s.1.1 (Int.toNat s.1.2.2.2.1) (0, ((0, (0, ())), ())))) fun r1 =>
      (bif r1 then
        some (1, ((s.1.1, (s.1.2.2.2.1, (s.1.2.2.1, (s.1.2.2.2.1, ())))), ()))
        else
        some (0, ((s.1.1, (s.1.2.1, (s.1.2.2.1, ((IntKind.wrap .i64 (s.1.2.2.2.1 + 1)), ())))), ()))))
    else
    none)
  else
  some (2, ((s.1.1, (s.1.2.1, (s.1.2.2.1, (s.1.2.2.2.1, ())))), ())))
noncomputable def G72_l0_fuel (s : (((List E65) × (Int × (Int × (Int × Unit)))) × Unit)) : Nat := Int.toNat (s.1.2.2.1 - s.1.2.2.2.1) + 1
noncomputable def G72_l0_run (s : (((List E65) × (Int × (Int × (Int × Unit)))) × Unit)) : Option (Nat × (((List E65) × (Int × (Int × (Int × Unit)))) × Unit)) := iter G72_l0_step (G72_l0_fuel s) s
noncomputable def G72_l0_L : LoopT := loopT G72_l0_S [.ret, .exit 0] G72_l0_run
noncomputable def G72 (a0 : (List E65)) : Option Int :=
  (Option.bind (G72_l0_run ((a0, (0, ((List.length a0 : Int), (0, ())))), ())) fun q2 =>
  (natK q2.1
    (some q2.2.1.2.1)
    (fun _ => some (-1))))
noncomputable def G72_E : CEnt := pureE 72 [.dat (.list T65), .fix (.func (.func 56) .nil .nil)] (.dat (.int .i64)) fun x => G72 x.1
theorem G72_l0_V : LValid 0 Tryz.prog (.loop G72_l0_c) G72_l0_L false := by
  have hb : ∀ s, codeR Tryz.prog G72_C G72_l0_c [] (G72_l0_S.encE s) (G72_l0_S.encB s) (kst G72_l0_S [.ret, .exit 0]) = G72_l0_step s := by
    intro s; kernel_rfl
  have hL : LV 0 Tryz.prog false (loopsOf G72_l0_c) [] := by unfold LV; cases loopsOf G72_l0_c <;> trivial
  exact loopT_valid (fuel := G72_l0_fuel) mixed G72_CV hL (by kernel_rfl) (by decide) rfl hb (fun s r h => h)
theorem G72_LV : LV 0 Tryz.prog false (loopsOf (bodyOf Tryz.f72)) [G72_l0_L] := by
  have hl : loopsOf (bodyOf Tryz.f72) = [.loop G72_l0_c] := by kernel_rfl
  rw [hl]; exact ⟨G72_l0_V, trivial⟩
theorem G72_ent : Ent Tryz.prog 72 := ⟨by decide, enters_of Tryz.func72 (by kernel_rfl) rfl⟩
theorem G72_hev : ∀ x, fnR Tryz.prog G72_C [G72_l0_L] Tryz.f72 (bodyOf Tryz.f72) (encs [.dat (.list T65), .fix (.func (.func 56) .nil .nil)] x) ⟨[], [], 0⟩ (frzF (.dat (.int .i64))) = G72 x.1 := by
  intro x; kernel_rfl
theorem G72_valid : G72_E.Valid Tryz.prog :=
  pureE_valid (by kernel_rfl) (by kernel_rfl) G72_ent (frz_lcall mixed Tryz.func72 rfl G72_ent G72_CV G72_LV (by kernel_rfl) (by kernel_rfl) G72_hev)
noncomputable def G55_C : CalT := tabC [G72_E]
theorem G55_CV : CV Tryz.prog G55_C := tabC_valid (l := _) ⟨G72_valid, trivial⟩
noncomputable def G55 (a0 : (List E65)) : Option Bool :=
  (Option.bind (G72 a0) fun r1 =>
  some (decide (r1 ≥ 0)))
noncomputable def G55_E : CEnt := pureE 55 [.dat (.list T65), .fix (.func (.func 56) .nil .nil)] (.dat .bool) fun x => G55 x.1
theorem G55_LV : LV 0 Tryz.prog false (loopsOf (bodyOf Tryz.f55)) [] := by unfold LV; cases loopsOf (bodyOf Tryz.f55) <;> trivial
theorem G55_ent : Ent Tryz.prog 55 := ⟨by decide, enters_of Tryz.func55 (by kernel_rfl) rfl⟩
theorem G55_hev : ∀ x, fnR Tryz.prog G55_C [] Tryz.f55 (bodyOf Tryz.f55) (encs [.dat (.list T65), .fix (.func (.func 56) .nil .nil)] x) ⟨[], [], 0⟩ (frzF (.dat .bool)) = G55 x.1 := by
  intro x; kernel_rfl
theorem G55_valid : G55_E.Valid Tryz.prog :=
  pureE_valid (by kernel_rfl) (by kernel_rfl) G55_ent (frz_lcall mixed Tryz.func55 rfl G55_ent G55_CV G55_LV (by kernel_rfl) (by kernel_rfl) G55_hev)
noncomputable def G23_C : CalT := tabC [G53_E, G54_E, G55_E]
theorem G23_CV : CV Tryz.prog G23_C := tabC_valid (l := _) ⟨G53_valid, G54_valid, G55_valid, trivial⟩
noncomputable def G23 (a0 : E25) : Option Bool :=
  (Option.bind (G53 (List.length a0.1 : Int) 1 6) fun r1 =>
  (bif r1 then
    (Option.bind (G54 a0.2.1 0 1000000) fun r2 =>
      (bif r2 then
        (Option.bind (G55 a0.1) fun r3 =>
          some (!r3))
        else
        some false))
    else
    some false))
noncomputable def G23_E : CEnt := pureE 23 [.dat T25] (.dat .bool) fun x => G23 x.1
theorem G23_LV : LV 0 Tryz.prog false (loopsOf (bodyOf Tryz.f23)) [] := by unfold LV; cases loopsOf (bodyOf Tryz.f23) <;> trivial
theorem G23_ent : Ent Tryz.prog 23 := ⟨by decide, enters_of Tryz.func23 (by kernel_rfl) rfl⟩
theorem G23_hev : ∀ x, fnR Tryz.prog G23_C [] Tryz.f23 (bodyOf Tryz.f23) (encs [.dat T25] x) ⟨[], [], 0⟩ (frzF (.dat .bool)) = G23 x.1 := by
  intro x; kernel_rfl
theorem G23_valid : G23_E.Valid Tryz.prog :=
  pureE_valid (by kernel_rfl) (by kernel_rfl) G23_ent (frz_lcall mixed Tryz.func23 rfl G23_ent G23_CV G23_LV (by kernel_rfl) (by kernel_rfl) G23_hev)
noncomputable def G63_C : CalT := tabC [G54_E]
theorem G63_CV : CV Tryz.prog G63_C := tabC_valid (l := _) ⟨G54_valid, trivial⟩
noncomputable def G63 (a0 : E91) : Option Bool :=
  (Option.bind (G54 a0.1 0 1000000) fun r1 =>
  (bif (!r1) then
    some true
    else
    (Option.bind (G54 a0.2.1 0 1000000) fun r2 =>
      (bif (!r2) then
        some true
        else
        (Option.bind (G54 a0.2.2.1 0 1000) fun r3 =>
          some (!r3))))))
noncomputable def G63_E : CEnt := pureE 63 [.dat T91] (.dat .bool) fun x => G63 x.1
theorem G63_LV : LV 0 Tryz.prog false (loopsOf (bodyOf Tryz.f63)) [] := by unfold LV; cases loopsOf (bodyOf Tryz.f63) <;> trivial
theorem G63_ent : Ent Tryz.prog 63 := ⟨by decide, enters_of Tryz.func63 (by kernel_rfl) rfl⟩
theorem G63_hev : ∀ x, fnR Tryz.prog G63_C [] Tryz.f63 (bodyOf Tryz.f63) (encs [.dat T91] x) ⟨[], [], 0⟩ (frzF (.dat .bool)) = G63 x.1 := by
  intro x; kernel_rfl
theorem G63_valid : G63_E.Valid Tryz.prog :=
  pureE_valid (by kernel_rfl) (by kernel_rfl) G63_ent (frz_lcall mixed Tryz.func63 rfl G63_ent G63_CV G63_LV (by kernel_rfl) (by kernel_rfl) G63_hev)
noncomputable def G78_C : CalT := tabC [G63_E]
theorem G78_CV : CV Tryz.prog G78_C := tabC_valid (l := _) ⟨G63_valid, trivial⟩
noncomputable def G78_l0_c : Code := loopAt (bodyOf Tryz.f78) 0
noncomputable def G78_l0_S : SPat := ⟨[.dat (.list T91), .fix (.func (.func 63) .nil .nil), .any, .any, .dat (.int .i64), .any, .any, .dat (.int .i64), .dat (.int .i64), .any, .any, .any, .any, .any, .any, .any, .any, .any, .any], [], 0⟩
noncomputable def G78_l0_step (s : (((List E91) × (Int × (Int × (Int × Unit)))) × Unit)) : Option (Nat × (((List E91) × (Int × (Int × (Int × Unit)))) × Unit)) :=
  (bif (decide (s.1.2.2.2.1 < s.1.2.2.1)) then
  (bif (decide (0 ≤ s.1.2.2.2.1) && decide (s.1.2.2.2.1 < (List.length s.1.1 : Int))) then
    (Option.bind (G63 (List.getD s.1.1 (Int.toNat s.1.2.2.2.1) ((0, (0, ())), ((0, (0, ())), ((0, (0, ())), ()))))) fun r1 =>
      (bif r1 then
        some (1, ((s.1.1, (s.1.2.2.2.1, (s.1.2.2.1, (s.1.2.2.2.1, ())))), ()))
        else
        some (0, ((s.1.1, (s.1.2.1, (s.1.2.2.1, ((IntKind.wrap .i64 (s.1.2.2.2.1 + 1)), ())))), ()))))
    else
    none)
  else
  some (2, ((s.1.1, (s.1.2.1, (s.1.2.2.1, (s.1.2.2.2.1, ())))), ())))
noncomputable def G78_l0_fuel (s : (((List E91) × (Int × (Int × (Int × Unit)))) × Unit)) : Nat := Int.toNat (s.1.2.2.1 - s.1.2.2.2.1) + 1
noncomputable def G78_l0_run (s : (((List E91) × (Int × (Int × (Int × Unit)))) × Unit)) : Option (Nat × (((List E91) × (Int × (Int × (Int × Unit)))) × Unit)) := iter G78_l0_step (G78_l0_fuel s) s
noncomputable def G78_l0_L : LoopT := loopT G78_l0_S [.ret, .exit 0] G78_l0_run
noncomputable def G78 (a0 : (List E91)) : Option Int :=
  (Option.bind (G78_l0_run ((a0, (0, ((List.length a0 : Int), (0, ())))), ())) fun q2 =>
  (natK q2.1
    (some q2.2.1.2.1)
    (fun _ => some (-1))))
noncomputable def G78_E : CEnt := pureE 78 [.dat (.list T91), .fix (.func (.func 63) .nil .nil)] (.dat (.int .i64)) fun x => G78 x.1
theorem G78_l0_V : LValid 0 Tryz.prog (.loop G78_l0_c) G78_l0_L false := by
  have hb : ∀ s, codeR Tryz.prog G78_C G78_l0_c [] (G78_l0_S.encE s) (G78_l0_S.encB s) (kst G78_l0_S [.ret, .exit 0]) = G78_l0_step s := by
    intro s; kernel_rfl
  have hL : LV 0 Tryz.prog false (loopsOf G78_l0_c) [] := by unfold LV; cases loopsOf G78_l0_c <;> trivial
  exact loopT_valid (fuel := G78_l0_fuel) mixed G78_CV hL (by kernel_rfl) (by decide) rfl hb (fun s r h => h)
theorem G78_LV : LV 0 Tryz.prog false (loopsOf (bodyOf Tryz.f78)) [G78_l0_L] := by
  have hl : loopsOf (bodyOf Tryz.f78) = [.loop G78_l0_c] := by kernel_rfl
  rw [hl]; exact ⟨G78_l0_V, trivial⟩
theorem G78_ent : Ent Tryz.prog 78 := ⟨by decide, enters_of Tryz.func78 (by kernel_rfl) rfl⟩
theorem G78_hev : ∀ x, fnR Tryz.prog G78_C [G78_l0_L] Tryz.f78 (bodyOf Tryz.f78) (encs [.dat (.list T91), .fix (.func (.func 63) .nil .nil)] x) ⟨[], [], 0⟩ (frzF (.dat (.int .i64))) = G78 x.1 := by
  intro x; kernel_rfl
theorem G78_valid : G78_E.Valid Tryz.prog :=
  pureE_valid (by kernel_rfl) (by kernel_rfl) G78_ent (frz_lcall mixed Tryz.func78 rfl G78_ent G78_CV G78_LV (by kernel_rfl) (by kernel_rfl) G78_hev)
noncomputable def G62_C : CalT := tabC [G78_E]
theorem G62_CV : CV Tryz.prog G62_C := tabC_valid (l := _) ⟨G78_valid, trivial⟩
noncomputable def G62 (a0 : (List E91)) : Option Bool :=
  (Option.bind (G78 a0) fun r1 =>
  some (decide (r1 ≥ 0)))
noncomputable def G62_E : CEnt := pureE 62 [.dat (.list T91), .fix (.func (.func 63) .nil .nil)] (.dat .bool) fun x => G62 x.1
theorem G62_LV : LV 0 Tryz.prog false (loopsOf (bodyOf Tryz.f62)) [] := by unfold LV; cases loopsOf (bodyOf Tryz.f62) <;> trivial
theorem G62_ent : Ent Tryz.prog 62 := ⟨by decide, enters_of Tryz.func62 (by kernel_rfl) rfl⟩
theorem G62_hev : ∀ x, fnR Tryz.prog G62_C [] Tryz.f62 (bodyOf Tryz.f62) (encs [.dat (.list T91), .fix (.func (.func 63) .nil .nil)] x) ⟨[], [], 0⟩ (frzF (.dat .bool)) = G62 x.1 := by
  intro x; kernel_rfl
theorem G62_valid : G62_E.Valid Tryz.prog :=
  pureE_valid (by kernel_rfl) (by kernel_rfl) G62_ent (frz_lcall mixed Tryz.func62 rfl G62_ent G62_CV G62_LV (by kernel_rfl) (by kernel_rfl) G62_hev)
noncomputable def G37_C : CalT := tabC [G23_E, G62_E]
theorem G37_CV : CV Tryz.prog G37_C := tabC_valid (l := _) ⟨G23_valid, G62_valid, trivial⟩
noncomputable def G37 (a0 : E25) (a1 : (List E91)) (a2 : Bool) : Option Int :=
  (bif (decide ((List.length a1 : Int) > 12)) then
  some 3
  else
  (bif (!a2) then
    some 2
    else
    (Option.bind (G23 a0) fun r1 =>
      (bif (!r1) then
        some 2
        else
        (Option.bind (G62 a1) fun r2 =>
          (bif r2 then
            some 2
            else
            some 0))))))
noncomputable def G37_E : CEnt := pureE 37 [.dat T25, .dat (.list T91), .dat .bool] (.dat (.int .i64)) fun x => G37 x.1 x.2.1 x.2.2.1
theorem G37_LV : LV 0 Tryz.prog false (loopsOf (bodyOf Tryz.f37)) [] := by unfold LV; cases loopsOf (bodyOf Tryz.f37) <;> trivial
theorem G37_ent : Ent Tryz.prog 37 := ⟨by decide, enters_of Tryz.func37 (by kernel_rfl) rfl⟩
theorem G37_hev : ∀ x, fnR Tryz.prog G37_C [] Tryz.f37 (bodyOf Tryz.f37) (encs [.dat T25, .dat (.list T91), .dat .bool] x) ⟨[], [], 0⟩ (frzF (.dat (.int .i64))) = G37 x.1 x.2.1 x.2.2.1 := by
  intro x; kernel_rfl
theorem G37_valid : G37_E.Valid Tryz.prog :=
  pureE_valid (by kernel_rfl) (by kernel_rfl) G37_ent (frz_lcall mixed Tryz.func37 rfl G37_ent G37_CV G37_LV (by kernel_rfl) (by kernel_rfl) G37_hev)
noncomputable def G66_C : CalT := tabC []
theorem G66_CV : CV Tryz.prog G66_C := tabC_valid (l := _) trivial
noncomputable def G66 (a0 : E23) : Option Int :=
  some a0.2.1
noncomputable def G66_E : CEnt := pureE 66 [.dat T23] (.dat (.int .i64)) fun x => G66 x.1
theorem G66_LV : LV 0 Tryz.prog false (loopsOf (bodyOf Tryz.f66)) [] := by unfold LV; cases loopsOf (bodyOf Tryz.f66) <;> trivial
theorem G66_ent : Ent Tryz.prog 66 := ⟨by decide, enters_of Tryz.func66 (by kernel_rfl) rfl⟩
theorem G66_hev : ∀ x, fnR Tryz.prog G66_C [] Tryz.f66 (bodyOf Tryz.f66) (encs [.dat T23] x) ⟨[], [], 0⟩ (frzF (.dat (.int .i64))) = G66 x.1 := by
  intro x; kernel_rfl
theorem G66_valid : G66_E.Valid Tryz.prog :=
  pureE_valid (by kernel_rfl) (by kernel_rfl) G66_ent (frz_lcall mixed Tryz.func66 rfl G66_ent G66_CV G66_LV (by kernel_rfl) (by kernel_rfl) G66_hev)
noncomputable def G80_C : CalT := tabC [G66_E]
theorem G80_CV : CV Tryz.prog G80_C := tabC_valid (l := _) ⟨G66_valid, trivial⟩
noncomputable def G80 (a0 : E65) : Option (Int × Unit) :=
  (Option.bind (G66 a0.2.1) fun r1 =>
  some (r1, ()))
abbrev G80_CS : CSpec := ⟨[.dat T65, .fix (.bptr 0 [])], [.fix (.func (.func 66) .nil .nil)], 0, [.fix (.func (.func 66) .nil .nil)], 0, .dat (.int .i64)⟩
noncomputable def G80_E : CEnt := boxE 80 G80_CS fun x => G80 x.1.1
theorem G80_LV : LV 1 Tryz.prog false (loopsOf (bodyOf Tryz.f80)) [] := by unfold LV; cases loopsOf (bodyOf Tryz.f80) <;> trivial
theorem G80_ent : Ent Tryz.prog 80 := ⟨by decide, enters_of Tryz.func80 (by kernel_rfl) rfl⟩
theorem G80_hev : ∀ x : G80_CS.In, fnR Tryz.prog G80_C [] Tryz.f80 (bodyOf Tryz.f80) (encs G80_CS.A x.1) ⟨encs G80_CS.I x.2, [], G80_CS.nt⟩ (finK G80_CS) = G80 x.1.1 := by
  intro x; kernel_rfl
theorem G80_valid : G80_E.Valid Tryz.prog :=
  boxE_valid (S := G80_CS) (by kernel_rfl) (.inr G80_ent) (fn_lcall (S := G80_CS) mixed Tryz.func80 rfl G80_ent G80_CV G80_LV (by kernel_rfl) (by kernel_rfl) G80_hev)
noncomputable def G79_C : CalT := tabC [G80_E]
theorem G79_CV : CV Tryz.prog G79_C := tabC_valid (l := _) ⟨G80_valid, trivial⟩
noncomputable def G79_l0_c : Code := loopAt (bodyOf Tryz.f79) 0
noncomputable def G79_l0_S : SPat := ⟨[.any, .fix (.func (.func 80) .nil (.cons (.bptr 0 []) .nil)), .any, .any, .any, .own 0 (.int .i64), .any, .any, .dat (.list T65), .dat (.int .i64), .dat (.int .i64), .any, .any, .any, .any, .any, .any, .any, .any, .any, .any, .any], [.fix (.func (.func 66) .nil .nil)], 1⟩
noncomputable def G79_l0_step (s : (((List Int) × ((List E65) × (Int × (Int × Unit)))) × Unit)) : Option (Nat × (((List Int) × ((List E65) × (Int × (Int × Unit)))) × Unit)) :=
  (bif (decide (s.1.2.2.2.1 < s.1.2.2.1)) then
  (bif (decide (0 ≤ s.1.2.2.2.1) && decide (s.1.2.2.2.1 < (List.length s.1.2.1 : Int))) then
    (Option.bind (G80 (List.getD s.1.2.1 (Int.toNat s.1.2.2.2.1) (0, ((0, (0, ())), ())))) fun r1 =>
      (bif (decide (List.length s.1.1 + List.length [r1.1] ≤ LIM)) then
        some (0, (((s.1.1 ++ [r1.1]), (s.1.2.1, (s.1.2.2.1, ((IntKind.wrap .i64 (s.1.2.2.2.1 + 1)), ())))), ()))
        else
        none))
    else
    none)
  else
  some (1, ((s.1.1, (s.1.2.1, (s.1.2.2.1, (s.1.2.2.2.1, ())))), ())))
noncomputable def G79_l0_fuel (s : (((List Int) × ((List E65) × (Int × (Int × Unit)))) × Unit)) : Nat := Int.toNat (s.1.2.2.1 - s.1.2.2.2.1) + 1
noncomputable def G79_l0_run (s : (((List Int) × ((List E65) × (Int × (Int × Unit)))) × Unit)) : Option (Nat × (((List Int) × ((List E65) × (Int × (Int × Unit)))) × Unit)) := iter G79_l0_step (G79_l0_fuel s) s
noncomputable def G79_l0_L : LoopT := loopT G79_l0_S [.exit 0] G79_l0_run
noncomputable def G79 (a0 : (List E65)) : Option ((List Int) × Unit) :=
  (Option.bind (G79_l0_run (([], (a0, ((List.length a0 : Int), (0, ())))), ())) fun q2 =>
  some (q2.2.1.1, ()))
abbrev G79_CS : CSpec := ⟨[.dat (.list T65), .fix (.func (.func 80) .nil (.cons (.bptr 0 []) .nil))], [.fix (.func (.func 66) .nil .nil)], 0, [.fix (.func (.func 66) .nil .nil)], 0, .dat (.list (.int .i64))⟩
noncomputable def G79_E : CEnt := boxE 79 G79_CS fun x => G79 x.1.1
theorem G79_l0_V : LValid 1 Tryz.prog (.loop G79_l0_c) G79_l0_L false := by
  have hb : ∀ s, codeR Tryz.prog G79_C G79_l0_c [] (G79_l0_S.encE s) (G79_l0_S.encB s) (kst G79_l0_S [.exit 0]) = G79_l0_step s := by
    intro s; kernel_rfl
  have hL : LV 1 Tryz.prog false (loopsOf G79_l0_c) [] := by unfold LV; cases loopsOf G79_l0_c <;> trivial
  exact loopT_valid (fuel := G79_l0_fuel) mixed G79_CV hL (by kernel_rfl) (by decide) rfl hb (fun s r h => h)
theorem G79_LV : LV 1 Tryz.prog false (loopsOf (bodyOf Tryz.f79)) [G79_l0_L] := by
  have hl : loopsOf (bodyOf Tryz.f79) = [.loop G79_l0_c] := by kernel_rfl
  rw [hl]; exact ⟨G79_l0_V, trivial⟩
theorem G79_ent : Ent Tryz.prog 79 := ⟨by decide, enters_of Tryz.func79 (by kernel_rfl) rfl⟩
theorem G79_hev : ∀ x : G79_CS.In, fnR Tryz.prog G79_C [G79_l0_L] Tryz.f79 (bodyOf Tryz.f79) (encs G79_CS.A x.1) ⟨encs G79_CS.I x.2, [], G79_CS.nt⟩ (finK G79_CS) = G79 x.1.1 := by
  intro x; kernel_rfl
theorem G79_valid : G79_E.Valid Tryz.prog :=
  boxE_valid (S := G79_CS) (by kernel_rfl) (.inr G79_ent) (fn_lcall (S := G79_CS) mixed Tryz.func79 rfl G79_ent G79_CV G79_LV (by kernel_rfl) (by kernel_rfl) G79_hev)
noncomputable def G65_C : CalT := tabC []
theorem G65_CV : CV Tryz.prog G65_C := tabC_valid (l := _) trivial
noncomputable def G65 (a0 : E23) : Option Int :=
  some a0.1
noncomputable def G65_E : CEnt := pureE 65 [.dat T23] (.dat (.int .i64)) fun x => G65 x.1
theorem G65_LV : LV 0 Tryz.prog false (loopsOf (bodyOf Tryz.f65)) [] := by unfold LV; cases loopsOf (bodyOf Tryz.f65) <;> trivial
theorem G65_ent : Ent Tryz.prog 65 := ⟨by decide, enters_of Tryz.func65 (by kernel_rfl) rfl⟩
theorem G65_hev : ∀ x, fnR Tryz.prog G65_C [] Tryz.f65 (bodyOf Tryz.f65) (encs [.dat T23] x) ⟨[], [], 0⟩ (frzF (.dat (.int .i64))) = G65 x.1 := by
  intro x; kernel_rfl
theorem G65_valid : G65_E.Valid Tryz.prog :=
  pureE_valid (by kernel_rfl) (by kernel_rfl) G65_ent (frz_lcall mixed Tryz.func65 rfl G65_ent G65_CV G65_LV (by kernel_rfl) (by kernel_rfl) G65_hev)
noncomputable def G82_C : CalT := tabC [G65_E]
theorem G82_CV : CV Tryz.prog G82_C := tabC_valid (l := _) ⟨G65_valid, trivial⟩
noncomputable def G82 (a0 : E91) (b1 : E25) : Option (Int × (E25 × Unit)) :=
  (Option.bind (G65 b1.2.1) fun r1 =>
  some (r1, (b1, ())))
abbrev G82_CS : CSpec := ⟨[.dat T91, .fix (.bptr 0 []), .fix (.bptr 1 [])], [.fix (.func (.func 65) .nil .nil), .dat T25], 0, [.fix (.func (.func 65) .nil .nil), .dat T25], 0, .dat (.int .i64)⟩
noncomputable def G82_E : CEnt := boxE 82 G82_CS fun x => G82 x.1.1 x.2.1
theorem G82_LV : LV 2 Tryz.prog false (loopsOf (bodyOf Tryz.f82)) [] := by unfold LV; cases loopsOf (bodyOf Tryz.f82) <;> trivial
theorem G82_ent : Ent Tryz.prog 82 := ⟨by decide, enters_of Tryz.func82 (by kernel_rfl) rfl⟩
theorem G82_hev : ∀ x : G82_CS.In, fnR Tryz.prog G82_C [] Tryz.f82 (bodyOf Tryz.f82) (encs G82_CS.A x.1) ⟨encs G82_CS.I x.2, [], G82_CS.nt⟩ (finK G82_CS) = G82 x.1.1 x.2.1 := by
  intro x; kernel_rfl
theorem G82_valid : G82_E.Valid Tryz.prog :=
  boxE_valid (S := G82_CS) (by kernel_rfl) (.inr G82_ent) (fn_lcall (S := G82_CS) mixed Tryz.func82 rfl G82_ent G82_CV G82_LV (by kernel_rfl) (by kernel_rfl) G82_hev)
noncomputable def G81_C : CalT := tabC [G82_E]
theorem G81_CV : CV Tryz.prog G81_C := tabC_valid (l := _) ⟨G82_valid, trivial⟩
noncomputable def G81_l0_c : Code := loopAt (bodyOf Tryz.f81) 0
noncomputable def G81_l0_S : SPat := ⟨[.any, .fix (.func (.func 82) .nil (.cons (.bptr 0 []) (.cons (.bptr 1 []) .nil))), .any, .any, .any, .own 0 (.int .i64), .any, .any, .dat (.list T91), .dat (.int .i64), .dat (.int .i64), .any, .any, .any, .any, .any, .any, .any, .any, .any, .any, .any], [.fix (.func (.func 65) .nil .nil), .dat T25], 1⟩
abbrev TY0 : Type := (Nat × (((List Int) × ((List E91) × (Int × (Int × Unit)))) × (E25 × Unit)))
noncomputable def G81_l0_step (s : (((List Int) × ((List E91) × (Int × (Int × Unit)))) × (E25 × Unit))) : Option TY0 :=
  (bif (decide (s.1.2.2.2.1 < s.1.2.2.1)) then
  (bif (decide (0 ≤ s.1.2.2.2.1) && decide (s.1.2.2.2.1 < (List.length s.1.2.1 : Int))) then
    (Option.bind (G82 (List.getD s.1.2.1 (Int.toNat s.1.2.2.2.1) ((0, (0, ())), ((0, (0, ())), ((0, (0, ())), ())))) s.2.1) fun r1 =>
      (bif (decide (List.length s.1.1 + List.length [r1.1] ≤ LIM)) then
        some (0, (((s.1.1 ++ [r1.1]), (s.1.2.1, (s.1.2.2.1, ((IntKind.wrap .i64 (s.1.2.2.2.1 + 1)), ())))), (r1.2.1, ())))
        else
        none))
    else
    none)
  else
  some (1, ((s.1.1, (s.1.2.1, (s.1.2.2.1, (s.1.2.2.2.1, ())))), (s.2.1, ()))))
noncomputable def G81_l0_fuel (s : (((List Int) × ((List E91) × (Int × (Int × Unit)))) × (E25 × Unit))) : Nat := Int.toNat (s.1.2.2.1 - s.1.2.2.2.1) + 1
noncomputable def G81_l0_run (s : (((List Int) × ((List E91) × (Int × (Int × Unit)))) × (E25 × Unit))) : Option TY0 := iter G81_l0_step (G81_l0_fuel s) s
noncomputable def G81_l0_L : LoopT := loopT G81_l0_S [.exit 0] G81_l0_run
noncomputable def G81 (a0 : (List E91)) (b1 : E25) : Option ((List Int) × (E25 × Unit)) :=
  (Option.bind (G81_l0_run (([], (a0, ((List.length a0 : Int), (0, ())))), (b1, ()))) fun q2 =>
  some (q2.2.1.1, (q2.2.2.1, ())))
abbrev G81_CS : CSpec := ⟨[.dat (.list T91), .fix (.func (.func 82) .nil (.cons (.bptr 0 []) (.cons (.bptr 1 []) .nil)))], [.fix (.func (.func 65) .nil .nil), .dat T25], 0, [.fix (.func (.func 65) .nil .nil), .dat T25], 0, .dat (.list (.int .i64))⟩
noncomputable def G81_E : CEnt := boxE 81 G81_CS fun x => G81 x.1.1 x.2.1
theorem G81_l0_V : LValid 2 Tryz.prog (.loop G81_l0_c) G81_l0_L false := by
  have hb : ∀ s, codeR Tryz.prog G81_C G81_l0_c [] (G81_l0_S.encE s) (G81_l0_S.encB s) (kst G81_l0_S [.exit 0]) = G81_l0_step s := by
    intro s; kernel_rfl
  have hL : LV 2 Tryz.prog false (loopsOf G81_l0_c) [] := by unfold LV; cases loopsOf G81_l0_c <;> trivial
  exact loopT_valid (fuel := G81_l0_fuel) mixed G81_CV hL (by kernel_rfl) (by decide) rfl hb (fun s r h => h)
theorem G81_LV : LV 2 Tryz.prog false (loopsOf (bodyOf Tryz.f81)) [G81_l0_L] := by
  have hl : loopsOf (bodyOf Tryz.f81) = [.loop G81_l0_c] := by kernel_rfl
  rw [hl]; exact ⟨G81_l0_V, trivial⟩
theorem G81_ent : Ent Tryz.prog 81 := ⟨by decide, enters_of Tryz.func81 (by kernel_rfl) rfl⟩
theorem G81_hev : ∀ x : G81_CS.In, fnR Tryz.prog G81_C [G81_l0_L] Tryz.f81 (bodyOf Tryz.f81) (encs G81_CS.A x.1) ⟨encs G81_CS.I x.2, [], G81_CS.nt⟩ (finK G81_CS) = G81 x.1.1 x.2.1 := by
  intro x; kernel_rfl
theorem G81_valid : G81_E.Valid Tryz.prog :=
  boxE_valid (S := G81_CS) (by kernel_rfl) (.inr G81_ent) (fn_lcall (S := G81_CS) mixed Tryz.func81 rfl G81_ent G81_CV G81_LV (by kernel_rfl) (by kernel_rfl) G81_hev)
noncomputable def G83_C : CalT := tabC [G65_E]
theorem G83_CV : CV Tryz.prog G83_C := tabC_valid (l := _) ⟨G65_valid, trivial⟩
noncomputable def G83 (a0 : E91) : Option (Int × Unit) :=
  (Option.bind (G65 a0.1) fun r1 =>
  some (r1, ()))
abbrev G83_CS : CSpec := ⟨[.dat T91, .fix (.bptr 0 [])], [.fix (.func (.func 65) .nil .nil)], 0, [.fix (.func (.func 65) .nil .nil)], 0, .dat (.int .i64)⟩
noncomputable def G83_E : CEnt := boxE 83 G83_CS fun x => G83 x.1.1
theorem G83_LV : LV 1 Tryz.prog false (loopsOf (bodyOf Tryz.f83)) [] := by unfold LV; cases loopsOf (bodyOf Tryz.f83) <;> trivial
theorem G83_ent : Ent Tryz.prog 83 := ⟨by decide, enters_of Tryz.func83 (by kernel_rfl) rfl⟩
theorem G83_hev : ∀ x : G83_CS.In, fnR Tryz.prog G83_C [] Tryz.f83 (bodyOf Tryz.f83) (encs G83_CS.A x.1) ⟨encs G83_CS.I x.2, [], G83_CS.nt⟩ (finK G83_CS) = G83 x.1.1 := by
  intro x; kernel_rfl
theorem G83_valid : G83_E.Valid Tryz.prog :=
  boxE_valid (S := G83_CS) (by kernel_rfl) (.inr G83_ent) (fn_lcall (S := G83_CS) mixed Tryz.func83 rfl G83_ent G83_CV G83_LV (by kernel_rfl) (by kernel_rfl) G83_hev)
noncomputable def G81_v1_C : CalT := tabC [G83_E]
theorem G81_v1_CV : CV Tryz.prog G81_v1_C := tabC_valid (l := _) ⟨G83_valid, trivial⟩
noncomputable def G81_v1_l0_c : Code := loopAt (bodyOf Tryz.f81) 0
noncomputable def G81_v1_l0_S : SPat := ⟨[.any, .fix (.func (.func 83) .nil (.cons (.bptr 0 []) .nil)), .any, .any, .any, .own 0 (.int .i64), .any, .any, .dat (.list T91), .dat (.int .i64), .dat (.int .i64), .any, .any, .any, .any, .any, .any, .any, .any, .any, .any, .any], [.fix (.func (.func 65) .nil .nil)], 1⟩
noncomputable def G81_v1_l0_step (s : (((List Int) × ((List E91) × (Int × (Int × Unit)))) × Unit)) : Option (Nat × (((List Int) × ((List E91) × (Int × (Int × Unit)))) × Unit)) :=
  (bif (decide (s.1.2.2.2.1 < s.1.2.2.1)) then
  (bif (decide (0 ≤ s.1.2.2.2.1) && decide (s.1.2.2.2.1 < (List.length s.1.2.1 : Int))) then
    (Option.bind (G83 (List.getD s.1.2.1 (Int.toNat s.1.2.2.2.1) ((0, (0, ())), ((0, (0, ())), ((0, (0, ())), ()))))) fun r1 =>
      (bif (decide (List.length s.1.1 + List.length [r1.1] ≤ LIM)) then
        some (0, (((s.1.1 ++ [r1.1]), (s.1.2.1, (s.1.2.2.1, ((IntKind.wrap .i64 (s.1.2.2.2.1 + 1)), ())))), ()))
        else
        none))
    else
    none)
  else
  some (1, ((s.1.1, (s.1.2.1, (s.1.2.2.1, (s.1.2.2.2.1, ())))), ())))
noncomputable def G81_v1_l0_fuel (s : (((List Int) × ((List E91) × (Int × (Int × Unit)))) × Unit)) : Nat := Int.toNat (s.1.2.2.1 - s.1.2.2.2.1) + 1
noncomputable def G81_v1_l0_run (s : (((List Int) × ((List E91) × (Int × (Int × Unit)))) × Unit)) : Option (Nat × (((List Int) × ((List E91) × (Int × (Int × Unit)))) × Unit)) := iter G81_v1_l0_step (G81_v1_l0_fuel s) s
noncomputable def G81_v1_l0_L : LoopT := loopT G81_v1_l0_S [.exit 0] G81_v1_l0_run
noncomputable def G81_v1 (a0 : (List E91)) : Option ((List Int) × Unit) :=
  (Option.bind (G81_v1_l0_run (([], (a0, ((List.length a0 : Int), (0, ())))), ())) fun q2 =>
  some (q2.2.1.1, ()))
abbrev G81_v1_CS : CSpec := ⟨[.dat (.list T91), .fix (.func (.func 83) .nil (.cons (.bptr 0 []) .nil))], [.fix (.func (.func 65) .nil .nil)], 0, [.fix (.func (.func 65) .nil .nil)], 0, .dat (.list (.int .i64))⟩
noncomputable def G81_v1_E : CEnt := boxE 81 G81_v1_CS fun x => G81_v1 x.1.1
theorem G81_v1_l0_V : LValid 1 Tryz.prog (.loop G81_v1_l0_c) G81_v1_l0_L false := by
  have hb : ∀ s, codeR Tryz.prog G81_v1_C G81_v1_l0_c [] (G81_v1_l0_S.encE s) (G81_v1_l0_S.encB s) (kst G81_v1_l0_S [.exit 0]) = G81_v1_l0_step s := by
    intro s; kernel_rfl
  have hL : LV 1 Tryz.prog false (loopsOf G81_v1_l0_c) [] := by unfold LV; cases loopsOf G81_v1_l0_c <;> trivial
  exact loopT_valid (fuel := G81_v1_l0_fuel) mixed G81_v1_CV hL (by kernel_rfl) (by decide) rfl hb (fun s r h => h)
theorem G81_v1_LV : LV 1 Tryz.prog false (loopsOf (bodyOf Tryz.f81)) [G81_v1_l0_L] := by
  have hl : loopsOf (bodyOf Tryz.f81) = [.loop G81_v1_l0_c] := by kernel_rfl
  rw [hl]; exact ⟨G81_v1_l0_V, trivial⟩
theorem G81_v1_ent : Ent Tryz.prog 81 := ⟨by decide, enters_of Tryz.func81 (by kernel_rfl) rfl⟩
theorem G81_v1_hev : ∀ x : G81_v1_CS.In, fnR Tryz.prog G81_v1_C [G81_v1_l0_L] Tryz.f81 (bodyOf Tryz.f81) (encs G81_v1_CS.A x.1) ⟨encs G81_v1_CS.I x.2, [], G81_v1_CS.nt⟩ (finK G81_v1_CS) = G81_v1 x.1.1 := by
  intro x; kernel_rfl
theorem G81_v1_valid : G81_v1_E.Valid Tryz.prog :=
  boxE_valid (S := G81_v1_CS) (by kernel_rfl) (.inr G81_v1_ent) (fn_lcall (S := G81_v1_CS) mixed Tryz.func81 rfl G81_v1_ent G81_v1_CV G81_v1_LV (by kernel_rfl) (by kernel_rfl) G81_v1_hev)
noncomputable def G84_C : CalT := tabC [G66_E]
theorem G84_CV : CV Tryz.prog G84_C := tabC_valid (l := _) ⟨G66_valid, trivial⟩
noncomputable def G84 (a0 : E91) : Option (Int × Unit) :=
  (Option.bind (G66 a0.2.1) fun r1 =>
  some (r1, ()))
abbrev G84_CS : CSpec := ⟨[.dat T91, .fix (.bptr 0 [])], [.fix (.func (.func 66) .nil .nil)], 0, [.fix (.func (.func 66) .nil .nil)], 0, .dat (.int .i64)⟩
noncomputable def G84_E : CEnt := boxE 84 G84_CS fun x => G84 x.1.1
theorem G84_LV : LV 1 Tryz.prog false (loopsOf (bodyOf Tryz.f84)) [] := by unfold LV; cases loopsOf (bodyOf Tryz.f84) <;> trivial
theorem G84_ent : Ent Tryz.prog 84 := ⟨by decide, enters_of Tryz.func84 (by kernel_rfl) rfl⟩
theorem G84_hev : ∀ x : G84_CS.In, fnR Tryz.prog G84_C [] Tryz.f84 (bodyOf Tryz.f84) (encs G84_CS.A x.1) ⟨encs G84_CS.I x.2, [], G84_CS.nt⟩ (finK G84_CS) = G84 x.1.1 := by
  intro x; kernel_rfl
theorem G84_valid : G84_E.Valid Tryz.prog :=
  boxE_valid (S := G84_CS) (by kernel_rfl) (.inr G84_ent) (fn_lcall (S := G84_CS) mixed Tryz.func84 rfl G84_ent G84_CV G84_LV (by kernel_rfl) (by kernel_rfl) G84_hev)
noncomputable def G81_v2_C : CalT := tabC [G84_E]
theorem G81_v2_CV : CV Tryz.prog G81_v2_C := tabC_valid (l := _) ⟨G84_valid, trivial⟩
noncomputable def G81_v2_l0_c : Code := loopAt (bodyOf Tryz.f81) 0
noncomputable def G81_v2_l0_S : SPat := ⟨[.any, .fix (.func (.func 84) .nil (.cons (.bptr 0 []) .nil)), .any, .any, .any, .own 0 (.int .i64), .any, .any, .dat (.list T91), .dat (.int .i64), .dat (.int .i64), .any, .any, .any, .any, .any, .any, .any, .any, .any, .any, .any], [.fix (.func (.func 66) .nil .nil)], 1⟩
noncomputable def G81_v2_l0_step (s : (((List Int) × ((List E91) × (Int × (Int × Unit)))) × Unit)) : Option (Nat × (((List Int) × ((List E91) × (Int × (Int × Unit)))) × Unit)) :=
  (bif (decide (s.1.2.2.2.1 < s.1.2.2.1)) then
  (bif (decide (0 ≤ s.1.2.2.2.1) && decide (s.1.2.2.2.1 < (List.length s.1.2.1 : Int))) then
    (Option.bind (G84 (List.getD s.1.2.1 (Int.toNat s.1.2.2.2.1) ((0, (0, ())), ((0, (0, ())), ((0, (0, ())), ()))))) fun r1 =>
      (bif (decide (List.length s.1.1 + List.length [r1.1] ≤ LIM)) then
        some (0, (((s.1.1 ++ [r1.1]), (s.1.2.1, (s.1.2.2.1, ((IntKind.wrap .i64 (s.1.2.2.2.1 + 1)), ())))), ()))
        else
        none))
    else
    none)
  else
  some (1, ((s.1.1, (s.1.2.1, (s.1.2.2.1, (s.1.2.2.2.1, ())))), ())))
noncomputable def G81_v2_l0_fuel (s : (((List Int) × ((List E91) × (Int × (Int × Unit)))) × Unit)) : Nat := Int.toNat (s.1.2.2.1 - s.1.2.2.2.1) + 1
noncomputable def G81_v2_l0_run (s : (((List Int) × ((List E91) × (Int × (Int × Unit)))) × Unit)) : Option (Nat × (((List Int) × ((List E91) × (Int × (Int × Unit)))) × Unit)) := iter G81_v2_l0_step (G81_v2_l0_fuel s) s
noncomputable def G81_v2_l0_L : LoopT := loopT G81_v2_l0_S [.exit 0] G81_v2_l0_run
noncomputable def G81_v2 (a0 : (List E91)) : Option ((List Int) × Unit) :=
  (Option.bind (G81_v2_l0_run (([], (a0, ((List.length a0 : Int), (0, ())))), ())) fun q2 =>
  some (q2.2.1.1, ()))
abbrev G81_v2_CS : CSpec := ⟨[.dat (.list T91), .fix (.func (.func 84) .nil (.cons (.bptr 0 []) .nil))], [.fix (.func (.func 66) .nil .nil)], 0, [.fix (.func (.func 66) .nil .nil)], 0, .dat (.list (.int .i64))⟩
noncomputable def G81_v2_E : CEnt := boxE 81 G81_v2_CS fun x => G81_v2 x.1.1
theorem G81_v2_l0_V : LValid 1 Tryz.prog (.loop G81_v2_l0_c) G81_v2_l0_L false := by
  have hb : ∀ s, codeR Tryz.prog G81_v2_C G81_v2_l0_c [] (G81_v2_l0_S.encE s) (G81_v2_l0_S.encB s) (kst G81_v2_l0_S [.exit 0]) = G81_v2_l0_step s := by
    intro s; kernel_rfl
  have hL : LV 1 Tryz.prog false (loopsOf G81_v2_l0_c) [] := by unfold LV; cases loopsOf G81_v2_l0_c <;> trivial
  exact loopT_valid (fuel := G81_v2_l0_fuel) mixed G81_v2_CV hL (by kernel_rfl) (by decide) rfl hb (fun s r h => h)
theorem G81_v2_LV : LV 1 Tryz.prog false (loopsOf (bodyOf Tryz.f81)) [G81_v2_l0_L] := by
  have hl : loopsOf (bodyOf Tryz.f81) = [.loop G81_v2_l0_c] := by kernel_rfl
  rw [hl]; exact ⟨G81_v2_l0_V, trivial⟩
theorem G81_v2_ent : Ent Tryz.prog 81 := ⟨by decide, enters_of Tryz.func81 (by kernel_rfl) rfl⟩
theorem G81_v2_hev : ∀ x : G81_v2_CS.In, fnR Tryz.prog G81_v2_C [G81_v2_l0_L] Tryz.f81 (bodyOf Tryz.f81) (encs G81_v2_CS.A x.1) ⟨encs G81_v2_CS.I x.2, [], G81_v2_CS.nt⟩ (finK G81_v2_CS) = G81_v2 x.1.1 := by
  intro x; kernel_rfl
theorem G81_v2_valid : G81_v2_E.Valid Tryz.prog :=
  boxE_valid (S := G81_v2_CS) (by kernel_rfl) (.inr G81_v2_ent) (fn_lcall (S := G81_v2_CS) mixed Tryz.func81 rfl G81_v2_ent G81_v2_CV G81_v2_LV (by kernel_rfl) (by kernel_rfl) G81_v2_hev)
noncomputable def G85_C : CalT := tabC [G65_E]
theorem G85_CV : CV Tryz.prog G85_C := tabC_valid (l := _) ⟨G65_valid, trivial⟩
noncomputable def G85 (a0 : E91) : Option (Int × Unit) :=
  (Option.bind (G65 a0.2.2.1) fun r1 =>
  some (r1, ()))
abbrev G85_CS : CSpec := ⟨[.dat T91, .fix (.bptr 0 [])], [.fix (.func (.func 65) .nil .nil)], 0, [.fix (.func (.func 65) .nil .nil)], 0, .dat (.int .i64)⟩
noncomputable def G85_E : CEnt := boxE 85 G85_CS fun x => G85 x.1.1
theorem G85_LV : LV 1 Tryz.prog false (loopsOf (bodyOf Tryz.f85)) [] := by unfold LV; cases loopsOf (bodyOf Tryz.f85) <;> trivial
theorem G85_ent : Ent Tryz.prog 85 := ⟨by decide, enters_of Tryz.func85 (by kernel_rfl) rfl⟩
theorem G85_hev : ∀ x : G85_CS.In, fnR Tryz.prog G85_C [] Tryz.f85 (bodyOf Tryz.f85) (encs G85_CS.A x.1) ⟨encs G85_CS.I x.2, [], G85_CS.nt⟩ (finK G85_CS) = G85 x.1.1 := by
  intro x; kernel_rfl
theorem G85_valid : G85_E.Valid Tryz.prog :=
  boxE_valid (S := G85_CS) (by kernel_rfl) (.inr G85_ent) (fn_lcall (S := G85_CS) mixed Tryz.func85 rfl G85_ent G85_CV G85_LV (by kernel_rfl) (by kernel_rfl) G85_hev)
noncomputable def G81_v3_C : CalT := tabC [G85_E]
theorem G81_v3_CV : CV Tryz.prog G81_v3_C := tabC_valid (l := _) ⟨G85_valid, trivial⟩
noncomputable def G81_v3_l0_c : Code := loopAt (bodyOf Tryz.f81) 0
noncomputable def G81_v3_l0_S : SPat := ⟨[.any, .fix (.func (.func 85) .nil (.cons (.bptr 0 []) .nil)), .any, .any, .any, .own 0 (.int .i64), .any, .any, .dat (.list T91), .dat (.int .i64), .dat (.int .i64), .any, .any, .any, .any, .any, .any, .any, .any, .any, .any, .any], [.fix (.func (.func 65) .nil .nil)], 1⟩
noncomputable def G81_v3_l0_step (s : (((List Int) × ((List E91) × (Int × (Int × Unit)))) × Unit)) : Option (Nat × (((List Int) × ((List E91) × (Int × (Int × Unit)))) × Unit)) :=
  (bif (decide (s.1.2.2.2.1 < s.1.2.2.1)) then
  (bif (decide (0 ≤ s.1.2.2.2.1) && decide (s.1.2.2.2.1 < (List.length s.1.2.1 : Int))) then
    (Option.bind (G85 (List.getD s.1.2.1 (Int.toNat s.1.2.2.2.1) ((0, (0, ())), ((0, (0, ())), ((0, (0, ())), ()))))) fun r1 =>
      (bif (decide (List.length s.1.1 + List.length [r1.1] ≤ LIM)) then
        some (0, (((s.1.1 ++ [r1.1]), (s.1.2.1, (s.1.2.2.1, ((IntKind.wrap .i64 (s.1.2.2.2.1 + 1)), ())))), ()))
        else
        none))
    else
    none)
  else
  some (1, ((s.1.1, (s.1.2.1, (s.1.2.2.1, (s.1.2.2.2.1, ())))), ())))
noncomputable def G81_v3_l0_fuel (s : (((List Int) × ((List E91) × (Int × (Int × Unit)))) × Unit)) : Nat := Int.toNat (s.1.2.2.1 - s.1.2.2.2.1) + 1
noncomputable def G81_v3_l0_run (s : (((List Int) × ((List E91) × (Int × (Int × Unit)))) × Unit)) : Option (Nat × (((List Int) × ((List E91) × (Int × (Int × Unit)))) × Unit)) := iter G81_v3_l0_step (G81_v3_l0_fuel s) s
noncomputable def G81_v3_l0_L : LoopT := loopT G81_v3_l0_S [.exit 0] G81_v3_l0_run
noncomputable def G81_v3 (a0 : (List E91)) : Option ((List Int) × Unit) :=
  (Option.bind (G81_v3_l0_run (([], (a0, ((List.length a0 : Int), (0, ())))), ())) fun q2 =>
  some (q2.2.1.1, ()))
abbrev G81_v3_CS : CSpec := ⟨[.dat (.list T91), .fix (.func (.func 85) .nil (.cons (.bptr 0 []) .nil))], [.fix (.func (.func 65) .nil .nil)], 0, [.fix (.func (.func 65) .nil .nil)], 0, .dat (.list (.int .i64))⟩
noncomputable def G81_v3_E : CEnt := boxE 81 G81_v3_CS fun x => G81_v3 x.1.1
theorem G81_v3_l0_V : LValid 1 Tryz.prog (.loop G81_v3_l0_c) G81_v3_l0_L false := by
  have hb : ∀ s, codeR Tryz.prog G81_v3_C G81_v3_l0_c [] (G81_v3_l0_S.encE s) (G81_v3_l0_S.encB s) (kst G81_v3_l0_S [.exit 0]) = G81_v3_l0_step s := by
    intro s; kernel_rfl
  have hL : LV 1 Tryz.prog false (loopsOf G81_v3_l0_c) [] := by unfold LV; cases loopsOf G81_v3_l0_c <;> trivial
  exact loopT_valid (fuel := G81_v3_l0_fuel) mixed G81_v3_CV hL (by kernel_rfl) (by decide) rfl hb (fun s r h => h)
theorem G81_v3_LV : LV 1 Tryz.prog false (loopsOf (bodyOf Tryz.f81)) [G81_v3_l0_L] := by
  have hl : loopsOf (bodyOf Tryz.f81) = [.loop G81_v3_l0_c] := by kernel_rfl
  rw [hl]; exact ⟨G81_v3_l0_V, trivial⟩
theorem G81_v3_ent : Ent Tryz.prog 81 := ⟨by decide, enters_of Tryz.func81 (by kernel_rfl) rfl⟩
theorem G81_v3_hev : ∀ x : G81_v3_CS.In, fnR Tryz.prog G81_v3_C [G81_v3_l0_L] Tryz.f81 (bodyOf Tryz.f81) (encs G81_v3_CS.A x.1) ⟨encs G81_v3_CS.I x.2, [], G81_v3_CS.nt⟩ (finK G81_v3_CS) = G81_v3 x.1.1 := by
  intro x; kernel_rfl
theorem G81_v3_valid : G81_v3_E.Valid Tryz.prog :=
  boxE_valid (S := G81_v3_CS) (by kernel_rfl) (.inr G81_v3_ent) (fn_lcall (S := G81_v3_CS) mixed Tryz.func81 rfl G81_v3_ent G81_v3_CV G81_v3_LV (by kernel_rfl) (by kernel_rfl) G81_v3_hev)
noncomputable def G86_C : CalT := tabC []
theorem G86_CV : CV Tryz.prog G86_C := tabC_valid (l := _) trivial
abbrev UT46 : Type := (Unit × (Unit × (Unit × (Unit × (Unit × (Unit × (Unit × (Unit × (Unit × (Unit × (Unit × (Unit × (Unit × (Unit × (Unit × (Unit × (Unit × (Unit × (Unit × (Unit × (Unit × (Unit × (Unit × (Unit × (Unit × (Unit × (Unit × (Unit × (Unit × (Unit × (Unit × (Unit × (Unit × (Unit × (Unit × (Unit × (Unit × (Unit × (Unit × (Unit × (Unit × (Unit × (Unit × (Unit × (Unit × (Unit × Unit))))))))))))))))))))))))))))))))))))))))))))))
abbrev UC46 : (Unit × (Unit × (Unit × (Unit × (Unit × (Unit × (Unit × (Unit × (Unit × (Unit × (Unit × (Unit × (Unit × (Unit × (Unit × (Unit × (Unit × (Unit × (Unit × (Unit × (Unit × (Unit × (Unit × (Unit × (Unit × (Unit × (Unit × (Unit × (Unit × (Unit × (Unit × (Unit × (Unit × (Unit × (Unit × (Unit × (Unit × (Unit × (Unit × (Unit × (Unit × (Unit × (Unit × (Unit × (Unit × (Unit × Unit)))))))))))))))))))))))))))))))))))))))))))))) := ((), ((), ((), ((), ((), ((), ((), ((), ((), ((), ((), ((), ((), ((), ((), ((), ((), ((), ((), ((), ((), ((), ((), ((), ((), ((), ((), ((), ((), ((), ((), ((), ((), ((), ((), ((), ((), ((), ((), ((), ((), ((), ((), ((), ((), ((), ()))))))))))))))))))))))))))))))))))))))))))))))
noncomputable def G86 (a0 : Int) (a1 : Int) (b2 : (Nat × UT46)) (b3 : E88) (b4 : Int) (b5 : Int) (b6 : Int) : Option (Bool × ((Nat × UT46) × (E88 × (Int × (Int × (Int × Unit)))))) :=
  (natK b2.1
  ((bif (decide (a1 < 0)) then
    (bif (decide (0 ≤ a0) && decide (a0 < (List.length b3.2.1.1 : Int))) then
      (bif (!decide ((List.getD b3.2.1.1 (Int.toNat a0) 0) = 0)) then
        some (false, ((3, UC46), (b3, (b4, ((IntKind.wrap .i64 (b6 + (IntKind.wrap .i64 (Int.tdiv b4 (List.getD b3.2.1.1 (Int.toNat a0) 0))))), (b6, ()))))))
        else
        none)
      else
      none)
    else
    (bif (decide (b4 < a1)) then
      (bif (decide (0 ≤ a0) && decide (a0 < (List.length b3.2.1.1 : Int))) then
        (bif (!decide ((List.getD b3.2.1.1 (Int.toNat a0) 0) = 0)) then
          some (false, ((3, UC46), (b3, (b4, ((IntKind.wrap .i64 (b6 + (IntKind.wrap .i64 (Int.tdiv b4 (List.getD b3.2.1.1 (Int.toNat a0) 0))))), (b6, ()))))))
          else
          none)
        else
        none)
      else
      (bif (decide (0 ≤ a0) && decide (a0 < (List.length b3.1.1 : Int))) then
        some (true, ((0, UC46), (b3, ((IntKind.wrap .i64 (b4 - a1)), (b5, ((IntKind.wrap .i64 (b6 + (List.getD b3.1.1 (Int.toNat a0) (0, ((0, (0, ())), ()))).1)), ()))))))
        else
        none))))
  (fun _ => none))
abbrev AN40 : PTy := (.cons (.any) (.cons (.any) (.cons (.any) (.cons (.any) (.cons (.any) (.cons (.any) (.cons (.any) (.cons (.any) (.cons (.any) (.cons (.any) (.cons (.any) (.cons (.any) (.cons (.any) (.cons (.any) (.cons (.any) (.cons (.any) (.cons (.any) (.cons (.any) (.cons (.any) (.cons (.any) (.cons (.any) (.cons (.any) (.cons (.any) (.cons (.any) (.cons (.any) (.cons (.any) (.cons (.any) (.cons (.any) (.cons (.any) (.cons (.any) (.cons (.any) (.cons (.any) (.cons (.any) (.cons (.any) (.cons (.any) (.cons (.any) (.cons (.any) (.cons (.any) (.cons (.any) (.cons (.any) (.nil)))))))))))))))))))))))))))))))))))))))))
abbrev G86_CS : CSpec := ⟨[.fix (.yref 0), .dat (.int .i64), .dat (.int .i64)], [.lp 86 0 (.cons (.any) (.cons (.any) (.cons (.fix (.bptr 1 [])) (.cons (.fix (.bptr 2 [])) (.cons (.fix (.bptr 3 [])) (.cons (.fix (.bptr 4 [])) AN40)))))), .ip T88, .dat (.int .i64), .dat (.int .i64), .dat (.int .i64)], 0, [.lp 86 0 (.cons (.any) (.cons (.any) (.cons (.fix (.bptr 1 [])) (.cons (.fix (.bptr 2 [])) (.cons (.fix (.bptr 3 [])) (.cons (.fix (.bptr 4 [])) AN40)))))), .ip T88, .dat (.int .i64), .dat (.int .i64), .dat (.int .i64)], 0, .dat .bool⟩
noncomputable def G86_E : CEnt := boxE YLD G86_CS fun x => G86 x.1.1 x.1.2.1 x.2.1 x.2.2.1 x.2.2.2.1 x.2.2.2.2.1 x.2.2.2.2.2.1
theorem G86_LV : LV 5 Tryz.prog true (loopsOf (rfBody (lcode 86 0))) [] := by unfold LV; cases loopsOf (rfBody (lcode 86 0)) <;> trivial
theorem G86_hev : ∀ x : G86_CS.In, roundR Tryz.prog G86_C [] 86 0 (encs G86_CS.A x.1) ⟨encs G86_CS.I x.2, [], G86_CS.nt⟩ (finK G86_CS) = G86 x.1.1 x.1.2.1 x.2.1 x.2.2.1 x.2.2.2.1 x.2.2.2.2.1 x.2.2.2.2.2.1 := by
  intro x; kernel_rfl
theorem G86_valid : G86_E.Valid Tryz.prog :=
  boxE_valid (S := G86_CS) (by kernel_rfl) (.inl rfl) (rd_lcall' (S := G86_CS) mixed G86_CV (by kernel_rfl) G86_LV ⟨_, rfl⟩ (by decide) (by kernel_rfl) (by kernel_rfl) G86_hev)
noncomputable def G90_C : CalT := tabC [G86_E]
theorem G90_CV : CV Tryz.prog G90_C := tabC_valid (l := _) ⟨G86_valid, trivial⟩
noncomputable def G90_l0_c : Code := loopAt (bodyOf Tryz.f90) 0
abbrev PA1 : PTy := (.cons (.any) (.cons (.any) (.cons (.fix (.bptr 1 [])) (.cons (.fix (.bptr 2 [])) (.cons (.fix (.bptr 3 [])) (.cons (.fix (.bptr 4 [])) AN40))))))
noncomputable def G90_l0_S : SPat := ⟨[.ip T88, .fix (.yref 0), .any, .any, .any, .any, .any, .any, .any, .any, .any, .dat (.list T65), .dat (.int .i64), .dat (.int .i64), .any, .any, .any, .any, .any, .any, .any, .any, .any, .any, .any, .any, .any, .any, .any, .any, .any, .any, .any, .any, .any, .any, .any, .any, .any, .any, .any, .any, .any, .any], [.lp 86 0 PA1, .ip T88, .dat (.int .i64), .dat (.int .i64), .dat (.int .i64)], 0⟩
abbrev TY2 : Type := (Nat × ((E88 × ((List E65) × (Int × (Int × Unit)))) × ((Nat × UT46) × (E88 × (Int × (Int × (Int × Unit)))))))
noncomputable def G90_l0_step (s : ((E88 × ((List E65) × (Int × (Int × Unit)))) × ((Nat × UT46) × (E88 × (Int × (Int × (Int × Unit))))))) : Option TY2 :=
  (bif (decide (s.1.2.2.2.1 < s.1.2.2.1)) then
  (bif (decide (0 ≤ s.1.2.2.2.1) && decide (s.1.2.2.2.1 < (List.length s.1.2.1 : Int))) then
    (bif (decide (0 ≤ s.1.2.2.2.1) && decide (s.1.2.2.2.1 < (List.length s.1.1.2.1.1 : Int))) then
      (bif (s.1.2.2.2.1 == (IntKind.wrap .i64 ((List.length s.1.1.1.1 : Int) - 1))) then
        (Option.bind (G86 s.1.2.2.2.1 (-1) (s.2.1.1, UC46) s.2.2.1 s.2.2.2.1 s.2.2.2.2.1 s.2.2.2.2.2.1) fun r1 =>
          (bif (!r1.1) then
            some (1, ((s.1.1, (s.1.2.1, (s.1.2.2.1, (s.1.2.2.2.1, ())))), ((r1.2.1.1, UC46), (r1.2.2.1, (r1.2.2.2.1, (r1.2.2.2.2.1, (r1.2.2.2.2.2.1, ())))))))
            else
            some (0, ((s.1.1, (s.1.2.1, (s.1.2.2.1, ((IntKind.wrap .i64 (s.1.2.2.2.1 + 1)), ())))), ((r1.2.1.1, UC46), (r1.2.2.1, (r1.2.2.2.1, (r1.2.2.2.2.1, (r1.2.2.2.2.2.1, ())))))))))
        else
        (Option.bind (G86 s.1.2.2.2.1 (IntKind.wrap .i64 ((List.getD s.1.2.1 (Int.toNat s.1.2.2.2.1) (0, ((0, (0, ())), ()))).1 * (List.getD s.1.1.2.1.1 (Int.toNat s.1.2.2.2.1) 0))) (s.2.1.1, UC46) s.2.2.1 s.2.2.2.1 s.2.2.2.2.1 s.2.2.2.2.2.1) fun r2 =>
          (bif (!r2.1) then
            some (1, ((s.1.1, (s.1.2.1, (s.1.2.2.1, (s.1.2.2.2.1, ())))), ((r2.2.1.1, UC46), (r2.2.2.1, (r2.2.2.2.1, (r2.2.2.2.2.1, (r2.2.2.2.2.2.1, ())))))))
            else
            some (0, ((s.1.1, (s.1.2.1, (s.1.2.2.1, ((IntKind.wrap .i64 (s.1.2.2.2.1 + 1)), ())))), ((r2.2.1.1, UC46), (r2.2.2.1, (r2.2.2.2.1, (r2.2.2.2.2.1, (r2.2.2.2.2.2.1, ()))))))))))
      else
      none)
    else
    none)
  else
  some (2, ((s.1.1, (s.1.2.1, (s.1.2.2.1, (s.1.2.2.2.1, ())))), ((s.2.1.1, UC46), (s.2.2.1, (s.2.2.2.1, (s.2.2.2.2.1, (s.2.2.2.2.2.1, ()))))))))
noncomputable def G90_l0_fuel (s : ((E88 × ((List E65) × (Int × (Int × Unit)))) × ((Nat × UT46) × (E88 × (Int × (Int × (Int × Unit))))))) : Nat := Int.toNat (s.1.2.2.1 - s.1.2.2.2.1) + 1
noncomputable def G90_l0_run (s : ((E88 × ((List E65) × (Int × (Int × Unit)))) × ((Nat × UT46) × (E88 × (Int × (Int × (Int × Unit))))))) : Option TY2 := iter G90_l0_step (G90_l0_fuel s) s
noncomputable def G90_l0_L : LoopT := loopT G90_l0_S [.ret, .exit 0] G90_l0_run
noncomputable def G90 (a0 : E88) (b1 : (Nat × UT46)) (b2 : E88) (b3 : Int) (b4 : Int) (b5 : Int) : Option (Unit × ((Nat × UT46) × (E88 × (Int × (Int × (Int × Unit)))))) :=
  (Option.bind (G90_l0_run ((a0, (a0.1.1, ((List.length a0.1.1 : Int), (0, ())))), ((b1.1, UC46), (b2, (b3, (b4, (b5, ()))))))) fun q3 =>
  (natK q3.1
    (some ((), ((q3.2.2.1.1, UC46), (q3.2.2.2.1, (q3.2.2.2.2.1, (q3.2.2.2.2.2.1, (q3.2.2.2.2.2.2.1, ())))))))
    (fun _ => some ((), ((q3.2.2.1.1, UC46), (q3.2.2.2.1, (q3.2.2.2.2.1, (q3.2.2.2.2.2.1, (q3.2.2.2.2.2.2.1, ())))))))))
abbrev G90_CS : CSpec := ⟨[.ip T88, .fix (.yref 0)], [.lp 86 0 (.cons (.any) (.cons (.any) (.cons (.fix (.bptr 1 [])) (.cons (.fix (.bptr 2 [])) (.cons (.fix (.bptr 3 [])) (.cons (.fix (.bptr 4 [])) AN40)))))), .ip T88, .dat (.int .i64), .dat (.int .i64), .dat (.int .i64)], 0, [.lp 86 0 (.cons (.any) (.cons (.any) (.cons (.fix (.bptr 1 [])) (.cons (.fix (.bptr 2 [])) (.cons (.fix (.bptr 3 [])) (.cons (.fix (.bptr 4 [])) AN40)))))), .ip T88, .dat (.int .i64), .dat (.int .i64), .dat (.int .i64)], 0, .tup (.nil)⟩
noncomputable def G90_E : CEnt := boxE 90 G90_CS fun x => G90 x.1.1 x.2.1 x.2.2.1 x.2.2.2.1 x.2.2.2.2.1 x.2.2.2.2.2.1
theorem G90_l0_V : LValid 5 Tryz.prog (.loop G90_l0_c) G90_l0_L false := by
  have hb : ∀ s, codeR Tryz.prog G90_C G90_l0_c [] (G90_l0_S.encE s) (G90_l0_S.encB s) (kst G90_l0_S [.ret, .exit 0]) = G90_l0_step s := by
    intro s; kernel_rfl
  have hL : LV 5 Tryz.prog false (loopsOf G90_l0_c) [] := by unfold LV; cases loopsOf G90_l0_c <;> trivial
  exact loopT_valid (fuel := G90_l0_fuel) mixed G90_CV hL (by kernel_rfl) (by decide) rfl hb (fun s r h => h)
theorem G90_LV : LV 5 Tryz.prog false (loopsOf (bodyOf Tryz.f90)) [G90_l0_L] := by
  have hl : loopsOf (bodyOf Tryz.f90) = [.loop G90_l0_c] := by kernel_rfl
  rw [hl]; exact ⟨G90_l0_V, trivial⟩
theorem G90_ent : Ent Tryz.prog 90 := ⟨by decide, enters_of Tryz.func90 (by kernel_rfl) rfl⟩
theorem G90_hev : ∀ x : G90_CS.In, fnR Tryz.prog G90_C [G90_l0_L] Tryz.f90 (bodyOf Tryz.f90) (encs G90_CS.A x.1) ⟨encs G90_CS.I x.2, [], G90_CS.nt⟩ (finK G90_CS) = G90 x.1.1 x.2.1 x.2.2.1 x.2.2.2.1 x.2.2.2.2.1 x.2.2.2.2.2.1 := by
  intro x; kernel_rfl
theorem G90_valid : G90_E.Valid Tryz.prog :=
  boxE_valid (S := G90_CS) (by kernel_rfl) (.inr G90_ent) (fn_lcall (S := G90_CS) mixed Tryz.func90 rfl G90_ent G90_CV G90_LV (by kernel_rfl) (by kernel_rfl) G90_hev)
noncomputable def g86_ground_followed_depth_C : CalT := tabC [G90_E]
theorem g86_ground_followed_depth_CV : CV Tryz.prog g86_ground_followed_depth_C := tabC_valid (l := _) ⟨G90_valid, trivial⟩
noncomputable def g86_ground_followed_depth_f0_L : LoopT := rfT g86_ground_followed_depth_C 86 0 (.tmp 9) [.normal, .ret]
noncomputable def g86_ground_followed_depth (a0 : E88) (a1 : Int) : Option Int :=
  (Option.bind (G90 a0 (0, UC46) a0 a1 0 0) fun r1 =>
  (bif (r1.2.1.1 == 0) then
    some r1.2.2.2.2.2.1
    else
    (bif (r1.2.1.1 == 3) then
      some r1.2.2.2.2.1
      else
      none)))
noncomputable def g86_ground_followed_depth_E : CEnt := viewE 86 [.ip T88, .dat (.int .i64)] (.dat (.int .i64)) fun x => g86_ground_followed_depth x.1 x.2.1
theorem g86_ground_followed_depth_f0_V : LValid 0 Tryz.prog (lcode 86 0) g86_ground_followed_depth_f0_L := rfT_valid' g86_ground_followed_depth_CV (by kernel_rfl)
theorem g86_ground_followed_depth_LV : LV 0 Tryz.prog false (loopsOf (bodyOf Tryz.f86)) [g86_ground_followed_depth_f0_L] := by
  have hl : loopsOf (bodyOf Tryz.f86) = [(lcode 86 0)] := by kernel_rfl
  rw [hl]; exact ⟨g86_ground_followed_depth_f0_V, trivial⟩
theorem g86_ground_followed_depth_ent : Ent Tryz.prog 86 := ⟨by decide, enters_of Tryz.func86 (by kernel_rfl) rfl⟩
theorem g86_ground_followed_depth_hev : ∀ x, fnR Tryz.prog g86_ground_followed_depth_C [g86_ground_followed_depth_f0_L] Tryz.f86 (bodyOf Tryz.f86) (encs [.ip T88, .dat (.int .i64)] x) ⟨[], [], 0⟩ (frzF (.dat (.int .i64))) = g86_ground_followed_depth x.1 x.2.1 := by
  intro x; kernel_rfl
theorem g86_ground_followed_depth_valid : g86_ground_followed_depth_E.Valid Tryz.prog :=
  viewE_valid (by kernel_rfl) (by kernel_rfl) g86_ground_followed_depth_ent (frz_lcall mixed Tryz.func86 rfl g86_ground_followed_depth_ent g86_ground_followed_depth_CV g86_ground_followed_depth_LV (by kernel_rfl) (by kernel_rfl) g86_ground_followed_depth_hev)
noncomputable def G67_C : CalT := tabC [g86_ground_followed_depth_E]
theorem G67_CV : CV Tryz.prog G67_C := tabC_valid (l := _) ⟨g86_ground_followed_depth_valid, trivial⟩
abbrev TY3 : Type := (E25 × (((List Int) × ((List Int) × ((List Int) × ((List Int) × ((List Int) × Unit))))) × (Int × (Int × (Int × (Int × ((List Int) × ((List Int) × ((Int × (Int × (Int × Unit))) × Unit)))))))))
abbrev TY4 : Type := (Unit × ((E25 × (((List Int) × ((List Int) × ((List Int) × ((List Int) × ((List Int) × Unit))))) × (Int × (Int × (Int × (Int × ((List Int) × ((List Int) × ((Int × (Int × (Int × Unit))) × Unit))))))))) × Unit))
noncomputable def G67 (b0 : TY3) : Option TY4 :=
  (bif (decide (0 ≤ b0.2.2.2.1) && decide (b0.2.2.2.1 < (List.length b0.2.1.2.1 : Int))) then
  (bif (decide (0 ≤ b0.2.2.2.1) && decide (b0.2.2.2.1 < (List.length b0.2.1.2.2.1 : Int))) then
    (Option.bind (g86_ground_followed_depth (b0.1, (b0.2.1, (b0.2.2.1, (b0.2.2.2.1, ((if (IntKind.wrap .i64 (b0.2.2.2.2.2.1 + (IntKind.wrap .i64 ((List.getD b0.2.1.2.1 (Int.toNat b0.2.2.2.1) 0) + (List.getD b0.2.1.2.2.1 (Int.toNat b0.2.2.2.1) 0))))) > b0.2.2.2.2.1 then (IntKind.wrap .i64 (b0.2.2.2.2.2.1 + (IntKind.wrap .i64 ((List.getD b0.2.1.2.1 (Int.toNat b0.2.2.2.1) 0) + (List.getD b0.2.1.2.2.1 (Int.toNat b0.2.2.2.1) 0))))) else b0.2.2.2.2.1), ((IntKind.wrap .i64 (b0.2.2.2.2.2.1 + (IntKind.wrap .i64 ((List.getD b0.2.1.2.1 (Int.toNat b0.2.2.2.1) 0) + (List.getD b0.2.1.2.2.1 (Int.toNat b0.2.2.2.1) 0))))), (b0.2.2.2.2.2.2.1, (b0.2.2.2.2.2.2.2.1, (((IntKind.wrap .i64 (b0.2.2.2.2.2.2.2.2.1.1 + (IntKind.wrap .i64 ((List.getD b0.2.1.2.1 (Int.toNat b0.2.2.2.1) 0) + (List.getD b0.2.1.2.2.1 (Int.toNat b0.2.2.2.1) 0))))), b0.2.2.2.2.2.2.2.2.1.2), b0.2.2.2.2.2.2.2.2.2))))))))) (if (IntKind.wrap .i64 (b0.2.2.2.2.2.1 + (IntKind.wrap .i64 ((List.getD b0.2.1.2.1 (Int.toNat b0.2.2.2.1) 0) + (List.getD b0.2.1.2.2.1 (Int.toNat b0.2.2.2.1) 0))))) > b0.2.2.2.2.1 then (IntKind.wrap .i64 (b0.2.2.2.2.2.1 + (IntKind.wrap .i64 ((List.getD b0.2.1.2.1 (Int.toNat b0.2.2.2.1) 0) + (List.getD b0.2.1.2.2.1 (Int.toNat b0.2.2.2.1) 0))))) else b0.2.2.2.2.1)) fun r1 =>
      (bif (decide (List.length b0.2.2.2.2.2.2.1 + List.length [r1] ≤ LIM)) then
        some ((), ((b0.1, (b0.2.1, (b0.2.2.1, (b0.2.2.2.1, ((if (IntKind.wrap .i64 (b0.2.2.2.2.2.1 + (IntKind.wrap .i64 ((List.getD b0.2.1.2.1 (Int.toNat b0.2.2.2.1) 0) + (List.getD b0.2.1.2.2.1 (Int.toNat b0.2.2.2.1) 0))))) > b0.2.2.2.2.1 then (IntKind.wrap .i64 (b0.2.2.2.2.2.1 + (IntKind.wrap .i64 ((List.getD b0.2.1.2.1 (Int.toNat b0.2.2.2.1) 0) + (List.getD b0.2.1.2.2.1 (Int.toNat b0.2.2.2.1) 0))))) else b0.2.2.2.2.1), ((IntKind.wrap .i64 (b0.2.2.2.2.2.1 + (IntKind.wrap .i64 ((List.getD b0.2.1.2.1 (Int.toNat b0.2.2.2.1) 0) + (List.getD b0.2.1.2.2.1 (Int.toNat b0.2.2.2.1) 0))))), ((b0.2.2.2.2.2.2.1 ++ [r1]), (b0.2.2.2.2.2.2.2.1, (((IntKind.wrap .i64 (b0.2.2.2.2.2.2.2.2.1.1 + (IntKind.wrap .i64 ((List.getD b0.2.1.2.1 (Int.toNat b0.2.2.2.1) 0) + (List.getD b0.2.1.2.2.1 (Int.toNat b0.2.2.2.1) 0))))), b0.2.2.2.2.2.2.2.2.1.2), b0.2.2.2.2.2.2.2.2.2))))))))), ()))
        else
        none))
    else
    none)
  else
  none)
abbrev G67_CS : CSpec := ⟨[.fix (.bptr 0 [])], [.cons (.dat T25) (.cons (.cons (.dat (.list (.int .i64))) (.cons (.dat (.list (.int .i64))) (.cons (.dat (.list (.int .i64))) (.cons (.dat (.list (.int .i64))) (.cons (.dat (.list (.int .i64))) (.nil)))))) (.cons (.dat (.int .i64)) (.cons (.dat (.int .i64)) (.cons (.dat (.int .i64)) (.cons (.dat (.int .i64)) (.cons (.own 0 (.int .i64)) (.cons (.own 1 (.int .i64)) (.cons (.cons (.dat (.int .i64)) (.cons (.dat (.int .i64)) (.cons (.dat (.int .i64)) (.nil)))) (.nil)))))))))], 2, [.cons (.dat T25) (.cons (.cons (.dat (.list (.int .i64))) (.cons (.dat (.list (.int .i64))) (.cons (.dat (.list (.int .i64))) (.cons (.dat (.list (.int .i64))) (.cons (.dat (.list (.int .i64))) (.nil)))))) (.cons (.dat (.int .i64)) (.cons (.dat (.int .i64)) (.cons (.dat (.int .i64)) (.cons (.dat (.int .i64)) (.cons (.own 0 (.int .i64)) (.cons (.own 1 (.int .i64)) (.cons (.cons (.dat (.int .i64)) (.cons (.dat (.int .i64)) (.cons (.dat (.int .i64)) (.nil)))) (.nil)))))))))], 2, .tup (.nil)⟩
noncomputable def G67_E : CEnt := boxE 67 G67_CS fun x => G67 x.2.1
theorem G67_LV : LV 1 Tryz.prog false (loopsOf (bodyOf Tryz.f67)) [] := by unfold LV; cases loopsOf (bodyOf Tryz.f67) <;> trivial
theorem G67_ent : Ent Tryz.prog 67 := ⟨by decide, enters_of Tryz.func67 (by kernel_rfl) rfl⟩
theorem G67_hev : ∀ x : G67_CS.In, fnR Tryz.prog G67_C [] Tryz.f67 (bodyOf Tryz.f67) (encs G67_CS.A x.1) ⟨encs G67_CS.I x.2, [], G67_CS.nt⟩ (finK G67_CS) = G67 x.2.1 := by
  intro x; kernel_rfl
theorem G67_valid : G67_E.Valid Tryz.prog :=
  boxE_valid (S := G67_CS) (by kernel_rfl) (.inr G67_ent) (fn_lcall (S := G67_CS) mixed Tryz.func67 rfl G67_ent G67_CV G67_LV (by kernel_rfl) (by kernel_rfl) G67_hev)
noncomputable def G68_C : CalT := tabC []
theorem G68_CV : CV Tryz.prog G68_C := tabC_valid (l := _) trivial
noncomputable def G68 (b0 : TY3) : Option TY4 :=
  (bif (decide (0 ≤ b0.2.2.2.1) && decide (b0.2.2.2.1 < (List.length b0.2.1.2.2.2.1 : Int))) then
  (bif (decide (0 ≤ b0.2.2.2.1) && decide (b0.2.2.2.1 < (List.length b0.2.1.2.2.2.2.1 : Int))) then
    (bif ((IntKind.wrap .i64 (b0.2.2.2.2.2.1 - (if (IntKind.wrap .i64 (b0.2.2.1 + (IntKind.wrap .i64 (Int.tdiv (IntKind.wrap .i64 ((List.getD b0.2.1.2.2.2.1 (Int.toNat b0.2.2.2.1) 0) * (IntKind.wrap .i64 ((1000 : Int) - (List.getD b0.2.1.2.2.2.2.1 (Int.toNat b0.2.2.2.1) 0))))) 1000)))) < b0.2.2.2.2.2.1 then (IntKind.wrap .i64 (b0.2.2.1 + (IntKind.wrap .i64 (Int.tdiv (IntKind.wrap .i64 ((List.getD b0.2.1.2.2.2.1 (Int.toNat b0.2.2.2.1) 0) * (IntKind.wrap .i64 ((1000 : Int) - (List.getD b0.2.1.2.2.2.2.1 (Int.toNat b0.2.2.2.1) 0))))) 1000)))) else b0.2.2.2.2.2.1))) == 0) then
      (bif (decide (List.length b0.2.2.2.2.2.2.2.1 + List.length [(IntKind.wrap .i64 (b0.2.2.2.2.2.1 - (if (IntKind.wrap .i64 (b0.2.2.1 + (IntKind.wrap .i64 (Int.tdiv (IntKind.wrap .i64 ((List.getD b0.2.1.2.2.2.1 (Int.toNat b0.2.2.2.1) 0) * (IntKind.wrap .i64 ((1000 : Int) - (List.getD b0.2.1.2.2.2.2.1 (Int.toNat b0.2.2.2.1) 0))))) 1000)))) < b0.2.2.2.2.2.1 then (IntKind.wrap .i64 (b0.2.2.1 + (IntKind.wrap .i64 (Int.tdiv (IntKind.wrap .i64 ((List.getD b0.2.1.2.2.2.1 (Int.toNat b0.2.2.2.1) 0) * (IntKind.wrap .i64 ((1000 : Int) - (List.getD b0.2.1.2.2.2.2.1 (Int.toNat b0.2.2.2.1) 0))))) 1000)))) else b0.2.2.2.2.2.1)))] ≤ LIM)) then
        some ((), ((b0.1, (b0.2.1, (b0.2.2.1, (b0.2.2.2.1, (0, ((IntKind.wrap .i64 (b0.2.2.2.2.2.1 - (if (IntKind.wrap .i64 (b0.2.2.1 + (IntKind.wrap .i64 (Int.tdiv (IntKind.wrap .i64 ((List.getD b0.2.1.2.2.2.1 (Int.toNat b0.2.2.2.1) 0) * (IntKind.wrap .i64 ((1000 : Int) - (List.getD b0.2.1.2.2.2.2.1 (Int.toNat b0.2.2.2.1) 0))))) 1000)))) < b0.2.2.2.2.2.1 then (IntKind.wrap .i64 (b0.2.2.1 + (IntKind.wrap .i64 (Int.tdiv (IntKind.wrap .i64 ((List.getD b0.2.1.2.2.2.1 (Int.toNat b0.2.2.2.1) 0) * (IntKind.wrap .i64 ((1000 : Int) - (List.getD b0.2.1.2.2.2.2.1 (Int.toNat b0.2.2.2.1) 0))))) 1000)))) else b0.2.2.2.2.2.1))), (b0.2.2.2.2.2.2.1, ((b0.2.2.2.2.2.2.2.1 ++ [(IntKind.wrap .i64 (b0.2.2.2.2.2.1 - (if (IntKind.wrap .i64 (b0.2.2.1 + (IntKind.wrap .i64 (Int.tdiv (IntKind.wrap .i64 ((List.getD b0.2.1.2.2.2.1 (Int.toNat b0.2.2.2.1) 0) * (IntKind.wrap .i64 ((1000 : Int) - (List.getD b0.2.1.2.2.2.2.1 (Int.toNat b0.2.2.2.1) 0))))) 1000)))) < b0.2.2.2.2.2.1 then (IntKind.wrap .i64 (b0.2.2.1 + (IntKind.wrap .i64 (Int.tdiv (IntKind.wrap .i64 ((List.getD b0.2.1.2.2.2.1 (Int.toNat b0.2.2.2.1) 0) * (IntKind.wrap .i64 ((1000 : Int) - (List.getD b0.2.1.2.2.2.2.1 (Int.toNat b0.2.2.2.1) 0))))) 1000)))) else b0.2.2.2.2.2.1)))]), ((b0.2.2.2.2.2.2.2.2.1.1, ((IntKind.wrap .i64 (b0.2.2.2.2.2.2.2.2.1.2.1 + (if (IntKind.wrap .i64 (b0.2.2.1 + (IntKind.wrap .i64 (Int.tdiv (IntKind.wrap .i64 ((List.getD b0.2.1.2.2.2.1 (Int.toNat b0.2.2.2.1) 0) * (IntKind.wrap .i64 ((1000 : Int) - (List.getD b0.2.1.2.2.2.2.1 (Int.toNat b0.2.2.2.1) 0))))) 1000)))) < b0.2.2.2.2.2.1 then (IntKind.wrap .i64 (b0.2.2.1 + (IntKind.wrap .i64 (Int.tdiv (IntKind.wrap .i64 ((List.getD b0.2.1.2.2.2.1 (Int.toNat b0.2.2.2.1) 0) * (IntKind.wrap .i64 ((1000 : Int) - (List.getD b0.2.1.2.2.2.2.1 (Int.toNat b0.2.2.2.1) 0))))) 1000)))) else b0.2.2.2.2.2.1))), ((IntKind.wrap .i64 (b0.2.2.2.2.2.1 - (if (IntKind.wrap .i64 (b0.2.2.1 + (IntKind.wrap .i64 (Int.tdiv (IntKind.wrap .i64 ((List.getD b0.2.1.2.2.2.1 (Int.toNat b0.2.2.2.1) 0) * (IntKind.wrap .i64 ((1000 : Int) - (List.getD b0.2.1.2.2.2.2.1 (Int.toNat b0.2.2.2.1) 0))))) 1000)))) < b0.2.2.2.2.2.1 then (IntKind.wrap .i64 (b0.2.2.1 + (IntKind.wrap .i64 (Int.tdiv (IntKind.wrap .i64 ((List.getD b0.2.1.2.2.2.1 (Int.toNat b0.2.2.2.1) 0) * (IntKind.wrap .i64 ((1000 : Int) - (List.getD b0.2.1.2.2.2.2.1 (Int.toNat b0.2.2.2.1) 0))))) 1000)))) else b0.2.2.2.2.2.1))), b0.2.2.2.2.2.2.2.2.1.2.2.2))), b0.2.2.2.2.2.2.2.2.2))))))))), ()))
        else
        none)
      else
      (bif (decide (List.length b0.2.2.2.2.2.2.2.1 + List.length [(IntKind.wrap .i64 (b0.2.2.2.2.2.1 - (if (IntKind.wrap .i64 (b0.2.2.1 + (IntKind.wrap .i64 (Int.tdiv (IntKind.wrap .i64 ((List.getD b0.2.1.2.2.2.1 (Int.toNat b0.2.2.2.1) 0) * (IntKind.wrap .i64 ((1000 : Int) - (List.getD b0.2.1.2.2.2.2.1 (Int.toNat b0.2.2.2.1) 0))))) 1000)))) < b0.2.2.2.2.2.1 then (IntKind.wrap .i64 (b0.2.2.1 + (IntKind.wrap .i64 (Int.tdiv (IntKind.wrap .i64 ((List.getD b0.2.1.2.2.2.1 (Int.toNat b0.2.2.2.1) 0) * (IntKind.wrap .i64 ((1000 : Int) - (List.getD b0.2.1.2.2.2.2.1 (Int.toNat b0.2.2.2.1) 0))))) 1000)))) else b0.2.2.2.2.2.1)))] ≤ LIM)) then
        some ((), ((b0.1, (b0.2.1, (b0.2.2.1, (b0.2.2.2.1, (b0.2.2.2.2.1, ((IntKind.wrap .i64 (b0.2.2.2.2.2.1 - (if (IntKind.wrap .i64 (b0.2.2.1 + (IntKind.wrap .i64 (Int.tdiv (IntKind.wrap .i64 ((List.getD b0.2.1.2.2.2.1 (Int.toNat b0.2.2.2.1) 0) * (IntKind.wrap .i64 ((1000 : Int) - (List.getD b0.2.1.2.2.2.2.1 (Int.toNat b0.2.2.2.1) 0))))) 1000)))) < b0.2.2.2.2.2.1 then (IntKind.wrap .i64 (b0.2.2.1 + (IntKind.wrap .i64 (Int.tdiv (IntKind.wrap .i64 ((List.getD b0.2.1.2.2.2.1 (Int.toNat b0.2.2.2.1) 0) * (IntKind.wrap .i64 ((1000 : Int) - (List.getD b0.2.1.2.2.2.2.1 (Int.toNat b0.2.2.2.1) 0))))) 1000)))) else b0.2.2.2.2.2.1))), (b0.2.2.2.2.2.2.1, ((b0.2.2.2.2.2.2.2.1 ++ [(IntKind.wrap .i64 (b0.2.2.2.2.2.1 - (if (IntKind.wrap .i64 (b0.2.2.1 + (IntKind.wrap .i64 (Int.tdiv (IntKind.wrap .i64 ((List.getD b0.2.1.2.2.2.1 (Int.toNat b0.2.2.2.1) 0) * (IntKind.wrap .i64 ((1000 : Int) - (List.getD b0.2.1.2.2.2.2.1 (Int.toNat b0.2.2.2.1) 0))))) 1000)))) < b0.2.2.2.2.2.1 then (IntKind.wrap .i64 (b0.2.2.1 + (IntKind.wrap .i64 (Int.tdiv (IntKind.wrap .i64 ((List.getD b0.2.1.2.2.2.1 (Int.toNat b0.2.2.2.1) 0) * (IntKind.wrap .i64 ((1000 : Int) - (List.getD b0.2.1.2.2.2.2.1 (Int.toNat b0.2.2.2.1) 0))))) 1000)))) else b0.2.2.2.2.2.1)))]), ((b0.2.2.2.2.2.2.2.2.1.1, ((IntKind.wrap .i64 (b0.2.2.2.2.2.2.2.2.1.2.1 + (if (IntKind.wrap .i64 (b0.2.2.1 + (IntKind.wrap .i64 (Int.tdiv (IntKind.wrap .i64 ((List.getD b0.2.1.2.2.2.1 (Int.toNat b0.2.2.2.1) 0) * (IntKind.wrap .i64 ((1000 : Int) - (List.getD b0.2.1.2.2.2.2.1 (Int.toNat b0.2.2.2.1) 0))))) 1000)))) < b0.2.2.2.2.2.1 then (IntKind.wrap .i64 (b0.2.2.1 + (IntKind.wrap .i64 (Int.tdiv (IntKind.wrap .i64 ((List.getD b0.2.1.2.2.2.1 (Int.toNat b0.2.2.2.1) 0) * (IntKind.wrap .i64 ((1000 : Int) - (List.getD b0.2.1.2.2.2.2.1 (Int.toNat b0.2.2.2.1) 0))))) 1000)))) else b0.2.2.2.2.2.1))), ((IntKind.wrap .i64 (b0.2.2.2.2.2.1 - (if (IntKind.wrap .i64 (b0.2.2.1 + (IntKind.wrap .i64 (Int.tdiv (IntKind.wrap .i64 ((List.getD b0.2.1.2.2.2.1 (Int.toNat b0.2.2.2.1) 0) * (IntKind.wrap .i64 ((1000 : Int) - (List.getD b0.2.1.2.2.2.2.1 (Int.toNat b0.2.2.2.1) 0))))) 1000)))) < b0.2.2.2.2.2.1 then (IntKind.wrap .i64 (b0.2.2.1 + (IntKind.wrap .i64 (Int.tdiv (IntKind.wrap .i64 ((List.getD b0.2.1.2.2.2.1 (Int.toNat b0.2.2.2.1) 0) * (IntKind.wrap .i64 ((1000 : Int) - (List.getD b0.2.1.2.2.2.2.1 (Int.toNat b0.2.2.2.1) 0))))) 1000)))) else b0.2.2.2.2.2.1))), b0.2.2.2.2.2.2.2.2.1.2.2.2))), b0.2.2.2.2.2.2.2.2.2))))))))), ()))
        else
        none))
    else
    none)
  else
  none)
abbrev G68_CS : CSpec := ⟨[.fix (.bptr 0 [])], [.cons (.dat T25) (.cons (.cons (.dat (.list (.int .i64))) (.cons (.dat (.list (.int .i64))) (.cons (.dat (.list (.int .i64))) (.cons (.dat (.list (.int .i64))) (.cons (.dat (.list (.int .i64))) (.nil)))))) (.cons (.dat (.int .i64)) (.cons (.dat (.int .i64)) (.cons (.dat (.int .i64)) (.cons (.dat (.int .i64)) (.cons (.own 0 (.int .i64)) (.cons (.own 1 (.int .i64)) (.cons (.cons (.dat (.int .i64)) (.cons (.dat (.int .i64)) (.cons (.dat (.int .i64)) (.nil)))) (.nil)))))))))], 2, [.cons (.dat T25) (.cons (.cons (.dat (.list (.int .i64))) (.cons (.dat (.list (.int .i64))) (.cons (.dat (.list (.int .i64))) (.cons (.dat (.list (.int .i64))) (.cons (.dat (.list (.int .i64))) (.nil)))))) (.cons (.dat (.int .i64)) (.cons (.dat (.int .i64)) (.cons (.dat (.int .i64)) (.cons (.dat (.int .i64)) (.cons (.own 0 (.int .i64)) (.cons (.own 1 (.int .i64)) (.cons (.cons (.dat (.int .i64)) (.cons (.dat (.int .i64)) (.cons (.dat (.int .i64)) (.nil)))) (.nil)))))))))], 2, .tup (.nil)⟩
noncomputable def G68_E : CEnt := boxE 68 G68_CS fun x => G68 x.2.1
theorem G68_LV : LV 1 Tryz.prog false (loopsOf (bodyOf Tryz.f68)) [] := by unfold LV; cases loopsOf (bodyOf Tryz.f68) <;> trivial
theorem G68_ent : Ent Tryz.prog 68 := ⟨by decide, enters_of Tryz.func68 (by kernel_rfl) rfl⟩
theorem G68_hev : ∀ x : G68_CS.In, fnR Tryz.prog G68_C [] Tryz.f68 (bodyOf Tryz.f68) (encs G68_CS.A x.1) ⟨encs G68_CS.I x.2, [], G68_CS.nt⟩ (finK G68_CS) = G68 x.2.1 := by
  intro x; kernel_rfl
theorem G68_valid : G68_E.Valid Tryz.prog :=
  boxE_valid (S := G68_CS) (by kernel_rfl) (.inr G68_ent) (fn_lcall (S := G68_CS) mixed Tryz.func68 rfl G68_ent G68_CV G68_LV (by kernel_rfl) (by kernel_rfl) G68_hev)
noncomputable def G47_C : CalT := tabC [G67_E, G68_E]
theorem G47_CV : CV Tryz.prog G47_C := tabC_valid (l := _) ⟨G67_valid, G68_valid, trivial⟩
noncomputable def G47_l0_c : Code := loopAt (bodyOf Tryz.f47) 0
noncomputable def G47_l1_c : Code := loopAt G47_l0_c 0
abbrev PA5 : PTy := (.cons (.cons (.dat (.list (.int .i64))) (.cons (.dat (.list (.int .i64))) (.cons (.dat (.list (.int .i64))) (.cons (.dat (.list (.int .i64))) (.cons (.dat (.list (.int .i64))) (.nil)))))) (.cons (.dat (.int .i64)) (.cons (.dat (.int .i64)) (.cons (.dat (.int .i64)) (.cons (.dat (.int .i64)) (.cons (.own 0 (.int .i64)) (.cons (.own 1 (.int .i64)) (.cons (.cons (.dat (.int .i64)) (.cons (.dat (.int .i64)) (.cons (.dat (.int .i64)) (.nil)))) (.nil)))))))))
noncomputable def G47_l1_S : SPat := ⟨[.fix (.bptr 0 []), .any, .any, .any, .any, .any, .any, .any, .any, .any, .dat (.int .i64), .dat (.int .i64), .any, .any, .any, .any, .any, .any, .any, .any, .any, .cons (.fix (.func (.func 67) (.cons (.bptr 0 []) .nil) .nil)) (.cons (.fix (.func (.func 68) (.cons (.bptr 0 []) .nil) .nil)) (.nil)), .dat (.int .i64), .any, .any, .any, .any, .any, .any, .any], [.cons (.dat T25) PA5], 2⟩
abbrev TY6 : Type := ((Int × (Int × ((Unit × (Unit × Unit)) × (Int × Unit)))) × ((E25 × (((List Int) × ((List Int) × ((List Int) × ((List Int) × ((List Int) × Unit))))) × (Int × (Int × (Int × (Int × ((List Int) × ((List Int) × ((Int × (Int × (Int × Unit))) × Unit))))))))) × Unit))
abbrev TY7 : Type := (Nat × ((Int × (Int × ((Unit × (Unit × Unit)) × (Int × Unit)))) × ((E25 × (((List Int) × ((List Int) × ((List Int) × ((List Int) × ((List Int) × Unit))))) × (Int × (Int × (Int × (Int × ((List Int) × ((List Int) × ((Int × (Int × (Int × Unit))) × Unit))))))))) × Unit)))
noncomputable def G47_l1_step (s : TY6) : Option TY7 :=
  (bif (decide (s.1.2.2.2.1 < 2)) then
  (bif (decide (s.1.2.2.2.1 = (0 : Int))) then
    (Option.bind (G67 s.2.1) fun r1 =>
      some (0, ((s.1.1, (s.1.2.1, (((), ((), s.1.2.2.1.2.2)), ((IntKind.wrap .i64 (s.1.2.2.2.1 + 1)), ())))), (r1.2.1, ()))))
    else
    (bif (decide (s.1.2.2.2.1 = (1 : Int))) then
      (Option.bind (G68 s.2.1) fun r2 =>
        some (0, ((s.1.1, (s.1.2.1, (((), ((), s.1.2.2.1.2.2)), ((IntKind.wrap .i64 (s.1.2.2.2.1 + 1)), ())))), (r2.2.1, ()))))
      else
      none))
  else
  some (1, ((s.1.1, (s.1.2.1, (((), ((), s.1.2.2.1.2.2)), (s.1.2.2.2.1, ())))), (s.2.1, ()))))
noncomputable def G47_l1_fuel (s : TY6) : Nat := Int.toNat (2 - s.1.2.2.2.1) + 1
noncomputable def G47_l1_run (s : TY6) : Option TY7 := iter G47_l1_step (G47_l1_fuel s) s
noncomputable def G47_l1_L : LoopT := loopT G47_l1_S [.exit 2] G47_l1_run
noncomputable def G47_l0_S : SPat := ⟨[.fix (.bptr 0 []), .any, .any, .any, .any, .any, .any, .any, .any, .any, .dat (.int .i64), .dat (.int .i64), .any, .any, .any, .any, .any, .any, .any, .any, .any, .any, .any, .any, .any, .any, .any, .any, .any, .any], [.cons (.dat T25) PA5], 2⟩
abbrev TY8 : Type := ((Int × (Int × Unit)) × ((E25 × (((List Int) × ((List Int) × ((List Int) × ((List Int) × ((List Int) × Unit))))) × (Int × (Int × (Int × (Int × ((List Int) × ((List Int) × ((Int × (Int × (Int × Unit))) × Unit))))))))) × Unit))
abbrev TY9 : Type := (Nat × ((Int × (Int × Unit)) × ((E25 × (((List Int) × ((List Int) × ((List Int) × ((List Int) × ((List Int) × Unit))))) × (Int × (Int × (Int × (Int × ((List Int) × ((List Int) × ((Int × (Int × (Int × Unit))) × Unit))))))))) × Unit)))
noncomputable def G47_l0_step (s : TY8) : Option TY9 :=
  (bif (decide (s.1.2.1 < s.1.1)) then
  (Option.bind (G47_l1_run ((s.1.1, (s.1.2.1, (((), ((), ())), (0, ())))), ((s.2.1.1, (s.2.1.2.1, (s.2.1.2.2.1, (s.1.2.1, s.2.1.2.2.2.2)))), ()))) fun q3 =>
    some (0, ((q3.2.1.1, ((IntKind.wrap .i64 (q3.2.1.2.1 + 1)), ())), (q3.2.2.1, ()))))
  else
  some (1, ((s.1.1, (s.1.2.1, ())), (s.2.1, ()))))
noncomputable def G47_l0_fuel (s : TY8) : Nat := Int.toNat (s.1.1 - s.1.2.1) + 1
noncomputable def G47_l0_run (s : TY8) : Option TY9 := iter G47_l0_step (G47_l0_fuel s) s
noncomputable def G47_l0_L : LoopT := loopT G47_l0_S [.exit 0] G47_l0_run
noncomputable def G47 (b0 : TY3) : Option TY4 :=
  (Option.bind (G47_l0_run (((List.length b0.2.1.2.2.1 : Int), (0, ())), (b0, ()))) fun q4 =>
  some ((), (q4.2.2.1, ())))
abbrev G47_CS : CSpec := ⟨[.fix (.bptr 0 [])], [.cons (.dat T25) (.cons (.cons (.dat (.list (.int .i64))) (.cons (.dat (.list (.int .i64))) (.cons (.dat (.list (.int .i64))) (.cons (.dat (.list (.int .i64))) (.cons (.dat (.list (.int .i64))) (.nil)))))) (.cons (.dat (.int .i64)) (.cons (.dat (.int .i64)) (.cons (.dat (.int .i64)) (.cons (.dat (.int .i64)) (.cons (.own 0 (.int .i64)) (.cons (.own 1 (.int .i64)) (.cons (.cons (.dat (.int .i64)) (.cons (.dat (.int .i64)) (.cons (.dat (.int .i64)) (.nil)))) (.nil)))))))))], 2, [.cons (.dat T25) (.cons (.cons (.dat (.list (.int .i64))) (.cons (.dat (.list (.int .i64))) (.cons (.dat (.list (.int .i64))) (.cons (.dat (.list (.int .i64))) (.cons (.dat (.list (.int .i64))) (.nil)))))) (.cons (.dat (.int .i64)) (.cons (.dat (.int .i64)) (.cons (.dat (.int .i64)) (.cons (.dat (.int .i64)) (.cons (.own 0 (.int .i64)) (.cons (.own 1 (.int .i64)) (.cons (.cons (.dat (.int .i64)) (.cons (.dat (.int .i64)) (.cons (.dat (.int .i64)) (.nil)))) (.nil)))))))))], 2, .fix (.bptr 0 [])⟩
noncomputable def G47_E : CEnt := boxE 47 G47_CS fun x => G47 x.2.1
theorem G47_l1_V : LValid 1 Tryz.prog (.loop G47_l1_c) G47_l1_L false := by
  have hb : ∀ s, codeR Tryz.prog G47_C G47_l1_c [] (G47_l1_S.encE s) (G47_l1_S.encB s) (kst G47_l1_S [.exit 2]) = G47_l1_step s := by
    intro s; kernel_rfl
  have hL : LV 1 Tryz.prog false (loopsOf G47_l1_c) [] := by unfold LV; cases loopsOf G47_l1_c <;> trivial
  exact loopT_valid (fuel := G47_l1_fuel) mixed G47_CV hL (by kernel_rfl) (by decide) rfl hb (fun s r h => h)
theorem G47_l0_V : LValid 1 Tryz.prog (.loop G47_l0_c) G47_l0_L false := by
  have hb : ∀ s, codeR Tryz.prog G47_C G47_l0_c [G47_l1_L] (G47_l0_S.encE s) (G47_l0_S.encB s) (kst G47_l0_S [.exit 0]) = G47_l0_step s := by
    intro s; kernel_rfl
  have hl : loopsOf G47_l0_c = [.loop G47_l1_c] := by kernel_rfl
  have hL : LV 1 Tryz.prog false (loopsOf G47_l0_c) [G47_l1_L] := by rw [hl]; exact ⟨G47_l1_V, trivial⟩
  exact loopT_valid (fuel := G47_l0_fuel) mixed G47_CV hL (by kernel_rfl) (by decide) rfl hb (fun s r h => h)
theorem G47_LV : LV 1 Tryz.prog false (loopsOf (bodyOf Tryz.f47)) [G47_l0_L] := by
  have hl : loopsOf (bodyOf Tryz.f47) = [.loop G47_l0_c] := by kernel_rfl
  rw [hl]; exact ⟨G47_l0_V, trivial⟩
theorem G47_ent : Ent Tryz.prog 47 := ⟨by decide, enters_of Tryz.func47 (by kernel_rfl) rfl⟩
theorem G47_hev : ∀ x : G47_CS.In, fnR Tryz.prog G47_C [G47_l0_L] Tryz.f47 (bodyOf Tryz.f47) (encs G47_CS.A x.1) ⟨encs G47_CS.I x.2, [], G47_CS.nt⟩ (finK G47_CS) = G47 x.2.1 := by
  intro x; kernel_rfl
theorem G47_valid : G47_E.Valid Tryz.prog :=
  boxE_valid (S := G47_CS) (by kernel_rfl) (.inr G47_ent) (fn_lcall (S := G47_CS) mixed Tryz.func47 rfl G47_ent G47_CV G47_LV (by kernel_rfl) (by kernel_rfl) G47_hev)
noncomputable def G64_C : CalT := tabC [G79_E, G81_E, G81_v1_E, G81_v2_E, G81_v3_E, G47_E]
theorem G64_CV : CV Tryz.prog G64_C := tabC_valid (l := _) ⟨G79_valid, G81_valid, G81_v1_valid, G81_v2_valid, G81_v3_valid, G47_valid, trivial⟩
noncomputable def G64 (a0 : E25) (a1 : (List E91)) (a2 : Int) : Option E88 :=
  (Option.bind (G79 a0.1) fun r1 =>
  (Option.bind (G81 a1 a0) fun r2 =>
    (Option.bind (G81_v1 a1) fun r3 =>
      (Option.bind (G81_v2 a1) fun r4 =>
        (Option.bind (G81_v3 a1) fun r5 =>
          (Option.bind (G47 (r2.2.1, ((r1.1, (r2.1, (r3.1, (r4.1, (r5.1, ()))))), (a2, (0, (0, (0, ([], ([], ((0, (0, (0, ()))), ())))))))))) fun r6 =>
            some r6.2.1))))))
noncomputable def G64_E : CEnt := pureE 64 [.dat T25, .dat (.list T91), .fix (.func (.func 65) .nil .nil), .fix (.func (.func 66) .nil .nil), .dat (.int .i64)] (.ip T88) fun x => G64 x.1 x.2.1 x.2.2.1
theorem G64_LV : LV 0 Tryz.prog false (loopsOf (bodyOf Tryz.f64)) [] := by unfold LV; cases loopsOf (bodyOf Tryz.f64) <;> trivial
theorem G64_ent : Ent Tryz.prog 64 := ⟨by decide, enters_of Tryz.func64 (by kernel_rfl) rfl⟩
theorem G64_hev : ∀ x, fnR Tryz.prog G64_C [] Tryz.f64 (bodyOf Tryz.f64) (encs [.dat T25, .dat (.list T91), .fix (.func (.func 65) .nil .nil), .fix (.func (.func 66) .nil .nil), .dat (.int .i64)] x) ⟨[], [], 0⟩ (frzF (.ip T88)) = G64 x.1 x.2.1 x.2.2.1 := by
  intro x; kernel_rfl
theorem G64_valid : G64_E.Valid Tryz.prog :=
  pureE_valid (by kernel_rfl) (by kernel_rfl) G64_ent (frz_lcall mixed Tryz.func64 rfl G64_ent G64_CV G64_LV (by kernel_rfl) (by kernel_rfl) G64_hev)
noncomputable def G38_C : CalT := tabC [G64_E]
theorem G38_CV : CV Tryz.prog G38_C := tabC_valid (l := _) ⟨G64_valid, trivial⟩
noncomputable def G38 (a0 : E25) (a1 : (List E91)) : Option E88 :=
  (Option.bind (G64 a0 a1 0) fun r1 =>
  some r1)
noncomputable def G38_E : CEnt := pureE 38 [.dat T25, .dat (.list T91)] (.ip T88) fun x => G38 x.1 x.2.1
theorem G38_LV : LV 0 Tryz.prog false (loopsOf (bodyOf Tryz.f38)) [] := by unfold LV; cases loopsOf (bodyOf Tryz.f38) <;> trivial
theorem G38_ent : Ent Tryz.prog 38 := ⟨by decide, enters_of Tryz.func38 (by kernel_rfl) rfl⟩
theorem G38_hev : ∀ x, fnR Tryz.prog G38_C [] Tryz.f38 (bodyOf Tryz.f38) (encs [.dat T25, .dat (.list T91)] x) ⟨[], [], 0⟩ (frzF (.ip T88)) = G38 x.1 x.2.1 := by
  intro x; kernel_rfl
theorem G38_valid : G38_E.Valid Tryz.prog :=
  pureE_valid (by kernel_rfl) (by kernel_rfl) G38_ent (frz_lcall mixed Tryz.func38 rfl G38_ent G38_CV G38_LV (by kernel_rfl) (by kernel_rfl) G38_hev)
noncomputable def G80_v1_C : CalT := tabC [G65_E]
theorem G80_v1_CV : CV Tryz.prog G80_v1_C := tabC_valid (l := _) ⟨G65_valid, trivial⟩
noncomputable def G80_v1 (a0 : E65) : Option (Int × Unit) :=
  (Option.bind (G65 a0.2.1) fun r1 =>
  some (r1, ()))
abbrev G80_v1_CS : CSpec := ⟨[.dat T65, .fix (.bptr 0 [])], [.fix (.func (.func 65) .nil .nil)], 0, [.fix (.func (.func 65) .nil .nil)], 0, .dat (.int .i64)⟩
noncomputable def G80_v1_E : CEnt := boxE 80 G80_v1_CS fun x => G80_v1 x.1.1
theorem G80_v1_LV : LV 1 Tryz.prog false (loopsOf (bodyOf Tryz.f80)) [] := by unfold LV; cases loopsOf (bodyOf Tryz.f80) <;> trivial
theorem G80_v1_ent : Ent Tryz.prog 80 := ⟨by decide, enters_of Tryz.func80 (by kernel_rfl) rfl⟩
theorem G80_v1_hev : ∀ x : G80_v1_CS.In, fnR Tryz.prog G80_v1_C [] Tryz.f80 (bodyOf Tryz.f80) (encs G80_v1_CS.A x.1) ⟨encs G80_v1_CS.I x.2, [], G80_v1_CS.nt⟩ (finK G80_v1_CS) = G80_v1 x.1.1 := by
  intro x; kernel_rfl
theorem G80_v1_valid : G80_v1_E.Valid Tryz.prog :=
  boxE_valid (S := G80_v1_CS) (by kernel_rfl) (.inr G80_v1_ent) (fn_lcall (S := G80_v1_CS) mixed Tryz.func80 rfl G80_v1_ent G80_v1_CV G80_v1_LV (by kernel_rfl) (by kernel_rfl) G80_v1_hev)
end Go.Proofs.YtbidmbjkjpdgdaaGreatDoor.Abs
set_option linter.unusedVariables false
set_option maxRecDepth 100000
namespace Go.Proofs.YtbidmbjkjpdgdaaGreatDoor.Abs
open Go.Shelf Go.Sort
noncomputable def G79_v1_C : CalT := tabC [G80_v1_E]
theorem G79_v1_CV : CV Tryz.prog G79_v1_C := tabC_valid (l := _) ⟨G80_v1_valid, trivial⟩
noncomputable def G79_v1_l0_c : Code := loopAt (bodyOf Tryz.f79) 0
noncomputable def G79_v1_l0_S : SPat := ⟨[.any, .fix (.func (.func 80) .nil (.cons (.bptr 0 []) .nil)), .any, .any, .any, .own 0 (.int .i64), .any, .any, .dat (.list T65), .dat (.int .i64), .dat (.int .i64), .any, .any, .any, .any, .any, .any, .any, .any, .any, .any, .any], [.fix (.func (.func 65) .nil .nil)], 1⟩
noncomputable def G79_v1_l0_step (s : (((List Int) × ((List E65) × (Int × (Int × Unit)))) × Unit)) : Option (Nat × (((List Int) × ((List E65) × (Int × (Int × Unit)))) × Unit)) :=
  (bif (decide (s.1.2.2.2.1 < s.1.2.2.1)) then
  (bif (decide (0 ≤ s.1.2.2.2.1) && decide (s.1.2.2.2.1 < (List.length s.1.2.1 : Int))) then
    (Option.bind (G80_v1 (List.getD s.1.2.1 (Int.toNat s.1.2.2.2.1) (0, ((0, (0, ())), ())))) fun r1 =>
      (bif (decide (List.length s.1.1 + List.length [r1.1] ≤ LIM)) then
        some (0, (((s.1.1 ++ [r1.1]), (s.1.2.1, (s.1.2.2.1, ((IntKind.wrap .i64 (s.1.2.2.2.1 + 1)), ())))), ()))
        else
        none))
    else
    none)
  else
  some (1, ((s.1.1, (s.1.2.1, (s.1.2.2.1, (s.1.2.2.2.1, ())))), ())))
noncomputable def G79_v1_l0_fuel (s : (((List Int) × ((List E65) × (Int × (Int × Unit)))) × Unit)) : Nat := Int.toNat (s.1.2.2.1 - s.1.2.2.2.1) + 1
noncomputable def G79_v1_l0_run (s : (((List Int) × ((List E65) × (Int × (Int × Unit)))) × Unit)) : Option (Nat × (((List Int) × ((List E65) × (Int × (Int × Unit)))) × Unit)) := iter G79_v1_l0_step (G79_v1_l0_fuel s) s
noncomputable def G79_v1_l0_L : LoopT := loopT G79_v1_l0_S [.exit 0] G79_v1_l0_run
noncomputable def G79_v1 (a0 : (List E65)) : Option ((List Int) × Unit) :=
  (Option.bind (G79_v1_l0_run (([], (a0, ((List.length a0 : Int), (0, ())))), ())) fun q2 =>
  some (q2.2.1.1, ()))
abbrev G79_v1_CS : CSpec := ⟨[.dat (.list T65), .fix (.func (.func 80) .nil (.cons (.bptr 0 []) .nil))], [.fix (.func (.func 65) .nil .nil)], 0, [.fix (.func (.func 65) .nil .nil)], 0, .dat (.list (.int .i64))⟩
noncomputable def G79_v1_E : CEnt := boxE 79 G79_v1_CS fun x => G79_v1 x.1.1
theorem G79_v1_l0_V : LValid 1 Tryz.prog (.loop G79_v1_l0_c) G79_v1_l0_L false := by
  have hb : ∀ s, codeR Tryz.prog G79_v1_C G79_v1_l0_c [] (G79_v1_l0_S.encE s) (G79_v1_l0_S.encB s) (kst G79_v1_l0_S [.exit 0]) = G79_v1_l0_step s := by
    intro s; kernel_rfl
  have hL : LV 1 Tryz.prog false (loopsOf G79_v1_l0_c) [] := by unfold LV; cases loopsOf G79_v1_l0_c <;> trivial
  exact loopT_valid (fuel := G79_v1_l0_fuel) mixed G79_v1_CV hL (by kernel_rfl) (by decide) rfl hb (fun s r h => h)
theorem G79_v1_LV : LV 1 Tryz.prog false (loopsOf (bodyOf Tryz.f79)) [G79_v1_l0_L] := by
  have hl : loopsOf (bodyOf Tryz.f79) = [.loop G79_v1_l0_c] := by kernel_rfl
  rw [hl]; exact ⟨G79_v1_l0_V, trivial⟩
theorem G79_v1_ent : Ent Tryz.prog 79 := ⟨by decide, enters_of Tryz.func79 (by kernel_rfl) rfl⟩
theorem G79_v1_hev : ∀ x : G79_v1_CS.In, fnR Tryz.prog G79_v1_C [G79_v1_l0_L] Tryz.f79 (bodyOf Tryz.f79) (encs G79_v1_CS.A x.1) ⟨encs G79_v1_CS.I x.2, [], G79_v1_CS.nt⟩ (finK G79_v1_CS) = G79_v1 x.1.1 := by
  intro x; kernel_rfl
theorem G79_v1_valid : G79_v1_E.Valid Tryz.prog :=
  boxE_valid (S := G79_v1_CS) (by kernel_rfl) (.inr G79_v1_ent) (fn_lcall (S := G79_v1_CS) mixed Tryz.func79 rfl G79_v1_ent G79_v1_CV G79_v1_LV (by kernel_rfl) (by kernel_rfl) G79_v1_hev)
noncomputable def G82_v1_C : CalT := tabC [G66_E]
theorem G82_v1_CV : CV Tryz.prog G82_v1_C := tabC_valid (l := _) ⟨G66_valid, trivial⟩
noncomputable def G82_v1 (a0 : E91) (b1 : E25) : Option (Int × (E25 × Unit)) :=
  (Option.bind (G66 b1.2.1) fun r1 =>
  some (r1, (b1, ())))
abbrev G82_v1_CS : CSpec := ⟨[.dat T91, .fix (.bptr 0 []), .fix (.bptr 1 [])], [.fix (.func (.func 66) .nil .nil), .dat T25], 0, [.fix (.func (.func 66) .nil .nil), .dat T25], 0, .dat (.int .i64)⟩
noncomputable def G82_v1_E : CEnt := boxE 82 G82_v1_CS fun x => G82_v1 x.1.1 x.2.1
theorem G82_v1_LV : LV 2 Tryz.prog false (loopsOf (bodyOf Tryz.f82)) [] := by unfold LV; cases loopsOf (bodyOf Tryz.f82) <;> trivial
theorem G82_v1_ent : Ent Tryz.prog 82 := ⟨by decide, enters_of Tryz.func82 (by kernel_rfl) rfl⟩
theorem G82_v1_hev : ∀ x : G82_v1_CS.In, fnR Tryz.prog G82_v1_C [] Tryz.f82 (bodyOf Tryz.f82) (encs G82_v1_CS.A x.1) ⟨encs G82_v1_CS.I x.2, [], G82_v1_CS.nt⟩ (finK G82_v1_CS) = G82_v1 x.1.1 x.2.1 := by
  intro x; kernel_rfl
theorem G82_v1_valid : G82_v1_E.Valid Tryz.prog :=
  boxE_valid (S := G82_v1_CS) (by kernel_rfl) (.inr G82_v1_ent) (fn_lcall (S := G82_v1_CS) mixed Tryz.func82 rfl G82_v1_ent G82_v1_CV G82_v1_LV (by kernel_rfl) (by kernel_rfl) G82_v1_hev)
noncomputable def G81_v4_C : CalT := tabC [G82_v1_E]
theorem G81_v4_CV : CV Tryz.prog G81_v4_C := tabC_valid (l := _) ⟨G82_v1_valid, trivial⟩
noncomputable def G81_v4_l0_c : Code := loopAt (bodyOf Tryz.f81) 0
noncomputable def G81_v4_l0_S : SPat := ⟨[.any, .fix (.func (.func 82) .nil (.cons (.bptr 0 []) (.cons (.bptr 1 []) .nil))), .any, .any, .any, .own 0 (.int .i64), .any, .any, .dat (.list T91), .dat (.int .i64), .dat (.int .i64), .any, .any, .any, .any, .any, .any, .any, .any, .any, .any, .any], [.fix (.func (.func 66) .nil .nil), .dat T25], 1⟩
noncomputable def G81_v4_l0_step (s : (((List Int) × ((List E91) × (Int × (Int × Unit)))) × (E25 × Unit))) : Option TY0 :=
  (bif (decide (s.1.2.2.2.1 < s.1.2.2.1)) then
  (bif (decide (0 ≤ s.1.2.2.2.1) && decide (s.1.2.2.2.1 < (List.length s.1.2.1 : Int))) then
    (Option.bind (G82_v1 (List.getD s.1.2.1 (Int.toNat s.1.2.2.2.1) ((0, (0, ())), ((0, (0, ())), ((0, (0, ())), ())))) s.2.1) fun r1 =>
      (bif (decide (List.length s.1.1 + List.length [r1.1] ≤ LIM)) then
        some (0, (((s.1.1 ++ [r1.1]), (s.1.2.1, (s.1.2.2.1, ((IntKind.wrap .i64 (s.1.2.2.2.1 + 1)), ())))), (r1.2.1, ())))
        else
        none))
    else
    none)
  else
  some (1, ((s.1.1, (s.1.2.1, (s.1.2.2.1, (s.1.2.2.2.1, ())))), (s.2.1, ()))))
noncomputable def G81_v4_l0_fuel (s : (((List Int) × ((List E91) × (Int × (Int × Unit)))) × (E25 × Unit))) : Nat := Int.toNat (s.1.2.2.1 - s.1.2.2.2.1) + 1
noncomputable def G81_v4_l0_run (s : (((List Int) × ((List E91) × (Int × (Int × Unit)))) × (E25 × Unit))) : Option TY0 := iter G81_v4_l0_step (G81_v4_l0_fuel s) s
noncomputable def G81_v4_l0_L : LoopT := loopT G81_v4_l0_S [.exit 0] G81_v4_l0_run
noncomputable def G81_v4 (a0 : (List E91)) (b1 : E25) : Option ((List Int) × (E25 × Unit)) :=
  (Option.bind (G81_v4_l0_run (([], (a0, ((List.length a0 : Int), (0, ())))), (b1, ()))) fun q2 =>
  some (q2.2.1.1, (q2.2.2.1, ())))
abbrev G81_v4_CS : CSpec := ⟨[.dat (.list T91), .fix (.func (.func 82) .nil (.cons (.bptr 0 []) (.cons (.bptr 1 []) .nil)))], [.fix (.func (.func 66) .nil .nil), .dat T25], 0, [.fix (.func (.func 66) .nil .nil), .dat T25], 0, .dat (.list (.int .i64))⟩
noncomputable def G81_v4_E : CEnt := boxE 81 G81_v4_CS fun x => G81_v4 x.1.1 x.2.1
theorem G81_v4_l0_V : LValid 2 Tryz.prog (.loop G81_v4_l0_c) G81_v4_l0_L false := by
  have hb : ∀ s, codeR Tryz.prog G81_v4_C G81_v4_l0_c [] (G81_v4_l0_S.encE s) (G81_v4_l0_S.encB s) (kst G81_v4_l0_S [.exit 0]) = G81_v4_l0_step s := by
    intro s; kernel_rfl
  have hL : LV 2 Tryz.prog false (loopsOf G81_v4_l0_c) [] := by unfold LV; cases loopsOf G81_v4_l0_c <;> trivial
  exact loopT_valid (fuel := G81_v4_l0_fuel) mixed G81_v4_CV hL (by kernel_rfl) (by decide) rfl hb (fun s r h => h)
theorem G81_v4_LV : LV 2 Tryz.prog false (loopsOf (bodyOf Tryz.f81)) [G81_v4_l0_L] := by
  have hl : loopsOf (bodyOf Tryz.f81) = [.loop G81_v4_l0_c] := by kernel_rfl
  rw [hl]; exact ⟨G81_v4_l0_V, trivial⟩
theorem G81_v4_ent : Ent Tryz.prog 81 := ⟨by decide, enters_of Tryz.func81 (by kernel_rfl) rfl⟩
theorem G81_v4_hev : ∀ x : G81_v4_CS.In, fnR Tryz.prog G81_v4_C [G81_v4_l0_L] Tryz.f81 (bodyOf Tryz.f81) (encs G81_v4_CS.A x.1) ⟨encs G81_v4_CS.I x.2, [], G81_v4_CS.nt⟩ (finK G81_v4_CS) = G81_v4 x.1.1 x.2.1 := by
  intro x; kernel_rfl
theorem G81_v4_valid : G81_v4_E.Valid Tryz.prog :=
  boxE_valid (S := G81_v4_CS) (by kernel_rfl) (.inr G81_v4_ent) (fn_lcall (S := G81_v4_CS) mixed Tryz.func81 rfl G81_v4_ent G81_v4_CV G81_v4_LV (by kernel_rfl) (by kernel_rfl) G81_v4_hev)
noncomputable def G83_v1_C : CalT := tabC [G66_E]
theorem G83_v1_CV : CV Tryz.prog G83_v1_C := tabC_valid (l := _) ⟨G66_valid, trivial⟩
noncomputable def G83_v1 (a0 : E91) : Option (Int × Unit) :=
  (Option.bind (G66 a0.1) fun r1 =>
  some (r1, ()))
abbrev G83_v1_CS : CSpec := ⟨[.dat T91, .fix (.bptr 0 [])], [.fix (.func (.func 66) .nil .nil)], 0, [.fix (.func (.func 66) .nil .nil)], 0, .dat (.int .i64)⟩
noncomputable def G83_v1_E : CEnt := boxE 83 G83_v1_CS fun x => G83_v1 x.1.1
theorem G83_v1_LV : LV 1 Tryz.prog false (loopsOf (bodyOf Tryz.f83)) [] := by unfold LV; cases loopsOf (bodyOf Tryz.f83) <;> trivial
theorem G83_v1_ent : Ent Tryz.prog 83 := ⟨by decide, enters_of Tryz.func83 (by kernel_rfl) rfl⟩
theorem G83_v1_hev : ∀ x : G83_v1_CS.In, fnR Tryz.prog G83_v1_C [] Tryz.f83 (bodyOf Tryz.f83) (encs G83_v1_CS.A x.1) ⟨encs G83_v1_CS.I x.2, [], G83_v1_CS.nt⟩ (finK G83_v1_CS) = G83_v1 x.1.1 := by
  intro x; kernel_rfl
theorem G83_v1_valid : G83_v1_E.Valid Tryz.prog :=
  boxE_valid (S := G83_v1_CS) (by kernel_rfl) (.inr G83_v1_ent) (fn_lcall (S := G83_v1_CS) mixed Tryz.func83 rfl G83_v1_ent G83_v1_CV G83_v1_LV (by kernel_rfl) (by kernel_rfl) G83_v1_hev)
noncomputable def G81_v5_C : CalT := tabC [G83_v1_E]
theorem G81_v5_CV : CV Tryz.prog G81_v5_C := tabC_valid (l := _) ⟨G83_v1_valid, trivial⟩
noncomputable def G81_v5_l0_c : Code := loopAt (bodyOf Tryz.f81) 0
noncomputable def G81_v5_l0_S : SPat := ⟨[.any, .fix (.func (.func 83) .nil (.cons (.bptr 0 []) .nil)), .any, .any, .any, .own 0 (.int .i64), .any, .any, .dat (.list T91), .dat (.int .i64), .dat (.int .i64), .any, .any, .any, .any, .any, .any, .any, .any, .any, .any, .any], [.fix (.func (.func 66) .nil .nil)], 1⟩
noncomputable def G81_v5_l0_step (s : (((List Int) × ((List E91) × (Int × (Int × Unit)))) × Unit)) : Option (Nat × (((List Int) × ((List E91) × (Int × (Int × Unit)))) × Unit)) :=
  (bif (decide (s.1.2.2.2.1 < s.1.2.2.1)) then
  (bif (decide (0 ≤ s.1.2.2.2.1) && decide (s.1.2.2.2.1 < (List.length s.1.2.1 : Int))) then
    (Option.bind (G83_v1 (List.getD s.1.2.1 (Int.toNat s.1.2.2.2.1) ((0, (0, ())), ((0, (0, ())), ((0, (0, ())), ()))))) fun r1 =>
      (bif (decide (List.length s.1.1 + List.length [r1.1] ≤ LIM)) then
        some (0, (((s.1.1 ++ [r1.1]), (s.1.2.1, (s.1.2.2.1, ((IntKind.wrap .i64 (s.1.2.2.2.1 + 1)), ())))), ()))
        else
        none))
    else
    none)
  else
  some (1, ((s.1.1, (s.1.2.1, (s.1.2.2.1, (s.1.2.2.2.1, ())))), ())))
noncomputable def G81_v5_l0_fuel (s : (((List Int) × ((List E91) × (Int × (Int × Unit)))) × Unit)) : Nat := Int.toNat (s.1.2.2.1 - s.1.2.2.2.1) + 1
noncomputable def G81_v5_l0_run (s : (((List Int) × ((List E91) × (Int × (Int × Unit)))) × Unit)) : Option (Nat × (((List Int) × ((List E91) × (Int × (Int × Unit)))) × Unit)) := iter G81_v5_l0_step (G81_v5_l0_fuel s) s
noncomputable def G81_v5_l0_L : LoopT := loopT G81_v5_l0_S [.exit 0] G81_v5_l0_run
noncomputable def G81_v5 (a0 : (List E91)) : Option ((List Int) × Unit) :=
  (Option.bind (G81_v5_l0_run (([], (a0, ((List.length a0 : Int), (0, ())))), ())) fun q2 =>
  some (q2.2.1.1, ()))
abbrev G81_v5_CS : CSpec := ⟨[.dat (.list T91), .fix (.func (.func 83) .nil (.cons (.bptr 0 []) .nil))], [.fix (.func (.func 66) .nil .nil)], 0, [.fix (.func (.func 66) .nil .nil)], 0, .dat (.list (.int .i64))⟩
noncomputable def G81_v5_E : CEnt := boxE 81 G81_v5_CS fun x => G81_v5 x.1.1
theorem G81_v5_l0_V : LValid 1 Tryz.prog (.loop G81_v5_l0_c) G81_v5_l0_L false := by
  have hb : ∀ s, codeR Tryz.prog G81_v5_C G81_v5_l0_c [] (G81_v5_l0_S.encE s) (G81_v5_l0_S.encB s) (kst G81_v5_l0_S [.exit 0]) = G81_v5_l0_step s := by
    intro s; kernel_rfl
  have hL : LV 1 Tryz.prog false (loopsOf G81_v5_l0_c) [] := by unfold LV; cases loopsOf G81_v5_l0_c <;> trivial
  exact loopT_valid (fuel := G81_v5_l0_fuel) mixed G81_v5_CV hL (by kernel_rfl) (by decide) rfl hb (fun s r h => h)
theorem G81_v5_LV : LV 1 Tryz.prog false (loopsOf (bodyOf Tryz.f81)) [G81_v5_l0_L] := by
  have hl : loopsOf (bodyOf Tryz.f81) = [.loop G81_v5_l0_c] := by kernel_rfl
  rw [hl]; exact ⟨G81_v5_l0_V, trivial⟩
theorem G81_v5_ent : Ent Tryz.prog 81 := ⟨by decide, enters_of Tryz.func81 (by kernel_rfl) rfl⟩
theorem G81_v5_hev : ∀ x : G81_v5_CS.In, fnR Tryz.prog G81_v5_C [G81_v5_l0_L] Tryz.f81 (bodyOf Tryz.f81) (encs G81_v5_CS.A x.1) ⟨encs G81_v5_CS.I x.2, [], G81_v5_CS.nt⟩ (finK G81_v5_CS) = G81_v5 x.1.1 := by
  intro x; kernel_rfl
theorem G81_v5_valid : G81_v5_E.Valid Tryz.prog :=
  boxE_valid (S := G81_v5_CS) (by kernel_rfl) (.inr G81_v5_ent) (fn_lcall (S := G81_v5_CS) mixed Tryz.func81 rfl G81_v5_ent G81_v5_CV G81_v5_LV (by kernel_rfl) (by kernel_rfl) G81_v5_hev)
noncomputable def G84_v1_C : CalT := tabC [G65_E]
theorem G84_v1_CV : CV Tryz.prog G84_v1_C := tabC_valid (l := _) ⟨G65_valid, trivial⟩
noncomputable def G84_v1 (a0 : E91) : Option (Int × Unit) :=
  (Option.bind (G65 a0.2.1) fun r1 =>
  some (r1, ()))
abbrev G84_v1_CS : CSpec := ⟨[.dat T91, .fix (.bptr 0 [])], [.fix (.func (.func 65) .nil .nil)], 0, [.fix (.func (.func 65) .nil .nil)], 0, .dat (.int .i64)⟩
noncomputable def G84_v1_E : CEnt := boxE 84 G84_v1_CS fun x => G84_v1 x.1.1
theorem G84_v1_LV : LV 1 Tryz.prog false (loopsOf (bodyOf Tryz.f84)) [] := by unfold LV; cases loopsOf (bodyOf Tryz.f84) <;> trivial
theorem G84_v1_ent : Ent Tryz.prog 84 := ⟨by decide, enters_of Tryz.func84 (by kernel_rfl) rfl⟩
theorem G84_v1_hev : ∀ x : G84_v1_CS.In, fnR Tryz.prog G84_v1_C [] Tryz.f84 (bodyOf Tryz.f84) (encs G84_v1_CS.A x.1) ⟨encs G84_v1_CS.I x.2, [], G84_v1_CS.nt⟩ (finK G84_v1_CS) = G84_v1 x.1.1 := by
  intro x; kernel_rfl
theorem G84_v1_valid : G84_v1_E.Valid Tryz.prog :=
  boxE_valid (S := G84_v1_CS) (by kernel_rfl) (.inr G84_v1_ent) (fn_lcall (S := G84_v1_CS) mixed Tryz.func84 rfl G84_v1_ent G84_v1_CV G84_v1_LV (by kernel_rfl) (by kernel_rfl) G84_v1_hev)
noncomputable def G81_v6_C : CalT := tabC [G84_v1_E]
theorem G81_v6_CV : CV Tryz.prog G81_v6_C := tabC_valid (l := _) ⟨G84_v1_valid, trivial⟩
noncomputable def G81_v6_l0_c : Code := loopAt (bodyOf Tryz.f81) 0
noncomputable def G81_v6_l0_S : SPat := ⟨[.any, .fix (.func (.func 84) .nil (.cons (.bptr 0 []) .nil)), .any, .any, .any, .own 0 (.int .i64), .any, .any, .dat (.list T91), .dat (.int .i64), .dat (.int .i64), .any, .any, .any, .any, .any, .any, .any, .any, .any, .any, .any], [.fix (.func (.func 65) .nil .nil)], 1⟩
noncomputable def G81_v6_l0_step (s : (((List Int) × ((List E91) × (Int × (Int × Unit)))) × Unit)) : Option (Nat × (((List Int) × ((List E91) × (Int × (Int × Unit)))) × Unit)) :=
  (bif (decide (s.1.2.2.2.1 < s.1.2.2.1)) then
  (bif (decide (0 ≤ s.1.2.2.2.1) && decide (s.1.2.2.2.1 < (List.length s.1.2.1 : Int))) then
    (Option.bind (G84_v1 (List.getD s.1.2.1 (Int.toNat s.1.2.2.2.1) ((0, (0, ())), ((0, (0, ())), ((0, (0, ())), ()))))) fun r1 =>
      (bif (decide (List.length s.1.1 + List.length [r1.1] ≤ LIM)) then
        some (0, (((s.1.1 ++ [r1.1]), (s.1.2.1, (s.1.2.2.1, ((IntKind.wrap .i64 (s.1.2.2.2.1 + 1)), ())))), ()))
        else
        none))
    else
    none)
  else
  some (1, ((s.1.1, (s.1.2.1, (s.1.2.2.1, (s.1.2.2.2.1, ())))), ())))
noncomputable def G81_v6_l0_fuel (s : (((List Int) × ((List E91) × (Int × (Int × Unit)))) × Unit)) : Nat := Int.toNat (s.1.2.2.1 - s.1.2.2.2.1) + 1
noncomputable def G81_v6_l0_run (s : (((List Int) × ((List E91) × (Int × (Int × Unit)))) × Unit)) : Option (Nat × (((List Int) × ((List E91) × (Int × (Int × Unit)))) × Unit)) := iter G81_v6_l0_step (G81_v6_l0_fuel s) s
noncomputable def G81_v6_l0_L : LoopT := loopT G81_v6_l0_S [.exit 0] G81_v6_l0_run
noncomputable def G81_v6 (a0 : (List E91)) : Option ((List Int) × Unit) :=
  (Option.bind (G81_v6_l0_run (([], (a0, ((List.length a0 : Int), (0, ())))), ())) fun q2 =>
  some (q2.2.1.1, ()))
abbrev G81_v6_CS : CSpec := ⟨[.dat (.list T91), .fix (.func (.func 84) .nil (.cons (.bptr 0 []) .nil))], [.fix (.func (.func 65) .nil .nil)], 0, [.fix (.func (.func 65) .nil .nil)], 0, .dat (.list (.int .i64))⟩
noncomputable def G81_v6_E : CEnt := boxE 81 G81_v6_CS fun x => G81_v6 x.1.1
theorem G81_v6_l0_V : LValid 1 Tryz.prog (.loop G81_v6_l0_c) G81_v6_l0_L false := by
  have hb : ∀ s, codeR Tryz.prog G81_v6_C G81_v6_l0_c [] (G81_v6_l0_S.encE s) (G81_v6_l0_S.encB s) (kst G81_v6_l0_S [.exit 0]) = G81_v6_l0_step s := by
    intro s; kernel_rfl
  have hL : LV 1 Tryz.prog false (loopsOf G81_v6_l0_c) [] := by unfold LV; cases loopsOf G81_v6_l0_c <;> trivial
  exact loopT_valid (fuel := G81_v6_l0_fuel) mixed G81_v6_CV hL (by kernel_rfl) (by decide) rfl hb (fun s r h => h)
theorem G81_v6_LV : LV 1 Tryz.prog false (loopsOf (bodyOf Tryz.f81)) [G81_v6_l0_L] := by
  have hl : loopsOf (bodyOf Tryz.f81) = [.loop G81_v6_l0_c] := by kernel_rfl
  rw [hl]; exact ⟨G81_v6_l0_V, trivial⟩
theorem G81_v6_ent : Ent Tryz.prog 81 := ⟨by decide, enters_of Tryz.func81 (by kernel_rfl) rfl⟩
theorem G81_v6_hev : ∀ x : G81_v6_CS.In, fnR Tryz.prog G81_v6_C [G81_v6_l0_L] Tryz.f81 (bodyOf Tryz.f81) (encs G81_v6_CS.A x.1) ⟨encs G81_v6_CS.I x.2, [], G81_v6_CS.nt⟩ (finK G81_v6_CS) = G81_v6 x.1.1 := by
  intro x; kernel_rfl
theorem G81_v6_valid : G81_v6_E.Valid Tryz.prog :=
  boxE_valid (S := G81_v6_CS) (by kernel_rfl) (.inr G81_v6_ent) (fn_lcall (S := G81_v6_CS) mixed Tryz.func81 rfl G81_v6_ent G81_v6_CV G81_v6_LV (by kernel_rfl) (by kernel_rfl) G81_v6_hev)
noncomputable def G85_v1_C : CalT := tabC [G66_E]
theorem G85_v1_CV : CV Tryz.prog G85_v1_C := tabC_valid (l := _) ⟨G66_valid, trivial⟩
noncomputable def G85_v1 (a0 : E91) : Option (Int × Unit) :=
  (Option.bind (G66 a0.2.2.1) fun r1 =>
  some (r1, ()))
abbrev G85_v1_CS : CSpec := ⟨[.dat T91, .fix (.bptr 0 [])], [.fix (.func (.func 66) .nil .nil)], 0, [.fix (.func (.func 66) .nil .nil)], 0, .dat (.int .i64)⟩
noncomputable def G85_v1_E : CEnt := boxE 85 G85_v1_CS fun x => G85_v1 x.1.1
theorem G85_v1_LV : LV 1 Tryz.prog false (loopsOf (bodyOf Tryz.f85)) [] := by unfold LV; cases loopsOf (bodyOf Tryz.f85) <;> trivial
theorem G85_v1_ent : Ent Tryz.prog 85 := ⟨by decide, enters_of Tryz.func85 (by kernel_rfl) rfl⟩
theorem G85_v1_hev : ∀ x : G85_v1_CS.In, fnR Tryz.prog G85_v1_C [] Tryz.f85 (bodyOf Tryz.f85) (encs G85_v1_CS.A x.1) ⟨encs G85_v1_CS.I x.2, [], G85_v1_CS.nt⟩ (finK G85_v1_CS) = G85_v1 x.1.1 := by
  intro x; kernel_rfl
theorem G85_v1_valid : G85_v1_E.Valid Tryz.prog :=
  boxE_valid (S := G85_v1_CS) (by kernel_rfl) (.inr G85_v1_ent) (fn_lcall (S := G85_v1_CS) mixed Tryz.func85 rfl G85_v1_ent G85_v1_CV G85_v1_LV (by kernel_rfl) (by kernel_rfl) G85_v1_hev)
noncomputable def G81_v7_C : CalT := tabC [G85_v1_E]
theorem G81_v7_CV : CV Tryz.prog G81_v7_C := tabC_valid (l := _) ⟨G85_v1_valid, trivial⟩
noncomputable def G81_v7_l0_c : Code := loopAt (bodyOf Tryz.f81) 0
noncomputable def G81_v7_l0_S : SPat := ⟨[.any, .fix (.func (.func 85) .nil (.cons (.bptr 0 []) .nil)), .any, .any, .any, .own 0 (.int .i64), .any, .any, .dat (.list T91), .dat (.int .i64), .dat (.int .i64), .any, .any, .any, .any, .any, .any, .any, .any, .any, .any, .any], [.fix (.func (.func 66) .nil .nil)], 1⟩
noncomputable def G81_v7_l0_step (s : (((List Int) × ((List E91) × (Int × (Int × Unit)))) × Unit)) : Option (Nat × (((List Int) × ((List E91) × (Int × (Int × Unit)))) × Unit)) :=
  (bif (decide (s.1.2.2.2.1 < s.1.2.2.1)) then
  (bif (decide (0 ≤ s.1.2.2.2.1) && decide (s.1.2.2.2.1 < (List.length s.1.2.1 : Int))) then
    (Option.bind (G85_v1 (List.getD s.1.2.1 (Int.toNat s.1.2.2.2.1) ((0, (0, ())), ((0, (0, ())), ((0, (0, ())), ()))))) fun r1 =>
      (bif (decide (List.length s.1.1 + List.length [r1.1] ≤ LIM)) then
        some (0, (((s.1.1 ++ [r1.1]), (s.1.2.1, (s.1.2.2.1, ((IntKind.wrap .i64 (s.1.2.2.2.1 + 1)), ())))), ()))
        else
        none))
    else
    none)
  else
  some (1, ((s.1.1, (s.1.2.1, (s.1.2.2.1, (s.1.2.2.2.1, ())))), ())))
noncomputable def G81_v7_l0_fuel (s : (((List Int) × ((List E91) × (Int × (Int × Unit)))) × Unit)) : Nat := Int.toNat (s.1.2.2.1 - s.1.2.2.2.1) + 1
noncomputable def G81_v7_l0_run (s : (((List Int) × ((List E91) × (Int × (Int × Unit)))) × Unit)) : Option (Nat × (((List Int) × ((List E91) × (Int × (Int × Unit)))) × Unit)) := iter G81_v7_l0_step (G81_v7_l0_fuel s) s
noncomputable def G81_v7_l0_L : LoopT := loopT G81_v7_l0_S [.exit 0] G81_v7_l0_run
noncomputable def G81_v7 (a0 : (List E91)) : Option ((List Int) × Unit) :=
  (Option.bind (G81_v7_l0_run (([], (a0, ((List.length a0 : Int), (0, ())))), ())) fun q2 =>
  some (q2.2.1.1, ()))
abbrev G81_v7_CS : CSpec := ⟨[.dat (.list T91), .fix (.func (.func 85) .nil (.cons (.bptr 0 []) .nil))], [.fix (.func (.func 66) .nil .nil)], 0, [.fix (.func (.func 66) .nil .nil)], 0, .dat (.list (.int .i64))⟩
noncomputable def G81_v7_E : CEnt := boxE 81 G81_v7_CS fun x => G81_v7 x.1.1
theorem G81_v7_l0_V : LValid 1 Tryz.prog (.loop G81_v7_l0_c) G81_v7_l0_L false := by
  have hb : ∀ s, codeR Tryz.prog G81_v7_C G81_v7_l0_c [] (G81_v7_l0_S.encE s) (G81_v7_l0_S.encB s) (kst G81_v7_l0_S [.exit 0]) = G81_v7_l0_step s := by
    intro s; kernel_rfl
  have hL : LV 1 Tryz.prog false (loopsOf G81_v7_l0_c) [] := by unfold LV; cases loopsOf G81_v7_l0_c <;> trivial
  exact loopT_valid (fuel := G81_v7_l0_fuel) mixed G81_v7_CV hL (by kernel_rfl) (by decide) rfl hb (fun s r h => h)
theorem G81_v7_LV : LV 1 Tryz.prog false (loopsOf (bodyOf Tryz.f81)) [G81_v7_l0_L] := by
  have hl : loopsOf (bodyOf Tryz.f81) = [.loop G81_v7_l0_c] := by kernel_rfl
  rw [hl]; exact ⟨G81_v7_l0_V, trivial⟩
theorem G81_v7_ent : Ent Tryz.prog 81 := ⟨by decide, enters_of Tryz.func81 (by kernel_rfl) rfl⟩
theorem G81_v7_hev : ∀ x : G81_v7_CS.In, fnR Tryz.prog G81_v7_C [G81_v7_l0_L] Tryz.f81 (bodyOf Tryz.f81) (encs G81_v7_CS.A x.1) ⟨encs G81_v7_CS.I x.2, [], G81_v7_CS.nt⟩ (finK G81_v7_CS) = G81_v7 x.1.1 := by
  intro x; kernel_rfl
theorem G81_v7_valid : G81_v7_E.Valid Tryz.prog :=
  boxE_valid (S := G81_v7_CS) (by kernel_rfl) (.inr G81_v7_ent) (fn_lcall (S := G81_v7_CS) mixed Tryz.func81 rfl G81_v7_ent G81_v7_CV G81_v7_LV (by kernel_rfl) (by kernel_rfl) G81_v7_hev)
noncomputable def G64_v1_C : CalT := tabC [G79_v1_E, G81_v4_E, G81_v5_E, G81_v6_E, G81_v7_E, G47_E]
theorem G64_v1_CV : CV Tryz.prog G64_v1_C := tabC_valid (l := _) ⟨G79_v1_valid, G81_v4_valid, G81_v5_valid, G81_v6_valid, G81_v7_valid, G47_valid, trivial⟩
noncomputable def G64_v1 (a0 : E25) (a1 : (List E91)) (a2 : Int) : Option E88 :=
  (Option.bind (G79_v1 a0.1) fun r1 =>
  (Option.bind (G81_v4 a1 a0) fun r2 =>
    (Option.bind (G81_v5 a1) fun r3 =>
      (Option.bind (G81_v6 a1) fun r4 =>
        (Option.bind (G81_v7 a1) fun r5 =>
          (Option.bind (G47 (r2.2.1, ((r1.1, (r2.1, (r3.1, (r4.1, (r5.1, ()))))), (a2, (0, (0, (0, ([], ([], ((0, (0, (0, ()))), ())))))))))) fun r6 =>
            some r6.2.1))))))
noncomputable def G64_v1_E : CEnt := pureE 64 [.dat T25, .dat (.list T91), .fix (.func (.func 66) .nil .nil), .fix (.func (.func 65) .nil .nil), .dat (.int .i64)] (.ip T88) fun x => G64_v1 x.1 x.2.1 x.2.2.1
theorem G64_v1_LV : LV 0 Tryz.prog false (loopsOf (bodyOf Tryz.f64)) [] := by unfold LV; cases loopsOf (bodyOf Tryz.f64) <;> trivial
theorem G64_v1_ent : Ent Tryz.prog 64 := ⟨by decide, enters_of Tryz.func64 (by kernel_rfl) rfl⟩
theorem G64_v1_hev : ∀ x, fnR Tryz.prog G64_v1_C [] Tryz.f64 (bodyOf Tryz.f64) (encs [.dat T25, .dat (.list T91), .fix (.func (.func 66) .nil .nil), .fix (.func (.func 65) .nil .nil), .dat (.int .i64)] x) ⟨[], [], 0⟩ (frzF (.ip T88)) = G64_v1 x.1 x.2.1 x.2.2.1 := by
  intro x; kernel_rfl
theorem G64_v1_valid : G64_v1_E.Valid Tryz.prog :=
  pureE_valid (by kernel_rfl) (by kernel_rfl) G64_v1_ent (frz_lcall mixed Tryz.func64 rfl G64_v1_ent G64_v1_CV G64_v1_LV (by kernel_rfl) (by kernel_rfl) G64_v1_hev)
noncomputable def G39_C : CalT := tabC [G64_v1_E]
theorem G39_CV : CV Tryz.prog G39_C := tabC_valid (l := _) ⟨G64_v1_valid, trivial⟩
noncomputable def G39 (a0 : E25) (a1 : (List E91)) (a2 : Int) : Option E88 :=
  (Option.bind (G64_v1 a0 a1 a2) fun r1 =>
  some r1)
noncomputable def G39_E : CEnt := pureE 39 [.dat T25, .dat (.list T91), .dat (.int .i64)] (.ip T88) fun x => G39 x.1 x.2.1 x.2.2.1
theorem G39_LV : LV 0 Tryz.prog false (loopsOf (bodyOf Tryz.f39)) [] := by unfold LV; cases loopsOf (bodyOf Tryz.f39) <;> trivial
theorem G39_ent : Ent Tryz.prog 39 := ⟨by decide, enters_of Tryz.func39 (by kernel_rfl) rfl⟩
theorem G39_hev : ∀ x, fnR Tryz.prog G39_C [] Tryz.f39 (bodyOf Tryz.f39) (encs [.dat T25, .dat (.list T91), .dat (.int .i64)] x) ⟨[], [], 0⟩ (frzF (.ip T88)) = G39 x.1 x.2.1 x.2.2.1 := by
  intro x; kernel_rfl
theorem G39_valid : G39_E.Valid Tryz.prog :=
  pureE_valid (by kernel_rfl) (by kernel_rfl) G39_ent (frz_lcall mixed Tryz.func39 rfl G39_ent G39_CV G39_LV (by kernel_rfl) (by kernel_rfl) G39_hev)
noncomputable def G13_C : CalT := tabC [G37_E, G38_E, G39_E]
theorem G13_CV : CV Tryz.prog G13_C := tabC_valid (l := _) ⟨G37_valid, G38_valid, G39_valid, trivial⟩
noncomputable def G13_l0_c : Code := loopAt (bodyOf Tryz.f13) 0
noncomputable def G13_l1_c : Code := loopAt G13_l0_c 0
noncomputable def G13_l1_S : SPat := ⟨[.any, .any, .any, .any, .any, .any, .any, .fix (.bptr 1 []), .ip T88, .ip T88, .own 0 T60, .dat (.int .i64), .dat (.int .i64), .any, .any, .any, .any, .any, .any, .any, .any, .any, .any, .any, .any, .any, .any, .any, .any, .dat (.int .i64), .dat (.int .i64), .any, .any, .any, .any, .any, .any, .any, .any, .any, .any, .any, .any, .any, .any, .any, .any, .cons (.dat (.int .i64)) (.cons (.dat (.int .i64)) (.nil)), .dat (.int .i64), .any, .any, .any, .any, .any, .any, .any, .any, .any, .any, .any, .any, .any, .any, .any, .any, .any, .any, .any, .any, .any, .any, .any, .any, .any, .any, .any, .any, .any, .any, .any, .any, .any, .any, .any, .any, .any, .any, .any, .any, .any, .any, .any, .any, .any, .any], [.dat T25, .dat (.arr 3 (.int .i64))], 1⟩
abbrev TY10 : Type := (E88 × (E88 × ((List E60) × (Int × (Int × (Int × (Int × ((Int × (Int × Unit)) × (Int × Unit)))))))))
abbrev TY11 : Type := (Nat × ((E88 × (E88 × ((List E60) × (Int × (Int × (Int × (Int × ((Int × (Int × Unit)) × (Int × Unit))))))))) × (E25 × ((List Int) × Unit))))
noncomputable def G13_l1_step (s : (TY10 × (E25 × ((List Int) × Unit)))) : Option TY11 :=
  (bif (decide (s.1.2.2.2.2.2.2.2.2.1 < 2)) then
  (bif (decide (s.1.2.2.2.2.2.2.2.2.1 = (0 : Int))) then
    (bif (decide (s.1.2.2.2.2.2.2.2.1.1 > 0)) then
      some (0, ((s.1.1, (s.1.2.1, (s.1.2.2.1, (s.1.2.2.2.1, ((IntKind.wrap .i64 (s.1.2.2.2.2.1 + 1)), (s.1.2.2.2.2.2.1, (s.1.2.2.2.2.2.2.1, (s.1.2.2.2.2.2.2.2.1, ((IntKind.wrap .i64 (s.1.2.2.2.2.2.2.2.2.1 + 1)), ()))))))))), (s.2.1, (s.2.2.1, ()))))
      else
      some (0, ((s.1.1, (s.1.2.1, (s.1.2.2.1, (s.1.2.2.2.1, (s.1.2.2.2.2.1, (s.1.2.2.2.2.2.1, (s.1.2.2.2.2.2.2.1, (s.1.2.2.2.2.2.2.2.1, ((IntKind.wrap .i64 (s.1.2.2.2.2.2.2.2.2.1 + 1)), ()))))))))), (s.2.1, (s.2.2.1, ())))))
    else
    (bif (decide (s.1.2.2.2.2.2.2.2.2.1 = (1 : Int))) then
      (bif (decide (s.1.2.2.2.2.2.2.2.1.2.1 > 0)) then
        some (0, ((s.1.1, (s.1.2.1, (s.1.2.2.1, (s.1.2.2.2.1, ((IntKind.wrap .i64 (s.1.2.2.2.2.1 + 1)), (s.1.2.2.2.2.2.1, (s.1.2.2.2.2.2.2.1, (s.1.2.2.2.2.2.2.2.1, ((IntKind.wrap .i64 (s.1.2.2.2.2.2.2.2.2.1 + 1)), ()))))))))), (s.2.1, (s.2.2.1, ()))))
        else
        some (0, ((s.1.1, (s.1.2.1, (s.1.2.2.1, (s.1.2.2.2.1, (s.1.2.2.2.2.1, (s.1.2.2.2.2.2.1, (s.1.2.2.2.2.2.2.1, (s.1.2.2.2.2.2.2.2.1, ((IntKind.wrap .i64 (s.1.2.2.2.2.2.2.2.2.1 + 1)), ()))))))))), (s.2.1, (s.2.2.1, ())))))
      else
      none))
  else
  some (1, ((s.1.1, (s.1.2.1, (s.1.2.2.1, (s.1.2.2.2.1, (s.1.2.2.2.2.1, (s.1.2.2.2.2.2.1, (s.1.2.2.2.2.2.2.1, (s.1.2.2.2.2.2.2.2.1, (s.1.2.2.2.2.2.2.2.2.1, ()))))))))), (s.2.1, (s.2.2.1, ())))))
noncomputable def G13_l1_fuel (s : (TY10 × (E25 × ((List Int) × Unit)))) : Nat := Int.toNat (2 - s.1.2.2.2.2.2.2.2.2.1) + 1
noncomputable def G13_l1_run (s : (TY10 × (E25 × ((List Int) × Unit)))) : Option TY11 := iter G13_l1_step (G13_l1_fuel s) s
noncomputable def G13_l1_L : LoopT := loopT G13_l1_S [.exit 2] G13_l1_run
noncomputable def G13_l0_S : SPat := ⟨[.any, .any, .any, .any, .any, .any, .any, .fix (.bptr 1 []), .ip T88, .ip T88, .own 0 T60, .any, .any, .any, .any, .any, .any, .any, .any, .any, .any, .any, .any, .any, .any, .any, .any, .any, .any, .dat (.int .i64), .dat (.int .i64), .any, .any, .any, .any, .any, .any, .any, .any, .any, .any, .any, .any, .any, .any, .any, .any, .any, .any, .any, .any, .any, .any, .any, .any, .any, .any, .any, .any, .any, .any, .any, .any, .any, .any, .any, .any, .any, .any, .any, .any, .any, .any, .any, .any, .any, .any, .any, .any, .any, .any, .any, .any, .any, .any, .any, .any, .any, .any, .any, .any, .any, .any, .any, .any], [.dat T25, .dat (.arr 3 (.int .i64))], 1⟩
abbrev TY12 : Type := (Nat × ((E88 × (E88 × ((List E60) × (Int × (Int × Unit))))) × (E25 × ((List Int) × Unit))))
noncomputable def G13_l0_step (s : ((E88 × (E88 × ((List E60) × (Int × (Int × Unit))))) × (E25 × ((List Int) × Unit)))) : Option TY12 :=
  (bif (decide (s.1.2.2.2.2.1 < s.1.2.2.2.1)) then
  (bif (decide (0 ≤ s.1.2.2.2.2.1) && decide (s.1.2.2.2.2.1 < (List.length s.1.1.2.2.2.2.2.2.2.1 : Int))) then
    (bif (decide (0 ≤ s.1.2.2.2.2.1) && decide (s.1.2.2.2.2.1 < (List.length s.1.2.1.2.2.2.2.2.2.2.1 : Int))) then
      (Option.bind (G13_l1_run ((s.1.1, (s.1.2.1, (s.1.2.2.1, (s.1.2.2.2.2.1, (0, (s.1.2.2.2.1, (s.1.2.2.2.2.1, (((List.getD s.1.1.2.2.2.2.2.2.2.1 (Int.toNat s.1.2.2.2.2.1) 0), ((List.getD s.1.2.1.2.2.2.2.2.2.2.1 (Int.toNat s.1.2.2.2.2.1) 0), ())), (0, ()))))))))), (s.2.1, (s.2.2.1, ())))) fun q4 =>
        (bif (decide (0 ≤ q4.2.1.2.2.2.1) && decide (q4.2.1.2.2.2.1 < (List.length q4.2.1.1.2.2.2.2.2.2.1 : Int))) then
          (bif (decide (0 ≤ q4.2.1.2.2.2.1) && decide (q4.2.1.2.2.2.1 < (List.length q4.2.1.2.1.2.2.2.2.2.2.1 : Int))) then
            (bif (decide (0 ≤ q4.2.1.2.2.2.1) && decide (q4.2.1.2.2.2.1 < (List.length q4.2.1.1.2.2.2.2.2.2.2.1 : Int))) then
              (bif (decide (0 ≤ q4.2.1.2.2.2.1) && decide (q4.2.1.2.2.2.1 < (List.length q4.2.1.2.1.2.2.2.2.2.2.2.1 : Int))) then
                (bif (decide (0 ≤ q4.2.1.2.2.2.2.1) && decide (q4.2.1.2.2.2.2.1 < (3 : Int))) then
                  (bif (decide (List.length q4.2.1.2.2.1 + List.length [(((List.getD q4.2.1.1.2.2.2.2.2.2.1 (Int.toNat q4.2.1.2.2.2.1) 0), ((List.getD q4.2.1.2.1.2.2.2.2.2.2.1 (Int.toNat q4.2.1.2.2.2.1) 0), ())), (((List.getD q4.2.1.1.2.2.2.2.2.2.2.1 (Int.toNat q4.2.1.2.2.2.1) 0), ((List.getD q4.2.1.2.1.2.2.2.2.2.2.2.1 (Int.toNat q4.2.1.2.2.2.1) 0), ())), ((List.getD q4.2.2.2.1 (Int.toNat q4.2.1.2.2.2.2.1) 0), ())))] ≤ LIM)) then
                    some (0, ((q4.2.1.1, (q4.2.1.2.1, ((q4.2.1.2.2.1 ++ [(((List.getD q4.2.1.1.2.2.2.2.2.2.1 (Int.toNat q4.2.1.2.2.2.1) 0), ((List.getD q4.2.1.2.1.2.2.2.2.2.2.1 (Int.toNat q4.2.1.2.2.2.1) 0), ())), (((List.getD q4.2.1.1.2.2.2.2.2.2.2.1 (Int.toNat q4.2.1.2.2.2.1) 0), ((List.getD q4.2.1.2.1.2.2.2.2.2.2.2.1 (Int.toNat q4.2.1.2.2.2.1) 0), ())), ((List.getD q4.2.2.2.1 (Int.toNat q4.2.1.2.2.2.2.1) 0), ())))]), (q4.2.1.2.2.2.2.2.1, ((IntKind.wrap .i64 (q4.2.1.2.2.2.2.2.2.1 + 1)), ()))))), (q4.2.2.1, (q4.2.2.2.1, ()))))
                    else
                    none)
                  else
                  none)
                else
                none)
              else
              none)
            else
            none)
          else
          none))
      else
      none)
    else
    none)
  else
  some (1, ((s.1.1, (s.1.2.1, (s.1.2.2.1, (s.1.2.2.2.1, (s.1.2.2.2.2.1, ()))))), (s.2.1, (s.2.2.1, ())))))
noncomputable def G13_l0_fuel (s : ((E88 × (E88 × ((List E60) × (Int × (Int × Unit))))) × (E25 × ((List Int) × Unit)))) : Nat := Int.toNat (s.1.2.2.2.1 - s.1.2.2.2.2.1) + 1
noncomputable def G13_l0_run (s : ((E88 × (E88 × ((List E60) × (Int × (Int × Unit))))) × (E25 × ((List Int) × Unit)))) : Option TY12 := iter G13_l0_step (G13_l0_fuel s) s
noncomputable def G13_l0_L : LoopT := loopT G13_l0_S [.exit 0] G13_l0_run
noncomputable def G13 (a0 : E25) (a1 : (List E91)) : Option ((List E60) × (Int × Unit)) :=
  (Option.bind (G37 a0 a1 true) fun r1 =>
  (bif (r1 != 0) then
    some ([], (r1, ()))
    else
    (Option.bind (G38 a0 a1) fun r2 =>
      (Option.bind (G39 a0 a1 0) fun r3 =>
        (Option.bind (G13_l0_run ((r2, (r3, ([], ((List.length a1 : Int), (0, ()))))), (a0, ((1 :: (2 :: (3 :: []))), ())))) fun q5 =>
          some (q5.2.1.2.2.1, (0, ())))))))
noncomputable def G13_E : CEnt := pureE 13 [.dat T25, .dat (.list T91)] (.tup (.cons (.dat (.list T60)) (.cons (.dat (.int .i64)) (.nil)))) fun x => G13 x.1 x.2.1
theorem G13_l1_V : LValid 0 Tryz.prog (.loop G13_l1_c) G13_l1_L false := by
  have hb : ∀ s, codeR Tryz.prog G13_C G13_l1_c [] (G13_l1_S.encE s) (G13_l1_S.encB s) (kst G13_l1_S [.exit 2]) = G13_l1_step s := by
    intro s; kernel_rfl
  have hL : LV 0 Tryz.prog false (loopsOf G13_l1_c) [] := by unfold LV; cases loopsOf G13_l1_c <;> trivial
  exact loopT_valid (fuel := G13_l1_fuel) mixed G13_CV hL (by kernel_rfl) (by decide) rfl hb (fun s r h => h)
theorem G13_l0_V : LValid 0 Tryz.prog (.loop G13_l0_c) G13_l0_L false := by
  have hb : ∀ s, codeR Tryz.prog G13_C G13_l0_c [G13_l1_L] (G13_l0_S.encE s) (G13_l0_S.encB s) (kst G13_l0_S [.exit 0]) = G13_l0_step s := by
    intro s; kernel_rfl
  have hl : loopsOf G13_l0_c = [.loop G13_l1_c] := by kernel_rfl
  have hL : LV 0 Tryz.prog false (loopsOf G13_l0_c) [G13_l1_L] := by rw [hl]; exact ⟨G13_l1_V, trivial⟩
  exact loopT_valid (fuel := G13_l0_fuel) mixed G13_CV hL (by kernel_rfl) (by decide) rfl hb (fun s r h => h)
theorem G13_LV : LV 0 Tryz.prog false (loopsOf (bodyOf Tryz.f13)) [G13_l0_L] := by
  have hl : loopsOf (bodyOf Tryz.f13) = [.loop G13_l0_c] := by kernel_rfl
  rw [hl]; exact ⟨G13_l0_V, trivial⟩
theorem G13_ent : Ent Tryz.prog 13 := ⟨by decide, enters_of Tryz.func13 (by kernel_rfl) rfl⟩
theorem G13_hev : ∀ x, fnR Tryz.prog G13_C [G13_l0_L] Tryz.f13 (bodyOf Tryz.f13) (encs [.dat T25, .dat (.list T91)] x) ⟨[], [], 0⟩ (frzF (.tup (.cons (.dat (.list T60)) (.cons (.dat (.int .i64)) (.nil))))) = G13 x.1 x.2.1 := by
  intro x; kernel_rfl
theorem G13_valid : G13_E.Valid Tryz.prog :=
  pureE_valid (by kernel_rfl) (by kernel_rfl) G13_ent (frz_lcall mixed Tryz.func13 rfl G13_ent G13_CV G13_LV (by kernel_rfl) (by kernel_rfl) G13_hev)
noncomputable def G41_C : CalT := tabC []
theorem G41_CV : CV Tryz.prog G41_C := tabC_valid (l := _) trivial
noncomputable def G41 (a0 : E65) : Option E23 :=
  some a0.2.1
noncomputable def G41_E : CEnt := pureE 41 [.dat T65] (.dat T23) fun x => G41 x.1
theorem G41_LV : LV 0 Tryz.prog false (loopsOf (bodyOf Tryz.f41)) [] := by unfold LV; cases loopsOf (bodyOf Tryz.f41) <;> trivial
theorem G41_ent : Ent Tryz.prog 41 := ⟨by decide, enters_of Tryz.func41 (by kernel_rfl) rfl⟩
theorem G41_hev : ∀ x, fnR Tryz.prog G41_C [] Tryz.f41 (bodyOf Tryz.f41) (encs [.dat T65] x) ⟨[], [], 0⟩ (frzF (.dat T23)) = G41 x.1 := by
  intro x; kernel_rfl
theorem G41_valid : G41_E.Valid Tryz.prog :=
  pureE_valid (by kernel_rfl) (by kernel_rfl) G41_ent (frz_lcall mixed Tryz.func41 rfl G41_ent G41_CV G41_LV (by kernel_rfl) (by kernel_rfl) G41_hev)
noncomputable def G40_C : CalT := tabC [G41_E, G53_E]
theorem G40_CV : CV Tryz.prog G40_C := tabC_valid (l := _) ⟨G41_valid, G53_valid, trivial⟩
noncomputable def G40_l0_c : Code := loopAt (bodyOf Tryz.f40) 0
noncomputable def G40_l0_S : SPat := ⟨[.any, .dat (.list T65), .fix (.func (.func 41) .nil .nil), .any, .any, .any, .dat .bool, .any, .any, .any, .any, .any, .any, .any, .any, .dat (.list (.int .i64)), .dat (.int .i64), .dat (.int .i64), .any, .any, .any, .any, .any, .any, .any, .any, .any, .any, .any, .any, .any, .any, .any, .any, .any, .any], [], 0⟩
abbrev TY13 : Type := (Nat × (((List E65) × (Bool × ((List Int) × (Int × (Int × Unit))))) × Unit))
noncomputable def G40_l0_step (s : (((List E65) × (Bool × ((List Int) × (Int × (Int × Unit))))) × Unit)) : Option TY13 :=
  (bif (decide (s.1.2.2.2.2.1 < s.1.2.2.2.1)) then
  (bif (decide (0 ≤ s.1.2.2.2.2.1) && decide (s.1.2.2.2.2.1 < (List.length s.1.2.2.1 : Int))) then
    (bif (decide (0 ≤ s.1.2.2.2.2.1) && decide (s.1.2.2.2.2.1 < (List.length s.1.1 : Int))) then
      (Option.bind (G41 (List.getD s.1.1 (Int.toNat s.1.2.2.2.2.1) (0, ((0, (0, ())), ())))) fun r1 =>
        (Option.bind (G53 (List.getD s.1.2.2.1 (Int.toNat s.1.2.2.2.2.1) 0) r1.1 r1.2.1) fun r2 =>
          (bif (!r2) then
            some (1, ((s.1.1, (false, (s.1.2.2.1, (s.1.2.2.2.1, (s.1.2.2.2.2.1, ()))))), ()))
            else
            some (0, ((s.1.1, (s.1.2.1, (s.1.2.2.1, (s.1.2.2.2.1, ((IntKind.wrap .i64 (s.1.2.2.2.2.1 + 1)), ()))))), ())))))
      else
      none)
    else
    none)
  else
  some (2, ((s.1.1, (s.1.2.1, (s.1.2.2.1, (s.1.2.2.2.1, (s.1.2.2.2.2.1, ()))))), ())))
noncomputable def G40_l0_fuel (s : (((List E65) × (Bool × ((List Int) × (Int × (Int × Unit))))) × Unit)) : Nat := Int.toNat (s.1.2.2.2.1 - s.1.2.2.2.2.1) + 1
noncomputable def G40_l0_run (s : (((List E65) × (Bool × ((List Int) × (Int × (Int × Unit))))) × Unit)) : Option TY13 := iter G40_l0_step (G40_l0_fuel s) s
noncomputable def G40_l0_L : LoopT := loopT G40_l0_S [.ret, .exit 0] G40_l0_run
noncomputable def G40 (a0 : (List Int)) (a1 : (List E65)) : Option Bool :=
  (bif ((List.length a0 : Int) != (List.length a1 : Int)) then
  some false
  else
  (Option.bind (G40_l0_run ((a1, (false, (a0, ((List.length a0 : Int), (0, ()))))), ())) fun q3 =>
    (natK q3.1
      (some q3.2.1.2.1)
      (fun _ => some true))))
noncomputable def G40_E : CEnt := pureE 40 [.dat (.list (.int .i64)), .dat (.list T65), .fix (.func (.func 41) .nil .nil)] (.dat .bool) fun x => G40 x.1 x.2.1
theorem G40_l0_V : LValid 0 Tryz.prog (.loop G40_l0_c) G40_l0_L false := by
  have hb : ∀ s, codeR Tryz.prog G40_C G40_l0_c [] (G40_l0_S.encE s) (G40_l0_S.encB s) (kst G40_l0_S [.ret, .exit 0]) = G40_l0_step s := by
    intro s; kernel_rfl
  have hL : LV 0 Tryz.prog false (loopsOf G40_l0_c) [] := by unfold LV; cases loopsOf G40_l0_c <;> trivial
  exact loopT_valid (fuel := G40_l0_fuel) mixed G40_CV hL (by kernel_rfl) (by decide) rfl hb (fun s r h => h)
theorem G40_LV : LV 0 Tryz.prog false (loopsOf (bodyOf Tryz.f40)) [G40_l0_L] := by
  have hl : loopsOf (bodyOf Tryz.f40) = [.loop G40_l0_c] := by kernel_rfl
  rw [hl]; exact ⟨G40_l0_V, trivial⟩
theorem G40_ent : Ent Tryz.prog 40 := ⟨by decide, enters_of Tryz.func40 (by kernel_rfl) rfl⟩
theorem G40_hev : ∀ x, fnR Tryz.prog G40_C [G40_l0_L] Tryz.f40 (bodyOf Tryz.f40) (encs [.dat (.list (.int .i64)), .dat (.list T65), .fix (.func (.func 41) .nil .nil)] x) ⟨[], [], 0⟩ (frzF (.dat .bool)) = G40 x.1 x.2.1 := by
  intro x; kernel_rfl
theorem G40_valid : G40_E.Valid Tryz.prog :=
  pureE_valid (by kernel_rfl) (by kernel_rfl) G40_ent (frz_lcall mixed Tryz.func40 rfl G40_ent G40_CV G40_LV (by kernel_rfl) (by kernel_rfl) G40_hev)
noncomputable def G43_C : CalT := tabC []
theorem G43_CV : CV Tryz.prog G43_C := tabC_valid (l := _) trivial
noncomputable def G43 (a0 : E91) (b1 : E25) : Option (E23 × (E25 × Unit)) :=
  some (b1.2.1, (b1, ()))
abbrev G43_CS : CSpec := ⟨[.dat T91, .fix (.bptr 0 [])], [.dat T25], 0, [.dat T25], 0, .dat T23⟩
noncomputable def G43_E : CEnt := boxE 43 G43_CS fun x => G43 x.1.1 x.2.1
theorem G43_LV : LV 1 Tryz.prog false (loopsOf (bodyOf Tryz.f43)) [] := by unfold LV; cases loopsOf (bodyOf Tryz.f43) <;> trivial
theorem G43_ent : Ent Tryz.prog 43 := ⟨by decide, enters_of Tryz.func43 (by kernel_rfl) rfl⟩
theorem G43_hev : ∀ x : G43_CS.In, fnR Tryz.prog G43_C [] Tryz.f43 (bodyOf Tryz.f43) (encs G43_CS.A x.1) ⟨encs G43_CS.I x.2, [], G43_CS.nt⟩ (finK G43_CS) = G43 x.1.1 x.2.1 := by
  intro x; kernel_rfl
theorem G43_valid : G43_E.Valid Tryz.prog :=
  boxE_valid (S := G43_CS) (by kernel_rfl) (.inr G43_ent) (fn_lcall (S := G43_CS) mixed Tryz.func43 rfl G43_ent G43_CV G43_LV (by kernel_rfl) (by kernel_rfl) G43_hev)
noncomputable def G42_C : CalT := tabC [G43_E, G53_E]
theorem G42_CV : CV Tryz.prog G42_C := tabC_valid (l := _) ⟨G43_valid, G53_valid, trivial⟩
noncomputable def G42_l0_c : Code := loopAt (bodyOf Tryz.f42) 0
noncomputable def G42_l0_S : SPat := ⟨[.any, .dat (.list T91), .fix (.func (.func 43) .nil (.cons (.bptr 0 []) .nil)), .any, .any, .any, .dat .bool, .any, .any, .any, .any, .any, .any, .any, .any, .dat (.list (.int .i64)), .dat (.int .i64), .dat (.int .i64), .any, .any, .any, .any, .any, .any, .any, .any, .any, .any, .any, .any, .any, .any, .any, .any, .any, .any], [.dat T25], 0⟩
abbrev TY14 : Type := (((List E91) × (Bool × ((List Int) × (Int × (Int × Unit))))) × (E25 × Unit))
abbrev TY15 : Type := (Nat × (((List E91) × (Bool × ((List Int) × (Int × (Int × Unit))))) × (E25 × Unit)))
noncomputable def G42_l0_step (s : TY14) : Option TY15 :=
  (bif (decide (s.1.2.2.2.2.1 < s.1.2.2.2.1)) then
  (bif (decide (0 ≤ s.1.2.2.2.2.1) && decide (s.1.2.2.2.2.1 < (List.length s.1.2.2.1 : Int))) then
    (bif (decide (0 ≤ s.1.2.2.2.2.1) && decide (s.1.2.2.2.2.1 < (List.length s.1.1 : Int))) then
      (Option.bind (G43 (List.getD s.1.1 (Int.toNat s.1.2.2.2.2.1) ((0, (0, ())), ((0, (0, ())), ((0, (0, ())), ())))) s.2.1) fun r1 =>
        (Option.bind (G53 (List.getD s.1.2.2.1 (Int.toNat s.1.2.2.2.2.1) 0) r1.1.1 r1.1.2.1) fun r2 =>
          (bif (!r2) then
            some (1, ((s.1.1, (false, (s.1.2.2.1, (s.1.2.2.2.1, (s.1.2.2.2.2.1, ()))))), (r1.2.1, ())))
            else
            some (0, ((s.1.1, (s.1.2.1, (s.1.2.2.1, (s.1.2.2.2.1, ((IntKind.wrap .i64 (s.1.2.2.2.2.1 + 1)), ()))))), (r1.2.1, ()))))))
      else
      none)
    else
    none)
  else
  some (2, ((s.1.1, (s.1.2.1, (s.1.2.2.1, (s.1.2.2.2.1, (s.1.2.2.2.2.1, ()))))), (s.2.1, ()))))
noncomputable def G42_l0_fuel (s : TY14) : Nat := Int.toNat (s.1.2.2.2.1 - s.1.2.2.2.2.1) + 1
noncomputable def G42_l0_run (s : TY14) : Option TY15 := iter G42_l0_step (G42_l0_fuel s) s
noncomputable def G42_l0_L : LoopT := loopT G42_l0_S [.ret, .exit 0] G42_l0_run
noncomputable def G42 (a0 : (List Int)) (a1 : (List E91)) (b2 : E25) : Option (Bool × (E25 × Unit)) :=
  (bif ((List.length a0 : Int) != (List.length a1 : Int)) then
  some (false, (b2, ()))
  else
  (Option.bind (G42_l0_run ((a1, (false, (a0, ((List.length a0 : Int), (0, ()))))), (b2, ()))) fun q3 =>
    (natK q3.1
      (some (q3.2.1.2.1, (q3.2.2.1, ())))
      (fun _ => some (true, (q3.2.2.1, ()))))))
abbrev G42_CS : CSpec := ⟨[.dat (.list (.int .i64)), .dat (.list T91), .fix (.func (.func 43) .nil (.cons (.bptr 0 []) .nil))], [.dat T25], 0, [.dat T25], 0, .dat .bool⟩
noncomputable def G42_E : CEnt := boxE 42 G42_CS fun x => G42 x.1.1 x.1.2.1 x.2.1
theorem G42_l0_V : LValid 1 Tryz.prog (.loop G42_l0_c) G42_l0_L false := by
  have hb : ∀ s, codeR Tryz.prog G42_C G42_l0_c [] (G42_l0_S.encE s) (G42_l0_S.encB s) (kst G42_l0_S [.ret, .exit 0]) = G42_l0_step s := by
    intro s; kernel_rfl
  have hL : LV 1 Tryz.prog false (loopsOf G42_l0_c) [] := by unfold LV; cases loopsOf G42_l0_c <;> trivial
  exact loopT_valid (fuel := G42_l0_fuel) mixed G42_CV hL (by kernel_rfl) (by decide) rfl hb (fun s r h => h)
theorem G42_LV : LV 1 Tryz.prog false (loopsOf (bodyOf Tryz.f42)) [G42_l0_L] := by
  have hl : loopsOf (bodyOf Tryz.f42) = [.loop G42_l0_c] := by kernel_rfl
  rw [hl]; exact ⟨G42_l0_V, trivial⟩
theorem G42_ent : Ent Tryz.prog 42 := ⟨by decide, enters_of Tryz.func42 (by kernel_rfl) rfl⟩
theorem G42_hev : ∀ x : G42_CS.In, fnR Tryz.prog G42_C [G42_l0_L] Tryz.f42 (bodyOf Tryz.f42) (encs G42_CS.A x.1) ⟨encs G42_CS.I x.2, [], G42_CS.nt⟩ (finK G42_CS) = G42 x.1.1 x.1.2.1 x.2.1 := by
  intro x; kernel_rfl
theorem G42_valid : G42_E.Valid Tryz.prog :=
  boxE_valid (S := G42_CS) (by kernel_rfl) (.inr G42_ent) (fn_lcall (S := G42_CS) mixed Tryz.func42 rfl G42_ent G42_CV G42_LV (by kernel_rfl) (by kernel_rfl) G42_hev)
noncomputable def G44_C : CalT := tabC []
theorem G44_CV : CV Tryz.prog G44_C := tabC_valid (l := _) trivial
noncomputable def G44 (a0 : E91) : Option E23 :=
  some a0.1
noncomputable def G44_E : CEnt := pureE 44 [.dat T91] (.dat T23) fun x => G44 x.1
theorem G44_LV : LV 0 Tryz.prog false (loopsOf (bodyOf Tryz.f44)) [] := by unfold LV; cases loopsOf (bodyOf Tryz.f44) <;> trivial
theorem G44_ent : Ent Tryz.prog 44 := ⟨by decide, enters_of Tryz.func44 (by kernel_rfl) rfl⟩
theorem G44_hev : ∀ x, fnR Tryz.prog G44_C [] Tryz.f44 (bodyOf Tryz.f44) (encs [.dat T91] x) ⟨[], [], 0⟩ (frzF (.dat T23)) = G44 x.1 := by
  intro x; kernel_rfl
theorem G44_valid : G44_E.Valid Tryz.prog :=
  pureE_valid (by kernel_rfl) (by kernel_rfl) G44_ent (frz_lcall mixed Tryz.func44 rfl G44_ent G44_CV G44_LV (by kernel_rfl) (by kernel_rfl) G44_hev)
noncomputable def G42_v1_C : CalT := tabC [G44_E, G53_E]
theorem G42_v1_CV : CV Tryz.prog G42_v1_C := tabC_valid (l := _) ⟨G44_valid, G53_valid, trivial⟩
noncomputable def G42_v1_l0_c : Code := loopAt (bodyOf Tryz.f42) 0
noncomputable def G42_v1_l0_S : SPat := ⟨[.any, .dat (.list T91), .fix (.func (.func 44) .nil .nil), .any, .any, .any, .dat .bool, .any, .any, .any, .any, .any, .any, .any, .any, .dat (.list (.int .i64)), .dat (.int .i64), .dat (.int .i64), .any, .any, .any, .any, .any, .any, .any, .any, .any, .any, .any, .any, .any, .any, .any, .any, .any, .any], [], 0⟩
abbrev TY16 : Type := (Nat × (((List E91) × (Bool × ((List Int) × (Int × (Int × Unit))))) × Unit))
noncomputable def G42_v1_l0_step (s : (((List E91) × (Bool × ((List Int) × (Int × (Int × Unit))))) × Unit)) : Option TY16 :=
  (bif (decide (s.1.2.2.2.2.1 < s.1.2.2.2.1)) then
  (bif (decide (0 ≤ s.1.2.2.2.2.1) && decide (s.1.2.2.2.2.1 < (List.length s.1.2.2.1 : Int))) then
    (bif (decide (0 ≤ s.1.2.2.2.2.1) && decide (s.1.2.2.2.2.1 < (List.length s.1.1 : Int))) then
      (Option.bind (G44 (List.getD s.1.1 (Int.toNat s.1.2.2.2.2.1) ((0, (0, ())), ((0, (0, ())), ((0, (0, ())), ()))))) fun r1 =>
        (Option.bind (G53 (List.getD s.1.2.2.1 (Int.toNat s.1.2.2.2.2.1) 0) r1.1 r1.2.1) fun r2 =>
          (bif (!r2) then
            some (1, ((s.1.1, (false, (s.1.2.2.1, (s.1.2.2.2.1, (s.1.2.2.2.2.1, ()))))), ()))
            else
            some (0, ((s.1.1, (s.1.2.1, (s.1.2.2.1, (s.1.2.2.2.1, ((IntKind.wrap .i64 (s.1.2.2.2.2.1 + 1)), ()))))), ())))))
      else
      none)
    else
    none)
  else
  some (2, ((s.1.1, (s.1.2.1, (s.1.2.2.1, (s.1.2.2.2.1, (s.1.2.2.2.2.1, ()))))), ())))
noncomputable def G42_v1_l0_fuel (s : (((List E91) × (Bool × ((List Int) × (Int × (Int × Unit))))) × Unit)) : Nat := Int.toNat (s.1.2.2.2.1 - s.1.2.2.2.2.1) + 1
noncomputable def G42_v1_l0_run (s : (((List E91) × (Bool × ((List Int) × (Int × (Int × Unit))))) × Unit)) : Option TY16 := iter G42_v1_l0_step (G42_v1_l0_fuel s) s
noncomputable def G42_v1_l0_L : LoopT := loopT G42_v1_l0_S [.ret, .exit 0] G42_v1_l0_run
noncomputable def G42_v1 (a0 : (List Int)) (a1 : (List E91)) : Option Bool :=
  (bif ((List.length a0 : Int) != (List.length a1 : Int)) then
  some false
  else
  (Option.bind (G42_v1_l0_run ((a1, (false, (a0, ((List.length a0 : Int), (0, ()))))), ())) fun q3 =>
    (natK q3.1
      (some q3.2.1.2.1)
      (fun _ => some true))))
noncomputable def G42_v1_E : CEnt := pureE 42 [.dat (.list (.int .i64)), .dat (.list T91), .fix (.func (.func 44) .nil .nil)] (.dat .bool) fun x => G42_v1 x.1 x.2.1
theorem G42_v1_l0_V : LValid 0 Tryz.prog (.loop G42_v1_l0_c) G42_v1_l0_L false := by
  have hb : ∀ s, codeR Tryz.prog G42_v1_C G42_v1_l0_c [] (G42_v1_l0_S.encE s) (G42_v1_l0_S.encB s) (kst G42_v1_l0_S [.ret, .exit 0]) = G42_v1_l0_step s := by
    intro s; kernel_rfl
  have hL : LV 0 Tryz.prog false (loopsOf G42_v1_l0_c) [] := by unfold LV; cases loopsOf G42_v1_l0_c <;> trivial
  exact loopT_valid (fuel := G42_v1_l0_fuel) mixed G42_v1_CV hL (by kernel_rfl) (by decide) rfl hb (fun s r h => h)
theorem G42_v1_LV : LV 0 Tryz.prog false (loopsOf (bodyOf Tryz.f42)) [G42_v1_l0_L] := by
  have hl : loopsOf (bodyOf Tryz.f42) = [.loop G42_v1_l0_c] := by kernel_rfl
  rw [hl]; exact ⟨G42_v1_l0_V, trivial⟩
theorem G42_v1_ent : Ent Tryz.prog 42 := ⟨by decide, enters_of Tryz.func42 (by kernel_rfl) rfl⟩
theorem G42_v1_hev : ∀ x, fnR Tryz.prog G42_v1_C [G42_v1_l0_L] Tryz.f42 (bodyOf Tryz.f42) (encs [.dat (.list (.int .i64)), .dat (.list T91), .fix (.func (.func 44) .nil .nil)] x) ⟨[], [], 0⟩ (frzF (.dat .bool)) = G42_v1 x.1 x.2.1 := by
  intro x; kernel_rfl
theorem G42_v1_valid : G42_v1_E.Valid Tryz.prog :=
  pureE_valid (by kernel_rfl) (by kernel_rfl) G42_v1_ent (frz_lcall mixed Tryz.func42 rfl G42_v1_ent G42_v1_CV G42_v1_LV (by kernel_rfl) (by kernel_rfl) G42_v1_hev)
noncomputable def G45_C : CalT := tabC []
theorem G45_CV : CV Tryz.prog G45_C := tabC_valid (l := _) trivial
noncomputable def G45 (a0 : E91) : Option E23 :=
  some a0.2.1
noncomputable def G45_E : CEnt := pureE 45 [.dat T91] (.dat T23) fun x => G45 x.1
theorem G45_LV : LV 0 Tryz.prog false (loopsOf (bodyOf Tryz.f45)) [] := by unfold LV; cases loopsOf (bodyOf Tryz.f45) <;> trivial
theorem G45_ent : Ent Tryz.prog 45 := ⟨by decide, enters_of Tryz.func45 (by kernel_rfl) rfl⟩
theorem G45_hev : ∀ x, fnR Tryz.prog G45_C [] Tryz.f45 (bodyOf Tryz.f45) (encs [.dat T91] x) ⟨[], [], 0⟩ (frzF (.dat T23)) = G45 x.1 := by
  intro x; kernel_rfl
theorem G45_valid : G45_E.Valid Tryz.prog :=
  pureE_valid (by kernel_rfl) (by kernel_rfl) G45_ent (frz_lcall mixed Tryz.func45 rfl G45_ent G45_CV G45_LV (by kernel_rfl) (by kernel_rfl) G45_hev)
noncomputable def G42_v2_C : CalT := tabC [G45_E, G53_E]
theorem G42_v2_CV : CV Tryz.prog G42_v2_C := tabC_valid (l := _) ⟨G45_valid, G53_valid, trivial⟩
noncomputable def G42_v2_l0_c : Code := loopAt (bodyOf Tryz.f42) 0
noncomputable def G42_v2_l0_S : SPat := ⟨[.any, .dat (.list T91), .fix (.func (.func 45) .nil .nil), .any, .any, .any, .dat .bool, .any, .any, .any, .any, .any, .any, .any, .any, .dat (.list (.int .i64)), .dat (.int .i64), .dat (.int .i64), .any, .any, .any, .any, .any, .any, .any, .any, .any, .any, .any, .any, .any, .any, .any, .any, .any, .any], [], 0⟩
noncomputable def G42_v2_l0_step (s : (((List E91) × (Bool × ((List Int) × (Int × (Int × Unit))))) × Unit)) : Option TY16 :=
  (bif (decide (s.1.2.2.2.2.1 < s.1.2.2.2.1)) then
  (bif (decide (0 ≤ s.1.2.2.2.2.1) && decide (s.1.2.2.2.2.1 < (List.length s.1.2.2.1 : Int))) then
    (bif (decide (0 ≤ s.1.2.2.2.2.1) && decide (s.1.2.2.2.2.1 < (List.length s.1.1 : Int))) then
      (Option.bind (G45 (List.getD s.1.1 (Int.toNat s.1.2.2.2.2.1) ((0, (0, ())), ((0, (0, ())), ((0, (0, ())), ()))))) fun r1 =>
        (Option.bind (G53 (List.getD s.1.2.2.1 (Int.toNat s.1.2.2.2.2.1) 0) r1.1 r1.2.1) fun r2 =>
          (bif (!r2) then
            some (1, ((s.1.1, (false, (s.1.2.2.1, (s.1.2.2.2.1, (s.1.2.2.2.2.1, ()))))), ()))
            else
            some (0, ((s.1.1, (s.1.2.1, (s.1.2.2.1, (s.1.2.2.2.1, ((IntKind.wrap .i64 (s.1.2.2.2.2.1 + 1)), ()))))), ())))))
      else
      none)
    else
    none)
  else
  some (2, ((s.1.1, (s.1.2.1, (s.1.2.2.1, (s.1.2.2.2.1, (s.1.2.2.2.2.1, ()))))), ())))
noncomputable def G42_v2_l0_fuel (s : (((List E91) × (Bool × ((List Int) × (Int × (Int × Unit))))) × Unit)) : Nat := Int.toNat (s.1.2.2.2.1 - s.1.2.2.2.2.1) + 1
noncomputable def G42_v2_l0_run (s : (((List E91) × (Bool × ((List Int) × (Int × (Int × Unit))))) × Unit)) : Option TY16 := iter G42_v2_l0_step (G42_v2_l0_fuel s) s
noncomputable def G42_v2_l0_L : LoopT := loopT G42_v2_l0_S [.ret, .exit 0] G42_v2_l0_run
noncomputable def G42_v2 (a0 : (List Int)) (a1 : (List E91)) : Option Bool :=
  (bif ((List.length a0 : Int) != (List.length a1 : Int)) then
  some false
  else
  (Option.bind (G42_v2_l0_run ((a1, (false, (a0, ((List.length a0 : Int), (0, ()))))), ())) fun q3 =>
    (natK q3.1
      (some q3.2.1.2.1)
      (fun _ => some true))))
noncomputable def G42_v2_E : CEnt := pureE 42 [.dat (.list (.int .i64)), .dat (.list T91), .fix (.func (.func 45) .nil .nil)] (.dat .bool) fun x => G42_v2 x.1 x.2.1
theorem G42_v2_l0_V : LValid 0 Tryz.prog (.loop G42_v2_l0_c) G42_v2_l0_L false := by
  have hb : ∀ s, codeR Tryz.prog G42_v2_C G42_v2_l0_c [] (G42_v2_l0_S.encE s) (G42_v2_l0_S.encB s) (kst G42_v2_l0_S [.ret, .exit 0]) = G42_v2_l0_step s := by
    intro s; kernel_rfl
  have hL : LV 0 Tryz.prog false (loopsOf G42_v2_l0_c) [] := by unfold LV; cases loopsOf G42_v2_l0_c <;> trivial
  exact loopT_valid (fuel := G42_v2_l0_fuel) mixed G42_v2_CV hL (by kernel_rfl) (by decide) rfl hb (fun s r h => h)
theorem G42_v2_LV : LV 0 Tryz.prog false (loopsOf (bodyOf Tryz.f42)) [G42_v2_l0_L] := by
  have hl : loopsOf (bodyOf Tryz.f42) = [.loop G42_v2_l0_c] := by kernel_rfl
  rw [hl]; exact ⟨G42_v2_l0_V, trivial⟩
theorem G42_v2_ent : Ent Tryz.prog 42 := ⟨by decide, enters_of Tryz.func42 (by kernel_rfl) rfl⟩
theorem G42_v2_hev : ∀ x, fnR Tryz.prog G42_v2_C [G42_v2_l0_L] Tryz.f42 (bodyOf Tryz.f42) (encs [.dat (.list (.int .i64)), .dat (.list T91), .fix (.func (.func 45) .nil .nil)] x) ⟨[], [], 0⟩ (frzF (.dat .bool)) = G42_v2 x.1 x.2.1 := by
  intro x; kernel_rfl
theorem G42_v2_valid : G42_v2_E.Valid Tryz.prog :=
  pureE_valid (by kernel_rfl) (by kernel_rfl) G42_v2_ent (frz_lcall mixed Tryz.func42 rfl G42_v2_ent G42_v2_CV G42_v2_LV (by kernel_rfl) (by kernel_rfl) G42_v2_hev)
noncomputable def G46_C : CalT := tabC []
theorem G46_CV : CV Tryz.prog G46_C := tabC_valid (l := _) trivial
noncomputable def G46 (a0 : E91) : Option E23 :=
  some a0.2.2.1
noncomputable def G46_E : CEnt := pureE 46 [.dat T91] (.dat T23) fun x => G46 x.1
theorem G46_LV : LV 0 Tryz.prog false (loopsOf (bodyOf Tryz.f46)) [] := by unfold LV; cases loopsOf (bodyOf Tryz.f46) <;> trivial
theorem G46_ent : Ent Tryz.prog 46 := ⟨by decide, enters_of Tryz.func46 (by kernel_rfl) rfl⟩
theorem G46_hev : ∀ x, fnR Tryz.prog G46_C [] Tryz.f46 (bodyOf Tryz.f46) (encs [.dat T91] x) ⟨[], [], 0⟩ (frzF (.dat T23)) = G46 x.1 := by
  intro x; kernel_rfl
theorem G46_valid : G46_E.Valid Tryz.prog :=
  pureE_valid (by kernel_rfl) (by kernel_rfl) G46_ent (frz_lcall mixed Tryz.func46 rfl G46_ent G46_CV G46_LV (by kernel_rfl) (by kernel_rfl) G46_hev)
noncomputable def G42_v3_C : CalT := tabC [G46_E, G53_E]
theorem G42_v3_CV : CV Tryz.prog G42_v3_C := tabC_valid (l := _) ⟨G46_valid, G53_valid, trivial⟩
noncomputable def G42_v3_l0_c : Code := loopAt (bodyOf Tryz.f42) 0
noncomputable def G42_v3_l0_S : SPat := ⟨[.any, .dat (.list T91), .fix (.func (.func 46) .nil .nil), .any, .any, .any, .dat .bool, .any, .any, .any, .any, .any, .any, .any, .any, .dat (.list (.int .i64)), .dat (.int .i64), .dat (.int .i64), .any, .any, .any, .any, .any, .any, .any, .any, .any, .any, .any, .any, .any, .any, .any, .any, .any, .any], [], 0⟩
noncomputable def G42_v3_l0_step (s : (((List E91) × (Bool × ((List Int) × (Int × (Int × Unit))))) × Unit)) : Option TY16 :=
  (bif (decide (s.1.2.2.2.2.1 < s.1.2.2.2.1)) then
  (bif (decide (0 ≤ s.1.2.2.2.2.1) && decide (s.1.2.2.2.2.1 < (List.length s.1.2.2.1 : Int))) then
    (bif (decide (0 ≤ s.1.2.2.2.2.1) && decide (s.1.2.2.2.2.1 < (List.length s.1.1 : Int))) then
      (Option.bind (G46 (List.getD s.1.1 (Int.toNat s.1.2.2.2.2.1) ((0, (0, ())), ((0, (0, ())), ((0, (0, ())), ()))))) fun r1 =>
        (Option.bind (G53 (List.getD s.1.2.2.1 (Int.toNat s.1.2.2.2.2.1) 0) r1.1 r1.2.1) fun r2 =>
          (bif (!r2) then
            some (1, ((s.1.1, (false, (s.1.2.2.1, (s.1.2.2.2.1, (s.1.2.2.2.2.1, ()))))), ()))
            else
            some (0, ((s.1.1, (s.1.2.1, (s.1.2.2.1, (s.1.2.2.2.1, ((IntKind.wrap .i64 (s.1.2.2.2.2.1 + 1)), ()))))), ())))))
      else
      none)
    else
    none)
  else
  some (2, ((s.1.1, (s.1.2.1, (s.1.2.2.1, (s.1.2.2.2.1, (s.1.2.2.2.2.1, ()))))), ())))
noncomputable def G42_v3_l0_fuel (s : (((List E91) × (Bool × ((List Int) × (Int × (Int × Unit))))) × Unit)) : Nat := Int.toNat (s.1.2.2.2.1 - s.1.2.2.2.2.1) + 1
noncomputable def G42_v3_l0_run (s : (((List E91) × (Bool × ((List Int) × (Int × (Int × Unit))))) × Unit)) : Option TY16 := iter G42_v3_l0_step (G42_v3_l0_fuel s) s
noncomputable def G42_v3_l0_L : LoopT := loopT G42_v3_l0_S [.ret, .exit 0] G42_v3_l0_run
noncomputable def G42_v3 (a0 : (List Int)) (a1 : (List E91)) : Option Bool :=
  (bif ((List.length a0 : Int) != (List.length a1 : Int)) then
  some false
  else
  (Option.bind (G42_v3_l0_run ((a1, (false, (a0, ((List.length a0 : Int), (0, ()))))), ())) fun q3 =>
    (natK q3.1
      (some q3.2.1.2.1)
      (fun _ => some true))))
noncomputable def G42_v3_E : CEnt := pureE 42 [.dat (.list (.int .i64)), .dat (.list T91), .fix (.func (.func 46) .nil .nil)] (.dat .bool) fun x => G42_v3 x.1 x.2.1
theorem G42_v3_l0_V : LValid 0 Tryz.prog (.loop G42_v3_l0_c) G42_v3_l0_L false := by
  have hb : ∀ s, codeR Tryz.prog G42_v3_C G42_v3_l0_c [] (G42_v3_l0_S.encE s) (G42_v3_l0_S.encB s) (kst G42_v3_l0_S [.ret, .exit 0]) = G42_v3_l0_step s := by
    intro s; kernel_rfl
  have hL : LV 0 Tryz.prog false (loopsOf G42_v3_l0_c) [] := by unfold LV; cases loopsOf G42_v3_l0_c <;> trivial
  exact loopT_valid (fuel := G42_v3_l0_fuel) mixed G42_v3_CV hL (by kernel_rfl) (by decide) rfl hb (fun s r h => h)
theorem G42_v3_LV : LV 0 Tryz.prog false (loopsOf (bodyOf Tryz.f42)) [G42_v3_l0_L] := by
  have hl : loopsOf (bodyOf Tryz.f42) = [.loop G42_v3_l0_c] := by kernel_rfl
  rw [hl]; exact ⟨G42_v3_l0_V, trivial⟩
theorem G42_v3_ent : Ent Tryz.prog 42 := ⟨by decide, enters_of Tryz.func42 (by kernel_rfl) rfl⟩
theorem G42_v3_hev : ∀ x, fnR Tryz.prog G42_v3_C [G42_v3_l0_L] Tryz.f42 (bodyOf Tryz.f42) (encs [.dat (.list (.int .i64)), .dat (.list T91), .fix (.func (.func 46) .nil .nil)] x) ⟨[], [], 0⟩ (frzF (.dat .bool)) = G42_v3 x.1 x.2.1 := by
  intro x; kernel_rfl
theorem G42_v3_valid : G42_v3_E.Valid Tryz.prog :=
  pureE_valid (by kernel_rfl) (by kernel_rfl) G42_v3_ent (frz_lcall mixed Tryz.func42 rfl G42_v3_ent G42_v3_CV G42_v3_LV (by kernel_rfl) (by kernel_rfl) G42_v3_hev)
noncomputable def G16_C : CalT := tabC [G40_E, G42_E, G42_v1_E, G42_v2_E, G42_v3_E, G37_E, G47_E]
theorem G16_CV : CV Tryz.prog G16_C := tabC_valid (l := _) ⟨G40_valid, G42_valid, G42_v1_valid, G42_v2_valid, G42_v3_valid, G37_valid, G47_valid, trivial⟩
noncomputable def G16 (a0 : E25) (a1 : (List E91)) (a2 : E52) : Option ((List Int) × (E48 × (Int × Unit))) :=
  (Option.bind (G40 a2.1 a0.1) fun r1 =>
  (bif r1 then
    (Option.bind (G42 a2.2.1 a1 a0) fun r2 =>
      (bif r2.1 then
        (Option.bind (G42_v1 a2.2.2.1 a1) fun r3 =>
          (bif r3 then
            (Option.bind (G42_v2 a2.2.2.2.1 a1) fun r4 =>
              (bif r4 then
                (Option.bind (G42_v3 a2.2.2.2.2.1 a1) fun r5 =>
                  (Option.bind (G37 r2.2.1 a1 r5) fun r6 =>
                    (bif (r6 != 0) then
                      some ([], ((0, (0, (0, ()))), (r6, ())))
                      else
                      (Option.bind (G47 (r2.2.1, (a2, (0, (0, (0, (0, ([], ([], ((0, (0, (0, ()))), ())))))))))) fun r7 =>
                        some (r7.2.1.2.2.2.2.2.2.1, (r7.2.1.2.2.2.2.2.2.2.2.1, (0, ())))))))
                else
                (Option.bind (G37 r2.2.1 a1 false) fun r8 =>
                  (bif (r8 != 0) then
                    some ([], ((0, (0, (0, ()))), (r8, ())))
                    else
                    (Option.bind (G47 (r2.2.1, (a2, (0, (0, (0, (0, ([], ([], ((0, (0, (0, ()))), ())))))))))) fun r9 =>
                      some (r9.2.1.2.2.2.2.2.2.1, (r9.2.1.2.2.2.2.2.2.2.2.1, (0, ()))))))))
            else
            (Option.bind (G37 r2.2.1 a1 false) fun r10 =>
              (bif (r10 != 0) then
                some ([], ((0, (0, (0, ()))), (r10, ())))
                else
                (Option.bind (G47 (r2.2.1, (a2, (0, (0, (0, (0, ([], ([], ((0, (0, (0, ()))), ())))))))))) fun r11 =>
                  some (r11.2.1.2.2.2.2.2.2.1, (r11.2.1.2.2.2.2.2.2.2.2.1, (0, ()))))))))
        else
        (Option.bind (G37 r2.2.1 a1 false) fun r12 =>
          (bif (r12 != 0) then
            some ([], ((0, (0, (0, ()))), (r12, ())))
            else
            (Option.bind (G47 (r2.2.1, (a2, (0, (0, (0, (0, ([], ([], ((0, (0, (0, ()))), ())))))))))) fun r13 =>
              some (r13.2.1.2.2.2.2.2.2.1, (r13.2.1.2.2.2.2.2.2.2.2.1, (0, ()))))))))
    else
    (Option.bind (G37 a0 a1 false) fun r14 =>
      (bif (r14 != 0) then
        some ([], ((0, (0, (0, ()))), (r14, ())))
        else
        (Option.bind (G47 (a0, (a2, (0, (0, (0, (0, ([], ([], ((0, (0, (0, ()))), ())))))))))) fun r15 =>
          some (r15.2.1.2.2.2.2.2.2.1, (r15.2.1.2.2.2.2.2.2.2.2.1, (0, ()))))))))
noncomputable def G16_E : CEnt := pureE 16 [.dat T25, .dat (.list T91), .dat T52] (.tup (.cons (.dat (.list (.int .i64))) (.cons (.dat T48) (.cons (.dat (.int .i64)) (.nil))))) fun x => G16 x.1 x.2.1 x.2.2.1
theorem G16_LV : LV 0 Tryz.prog false (loopsOf (bodyOf Tryz.f16)) [] := by unfold LV; cases loopsOf (bodyOf Tryz.f16) <;> trivial
theorem G16_ent : Ent Tryz.prog 16 := ⟨by decide, enters_of Tryz.func16 (by kernel_rfl) rfl⟩
theorem G16_hev : ∀ x, fnR Tryz.prog G16_C [] Tryz.f16 (bodyOf Tryz.f16) (encs [.dat T25, .dat (.list T91), .dat T52] x) ⟨[], [], 0⟩ (frzF (.tup (.cons (.dat (.list (.int .i64))) (.cons (.dat T48) (.cons (.dat (.int .i64)) (.nil)))))) = G16 x.1 x.2.1 x.2.2.1 := by
  intro x; kernel_rfl
theorem G16_valid : G16_E.Valid Tryz.prog :=
  pureE_valid (by kernel_rfl) (by kernel_rfl) G16_ent (frz_lcall mixed Tryz.func16 rfl G16_ent G16_CV G16_LV (by kernel_rfl) (by kernel_rfl) G16_hev)
noncomputable def G48_C : CalT := tabC [G53_E]
theorem G48_CV : CV Tryz.prog G48_C := tabC_valid (l := _) ⟨G53_valid, trivial⟩
noncomputable def G48 (a0 : Int) : Option Bool :=
  (Option.bind (G53 a0 0 2000000) fun r1 =>
  some r1)
noncomputable def G48_E : CEnt := pureE 48 [.dat (.int .i64)] (.dat .bool) fun x => G48 x.1
theorem G48_LV : LV 0 Tryz.prog false (loopsOf (bodyOf Tryz.f48)) [] := by unfold LV; cases loopsOf (bodyOf Tryz.f48) <;> trivial
theorem G48_ent : Ent Tryz.prog 48 := ⟨by decide, enters_of Tryz.func48 (by kernel_rfl) rfl⟩
theorem G48_hev : ∀ x, fnR Tryz.prog G48_C [] Tryz.f48 (bodyOf Tryz.f48) (encs [.dat (.int .i64)] x) ⟨[], [], 0⟩ (frzF (.dat .bool)) = G48 x.1 := by
  intro x; kernel_rfl
theorem G48_valid : G48_E.Valid Tryz.prog :=
  pureE_valid (by kernel_rfl) (by kernel_rfl) G48_ent (frz_lcall mixed Tryz.func48 rfl G48_ent G48_CV G48_LV (by kernel_rfl) (by kernel_rfl) G48_hev)
noncomputable def G70_C : CalT := tabC []
theorem G70_CV : CV Tryz.prog G70_C := tabC_valid (l := _) trivial
noncomputable def G70 (a0 : Int) (b1 : Int) : Option (Bool × (Int × Unit)) :=
  some ((decide (a0 > b1)), (b1, ()))
abbrev G70_CS : CSpec := ⟨[.dat (.int .i64), .fix (.bptr 0 [])], [.dat (.int .i64)], 0, [.dat (.int .i64)], 0, .dat .bool⟩
noncomputable def G70_E : CEnt := boxE 70 G70_CS fun x => G70 x.1.1 x.2.1
theorem G70_LV : LV 1 Tryz.prog false (loopsOf (bodyOf Tryz.f70)) [] := by unfold LV; cases loopsOf (bodyOf Tryz.f70) <;> trivial
theorem G70_ent : Ent Tryz.prog 70 := ⟨by decide, enters_of Tryz.func70 (by kernel_rfl) rfl⟩
theorem G70_hev : ∀ x : G70_CS.In, fnR Tryz.prog G70_C [] Tryz.f70 (bodyOf Tryz.f70) (encs G70_CS.A x.1) ⟨encs G70_CS.I x.2, [], G70_CS.nt⟩ (finK G70_CS) = G70 x.1.1 x.2.1 := by
  intro x; kernel_rfl
theorem G70_valid : G70_E.Valid Tryz.prog :=
  boxE_valid (S := G70_CS) (by kernel_rfl) (.inr G70_ent) (fn_lcall (S := G70_CS) mixed Tryz.func70 rfl G70_ent G70_CV G70_LV (by kernel_rfl) (by kernel_rfl) G70_hev)
noncomputable def G69_C : CalT := tabC [G70_E]
theorem G69_CV : CV Tryz.prog G69_C := tabC_valid (l := _) ⟨G70_valid, trivial⟩
noncomputable def G69_l0_c : Code := loopAt (bodyOf Tryz.f69) 0
noncomputable def G69_l0_S : SPat := ⟨[.dat (.list (.int .i64)), .fix (.func (.func 70) .nil (.cons (.bptr 0 []) .nil)), .any, .any, .dat (.int .i64), .any, .any, .dat (.int .i64), .dat (.int .i64), .any, .any, .any, .any, .any, .any, .any, .any, .any, .any], [.dat (.int .i64)], 0⟩
noncomputable def G69_l0_step (s : (((List Int) × (Int × (Int × (Int × Unit)))) × (Int × Unit))) : Option (Nat × (((List Int) × (Int × (Int × (Int × Unit)))) × (Int × Unit))) :=
  (bif (decide (s.1.2.2.2.1 < s.1.2.2.1)) then
  (bif (decide (0 ≤ s.1.2.2.2.1) && decide (s.1.2.2.2.1 < (List.length s.1.1 : Int))) then
    (Option.bind (G70 (List.getD s.1.1 (Int.toNat s.1.2.2.2.1) 0) s.2.1) fun r1 =>
      (bif r1.1 then
        some (1, ((s.1.1, (s.1.2.2.2.1, (s.1.2.2.1, (s.1.2.2.2.1, ())))), (r1.2.1, ())))
        else
        some (0, ((s.1.1, (s.1.2.1, (s.1.2.2.1, ((IntKind.wrap .i64 (s.1.2.2.2.1 + 1)), ())))), (r1.2.1, ())))))
    else
    none)
  else
  some (2, ((s.1.1, (s.1.2.1, (s.1.2.2.1, (s.1.2.2.2.1, ())))), (s.2.1, ()))))
noncomputable def G69_l0_fuel (s : (((List Int) × (Int × (Int × (Int × Unit)))) × (Int × Unit))) : Nat := Int.toNat (s.1.2.2.1 - s.1.2.2.2.1) + 1
noncomputable def G69_l0_run (s : (((List Int) × (Int × (Int × (Int × Unit)))) × (Int × Unit))) : Option (Nat × (((List Int) × (Int × (Int × (Int × Unit)))) × (Int × Unit))) := iter G69_l0_step (G69_l0_fuel s) s
noncomputable def G69_l0_L : LoopT := loopT G69_l0_S [.ret, .exit 0] G69_l0_run
noncomputable def G69 (a0 : (List Int)) (b1 : Int) : Option (Int × (Int × Unit)) :=
  (Option.bind (G69_l0_run ((a0, (0, ((List.length a0 : Int), (0, ())))), (b1, ()))) fun q2 =>
  (natK q2.1
    (some (q2.2.1.2.1, (q2.2.2.1, ())))
    (fun _ => some ((-1), (q2.2.2.1, ())))))
abbrev G69_CS : CSpec := ⟨[.dat (.list (.int .i64)), .fix (.func (.func 70) .nil (.cons (.bptr 0 []) .nil))], [.dat (.int .i64)], 0, [.dat (.int .i64)], 0, .dat (.int .i64)⟩
noncomputable def G69_E : CEnt := boxE 69 G69_CS fun x => G69 x.1.1 x.2.1
theorem G69_l0_V : LValid 1 Tryz.prog (.loop G69_l0_c) G69_l0_L false := by
  have hb : ∀ s, codeR Tryz.prog G69_C G69_l0_c [] (G69_l0_S.encE s) (G69_l0_S.encB s) (kst G69_l0_S [.ret, .exit 0]) = G69_l0_step s := by
    intro s; kernel_rfl
  have hL : LV 1 Tryz.prog false (loopsOf G69_l0_c) [] := by unfold LV; cases loopsOf G69_l0_c <;> trivial
  exact loopT_valid (fuel := G69_l0_fuel) mixed G69_CV hL (by kernel_rfl) (by decide) rfl hb (fun s r h => h)
theorem G69_LV : LV 1 Tryz.prog false (loopsOf (bodyOf Tryz.f69)) [G69_l0_L] := by
  have hl : loopsOf (bodyOf Tryz.f69) = [.loop G69_l0_c] := by kernel_rfl
  rw [hl]; exact ⟨G69_l0_V, trivial⟩
theorem G69_ent : Ent Tryz.prog 69 := ⟨by decide, enters_of Tryz.func69 (by kernel_rfl) rfl⟩
theorem G69_hev : ∀ x : G69_CS.In, fnR Tryz.prog G69_C [G69_l0_L] Tryz.f69 (bodyOf Tryz.f69) (encs G69_CS.A x.1) ⟨encs G69_CS.I x.2, [], G69_CS.nt⟩ (finK G69_CS) = G69 x.1.1 x.2.1 := by
  intro x; kernel_rfl
theorem G69_valid : G69_E.Valid Tryz.prog :=
  boxE_valid (S := G69_CS) (by kernel_rfl) (.inr G69_ent) (fn_lcall (S := G69_CS) mixed Tryz.func69 rfl G69_ent G69_CV G69_LV (by kernel_rfl) (by kernel_rfl) G69_hev)
noncomputable def G49_C : CalT := tabC [G69_E]
theorem G49_CV : CV Tryz.prog G49_C := tabC_valid (l := _) ⟨G69_valid, trivial⟩
noncomputable def G49 (a0 : (List Int)) (a1 : Int) : Option Int :=
  (Option.bind (G69 a0 a1) fun r1 =>
  (bif (decide (r1.1 ≥ 0)) then
    some r1.1
    else
    some (List.length a0 : Int)))
noncomputable def G49_E : CEnt := pureE 49 [.dat (.list (.int .i64)), .dat (.int .i64)] (.dat (.int .i64)) fun x => G49 x.1 x.2.1
theorem G49_LV : LV 0 Tryz.prog false (loopsOf (bodyOf Tryz.f49)) [] := by unfold LV; cases loopsOf (bodyOf Tryz.f49) <;> trivial
theorem G49_ent : Ent Tryz.prog 49 := ⟨by decide, enters_of Tryz.func49 (by kernel_rfl) rfl⟩
theorem G49_hev : ∀ x, fnR Tryz.prog G49_C [] Tryz.f49 (bodyOf Tryz.f49) (encs [.dat (.list (.int .i64)), .dat (.int .i64)] x) ⟨[], [], 0⟩ (frzF (.dat (.int .i64))) = G49 x.1 x.2.1 := by
  intro x; kernel_rfl
theorem G49_valid : G49_E.Valid Tryz.prog :=
  pureE_valid (by kernel_rfl) (by kernel_rfl) G49_ent (frz_lcall mixed Tryz.func49 rfl G49_ent G49_CV G49_LV (by kernel_rfl) (by kernel_rfl) G49_hev)
noncomputable def G17_C : CalT := tabC [G48_E, G37_E, G39_E, G49_E, G38_E]
theorem G17_CV : CV Tryz.prog G17_C := tabC_valid (l := _) ⟨G48_valid, G37_valid, G39_valid, G49_valid, G38_valid, trivial⟩
noncomputable def G17 (a0 : E25) (a1 : (List E91)) (a2 : Int) : Option (Int × (Int × (Int × Unit))) :=
  (Option.bind (G48 a2) fun r1 =>
  (Option.bind (G37 a0 a1 r1) fun r2 =>
    (bif (r2 != 0) then
      some (0, (0, (r2, ())))
      else
      (Option.bind (G39 a0 a1 0) fun r3 =>
        (Option.bind (G49 r3.2.2.2.2.2.2.1 a2) fun r4 =>
          (Option.bind (G38 a0 a1) fun r5 =>
            (Option.bind (G49 r5.2.2.2.2.2.2.1 a2) fun r6 =>
              some (r4, (r6, (0, ()))))))))))
noncomputable def G17_E : CEnt := pureE 17 [.dat T25, .dat (.list T91), .dat (.int .i64)] (.tup (.cons (.dat (.int .i64)) (.cons (.dat (.int .i64)) (.cons (.dat (.int .i64)) (.nil))))) fun x => G17 x.1 x.2.1 x.2.2.1
theorem G17_LV : LV 0 Tryz.prog false (loopsOf (bodyOf Tryz.f17)) [] := by unfold LV; cases loopsOf (bodyOf Tryz.f17) <;> trivial
theorem G17_ent : Ent Tryz.prog 17 := ⟨by decide, enters_of Tryz.func17 (by kernel_rfl) rfl⟩
theorem G17_hev : ∀ x, fnR Tryz.prog G17_C [] Tryz.f17 (bodyOf Tryz.f17) (encs [.dat T25, .dat (.list T91), .dat (.int .i64)] x) ⟨[], [], 0⟩ (frzF (.tup (.cons (.dat (.int .i64)) (.cons (.dat (.int .i64)) (.cons (.dat (.int .i64)) (.nil)))))) = G17 x.1 x.2.1 x.2.2.1 := by
  intro x; kernel_rfl
theorem G17_valid : G17_E.Valid Tryz.prog :=
  pureE_valid (by kernel_rfl) (by kernel_rfl) G17_ent (frz_lcall mixed Tryz.func17 rfl G17_ent G17_CV G17_LV (by kernel_rfl) (by kernel_rfl) G17_hev)
noncomputable def G50_C : CalT := tabC [G39_E, G49_E]
theorem G50_CV : CV Tryz.prog G50_C := tabC_valid (l := _) ⟨G39_valid, G49_valid, trivial⟩
noncomputable def G50 (a0 : Int) (b1 : E25) (b2 : (List E91)) (b3 : Int) : Option (Bool × (E25 × ((List E91) × (Int × Unit)))) :=
  (Option.bind (G39 (b1.1, ((a0, (a0, ())), b1.2.2)) b2 0) fun r1 =>
  (Option.bind (G49 r1.2.2.2.2.2.2.1 b3) fun r2 =>
    some ((decide (r2 < (List.length b2 : Int))), (b1, (b2, (b3, ()))))))
abbrev G50_CS : CSpec := ⟨[.dat (.int .i64), .fix (.bptr 0 []), .fix (.bptr 1 []), .fix (.bptr 2 [])], [.dat T25, .dat (.list T91), .dat (.int .i64)], 0, [.dat T25, .dat (.list T91), .dat (.int .i64)], 0, .dat .bool⟩
noncomputable def G50_E : CEnt := boxE 50 G50_CS fun x => G50 x.1.1 x.2.1 x.2.2.1 x.2.2.2.1
theorem G50_LV : LV 3 Tryz.prog false (loopsOf (bodyOf Tryz.f50)) [] := by unfold LV; cases loopsOf (bodyOf Tryz.f50) <;> trivial
theorem G50_ent : Ent Tryz.prog 50 := ⟨by decide, enters_of Tryz.func50 (by kernel_rfl) rfl⟩
theorem G50_hev : ∀ x : G50_CS.In, fnR Tryz.prog G50_C [] Tryz.f50 (bodyOf Tryz.f50) (encs G50_CS.A x.1) ⟨encs G50_CS.I x.2, [], G50_CS.nt⟩ (finK G50_CS) = G50 x.1.1 x.2.1 x.2.2.1 x.2.2.2.1 := by
  intro x; kernel_rfl
theorem G50_valid : G50_E.Valid Tryz.prog :=
  boxE_valid (S := G50_CS) (by kernel_rfl) (.inr G50_ent) (fn_lcall (S := G50_CS) mixed Tryz.func50 rfl G50_ent G50_CV G50_LV (by kernel_rfl) (by kernel_rfl) G50_hev)
noncomputable def G71_C : CalT := tabC [G50_E]
theorem G71_CV : CV Tryz.prog G71_C := tabC_valid (l := _) ⟨G50_valid, trivial⟩
noncomputable def G71 (a0 : Int) (b1 : (List (Int × Bool))) (b2 : E25) (b3 : (List E91)) (b4 : Int) : Option (Bool × ((List (Int × Bool)) × (E25 × ((List E91) × (Int × Unit))))) :=
  (bif (!(Option.isSome (findD (.int .i64) a0 b1))) then
  (Option.bind (G50 a0 b2 b3 b4) fun r1 =>
    some (r1.1, ((putD (.int .i64) a0 r1.1 b1), (r1.2.1, (r1.2.2.1, (r1.2.2.2.1, ()))))))
  else
  some ((Option.getD (findD (.int .i64) a0 b1) false), (b1, (b2, (b3, (b4, ()))))))
abbrev G71_CS : CSpec := ⟨[.dat (.int .i64), .fix (.bptr 0 []), .fix (.bptr 1 [])], [.fix (.mref 2), .fix (.func (.func 50) .nil (.cons (.bptr 3 []) (.cons (.bptr 4 []) (.cons (.bptr 5 []) .nil)))), .map (.int .i64) .bool, .dat T25, .dat (.list T91), .dat (.int .i64)], 0, [.fix (.mref 2), .fix (.func (.func 50) .nil (.cons (.bptr 3 []) (.cons (.bptr 4 []) (.cons (.bptr 5 []) .nil)))), .map (.int .i64) .bool, .dat T25, .dat (.list T91), .dat (.int .i64)], 0, .dat .bool⟩
noncomputable def G71_E : CEnt := boxE 71 G71_CS fun x => G71 x.1.1 x.2.1 x.2.2.1 x.2.2.2.1 x.2.2.2.2.1
theorem G71_LV : LV 6 Tryz.prog false (loopsOf (bodyOf Tryz.f71)) [] := by unfold LV; cases loopsOf (bodyOf Tryz.f71) <;> trivial
theorem G71_ent : Ent Tryz.prog 71 := ⟨by decide, enters_of Tryz.func71 (by kernel_rfl) rfl⟩
theorem G71_hev : ∀ x : G71_CS.In, fnR Tryz.prog G71_C [] Tryz.f71 (bodyOf Tryz.f71) (encs G71_CS.A x.1) ⟨encs G71_CS.I x.2, [], G71_CS.nt⟩ (finK G71_CS) = G71 x.1.1 x.2.1 x.2.2.1 x.2.2.2.1 x.2.2.2.2.1 := by
  intro x; kernel_rfl
theorem G71_valid : G71_E.Valid Tryz.prog :=
  boxE_valid (S := G71_CS) (by kernel_rfl) (.inr G71_ent) (fn_lcall (S := G71_CS) mixed Tryz.func71 rfl G71_ent G71_CV G71_LV (by kernel_rfl) (by kernel_rfl) G71_hev)
noncomputable def G51_C : CalT := tabC [G71_E]
theorem G51_CV : CV Tryz.prog G51_C := tabC_valid (l := _) ⟨G71_valid, trivial⟩
noncomputable def G51_l0_c : Code := loopAt (bodyOf Tryz.f51) 0
noncomputable def G51_l0_S : SPat := ⟨[.dat (.int .i64), .dat (.int .i64), .any, .any, .any, .any, .any, .any, .any, .fix (.func (.func 71) .nil (.cons (.bptr 5 []) (.cons (.bptr 3 []) .nil))), .any, .any, .any, .any, .any, .any, .any, .any, .any, .any, .any, .any, .any, .any, .any, .any, .any, .any, .any, .any, .any, .any], [.dat T25, .dat (.list T91), .dat (.int .i64), .fix (.func (.func 50) .nil (.cons (.bptr 0 []) (.cons (.bptr 1 []) (.cons (.bptr 2 []) .nil)))), .map (.int .i64) .bool, .fix (.mref 4)], 0⟩
abbrev TY17 : Type := ((Int × (Int × Unit)) × (E25 × ((List E91) × (Int × ((List (Int × Bool)) × Unit)))))
abbrev TY18 : Type := (Nat × ((Int × (Int × Unit)) × (E25 × ((List E91) × (Int × ((List (Int × Bool)) × Unit))))))
noncomputable def G51_l0_step (s : TY17) : Option TY18 :=
  (bif (decide (s.1.1 ≥ s.1.2.1)) then
  some (1, ((s.1.1, (s.1.2.1, ())), (s.2.1, (s.2.2.1, (s.2.2.2.1, (s.2.2.2.2.1, ()))))))
  else
  (Option.bind (G71 (IntKind.wrap .i64 (s.1.1 + (IntKind.wrap .i64 (Int.tdiv (IntKind.wrap .i64 (s.1.2.1 - s.1.1)) 2)))) s.2.2.2.2.1 s.2.1 s.2.2.1 s.2.2.2.1) fun r1 =>
    (bif r1.1 then
      some (0, ((s.1.1, ((IntKind.wrap .i64 (s.1.1 + (IntKind.wrap .i64 (Int.tdiv (IntKind.wrap .i64 (s.1.2.1 - s.1.1)) 2)))), ())), (r1.2.2.1, (r1.2.2.2.1, (r1.2.2.2.2.1, (r1.2.1, ()))))))
      else
      some (0, (((IntKind.wrap .i64 ((IntKind.wrap .i64 (s.1.1 + (IntKind.wrap .i64 (Int.tdiv (IntKind.wrap .i64 (s.1.2.1 - s.1.1)) 2)))) + 1)), (s.1.2.1, ())), (r1.2.2.1, (r1.2.2.2.1, (r1.2.2.2.2.1, (r1.2.1, ())))))))))
noncomputable def G51_l0_fuel (s : TY17) : Nat := 100000
noncomputable def G51_l0_run (s : TY17) : Option TY18 := iter G51_l0_step (G51_l0_fuel s) s
noncomputable def G51_l0_L : LoopT := loopT G51_l0_S [.exit 0] G51_l0_run
noncomputable def G51 (a0 : Int) (a1 : Int) (b2 : E25) (b3 : (List E91)) (b4 : Int) : Option ((Int × (Bool × Unit)) × (E25 × ((List E91) × (Int × Unit)))) :=
  (Option.bind (G51_l0_run ((a0, (a1, ())), (b2, (b3, (b4, (([] : List (Int × Bool)), ())))))) fun q2 =>
  (Option.bind (G71 q2.2.1.1 q2.2.2.2.2.2.1 q2.2.2.1 q2.2.2.2.1 q2.2.2.2.2.1) fun r3 =>
    some ((q2.2.1.1, (r3.1, ())), (r3.2.2.1, (r3.2.2.2.1, (r3.2.2.2.2.1, ()))))))
abbrev G51_CS : CSpec := ⟨[.dat (.int .i64), .dat (.int .i64), .fix (.func (.func 50) .nil (.cons (.bptr 0 []) (.cons (.bptr 1 []) (.cons (.bptr 2 []) .nil))))], [.dat T25, .dat (.list T91), .dat (.int .i64)], 0, [.dat T25, .dat (.list T91), .dat (.int .i64)], 0, .tup (.cons (.dat (.int .i64)) (.cons (.dat .bool) (.nil)))⟩
noncomputable def G51_E : CEnt := boxE 51 G51_CS fun x => G51 x.1.1 x.1.2.1 x.2.1 x.2.2.1 x.2.2.2.1
theorem G51_l0_V : LValid 3 Tryz.prog (.loop G51_l0_c) G51_l0_L false := by
  have hb : ∀ s, codeR Tryz.prog G51_C G51_l0_c [] (G51_l0_S.encE s) (G51_l0_S.encB s) (kst G51_l0_S [.exit 0]) = G51_l0_step s := by
    intro s; kernel_rfl
  have hL : LV 3 Tryz.prog false (loopsOf G51_l0_c) [] := by unfold LV; cases loopsOf G51_l0_c <;> trivial
  exact loopT_valid (fuel := G51_l0_fuel) mixed G51_CV hL (by kernel_rfl) (by decide) rfl hb (fun s r h => h)
theorem G51_LV : LV 3 Tryz.prog false (loopsOf (bodyOf Tryz.f51)) [G51_l0_L] := by
  have hl : loopsOf (bodyOf Tryz.f51) = [.loop G51_l0_c] := by kernel_rfl
  rw [hl]; exact ⟨G51_l0_V, trivial⟩
theorem G51_ent : Ent Tryz.prog 51 := ⟨by decide, enters_of Tryz.func51 (by kernel_rfl) rfl⟩
theorem G51_hev : ∀ x : G51_CS.In, fnR Tryz.prog G51_C [G51_l0_L] Tryz.f51 (bodyOf Tryz.f51) (encs G51_CS.A x.1) ⟨encs G51_CS.I x.2, [], G51_CS.nt⟩ (finK G51_CS) = G51 x.1.1 x.1.2.1 x.2.1 x.2.2.1 x.2.2.2.1 := by
  intro x; kernel_rfl
theorem G51_valid : G51_E.Valid Tryz.prog :=
  boxE_valid (S := G51_CS) (by kernel_rfl) (.inr G51_ent) (fn_lcall (S := G51_CS) mixed Tryz.func51 rfl G51_ent G51_CV G51_LV (by kernel_rfl) (by kernel_rfl) G51_hev)
noncomputable def G18_C : CalT := tabC [G48_E, G37_E, G51_E]
theorem G18_CV : CV Tryz.prog G18_C := tabC_valid (l := _) ⟨G48_valid, G37_valid, G51_valid, trivial⟩
noncomputable def G18 (a0 : E25) (a1 : (List E91)) (a2 : Int) : Option (Int × (Int × Unit)) :=
  (Option.bind (G48 a2) fun r1 =>
  (Option.bind (G37 a0 a1 r1) fun r2 =>
    (bif (r2 != 0) then
      some (0, (r2, ()))
      else
      (Option.bind (G51 0 1000000 a0 a1 a2) fun r3 =>
        (bif (!r3.1.2.1) then
          some (1000000, (0, ()))
          else
          (bif (r3.1.1 == 0) then
            some (0, (5, ()))
            else
            some ((IntKind.wrap .i64 (r3.1.1 - 1)), (0, ()))))))))
noncomputable def G18_E : CEnt := pureE 18 [.dat T25, .dat (.list T91), .dat (.int .i64)] (.tup (.cons (.dat (.int .i64)) (.cons (.dat (.int .i64)) (.nil)))) fun x => G18 x.1 x.2.1 x.2.2.1
theorem G18_LV : LV 0 Tryz.prog false (loopsOf (bodyOf Tryz.f18)) [] := by unfold LV; cases loopsOf (bodyOf Tryz.f18) <;> trivial
theorem G18_ent : Ent Tryz.prog 18 := ⟨by decide, enters_of Tryz.func18 (by kernel_rfl) rfl⟩
theorem G18_hev : ∀ x, fnR Tryz.prog G18_C [] Tryz.f18 (bodyOf Tryz.f18) (encs [.dat T25, .dat (.list T91), .dat (.int .i64)] x) ⟨[], [], 0⟩ (frzF (.tup (.cons (.dat (.int .i64)) (.cons (.dat (.int .i64)) (.nil))))) = G18 x.1 x.2.1 x.2.2.1 := by
  intro x; kernel_rfl
theorem G18_valid : G18_E.Valid Tryz.prog :=
  pureE_valid (by kernel_rfl) (by kernel_rfl) G18_ent (frz_lcall mixed Tryz.func18 rfl G18_ent G18_CV G18_LV (by kernel_rfl) (by kernel_rfl) G18_hev)
noncomputable def G52_C : CalT := tabC [G39_E, G49_E]
theorem G52_CV : CV Tryz.prog G52_C := tabC_valid (l := _) ⟨G39_valid, G49_valid, trivial⟩
noncomputable def G52 (a0 : Int) (b1 : E25) (b2 : (List E91)) (b3 : Int) : Option (Bool × (E25 × ((List E91) × (Int × Unit)))) :=
  (Option.bind (G39 b1 b2 a0) fun r1 =>
  (Option.bind (G49 r1.2.2.2.2.2.2.1 b3) fun r2 =>
    some ((r2 == (List.length b2 : Int)), (b1, (b2, (b3, ()))))))
abbrev G52_CS : CSpec := ⟨[.dat (.int .i64), .fix (.bptr 0 []), .fix (.bptr 1 []), .fix (.bptr 2 [])], [.dat T25, .dat (.list T91), .dat (.int .i64)], 0, [.dat T25, .dat (.list T91), .dat (.int .i64)], 0, .dat .bool⟩
noncomputable def G52_E : CEnt := boxE 52 G52_CS fun x => G52 x.1.1 x.2.1 x.2.2.1 x.2.2.2.1
theorem G52_LV : LV 3 Tryz.prog false (loopsOf (bodyOf Tryz.f52)) [] := by unfold LV; cases loopsOf (bodyOf Tryz.f52) <;> trivial
theorem G52_ent : Ent Tryz.prog 52 := ⟨by decide, enters_of Tryz.func52 (by kernel_rfl) rfl⟩
theorem G52_hev : ∀ x : G52_CS.In, fnR Tryz.prog G52_C [] Tryz.f52 (bodyOf Tryz.f52) (encs G52_CS.A x.1) ⟨encs G52_CS.I x.2, [], G52_CS.nt⟩ (finK G52_CS) = G52 x.1.1 x.2.1 x.2.2.1 x.2.2.2.1 := by
  intro x; kernel_rfl
theorem G52_valid : G52_E.Valid Tryz.prog :=
  boxE_valid (S := G52_CS) (by kernel_rfl) (.inr G52_ent) (fn_lcall (S := G52_CS) mixed Tryz.func52 rfl G52_ent G52_CV G52_LV (by kernel_rfl) (by kernel_rfl) G52_hev)
noncomputable def G71_v1_C : CalT := tabC [G52_E]
theorem G71_v1_CV : CV Tryz.prog G71_v1_C := tabC_valid (l := _) ⟨G52_valid, trivial⟩
noncomputable def G71_v1 (a0 : Int) (b1 : (List (Int × Bool))) (b2 : E25) (b3 : (List E91)) (b4 : Int) : Option (Bool × ((List (Int × Bool)) × (E25 × ((List E91) × (Int × Unit))))) :=
  (bif (!(Option.isSome (findD (.int .i64) a0 b1))) then
  (Option.bind (G52 a0 b2 b3 b4) fun r1 =>
    some (r1.1, ((putD (.int .i64) a0 r1.1 b1), (r1.2.1, (r1.2.2.1, (r1.2.2.2.1, ()))))))
  else
  some ((Option.getD (findD (.int .i64) a0 b1) false), (b1, (b2, (b3, (b4, ()))))))
abbrev G71_v1_CS : CSpec := ⟨[.dat (.int .i64), .fix (.bptr 0 []), .fix (.bptr 1 [])], [.fix (.mref 2), .fix (.func (.func 52) .nil (.cons (.bptr 3 []) (.cons (.bptr 4 []) (.cons (.bptr 5 []) .nil)))), .map (.int .i64) .bool, .dat T25, .dat (.list T91), .dat (.int .i64)], 0, [.fix (.mref 2), .fix (.func (.func 52) .nil (.cons (.bptr 3 []) (.cons (.bptr 4 []) (.cons (.bptr 5 []) .nil)))), .map (.int .i64) .bool, .dat T25, .dat (.list T91), .dat (.int .i64)], 0, .dat .bool⟩
noncomputable def G71_v1_E : CEnt := boxE 71 G71_v1_CS fun x => G71_v1 x.1.1 x.2.1 x.2.2.1 x.2.2.2.1 x.2.2.2.2.1
theorem G71_v1_LV : LV 6 Tryz.prog false (loopsOf (bodyOf Tryz.f71)) [] := by unfold LV; cases loopsOf (bodyOf Tryz.f71) <;> trivial
theorem G71_v1_ent : Ent Tryz.prog 71 := ⟨by decide, enters_of Tryz.func71 (by kernel_rfl) rfl⟩
theorem G71_v1_hev : ∀ x : G71_v1_CS.In, fnR Tryz.prog G71_v1_C [] Tryz.f71 (bodyOf Tryz.f71) (encs G71_v1_CS.A x.1) ⟨encs G71_v1_CS.I x.2, [], G71_v1_CS.nt⟩ (finK G71_v1_CS) = G71_v1 x.1.1 x.2.1 x.2.2.1 x.2.2.2.1 x.2.2.2.2.1 := by
  intro x; kernel_rfl
theorem G71_v1_valid : G71_v1_E.Valid Tryz.prog :=
  boxE_valid (S := G71_v1_CS) (by kernel_rfl) (.inr G71_v1_ent) (fn_lcall (S := G71_v1_CS) mixed Tryz.func71 rfl G71_v1_ent G71_v1_CV G71_v1_LV (by kernel_rfl) (by kernel_rfl) G71_v1_hev)
end Go.Proofs.YtbidmbjkjpdgdaaGreatDoor.Abs
