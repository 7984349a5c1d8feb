import Derived.Test.YtibmgbalfhfcdaaGreatDoorF1
set_option linter.unusedVariables false
set_option maxRecDepth 100000
namespace Go.Proofs.YtibmgbalfhfcdaaGreatDoor.Abs
open Go.Shelf Go.Sort
noncomputable def G74_v2_C : CalT := tabC [G75_v1_E]
theorem G74_v2_CV : CV Tryz.prog G74_v2_C := tabC_valid (l := _) ⟨G75_v1_valid, trivial⟩
noncomputable def G74_v2_l0_c : Code := loopAt (bodyOf Tryz.f74) 0
noncomputable def G74_v2_l0_S : SPat := ⟨[.any, .any, .any, .any, .fix (.bptr 8 []), .any, .any, .any, .dat (.int .i64), .dat (.int .i64), .any, .any, .any, .any, .any, .any, .any], [.lp 21 0 PA46, .fix (.bptr 5 []), .dat (.int .i64), .cons (.dat (.int .i64)) (.cons (.dat (.int .i64)) (.nil)), .dat .bool, .cons (.dat T23) (.cons (.dat (.list T71)) (.cons (.fix (.mref 6)) (.nil))), .map T58 T91, .fix (.yref 0), .fix (.func (.func 75) .nil (.cons (.bptr 1 []) (.cons (.bptr 7 []) (.cons (.bptr 8 []) .nil))))], 0⟩
abbrev TY54 : Type := ((Int × (Int × Unit)) × ((Nat × UT73) × (Int × ((Int × (Int × Unit)) × (Bool × ((E23 × ((List E71) × (Unit × Unit))) × ((List (E58 × E91)) × Unit)))))))
abbrev TY55 : Type := (Nat × ((Int × (Int × Unit)) × ((Nat × UT73) × (Int × ((Int × (Int × Unit)) × (Bool × ((E23 × ((List E71) × (Unit × Unit))) × ((List (E58 × E91)) × Unit))))))))
noncomputable def G74_v2_l0_step (s : TY54) : Option TY55 :=
  (bif (decide (s.1.2.1 < s.1.1)) then
  (Option.bind (G75_v1 s.1.2.1 0 0 (s.2.2.2.2.2.1.1, (s.2.2.2.2.2.1.2.1, ((), s.2.2.2.2.2.1.2.2.2))) (s.2.1.1, UC73) s.2.2.2.2.2.2.1 s.2.2.2.1 s.2.2.2.2.1) fun r1 =>
    (bif (!r1.1) then
      some (1, ((s.1.1, (s.1.2.1, ())), ((r1.2.2.1.1, UC73), (s.2.2.1, (r1.2.2.2.2.1, (r1.2.2.2.2.2.1, ((r1.2.1.1, (r1.2.1.2.1, ((), r1.2.1.2.2.2))), (r1.2.2.2.1, ()))))))))
      else
      some (0, ((s.1.1, ((IntKind.wrap .i64 (s.1.2.1 + 1)), ())), ((r1.2.2.1.1, UC73), (s.2.2.1, (r1.2.2.2.2.1, (r1.2.2.2.2.2.1, ((r1.2.1.1, (r1.2.1.2.1, ((), r1.2.1.2.2.2))), (r1.2.2.2.1, ()))))))))))
  else
  some (2, ((s.1.1, (s.1.2.1, ())), ((s.2.1.1, UC73), (s.2.2.1, (s.2.2.2.1, (s.2.2.2.2.1, ((s.2.2.2.2.2.1.1, (s.2.2.2.2.2.1.2.1, ((), s.2.2.2.2.2.1.2.2.2))), (s.2.2.2.2.2.2.1, ())))))))))
noncomputable def G74_v2_l0_fuel (s : TY54) : Nat := Int.toNat (s.1.1 - s.1.2.1) + 1
noncomputable def G74_v2_l0_run (s : TY54) : Option TY55 := iter G74_v2_l0_step (G74_v2_l0_fuel s) s
noncomputable def G74_v2_l0_L : LoopT := loopT G74_v2_l0_S [.ret, .exit 0] G74_v2_l0_run
abbrev TY56 : Type := (Unit × ((Nat × UT73) × (Int × ((Int × (Int × Unit)) × (Bool × ((E23 × ((List E71) × (Unit × Unit))) × ((List (E58 × E91)) × Unit)))))))
noncomputable def G74_v2 (b0 : (Nat × UT73)) (b1 : Int) (b2 : (Int × (Int × Unit))) (b3 : Bool) (b4 : (E23 × ((List E71) × (Unit × Unit)))) (b5 : (List (E58 × E91))) : Option TY56 :=
  (Option.bind (G74_v2_l0_run (((IntKind.wrap .i64 (b1 + 1)), (0, ())), ((b0.1, UC73), (b1, (b2, (b3, ((b4.1, (b4.2.1, ((), b4.2.2.2))), (b5, ())))))))) fun q2 =>
  (natK q2.1
    (some ((), ((q2.2.2.1.1, UC73), (q2.2.2.2.1, (q2.2.2.2.2.1, (q2.2.2.2.2.2.1, ((q2.2.2.2.2.2.2.1.1, (q2.2.2.2.2.2.2.1.2.1, ((), q2.2.2.2.2.2.2.1.2.2.2))), (q2.2.2.2.2.2.2.2.1, ()))))))))
    (fun _ => some ((), ((q2.2.2.1.1, UC73), (q2.2.2.2.1, (q2.2.2.2.2.1, (q2.2.2.2.2.2.1, ((q2.2.2.2.2.2.2.1.1, (q2.2.2.2.2.2.2.1.2.1, ((), q2.2.2.2.2.2.2.1.2.2.2))), (q2.2.2.2.2.2.2.2.1, ()))))))))))
abbrev G74_v2_CS : CSpec := ⟨[.fix (.yref 0), .fix (.bptr 1 []), .fix (.bptr 2 [])], [.lp 21 0 (.cons (.any) (.cons (.any) (.cons (.any) (.cons (.any) (.cons (.any) (.cons (.any) (.cons (.any) (.cons (.any) (.cons (.any) (.cons (.any) (.cons (.fix (.bptr 3 [])) (.cons (.fix (.bptr 4 [])) AN61)))))))))))), .fix (.bptr 5 []), .dat (.int .i64), .cons (.dat (.int .i64)) (.cons (.dat (.int .i64)) (.nil)), .dat .bool, .cons (.dat T23) (.cons (.dat (.list T71)) (.cons (.fix (.mref 6)) (.nil))), .map T58 T91], 0, [.lp 21 0 (.cons (.any) (.cons (.any) (.cons (.any) (.cons (.any) (.cons (.any) (.cons (.any) (.cons (.any) (.cons (.any) (.cons (.any) (.cons (.any) (.cons (.fix (.bptr 3 [])) (.cons (.fix (.bptr 4 [])) AN61)))))))))))), .fix (.bptr 5 []), .dat (.int .i64), .cons (.dat (.int .i64)) (.cons (.dat (.int .i64)) (.nil)), .dat .bool, .cons (.dat T23) (.cons (.dat (.list T71)) (.cons (.fix (.mref 6)) (.nil))), .map T58 T91], 0, .tup (.nil)⟩
noncomputable def G74_v2_E : CEnt := boxE 74 G74_v2_CS fun x => G74_v2 x.2.1 x.2.2.1 x.2.2.2.1 x.2.2.2.2.1 x.2.2.2.2.2.1 x.2.2.2.2.2.2.1
theorem G74_v2_l0_V : LValid 7 Tryz.prog (.loop G74_v2_l0_c) G74_v2_l0_L false := by
  have hb : ∀ s, codeR Tryz.prog G74_v2_C G74_v2_l0_c [] (G74_v2_l0_S.encE s) (G74_v2_l0_S.encB s) (kst G74_v2_l0_S [.ret, .exit 0]) = G74_v2_l0_step s := by
    intro s; kernel_rfl
  have hL : LV 7 Tryz.prog false (loopsOf G74_v2_l0_c) [] := by unfold LV; cases loopsOf G74_v2_l0_c <;> trivial
  exact loopT_valid (fuel := G74_v2_l0_fuel) mixed G74_v2_CV hL (by kernel_rfl) (by decide) rfl hb (fun s r h => h)
theorem G74_v2_LV : LV 7 Tryz.prog false (loopsOf (bodyOf Tryz.f74)) [G74_v2_l0_L] := by
  have hl : loopsOf (bodyOf Tryz.f74) = [.loop G74_v2_l0_c] := by kernel_rfl
  rw [hl]; exact ⟨G74_v2_l0_V, trivial⟩
theorem G74_v2_ent : Ent Tryz.prog 74 := ⟨by decide, enters_of Tryz.func74 (by kernel_rfl) rfl⟩
theorem G74_v2_hev : ∀ x : G74_v2_CS.In, fnR Tryz.prog G74_v2_C [G74_v2_l0_L] Tryz.f74 (bodyOf Tryz.f74) (encs G74_v2_CS.A x.1) ⟨encs G74_v2_CS.I x.2, [], G74_v2_CS.nt⟩ (finK G74_v2_CS) = G74_v2 x.2.1 x.2.2.1 x.2.2.2.1 x.2.2.2.2.1 x.2.2.2.2.2.1 x.2.2.2.2.2.2.1 := by
  intro x; kernel_rfl
theorem G74_v2_valid : G74_v2_E.Valid Tryz.prog :=
  boxE_valid (S := G74_v2_CS) (by kernel_rfl) (.inr G74_v2_ent) (fn_lcall (S := G74_v2_CS) mixed Tryz.func74 rfl G74_v2_ent G74_v2_CV G74_v2_LV (by kernel_rfl) (by kernel_rfl) G74_v2_hev)
noncomputable def G52_C : CalT := tabC []
theorem G52_CV : CV Tryz.prog G52_C := tabC_valid (l := _) trivial
noncomputable def G52 (a0 : E58) (a1 : Int) : Option Bool :=
  (bif (!decide (a1 < 0)) then
  some ((IntKind.wrap .i64 ((BitVec.toNat ((BitVec.ofInt (IntKind.bits .i64) (Int.fdiv a0.1 (2 ^ (min (Int.toNat a1) (IntKind.bits .i64))))) &&& (BitVec.ofInt (IntKind.bits .i64) 1)) : Nat) : Int)) == 0)
  else
  none)
noncomputable def G52_E : CEnt := pureE 52 [.dat T58, .dat (.int .i64)] (.dat .bool) fun x => G52 x.1 x.2.1
theorem G52_LV : LV 0 Tryz.prog false (loopsOf (bodyOf Tryz.f52)) [] := by unfold LV; cases loopsOf (bodyOf Tryz.f52) <;> trivial
theorem G52_ent : Ent Tryz.prog 52 := ⟨by decide, enters_of Tryz.func52 (by kernel_rfl) rfl⟩
theorem G52_hev : ∀ x, fnR Tryz.prog G52_C [] Tryz.f52 (bodyOf Tryz.f52) (encs [.dat T58, .dat (.int .i64)] x) ⟨[], [], 0⟩ (frzF (.dat .bool)) = G52 x.1 x.2.1 := by
  intro x; kernel_rfl
theorem G52_valid : G52_E.Valid Tryz.prog :=
  pureE_valid (by kernel_rfl) (by kernel_rfl) G52_ent (frz_lcall mixed Tryz.func52 rfl G52_ent G52_CV G52_LV (by kernel_rfl) (by kernel_rfl) G52_hev)
noncomputable def G54_C : CalT := tabC []
theorem G54_CV : CV Tryz.prog G54_C := tabC_valid (l := _) trivial
noncomputable def G54 (a0 : E58) (a1 : Int) : Option Bool :=
  (bif (!decide (a1 < 0)) then
  some ((IntKind.wrap .i64 ((BitVec.toNat ((BitVec.ofInt (IntKind.bits .i64) (Int.fdiv a0.2.1 (2 ^ (min (Int.toNat a1) (IntKind.bits .i64))))) &&& (BitVec.ofInt (IntKind.bits .i64) 1)) : Nat) : Int)) == 1)
  else
  none)
noncomputable def G54_E : CEnt := pureE 54 [.dat T58, .dat (.int .i64)] (.dat .bool) fun x => G54 x.1 x.2.1
theorem G54_LV : LV 0 Tryz.prog false (loopsOf (bodyOf Tryz.f54)) [] := by unfold LV; cases loopsOf (bodyOf Tryz.f54) <;> trivial
theorem G54_ent : Ent Tryz.prog 54 := ⟨by decide, enters_of Tryz.func54 (by kernel_rfl) rfl⟩
theorem G54_hev : ∀ x, fnR Tryz.prog G54_C [] Tryz.f54 (bodyOf Tryz.f54) (encs [.dat T58, .dat (.int .i64)] x) ⟨[], [], 0⟩ (frzF (.dat .bool)) = G54 x.1 x.2.1 := by
  intro x; kernel_rfl
theorem G54_valid : G54_E.Valid Tryz.prog :=
  pureE_valid (by kernel_rfl) (by kernel_rfl) G54_ent (frz_lcall mixed Tryz.func54 rfl G54_ent G54_CV G54_LV (by kernel_rfl) (by kernel_rfl) G54_hev)
noncomputable def G53_C : CalT := tabC [G52_E, G54_E]
theorem G53_CV : CV Tryz.prog G53_C := tabC_valid (l := _) ⟨G52_valid, G54_valid, trivial⟩
noncomputable def G53 (a0 : E58) (a1 : Int) : Option Bool :=
  (Option.bind (G52 a0 a1) fun r1 =>
  (bif (!r1) then
    (Option.bind (G54 a0 a1) fun r2 =>
      some (!r2))
    else
    some false))
noncomputable def G53_E : CEnt := pureE 53 [.dat T58, .dat (.int .i64)] (.dat .bool) fun x => G53 x.1 x.2.1
theorem G53_LV : LV 0 Tryz.prog false (loopsOf (bodyOf Tryz.f53)) [] := by unfold LV; cases loopsOf (bodyOf Tryz.f53) <;> trivial
theorem G53_ent : Ent Tryz.prog 53 := ⟨by decide, enters_of Tryz.func53 (by kernel_rfl) rfl⟩
theorem G53_hev : ∀ x, fnR Tryz.prog G53_C [] Tryz.f53 (bodyOf Tryz.f53) (encs [.dat T58, .dat (.int .i64)] x) ⟨[], [], 0⟩ (frzF (.dat .bool)) = G53 x.1 x.2.1 := by
  intro x; kernel_rfl
theorem G53_valid : G53_E.Valid Tryz.prog :=
  pureE_valid (by kernel_rfl) (by kernel_rfl) G53_ent (frz_lcall mixed Tryz.func53 rfl G53_ent G53_CV G53_LV (by kernel_rfl) (by kernel_rfl) G53_hev)
noncomputable def g21_sense_Known_C : CalT := tabC [G26_v3_E, G46_v1_E, G74_v1_E, G46_E, G74_v2_E, G47_E, G52_E, G53_E, G54_E]
theorem g21_sense_Known_CV : CV Tryz.prog g21_sense_Known_C := tabC_valid (l := _) ⟨G26_v3_valid, G46_v1_valid, G74_v1_valid, G46_valid, G74_v2_valid, G47_valid, G52_valid, G53_valid, G54_valid, trivial⟩
noncomputable def g21_sense_Known_l0_c : Code := loopAt (bodyOf Tryz.f21) 1
noncomputable def g21_sense_Known_l1_c : Code := loopAt g21_sense_Known_l0_c 0
noncomputable def g21_sense_Known_f0_L : LoopT := rfT g21_sense_Known_C 21 0 (.tmp 31) [.normal]
abbrev PA57 : PTy := (.cons (.any) (.cons (.any) (.cons (.any) (.cons (.any) (.cons (.any) (.cons (.any) (.cons (.any) (.cons (.any) (.cons (.any) (.cons (.any) (.cons (.fix (.bptr 5 [])) (.cons (.fix (.bptr 6 [])) AN61))))))))))))
noncomputable def g21_sense_Known_l1_S : SPat := ⟨[.any, .any, .any, .any, .any, .any, .any, .any, .any, .any, .any, .any, .any, .fix (.bptr 10 []), .own 0 (.int .i64), .dat (.int .i64), .any, .any, .any, .any, .any, .any, .any, .any, .any, .any, .any, .any, .any, .any, .any, .any, .any, .any, .any, .any, .any, .any, .any, .any, .any, .any, .any, .any, .any, .any, .any, .any, .any, .any, .any, .any, .any, .dat (.int .i64), .dat (.int .i64), .any, .any, .cons (.fnp (.func 52) (.cons (.cons (.dat (.int .i64)) (.cons (.dat (.int .i64)) (.nil))) (.nil)) (.nil)) (.cons (.fnp (.func 53) (.cons (.cons (.dat (.int .i64)) (.cons (.dat (.int .i64)) (.nil))) (.nil)) (.nil)) (.cons (.fnp (.func 54) (.cons (.cons (.dat (.int .i64)) (.cons (.dat (.int .i64)) (.nil))) (.nil)) (.nil)) (.nil))), .dat (.int .i64), .any, .any, .any, .any, .any, .any, .any, .any, .any, .any, .any, .any, .any, .any], [.dat T23, .dat (.int .i64), .dat T23, .map T58 T91, .cons (.dat T23) (.cons (.dat (.list T71)) (.cons (.fix (.mref 3)) (.nil))), .cons (.dat (.int .i64)) (.cons (.dat (.int .i64)) (.nil)), .dat .bool, .fix (.bptr 4 []), .dat (.int .i64), .lp 21 0 PA57, .cons (.fnp (.func 52) (.cons (.cons (.dat (.int .i64)) (.cons (.dat (.int .i64)) (.nil))) (.nil)) (.nil)) (.cons (.fnp (.func 53) (.cons (.cons (.dat (.int .i64)) (.cons (.dat (.int .i64)) (.nil))) (.nil)) (.nil)) (.cons (.fnp (.func 54) (.cons (.cons (.dat (.int .i64)) (.cons (.dat (.int .i64)) (.nil))) (.nil)) (.nil)) (.nil)))], 1⟩
abbrev TY58 : Type := (((List Int) × (Int × (Int × (Int × (((((Int × (Int × Unit)) × Unit) × Unit) × ((((Int × (Int × Unit)) × Unit) × Unit) × ((((Int × (Int × Unit)) × Unit) × Unit) × Unit))) × (Int × Unit)))))) × (E23 × (Int × (E23 × ((List (E58 × E91)) × ((E23 × ((List E71) × (Unit × Unit))) × ((Int × (Int × Unit)) × (Bool × (Int × ((Nat × UT73) × (((((Int × (Int × Unit)) × Unit) × Unit) × ((((Int × (Int × Unit)) × Unit) × Unit) × ((((Int × (Int × Unit)) × Unit) × Unit) × Unit))) × Unit)))))))))))
abbrev TY59 : Type := (Nat × (((List Int) × (Int × (Int × (Int × (((((Int × (Int × Unit)) × Unit) × Unit) × ((((Int × (Int × Unit)) × Unit) × Unit) × ((((Int × (Int × Unit)) × Unit) × Unit) × Unit))) × (Int × Unit)))))) × (E23 × (Int × (E23 × ((List (E58 × E91)) × ((E23 × ((List E71) × (Unit × Unit))) × ((Int × (Int × Unit)) × (Bool × (Int × ((Nat × UT73) × (((((Int × (Int × Unit)) × Unit) × Unit) × ((((Int × (Int × Unit)) × Unit) × Unit) × ((((Int × (Int × Unit)) × Unit) × Unit) × Unit))) × Unit))))))))))))
noncomputable def g21_sense_Known_l1_step (s : TY58) : Option TY59 :=
  (bif (decide (s.1.2.2.2.2.2.1 < 3)) then
  (bif (decide (s.1.2.2.2.2.2.1 = (0 : Int))) then
    (Option.bind (G52 s.1.2.2.2.2.1.1.1.1 s.1.2.1) fun r9 =>
      (bif r9 then
        (bif (decide (List.length s.1.1 + List.length [(IntKind.wrap .i64 ((1 : Int) + s.1.2.2.2.2.2.1))] ≤ LIM)) then
          some (0, (((s.1.1 ++ [(IntKind.wrap .i64 ((1 : Int) + s.1.2.2.2.2.2.1))]), (s.1.2.1, (s.1.2.2.1, (s.1.2.2.2.1, ((((s.1.2.2.2.2.1.1.1.1, ()), ()), (((s.1.2.2.2.2.1.2.1.1.1, ()), ()), (((s.1.2.2.2.2.1.2.2.1.1.1, ()), ()), s.1.2.2.2.2.1.2.2.2))), ((IntKind.wrap .i64 (s.1.2.2.2.2.2.1 + 1)), ())))))), (s.2.1, (s.2.2.1, (s.2.2.2.1, (s.2.2.2.2.1, ((s.2.2.2.2.2.1.1, (s.2.2.2.2.2.1.2.1, ((), s.2.2.2.2.2.1.2.2.2))), (s.2.2.2.2.2.2.1, (s.2.2.2.2.2.2.2.1, (s.2.2.2.2.2.2.2.2.1, ((s.2.2.2.2.2.2.2.2.2.1.1, UC73), ((((s.2.2.2.2.2.2.2.2.2.2.1.1.1.1, ()), ()), (((s.2.2.2.2.2.2.2.2.2.2.1.2.1.1.1, ()), ()), (((s.2.2.2.2.2.2.2.2.2.2.1.2.2.1.1.1, ()), ()), s.2.2.2.2.2.2.2.2.2.2.1.2.2.2))), ()))))))))))))
          else
          none)
        else
        some (0, ((s.1.1, (s.1.2.1, (s.1.2.2.1, (s.1.2.2.2.1, ((((s.1.2.2.2.2.1.1.1.1, ()), ()), (((s.1.2.2.2.2.1.2.1.1.1, ()), ()), (((s.1.2.2.2.2.1.2.2.1.1.1, ()), ()), s.1.2.2.2.2.1.2.2.2))), ((IntKind.wrap .i64 (s.1.2.2.2.2.2.1 + 1)), ())))))), (s.2.1, (s.2.2.1, (s.2.2.2.1, (s.2.2.2.2.1, ((s.2.2.2.2.2.1.1, (s.2.2.2.2.2.1.2.1, ((), s.2.2.2.2.2.1.2.2.2))), (s.2.2.2.2.2.2.1, (s.2.2.2.2.2.2.2.1, (s.2.2.2.2.2.2.2.2.1, ((s.2.2.2.2.2.2.2.2.2.1.1, UC73), ((((s.2.2.2.2.2.2.2.2.2.2.1.1.1.1, ()), ()), (((s.2.2.2.2.2.2.2.2.2.2.1.2.1.1.1, ()), ()), (((s.2.2.2.2.2.2.2.2.2.2.1.2.2.1.1.1, ()), ()), s.2.2.2.2.2.2.2.2.2.2.1.2.2.2))), ()))))))))))))))
    else
    (bif (decide (s.1.2.2.2.2.2.1 = (1 : Int))) then
      (Option.bind (G53 s.1.2.2.2.2.1.2.1.1.1 s.1.2.1) fun r10 =>
        (bif r10 then
          (bif (decide (List.length s.1.1 + List.length [(IntKind.wrap .i64 ((1 : Int) + s.1.2.2.2.2.2.1))] ≤ LIM)) then
            some (0, (((s.1.1 ++ [(IntKind.wrap .i64 ((1 : Int) + s.1.2.2.2.2.2.1))]), (s.1.2.1, (s.1.2.2.1, (s.1.2.2.2.1, ((((s.1.2.2.2.2.1.1.1.1, ()), ()), (((s.1.2.2.2.2.1.2.1.1.1, ()), ()), (((s.1.2.2.2.2.1.2.2.1.1.1, ()), ()), s.1.2.2.2.2.1.2.2.2))), ((IntKind.wrap .i64 (s.1.2.2.2.2.2.1 + 1)), ())))))), (s.2.1, (s.2.2.1, (s.2.2.2.1, (s.2.2.2.2.1, ((s.2.2.2.2.2.1.1, (s.2.2.2.2.2.1.2.1, ((), s.2.2.2.2.2.1.2.2.2))), (s.2.2.2.2.2.2.1, (s.2.2.2.2.2.2.2.1, (s.2.2.2.2.2.2.2.2.1, ((s.2.2.2.2.2.2.2.2.2.1.1, UC73), ((((s.2.2.2.2.2.2.2.2.2.2.1.1.1.1, ()), ()), (((s.2.2.2.2.2.2.2.2.2.2.1.2.1.1.1, ()), ()), (((s.2.2.2.2.2.2.2.2.2.2.1.2.2.1.1.1, ()), ()), s.2.2.2.2.2.2.2.2.2.2.1.2.2.2))), ()))))))))))))
            else
            none)
          else
          some (0, ((s.1.1, (s.1.2.1, (s.1.2.2.1, (s.1.2.2.2.1, ((((s.1.2.2.2.2.1.1.1.1, ()), ()), (((s.1.2.2.2.2.1.2.1.1.1, ()), ()), (((s.1.2.2.2.2.1.2.2.1.1.1, ()), ()), s.1.2.2.2.2.1.2.2.2))), ((IntKind.wrap .i64 (s.1.2.2.2.2.2.1 + 1)), ())))))), (s.2.1, (s.2.2.1, (s.2.2.2.1, (s.2.2.2.2.1, ((s.2.2.2.2.2.1.1, (s.2.2.2.2.2.1.2.1, ((), s.2.2.2.2.2.1.2.2.2))), (s.2.2.2.2.2.2.1, (s.2.2.2.2.2.2.2.1, (s.2.2.2.2.2.2.2.2.1, ((s.2.2.2.2.2.2.2.2.2.1.1, UC73), ((((s.2.2.2.2.2.2.2.2.2.2.1.1.1.1, ()), ()), (((s.2.2.2.2.2.2.2.2.2.2.1.2.1.1.1, ()), ()), (((s.2.2.2.2.2.2.2.2.2.2.1.2.2.1.1.1, ()), ()), s.2.2.2.2.2.2.2.2.2.2.1.2.2.2))), ()))))))))))))))
      else
      (bif (decide (s.1.2.2.2.2.2.1 = (2 : Int))) then
        (Option.bind (G54 s.1.2.2.2.2.1.2.2.1.1.1 s.1.2.1) fun r11 =>
          (bif r11 then
            (bif (decide (List.length s.1.1 + List.length [(IntKind.wrap .i64 ((1 : Int) + s.1.2.2.2.2.2.1))] ≤ LIM)) then
              some (0, (((s.1.1 ++ [(IntKind.wrap .i64 ((1 : Int) + s.1.2.2.2.2.2.1))]), (s.1.2.1, (s.1.2.2.1, (s.1.2.2.2.1, ((((s.1.2.2.2.2.1.1.1.1, ()), ()), (((s.1.2.2.2.2.1.2.1.1.1, ()), ()), (((s.1.2.2.2.2.1.2.2.1.1.1, ()), ()), s.1.2.2.2.2.1.2.2.2))), ((IntKind.wrap .i64 (s.1.2.2.2.2.2.1 + 1)), ())))))), (s.2.1, (s.2.2.1, (s.2.2.2.1, (s.2.2.2.2.1, ((s.2.2.2.2.2.1.1, (s.2.2.2.2.2.1.2.1, ((), s.2.2.2.2.2.1.2.2.2))), (s.2.2.2.2.2.2.1, (s.2.2.2.2.2.2.2.1, (s.2.2.2.2.2.2.2.2.1, ((s.2.2.2.2.2.2.2.2.2.1.1, UC73), ((((s.2.2.2.2.2.2.2.2.2.2.1.1.1.1, ()), ()), (((s.2.2.2.2.2.2.2.2.2.2.1.2.1.1.1, ()), ()), (((s.2.2.2.2.2.2.2.2.2.2.1.2.2.1.1.1, ()), ()), s.2.2.2.2.2.2.2.2.2.2.1.2.2.2))), ()))))))))))))
              else
              none)
            else
            some (0, ((s.1.1, (s.1.2.1, (s.1.2.2.1, (s.1.2.2.2.1, ((((s.1.2.2.2.2.1.1.1.1, ()), ()), (((s.1.2.2.2.2.1.2.1.1.1, ()), ()), (((s.1.2.2.2.2.1.2.2.1.1.1, ()), ()), s.1.2.2.2.2.1.2.2.2))), ((IntKind.wrap .i64 (s.1.2.2.2.2.2.1 + 1)), ())))))), (s.2.1, (s.2.2.1, (s.2.2.2.1, (s.2.2.2.2.1, ((s.2.2.2.2.2.1.1, (s.2.2.2.2.2.1.2.1, ((), s.2.2.2.2.2.1.2.2.2))), (s.2.2.2.2.2.2.1, (s.2.2.2.2.2.2.2.1, (s.2.2.2.2.2.2.2.2.1, ((s.2.2.2.2.2.2.2.2.2.1.1, UC73), ((((s.2.2.2.2.2.2.2.2.2.2.1.1.1.1, ()), ()), (((s.2.2.2.2.2.2.2.2.2.2.1.2.1.1.1, ()), ()), (((s.2.2.2.2.2.2.2.2.2.2.1.2.2.1.1.1, ()), ()), s.2.2.2.2.2.2.2.2.2.2.1.2.2.2))), ()))))))))))))))
        else
        none)))
  else
  some (1, ((s.1.1, (s.1.2.1, (s.1.2.2.1, (s.1.2.2.2.1, ((((s.1.2.2.2.2.1.1.1.1, ()), ()), (((s.1.2.2.2.2.1.2.1.1.1, ()), ()), (((s.1.2.2.2.2.1.2.2.1.1.1, ()), ()), s.1.2.2.2.2.1.2.2.2))), (s.1.2.2.2.2.2.1, ())))))), (s.2.1, (s.2.2.1, (s.2.2.2.1, (s.2.2.2.2.1, ((s.2.2.2.2.2.1.1, (s.2.2.2.2.2.1.2.1, ((), s.2.2.2.2.2.1.2.2.2))), (s.2.2.2.2.2.2.1, (s.2.2.2.2.2.2.2.1, (s.2.2.2.2.2.2.2.2.1, ((s.2.2.2.2.2.2.2.2.2.1.1, UC73), ((((s.2.2.2.2.2.2.2.2.2.2.1.1.1.1, ()), ()), (((s.2.2.2.2.2.2.2.2.2.2.1.2.1.1.1, ()), ()), (((s.2.2.2.2.2.2.2.2.2.2.1.2.2.1.1.1, ()), ()), s.2.2.2.2.2.2.2.2.2.2.1.2.2.2))), ())))))))))))))
noncomputable def g21_sense_Known_l1_fuel (s : TY58) : Nat := Int.toNat (3 - s.1.2.2.2.2.2.1) + 1
noncomputable def g21_sense_Known_l1_run (s : TY58) : Option TY59 := iter g21_sense_Known_l1_step (g21_sense_Known_l1_fuel s) s
noncomputable def g21_sense_Known_l1_L : LoopT := loopT g21_sense_Known_l1_S [.exit 4] g21_sense_Known_l1_run
noncomputable def g21_sense_Known_l0_S : SPat := ⟨[.any, .any, .any, .any, .any, .any, .any, .any, .any, .any, .any, .any, .any, .fix (.bptr 10 []), .own 0 (.int .i64), .any, .any, .any, .any, .any, .any, .any, .any, .any, .any, .any, .any, .any, .any, .any, .any, .any, .any, .any, .any, .any, .any, .any, .any, .any, .any, .any, .any, .any, .any, .any, .any, .any, .any, .any, .any, .any, .any, .dat (.int .i64), .dat (.int .i64), .any, .any, .any, .any, .any, .any, .any, .any, .any, .any, .any, .any, .any, .any, .any, .any, .any, .any], [.dat T23, .dat (.int .i64), .dat T23, .map T58 T91, .cons (.dat T23) (.cons (.dat (.list T71)) (.cons (.fix (.mref 3)) (.nil))), .cons (.dat (.int .i64)) (.cons (.dat (.int .i64)) (.nil)), .dat .bool, .fix (.bptr 4 []), .dat (.int .i64), .lp 21 0 PA57, .cons (.fnp (.func 52) (.cons (.cons (.dat (.int .i64)) (.cons (.dat (.int .i64)) (.nil))) (.nil)) (.nil)) (.cons (.fnp (.func 53) (.cons (.cons (.dat (.int .i64)) (.cons (.dat (.int .i64)) (.nil))) (.nil)) (.nil)) (.cons (.fnp (.func 54) (.cons (.cons (.dat (.int .i64)) (.cons (.dat (.int .i64)) (.nil))) (.nil)) (.nil)) (.nil)))], 1⟩
abbrev TY60 : Type := (((List Int) × (Int × (Int × Unit))) × (E23 × (Int × (E23 × ((List (E58 × E91)) × ((E23 × ((List E71) × (Unit × Unit))) × ((Int × (Int × Unit)) × (Bool × (Int × ((Nat × UT73) × (((((Int × (Int × Unit)) × Unit) × Unit) × ((((Int × (Int × Unit)) × Unit) × Unit) × ((((Int × (Int × Unit)) × Unit) × Unit) × Unit))) × Unit)))))))))))
abbrev TY61 : Type := (Nat × (((List Int) × (Int × (Int × Unit))) × (E23 × (Int × (E23 × ((List (E58 × E91)) × ((E23 × ((List E71) × (Unit × Unit))) × ((Int × (Int × Unit)) × (Bool × (Int × ((Nat × UT73) × (((((Int × (Int × Unit)) × Unit) × Unit) × ((((Int × (Int × Unit)) × Unit) × Unit) × ((((Int × (Int × Unit)) × Unit) × Unit) × Unit))) × Unit))))))))))))
noncomputable def g21_sense_Known_l0_step (s : TY60) : Option TY61 :=
  (bif (decide (s.1.2.2.1 < s.1.2.1)) then
  (Option.bind (g21_sense_Known_l1_run ((s.1.1, (s.1.2.2.1, (s.1.2.1, (s.1.2.2.1, ((((s.2.2.2.2.2.2.2.2.2.2.1.1.1.1, ()), ()), (((s.2.2.2.2.2.2.2.2.2.2.1.2.1.1.1, ()), ()), (((s.2.2.2.2.2.2.2.2.2.2.1.2.2.1.1.1, ()), ()), s.2.2.2.2.2.2.2.2.2.2.1.2.2.2))), (0, ())))))), (s.2.1, (s.2.2.1, (s.2.2.2.1, (s.2.2.2.2.1, ((s.2.2.2.2.2.1.1, (s.2.2.2.2.2.1.2.1, ((), s.2.2.2.2.2.1.2.2.2))), (s.2.2.2.2.2.2.1, (s.2.2.2.2.2.2.2.1, (s.2.2.2.2.2.2.2.2.1, ((s.2.2.2.2.2.2.2.2.2.1.1, UC73), ((((s.2.2.2.2.2.2.2.2.2.2.1.1.1.1, ()), ()), (((s.2.2.2.2.2.2.2.2.2.2.1.2.1.1.1, ()), ()), (((s.2.2.2.2.2.2.2.2.2.2.1.2.2.1.1.1, ()), ()), s.2.2.2.2.2.2.2.2.2.2.1.2.2.2))), ())))))))))))) fun q12 =>
    some (0, ((q12.2.1.1, (q12.2.1.2.2.1, ((IntKind.wrap .i64 (q12.2.1.2.2.2.1 + 1)), ()))), (q12.2.2.1, (q12.2.2.2.1, (q12.2.2.2.2.1, (q12.2.2.2.2.2.1, ((q12.2.2.2.2.2.2.1.1, (q12.2.2.2.2.2.2.1.2.1, ((), q12.2.2.2.2.2.2.1.2.2.2))), (q12.2.2.2.2.2.2.2.1, (q12.2.2.2.2.2.2.2.2.1, (q12.2.2.2.2.2.2.2.2.2.1, ((q12.2.2.2.2.2.2.2.2.2.2.1.1, UC73), ((((q12.2.2.2.2.2.2.2.2.2.2.2.1.1.1.1, ()), ()), (((q12.2.2.2.2.2.2.2.2.2.2.2.1.2.1.1.1, ()), ()), (((q12.2.2.2.2.2.2.2.2.2.2.2.1.2.2.1.1.1, ()), ()), q12.2.2.2.2.2.2.2.2.2.2.2.1.2.2.2))), ())))))))))))))
  else
  some (1, ((s.1.1, (s.1.2.1, (s.1.2.2.1, ()))), (s.2.1, (s.2.2.1, (s.2.2.2.1, (s.2.2.2.2.1, ((s.2.2.2.2.2.1.1, (s.2.2.2.2.2.1.2.1, ((), s.2.2.2.2.2.1.2.2.2))), (s.2.2.2.2.2.2.1, (s.2.2.2.2.2.2.2.1, (s.2.2.2.2.2.2.2.2.1, ((s.2.2.2.2.2.2.2.2.2.1.1, UC73), ((((s.2.2.2.2.2.2.2.2.2.2.1.1.1.1, ()), ()), (((s.2.2.2.2.2.2.2.2.2.2.1.2.1.1.1, ()), ()), (((s.2.2.2.2.2.2.2.2.2.2.1.2.2.1.1.1, ()), ()), s.2.2.2.2.2.2.2.2.2.2.1.2.2.2))), ())))))))))))))
noncomputable def g21_sense_Known_l0_fuel (s : TY60) : Nat := Int.toNat (s.1.2.1 - s.1.2.2.1) + 1
noncomputable def g21_sense_Known_l0_run (s : TY60) : Option TY61 := iter g21_sense_Known_l0_step (g21_sense_Known_l0_fuel s) s
noncomputable def g21_sense_Known_l0_L : LoopT := loopT g21_sense_Known_l0_S [.exit 2] g21_sense_Known_l0_run
noncomputable def g21_sense_Known (a0 : E23) (a1 : (List E71)) (a2 : Int) : Option ((List Int) × (Int × Unit)) :=
  (Option.bind (G26_v3 a0 a1 a2) fun r1 =>
  (altK r1
    (fun r2 => (bif (r2.1.2.1 != 0) then
      some ([], (r2.1.2.1, ()))
      else
      (Option.bind (G46_v1 r2.2.1) fun r4 =>
        (Option.bind (G74_v1 (0, UC73) r4.2.1 (0, ((-1), ())) false) fun r5 =>
          (bif (r5.2.1.1 == 0) then
            (bif (!r5.2.2.2.2.1) then
              some ([], (5, ()))
              else
              none)
            else
            none)))))
    (fun r3 => (bif (r3.1.2.1 != 0) then
      some ([], (r3.1.2.1, ()))
      else
      (Option.bind (G46 r3.2.1 (r3.2.2.2.2.1.1, (r3.2.2.2.2.1.2.1, ((), r3.2.2.2.2.1.2.2.2))) r3.2.2.2.1) fun r6 =>
        (Option.bind (G74_v2 (0, UC73) r6.2.2.2.1 (0, ((-1), ())) false (r6.2.1.1, (r6.2.1.2.1, ((), r6.2.1.2.2.2))) r6.2.2.1) fun r7 =>
          (bif (r7.2.1.1 == 0) then
            (bif (!r7.2.2.2.2.1) then
              some ([], (5, ()))
              else
              (Option.bind (G47 (r7.2.2.2.2.2.1.1, (r7.2.2.2.2.2.1.2.1, ((), r7.2.2.2.2.2.1.2.2.2)))) fun r8 =>
                (Option.bind (g21_sense_Known_l0_run (([], (r8, (0, ()))), (a0, (r3.2.1, (r3.2.2.1, (r7.2.2.2.2.2.2.1, ((r7.2.2.2.2.2.1.1, (r7.2.2.2.2.2.1.2.1, ((), r7.2.2.2.2.2.1.2.2.2))), (r7.2.2.2.1, (r7.2.2.2.2.1, (r7.2.2.1, ((2, UC73), ((((r7.2.2.2.1, ()), ()), (((r7.2.2.2.1, ()), ()), (((r7.2.2.2.1, ()), ()), ()))), ())))))))))))) fun q13 =>
                  some (q13.2.1.1, (0, ())))))
            else
            none)))))))
noncomputable def g21_sense_Known_E : CEnt := pureE 21 [.dat T23, .dat (.list T71), .dat (.int .i64)] (.tup (.cons (.dat (.list (.int .i64))) (.cons (.dat (.int .i64)) (.nil)))) fun x => g21_sense_Known x.1 x.2.1 x.2.2.1
theorem g21_sense_Known_f0_V : LValid 0 Tryz.prog (lcode 21 0) g21_sense_Known_f0_L := rfT_valid' g21_sense_Known_CV (by kernel_rfl)
theorem g21_sense_Known_l1_V : LValid 0 Tryz.prog (.loop g21_sense_Known_l1_c) g21_sense_Known_l1_L false := by
  have hb : ∀ s, codeR Tryz.prog g21_sense_Known_C g21_sense_Known_l1_c [] (g21_sense_Known_l1_S.encE s) (g21_sense_Known_l1_S.encB s) (kst g21_sense_Known_l1_S [.exit 4]) = g21_sense_Known_l1_step s := by
    intro s; kernel_rfl
  have hL : LV 0 Tryz.prog false (loopsOf g21_sense_Known_l1_c) [] := by unfold LV; cases loopsOf g21_sense_Known_l1_c <;> trivial
  exact loopT_valid (fuel := g21_sense_Known_l1_fuel) mixed g21_sense_Known_CV hL (by kernel_rfl) (by decide) rfl hb (fun s r h => h)
theorem g21_sense_Known_l0_V : LValid 0 Tryz.prog (.loop g21_sense_Known_l0_c) g21_sense_Known_l0_L false := by
  have hb : ∀ s, codeR Tryz.prog g21_sense_Known_C g21_sense_Known_l0_c [g21_sense_Known_l1_L] (g21_sense_Known_l0_S.encE s) (g21_sense_Known_l0_S.encB s) (kst g21_sense_Known_l0_S [.exit 2]) = g21_sense_Known_l0_step s := by
    intro s; kernel_rfl
  have hl : loopsOf g21_sense_Known_l0_c = [.loop g21_sense_Known_l1_c] := by kernel_rfl
  have hL : LV 0 Tryz.prog false (loopsOf g21_sense_Known_l0_c) [g21_sense_Known_l1_L] := by rw [hl]; exact ⟨g21_sense_Known_l1_V, trivial⟩
  exact loopT_valid (fuel := g21_sense_Known_l0_fuel) mixed g21_sense_Known_CV hL (by kernel_rfl) (by decide) rfl hb (fun s r h => h)
theorem g21_sense_Known_LV : LV 0 Tryz.prog false (loopsOf (bodyOf Tryz.f21)) [g21_sense_Known_f0_L, g21_sense_Known_l0_L] := by
  have hl : loopsOf (bodyOf Tryz.f21) = [(lcode 21 0), .loop g21_sense_Known_l0_c] := by kernel_rfl
  rw [hl]; exact ⟨g21_sense_Known_f0_V, g21_sense_Known_l0_V, trivial⟩
theorem g21_sense_Known_ent : Ent Tryz.prog 21 := ⟨by decide, enters_of Tryz.func21 (by kernel_rfl) rfl⟩
theorem g21_sense_Known_hev : ∀ x, fnR Tryz.prog g21_sense_Known_C [g21_sense_Known_f0_L, g21_sense_Known_l0_L] Tryz.f21 (bodyOf Tryz.f21) (encs [.dat T23, .dat (.list T71), .dat (.int .i64)] x) ⟨[], [], 0⟩ (frzF (.tup (.cons (.dat (.list (.int .i64))) (.cons (.dat (.int .i64)) (.nil))))) = g21_sense_Known x.1 x.2.1 x.2.2.1 := by
  intro x; kernel_rfl
theorem g21_sense_Known_valid : g21_sense_Known_E.Valid Tryz.prog :=
  pureE_valid (by kernel_rfl) (by kernel_rfl) g21_sense_Known_ent (frz_lcall mixed Tryz.func21 rfl g21_sense_Known_ent g21_sense_Known_CV g21_sense_Known_LV (by kernel_rfl) (by kernel_rfl) g21_sense_Known_hev)
noncomputable def G55_C : CalT := tabC [G47_E, G51_E]
theorem G55_CV : CV Tryz.prog G55_C := tabC_valid (l := _) ⟨G47_valid, G51_valid, trivial⟩
noncomputable def G55 (b0 : (E23 × ((List E71) × (Unit × Unit)))) (b1 : Int) (b2 : Int) (b3 : E23) (b4 : Int) (b5 : (List (E58 × E91))) : Option (Bool × ((E23 × ((List E71) × (Unit × Unit))) × (Int × (Int × (E23 × (Int × ((List (E58 × E91)) × Unit))))))) :=
  (Option.bind (G47 (b0.1, (b0.2.1, ((), b0.2.2.2)))) fun r1 =>
  (Option.bind (G51 b1 0 r1) fun r2 =>
    (bif r2 then
      (Option.bind (G51 b2 0 (IntKind.wrap .i64 (b3.2.2.2.1 - 1))) fun r3 =>
        (bif r3 then
          (Option.bind (G51 b4 0 200) fun r4 =>
            some (r4, ((b0.1, (b0.2.1, ((), b0.2.2.2))), (b1, (b2, (b3, (b4, (b5, ()))))))))
          else
          some (false, ((b0.1, (b0.2.1, ((), b0.2.2.2))), (b1, (b2, (b3, (b4, (b5, ())))))))))
      else
      some (false, ((b0.1, (b0.2.1, ((), b0.2.2.2))), (b1, (b2, (b3, (b4, (b5, ()))))))))))
abbrev G55_CS : CSpec := ⟨[.fix (.bptr 0 []), .fix (.bptr 1 []), .fix (.bptr 2 []), .fix (.bptr 3 []), .fix (.bptr 4 [])], [.cons (.dat T23) (.cons (.dat (.list T71)) (.cons (.fix (.mref 5)) (.nil))), .dat (.int .i64), .dat (.int .i64), .dat T23, .dat (.int .i64), .map T58 T91], 0, [.cons (.dat T23) (.cons (.dat (.list T71)) (.cons (.fix (.mref 5)) (.nil))), .dat (.int .i64), .dat (.int .i64), .dat T23, .dat (.int .i64), .map T58 T91], 0, .dat .bool⟩
noncomputable def G55_E : CEnt := boxE 55 G55_CS fun x => G55 x.2.1 x.2.2.1 x.2.2.2.1 x.2.2.2.2.1 x.2.2.2.2.2.1 x.2.2.2.2.2.2.1
theorem G55_LV : LV 6 Tryz.prog false (loopsOf (bodyOf Tryz.f55)) [] := by unfold LV; cases loopsOf (bodyOf Tryz.f55) <;> trivial
theorem G55_ent : Ent Tryz.prog 55 := ⟨by decide, enters_of Tryz.func55 (by kernel_rfl) rfl⟩
theorem G55_hev : ∀ x : G55_CS.In, fnR Tryz.prog G55_C [] Tryz.f55 (bodyOf Tryz.f55) (encs G55_CS.A x.1) ⟨encs G55_CS.I x.2, [], G55_CS.nt⟩ (finK G55_CS) = G55 x.2.1 x.2.2.1 x.2.2.2.1 x.2.2.2.2.1 x.2.2.2.2.2.1 x.2.2.2.2.2.2.1 := by
  intro x; kernel_rfl
theorem G55_valid : G55_E.Valid Tryz.prog :=
  boxE_valid (S := G55_CS) (by kernel_rfl) (.inr G55_ent) (fn_lcall (S := G55_CS) mixed Tryz.func55 rfl G55_ent G55_CV G55_LV (by kernel_rfl) (by kernel_rfl) G55_hev)
noncomputable def G26_v4_C : CalT := tabC [G57_E, G58_E, G55_E]
theorem G26_v4_CV : CV Tryz.prog G26_v4_C := tabC_valid (l := _) ⟨G57_valid, G58_valid, G55_valid, trivial⟩
abbrev TY62 : Type := (Int × (Int × (E23 × (Int × (E23 × ((List (E58 × E91)) × ((E23 × ((List E71) × (Unit × Unit))) × Unit)))))))
noncomputable def G26_v4 (a0 : E23) (a1 : (List E71)) (b2 : Int) (b3 : Int) (b4 : E23) (b5 : Int) : Option (((Unit × (Int × Unit)) × (Int × (Int × (E23 × (Int × Unit))))) ⊕ ((Unit × (Int × Unit)) × TY62)) :=
  (bif (decide ((List.length a1 : Int) > 24)) then
  some (Sum.inl (((), (3, ())), (b2, (b3, (b4, (b5, ()))))))
  else
  (Option.bind (G57 a0) fun r1 =>
    (bif (!r1) then
      some (Sum.inl (((), (2, ())), (b2, (b3, (b4, (b5, ()))))))
      else
      (Option.bind (G58 a1 a0) fun r2 =>
        (bif r2.1 then
          some (Sum.inl (((), (2, ())), (b2, (b3, (b4, (b5, ()))))))
          else
          (Option.bind (G55 (a0, (a1, ((), ()))) b2 b3 b4 b5 ([] : List (E58 × E91))) fun r3 =>
            (bif (!r3.1) then
              some (Sum.inl (((), (2, ())), (r3.2.2.1, (r3.2.2.2.1, (r3.2.2.2.2.1, (r3.2.2.2.2.2.1, ()))))))
              else
              some (Sum.inr (((), (0, ())), (r3.2.2.1, (r3.2.2.2.1, (r3.2.2.2.2.1, (r3.2.2.2.2.2.1, (r2.2.1, (r3.2.2.2.2.2.2.1, ((r3.2.1.1, (r3.2.1.2.1, ((), r3.2.1.2.2.2))), ()))))))))))))))))
abbrev G26_v4_CS : CSpec := ⟨[.dat T23, .dat (.list T71), .fix (.func (.func 55) .nil (.cons (.bptr 0 []) (.cons (.bptr 1 []) (.cons (.bptr 2 []) (.cons (.bptr 3 []) .nil)))))], [.dat (.int .i64), .dat (.int .i64), .dat T23, .dat (.int .i64)], 0, [.dat (.int .i64), .dat (.int .i64), .dat T23, .dat (.int .i64)], 0, .tup (.cons (.fix .pnil) (.cons (.dat (.int .i64)) (.nil)))⟩
abbrev G26_v4_O2 : List PTy := [.dat (.int .i64), .dat (.int .i64), .dat T23, .dat (.int .i64), .dat T23, .map T58 T91, .cons (.dat T23) (.cons (.dat (.list T71)) (.cons (.fix (.mref 5)) (.nil)))]
abbrev G26_v4_R2 : PTy := .tup (.cons (.fix (.bptr 6 [])) (.cons (.dat (.int .i64)) (.nil)))
noncomputable def G26_v4_E : CEnt := altE 26 G26_v4_CS G26_v4_O2 0 G26_v4_R2 fun x => G26_v4 x.1.1 x.1.2.1 x.2.1 x.2.2.1 x.2.2.2.1 x.2.2.2.2.1
theorem G26_v4_LV : LV 4 Tryz.prog false (loopsOf (bodyOf Tryz.f26)) [] := by unfold LV; cases loopsOf (bodyOf Tryz.f26) <;> trivial
theorem G26_v4_ent : Ent Tryz.prog 26 := ⟨by decide, enters_of Tryz.func26 (by kernel_rfl) rfl⟩
theorem G26_v4_hev : ∀ x : G26_v4_CS.In, fnR Tryz.prog G26_v4_C [] Tryz.f26 (bodyOf Tryz.f26) (encs G26_v4_CS.A x.1) ⟨encs G26_v4_CS.I x.2, [], G26_v4_CS.nt⟩ (finK2 G26_v4_CS G26_v4_O2 0 G26_v4_R2) = G26_v4 x.1.1 x.1.2.1 x.2.1 x.2.2.1 x.2.2.2.1 x.2.2.2.2.1 := by
  intro x; kernel_rfl
theorem G26_v4_valid : G26_v4_E.Valid Tryz.prog :=
  altE_valid (S := G26_v4_CS) (by kernel_rfl) (by kernel_rfl) (.inr G26_v4_ent) (alt_lcall (S := G26_v4_CS) mixed Tryz.func26 rfl G26_v4_ent G26_v4_CV G26_v4_LV (by kernel_rfl) (by kernel_rfl) (by kernel_rfl) (by kernel_rfl) G26_v4_hev)
noncomputable def G74_v3_C : CalT := tabC []
theorem G74_v3_CV : CV Tryz.prog G74_v3_C := tabC_valid (l := _) trivial
noncomputable def G74_v3_l0_c : Code := loopAt (bodyOf Tryz.f74) 0
abbrev AN63 : PTy := (.cons (.any) (.cons (.any) (.cons (.any) (.cons (.any) (.cons (.any) (.cons (.any) (.cons (.any) (.cons (.any) (.cons (.any) (.cons (.any) (.cons (.any) (.cons (.any) (.cons (.any) (.cons (.any) (.cons (.any) (.cons (.any) (.cons (.any) (.cons (.any) (.cons (.any) (.cons (.any) (.cons (.any) (.cons (.any) (.cons (.any) (.cons (.any) (.cons (.any) (.cons (.any) (.cons (.any) (.cons (.any) (.cons (.any) (.cons (.any) (.cons (.any) (.cons (.any) (.cons (.any) (.cons (.any) (.cons (.any) (.cons (.any) (.cons (.any) (.cons (.any) (.cons (.any) (.cons (.any) (.cons (.any) (.cons (.any) (.cons (.any) (.cons (.any) (.cons (.any) (.cons (.any) (.cons (.any) (.cons (.any) (.cons (.any) (.cons (.any) (.cons (.any) (.cons (.any) (.cons (.any) (.cons (.any) (.cons (.any) (.cons (.any) (.cons (.any) (.cons (.any) (.cons (.any) (.cons (.any) (.cons (.any) (.cons (.any) (.cons (.any) (.nil))))))))))))))))))))))))))))))))))))))))))))))))))))))))))))))))
abbrev PA63 : PTy := (.cons (.any) (.cons (.any) (.cons (.any) (.cons (.any) (.cons (.any) (.cons (.any) (.cons (.any) (.cons (.any) (.cons (.fix (.bptr 3 [])) (.cons (.fix (.bptr 4 [])) (.cons (.any) (.cons (.any) (.cons (.fix (.bptr 5 [])) (.cons (.any) (.cons (.fix (.bptr 6 [])) (.cons (.fix (.bptr 7 [])) AN63))))))))))))))))
noncomputable def G74_v3_l0_S : SPat := ⟨[.any, .any, .any, .any, .fix (.bptr 9 []), .any, .any, .any, .dat (.int .i64), .dat (.int .i64), .any, .any, .any, .any, .any, .any, .any], [.lp 22 0 PA63, .fix .pnil, .dat (.int .i64), .dat (.int .i64), .dat (.int .i64), .fix .pnil, .cons (.dat (.int .i64)) (.cons (.dat (.int .i64)) (.nil)), .dat .bool, .fix (.yref 0), .fix (.func (.func 75) .nil (.cons (.bptr 1 []) (.cons (.bptr 8 []) (.cons (.bptr 9 []) .nil))))], 0⟩
abbrev UT79 : Type := (Unit × (Unit × (Unit × (Unit × (Unit × (Unit × (Unit × (Unit × (Unit × (Unit × (Unit × (Unit × (Unit × (Unit × (Unit × (Unit × (Unit × (Unit × (Unit × (Unit × (Unit × (Unit × (Unit × (Unit × (Unit × (Unit × (Unit × (Unit × (Unit × (Unit × (Unit × (Unit × (Unit × (Unit × (Unit × (Unit × (Unit × (Unit × (Unit × (Unit × (Unit × (Unit × (Unit × (Unit × (Unit × (Unit × (Unit × (Unit × (Unit × (Unit × (Unit × (Unit × (Unit × (Unit × (Unit × (Unit × (Unit × (Unit × (Unit × (Unit × (Unit × (Unit × (Unit × (Unit × (Unit × (Unit × (Unit × (Unit × (Unit × (Unit × (Unit × (Unit × (Unit × (Unit × (Unit × (Unit × (Unit × (Unit × (Unit × Unit)))))))))))))))))))))))))))))))))))))))))))))))))))))))))))))))))))))))))))))))
abbrev UC79 : (Unit × (Unit × (Unit × (Unit × (Unit × (Unit × (Unit × (Unit × (Unit × (Unit × (Unit × (Unit × (Unit × (Unit × (Unit × (Unit × (Unit × (Unit × (Unit × (Unit × (Unit × (Unit × (Unit × (Unit × (Unit × (Unit × (Unit × (Unit × (Unit × (Unit × (Unit × (Unit × (Unit × (Unit × (Unit × (Unit × (Unit × (Unit × (Unit × (Unit × (Unit × (Unit × (Unit × (Unit × (Unit × (Unit × (Unit × (Unit × (Unit × (Unit × (Unit × (Unit × (Unit × (Unit × (Unit × (Unit × (Unit × (Unit × (Unit × (Unit × (Unit × (Unit × (Unit × (Unit × (Unit × (Unit × (Unit × (Unit × (Unit × (Unit × (Unit × (Unit × (Unit × (Unit × (Unit × (Unit × (Unit × (Unit × (Unit × Unit))))))))))))))))))))))))))))))))))))))))))))))))))))))))))))))))))))))))))))))) := ((), ((), ((), ((), ((), ((), ((), ((), ((), ((), ((), ((), ((), ((), ((), ((), ((), ((), ((), ((), ((), ((), ((), ((), ((), ((), ((), ((), ((), ((), ((), ((), ((), ((), ((), ((), ((), ((), ((), ((), ((), ((), ((), ((), ((), ((), ((), ((), ((), ((), ((), ((), ((), ((), ((), ((), ((), ((), ((), ((), ((), ((), ((), ((), ((), ((), ((), ((), ((), ((), ((), ((), ((), ((), ((), ((), ((), ((), ((), ())))))))))))))))))))))))))))))))))))))))))))))))))))))))))))))))))))))))))))))))
abbrev TY64 : Type := ((Int × (Int × Unit)) × ((Nat × UT79) × (Int × (Int × (Int × ((Int × (Int × Unit)) × (Bool × Unit)))))))
abbrev TY65 : Type := (Nat × ((Int × (Int × Unit)) × ((Nat × UT79) × (Int × (Int × (Int × ((Int × (Int × Unit)) × (Bool × Unit))))))))
noncomputable def G74_v3_l0_step (s : TY64) : Option TY65 :=
  (bif (decide (s.1.2.1 < s.1.1)) then
  none
  else
  some (1, ((s.1.1, (s.1.2.1, ())), ((s.2.1.1, UC79), (s.2.2.1, (s.2.2.2.1, (s.2.2.2.2.1, (s.2.2.2.2.2.1, (s.2.2.2.2.2.2.1, ())))))))))
noncomputable def G74_v3_l0_fuel (s : TY64) : Nat := Int.toNat (s.1.1 - s.1.2.1) + 1
noncomputable def G74_v3_l0_run (s : TY64) : Option TY65 := iter G74_v3_l0_step (G74_v3_l0_fuel s) s
noncomputable def G74_v3_l0_L : LoopT := loopT G74_v3_l0_S [.exit 0] G74_v3_l0_run
abbrev TY66 : Type := (Unit × ((Nat × UT79) × (Int × (Int × (Int × ((Int × (Int × Unit)) × (Bool × Unit)))))))
noncomputable def G74_v3 (b0 : (Nat × UT79)) (b1 : Int) (b2 : Int) (b3 : Int) (b4 : (Int × (Int × Unit))) (b5 : Bool) : Option TY66 :=
  (Option.bind (G74_v3_l0_run (((IntKind.wrap .i64 (b1 + 1)), (0, ())), ((b0.1, UC79), (b1, (b2, (b3, (b4, (b5, ())))))))) fun q1 =>
  some ((), ((q1.2.2.1.1, UC79), (q1.2.2.2.1, (q1.2.2.2.2.1, (q1.2.2.2.2.2.1, (q1.2.2.2.2.2.2.1, (q1.2.2.2.2.2.2.2.1, ()))))))))
abbrev G74_v3_CS : CSpec := ⟨[.fix (.yref 0), .fix (.bptr 1 []), .fix (.bptr 2 [])], [.lp 22 0 (.cons (.any) (.cons (.any) (.cons (.any) (.cons (.any) (.cons (.any) (.cons (.any) (.cons (.any) (.cons (.any) (.cons (.fix (.bptr 3 [])) (.cons (.fix (.bptr 4 [])) (.cons (.any) (.cons (.any) (.cons (.fix (.bptr 5 [])) (.cons (.any) (.cons (.fix (.bptr 6 [])) (.cons (.fix (.bptr 7 [])) AN63)))))))))))))))), .fix .pnil, .dat (.int .i64), .dat (.int .i64), .dat (.int .i64), .fix .pnil, .cons (.dat (.int .i64)) (.cons (.dat (.int .i64)) (.nil)), .dat .bool], 0, [.lp 22 0 (.cons (.any) (.cons (.any) (.cons (.any) (.cons (.any) (.cons (.any) (.cons (.any) (.cons (.any) (.cons (.any) (.cons (.fix (.bptr 3 [])) (.cons (.fix (.bptr 4 [])) (.cons (.any) (.cons (.any) (.cons (.fix (.bptr 5 [])) (.cons (.any) (.cons (.fix (.bptr 6 [])) (.cons (.fix (.bptr 7 [])) AN63)))))))))))))))), .fix .pnil, .dat (.int .i64), .dat (.int .i64), .dat (.int .i64), .fix .pnil, .cons (.dat (.int .i64)) (.cons (.dat (.int .i64)) (.nil)), .dat .bool], 0, .tup (.nil)⟩
noncomputable def G74_v3_E : CEnt := boxE 74 G74_v3_CS fun x => G74_v3 x.2.1 x.2.2.1 x.2.2.2.1 x.2.2.2.2.1 x.2.2.2.2.2.1 x.2.2.2.2.2.2.1
theorem G74_v3_l0_V : LValid 8 Tryz.prog (.loop G74_v3_l0_c) G74_v3_l0_L false := by
  have hb : ∀ s, codeR Tryz.prog G74_v3_C G74_v3_l0_c [] (G74_v3_l0_S.encE s) (G74_v3_l0_S.encB s) (kst G74_v3_l0_S [.exit 0]) = G74_v3_l0_step s := by
    intro s; kernel_rfl
  have hL : LV 8 Tryz.prog false (loopsOf G74_v3_l0_c) [] := by unfold LV; cases loopsOf G74_v3_l0_c <;> trivial
  exact loopT_valid (fuel := G74_v3_l0_fuel) mixed G74_v3_CV hL (by kernel_rfl) (by decide) rfl hb (fun s r h => h)
theorem G74_v3_LV : LV 8 Tryz.prog false (loopsOf (bodyOf Tryz.f74)) [G74_v3_l0_L] := by
  have hl : loopsOf (bodyOf Tryz.f74) = [.loop G74_v3_l0_c] := by kernel_rfl
  rw [hl]; exact ⟨G74_v3_l0_V, trivial⟩
theorem G74_v3_ent : Ent Tryz.prog 74 := ⟨by decide, enters_of Tryz.func74 (by kernel_rfl) rfl⟩
theorem G74_v3_hev : ∀ x : G74_v3_CS.In, fnR Tryz.prog G74_v3_C [G74_v3_l0_L] Tryz.f74 (bodyOf Tryz.f74) (encs G74_v3_CS.A x.1) ⟨encs G74_v3_CS.I x.2, [], G74_v3_CS.nt⟩ (finK G74_v3_CS) = G74_v3 x.2.1 x.2.2.1 x.2.2.2.1 x.2.2.2.2.1 x.2.2.2.2.2.1 x.2.2.2.2.2.2.1 := by
  intro x; kernel_rfl
theorem G74_v3_valid : G74_v3_E.Valid Tryz.prog :=
  boxE_valid (S := G74_v3_CS) (by kernel_rfl) (.inr G74_v3_ent) (fn_lcall (S := G74_v3_CS) mixed Tryz.func74 rfl G74_v3_ent G74_v3_CV G74_v3_LV (by kernel_rfl) (by kernel_rfl) G74_v3_hev)
noncomputable def G22_C : CalT := tabC [G43_E]
theorem G22_CV : CV Tryz.prog G22_C := tabC_valid (l := _) ⟨G43_valid, trivial⟩
noncomputable def G22_l0_c : Code := loopAt (rfBody (lcode 22 0)) 0
abbrev PA67 : PTy := (.cons (.any) (.cons (.any) (.cons (.any) (.cons (.any) (.cons (.any) (.cons (.any) (.cons (.any) (.cons (.any) (.cons (.fix (.bptr 1 [])) (.cons (.fix (.bptr 2 [])) (.cons (.any) (.cons (.any) (.cons (.fix (.bptr 3 [])) (.cons (.any) (.cons (.fix (.bptr 4 [])) (.cons (.fix (.bptr 5 [])) AN63))))))))))))))))
noncomputable def G22_l0_S : SPat := ⟨[.any, .any, .any, .any, .any, .any, .any, .any, .any, .fix (.bptr 2 []), .any, .any, .any, .any, .fix (.bptr 4 []), .fix (.bptr 5 []), .any, .any, .any, .any, .any, .any, .any, .any, .any, .any, .any, .any, .any, .any, .any, .any, .any, .any, .any, .any, .any, .any, .any, .dat (.arr 41 T58), .dat (.int .i64), .any, .any, .any, .any, .any, .any, .any, .any, .any, .any, .any, .any, .any, .any, .any, .any, .any, .any, .any, .any, .any, .any, .any, .any, .any, .any, .any, .any, .any, .any, .any, .any, .any, .any, .any, .any, .any, .any], [.lp 22 0 PA67, .dat (.int .i64), .dat (.int .i64), .fix (.bptr 6 []), .cons (.dat (.int .i64)) (.cons (.dat (.int .i64)) (.nil)), .dat .bool, .cons (.dat T23) (.cons (.dat (.list T71)) (.cons (.fix (.mref 7)) (.nil))), .map T58 T91], 0⟩
abbrev TY68 : Type := (((List E58) × (Int × Unit)) × ((Nat × UT79) × (Int × (Int × ((Int × (Int × Unit)) × (Bool × ((E23 × ((List E71) × (Unit × Unit))) × ((List (E58 × E91)) × Unit))))))))
abbrev TY69 : Type := (Nat × (((List E58) × (Int × Unit)) × ((Nat × UT79) × (Int × (Int × ((Int × (Int × Unit)) × (Bool × ((E23 × ((List E71) × (Unit × Unit))) × ((List (E58 × E91)) × Unit)))))))))
noncomputable def G22_l0_step (s : TY68) : Option TY69 :=
  (bif (decide (s.1.2.1 < 41)) then
  (bif (decide (0 ≤ s.1.2.1) && decide (s.1.2.1 < (41 : Int))) then
    (bif (decide ((List.getD s.1.1 (Int.toNat s.1.2.1) (0, (0, ()))).1 < 0)) then
      some (0, ((s.1.1, ((IntKind.wrap .i64 (s.1.2.1 + 1)), ())), ((s.2.1.1, UC79), (s.2.2.1, (s.2.2.2.1, (s.2.2.2.2.1, (s.2.2.2.2.2.1, ((s.2.2.2.2.2.2.1.1, (s.2.2.2.2.2.2.1.2.1, ((), s.2.2.2.2.2.2.1.2.2.2))), (s.2.2.2.2.2.2.2.1, ())))))))))
      else
      (bif (!s.2.2.2.2.2.1) then
        some (0, ((s.1.1, ((IntKind.wrap .i64 (s.1.2.1 + 1)), ())), ((s.2.1.1, UC79), (s.2.2.1, (s.2.2.2.1, (((if (IntKind.wrap .i64 ((List.getD s.1.1 (Int.toNat s.1.2.1) (0, (0, ()))).1 + (IntKind.wrap .i64 ((IntKind.wrap .i64 (s.1.2.1 - 20)) * s.2.2.2.1)))) < (IntKind.wrap .i64 ((List.getD s.1.1 (Int.toNat s.1.2.1) (0, (0, ()))).1 + (IntKind.wrap .i64 ((IntKind.wrap .i64 (s.1.2.1 - 20)) * s.2.2.2.1)))) then (IntKind.wrap .i64 ((List.getD s.1.1 (Int.toNat s.1.2.1) (0, (0, ()))).1 + (IntKind.wrap .i64 ((IntKind.wrap .i64 (s.1.2.1 - 20)) * s.2.2.2.1)))) else (IntKind.wrap .i64 ((List.getD s.1.1 (Int.toNat s.1.2.1) (0, (0, ()))).1 + (IntKind.wrap .i64 ((IntKind.wrap .i64 (s.1.2.1 - 20)) * s.2.2.2.1))))), ((if (IntKind.wrap .i64 ((List.getD s.1.1 (Int.toNat s.1.2.1) (0, (0, ()))).2.1 + (IntKind.wrap .i64 ((IntKind.wrap .i64 (s.1.2.1 - 20)) * s.2.2.2.1)))) > (IntKind.wrap .i64 ((List.getD s.1.1 (Int.toNat s.1.2.1) (0, (0, ()))).2.1 + (IntKind.wrap .i64 ((IntKind.wrap .i64 (s.1.2.1 - 20)) * s.2.2.2.1)))) then (IntKind.wrap .i64 ((List.getD s.1.1 (Int.toNat s.1.2.1) (0, (0, ()))).2.1 + (IntKind.wrap .i64 ((IntKind.wrap .i64 (s.1.2.1 - 20)) * s.2.2.2.1)))) else (IntKind.wrap .i64 ((List.getD s.1.1 (Int.toNat s.1.2.1) (0, (0, ()))).2.1 + (IntKind.wrap .i64 ((IntKind.wrap .i64 (s.1.2.1 - 20)) * s.2.2.2.1))))), ())), (true, ((s.2.2.2.2.2.2.1.1, (s.2.2.2.2.2.2.1.2.1, ((), s.2.2.2.2.2.2.1.2.2.2))), (s.2.2.2.2.2.2.2.1, ())))))))))
        else
        some (0, ((s.1.1, ((IntKind.wrap .i64 (s.1.2.1 + 1)), ())), ((s.2.1.1, UC79), (s.2.2.1, (s.2.2.2.1, (((if (IntKind.wrap .i64 ((List.getD s.1.1 (Int.toNat s.1.2.1) (0, (0, ()))).1 + (IntKind.wrap .i64 ((IntKind.wrap .i64 (s.1.2.1 - 20)) * s.2.2.2.1)))) < s.2.2.2.2.1.1 then (IntKind.wrap .i64 ((List.getD s.1.1 (Int.toNat s.1.2.1) (0, (0, ()))).1 + (IntKind.wrap .i64 ((IntKind.wrap .i64 (s.1.2.1 - 20)) * s.2.2.2.1)))) else s.2.2.2.2.1.1), ((if (IntKind.wrap .i64 ((List.getD s.1.1 (Int.toNat s.1.2.1) (0, (0, ()))).2.1 + (IntKind.wrap .i64 ((IntKind.wrap .i64 (s.1.2.1 - 20)) * s.2.2.2.1)))) > s.2.2.2.2.1.2.1 then (IntKind.wrap .i64 ((List.getD s.1.1 (Int.toNat s.1.2.1) (0, (0, ()))).2.1 + (IntKind.wrap .i64 ((IntKind.wrap .i64 (s.1.2.1 - 20)) * s.2.2.2.1)))) else s.2.2.2.2.1.2.1), ())), (s.2.2.2.2.2.1, ((s.2.2.2.2.2.2.1.1, (s.2.2.2.2.2.2.1.2.1, ((), s.2.2.2.2.2.2.1.2.2.2))), (s.2.2.2.2.2.2.2.1, ())))))))))))
    else
    none)
  else
  some (1, ((s.1.1, (s.1.2.1, ())), ((s.2.1.1, UC79), (s.2.2.1, (s.2.2.2.1, (s.2.2.2.2.1, (s.2.2.2.2.2.1, ((s.2.2.2.2.2.2.1.1, (s.2.2.2.2.2.2.1.2.1, ((), s.2.2.2.2.2.2.1.2.2.2))), (s.2.2.2.2.2.2.2.1, ()))))))))))
noncomputable def G22_l0_fuel (s : TY68) : Nat := Int.toNat (41 - s.1.2.1) + 1
noncomputable def G22_l0_run (s : TY68) : Option TY69 := iter G22_l0_step (G22_l0_fuel s) s
noncomputable def G22_l0_L : LoopT := loopT G22_l0_S [.exit 2] G22_l0_run
abbrev TY70 : Type := ((Nat × UT79) × (Int × (Int × ((Int × (Int × Unit)) × (Bool × ((E23 × ((List E71) × (Unit × Unit))) × ((List (E58 × E91)) × Unit)))))))
noncomputable def G22 (a0 : Int) (b1 : (Nat × UT79)) (b2 : Int) (b3 : Int) (b4 : (Int × (Int × Unit))) (b5 : Bool) (b6 : (E23 × ((List E71) × (Unit × Unit)))) (b7 : (List (E58 × E91))) : Option (Bool × TY70) :=
  (natK b1.1
  ((Option.bind (G43 b2 a0 (b6.1, (b6.2.1, ((), b6.2.2.2))) b7) fun r1 =>
    (Option.bind (G22_l0_run ((r1.1.1, (0, ())), ((1, UC79), (b2, (b3, (b4, (b5, ((r1.2.1.1, (r1.2.1.2.1, ((), r1.2.1.2.2.2))), (r1.2.2.1, ()))))))))) fun q2 =>
      (bif (q2.2.2.1.1 == 1) then
        some (true, ((0, UC79), (q2.2.2.2.1, (q2.2.2.2.2.1, (q2.2.2.2.2.2.1, (q2.2.2.2.2.2.2.1, ((q2.2.2.2.2.2.2.2.1.1, (q2.2.2.2.2.2.2.2.1.2.1, ((), q2.2.2.2.2.2.2.2.1.2.2.2))), (q2.2.2.2.2.2.2.2.2.1, ()))))))))
        else
        none))))
  (fun _ => none))
abbrev G22_CS : CSpec := ⟨[.fix (.yref 0), .dat (.int .i64)], [.lp 22 0 (.cons (.any) (.cons (.any) (.cons (.any) (.cons (.any) (.cons (.any) (.cons (.any) (.cons (.any) (.cons (.any) (.cons (.fix (.bptr 1 [])) (.cons (.fix (.bptr 2 [])) (.cons (.any) (.cons (.any) (.cons (.fix (.bptr 3 [])) (.cons (.any) (.cons (.fix (.bptr 4 [])) (.cons (.fix (.bptr 5 [])) AN63)))))))))))))))), .dat (.int .i64), .dat (.int .i64), .fix (.bptr 6 []), .cons (.dat (.int .i64)) (.cons (.dat (.int .i64)) (.nil)), .dat .bool, .cons (.dat T23) (.cons (.dat (.list T71)) (.cons (.fix (.mref 7)) (.nil))), .map T58 T91], 0, [.lp 22 0 (.cons (.any) (.cons (.any) (.cons (.any) (.cons (.any) (.cons (.any) (.cons (.any) (.cons (.any) (.cons (.any) (.cons (.fix (.bptr 1 [])) (.cons (.fix (.bptr 2 [])) (.cons (.any) (.cons (.any) (.cons (.fix (.bptr 3 [])) (.cons (.any) (.cons (.fix (.bptr 4 [])) (.cons (.fix (.bptr 5 [])) AN63)))))))))))))))), .dat (.int .i64), .dat (.int .i64), .fix (.bptr 6 []), .cons (.dat (.int .i64)) (.cons (.dat (.int .i64)) (.nil)), .dat .bool, .cons (.dat T23) (.cons (.dat (.list T71)) (.cons (.fix (.mref 7)) (.nil))), .map T58 T91], 0, .dat .bool⟩
noncomputable def G22_E : CEnt := boxE YLD G22_CS fun x => G22 x.1.1 x.2.1 x.2.2.1 x.2.2.2.1 x.2.2.2.2.1 x.2.2.2.2.2.1 x.2.2.2.2.2.2.1 x.2.2.2.2.2.2.2.1
theorem G22_l0_V : LValid 8 Tryz.prog (.loop G22_l0_c) G22_l0_L true := by
  have hb : ∀ s, codeR Tryz.prog G22_C G22_l0_c [] (G22_l0_S.encE s) (G22_l0_S.encB s) (kst G22_l0_S [.exit 2]) = G22_l0_step s := by
    intro s; kernel_rfl
  have hL : LV 8 Tryz.prog true (loopsOf G22_l0_c) [] := by unfold LV; cases loopsOf G22_l0_c <;> trivial
  exact loopT_valid (fuel := G22_l0_fuel) mixed G22_CV hL (by kernel_rfl) (by decide) rfl hb (fun s r h => h)
theorem G22_LV : LV 8 Tryz.prog true (loopsOf (rfBody (lcode 22 0))) [G22_l0_L] := by
  have hl : loopsOf (rfBody (lcode 22 0)) = [.loop G22_l0_c] := by kernel_rfl
  rw [hl]; exact ⟨G22_l0_V, trivial⟩
theorem G22_hev : ∀ x : G22_CS.In, roundR Tryz.prog G22_C [G22_l0_L] 22 0 (encs G22_CS.A x.1) ⟨encs G22_CS.I x.2, [], G22_CS.nt⟩ (finK G22_CS) = G22 x.1.1 x.2.1 x.2.2.1 x.2.2.2.1 x.2.2.2.2.1 x.2.2.2.2.2.1 x.2.2.2.2.2.2.1 x.2.2.2.2.2.2.2.1 := by
  intro x; kernel_rfl
theorem G22_valid : G22_E.Valid Tryz.prog :=
  boxE_valid (S := G22_CS) (by kernel_rfl) (.inl rfl) (rd_lcall' (S := G22_CS) mixed G22_CV (by kernel_rfl) G22_LV ⟨_, rfl⟩ (by decide) (by kernel_rfl) (by kernel_rfl) G22_hev)
abbrev G75_v2_CS : CSpec := ⟨[.dat (.int .i64), .dat (.int .i64), .dat (.int .i64), .fix (.bptr 0 []), .fix (.bptr 1 []), .fix (.bptr 2 [])], [.fix (.bptr 3 []), .fix (.yref 4), .fix (.func (.func 75) .nil (.cons (.bptr 0 []) (.cons (.bptr 1 []) (.cons (.bptr 2 []) .nil)))), .cons (.dat T23) (.cons (.dat (.list T71)) (.cons (.fix (.mref 5)) (.nil))), .lp 22 0 (.cons (.any) (.cons (.any) (.cons (.any) (.cons (.any) (.cons (.any) (.cons (.any) (.cons (.any) (.cons (.any) (.cons (.fix (.bptr 6 [])) (.cons (.fix (.bptr 7 [])) (.cons (.any) (.cons (.any) (.cons (.fix (.bptr 8 [])) (.cons (.any) (.cons (.fix (.bptr 9 [])) (.cons (.fix (.bptr 10 [])) AN63)))))))))))))))), .map T58 T91, .dat (.int .i64), .dat (.int .i64), .fix (.bptr 3 []), .cons (.dat (.int .i64)) (.cons (.dat (.int .i64)) (.nil)), .dat .bool], 0, [.fix (.bptr 3 []), .fix (.yref 4), .fix (.func (.func 75) .nil (.cons (.bptr 0 []) (.cons (.bptr 1 []) (.cons (.bptr 2 []) .nil)))), .cons (.dat T23) (.cons (.dat (.list T71)) (.cons (.fix (.mref 5)) (.nil))), .lp 22 0 (.cons (.any) (.cons (.any) (.cons (.any) (.cons (.any) (.cons (.any) (.cons (.any) (.cons (.any) (.cons (.any) (.cons (.fix (.bptr 6 [])) (.cons (.fix (.bptr 7 [])) (.cons (.any) (.cons (.any) (.cons (.fix (.bptr 8 [])) (.cons (.any) (.cons (.fix (.bptr 9 [])) (.cons (.fix (.bptr 10 [])) AN63)))))))))))))))), .map T58 T91, .dat (.int .i64), .dat (.int .i64), .fix (.bptr 3 []), .cons (.dat (.int .i64)) (.cons (.dat (.int .i64)) (.nil)), .dat .bool], 0, .dat .bool⟩
abbrev G75_v2_RT : Type := G75_v2_CS.In → Option G75_v2_CS.Out
noncomputable def G75_v2_C (rc : G75_v2_RT) : CalT := tabC [G41_E, G22_E, G47_E, (boxE 75 G75_v2_CS rc)]
theorem G75_v2_CV (rc : G75_v2_RT) (hr : (boxE 75 G75_v2_CS rc).Valid Tryz.prog) : CV Tryz.prog (G75_v2_C rc) := tabC_valid (l := _) ⟨G41_valid, G22_valid, G47_valid, hr, trivial⟩
noncomputable def G75_v2_l0_c : Code := loopAt (bodyOf Tryz.f75) 0
abbrev PA71 : PTy := (.cons (.any) (.cons (.any) (.cons (.any) (.cons (.any) (.cons (.any) (.cons (.any) (.cons (.any) (.cons (.any) (.cons (.fix (.bptr 6 [])) (.cons (.fix (.bptr 7 [])) (.cons (.any) (.cons (.any) (.cons (.fix (.bptr 8 [])) (.cons (.any) (.cons (.fix (.bptr 9 [])) (.cons (.fix (.bptr 10 [])) AN63))))))))))))))))
noncomputable def G75_v2_l0_S : SPat := ⟨[.dat (.int .i64), .any, .dat (.int .i64), .fix (.bptr 0 []), .any, .fix (.bptr 2 []), .any, .any, .any, .dat .bool, .dat (.int .i64), .any, .any, .any, .any, .any, .any, .any, .any, .any, .any, .any, .any, .any, .any, .any, .any, .any, .any, .any, .any, .any, .any, .any, .any, .any, .any, .any, .any, .any], [.fix (.bptr 3 []), .fix (.yref 4), .fix (.func (.func 75) .nil (.cons (.bptr 0 []) (.cons (.bptr 1 []) (.cons (.bptr 2 []) .nil)))), .cons (.dat T23) (.cons (.dat (.list T71)) (.cons (.fix (.mref 5)) (.nil))), .lp 22 0 PA71, .map T58 T91, .dat (.int .i64), .dat (.int .i64), .fix (.bptr 3 []), .cons (.dat (.int .i64)) (.cons (.dat (.int .i64)) (.nil)), .dat .bool], 0⟩
abbrev TY72 : Type := ((Int × (Int × (Bool × (Int × Unit)))) × ((E23 × ((List E71) × (Unit × Unit))) × ((Nat × UT79) × ((List (E58 × E91)) × (Int × (Int × ((Int × (Int × Unit)) × (Bool × Unit))))))))
abbrev TY73 : Type := (Nat × ((Int × (Int × (Bool × (Int × Unit)))) × ((E23 × ((List E71) × (Unit × Unit))) × ((Nat × UT79) × ((List (E58 × E91)) × (Int × (Int × ((Int × (Int × Unit)) × (Bool × Unit)))))))))
noncomputable def G75_v2_l0_step (rc : G75_v2_RT) (s : TY72) : Option TY73 :=
  (Option.bind (G47 (s.2.1.1, (s.2.1.2.1, ((), s.2.1.2.2.2)))) fun r3 =>
  (bif (decide (s.1.2.2.2.1 < r3)) then
    (bif (!decide (s.1.2.2.2.1 < 0)) then
      (Option.bind (rc (((IntKind.wrap .i64 (s.1.1 - 1)), ((IntKind.wrap .i64 (s.1.2.2.2.1 + 1)), ((IntKind.wrap .i64 ((BitVec.toNat ((BitVec.ofInt (IntKind.bits .i64) s.1.2.1) ||| (BitVec.ofInt (IntKind.bits .i64) (IntKind.wrap .i64 (1 * 2 ^ (min (Int.toNat s.1.2.2.2.1) (IntKind.bits .i64)))))) : Nat) : Int)), ()))), ((s.2.1.1, (s.2.1.2.1, ((), s.2.1.2.2.2))), ((s.2.2.1.1, UC79), (s.2.2.2.1, (s.2.2.2.2.1, (s.2.2.2.2.2.1, (s.2.2.2.2.2.2.1, (s.2.2.2.2.2.2.2.1, ()))))))))) fun r4 =>
        (bif (!r4.1) then
          some (1, ((s.1.1, (s.1.2.1, (false, (s.1.2.2.2.1, ())))), ((r4.2.1.1, (r4.2.1.2.1, ((), r4.2.1.2.2.2))), ((r4.2.2.1.1, UC79), (r4.2.2.2.1, (r4.2.2.2.2.1, (r4.2.2.2.2.2.1, (r4.2.2.2.2.2.2.1, (r4.2.2.2.2.2.2.2.1, ())))))))))
          else
          some (0, ((s.1.1, (s.1.2.1, (s.1.2.2.1, ((IntKind.wrap .i64 (s.1.2.2.2.1 + 1)), ())))), ((r4.2.1.1, (r4.2.1.2.1, ((), r4.2.1.2.2.2))), ((r4.2.2.1.1, UC79), (r4.2.2.2.1, (r4.2.2.2.2.1, (r4.2.2.2.2.2.1, (r4.2.2.2.2.2.2.1, (r4.2.2.2.2.2.2.2.1, ())))))))))))
      else
      none)
    else
    some (2, ((s.1.1, (s.1.2.1, (s.1.2.2.1, (s.1.2.2.2.1, ())))), ((s.2.1.1, (s.2.1.2.1, ((), s.2.1.2.2.2))), ((s.2.2.1.1, UC79), (s.2.2.2.1, (s.2.2.2.2.1, (s.2.2.2.2.2.1, (s.2.2.2.2.2.2.1, (s.2.2.2.2.2.2.2.1, ())))))))))))
noncomputable def G75_v2_l0_fuel (s : TY72) : Nat := 100000
noncomputable def G75_v2_l0_run (rc : G75_v2_RT) (s : TY72) : Option TY73 := iter (G75_v2_l0_step rc) (G75_v2_l0_fuel s) s
noncomputable def G75_v2_l0_L (rc : G75_v2_RT) : LoopT := loopT G75_v2_l0_S [.ret, .exit 0] (G75_v2_l0_run rc)
abbrev TY74 : Type := ((Nat × UT79) × ((List (E58 × E91)) × (Int × (Int × ((Int × (Int × Unit)) × (Bool × Unit))))))
noncomputable def G75_v2_b (rc : G75_v2_RT) (a0 : Int) (a1 : Int) (a2 : Int) (b3 : (E23 × ((List E71) × (Unit × Unit)))) (b4 : (Nat × UT79)) (b5 : (List (E58 × E91))) (b6 : Int) (b7 : Int) (b8 : (Int × (Int × Unit))) (b9 : Bool) : Option (Bool × ((E23 × ((List E71) × (Unit × Unit))) × TY74)) :=
  (bif (a0 == 0) then
  (Option.bind (G41 a2 (b3.1, (b3.2.1, ((), b3.2.2.2))) b5) fun r1 =>
    (bif (!r1.1) then
      some (true, ((r1.2.1.1, (r1.2.1.2.1, ((), r1.2.1.2.2.2))), ((b4.1, UC79), (r1.2.2.1, (b6, (b7, (b8, (b9, ()))))))))
      else
      (Option.bind (G22 a2 (b4.1, UC79) b6 b7 b8 b9 (r1.2.1.1, (r1.2.1.2.1, ((), r1.2.1.2.2.2))) r1.2.2.1) fun r2 =>
        some (r2.1, ((r2.2.2.2.2.2.2.1.1, (r2.2.2.2.2.2.2.1.2.1, ((), r2.2.2.2.2.2.2.1.2.2.2))), ((r2.2.1.1, UC79), (r2.2.2.2.2.2.2.2.1, (r2.2.2.1, (r2.2.2.2.1, (r2.2.2.2.2.1, (r2.2.2.2.2.2.1, ())))))))))))
  else
  (Option.bind (G75_v2_l0_run rc ((a0, (a2, (false, (a1, ())))), ((b3.1, (b3.2.1, ((), b3.2.2.2))), ((b4.1, UC79), (b5, (b6, (b7, (b8, (b9, ()))))))))) fun q5 =>
    (natK q5.1
      (some (q5.2.1.2.2.1, ((q5.2.2.1.1, (q5.2.2.1.2.1, ((), q5.2.2.1.2.2.2))), ((q5.2.2.2.1.1, UC79), (q5.2.2.2.2.1, (q5.2.2.2.2.2.1, (q5.2.2.2.2.2.2.1, (q5.2.2.2.2.2.2.2.1, (q5.2.2.2.2.2.2.2.2.1, ())))))))))
      (fun _ => some (true, ((q5.2.2.1.1, (q5.2.2.1.2.1, ((), q5.2.2.1.2.2.2))), ((q5.2.2.2.1.1, UC79), (q5.2.2.2.2.1, (q5.2.2.2.2.2.1, (q5.2.2.2.2.2.2.1, (q5.2.2.2.2.2.2.2.1, (q5.2.2.2.2.2.2.2.2.1, ()))))))))))))
noncomputable def G75_v2_fix : Nat → G75_v2_RT := recF fun rc x => G75_v2_b rc x.1.1 x.1.2.1 x.1.2.2.1 x.2.1 x.2.2.1 x.2.2.2.1 x.2.2.2.2.1 x.2.2.2.2.2.1 x.2.2.2.2.2.2.1 x.2.2.2.2.2.2.2.1
noncomputable def G75_v2 (a0 : Int) (a1 : Int) (a2 : Int) (b3 : (E23 × ((List E71) × (Unit × Unit)))) (b4 : (Nat × UT79)) (b5 : (List (E58 × E91))) (b6 : Int) (b7 : Int) (b8 : (Int × (Int × Unit))) (b9 : Bool) : Option (Bool × ((E23 × ((List E71) × (Unit × Unit))) × TY74)) := G75_v2_fix 64 ((a0, (a1, (a2, ()))), (b3, (b4, (b5, (b6, (b7, (b8, (b9, ()))))))))
noncomputable def G75_v2_E : CEnt := boxE 75 G75_v2_CS fun x => G75_v2 x.1.1 x.1.2.1 x.1.2.2.1 x.2.1 x.2.2.1 x.2.2.2.1 x.2.2.2.2.1 x.2.2.2.2.2.1 x.2.2.2.2.2.2.1 x.2.2.2.2.2.2.2.1
theorem G75_v2_l0_V (rc : G75_v2_RT) (hr : (boxE 75 G75_v2_CS rc).Valid Tryz.prog) : LValid 11 Tryz.prog (.loop G75_v2_l0_c) (G75_v2_l0_L rc) false := by
  have hb : ∀ s, codeR Tryz.prog (G75_v2_C rc) G75_v2_l0_c [] (G75_v2_l0_S.encE s) (G75_v2_l0_S.encB s) (kst G75_v2_l0_S [.ret, .exit 0]) = G75_v2_l0_step rc s := by
    intro s; kernel_rfl
  have hL : LV 11 Tryz.prog false (loopsOf G75_v2_l0_c) [] := by unfold LV; cases loopsOf G75_v2_l0_c <;> trivial
  exact loopT_valid (fuel := G75_v2_l0_fuel) mixed (G75_v2_CV rc hr) hL (by kernel_rfl) (by decide) rfl hb (fun s r h => h)
theorem G75_v2_LV (rc : G75_v2_RT) (hr : (boxE 75 G75_v2_CS rc).Valid Tryz.prog) : LV 11 Tryz.prog false (loopsOf (bodyOf Tryz.f75)) [(G75_v2_l0_L rc)] := by
  have hl : loopsOf (bodyOf Tryz.f75) = [.loop G75_v2_l0_c] := by kernel_rfl
  rw [hl]; exact ⟨G75_v2_l0_V rc hr, trivial⟩
theorem G75_v2_ent : Ent Tryz.prog 75 := ⟨by decide, enters_of Tryz.func75 (by kernel_rfl) rfl⟩
theorem G75_v2_hev (rc : G75_v2_RT) : ∀ x : G75_v2_CS.In, fnR Tryz.prog (G75_v2_C rc) [(G75_v2_l0_L rc)] Tryz.f75 (bodyOf Tryz.f75) (encs G75_v2_CS.A x.1) ⟨encs G75_v2_CS.I x.2, [], G75_v2_CS.nt⟩ (finK G75_v2_CS) = G75_v2_b rc x.1.1 x.1.2.1 x.1.2.2.1 x.2.1 x.2.2.1 x.2.2.2.1 x.2.2.2.2.1 x.2.2.2.2.2.1 x.2.2.2.2.2.2.1 x.2.2.2.2.2.2.2.1 := by
  intro x; kernel_rfl
theorem G75_v2_valid : G75_v2_E.Valid Tryz.prog :=
  rec_valid (S := G75_v2_CS) (body := fun rc x => G75_v2_b rc x.1.1 x.1.2.1 x.1.2.2.1 x.2.1 x.2.2.1 x.2.2.2.1 x.2.2.2.2.1 x.2.2.2.2.2.1 x.2.2.2.2.2.2.1 x.2.2.2.2.2.2.2.1) (by kernel_rfl) (.inr G75_v2_ent) (fun rc hr => fn_lcall (S := G75_v2_CS) mixed Tryz.func75 rfl G75_v2_ent (G75_v2_CV rc hr) (G75_v2_LV rc hr) (by kernel_rfl) (by kernel_rfl) (G75_v2_hev rc)) 64
noncomputable def G74_v4_C : CalT := tabC [G75_v2_E]
theorem G74_v4_CV : CV Tryz.prog G74_v4_C := tabC_valid (l := _) ⟨G75_v2_valid, trivial⟩
noncomputable def G74_v4_l0_c : Code := loopAt (bodyOf Tryz.f74) 0
noncomputable def G74_v4_l0_S : SPat := ⟨[.any, .any, .any, .any, .fix (.bptr 11 []), .any, .any, .any, .dat (.int .i64), .dat (.int .i64), .any, .any, .any, .any, .any, .any, .any], [.lp 22 0 PA63, .fix (.bptr 8 []), .dat (.int .i64), .dat (.int .i64), .dat (.int .i64), .fix (.bptr 8 []), .cons (.dat (.int .i64)) (.cons (.dat (.int .i64)) (.nil)), .dat .bool, .cons (.dat T23) (.cons (.dat (.list T71)) (.cons (.fix (.mref 9)) (.nil))), .map T58 T91, .fix (.yref 0), .fix (.func (.func 75) .nil (.cons (.bptr 1 []) (.cons (.bptr 10 []) (.cons (.bptr 11 []) .nil))))], 0⟩
abbrev TY75 : Type := ((Int × (Int × Unit)) × ((Nat × UT79) × (Int × (Int × (Int × ((Int × (Int × Unit)) × (Bool × ((E23 × ((List E71) × (Unit × Unit))) × ((List (E58 × E91)) × Unit)))))))))
abbrev TY76 : Type := (Nat × ((Int × (Int × Unit)) × ((Nat × UT79) × (Int × (Int × (Int × ((Int × (Int × Unit)) × (Bool × ((E23 × ((List E71) × (Unit × Unit))) × ((List (E58 × E91)) × Unit))))))))))
noncomputable def G74_v4_l0_step (s : TY75) : Option TY76 :=
  (bif (decide (s.1.2.1 < s.1.1)) then
  (Option.bind (G75_v2 s.1.2.1 0 0 (s.2.2.2.2.2.2.2.1.1, (s.2.2.2.2.2.2.2.1.2.1, ((), s.2.2.2.2.2.2.2.1.2.2.2))) (s.2.1.1, UC79) s.2.2.2.2.2.2.2.2.1 s.2.2.2.1 s.2.2.2.2.1 s.2.2.2.2.2.1 s.2.2.2.2.2.2.1) fun r1 =>
    (bif (!r1.1) then
      some (1, ((s.1.1, (s.1.2.1, ())), ((r1.2.2.1.1, UC79), (s.2.2.1, (r1.2.2.2.2.1, (r1.2.2.2.2.2.1, (r1.2.2.2.2.2.2.1, (r1.2.2.2.2.2.2.2.1, ((r1.2.1.1, (r1.2.1.2.1, ((), r1.2.1.2.2.2))), (r1.2.2.2.1, ()))))))))))
      else
      some (0, ((s.1.1, ((IntKind.wrap .i64 (s.1.2.1 + 1)), ())), ((r1.2.2.1.1, UC79), (s.2.2.1, (r1.2.2.2.2.1, (r1.2.2.2.2.2.1, (r1.2.2.2.2.2.2.1, (r1.2.2.2.2.2.2.2.1, ((r1.2.1.1, (r1.2.1.2.1, ((), r1.2.1.2.2.2))), (r1.2.2.2.1, ()))))))))))))
  else
  some (2, ((s.1.1, (s.1.2.1, ())), ((s.2.1.1, UC79), (s.2.2.1, (s.2.2.2.1, (s.2.2.2.2.1, (s.2.2.2.2.2.1, (s.2.2.2.2.2.2.1, ((s.2.2.2.2.2.2.2.1.1, (s.2.2.2.2.2.2.2.1.2.1, ((), s.2.2.2.2.2.2.2.1.2.2.2))), (s.2.2.2.2.2.2.2.2.1, ())))))))))))
noncomputable def G74_v4_l0_fuel (s : TY75) : Nat := Int.toNat (s.1.1 - s.1.2.1) + 1
noncomputable def G74_v4_l0_run (s : TY75) : Option TY76 := iter G74_v4_l0_step (G74_v4_l0_fuel s) s
noncomputable def G74_v4_l0_L : LoopT := loopT G74_v4_l0_S [.ret, .exit 0] G74_v4_l0_run
abbrev TY77 : Type := (Unit × ((Nat × UT79) × (Int × (Int × (Int × ((Int × (Int × Unit)) × (Bool × ((E23 × ((List E71) × (Unit × Unit))) × ((List (E58 × E91)) × Unit)))))))))
noncomputable def G74_v4 (b0 : (Nat × UT79)) (b1 : Int) (b2 : Int) (b3 : Int) (b4 : (Int × (Int × Unit))) (b5 : Bool) (b6 : (E23 × ((List E71) × (Unit × Unit)))) (b7 : (List (E58 × E91))) : Option TY77 :=
  (Option.bind (G74_v4_l0_run (((IntKind.wrap .i64 (b1 + 1)), (0, ())), ((b0.1, UC79), (b1, (b2, (b3, (b4, (b5, ((b6.1, (b6.2.1, ((), b6.2.2.2))), (b7, ())))))))))) fun q2 =>
  (natK q2.1
    (some ((), ((q2.2.2.1.1, UC79), (q2.2.2.2.1, (q2.2.2.2.2.1, (q2.2.2.2.2.2.1, (q2.2.2.2.2.2.2.1, (q2.2.2.2.2.2.2.2.1, ((q2.2.2.2.2.2.2.2.2.1.1, (q2.2.2.2.2.2.2.2.2.1.2.1, ((), q2.2.2.2.2.2.2.2.2.1.2.2.2))), (q2.2.2.2.2.2.2.2.2.2.1, ()))))))))))
    (fun _ => some ((), ((q2.2.2.1.1, UC79), (q2.2.2.2.1, (q2.2.2.2.2.1, (q2.2.2.2.2.2.1, (q2.2.2.2.2.2.2.1, (q2.2.2.2.2.2.2.2.1, ((q2.2.2.2.2.2.2.2.2.1.1, (q2.2.2.2.2.2.2.2.2.1.2.1, ((), q2.2.2.2.2.2.2.2.2.1.2.2.2))), (q2.2.2.2.2.2.2.2.2.2.1, ()))))))))))))
abbrev G74_v4_CS : CSpec := ⟨[.fix (.yref 0), .fix (.bptr 1 []), .fix (.bptr 2 [])], [.lp 22 0 (.cons (.any) (.cons (.any) (.cons (.any) (.cons (.any) (.cons (.any) (.cons (.any) (.cons (.any) (.cons (.any) (.cons (.fix (.bptr 3 [])) (.cons (.fix (.bptr 4 [])) (.cons (.any) (.cons (.any) (.cons (.fix (.bptr 5 [])) (.cons (.any) (.cons (.fix (.bptr 6 [])) (.cons (.fix (.bptr 7 [])) AN63)))))))))))))))), .fix (.bptr 8 []), .dat (.int .i64), .dat (.int .i64), .dat (.int .i64), .fix (.bptr 8 []), .cons (.dat (.int .i64)) (.cons (.dat (.int .i64)) (.nil)), .dat .bool, .cons (.dat T23) (.cons (.dat (.list T71)) (.cons (.fix (.mref 9)) (.nil))), .map T58 T91], 0, [.lp 22 0 (.cons (.any) (.cons (.any) (.cons (.any) (.cons (.any) (.cons (.any) (.cons (.any) (.cons (.any) (.cons (.any) (.cons (.fix (.bptr 3 [])) (.cons (.fix (.bptr 4 [])) (.cons (.any) (.cons (.any) (.cons (.fix (.bptr 5 [])) (.cons (.any) (.cons (.fix (.bptr 6 [])) (.cons (.fix (.bptr 7 [])) AN63)))))))))))))))), .fix (.bptr 8 []), .dat (.int .i64), .dat (.int .i64), .dat (.int .i64), .fix (.bptr 8 []), .cons (.dat (.int .i64)) (.cons (.dat (.int .i64)) (.nil)), .dat .bool, .cons (.dat T23) (.cons (.dat (.list T71)) (.cons (.fix (.mref 9)) (.nil))), .map T58 T91], 0, .tup (.nil)⟩
noncomputable def G74_v4_E : CEnt := boxE 74 G74_v4_CS fun x => G74_v4 x.2.1 x.2.2.1 x.2.2.2.1 x.2.2.2.2.1 x.2.2.2.2.2.1 x.2.2.2.2.2.2.1 x.2.2.2.2.2.2.2.1 x.2.2.2.2.2.2.2.2.1
theorem G74_v4_l0_V : LValid 10 Tryz.prog (.loop G74_v4_l0_c) G74_v4_l0_L false := by
  have hb : ∀ s, codeR Tryz.prog G74_v4_C G74_v4_l0_c [] (G74_v4_l0_S.encE s) (G74_v4_l0_S.encB s) (kst G74_v4_l0_S [.ret, .exit 0]) = G74_v4_l0_step s := by
    intro s; kernel_rfl
  have hL : LV 10 Tryz.prog false (loopsOf G74_v4_l0_c) [] := by unfold LV; cases loopsOf G74_v4_l0_c <;> trivial
  exact loopT_valid (fuel := G74_v4_l0_fuel) mixed G74_v4_CV hL (by kernel_rfl) (by decide) rfl hb (fun s r h => h)
theorem G74_v4_LV : LV 10 Tryz.prog false (loopsOf (bodyOf Tryz.f74)) [G74_v4_l0_L] := by
  have hl : loopsOf (bodyOf Tryz.f74) = [.loop G74_v4_l0_c] := by kernel_rfl
  rw [hl]; exact ⟨G74_v4_l0_V, trivial⟩
theorem G74_v4_ent : Ent Tryz.prog 74 := ⟨by decide, enters_of Tryz.func74 (by kernel_rfl) rfl⟩
theorem G74_v4_hev : ∀ x : G74_v4_CS.In, fnR Tryz.prog G74_v4_C [G74_v4_l0_L] Tryz.f74 (bodyOf Tryz.f74) (encs G74_v4_CS.A x.1) ⟨encs G74_v4_CS.I x.2, [], G74_v4_CS.nt⟩ (finK G74_v4_CS) = G74_v4 x.2.1 x.2.2.1 x.2.2.2.1 x.2.2.2.2.1 x.2.2.2.2.2.1 x.2.2.2.2.2.2.1 x.2.2.2.2.2.2.2.1 x.2.2.2.2.2.2.2.2.1 := by
  intro x; kernel_rfl
theorem G74_v4_valid : G74_v4_E.Valid Tryz.prog :=
  boxE_valid (S := G74_v4_CS) (by kernel_rfl) (.inr G74_v4_ent) (fn_lcall (S := G74_v4_CS) mixed Tryz.func74 rfl G74_v4_ent G74_v4_CV G74_v4_LV (by kernel_rfl) (by kernel_rfl) G74_v4_hev)
noncomputable def g22_sense_Where_C : CalT := tabC [G26_v4_E, G46_v1_E, G74_v3_E, G46_E, G74_v4_E]
theorem g22_sense_Where_CV : CV Tryz.prog g22_sense_Where_C := tabC_valid (l := _) ⟨G26_v4_valid, G46_v1_valid, G74_v3_valid, G46_valid, G74_v4_valid, trivial⟩
noncomputable def g22_sense_Where_f0_L : LoopT := rfT g22_sense_Where_C 22 0 (.tmp 33) [.normal]
noncomputable def g22_sense_Where (a0 : E23) (a1 : (List E71)) (a2 : Int) (a3 : Int) (a4 : Int) : Option (E58 × (Int × Unit)) :=
  (Option.bind (G26_v4 a0 a1 a2 a3 a0 a4) fun r1 =>
  (altK r1
    (fun r2 => (bif (r2.1.2.1 != 0) then
      some ((0, (0, ())), (r2.1.2.1, ()))
      else
      (Option.bind (G46_v1 r2.2.1) fun r4 =>
        (Option.bind (G74_v3 (0, UC79) r4.2.1 r2.2.2.1 r2.2.2.2.2.1 (0, (0, ())) false) fun r5 =>
          (bif (r5.2.1.1 == 0) then
            (bif (!r5.2.2.2.2.2.2.1) then
              some ((0, (0, ())), (5, ()))
              else
              some (r5.2.2.2.2.2.1, (0, ())))
            else
            none)))))
    (fun r3 => (bif (r3.1.2.1 != 0) then
      some ((0, (0, ())), (r3.1.2.1, ()))
      else
      (Option.bind (G46 r3.2.1 (r3.2.2.2.2.2.2.2.1.1, (r3.2.2.2.2.2.2.2.1.2.1, ((), r3.2.2.2.2.2.2.2.1.2.2.2))) r3.2.2.2.2.2.2.1) fun r6 =>
        (Option.bind (G74_v4 (0, UC79) r6.2.2.2.1 r3.2.2.1 r3.2.2.2.2.1 (0, (0, ())) false (r6.2.1.1, (r6.2.1.2.1, ((), r6.2.1.2.2.2))) r6.2.2.1) fun r7 =>
          (bif (r7.2.1.1 == 0) then
            (bif (!r7.2.2.2.2.2.2.1) then
              some ((0, (0, ())), (5, ()))
              else
              some (r7.2.2.2.2.2.1, (0, ())))
            else
            none)))))))
noncomputable def g22_sense_Where_E : CEnt := pureE 22 [.dat T23, .dat (.list T71), .dat (.int .i64), .dat (.int .i64), .dat (.int .i64)] (.tup (.cons (.dat T58) (.cons (.dat (.int .i64)) (.nil)))) fun x => g22_sense_Where x.1 x.2.1 x.2.2.1 x.2.2.2.1 x.2.2.2.2.1
theorem g22_sense_Where_f0_V : LValid 0 Tryz.prog (lcode 22 0) g22_sense_Where_f0_L := rfT_valid' g22_sense_Where_CV (by kernel_rfl)
theorem g22_sense_Where_LV : LV 0 Tryz.prog false (loopsOf (bodyOf Tryz.f22)) [g22_sense_Where_f0_L] := by
  have hl : loopsOf (bodyOf Tryz.f22) = [(lcode 22 0)] := by kernel_rfl
  rw [hl]; exact ⟨g22_sense_Where_f0_V, trivial⟩
theorem g22_sense_Where_ent : Ent Tryz.prog 22 := ⟨by decide, enters_of Tryz.func22 (by kernel_rfl) rfl⟩
theorem g22_sense_Where_hev : ∀ x, fnR Tryz.prog g22_sense_Where_C [g22_sense_Where_f0_L] Tryz.f22 (bodyOf Tryz.f22) (encs [.dat T23, .dat (.list T71), .dat (.int .i64), .dat (.int .i64), .dat (.int .i64)] x) ⟨[], [], 0⟩ (frzF (.tup (.cons (.dat T58) (.cons (.dat (.int .i64)) (.nil))))) = g22_sense_Where x.1 x.2.1 x.2.2.1 x.2.2.2.1 x.2.2.2.2.1 := by
  intro x; kernel_rfl
theorem g22_sense_Where_valid : g22_sense_Where_E.Valid Tryz.prog :=
  pureE_valid (by kernel_rfl) (by kernel_rfl) g22_sense_Where_ent (frz_lcall mixed Tryz.func22 rfl g22_sense_Where_ent g22_sense_Where_CV g22_sense_Where_LV (by kernel_rfl) (by kernel_rfl) g22_sense_Where_hev)
noncomputable def G27_C : CalT := tabC []
theorem G27_CV : CV Tryz.prog G27_C := tabC_valid (l := _) trivial
noncomputable def G27 (b0 : (E23 × ((List E71) × (Unit × Unit)))) (b1 : (List (E58 × E91))) : Option (Bool × ((E23 × ((List E71) × (Unit × Unit))) × ((List (E58 × E91)) × Unit))) :=
  some (true, ((b0.1, (b0.2.1, ((), b0.2.2.2))), (b1, ())))
abbrev G27_CS : CSpec := ⟨[.fix (.bptr 0 [])], [.cons (.dat T23) (.cons (.dat (.list T71)) (.cons (.fix (.mref 1)) (.nil))), .map T58 T91], 0, [.cons (.dat T23) (.cons (.dat (.list T71)) (.cons (.fix (.mref 1)) (.nil))), .map T58 T91], 0, .dat .bool⟩
noncomputable def G27_E : CEnt := boxE 27 G27_CS fun x => G27 x.2.1 x.2.2.1
theorem G27_LV : LV 2 Tryz.prog false (loopsOf (bodyOf Tryz.f27)) [] := by unfold LV; cases loopsOf (bodyOf Tryz.f27) <;> trivial
theorem G27_ent : Ent Tryz.prog 27 := ⟨by decide, enters_of Tryz.func27 (by kernel_rfl) rfl⟩
theorem G27_hev : ∀ x : G27_CS.In, fnR Tryz.prog G27_C [] Tryz.f27 (bodyOf Tryz.f27) (encs G27_CS.A x.1) ⟨encs G27_CS.I x.2, [], G27_CS.nt⟩ (finK G27_CS) = G27 x.2.1 x.2.2.1 := by
  intro x; kernel_rfl
theorem G27_valid : G27_E.Valid Tryz.prog :=
  boxE_valid (S := G27_CS) (by kernel_rfl) (.inr G27_ent) (fn_lcall (S := G27_CS) mixed Tryz.func27 rfl G27_ent G27_CV G27_LV (by kernel_rfl) (by kernel_rfl) G27_hev)
noncomputable def G26_v5_C : CalT := tabC [G57_E, G58_E, G27_E]
theorem G26_v5_CV : CV Tryz.prog G26_v5_C := tabC_valid (l := _) ⟨G57_valid, G58_valid, G27_valid, trivial⟩
noncomputable def G26_v5 (a0 : E23) (a1 : (List E71)) : Option (((Unit × (Int × Unit)) × Unit) ⊕ ((Unit × (Int × Unit)) × TY33)) :=
  (bif (decide ((List.length a1 : Int) > 24)) then
  some (Sum.inl (((), (3, ())), ()))
  else
  (Option.bind (G57 a0) fun r1 =>
    (bif (!r1) then
      some (Sum.inl (((), (2, ())), ()))
      else
      (Option.bind (G58 a1 a0) fun r2 =>
        (bif r2.1 then
          some (Sum.inl (((), (2, ())), ()))
          else
          (Option.bind (G27 (a0, (a1, ((), ()))) ([] : List (E58 × E91))) fun r3 =>
            (bif (!r3.1) then
              some (Sum.inl (((), (2, ())), ()))
              else
              some (Sum.inr (((), (0, ())), (r2.2.1, (r3.2.2.1, ((r3.2.1.1, (r3.2.1.2.1, ((), r3.2.1.2.2.2))), ()))))))))))))
abbrev G26_v5_CS : CSpec := ⟨[.dat T23, .dat (.list T71), .fix (.func (.func 27) .nil .nil)], [], 0, [], 0, .tup (.cons (.fix .pnil) (.cons (.dat (.int .i64)) (.nil)))⟩
abbrev G26_v5_O2 : List PTy := [.dat T23, .map T58 T91, .cons (.dat T23) (.cons (.dat (.list T71)) (.cons (.fix (.mref 1)) (.nil)))]
abbrev G26_v5_R2 : PTy := .tup (.cons (.fix (.bptr 2 [])) (.cons (.dat (.int .i64)) (.nil)))
noncomputable def G26_v5_E : CEnt := altE 26 G26_v5_CS G26_v5_O2 0 G26_v5_R2 fun x => G26_v5 x.1.1 x.1.2.1
theorem G26_v5_LV : LV 0 Tryz.prog false (loopsOf (bodyOf Tryz.f26)) [] := by unfold LV; cases loopsOf (bodyOf Tryz.f26) <;> trivial
theorem G26_v5_ent : Ent Tryz.prog 26 := ⟨by decide, enters_of Tryz.func26 (by kernel_rfl) rfl⟩
theorem G26_v5_hev : ∀ x : G26_v5_CS.In, fnR Tryz.prog G26_v5_C [] Tryz.f26 (bodyOf Tryz.f26) (encs G26_v5_CS.A x.1) ⟨encs G26_v5_CS.I x.2, [], G26_v5_CS.nt⟩ (finK2 G26_v5_CS G26_v5_O2 0 G26_v5_R2) = G26_v5 x.1.1 x.1.2.1 := by
  intro x; kernel_rfl
theorem G26_v5_valid : G26_v5_E.Valid Tryz.prog :=
  altE_valid (S := G26_v5_CS) (by kernel_rfl) (by kernel_rfl) (.inr G26_v5_ent) (alt_lcall (S := G26_v5_CS) mixed Tryz.func26 rfl G26_v5_ent G26_v5_CV G26_v5_LV (by kernel_rfl) (by kernel_rfl) (by kernel_rfl) (by kernel_rfl) G26_v5_hev)
noncomputable def G62_C : CalT := tabC []
theorem G62_CV : CV Tryz.prog G62_C := tabC_valid (l := _) trivial
noncomputable def G62_l0_c : Code := loopAt (bodyOf Tryz.f62) 0
noncomputable def G62_l1_c : Code := loopAt G62_l0_c 0
noncomputable def G62_l1_S : SPat := ⟨[.any, .any, .any, .dat (.int .i64), .dat (.int .i64), .any, .any, .any, .any, .dat (.list .str), .dat (.int .i64), .dat (.int .i64), .any, .any, .any, .any, .fix (.bptr 0 []), .any, .any, .any, .any, .any, .any, .any, .any, .any, .any, .any, .any, .any, .any, .any, .any, .any, .any], [.siter], 0⟩
abbrev TY78 : Type := ((Int × (Int × ((List ByteArray) × (Int × (Int × Unit))))) × ((ByteArray × Nat) × Unit))
abbrev TY79 : Type := (Nat × ((Int × (Int × ((List ByteArray) × (Int × (Int × Unit))))) × ((ByteArray × Nat) × Unit)))
noncomputable def G62_l1_step (s : TY78) : Option TY79 :=
  (bif (decide (s.2.1.2 < ByteArray.size s.2.1.1)) then
  some (0, (((IntKind.wrap .i64 (s.1.1 + (IntKind.wrap .i64 ((IntKind.wrap .i64 (s.1.2.1 + 1)) * (IntKind.wrap .i64 (IntKind.wrap .i32 (((Utf8.decode s.2.1.1 s.2.1.2).1 : Int) - 48))))))), ((IntKind.wrap .i64 (s.1.2.1 + 1)), (s.1.2.2.1, (s.1.2.2.2.1, (s.1.2.2.2.2.1, ()))))), ((s.2.1.1, (s.2.1.2 + (Utf8.decode s.2.1.1 s.2.1.2).2)), ())))
  else
  some (1, ((s.1.1, (s.1.2.1, (s.1.2.2.1, (s.1.2.2.2.1, (s.1.2.2.2.2.1, ()))))), (s.2.1, ()))))
noncomputable def G62_l1_fuel (s : TY78) : Nat := Int.toNat (ByteArray.size s.2.1.1 - s.2.1.2) + 1
noncomputable def G62_l1_run (s : TY78) : Option TY79 := iter G62_l1_step (G62_l1_fuel s) s
noncomputable def G62_l1_L : LoopT := loopT G62_l1_S [.exit 2] G62_l1_run
noncomputable def G62_l0_S : SPat := ⟨[.any, .any, .any, .dat (.int .i64), .dat (.int .i64), .any, .any, .any, .any, .dat (.list .str), .dat (.int .i64), .dat (.int .i64), .any, .any, .any, .any, .any, .any, .any, .any, .any, .any, .any, .any, .any, .any, .any, .any, .any, .any, .any, .any, .any, .any, .any], [], 0⟩
abbrev TY80 : Type := (Nat × ((Int × (Int × ((List ByteArray) × (Int × (Int × Unit))))) × Unit))
noncomputable def G62_l0_step (s : ((Int × (Int × ((List ByteArray) × (Int × (Int × Unit))))) × Unit)) : Option TY80 :=
  (bif (decide (s.1.2.2.2.2.1 < s.1.2.2.2.1)) then
  (bif (decide (0 ≤ s.1.2.2.2.2.1) && decide (s.1.2.2.2.2.1 < (List.length s.1.2.2.1 : Int))) then
    (Option.bind (G62_l1_run ((s.1.1, (s.1.2.1, (s.1.2.2.1, (s.1.2.2.2.1, (s.1.2.2.2.2.1, ()))))), (((List.getD s.1.2.2.1 (Int.toNat s.1.2.2.2.2.1) (⟨#[]⟩ : ByteArray)), 0), ()))) fun q1 =>
      some (0, ((q1.2.1.1, (q1.2.1.2.1, (q1.2.1.2.2.1, (q1.2.1.2.2.2.1, ((IntKind.wrap .i64 (q1.2.1.2.2.2.2.1 + 1)), ()))))), ())))
    else
    none)
  else
  some (1, ((s.1.1, (s.1.2.1, (s.1.2.2.1, (s.1.2.2.2.1, (s.1.2.2.2.2.1, ()))))), ())))
noncomputable def G62_l0_fuel (s : ((Int × (Int × ((List ByteArray) × (Int × (Int × Unit))))) × Unit)) : Nat := Int.toNat (s.1.2.2.2.1 - s.1.2.2.2.2.1) + 1
noncomputable def G62_l0_run (s : ((Int × (Int × ((List ByteArray) × (Int × (Int × Unit))))) × Unit)) : Option TY80 := iter G62_l0_step (G62_l0_fuel s) s
noncomputable def G62_l0_L : LoopT := loopT G62_l0_S [.exit 0] G62_l0_run
noncomputable def G62 (a0 : (List ByteArray)) : Option ByteArray :=
  (Option.bind (G62_l0_run ((0, (0, (a0, ((List.length a0 : Int), (0, ()))))), ())) fun q2 =>
  some (Utf8.encode (IntKind.wrap .i32 (IntKind.wrap .i64 ((97 : Int) + (Int.tmod q2.2.1.1 23))))))
noncomputable def G62_E : CEnt := pureE 62 [.dat (.list .str)] (.dat .str) fun x => G62 x.1
theorem G62_l1_V : LValid 0 Tryz.prog (.loop G62_l1_c) G62_l1_L false := by
  have hb : ∀ s, codeR Tryz.prog G62_C G62_l1_c [] (G62_l1_S.encE s) (G62_l1_S.encB s) (kst G62_l1_S [.exit 2]) = G62_l1_step s := by
    intro s; kernel_rfl
  have hL : LV 0 Tryz.prog false (loopsOf G62_l1_c) [] := by unfold LV; cases loopsOf G62_l1_c <;> trivial
  exact loopT_valid (fuel := G62_l1_fuel) mixed G62_CV hL (by kernel_rfl) (by decide) rfl hb (fun s r h => h)
theorem G62_l0_V : LValid 0 Tryz.prog (.loop G62_l0_c) G62_l0_L false := by
  have hb : ∀ s, codeR Tryz.prog G62_C G62_l0_c [G62_l1_L] (G62_l0_S.encE s) (G62_l0_S.encB s) (kst G62_l0_S [.exit 0]) = G62_l0_step s := by
    intro s; kernel_rfl
  have hl : loopsOf G62_l0_c = [.loop G62_l1_c] := by kernel_rfl
  have hL : LV 0 Tryz.prog false (loopsOf G62_l0_c) [G62_l1_L] := by rw [hl]; exact ⟨G62_l1_V, trivial⟩
  exact loopT_valid (fuel := G62_l0_fuel) mixed G62_CV hL (by kernel_rfl) (by decide) rfl hb (fun s r h => h)
theorem G62_LV : LV 0 Tryz.prog false (loopsOf (bodyOf Tryz.f62)) [G62_l0_L] := by
  have hl : loopsOf (bodyOf Tryz.f62) = [.loop G62_l0_c] := by kernel_rfl
  rw [hl]; exact ⟨G62_l0_V, trivial⟩
theorem G62_ent : Ent Tryz.prog 62 := ⟨by decide, enters_of Tryz.func62 (by kernel_rfl) rfl⟩
theorem G62_hev : ∀ x, fnR Tryz.prog G62_C [G62_l0_L] Tryz.f62 (bodyOf Tryz.f62) (encs [.dat (.list .str)] x) ⟨[], [], 0⟩ (frzF (.dat .str)) = G62 x.1 := by
  intro x; kernel_rfl
theorem G62_valid : G62_E.Valid Tryz.prog :=
  pureE_valid (by kernel_rfl) (by kernel_rfl) G62_ent (frz_lcall mixed Tryz.func62 rfl G62_ent G62_CV G62_LV (by kernel_rfl) (by kernel_rfl) G62_hev)
noncomputable def G28_C : CalT := tabC [itoaM_E, joinM_E, G62_E]
theorem G28_CV : CV Tryz.prog G28_C := tabC_valid (l := _) ⟨itoaM_valid, joinM_valid, G62_valid, trivial⟩
noncomputable def G28_l0_c : Code := loopAt (bodyOf Tryz.f28) 0
noncomputable def G28_l0_S : SPat := ⟨[.dat .str, .any, .any, .any, .any, .own 0 .str, .any, .any, .dat (.list (.int .i64)), .dat (.int .i64), .dat (.int .i64), .any, .any, .any, .any, .any, .any, .any, .any, .any, .any, .any, .any, .any, .any, .any, .any, .any, .any, .any], [], 1⟩
abbrev TY81 : Type := (Nat × ((ByteArray × ((List ByteArray) × ((List Int) × (Int × (Int × Unit))))) × Unit))
noncomputable def G28_l0_step (s : ((ByteArray × ((List ByteArray) × ((List Int) × (Int × (Int × Unit))))) × Unit)) : Option TY81 :=
  (bif (decide (s.1.2.2.2.2.1 < s.1.2.2.2.1)) then
  (bif (decide (0 ≤ s.1.2.2.2.2.1) && decide (s.1.2.2.2.2.1 < (List.length s.1.2.2.1 : Int))) then
    (Option.bind (itoaM (List.getD s.1.2.2.1 (Int.toNat s.1.2.2.2.2.1) 0)) fun r1 =>
      (bif (decide (List.length s.1.2.1 + List.length [r1] ≤ LIM)) then
        some (0, ((s.1.1, ((s.1.2.1 ++ [r1]), (s.1.2.2.1, (s.1.2.2.2.1, ((IntKind.wrap .i64 (s.1.2.2.2.2.1 + 1)), ()))))), ()))
        else
        none))
    else
    none)
  else
  some (1, ((s.1.1, (s.1.2.1, (s.1.2.2.1, (s.1.2.2.2.1, (s.1.2.2.2.2.1, ()))))), ())))
noncomputable def G28_l0_fuel (s : ((ByteArray × ((List ByteArray) × ((List Int) × (Int × (Int × Unit))))) × Unit)) : Nat := Int.toNat (s.1.2.2.2.1 - s.1.2.2.2.2.1) + 1
noncomputable def G28_l0_run (s : ((ByteArray × ((List ByteArray) × ((List Int) × (Int × (Int × Unit))))) × Unit)) : Option TY81 := iter G28_l0_step (G28_l0_fuel s) s
noncomputable def G28_l0_L : LoopT := loopT G28_l0_S [.exit 0] G28_l0_run
noncomputable def G28 (a0 : ByteArray) (a1 : (List Int)) : Option ByteArray :=
  (Option.bind (G28_l0_run ((a0, ([], (a1, ((List.length a1 : Int), (0, ()))))), ())) fun q2 =>
  (bif (decide (ByteArray.size q2.2.1.1 + ByteArray.size (⟨#[32]⟩ : ByteArray) ≤ LIM)) then
    (Option.bind (joinM q2.2.1.2.1 (⟨#[32]⟩ : ByteArray)) fun r3 =>
      (bif (decide (ByteArray.size (ByteArray.append q2.2.1.1 (⟨#[32]⟩ : ByteArray)) + ByteArray.size r3 ≤ LIM)) then
        (bif (decide (ByteArray.size (ByteArray.append (ByteArray.append q2.2.1.1 (⟨#[32]⟩ : ByteArray)) r3) + ByteArray.size (⟨#[32]⟩ : ByteArray) ≤ LIM)) then
          (Option.bind (G62 q2.2.1.2.1) fun r4 =>
            (bif (decide (ByteArray.size (ByteArray.append (ByteArray.append (ByteArray.append q2.2.1.1 (⟨#[32]⟩ : ByteArray)) r3) (⟨#[32]⟩ : ByteArray)) + ByteArray.size r4 ≤ LIM)) then
              (bif (decide (ByteArray.size (ByteArray.append (ByteArray.append (ByteArray.append (ByteArray.append q2.2.1.1 (⟨#[32]⟩ : ByteArray)) r3) (⟨#[32]⟩ : ByteArray)) r4) + ByteArray.size (⟨#[10]⟩ : ByteArray) ≤ LIM)) then
                some (ByteArray.append (ByteArray.append (ByteArray.append (ByteArray.append (ByteArray.append q2.2.1.1 (⟨#[32]⟩ : ByteArray)) r3) (⟨#[32]⟩ : ByteArray)) r4) (⟨#[10]⟩ : ByteArray))
                else
                none)
              else
              none))
          else
          none)
        else
        none))
    else
    none))
noncomputable def G28_E : CEnt := pureE 28 [.dat .str, .dat (.list (.int .i64))] (.dat .str) fun x => G28 x.1 x.2.1
theorem G28_l0_V : LValid 0 Tryz.prog (.loop G28_l0_c) G28_l0_L false := by
  have hb : ∀ s, codeR Tryz.prog G28_C G28_l0_c [] (G28_l0_S.encE s) (G28_l0_S.encB s) (kst G28_l0_S [.exit 0]) = G28_l0_step s := by
    intro s; kernel_rfl
  have hL : LV 0 Tryz.prog false (loopsOf G28_l0_c) [] := by unfold LV; cases loopsOf G28_l0_c <;> trivial
  exact loopT_valid (fuel := G28_l0_fuel) mixed G28_CV hL (by kernel_rfl) (by decide) rfl hb (fun s r h => h)
theorem G28_LV : LV 0 Tryz.prog false (loopsOf (bodyOf Tryz.f28)) [G28_l0_L] := by
  have hl : loopsOf (bodyOf Tryz.f28) = [.loop G28_l0_c] := by kernel_rfl
  rw [hl]; exact ⟨G28_l0_V, trivial⟩
theorem G28_ent : Ent Tryz.prog 28 := ⟨by decide, enters_of Tryz.func28 (by kernel_rfl) rfl⟩
theorem G28_hev : ∀ x, fnR Tryz.prog G28_C [G28_l0_L] Tryz.f28 (bodyOf Tryz.f28) (encs [.dat .str, .dat (.list (.int .i64))] x) ⟨[], [], 0⟩ (frzF (.dat .str)) = G28 x.1 x.2.1 := by
  intro x; kernel_rfl
theorem G28_valid : G28_E.Valid Tryz.prog :=
  pureE_valid (by kernel_rfl) (by kernel_rfl) G28_ent (frz_lcall mixed Tryz.func28 rfl G28_ent G28_CV G28_LV (by kernel_rfl) (by kernel_rfl) G28_hev)
noncomputable def G8_C : CalT := tabC [G26_v5_E, G28_E]
theorem G8_CV : CV Tryz.prog G8_C := tabC_valid (l := _) ⟨G26_v5_valid, G28_valid, trivial⟩
noncomputable def G8_l0_c : Code := loopAt (bodyOf Tryz.f8) 0
noncomputable def G8_l1_c : Code := loopAt (bodyOf Tryz.f8) 1
noncomputable def G8_l0_S : SPat := ⟨[.any, .dat (.list T71), .any, .any, .any, .any, .any, .any, .dat .str, .any, .any, .any, .any, .any, .any, .any, .any, .any, .any, .any, .any, .any, .any, .any, .any, .any, .any, .any, .any, .any, .any, .any, .any, .any, .any, .any, .dat (.list (.int .i64)), .dat (.int .i64), .dat (.int .i64), .any, .any, .any, .any, .any, .any, .any, .any, .any, .any, .any, .any, .any, .any, .any, .any, .any, .any, .any, .any, .any, .any, .any, .any, .any, .any, .any, .any, .any, .any, .any, .any], [.dat T23], 0⟩
abbrev TY82 : Type := (((List E71) × (ByteArray × ((List Int) × (Int × (Int × Unit))))) × (E23 × Unit))
abbrev TY83 : Type := (Nat × (((List E71) × (ByteArray × ((List Int) × (Int × (Int × Unit))))) × (E23 × Unit)))
noncomputable def G8_l0_step (s : TY82) : Option TY83 :=
  (bif (decide (s.1.2.2.2.2.1 < s.1.2.2.2.1)) then
  (bif (decide (0 ≤ s.1.2.2.2.2.1) && decide (s.1.2.2.2.2.1 < (List.length s.1.2.2.1 : Int))) then
    (Option.bind (G28 (⟨#[115, 101, 110, 115, 111, 114]⟩ : ByteArray) [(List.getD s.1.2.2.1 (Int.toNat s.1.2.2.2.2.1) 0)]) fun r5 =>
      (bif (decide (ByteArray.size s.1.2.1 + ByteArray.size r5 ≤ LIM)) then
        some (0, ((s.1.1, ((ByteArray.append s.1.2.1 r5), (s.1.2.2.1, (s.1.2.2.2.1, ((IntKind.wrap .i64 (s.1.2.2.2.2.1 + 1)), ()))))), (s.2.1, ())))
        else
        none))
    else
    none)
  else
  some (1, ((s.1.1, (s.1.2.1, (s.1.2.2.1, (s.1.2.2.2.1, (s.1.2.2.2.2.1, ()))))), (s.2.1, ()))))
noncomputable def G8_l0_fuel (s : TY82) : Nat := Int.toNat (s.1.2.2.2.1 - s.1.2.2.2.2.1) + 1
noncomputable def G8_l0_run (s : TY82) : Option TY83 := iter G8_l0_step (G8_l0_fuel s) s
noncomputable def G8_l0_L : LoopT := loopT G8_l0_S [.exit 0] G8_l0_run
noncomputable def G8_l1_S : SPat := ⟨[.any, .dat (.list T71), .any, .any, .any, .any, .any, .any, .dat .str, .any, .any, .any, .any, .any, .any, .any, .any, .any, .any, .any, .any, .any, .any, .any, .any, .any, .any, .any, .any, .any, .any, .any, .any, .any, .any, .any, .any, .any, .any, .any, .any, .any, .any, .any, .any, .any, .any, .any, .dat (.list T71), .dat (.int .i64), .dat (.int .i64), .any, .any, .any, .any, .any, .any, .any, .any, .any, .any, .any, .any, .any, .any, .any, .any, .any, .any, .any, .any], [.dat T23], 0⟩
abbrev TY84 : Type := (((List E71) × (ByteArray × ((List E71) × (Int × (Int × Unit))))) × (E23 × Unit))
abbrev TY85 : Type := (Nat × (((List E71) × (ByteArray × ((List E71) × (Int × (Int × Unit))))) × (E23 × Unit)))
noncomputable def G8_l1_step (s : TY84) : Option TY85 :=
  (bif (decide (s.1.2.2.2.2.1 < s.1.2.2.2.1)) then
  (bif (decide (0 ≤ s.1.2.2.2.2.1) && decide (s.1.2.2.2.2.1 < (List.length s.1.2.2.1 : Int))) then
    (Option.bind (G28 (⟨#[114, 101, 97, 100]⟩ : ByteArray) [(List.getD s.1.2.2.1 (Int.toNat s.1.2.2.2.2.1) (0, (0, (0, ())))).1, (List.getD s.1.2.2.1 (Int.toNat s.1.2.2.2.2.1) (0, (0, (0, ())))).2.1, (List.getD s.1.2.2.1 (Int.toNat s.1.2.2.2.2.1) (0, (0, (0, ())))).2.2.1]) fun r7 =>
      (bif (decide (ByteArray.size s.1.2.1 + ByteArray.size r7 ≤ LIM)) then
        some (0, ((s.1.1, ((ByteArray.append s.1.2.1 r7), (s.1.2.2.1, (s.1.2.2.2.1, ((IntKind.wrap .i64 (s.1.2.2.2.2.1 + 1)), ()))))), (s.2.1, ())))
        else
        none))
    else
    none)
  else
  some (1, ((s.1.1, (s.1.2.1, (s.1.2.2.1, (s.1.2.2.2.1, (s.1.2.2.2.2.1, ()))))), (s.2.1, ()))))
noncomputable def G8_l1_fuel (s : TY84) : Nat := Int.toNat (s.1.2.2.2.1 - s.1.2.2.2.2.1) + 1
noncomputable def G8_l1_run (s : TY84) : Option TY85 := iter G8_l1_step (G8_l1_fuel s) s
noncomputable def G8_l1_L : LoopT := loopT G8_l1_S [.exit 2] G8_l1_run
noncomputable def G8 (a0 : E23) (a1 : (List E71)) : Option (ByteArray × (Int × Unit)) :=
  (Option.bind (G26_v5 a0 a1) fun r1 =>
  (altK r1
    (fun r2 => (bif (r2.1.2.1 != 0) then
      some ((⟨#[]⟩ : ByteArray), (r2.1.2.1, ()))
      else
      (Option.bind (G28 (⟨#[115, 116, 114, 105, 110, 103]⟩ : ByteArray) [a0.1, a0.2.1, a0.2.2.1, a0.2.2.2.1, (List.length a0.2.2.2.2.1 : Int)]) fun r4 =>
        (Option.bind (G8_l0_run ((a1, (r4, (a0.2.2.2.2.1, ((List.length a0.2.2.2.2.1 : Int), (0, ()))))), (a0, ()))) fun q6 =>
          (Option.bind (G8_l1_run ((q6.2.1.1, (q6.2.1.2.1, (q6.2.1.1, ((List.length q6.2.1.1 : Int), (0, ()))))), (q6.2.2.1, ()))) fun q8 =>
            (Option.bind (G28 (⟨#[101, 110, 100]⟩ : ByteArray) [(List.length q8.2.1.1 : Int)]) fun r9 =>
              (bif (decide (ByteArray.size q8.2.1.2.1 + ByteArray.size r9 ≤ LIM)) then
                some ((ByteArray.append q8.2.1.2.1 r9), (0, ()))
                else
                none)))))))
    (fun r3 => (bif (r3.1.2.1 != 0) then
      some ((⟨#[]⟩ : ByteArray), (r3.1.2.1, ()))
      else
      (Option.bind (G28 (⟨#[115, 116, 114, 105, 110, 103]⟩ : ByteArray) [a0.1, a0.2.1, a0.2.2.1, a0.2.2.2.1, (List.length a0.2.2.2.2.1 : Int)]) fun r10 =>
        (Option.bind (G8_l0_run ((a1, (r10, (a0.2.2.2.2.1, ((List.length a0.2.2.2.2.1 : Int), (0, ()))))), (a0, ()))) fun q11 =>
          (Option.bind (G8_l1_run ((q11.2.1.1, (q11.2.1.2.1, (q11.2.1.1, ((List.length q11.2.1.1 : Int), (0, ()))))), (q11.2.2.1, ()))) fun q12 =>
            (Option.bind (G28 (⟨#[101, 110, 100]⟩ : ByteArray) [(List.length q12.2.1.1 : Int)]) fun r13 =>
              (bif (decide (ByteArray.size q12.2.1.2.1 + ByteArray.size r13 ≤ LIM)) then
                some ((ByteArray.append q12.2.1.2.1 r13), (0, ()))
                else
                none)))))))))
noncomputable def G8_E : CEnt := pureE 8 [.dat T23, .dat (.list T71)] (.tup (.cons (.dat .str) (.cons (.dat (.int .i64)) (.nil)))) fun x => G8 x.1 x.2.1
theorem G8_l0_V : LValid 0 Tryz.prog (.loop G8_l0_c) G8_l0_L false := by
  have hb : ∀ s, codeR Tryz.prog G8_C G8_l0_c [] (G8_l0_S.encE s) (G8_l0_S.encB s) (kst G8_l0_S [.exit 0]) = G8_l0_step s := by
    intro s; kernel_rfl
  have hL : LV 0 Tryz.prog false (loopsOf G8_l0_c) [] := by unfold LV; cases loopsOf G8_l0_c <;> trivial
  exact loopT_valid (fuel := G8_l0_fuel) mixed G8_CV hL (by kernel_rfl) (by decide) rfl hb (fun s r h => h)
theorem G8_l1_V : LValid 0 Tryz.prog (.loop G8_l1_c) G8_l1_L false := by
  have hb : ∀ s, codeR Tryz.prog G8_C G8_l1_c [] (G8_l1_S.encE s) (G8_l1_S.encB s) (kst G8_l1_S [.exit 2]) = G8_l1_step s := by
    intro s; kernel_rfl
  have hL : LV 0 Tryz.prog false (loopsOf G8_l1_c) [] := by unfold LV; cases loopsOf G8_l1_c <;> trivial
  exact loopT_valid (fuel := G8_l1_fuel) mixed G8_CV hL (by kernel_rfl) (by decide) rfl hb (fun s r h => h)
theorem G8_LV : LV 0 Tryz.prog false (loopsOf (bodyOf Tryz.f8)) [G8_l0_L, G8_l1_L] := by
  have hl : loopsOf (bodyOf Tryz.f8) = [.loop G8_l0_c, .loop G8_l1_c] := by kernel_rfl
  rw [hl]; exact ⟨G8_l0_V, G8_l1_V, trivial⟩
theorem G8_ent : Ent Tryz.prog 8 := ⟨by decide, enters_of Tryz.func8 (by kernel_rfl) rfl⟩
theorem G8_hev : ∀ x, fnR Tryz.prog G8_C [G8_l0_L, G8_l1_L] Tryz.f8 (bodyOf Tryz.f8) (encs [.dat T23, .dat (.list T71)] x) ⟨[], [], 0⟩ (frzF (.tup (.cons (.dat .str) (.cons (.dat (.int .i64)) (.nil))))) = G8 x.1 x.2.1 := by
  intro x; kernel_rfl
theorem G8_valid : G8_E.Valid Tryz.prog :=
  pureE_valid (by kernel_rfl) (by kernel_rfl) G8_ent (frz_lcall mixed Tryz.func8 rfl G8_ent G8_CV G8_LV (by kernel_rfl) (by kernel_rfl) G8_hev)
end Go.Proofs.YtibmgbalfhfcdaaGreatDoor.Abs
set_option linter.unusedVariables false
set_option maxRecDepth 100000
namespace Go.Proofs.YtibmgbalfhfcdaaGreatDoor.Abs
open Go.Shelf Go.Sort
noncomputable def G36_C : CalT := tabC []
theorem G36_CV : CV Tryz.prog G36_C := tabC_valid (l := _) trivial
noncomputable def G36_l0_c : Code := loopAt (bodyOf Tryz.f36) 0
noncomputable def G36_l0_S : SPat := ⟨[.dat (.list (.int .i64)), .dat (.list (.int .i64)), .any, .any, .dat .bool, .dat (.int .i64), .any, .any, .any, .any, .any, .any, .any, .any, .any, .any, .any, .any, .any, .any, .any, .any, .any, .any, .any, .any], [], 0⟩
noncomputable def G36_l0_step (s : (((List Int) × ((List Int) × (Bool × (Int × Unit)))) × Unit)) : Option (Nat × (((List Int) × ((List Int) × (Bool × (Int × Unit)))) × Unit)) :=
  (bif (decide (s.1.2.2.2.1 < (List.length s.1.1 : Int))) then
  (bif (decide (0 ≤ s.1.2.2.2.1) && decide (s.1.2.2.2.1 < (List.length s.1.1 : Int))) then
    (bif (decide (0 ≤ s.1.2.2.2.1) && decide (s.1.2.2.2.1 < (List.length s.1.2.1 : Int))) then
      (bif ((List.getD s.1.1 (Int.toNat s.1.2.2.2.1) 0) != (List.getD s.1.2.1 (Int.toNat s.1.2.2.2.1) 0)) then
        some (1, ((s.1.1, (s.1.2.1, (false, (s.1.2.2.2.1, ())))), ()))
        else
        some (0, ((s.1.1, (s.1.2.1, (s.1.2.2.1, ((IntKind.wrap .i64 (s.1.2.2.2.1 + 1)), ())))), ())))
      else
      none)
    else
    none)
  else
  some (2, ((s.1.1, (s.1.2.1, (s.1.2.2.1, (s.1.2.2.2.1, ())))), ())))
noncomputable def G36_l0_fuel (s : (((List Int) × ((List Int) × (Bool × (Int × Unit)))) × Unit)) : Nat := Int.toNat ((List.length s.1.1 : Int) - s.1.2.2.2.1) + 1
noncomputable def G36_l0_run (s : (((List Int) × ((List Int) × (Bool × (Int × Unit)))) × Unit)) : Option (Nat × (((List Int) × ((List Int) × (Bool × (Int × Unit)))) × Unit)) := iter G36_l0_step (G36_l0_fuel s) s
noncomputable def G36_l0_L : LoopT := loopT G36_l0_S [.ret, .exit 0] G36_l0_run
noncomputable def G36 (a0 : (List Int)) (a1 : (List Int)) : Option Bool :=
  (bif ((List.length a0 : Int) != (List.length a1 : Int)) then
  some false
  else
  (Option.bind (G36_l0_run ((a0, (a1, (false, (0, ())))), ())) fun q1 =>
    (natK q1.1
      (some q1.2.1.2.2.1)
      (fun _ => some true))))
noncomputable def G36_E : CEnt := pureE 36 [.dat (.list (.int .i64)), .dat (.list (.int .i64))] (.dat .bool) fun x => G36 x.1 x.2.1
theorem G36_l0_V : LValid 0 Tryz.prog (.loop G36_l0_c) G36_l0_L false := by
  have hb : ∀ s, codeR Tryz.prog G36_C G36_l0_c [] (G36_l0_S.encE s) (G36_l0_S.encB s) (kst G36_l0_S [.ret, .exit 0]) = G36_l0_step s := by
    intro s; kernel_rfl
  have hL : LV 0 Tryz.prog false (loopsOf G36_l0_c) [] := by unfold LV; cases loopsOf G36_l0_c <;> trivial
  exact loopT_valid (fuel := G36_l0_fuel) mixed G36_CV hL (by kernel_rfl) (by decide) rfl hb (fun s r h => h)
theorem G36_LV : LV 0 Tryz.prog false (loopsOf (bodyOf Tryz.f36)) [G36_l0_L] := by
  have hl : loopsOf (bodyOf Tryz.f36) = [.loop G36_l0_c] := by kernel_rfl
  rw [hl]; exact ⟨G36_l0_V, trivial⟩
theorem G36_ent : Ent Tryz.prog 36 := ⟨by decide, enters_of Tryz.func36 (by kernel_rfl) rfl⟩
theorem G36_hev : ∀ x, fnR Tryz.prog G36_C [G36_l0_L] Tryz.f36 (bodyOf Tryz.f36) (encs [.dat (.list (.int .i64)), .dat (.list (.int .i64))] x) ⟨[], [], 0⟩ (frzF (.dat .bool)) = G36 x.1 x.2.1 := by
  intro x; kernel_rfl
theorem G36_valid : G36_E.Valid Tryz.prog :=
  pureE_valid (by kernel_rfl) (by kernel_rfl) G36_ent (frz_lcall mixed Tryz.func36 rfl G36_ent G36_CV G36_LV (by kernel_rfl) (by kernel_rfl) G36_hev)
noncomputable def G56_C : CalT := tabC [G36_E]
theorem G56_CV : CV Tryz.prog G56_C := tabC_valid (l := _) ⟨G36_valid, trivial⟩
noncomputable def G56 (a0 : E46) (a1 : E46) : Option Bool :=
  (Option.bind (G36 a0.1 a1.1) fun r1 =>
  (bif r1 then
    (Option.bind (G36 a0.2.1 a1.2.1) fun r2 =>
      some r2)
    else
    some false))
noncomputable def G56_E : CEnt := pureE 56 [.dat T46, .dat T46] (.dat .bool) fun x => G56 x.1 x.2.1
theorem G56_LV : LV 0 Tryz.prog false (loopsOf (bodyOf Tryz.f56)) [] := by unfold LV; cases loopsOf (bodyOf Tryz.f56) <;> trivial
theorem G56_ent : Ent Tryz.prog 56 := ⟨by decide, enters_of Tryz.func56 (by kernel_rfl) rfl⟩
theorem G56_hev : ∀ x, fnR Tryz.prog G56_C [] Tryz.f56 (bodyOf Tryz.f56) (encs [.dat T46, .dat T46] x) ⟨[], [], 0⟩ (frzF (.dat .bool)) = G56 x.1 x.2.1 := by
  intro x; kernel_rfl
theorem G56_valid : G56_E.Valid Tryz.prog :=
  pureE_valid (by kernel_rfl) (by kernel_rfl) G56_ent (frz_lcall mixed Tryz.func56 rfl G56_ent G56_CV G56_LV (by kernel_rfl) (by kernel_rfl) G56_hev)
noncomputable def G23_C : CalT := tabC [G56_E]
theorem G23_CV : CV Tryz.prog G23_C := tabC_valid (l := _) ⟨G56_valid, trivial⟩
noncomputable def G23_l0_c : Code := loopAt (bodyOf Tryz.f23) 0
noncomputable def G23_l0_S : SPat := ⟨[.dat (.list T46), .dat (.list T46), .any, .any, .dat .bool, .dat (.int .i64), .any, .any, .any, .any, .any, .any, .any, .any, .any, .any, .any, .any, .any, .any, .any, .any, .any, .any, .any, .any, .any], [], 0⟩
noncomputable def G23_l0_step (s : (((List E46) × ((List E46) × (Bool × (Int × Unit)))) × Unit)) : Option (Nat × (((List E46) × ((List E46) × (Bool × (Int × Unit)))) × Unit)) :=
  (bif (decide (s.1.2.2.2.1 < (List.length s.1.1 : Int))) then
  (bif (decide (0 ≤ s.1.2.2.2.1) && decide (s.1.2.2.2.1 < (List.length s.1.1 : Int))) then
    (bif (decide (0 ≤ s.1.2.2.2.1) && decide (s.1.2.2.2.1 < (List.length s.1.2.1 : Int))) then
      (Option.bind (G56 (List.getD s.1.1 (Int.toNat s.1.2.2.2.1) ([], ([], ()))) (List.getD s.1.2.1 (Int.toNat s.1.2.2.2.1) ([], ([], ())))) fun r1 =>
        (bif (!r1) then
          some (1, ((s.1.1, (s.1.2.1, (false, (s.1.2.2.2.1, ())))), ()))
          else
          some (0, ((s.1.1, (s.1.2.1, (s.1.2.2.1, ((IntKind.wrap .i64 (s.1.2.2.2.1 + 1)), ())))), ()))))
      else
      none)
    else
    none)
  else
  some (2, ((s.1.1, (s.1.2.1, (s.1.2.2.1, (s.1.2.2.2.1, ())))), ())))
noncomputable def G23_l0_fuel (s : (((List E46) × ((List E46) × (Bool × (Int × Unit)))) × Unit)) : Nat := Int.toNat ((List.length s.1.1 : Int) - s.1.2.2.2.1) + 1
noncomputable def G23_l0_run (s : (((List E46) × ((List E46) × (Bool × (Int × Unit)))) × Unit)) : Option (Nat × (((List E46) × ((List E46) × (Bool × (Int × Unit)))) × Unit)) := iter G23_l0_step (G23_l0_fuel s) s
noncomputable def G23_l0_L : LoopT := loopT G23_l0_S [.ret, .exit 0] G23_l0_run
noncomputable def G23 (a0 : (List E46)) (a1 : (List E46)) : Option Bool :=
  (bif ((List.length a0 : Int) != (List.length a1 : Int)) then
  some false
  else
  (Option.bind (G23_l0_run ((a0, (a1, (false, (0, ())))), ())) fun q2 =>
    (natK q2.1
      (some q2.2.1.2.2.1)
      (fun _ => some true))))
noncomputable def G23_E : CEnt := pureE 23 [.dat (.list T46), .dat (.list T46)] (.dat .bool) fun x => G23 x.1 x.2.1
theorem G23_l0_V : LValid 0 Tryz.prog (.loop G23_l0_c) G23_l0_L false := by
  have hb : ∀ s, codeR Tryz.prog G23_C G23_l0_c [] (G23_l0_S.encE s) (G23_l0_S.encB s) (kst G23_l0_S [.ret, .exit 0]) = G23_l0_step s := by
    intro s; kernel_rfl
  have hL : LV 0 Tryz.prog false (loopsOf G23_l0_c) [] := by unfold LV; cases loopsOf G23_l0_c <;> trivial
  exact loopT_valid (fuel := G23_l0_fuel) mixed G23_CV hL (by kernel_rfl) (by decide) rfl hb (fun s r h => h)
theorem G23_LV : LV 0 Tryz.prog false (loopsOf (bodyOf Tryz.f23)) [G23_l0_L] := by
  have hl : loopsOf (bodyOf Tryz.f23) = [.loop G23_l0_c] := by kernel_rfl
  rw [hl]; exact ⟨G23_l0_V, trivial⟩
theorem G23_ent : Ent Tryz.prog 23 := ⟨by decide, enters_of Tryz.func23 (by kernel_rfl) rfl⟩
theorem G23_hev : ∀ x, fnR Tryz.prog G23_C [G23_l0_L] Tryz.f23 (bodyOf Tryz.f23) (encs [.dat (.list T46), .dat (.list T46)] x) ⟨[], [], 0⟩ (frzF (.dat .bool)) = G23 x.1 x.2.1 := by
  intro x; kernel_rfl
theorem G23_valid : G23_E.Valid Tryz.prog :=
  pureE_valid (by kernel_rfl) (by kernel_rfl) G23_ent (frz_lcall mixed Tryz.func23 rfl G23_ent G23_CV G23_LV (by kernel_rfl) (by kernel_rfl) G23_hev)
noncomputable def G24_C : CalT := tabC []
theorem G24_CV : CV Tryz.prog G24_C := tabC_valid (l := _) trivial
noncomputable def G24_l0_c : Code := loopAt (bodyOf Tryz.f24) 0
noncomputable def G24_l0_S : SPat := ⟨[.dat (.list (.int .i64)), .dat (.list (.int .i64)), .any, .any, .dat .bool, .dat (.int .i64), .any, .any, .any, .any, .any, .any, .any, .any, .any, .any, .any, .any, .any, .any, .any, .any, .any, .any, .any, .any], [], 0⟩
noncomputable def G24_l0_step (s : (((List Int) × ((List Int) × (Bool × (Int × Unit)))) × Unit)) : Option (Nat × (((List Int) × ((List Int) × (Bool × (Int × Unit)))) × Unit)) :=
  (bif (decide (s.1.2.2.2.1 < (List.length s.1.1 : Int))) then
  (bif (decide (0 ≤ s.1.2.2.2.1) && decide (s.1.2.2.2.1 < (List.length s.1.1 : Int))) then
    (bif (decide (0 ≤ s.1.2.2.2.1) && decide (s.1.2.2.2.1 < (List.length s.1.2.1 : Int))) then
      (bif ((List.getD s.1.1 (Int.toNat s.1.2.2.2.1) 0) != (List.getD s.1.2.1 (Int.toNat s.1.2.2.2.1) 0)) then
        some (1, ((s.1.1, (s.1.2.1, (false, (s.1.2.2.2.1, ())))), ()))
        else
        some (0, ((s.1.1, (s.1.2.1, (s.1.2.2.1, ((IntKind.wrap .i64 (s.1.2.2.2.1 + 1)), ())))), ())))
      else
      none)
    else
    none)
  else
  some (2, ((s.1.1, (s.1.2.1, (s.1.2.2.1, (s.1.2.2.2.1, ())))), ())))
noncomputable def G24_l0_fuel (s : (((List Int) × ((List Int) × (Bool × (Int × Unit)))) × Unit)) : Nat := Int.toNat ((List.length s.1.1 : Int) - s.1.2.2.2.1) + 1
noncomputable def G24_l0_run (s : (((List Int) × ((List Int) × (Bool × (Int × Unit)))) × Unit)) : Option (Nat × (((List Int) × ((List Int) × (Bool × (Int × Unit)))) × Unit)) := iter G24_l0_step (G24_l0_fuel s) s
noncomputable def G24_l0_L : LoopT := loopT G24_l0_S [.ret, .exit 0] G24_l0_run
noncomputable def G24 (a0 : (List Int)) (a1 : (List Int)) : Option Bool :=
  (bif ((List.length a0 : Int) != (List.length a1 : Int)) then
  some false
  else
  (Option.bind (G24_l0_run ((a0, (a1, (false, (0, ())))), ())) fun q1 =>
    (natK q1.1
      (some q1.2.1.2.2.1)
      (fun _ => some true))))
noncomputable def G24_E : CEnt := pureE 24 [.dat (.list (.int .i64)), .dat (.list (.int .i64))] (.dat .bool) fun x => G24 x.1 x.2.1
theorem G24_l0_V : LValid 0 Tryz.prog (.loop G24_l0_c) G24_l0_L false := by
  have hb : ∀ s, codeR Tryz.prog G24_C G24_l0_c [] (G24_l0_S.encE s) (G24_l0_S.encB s) (kst G24_l0_S [.ret, .exit 0]) = G24_l0_step s := by
    intro s; kernel_rfl
  have hL : LV 0 Tryz.prog false (loopsOf G24_l0_c) [] := by unfold LV; cases loopsOf G24_l0_c <;> trivial
  exact loopT_valid (fuel := G24_l0_fuel) mixed G24_CV hL (by kernel_rfl) (by decide) rfl hb (fun s r h => h)
theorem G24_LV : LV 0 Tryz.prog false (loopsOf (bodyOf Tryz.f24)) [G24_l0_L] := by
  have hl : loopsOf (bodyOf Tryz.f24) = [.loop G24_l0_c] := by kernel_rfl
  rw [hl]; exact ⟨G24_l0_V, trivial⟩
theorem G24_ent : Ent Tryz.prog 24 := ⟨by decide, enters_of Tryz.func24 (by kernel_rfl) rfl⟩
theorem G24_hev : ∀ x, fnR Tryz.prog G24_C [G24_l0_L] Tryz.f24 (bodyOf Tryz.f24) (encs [.dat (.list (.int .i64)), .dat (.list (.int .i64))] x) ⟨[], [], 0⟩ (frzF (.dat .bool)) = G24 x.1 x.2.1 := by
  intro x; kernel_rfl
theorem G24_valid : G24_E.Valid Tryz.prog :=
  pureE_valid (by kernel_rfl) (by kernel_rfl) G24_ent (frz_lcall mixed Tryz.func24 rfl G24_ent G24_CV G24_LV (by kernel_rfl) (by kernel_rfl) G24_hev)
noncomputable def G25_C : CalT := tabC [G36_E]
theorem G25_CV : CV Tryz.prog G25_C := tabC_valid (l := _) ⟨G36_valid, trivial⟩
noncomputable def G25 (a0 : E48) (a1 : E48) : Option Bool :=
  (Option.bind (G36 a0.1 a1.1) fun r1 =>
  (bif r1 then
    (Option.bind (G36 a0.2.1 a1.2.1) fun r2 =>
      (bif r2 then
        (Option.bind (G36 a0.2.2.1 a1.2.2.1) fun r3 =>
          some r3)
        else
        some false))
    else
    some false))
noncomputable def G25_E : CEnt := pureE 25 [.dat T48, .dat T48] (.dat .bool) fun x => G25 x.1 x.2.1
theorem G25_LV : LV 0 Tryz.prog false (loopsOf (bodyOf Tryz.f25)) [] := by unfold LV; cases loopsOf (bodyOf Tryz.f25) <;> trivial
theorem G25_ent : Ent Tryz.prog 25 := ⟨by decide, enters_of Tryz.func25 (by kernel_rfl) rfl⟩
theorem G25_hev : ∀ x, fnR Tryz.prog G25_C [] Tryz.f25 (bodyOf Tryz.f25) (encs [.dat T48, .dat T48] x) ⟨[], [], 0⟩ (frzF (.dat .bool)) = G25 x.1 x.2.1 := by
  intro x; kernel_rfl
theorem G25_valid : G25_E.Valid Tryz.prog :=
  pureE_valid (by kernel_rfl) (by kernel_rfl) G25_ent (frz_lcall mixed Tryz.func25 rfl G25_ent G25_CV G25_LV (by kernel_rfl) (by kernel_rfl) G25_hev)
noncomputable def G7_C : CalT := tabC [G16_E, G17_E, G15_E, G18_E, mM_E, g19_sense_Least_E, g21_sense_Known_E, g22_sense_Where_E, G8_E, G23_E, G24_E, G25_E]
theorem G7_CV : CV Tryz.prog G7_C := tabC_valid (l := _) ⟨G16_valid, G17_valid, G15_valid, G18_valid, mM_valid, g19_sense_Least_valid, g21_sense_Known_valid, g22_sense_Where_valid, G8_valid, G23_valid, G24_valid, G25_valid, trivial⟩
noncomputable def G7 : Option Bool :=
  (Option.bind G16 fun r1 =>
  (Option.bind G17 fun r2 =>
    (Option.bind (G15 r1 r2 ([0], ([], ()))) fun r3 =>
      (Option.bind G16 fun r4 =>
        (Option.bind G17 fun r5 =>
          (Option.bind (G15 r4 r5 ([], ([0], ()))) fun r6 =>
            (Option.bind G16 fun r7 =>
              (Option.bind G17 fun r8 =>
                (Option.bind (G18 r7 r8 ([1], ([0], ()))) fun r9 =>
                  (Option.bind G16 fun r10 =>
                    (Option.bind mM fun r11 =>
                      (Option.bind (g19_sense_Least r10 r11) fun r12 =>
                        (Option.bind G16 fun r13 =>
                          (Option.bind G17 fun r14 =>
                            (Option.bind (g21_sense_Known r13 r14 1) fun r15 =>
                              (Option.bind G16 fun r16 =>
                                (Option.bind mM fun r17 =>
                                  (Option.bind (g22_sense_Where r16 r17 1 0 20) fun r18 =>
                                    (Option.bind G16 fun r19 =>
                                      (Option.bind G17 fun r20 =>
                                        (Option.bind (G8 r19 r20) fun r21 =>
                                          (bif (r3.2.1 != 0) then
                                            some false
                                            else
                                            (bif (r6.2.1 != 0) then
                                              some false
                                              else
                                              (bif (r9.2.1 != 0) then
                                                some false
                                                else
                                                (bif (r12.2.1 != 0) then
                                                  some false
                                                  else
                                                  (bif (r15.2.1 != 0) then
                                                    some false
                                                    else
                                                    (bif (r18.2.1 != 0) then
                                                      some false
                                                      else
                                                      (bif (r21.2.1 != 0) then
                                                        some false
                                                        else
                                                        (Option.bind (G23 r12.1 [([0], ([], ())), ([], ([0], ()))]) fun r22 =>
                                                          (bif (!r22) then
                                                            some false
                                                            else
                                                            (Option.bind (G24 r15.1 [3, 1, 1, 1, 1]) fun r23 =>
                                                              (bif (!r23) then
                                                                some false
                                                                else
                                                                (bif r3.1 then
                                                                  (bif (!r6.1) then
                                                                    (Option.bind (G25 r9.1 ([2700, 2649], ([2, 0], ([0, (-2), 0], ())))) fun r24 =>
                                                                      (bif r24 then
                                                                        (bif ((r18.1.1 == 2699) && ((r18.1.2.1 == 2742) && true)) then
                                                                          some (ByteArray.toList r21.1 == ByteArray.toList (⟨#[115, 116, 114, 105, 110, 103, 32, 50, 32, 51, 32, 50, 32, 50, 32, 51, 32, 111, 10, 115, 101, 110, 115, 111, 114, 32, 48, 32, 97, 10, 115, 101, 110, 115, 111, 114, 32, 48, 32, 97, 10, 115, 101, 110, 115, 111, 114, 32, 49, 32, 98, 10, 114, 101, 97, 100, 32, 48, 32, 48, 32, 50, 55, 48, 48, 32, 108, 10, 114, 101, 97, 100, 32, 48, 32, 49, 48, 32, 50, 55, 50, 48, 32, 108, 10, 114, 101, 97, 100, 32, 49, 32, 48, 32, 50, 55, 48, 49, 32, 115, 10, 114, 101, 97, 100, 32, 49, 32, 49, 48, 32, 50, 55, 48, 50, 32, 111, 10, 114, 101, 97, 100, 32, 50, 32, 48, 32, 50, 54, 53, 48, 32, 108, 10, 114, 101, 97, 100, 32, 50, 32, 49, 48, 32, 50, 54, 53, 49, 32, 107, 10, 101, 110, 100, 32, 54, 32, 103, 10]⟩ : ByteArray))
                                                                          else
                                                                          some false)
                                                                        else
                                                                        some false))
                                                                    else
                                                                    some false)
                                                                  else
                                                                  some false)))))))))))))))))))))))))))))))))
noncomputable def G7_E : CEnt := pureE 7 [] (.dat .bool) fun x => G7
theorem G7_LV : LV 0 Tryz.prog false (loopsOf (bodyOf Tryz.f7)) [] := by unfold LV; cases loopsOf (bodyOf Tryz.f7) <;> trivial
theorem G7_ent : Ent Tryz.prog 7 := ⟨by decide, enters_of Tryz.func7 (by kernel_rfl) rfl⟩
theorem G7_hev : ∀ x, fnR Tryz.prog G7_C [] Tryz.f7 (bodyOf Tryz.f7) (encs [] x) ⟨[], [], 0⟩ (frzF (.dat .bool)) = G7 := by
  intro x; kernel_rfl
theorem G7_valid : G7_E.Valid Tryz.prog :=
  pureE_valid (by kernel_rfl) (by kernel_rfl) G7_ent (frz_lcall mixed Tryz.func7 rfl G7_ent G7_CV G7_LV (by kernel_rfl) (by kernel_rfl) G7_hev)
noncomputable def G63_C : CalT := tabC []
theorem G63_CV : CV Tryz.prog G63_C := tabC_valid (l := _) trivial
noncomputable def G63 (a0 : Int) (a1 : Int) (a2 : Int) : Option Bool :=
  (bif (decide (a0 ≥ a1)) then
  some (decide (a0 ≤ a2))
  else
  some false)
noncomputable def G63_E : CEnt := pureE 63 [.dat (.int .i64), .dat (.int .i64), .dat (.int .i64)] (.dat .bool) fun x => G63 x.1 x.2.1 x.2.2.1
theorem G63_LV : LV 0 Tryz.prog false (loopsOf (bodyOf Tryz.f63)) [] := by unfold LV; cases loopsOf (bodyOf Tryz.f63) <;> trivial
theorem G63_ent : Ent Tryz.prog 63 := ⟨by decide, enters_of Tryz.func63 (by kernel_rfl) rfl⟩
theorem G63_hev : ∀ x, fnR Tryz.prog G63_C [] Tryz.f63 (bodyOf Tryz.f63) (encs [.dat (.int .i64), .dat (.int .i64), .dat (.int .i64)] x) ⟨[], [], 0⟩ (frzF (.dat .bool)) = G63 x.1 x.2.1 x.2.2.1 := by
  intro x; kernel_rfl
theorem G63_valid : G63_E.Valid Tryz.prog :=
  pureE_valid (by kernel_rfl) (by kernel_rfl) G63_ent (frz_lcall mixed Tryz.func63 rfl G63_ent G63_CV G63_LV (by kernel_rfl) (by kernel_rfl) G63_hev)
noncomputable def G29_C : CalT := tabC [G63_E]
theorem G29_CV : CV Tryz.prog G29_C := tabC_valid (l := _) ⟨G63_valid, trivial⟩
noncomputable def G29_l0_c : Code := loopAt (bodyOf Tryz.f29) 0
noncomputable def G29_l0_S : SPat := ⟨[.any, .fix (.bptr 0 []), .dat .bool, .dat (.int .i64), .any, .any, .any, .any, .any, .any, .any, .any, .any, .any, .any, .any, .any, .any, .any, .any, .any, .any, .any, .any, .any, .any, .any, .any, .any, .any, .any, .any, .any, .any, .any, .any, .any, .any, .any, .any, .any, .any, .any, .any, .any], [.dat T23], 0⟩
noncomputable def G29_l0_step (s : ((Bool × (Int × Unit)) × (E23 × Unit))) : Option (Nat × ((Bool × (Int × Unit)) × (E23 × Unit))) :=
  (bif (decide (s.1.2.1 < (List.length s.2.1.2.2.2.2.1 : Int))) then
  (bif (decide (0 ≤ s.1.2.1) && decide (s.1.2.1 < (List.length s.2.1.2.2.2.2.1 : Int))) then
    (Option.bind (G63 (List.getD s.2.1.2.2.2.2.1 (Int.toNat s.1.2.1) 0) 0 (IntKind.wrap .i64 (s.2.1.2.2.2.1 - 1))) fun r1 =>
      (bif (!r1) then
        some (1, ((false, (s.1.2.1, ())), (s.2.1, ())))
        else
        some (0, ((s.1.1, ((IntKind.wrap .i64 (s.1.2.1 + 1)), ())), (s.2.1, ())))))
    else
    none)
  else
  some (2, ((s.1.1, (s.1.2.1, ())), (s.2.1, ()))))
noncomputable def G29_l0_fuel (s : ((Bool × (Int × Unit)) × (E23 × Unit))) : Nat := Int.toNat ((List.length s.2.1.2.2.2.2.1 : Int) - s.1.2.1) + 1
noncomputable def G29_l0_run (s : ((Bool × (Int × Unit)) × (E23 × Unit))) : Option (Nat × ((Bool × (Int × Unit)) × (E23 × Unit))) := iter G29_l0_step (G29_l0_fuel s) s
noncomputable def G29_l0_L : LoopT := loopT G29_l0_S [.ret, .exit 0] G29_l0_run
noncomputable def G29 (a0 : E23) : Option Bool :=
  (Option.bind (G29_l0_run ((false, (0, ())), (a0, ()))) fun q2 =>
  (natK q2.1
    (some q2.2.1.1)
    (fun _ => (Option.bind (G63 q2.2.2.1.1 0 100) fun r3 =>
      (bif r3 then
        (Option.bind (G63 q2.2.2.1.2.1 0 20) fun r4 =>
          (bif r4 then
            (Option.bind (G63 q2.2.2.1.2.2.1 0 20) fun r5 =>
              (bif r5 then
                (Option.bind (G63 q2.2.2.1.2.2.2.1 1 4) fun r6 =>
                  (bif r6 then
                    (Option.bind (G63 (List.length q2.2.2.1.2.2.2.2.1 : Int) 1 6) fun r7 =>
                      some r7)
                    else
                    some false))
                else
                some false))
            else
            some false))
        else
        some false)))))
noncomputable def G29_E : CEnt := pureE 29 [.dat T23] (.dat .bool) fun x => G29 x.1
theorem G29_l0_V : LValid 0 Tryz.prog (.loop G29_l0_c) G29_l0_L false := by
  have hb : ∀ s, codeR Tryz.prog G29_C G29_l0_c [] (G29_l0_S.encE s) (G29_l0_S.encB s) (kst G29_l0_S [.ret, .exit 0]) = G29_l0_step s := by
    intro s; kernel_rfl
  have hL : LV 0 Tryz.prog false (loopsOf G29_l0_c) [] := by unfold LV; cases loopsOf G29_l0_c <;> trivial
  exact loopT_valid (fuel := G29_l0_fuel) mixed G29_CV hL (by kernel_rfl) (by decide) rfl hb (fun s r h => h)
theorem G29_LV : LV 0 Tryz.prog false (loopsOf (bodyOf Tryz.f29)) [G29_l0_L] := by
  have hl : loopsOf (bodyOf Tryz.f29) = [.loop G29_l0_c] := by kernel_rfl
  rw [hl]; exact ⟨G29_l0_V, trivial⟩
theorem G29_ent : Ent Tryz.prog 29 := ⟨by decide, enters_of Tryz.func29 (by kernel_rfl) rfl⟩
theorem G29_hev : ∀ x, fnR Tryz.prog G29_C [G29_l0_L] Tryz.f29 (bodyOf Tryz.f29) (encs [.dat T23] x) ⟨[], [], 0⟩ (frzF (.dat .bool)) = G29 x.1 := by
  intro x; kernel_rfl
theorem G29_valid : G29_E.Valid Tryz.prog :=
  pureE_valid (by kernel_rfl) (by kernel_rfl) G29_ent (frz_lcall mixed Tryz.func29 rfl G29_ent G29_CV G29_LV (by kernel_rfl) (by kernel_rfl) G29_hev)
noncomputable def G30_C : CalT := tabC [G63_E]
theorem G30_CV : CV Tryz.prog G30_C := tabC_valid (l := _) ⟨G63_valid, trivial⟩
noncomputable def G30_l0_c : Code := loopAt (bodyOf Tryz.f30) 0
noncomputable def G30_l0_S : SPat := ⟨[.any, .dat (.list T71), .fix (.bptr 0 []), .any, .dat .bool, .dat (.int .i64), .any, .any, .any, .any, .any, .any, .any, .any, .any, .any, .any, .any, .any, .any, .any, .any, .any, .any, .any, .any, .any, .any, .any, .any, .any, .any, .any, .any, .any, .any, .any, .any, .any, .any, .any], [.dat T23], 0⟩
noncomputable def G30_l0_step (s : (((List E71) × (Bool × (Int × Unit))) × (E23 × Unit))) : Option (Nat × (((List E71) × (Bool × (Int × Unit))) × (E23 × Unit))) :=
  (bif (decide (s.1.2.2.1 < (List.length s.1.1 : Int))) then
  (bif (decide (0 ≤ s.1.2.2.1) && decide (s.1.2.2.1 < (List.length s.1.1 : Int))) then
    (Option.bind (G63 ((List.getD s.1.1 (Int.toNat s.1.2.2.1) (0, (0, (0, ())))).1) 0 (IntKind.wrap .i64 ((List.length s.2.1.2.2.2.2.1 : Int) - 1))) fun r1 =>
      (bif (!r1) then
        some (1, ((s.1.1, (false, (s.1.2.2.1, ()))), (s.2.1, ())))
        else
        (bif (decide (0 ≤ s.1.2.2.1) && decide (s.1.2.2.1 < (List.length s.1.1 : Int))) then
          (Option.bind (G63 ((List.getD s.1.1 (Int.toNat s.1.2.2.1) (0, (0, (0, ())))).2.1) 0 200) fun r2 =>
            (bif (!r2) then
              some (1, ((s.1.1, (false, (s.1.2.2.1, ()))), (s.2.1, ())))
              else
              (bif (decide (0 ≤ s.1.2.2.1) && decide (s.1.2.2.1 < (List.length s.1.1 : Int))) then
                (Option.bind (G63 ((List.getD s.1.1 (Int.toNat s.1.2.2.1) (0, (0, (0, ())))).2.2.1) 0 6400) fun r3 =>
                  (bif (!r3) then
                    some (1, ((s.1.1, (false, (s.1.2.2.1, ()))), (s.2.1, ())))
                    else
                    some (0, ((s.1.1, (s.1.2.1, ((IntKind.wrap .i64 (s.1.2.2.1 + 1)), ()))), (s.2.1, ())))))
                else
                none)))
          else
          none)))
    else
    none)
  else
  some (2, ((s.1.1, (s.1.2.1, (s.1.2.2.1, ()))), (s.2.1, ()))))
noncomputable def G30_l0_fuel (s : (((List E71) × (Bool × (Int × Unit))) × (E23 × Unit))) : Nat := Int.toNat ((List.length s.1.1 : Int) - s.1.2.2.1) + 1
noncomputable def G30_l0_run (s : (((List E71) × (Bool × (Int × Unit))) × (E23 × Unit))) : Option (Nat × (((List E71) × (Bool × (Int × Unit))) × (E23 × Unit))) := iter G30_l0_step (G30_l0_fuel s) s
noncomputable def G30_l0_L : LoopT := loopT G30_l0_S [.ret, .exit 0] G30_l0_run
noncomputable def G30 (a0 : E23) (a1 : (List E71)) : Option Bool :=
  (Option.bind (G30_l0_run ((a1, (false, (0, ()))), (a0, ()))) fun q4 =>
  (natK q4.1
    (some q4.2.1.2.1)
    (fun _ => some true)))
noncomputable def G30_E : CEnt := pureE 30 [.dat T23, .dat (.list T71)] (.dat .bool) fun x => G30 x.1 x.2.1
theorem G30_l0_V : LValid 0 Tryz.prog (.loop G30_l0_c) G30_l0_L false := by
  have hb : ∀ s, codeR Tryz.prog G30_C G30_l0_c [] (G30_l0_S.encE s) (G30_l0_S.encB s) (kst G30_l0_S [.ret, .exit 0]) = G30_l0_step s := by
    intro s; kernel_rfl
  have hL : LV 0 Tryz.prog false (loopsOf G30_l0_c) [] := by unfold LV; cases loopsOf G30_l0_c <;> trivial
  exact loopT_valid (fuel := G30_l0_fuel) mixed G30_CV hL (by kernel_rfl) (by decide) rfl hb (fun s r h => h)
theorem G30_LV : LV 0 Tryz.prog false (loopsOf (bodyOf Tryz.f30)) [G30_l0_L] := by
  have hl : loopsOf (bodyOf Tryz.f30) = [.loop G30_l0_c] := by kernel_rfl
  rw [hl]; exact ⟨G30_l0_V, trivial⟩
theorem G30_ent : Ent Tryz.prog 30 := ⟨by decide, enters_of Tryz.func30 (by kernel_rfl) rfl⟩
theorem G30_hev : ∀ x, fnR Tryz.prog G30_C [G30_l0_L] Tryz.f30 (bodyOf Tryz.f30) (encs [.dat T23, .dat (.list T71)] x) ⟨[], [], 0⟩ (frzF (.dat .bool)) = G30 x.1 x.2.1 := by
  intro x; kernel_rfl
theorem G30_valid : G30_E.Valid Tryz.prog :=
  pureE_valid (by kernel_rfl) (by kernel_rfl) G30_ent (frz_lcall mixed Tryz.func30 rfl G30_ent G30_CV G30_LV (by kernel_rfl) (by kernel_rfl) G30_hev)
noncomputable def G9_C : CalT := tabC [G29_E, G30_E]
theorem G9_CV : CV Tryz.prog G9_C := tabC_valid (l := _) ⟨G29_valid, G30_valid, trivial⟩
noncomputable def G9 (a0 : E23) (a1 : (List E71)) : Option Int :=
  (bif (decide ((List.length a1 : Int) > 24)) then
  some 3
  else
  (Option.bind (G29 a0) fun r1 =>
    (bif (!r1) then
      some 2
      else
      (Option.bind (G30 a0 a1) fun r2 =>
        (bif (!r2) then
          some 2
          else
          some 0)))))
noncomputable def G9_E : CEnt := pureE 9 [.dat T23, .dat (.list T71)] (.dat (.int .i64)) fun x => G9 x.1 x.2.1
theorem G9_LV : LV 0 Tryz.prog false (loopsOf (bodyOf Tryz.f9)) [] := by unfold LV; cases loopsOf (bodyOf Tryz.f9) <;> trivial
theorem G9_ent : Ent Tryz.prog 9 := ⟨by decide, enters_of Tryz.func9 (by kernel_rfl) rfl⟩
theorem G9_hev : ∀ x, fnR Tryz.prog G9_C [] Tryz.f9 (bodyOf Tryz.f9) (encs [.dat T23, .dat (.list T71)] x) ⟨[], [], 0⟩ (frzF (.dat (.int .i64))) = G9 x.1 x.2.1 := by
  intro x; kernel_rfl
theorem G9_valid : G9_E.Valid Tryz.prog :=
  pureE_valid (by kernel_rfl) (by kernel_rfl) G9_ent (frz_lcall mixed Tryz.func9 rfl G9_ent G9_CV G9_LV (by kernel_rfl) (by kernel_rfl) G9_hev)
noncomputable def G83_C : CalT := tabC [idxM_E]
theorem G83_CV : CV Tryz.prog G83_C := tabC_valid (l := _) ⟨idxM_valid, trivial⟩
noncomputable def G83 (a0 : ByteArray) (a1 : ByteArray) : Option (ByteArray × (ByteArray × (Bool × Unit))) :=
  (Option.bind (idxM a0 a1) fun r1 =>
  (bif (decide (r1 ≥ 0)) then
    (bif (decide (0 ≤ (0 : Int)) && decide ((0 : Int) ≤ r1) && decide (r1 ≤ (ByteArray.size a0 : Int))) then
      (bif (decide (0 ≤ (IntKind.wrap .i64 (r1 + (ByteArray.size a1 : Int)))) && decide ((IntKind.wrap .i64 (r1 + (ByteArray.size a1 : Int))) ≤ (ByteArray.size a0 : Int)) && decide ((ByteArray.size a0 : Int) ≤ (ByteArray.size a0 : Int))) then
        some ((ByteArray.extract a0 (Int.toNat 0) (Int.toNat r1)), ((ByteArray.extract a0 (Int.toNat (IntKind.wrap .i64 (r1 + (ByteArray.size a1 : Int)))) (Int.toNat (ByteArray.size a0 : Int))), (true, ())))
        else
        none)
      else
      none)
    else
    some (a0, ((⟨#[]⟩ : ByteArray), (false, ())))))
noncomputable def G83_E : CEnt := pureE 83 [.dat .str, .dat .str] (.tup (.cons (.dat .str) (.cons (.dat .str) (.cons (.dat .bool) (.nil))))) fun x => G83 x.1 x.2.1
theorem G83_LV : LV 0 Tryz.prog false (loopsOf (bodyOf Tryz.f83)) [] := by unfold LV; cases loopsOf (bodyOf Tryz.f83) <;> trivial
theorem G83_ent : Ent Tryz.prog 83 := ⟨by decide, enters_of Tryz.func83 (by kernel_rfl) rfl⟩
theorem G83_hev : ∀ x, fnR Tryz.prog G83_C [] Tryz.f83 (bodyOf Tryz.f83) (encs [.dat .str, .dat .str] x) ⟨[], [], 0⟩ (frzF (.tup (.cons (.dat .str) (.cons (.dat .str) (.cons (.dat .bool) (.nil)))))) = G83 x.1 x.2.1 := by
  intro x; kernel_rfl
theorem G83_valid : G83_E.Valid Tryz.prog :=
  pureE_valid (by kernel_rfl) (by kernel_rfl) G83_ent (frz_lcall mixed Tryz.func83 rfl G83_ent G83_CV G83_LV (by kernel_rfl) (by kernel_rfl) G83_hev)
noncomputable def G64_C : CalT := tabC [G83_E]
theorem G64_CV : CV Tryz.prog G64_C := tabC_valid (l := _) ⟨G83_valid, trivial⟩
noncomputable def G64 (a0 : ByteArray) (a1 : ByteArray) : Option (ByteArray × (ByteArray × (Bool × Unit))) :=
  (Option.bind (G83 a0 a1) fun r1 =>
  some (r1.1, (r1.2.1, (r1.2.2.1, ()))))
noncomputable def G64_E : CEnt := pureE 64 [.dat .str, .dat .str] (.tup (.cons (.dat .str) (.cons (.dat .str) (.cons (.dat .bool) (.nil))))) fun x => G64 x.1 x.2.1
theorem G64_LV : LV 0 Tryz.prog false (loopsOf (bodyOf Tryz.f64)) [] := by unfold LV; cases loopsOf (bodyOf Tryz.f64) <;> trivial
theorem G64_ent : Ent Tryz.prog 64 := ⟨by decide, enters_of Tryz.func64 (by kernel_rfl) rfl⟩
theorem G64_hev : ∀ x, fnR Tryz.prog G64_C [] Tryz.f64 (bodyOf Tryz.f64) (encs [.dat .str, .dat .str] x) ⟨[], [], 0⟩ (frzF (.tup (.cons (.dat .str) (.cons (.dat .str) (.cons (.dat .bool) (.nil)))))) = G64 x.1 x.2.1 := by
  intro x; kernel_rfl
theorem G64_valid : G64_E.Valid Tryz.prog :=
  pureE_valid (by kernel_rfl) (by kernel_rfl) G64_ent (frz_lcall mixed Tryz.func64 rfl G64_ent G64_CV G64_LV (by kernel_rfl) (by kernel_rfl) G64_hev)
noncomputable def G65_C : CalT := tabC [genM_E]
theorem G65_CV : CV Tryz.prog G65_C := tabC_valid (l := _) ⟨genM_valid, trivial⟩
noncomputable def G65 (a0 : ByteArray) (a1 : ByteArray) : Option (List ByteArray) :=
  (Option.bind (genM a0 a1 0 (-1)) fun r1 =>
  some r1)
noncomputable def G65_E : CEnt := pureE 65 [.dat .str, .dat .str] (.dat (.list .str)) fun x => G65 x.1 x.2.1
theorem G65_LV : LV 0 Tryz.prog false (loopsOf (bodyOf Tryz.f65)) [] := by unfold LV; cases loopsOf (bodyOf Tryz.f65) <;> trivial
theorem G65_ent : Ent Tryz.prog 65 := ⟨by decide, enters_of Tryz.func65 (by kernel_rfl) rfl⟩
theorem G65_hev : ∀ x, fnR Tryz.prog G65_C [] Tryz.f65 (bodyOf Tryz.f65) (encs [.dat .str, .dat .str] x) ⟨[], [], 0⟩ (frzF (.dat (.list .str))) = G65 x.1 x.2.1 := by
  intro x; kernel_rfl
theorem G65_valid : G65_E.Valid Tryz.prog :=
  pureE_valid (by kernel_rfl) (by kernel_rfl) G65_ent (frz_lcall mixed Tryz.func65 rfl G65_ent G65_CV G65_LV (by kernel_rfl) (by kernel_rfl) G65_hev)
noncomputable def G66_C : CalT := tabC [itoaM_E]
theorem G66_CV : CV Tryz.prog G66_C := tabC_valid (l := _) ⟨itoaM_valid, trivial⟩
noncomputable def G66_l0_c : Code := loopAt (bodyOf Tryz.f66) 0
noncomputable def G66_l0_S : SPat := ⟨[.dat .str, .any, .any, .dat (.int .i64), .any, .any, .any, .any, .any, .any, .any, .any, .any, .fix (.bptr 0 []), .any, .any, .any, .any, .any, .any, .any, .any, .any, .any, .any, .any, .any, .any, .any, .any, .any, .any, .any, .any, .any, .any, .any, .any, .any, .any], [.siter], 0⟩
noncomputable def G66_l0_step (s : ((ByteArray × (Int × Unit)) × ((ByteArray × Nat) × Unit))) : Option (Nat × ((ByteArray × (Int × Unit)) × ((ByteArray × Nat) × Unit))) :=
  (bif (decide (s.2.1.2 < ByteArray.size s.2.1.1)) then
  (bif (decide (((Utf8.decode s.2.1.1 s.2.1.2).1 : Int) < 48)) then
    some (1, ((s.1.1, (s.1.2.1, ())), ((s.2.1.1, (s.2.1.2 + (Utf8.decode s.2.1.1 s.2.1.2).2)), ())))
    else
    (bif (decide (((Utf8.decode s.2.1.1 s.2.1.2).1 : Int) > 57)) then
      some (1, ((s.1.1, (s.1.2.1, ())), ((s.2.1.1, (s.2.1.2 + (Utf8.decode s.2.1.1 s.2.1.2).2)), ())))
      else
      some (0, ((s.1.1, ((IntKind.wrap .i64 ((IntKind.wrap .i64 ((10 : Int) * s.1.2.1)) + (IntKind.wrap .i64 (IntKind.wrap .i32 (((Utf8.decode s.2.1.1 s.2.1.2).1 : Int) - 48))))), ())), ((s.2.1.1, (s.2.1.2 + (Utf8.decode s.2.1.1 s.2.1.2).2)), ())))))
  else
  some (2, ((s.1.1, (s.1.2.1, ())), (s.2.1, ()))))
noncomputable def G66_l0_fuel (s : ((ByteArray × (Int × Unit)) × ((ByteArray × Nat) × Unit))) : Nat := Int.toNat (ByteArray.size s.2.1.1 - s.2.1.2) + 1
noncomputable def G66_l0_run (s : ((ByteArray × (Int × Unit)) × ((ByteArray × Nat) × Unit))) : Option (Nat × ((ByteArray × (Int × Unit)) × ((ByteArray × Nat) × Unit))) := iter G66_l0_step (G66_l0_fuel s) s
noncomputable def G66_l0_L : LoopT := loopT G66_l0_S [.pan 75, .exit 0] G66_l0_run
noncomputable def G66 (a0 : ByteArray) : Option ((Unit × Unit) ⊕ (Int × Unit)) :=
  (bif (decide ((ByteArray.size a0 : Int) > 4)) then
  some (Sum.inl ((), ()))
  else
  (Option.bind (G66_l0_run ((a0, (0, ())), ((a0, 0), ()))) fun q1 =>
    (natK q1.1
      (some (Sum.inl ((), ())))
      (fun _ => (Option.bind (itoaM q1.2.1.2.1) fun r2 =>
        (bif (!(ByteArray.toList r2 == ByteArray.toList q1.2.1.1)) then
          some (Sum.inl ((), ()))
          else
          some (Sum.inr (q1.2.1.2.1, ()))))))))
abbrev G66_CS : CSpec := ⟨[.dat .str], [], 0, [], 0, .fix (.pan 75)⟩
abbrev G66_O2 : List PTy := []
abbrev G66_R2 : PTy := .dat (.int .i64)
noncomputable def G66_E : CEnt := altE 66 G66_CS G66_O2 0 G66_R2 fun x => G66 x.1.1
theorem G66_l0_V : LValid 0 Tryz.prog (.loop G66_l0_c) G66_l0_L false := by
  have hb : ∀ s, codeR Tryz.prog G66_C G66_l0_c [] (G66_l0_S.encE s) (G66_l0_S.encB s) (kst G66_l0_S [.pan 75, .exit 0]) = G66_l0_step s := by
    intro s; kernel_rfl
  have hL : LV 0 Tryz.prog false (loopsOf G66_l0_c) [] := by unfold LV; cases loopsOf G66_l0_c <;> trivial
  exact loopT_valid (fuel := G66_l0_fuel) mixed G66_CV hL (by kernel_rfl) (by decide) rfl hb (fun s r h => h)
theorem G66_LV : LV 0 Tryz.prog false (loopsOf (bodyOf Tryz.f66)) [G66_l0_L] := by
  have hl : loopsOf (bodyOf Tryz.f66) = [.loop G66_l0_c] := by kernel_rfl
  rw [hl]; exact ⟨G66_l0_V, trivial⟩
theorem G66_ent : Ent Tryz.prog 66 := ⟨by decide, enters_of Tryz.func66 (by kernel_rfl) rfl⟩
theorem G66_hev : ∀ x : G66_CS.In, fnR Tryz.prog G66_C [G66_l0_L] Tryz.f66 (bodyOf Tryz.f66) (encs G66_CS.A x.1) ⟨encs G66_CS.I x.2, [], G66_CS.nt⟩ (finK2 G66_CS G66_O2 0 G66_R2) = G66 x.1.1 := by
  intro x; kernel_rfl
theorem G66_valid : G66_E.Valid Tryz.prog :=
  altE_valid (S := G66_CS) (by kernel_rfl) (by kernel_rfl) (.inr G66_ent) (alt_lcall (S := G66_CS) mixed Tryz.func66 rfl G66_ent G66_CV G66_LV (by kernel_rfl) (by kernel_rfl) (by kernel_rfl) (by kernel_rfl) G66_hev)
noncomputable def G32_C : CalT := tabC [G64_E, G65_E, G66_E, G62_E]
theorem G32_CV : CV Tryz.prog G32_C := tabC_valid (l := _) ⟨G64_valid, G65_valid, G66_valid, G62_valid, trivial⟩
noncomputable def G32_l0_c : Code := loopAt (bodyOf Tryz.f32) 0
noncomputable def G32_l0_S : SPat := ⟨[.any, .any, .dat (.int .i64), .any, .any, .any, .any, .dat .str, .any, .any, .dat (.list .str), .own 0 (.int .i64), .any, .any, .any, .any, .any, .any, .any, .any, .any, .any, .any, .any, .any, .any, .any, .any, .any, .any, .any, .any, .any, .any, .any, .any, .any, .any, .any, .any, .any, .any, .any, .any, .any, .any, .any, .any, .any, .any, .any, .dat (.list .str), .dat (.int .i64), .dat (.int .i64), .any, .any, .any, .any, .any, .any, .any, .any, .any, .any, .any, .any, .any, .any, .any, .any, .any, .any, .any, .any, .any, .any, .any, .any], [.cons (.dat .str) (.nil)], 1⟩
abbrev TY86 : Type := ((Int × (ByteArray × ((List ByteArray) × ((List Int) × ((List ByteArray) × (Int × (Int × Unit))))))) × ((ByteArray × Unit) × Unit))
abbrev TY87 : Type := (Nat × ((Int × (ByteArray × ((List ByteArray) × ((List Int) × ((List ByteArray) × (Int × (Int × Unit))))))) × ((ByteArray × Unit) × Unit)))
noncomputable def G32_l0_step (s : TY86) : Option TY87 :=
  (bif (decide (s.1.2.2.2.2.2.2.1 < s.1.2.2.2.2.2.1)) then
  (bif (decide (0 ≤ s.1.2.2.2.2.2.2.1) && decide (s.1.2.2.2.2.2.2.1 < (List.length s.1.2.2.2.2.1 : Int))) then
    (Option.bind (G66 (List.getD s.1.2.2.2.2.1 (Int.toNat s.1.2.2.2.2.2.2.1) (⟨#[]⟩ : ByteArray))) fun r3 =>
      (altK r3
        (fun r4 => some (1, ((s.1.1, (s.1.2.1, (s.1.2.2.1, (s.1.2.2.2.1, (s.1.2.2.2.2.1, (s.1.2.2.2.2.2.1, (s.1.2.2.2.2.2.2.1, ()))))))), (s.2.1, ()))))
        (fun r5 => (bif (decide (List.length s.1.2.2.2.1 + List.length [r5.1] ≤ LIM)) then
          some (0, ((s.1.1, (s.1.2.1, (s.1.2.2.1, ((s.1.2.2.2.1 ++ [r5.1]), (s.1.2.2.2.2.1, (s.1.2.2.2.2.2.1, ((IntKind.wrap .i64 (s.1.2.2.2.2.2.2.1 + 1)), ()))))))), (s.2.1, ())))
          else
          none))))
    else
    none)
  else
  some (2, ((s.1.1, (s.1.2.1, (s.1.2.2.1, (s.1.2.2.2.1, (s.1.2.2.2.2.1, (s.1.2.2.2.2.2.1, (s.1.2.2.2.2.2.2.1, ()))))))), (s.2.1, ()))))
noncomputable def G32_l0_fuel (s : TY86) : Nat := Int.toNat (s.1.2.2.2.2.2.1 - s.1.2.2.2.2.2.2.1) + 1
noncomputable def G32_l0_run (s : TY86) : Option TY87 := iter G32_l0_step (G32_l0_fuel s) s
noncomputable def G32_l0_L : LoopT := loopT G32_l0_S [.pan 75, .exit 0] G32_l0_run
noncomputable def G32 (a0 : ByteArray) (a1 : Int) (b2 : (ByteArray × Unit)) : Option ((Unit × ((ByteArray × Unit) × Unit)) ⊕ ((List Int) × ((ByteArray × Unit) × Unit))) :=
  (Option.bind (G64 b2.1 (⟨#[10]⟩ : ByteArray)) fun r1 =>
  (Option.bind (G65 r1.1 (⟨#[32]⟩ : ByteArray)) fun r2 =>
    (bif (!r1.2.2.1) then
      some (Sum.inl ((), (b2, ())))
      else
      (bif ((List.length r2 : Int) != (IntKind.wrap .i64 (a1 + 2))) then
        some (Sum.inl ((), (b2, ())))
        else
        (bif (decide (0 ≤ (0 : Int)) && decide ((0 : Int) < (List.length r2 : Int))) then
          (bif (!(ByteArray.toList (List.getD r2 (Int.toNat 0) (⟨#[]⟩ : ByteArray)) == ByteArray.toList a0)) then
            some (Sum.inl ((), (b2, ())))
            else
            (bif (decide (0 ≤ (1 : Int)) && decide ((1 : Int) ≤ (IntKind.wrap .i64 (a1 + 1))) && decide ((IntKind.wrap .i64 (a1 + 1)) ≤ (List.length r2 : Int))) then
              (Option.bind (G32_l0_run ((a1, (r1.1, (r2, ([], ((List.drop (Int.toNat 1) (List.take (Int.toNat (IntKind.wrap .i64 (a1 + 1))) r2)), ((List.length (List.drop (Int.toNat 1) (List.take (Int.toNat (IntKind.wrap .i64 (a1 + 1))) r2)) : Int), (0, ()))))))), ((r1.2.1, b2.2), ()))) fun q6 =>
                (natK q6.1
                  (some (Sum.inl ((), (q6.2.2.1, ()))))
                  (fun _ => (bif (decide (0 ≤ (IntKind.wrap .i64 (q6.2.1.1 + 1))) && decide ((IntKind.wrap .i64 (q6.2.1.1 + 1)) < (List.length q6.2.1.2.2.1 : Int))) then
                    (bif (decide (0 ≤ (1 : Int)) && decide ((1 : Int) ≤ (IntKind.wrap .i64 (q6.2.1.1 + 1))) && decide ((IntKind.wrap .i64 (q6.2.1.1 + 1)) ≤ (List.length q6.2.1.2.2.1 : Int))) then
                      (Option.bind (G62 (List.drop (Int.toNat 1) (List.take (Int.toNat (IntKind.wrap .i64 (q6.2.1.1 + 1))) q6.2.1.2.2.1))) fun r7 =>
                        (bif (!(ByteArray.toList (List.getD q6.2.1.2.2.1 (Int.toNat (IntKind.wrap .i64 (q6.2.1.1 + 1))) (⟨#[]⟩ : ByteArray)) == ByteArray.toList r7)) then
                          some (Sum.inl ((), (q6.2.2.1, ())))
                          else
                          some (Sum.inr (q6.2.1.2.2.2.1, (q6.2.2.1, ())))))
                      else
                      none)
                    else
                    none))))
              else
              none))
          else
          none)))))
abbrev G32_CS : CSpec := ⟨[.fix (.bptr 0 []), .dat .str, .dat (.int .i64)], [.cons (.dat .str) (.nil)], 0, [.cons (.dat .str) (.nil)], 0, .fix (.pan 75)⟩
abbrev G32_O2 : List PTy := [.cons (.dat .str) (.nil)]
abbrev G32_R2 : PTy := .dat (.list (.int .i64))
noncomputable def G32_E : CEnt := altE 32 G32_CS G32_O2 0 G32_R2 fun x => G32 x.1.1 x.1.2.1 x.2.1
theorem G32_l0_V : LValid 1 Tryz.prog (.loop G32_l0_c) G32_l0_L false := by
  have hb : ∀ s, codeR Tryz.prog G32_C G32_l0_c [] (G32_l0_S.encE s) (G32_l0_S.encB s) (kst G32_l0_S [.pan 75, .exit 0]) = G32_l0_step s := by
    intro s; kernel_rfl
  have hL : LV 1 Tryz.prog false (loopsOf G32_l0_c) [] := by unfold LV; cases loopsOf G32_l0_c <;> trivial
  exact loopT_valid (fuel := G32_l0_fuel) mixed G32_CV hL (by kernel_rfl) (by decide) rfl hb (fun s r h => h)
theorem G32_LV : LV 1 Tryz.prog false (loopsOf (bodyOf Tryz.f32)) [G32_l0_L] := by
  have hl : loopsOf (bodyOf Tryz.f32) = [.loop G32_l0_c] := by kernel_rfl
  rw [hl]; exact ⟨G32_l0_V, trivial⟩
theorem G32_ent : Ent Tryz.prog 32 := ⟨by decide, enters_of Tryz.func32 (by kernel_rfl) rfl⟩
theorem G32_hev : ∀ x : G32_CS.In, fnR Tryz.prog G32_C [G32_l0_L] Tryz.f32 (bodyOf Tryz.f32) (encs G32_CS.A x.1) ⟨encs G32_CS.I x.2, [], G32_CS.nt⟩ (finK2 G32_CS G32_O2 0 G32_R2) = G32 x.1.1 x.1.2.1 x.2.1 := by
  intro x; kernel_rfl
theorem G32_valid : G32_E.Valid Tryz.prog :=
  altE_valid (S := G32_CS) (by kernel_rfl) (by kernel_rfl) (.inr G32_ent) (alt_lcall (S := G32_CS) mixed Tryz.func32 rfl G32_ent G32_CV G32_LV (by kernel_rfl) (by kernel_rfl) (by kernel_rfl) (by kernel_rfl) G32_hev)
noncomputable def G33_C : CalT := tabC [G64_E]
theorem G33_CV : CV Tryz.prog G33_C := tabC_valid (l := _) ⟨G64_valid, trivial⟩
noncomputable def G33 (b0 : (ByteArray × Unit)) : Option (ByteArray × ((ByteArray × Unit) × Unit)) :=
  (Option.bind (G64 b0.1 (⟨#[32]⟩ : ByteArray)) fun r1 =>
  some (r1.1, (b0, ())))
abbrev G33_CS : CSpec := ⟨[.fix (.bptr 0 [])], [.cons (.dat .str) (.nil)], 0, [.cons (.dat .str) (.nil)], 0, .dat .str⟩
noncomputable def G33_E : CEnt := boxE 33 G33_CS fun x => G33 x.2.1
theorem G33_LV : LV 1 Tryz.prog false (loopsOf (bodyOf Tryz.f33)) [] := by unfold LV; cases loopsOf (bodyOf Tryz.f33) <;> trivial
theorem G33_ent : Ent Tryz.prog 33 := ⟨by decide, enters_of Tryz.func33 (by kernel_rfl) rfl⟩
theorem G33_hev : ∀ x : G33_CS.In, fnR Tryz.prog G33_C [] Tryz.f33 (bodyOf Tryz.f33) (encs G33_CS.A x.1) ⟨encs G33_CS.I x.2, [], G33_CS.nt⟩ (finK G33_CS) = G33 x.2.1 := by
  intro x; kernel_rfl
theorem G33_valid : G33_E.Valid Tryz.prog :=
  boxE_valid (S := G33_CS) (by kernel_rfl) (.inr G33_ent) (fn_lcall (S := G33_CS) mixed Tryz.func33 rfl G33_ent G33_CV G33_LV (by kernel_rfl) (by kernel_rfl) G33_hev)
noncomputable def G34_C : CalT := tabC []
theorem G34_CV : CV Tryz.prog G34_C := tabC_valid (l := _) trivial
noncomputable def G34 (b0 : (E23 × ((List E71) × (Unit × Unit)))) (b1 : (List (E58 × E91))) : Option (Bool × ((E23 × ((List E71) × (Unit × Unit))) × ((List (E58 × E91)) × Unit))) :=
  some (true, ((b0.1, (b0.2.1, ((), b0.2.2.2))), (b1, ())))
abbrev G34_CS : CSpec := ⟨[.fix (.bptr 0 [])], [.cons (.dat T23) (.cons (.dat (.list T71)) (.cons (.fix (.mref 1)) (.nil))), .map T58 T91], 0, [.cons (.dat T23) (.cons (.dat (.list T71)) (.cons (.fix (.mref 1)) (.nil))), .map T58 T91], 0, .dat .bool⟩
noncomputable def G34_E : CEnt := boxE 34 G34_CS fun x => G34 x.2.1 x.2.2.1
theorem G34_LV : LV 2 Tryz.prog false (loopsOf (bodyOf Tryz.f34)) [] := by unfold LV; cases loopsOf (bodyOf Tryz.f34) <;> trivial
theorem G34_ent : Ent Tryz.prog 34 := ⟨by decide, enters_of Tryz.func34 (by kernel_rfl) rfl⟩
theorem G34_hev : ∀ x : G34_CS.In, fnR Tryz.prog G34_C [] Tryz.f34 (bodyOf Tryz.f34) (encs G34_CS.A x.1) ⟨encs G34_CS.I x.2, [], G34_CS.nt⟩ (finK G34_CS) = G34 x.2.1 x.2.2.1 := by
  intro x; kernel_rfl
theorem G34_valid : G34_E.Valid Tryz.prog :=
  boxE_valid (S := G34_CS) (by kernel_rfl) (.inr G34_ent) (fn_lcall (S := G34_CS) mixed Tryz.func34 rfl G34_ent G34_CV G34_LV (by kernel_rfl) (by kernel_rfl) G34_hev)
noncomputable def G26_v6_C : CalT := tabC [G57_E, G58_E, G34_E]
theorem G26_v6_CV : CV Tryz.prog G26_v6_C := tabC_valid (l := _) ⟨G57_valid, G58_valid, G34_valid, trivial⟩
noncomputable def G26_v6 (a0 : E23) (a1 : (List E71)) : Option (((Unit × (Int × Unit)) × Unit) ⊕ ((Unit × (Int × Unit)) × TY33)) :=
  (bif (decide ((List.length a1 : Int) > 24)) then
  some (Sum.inl (((), (3, ())), ()))
  else
  (Option.bind (G57 a0) fun r1 =>
    (bif (!r1) then
      some (Sum.inl (((), (2, ())), ()))
      else
      (Option.bind (G58 a1 a0) fun r2 =>
        (bif r2.1 then
          some (Sum.inl (((), (2, ())), ()))
          else
          (Option.bind (G34 (a0, (a1, ((), ()))) ([] : List (E58 × E91))) fun r3 =>
            (bif (!r3.1) then
              some (Sum.inl (((), (2, ())), ()))
              else
              some (Sum.inr (((), (0, ())), (r2.2.1, (r3.2.2.1, ((r3.2.1.1, (r3.2.1.2.1, ((), r3.2.1.2.2.2))), ()))))))))))))
abbrev G26_v6_CS : CSpec := ⟨[.dat T23, .dat (.list T71), .fix (.func (.func 34) .nil .nil)], [], 0, [], 0, .tup (.cons (.fix .pnil) (.cons (.dat (.int .i64)) (.nil)))⟩
abbrev G26_v6_O2 : List PTy := [.dat T23, .map T58 T91, .cons (.dat T23) (.cons (.dat (.list T71)) (.cons (.fix (.mref 1)) (.nil)))]
abbrev G26_v6_R2 : PTy := .tup (.cons (.fix (.bptr 2 [])) (.cons (.dat (.int .i64)) (.nil)))
noncomputable def G26_v6_E : CEnt := altE 26 G26_v6_CS G26_v6_O2 0 G26_v6_R2 fun x => G26_v6 x.1.1 x.1.2.1
theorem G26_v6_LV : LV 0 Tryz.prog false (loopsOf (bodyOf Tryz.f26)) [] := by unfold LV; cases loopsOf (bodyOf Tryz.f26) <;> trivial
theorem G26_v6_ent : Ent Tryz.prog 26 := ⟨by decide, enters_of Tryz.func26 (by kernel_rfl) rfl⟩
theorem G26_v6_hev : ∀ x : G26_v6_CS.In, fnR Tryz.prog G26_v6_C [] Tryz.f26 (bodyOf Tryz.f26) (encs G26_v6_CS.A x.1) ⟨encs G26_v6_CS.I x.2, [], G26_v6_CS.nt⟩ (finK2 G26_v6_CS G26_v6_O2 0 G26_v6_R2) = G26_v6 x.1.1 x.1.2.1 := by
  intro x; kernel_rfl
theorem G26_v6_valid : G26_v6_E.Valid Tryz.prog :=
  altE_valid (S := G26_v6_CS) (by kernel_rfl) (by kernel_rfl) (.inr G26_v6_ent) (alt_lcall (S := G26_v6_CS) mixed Tryz.func26 rfl G26_v6_ent G26_v6_CV G26_v6_LV (by kernel_rfl) (by kernel_rfl) (by kernel_rfl) (by kernel_rfl) G26_v6_hev)
noncomputable def G10_C : CalT := tabC [G32_E, G33_E, G26_v6_E]
theorem G10_CV : CV Tryz.prog G10_C := tabC_valid (l := _) ⟨G32_valid, G33_valid, G26_v6_valid, trivial⟩
noncomputable def G10_l0_c : Code := loopAt (bodyOf Tryz.f10) 0
noncomputable def G10_l1_c : Code := loopAt (bodyOf Tryz.f10) 1
abbrev PA88 : PTy := (.cons (.dat (.int .i64)) (.cons (.dat (.int .i64)) (.cons (.dat (.int .i64)) (.cons (.own 0 (.int .i64)) (.nil)))))
noncomputable def G10_l0_S : SPat := ⟨[.any, .any, .fix (.bptr 0 []), .fix (.bptr 1 []), .fix (.bptr 2 []), .fix (.bptr 3 []), .any, .any, .any, .any, .any, .any, .any, .any, .any, .any, .any, .any, .any, .any, .any, .any, .any, .any, .any, .any, .any, .any, .any, .any, .any, .any, .any, .any, .any, .dat (.int .i64), .dat (.int .i64), .any, .any, .any, .any, .any, .any, .any, .any, .any, .any, .any, .any, .any, .any, .any, .any, .any, .any, .any, .any, .any, .any, .any, .any, .any, .any, .any, .any, .any, .any, .any, .any, .any, .any, .any, .any, .any, .any, .any, .any, .any, .any, .any, .any, .any, .any, .any, .any, .any, .any, .any, .any, .any, .any, .any, .any, .any, .any, .any, .any, .any], [.cons (.dat (.int .i64)) PA88, .own 1 T71, .dat (.int .i64), .cons (.dat .str) (.nil)], 2⟩
abbrev TY89 : Type := ((Int × (Int × Unit)) × ((Int × (Int × (Int × (Int × ((List Int) × Unit))))) × ((List E71) × (Int × ((ByteArray × Unit) × Unit)))))
abbrev TY90 : Type := (Nat × ((Int × (Int × Unit)) × ((Int × (Int × (Int × (Int × ((List Int) × Unit))))) × ((List E71) × (Int × ((ByteArray × Unit) × Unit))))))
noncomputable def G10_l0_step (s : TY89) : Option TY90 :=
  (bif (decide (s.1.2.1 < s.1.1)) then
  (Option.bind (G32 (⟨#[115, 101, 110, 115, 111, 114]⟩ : ByteArray) 1 s.2.2.2.2.1) fun r4 =>
    (altK r4
      (fun r5 => some (1, ((s.1.1, (s.1.2.1, ())), (s.2.1, (s.2.2.1, (s.2.2.2.1, (r5.2.1, ())))))))
      (fun r6 => (Option.bind (G32 (⟨#[115, 101, 110, 115, 111, 114]⟩ : ByteArray) 1 s.2.2.2.2.1) fun r7 =>
        (altK r7
          (fun r8 => none)
          (fun r9 => (bif (decide (0 ≤ (0 : Int)) && decide ((0 : Int) < (List.length r9.1 : Int))) then
            (bif (decide (List.length s.2.1.2.2.2.2.1 + List.length [(List.getD r9.1 (Int.toNat 0) 0)] ≤ LIM)) then
              some (0, ((s.1.1, ((IntKind.wrap .i64 (s.1.2.1 + 1)), ())), ((s.2.1.1, (s.2.1.2.1, (s.2.1.2.2.1, (s.2.1.2.2.2.1, ((s.2.1.2.2.2.2.1 ++ [(List.getD r9.1 (Int.toNat 0) 0)]), s.2.1.2.2.2.2.2))))), (s.2.2.1, (s.2.2.2.1, (r9.2.1, ()))))))
              else
              none)
            else
            none)))))))
  else
  some (2, ((s.1.1, (s.1.2.1, ())), (s.2.1, (s.2.2.1, (s.2.2.2.1, (s.2.2.2.2.1, ())))))))
noncomputable def G10_l0_fuel (s : TY89) : Nat := Int.toNat (s.1.1 - s.1.2.1) + 1
noncomputable def G10_l0_run (s : TY89) : Option TY90 := iter G10_l0_step (G10_l0_fuel s) s
noncomputable def G10_l0_L : LoopT := loopT G10_l0_S [.pan 75, .exit 0] G10_l0_run
noncomputable def G10_l1_S : SPat := ⟨[.any, .any, .fix (.bptr 0 []), .fix (.bptr 1 []), .fix (.bptr 2 []), .fix (.bptr 3 []), .any, .any, .any, .any, .any, .any, .any, .any, .any, .any, .any, .any, .any, .any, .any, .any, .any, .any, .any, .any, .any, .any, .any, .any, .any, .any, .any, .any, .any, .any, .any, .any, .any, .any, .any, .any, .any, .any, .any, .any, .any, .any, .any, .any, .any, .any, .any, .any, .any, .any, .any, .any, .any, .any, .any, .any, .any, .any, .any, .any, .any, .any, .any, .any, .any, .any, .any, .any, .any, .any, .any, .any, .any, .any, .any, .any, .any, .any, .any, .any, .any, .any, .any, .any, .any, .any, .any, .any, .any, .any, .any, .any], [.cons (.dat (.int .i64)) PA88, .own 1 T71, .dat (.int .i64), .cons (.dat .str) (.nil)], 2⟩
abbrev TY91 : Type := (Unit × ((Int × (Int × (Int × (Int × ((List Int) × Unit))))) × ((List E71) × (Int × ((ByteArray × Unit) × Unit)))))
abbrev TY92 : Type := (Nat × (Unit × ((Int × (Int × (Int × (Int × ((List Int) × Unit))))) × ((List E71) × (Int × ((ByteArray × Unit) × Unit))))))
noncomputable def G10_l1_step (s : TY91) : Option TY92 :=
  (Option.bind (G33 s.2.2.2.2.1) fun r11 =>
  (bif (ByteArray.toList r11.1 == ByteArray.toList (⟨#[114, 101, 97, 100]⟩ : ByteArray)) then
    (Option.bind (G32 (⟨#[114, 101, 97, 100]⟩ : ByteArray) 3 r11.2.1) fun r12 =>
      (altK r12
        (fun r13 => some (1, ((), (s.2.1, (s.2.2.1, (s.2.2.2.1, (r13.2.1, ())))))))
        (fun r14 => (bif (decide (0 ≤ (0 : Int)) && decide ((0 : Int) < (List.length r14.1 : Int))) then
          (bif (decide (0 ≤ (1 : Int)) && decide ((1 : Int) < (List.length r14.1 : Int))) then
            (bif (decide (0 ≤ (2 : Int)) && decide ((2 : Int) < (List.length r14.1 : Int))) then
              (bif (decide (List.length s.2.2.1 + List.length [((List.getD r14.1 (Int.toNat 0) 0), ((List.getD r14.1 (Int.toNat 1) 0), ((List.getD r14.1 (Int.toNat 2) 0), ())))] ≤ LIM)) then
                some (0, ((), (s.2.1, ((s.2.2.1 ++ [((List.getD r14.1 (Int.toNat 0) 0), ((List.getD r14.1 (Int.toNat 1) 0), ((List.getD r14.1 (Int.toNat 2) 0), ())))]), (s.2.2.2.1, (r14.2.1, ()))))))
                else
                none)
              else
              none)
            else
            none)
          else
          none))))
    else
    some (2, ((), (s.2.1, (s.2.2.1, (s.2.2.2.1, (r11.2.1, ()))))))))
noncomputable def G10_l1_fuel (s : TY91) : Nat := 100000
noncomputable def G10_l1_run (s : TY91) : Option TY92 := iter G10_l1_step (G10_l1_fuel s) s
noncomputable def G10_l1_L : LoopT := loopT G10_l1_S [.pan 75, .exit 2] G10_l1_run
noncomputable def G10 (a0 : ByteArray) : Option (E23 × ((List E71) × (Int × Unit))) :=
  (bif (decide ((ByteArray.size a0 : Int) > 5000)) then
  some ((0, (0, (0, (0, ([], ()))))), ([], (3, ())))
  else
  (Option.bind (G32 (⟨#[115, 116, 114, 105, 110, 103]⟩ : ByteArray) 5 (a0, ())) fun r1 =>
    (altK r1
      (fun r2 => some ((0, (0, (0, (0, ([], ()))))), ([], (4, ()))))
      (fun r3 => (bif (decide (0 ≤ (0 : Int)) && decide ((0 : Int) < (List.length r3.1 : Int))) then
        (bif (decide (0 ≤ (1 : Int)) && decide ((1 : Int) < (List.length r3.1 : Int))) then
          (bif (decide (0 ≤ (2 : Int)) && decide ((2 : Int) < (List.length r3.1 : Int))) then
            (bif (decide (0 ≤ (3 : Int)) && decide ((3 : Int) < (List.length r3.1 : Int))) then
              (bif (decide (0 ≤ (4 : Int)) && decide ((4 : Int) < (List.length r3.1 : Int))) then
                (Option.bind (G10_l0_run (((List.getD r3.1 (Int.toNat 4) 0), (0, ())), (((List.getD r3.1 (Int.toNat 0) 0), ((List.getD r3.1 (Int.toNat 1) 0), ((List.getD r3.1 (Int.toNat 2) 0), ((List.getD r3.1 (Int.toNat 3) 0), ([], ()))))), ([], (0, (r3.2.1, ())))))) fun q10 =>
                  (natK q10.1
                    (some ((0, (0, (0, (0, ([], ()))))), ([], (4, ()))))
                    (fun _ => (Option.bind (G10_l1_run ((), (q10.2.2.1, (q10.2.2.2.1, (q10.2.2.2.2.1, (q10.2.2.2.2.2.1, ())))))) fun q15 =>
                      (natK q15.1
                        (some ((0, (0, (0, (0, ([], ()))))), ([], (4, ()))))
                        (fun _ => (Option.bind (G32 (⟨#[101, 110, 100]⟩ : ByteArray) 1 q15.2.2.2.2.2.1) fun r16 =>
                          (altK r16
                            (fun r17 => some ((0, (0, (0, (0, ([], ()))))), ([], (4, ()))))
                            (fun r18 => (Option.bind (G32 (⟨#[101, 110, 100]⟩ : ByteArray) 1 q15.2.2.2.2.2.1) fun r19 =>
                              (altK r19
                                (fun r20 => none)
                                (fun r21 => (bif (decide (0 ≤ (0 : Int)) && decide ((0 : Int) < (List.length r21.1 : Int))) then
                                  (bif ((List.getD r21.1 (Int.toNat 0) 0) != (List.length q15.2.2.2.1 : Int)) then
                                    some ((0, (0, (0, (0, ([], ()))))), ([], (4, ())))
                                    else
                                    (bif (!(ByteArray.toList r21.2.1.1 == ByteArray.toList (⟨#[]⟩ : ByteArray))) then
                                      some ((0, (0, (0, (0, ([], ()))))), ([], (4, ())))
                                      else
                                      (Option.bind (G26_v6 q15.2.2.1 q15.2.2.2.1) fun r22 =>
                                        (altK r22
                                          (fun r23 => (bif (r23.1.2.1 != 0) then
                                            some ((0, (0, (0, (0, ([], ()))))), ([], (r23.1.2.1, ())))
                                            else
                                            some (q15.2.2.1, (q15.2.2.2.1, (0, ())))))
                                          (fun r24 => (bif (r24.1.2.1 != 0) then
                                            some ((0, (0, (0, (0, ([], ()))))), ([], (r24.1.2.1, ())))
                                            else
                                            some (q15.2.2.1, (q15.2.2.2.1, (0, ())))))))))
                                  else
                                  none)))))))))))))
                else
                none)
              else
              none)
            else
            none)
          else
          none)
        else
        none)))))
noncomputable def G10_E : CEnt := pureE 10 [.dat .str] (.tup (.cons (.dat T23) (.cons (.dat (.list T71)) (.cons (.dat (.int .i64)) (.nil))))) fun x => G10 x.1
theorem G10_l0_V : LValid 3 Tryz.prog (.loop G10_l0_c) G10_l0_L false := by
  have hb : ∀ s, codeR Tryz.prog G10_C G10_l0_c [] (G10_l0_S.encE s) (G10_l0_S.encB s) (kst G10_l0_S [.pan 75, .exit 0]) = G10_l0_step s := by
    intro s; kernel_rfl
  have hL : LV 3 Tryz.prog false (loopsOf G10_l0_c) [] := by unfold LV; cases loopsOf G10_l0_c <;> trivial
  exact loopT_valid (fuel := G10_l0_fuel) mixed G10_CV hL (by kernel_rfl) (by decide) rfl hb (fun s r h => h)
theorem G10_l1_V : LValid 3 Tryz.prog (.loop G10_l1_c) G10_l1_L false := by
  have hb : ∀ s, codeR Tryz.prog G10_C G10_l1_c [] (G10_l1_S.encE s) (G10_l1_S.encB s) (kst G10_l1_S [.pan 75, .exit 2]) = G10_l1_step s := by
    intro s; kernel_rfl
  have hL : LV 3 Tryz.prog false (loopsOf G10_l1_c) [] := by unfold LV; cases loopsOf G10_l1_c <;> trivial
  exact loopT_valid (fuel := G10_l1_fuel) mixed G10_CV hL (by kernel_rfl) (by decide) rfl hb (fun s r h => h)
theorem G10_LV : LV 3 Tryz.prog false (loopsOf (bodyOf Tryz.f10)) [G10_l0_L, G10_l1_L] := by
  have hl : loopsOf (bodyOf Tryz.f10) = [.loop G10_l0_c, .loop G10_l1_c] := by kernel_rfl
  rw [hl]; exact ⟨G10_l0_V, G10_l1_V, trivial⟩
theorem G10_ent : Ent Tryz.prog 10 := ⟨by decide, enters_of Tryz.func10 (by kernel_rfl) rfl⟩
theorem G10_hev : ∀ x : Els [.dat .str], fnD Tryz.prog G10_C 3 cloOps 31 75 3 13 [G10_l0_L, G10_l1_L] Tryz.f10 (bodyOf Tryz.f10) (encs [.dat .str] x) ⟨[], [], 0⟩ (frzV (.tup (.cons (.dat T23) (.cons (.dat (.list T71)) (.cons (.dat (.int .i64)) (.nil)))))) = G10 x.1 := by
  intro x; kernel_rfl
theorem G10_valid : G10_E.Valid Tryz.prog :=
  pureE_valid (by kernel_rfl) (by kernel_rfl) G10_ent (frzD_lcall mixed Tryz.func10 rfl G10_ent G10_CV clo_ok G10_LV (by kernel_rfl) G10_hev)
noncomputable def G12_C : CalT := tabC [G36_E]
theorem G12_CV : CV Tryz.prog G12_C := tabC_valid (l := _) ⟨G36_valid, trivial⟩
noncomputable def G12 (a0 : E23) (a1 : E23) : Option Bool :=
  (bif (a0.1 == a1.1) then
  (bif (a0.2.1 == a1.2.1) then
    (bif (a0.2.2.1 == a1.2.2.1) then
      (bif (a0.2.2.2.1 == a1.2.2.2.1) then
        (Option.bind (G36 a0.2.2.2.2.1 a1.2.2.2.2.1) fun r1 =>
          some r1)
        else
        some false)
      else
      some false)
    else
    some false)
  else
  some false)
noncomputable def G12_E : CEnt := pureE 12 [.dat T23, .dat T23] (.dat .bool) fun x => G12 x.1 x.2.1
theorem G12_LV : LV 0 Tryz.prog false (loopsOf (bodyOf Tryz.f12)) [] := by unfold LV; cases loopsOf (bodyOf Tryz.f12) <;> trivial
theorem G12_ent : Ent Tryz.prog 12 := ⟨by decide, enters_of Tryz.func12 (by kernel_rfl) rfl⟩
theorem G12_hev : ∀ x, fnR Tryz.prog G12_C [] Tryz.f12 (bodyOf Tryz.f12) (encs [.dat T23, .dat T23] x) ⟨[], [], 0⟩ (frzF (.dat .bool)) = G12 x.1 x.2.1 := by
  intro x; kernel_rfl
theorem G12_valid : G12_E.Valid Tryz.prog :=
  pureE_valid (by kernel_rfl) (by kernel_rfl) G12_ent (frz_lcall mixed Tryz.func12 rfl G12_ent G12_CV G12_LV (by kernel_rfl) (by kernel_rfl) G12_hev)
end Go.Proofs.YtibmgbalfhfcdaaGreatDoor.Abs
