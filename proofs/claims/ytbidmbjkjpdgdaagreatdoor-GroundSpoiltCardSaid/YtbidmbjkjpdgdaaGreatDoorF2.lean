import Derived.Test.YtbidmbjkjpdgdaaGreatDoorF1
set_option linter.unusedVariables false
set_option maxRecDepth 100000
namespace Go.Proofs.YtbidmbjkjpdgdaaGreatDoor.Abs
open Go.Shelf Go.Sort
noncomputable def G51_v1_C : CalT := tabC [G71_v1_E]
theorem G51_v1_CV : CV Tryz.prog G51_v1_C := tabC_valid (l := _) ⟨G71_v1_valid, trivial⟩
noncomputable def G51_v1_l0_c : Code := loopAt (bodyOf Tryz.f51) 0
noncomputable def G51_v1_l0_S : SPat := ⟨[.dat (.int .i64), .dat (.int .i64), .any, .any, .any, .any, .any, .any, .any, .fix (.func (.func 71) .nil (.cons (.bptr 5 []) (.cons (.bptr 3 []) .nil))), .any, .any, .any, .any, .any, .any, .any, .any, .any, .any, .any, .any, .any, .any, .any, .any, .any, .any, .any, .any, .any, .any], [.dat T25, .dat (.list T91), .dat (.int .i64), .fix (.func (.func 52) .nil (.cons (.bptr 0 []) (.cons (.bptr 1 []) (.cons (.bptr 2 []) .nil)))), .map (.int .i64) .bool, .fix (.mref 4)], 0⟩
noncomputable def G51_v1_l0_step (s : TY17) : Option TY18 :=
  (bif (decide (s.1.1 ≥ s.1.2.1)) then
  some (1, ((s.1.1, (s.1.2.1, ())), (s.2.1, (s.2.2.1, (s.2.2.2.1, (s.2.2.2.2.1, ()))))))
  else
  (Option.bind (G71_v1 (IntKind.wrap .i64 (s.1.1 + (IntKind.wrap .i64 (Int.tdiv (IntKind.wrap .i64 (s.1.2.1 - s.1.1)) 2)))) s.2.2.2.2.1 s.2.1 s.2.2.1 s.2.2.2.1) fun r1 =>
    (bif r1.1 then
      some (0, ((s.1.1, ((IntKind.wrap .i64 (s.1.1 + (IntKind.wrap .i64 (Int.tdiv (IntKind.wrap .i64 (s.1.2.1 - s.1.1)) 2)))), ())), (r1.2.2.1, (r1.2.2.2.1, (r1.2.2.2.2.1, (r1.2.1, ()))))))
      else
      some (0, (((IntKind.wrap .i64 ((IntKind.wrap .i64 (s.1.1 + (IntKind.wrap .i64 (Int.tdiv (IntKind.wrap .i64 (s.1.2.1 - s.1.1)) 2)))) + 1)), (s.1.2.1, ())), (r1.2.2.1, (r1.2.2.2.1, (r1.2.2.2.2.1, (r1.2.1, ())))))))))
noncomputable def G51_v1_l0_fuel (s : TY17) : Nat := 100000
noncomputable def G51_v1_l0_run (s : TY17) : Option TY18 := iter G51_v1_l0_step (G51_v1_l0_fuel s) s
noncomputable def G51_v1_l0_L : LoopT := loopT G51_v1_l0_S [.exit 0] G51_v1_l0_run
noncomputable def G51_v1 (a0 : Int) (a1 : Int) (b2 : E25) (b3 : (List E91)) (b4 : Int) : Option ((Int × (Bool × Unit)) × (E25 × ((List E91) × (Int × Unit)))) :=
  (Option.bind (G51_v1_l0_run ((a0, (a1, ())), (b2, (b3, (b4, (([] : List (Int × Bool)), ())))))) fun q2 =>
  (Option.bind (G71_v1 q2.2.1.1 q2.2.2.2.2.2.1 q2.2.2.1 q2.2.2.2.1 q2.2.2.2.2.1) fun r3 =>
    some ((q2.2.1.1, (r3.1, ())), (r3.2.2.1, (r3.2.2.2.1, (r3.2.2.2.2.1, ()))))))
abbrev G51_v1_CS : CSpec := ⟨[.dat (.int .i64), .dat (.int .i64), .fix (.func (.func 52) .nil (.cons (.bptr 0 []) (.cons (.bptr 1 []) (.cons (.bptr 2 []) .nil))))], [.dat T25, .dat (.list T91), .dat (.int .i64)], 0, [.dat T25, .dat (.list T91), .dat (.int .i64)], 0, .tup (.cons (.dat (.int .i64)) (.cons (.dat .bool) (.nil)))⟩
noncomputable def G51_v1_E : CEnt := boxE 51 G51_v1_CS fun x => G51_v1 x.1.1 x.1.2.1 x.2.1 x.2.2.1 x.2.2.2.1
theorem G51_v1_l0_V : LValid 3 Tryz.prog (.loop G51_v1_l0_c) G51_v1_l0_L false := by
  have hb : ∀ s, codeR Tryz.prog G51_v1_C G51_v1_l0_c [] (G51_v1_l0_S.encE s) (G51_v1_l0_S.encB s) (kst G51_v1_l0_S [.exit 0]) = G51_v1_l0_step s := by
    intro s; kernel_rfl
  have hL : LV 3 Tryz.prog false (loopsOf G51_v1_l0_c) [] := by unfold LV; cases loopsOf G51_v1_l0_c <;> trivial
  exact loopT_valid (fuel := G51_v1_l0_fuel) mixed G51_v1_CV hL (by kernel_rfl) (by decide) rfl hb (fun s r h => h)
theorem G51_v1_LV : LV 3 Tryz.prog false (loopsOf (bodyOf Tryz.f51)) [G51_v1_l0_L] := by
  have hl : loopsOf (bodyOf Tryz.f51) = [.loop G51_v1_l0_c] := by kernel_rfl
  rw [hl]; exact ⟨G51_v1_l0_V, trivial⟩
theorem G51_v1_ent : Ent Tryz.prog 51 := ⟨by decide, enters_of Tryz.func51 (by kernel_rfl) rfl⟩
theorem G51_v1_hev : ∀ x : G51_v1_CS.In, fnR Tryz.prog G51_v1_C [G51_v1_l0_L] Tryz.f51 (bodyOf Tryz.f51) (encs G51_v1_CS.A x.1) ⟨encs G51_v1_CS.I x.2, [], G51_v1_CS.nt⟩ (finK G51_v1_CS) = G51_v1 x.1.1 x.1.2.1 x.2.1 x.2.2.1 x.2.2.2.1 := by
  intro x; kernel_rfl
theorem G51_v1_valid : G51_v1_E.Valid Tryz.prog :=
  boxE_valid (S := G51_v1_CS) (by kernel_rfl) (.inr G51_v1_ent) (fn_lcall (S := G51_v1_CS) mixed Tryz.func51 rfl G51_v1_ent G51_v1_CV G51_v1_LV (by kernel_rfl) (by kernel_rfl) G51_v1_hev)
noncomputable def G19_C : CalT := tabC [G48_E, G37_E, G51_v1_E]
theorem G19_CV : CV Tryz.prog G19_C := tabC_valid (l := _) ⟨G48_valid, G37_valid, G51_v1_valid, trivial⟩
noncomputable def G19 (a0 : E25) (a1 : (List E91)) (a2 : Int) : Option (Int × (Int × Unit)) :=
  (Option.bind (G48 a2) fun r1 =>
  (Option.bind (G37 a0 a1 r1) fun r2 =>
    (bif (r2 != 0) then
      some (0, (r2, ()))
      else
      (Option.bind (G51_v1 0 1000000 a0 a1 a2) fun r3 =>
        (bif (!r3.1.2.1) then
          some (0, (5, ()))
          else
          some (r3.1.1, (0, ())))))))
noncomputable def G19_E : CEnt := pureE 19 [.dat T25, .dat (.list T91), .dat (.int .i64)] (.tup (.cons (.dat (.int .i64)) (.cons (.dat (.int .i64)) (.nil)))) fun x => G19 x.1 x.2.1 x.2.2.1
theorem G19_LV : LV 0 Tryz.prog false (loopsOf (bodyOf Tryz.f19)) [] := by unfold LV; cases loopsOf (bodyOf Tryz.f19) <;> trivial
theorem G19_ent : Ent Tryz.prog 19 := ⟨by decide, enters_of Tryz.func19 (by kernel_rfl) rfl⟩
theorem G19_hev : ∀ x, fnR Tryz.prog G19_C [] Tryz.f19 (bodyOf Tryz.f19) (encs [.dat T25, .dat (.list T91), .dat (.int .i64)] x) ⟨[], [], 0⟩ (frzF (.tup (.cons (.dat (.int .i64)) (.cons (.dat (.int .i64)) (.nil))))) = G19 x.1 x.2.1 x.2.2.1 := by
  intro x; kernel_rfl
theorem G19_valid : G19_E.Valid Tryz.prog :=
  pureE_valid (by kernel_rfl) (by kernel_rfl) G19_ent (frz_lcall mixed Tryz.func19 rfl G19_ent G19_CV G19_LV (by kernel_rfl) (by kernel_rfl) G19_hev)
noncomputable def G24_C : CalT := tabC [itoaM_E]
theorem G24_CV : CV Tryz.prog G24_C := tabC_valid (l := _) ⟨itoaM_valid, trivial⟩
noncomputable def G24_l0_c : Code := loopAt (bodyOf Tryz.f24) 0
noncomputable def G24_l0_S : SPat := ⟨[.dat .str, .any, .any, .any, .any, .any, .any, .dat (.list (.int .i64)), .dat (.int .i64), .dat (.int .i64), .any, .any, .any, .any, .any, .any, .any, .any, .any, .any, .any], [], 0⟩
noncomputable def G24_l0_step (s : ((ByteArray × ((List Int) × (Int × (Int × Unit)))) × Unit)) : Option (Nat × ((ByteArray × ((List Int) × (Int × (Int × Unit)))) × Unit)) :=
  (bif (decide (s.1.2.2.2.1 < s.1.2.2.1)) then
  (bif (decide (0 ≤ s.1.2.2.2.1) && decide (s.1.2.2.2.1 < (List.length s.1.2.1 : Int))) then
    (Option.bind (itoaM (List.getD s.1.2.1 (Int.toNat s.1.2.2.2.1) 0)) fun r1 =>
      (bif (decide (ByteArray.size (⟨#[32]⟩ : ByteArray) + ByteArray.size r1 ≤ LIM)) then
        (bif (decide (ByteArray.size s.1.1 + ByteArray.size (ByteArray.append (⟨#[32]⟩ : ByteArray) r1) ≤ LIM)) then
          some (0, (((ByteArray.append s.1.1 (ByteArray.append (⟨#[32]⟩ : ByteArray) r1)), (s.1.2.1, (s.1.2.2.1, ((IntKind.wrap .i64 (s.1.2.2.2.1 + 1)), ())))), ()))
          else
          none)
        else
        none))
    else
    none)
  else
  some (1, ((s.1.1, (s.1.2.1, (s.1.2.2.1, (s.1.2.2.2.1, ())))), ())))
noncomputable def G24_l0_fuel (s : ((ByteArray × ((List Int) × (Int × (Int × Unit)))) × Unit)) : Nat := Int.toNat (s.1.2.2.1 - s.1.2.2.2.1) + 1
noncomputable def G24_l0_run (s : ((ByteArray × ((List Int) × (Int × (Int × Unit)))) × Unit)) : Option (Nat × ((ByteArray × ((List Int) × (Int × (Int × Unit)))) × Unit)) := iter G24_l0_step (G24_l0_fuel s) s
noncomputable def G24_l0_L : LoopT := loopT G24_l0_S [.exit 0] G24_l0_run
noncomputable def G24 (a0 : ByteArray) (a1 : (List Int)) : Option ByteArray :=
  (Option.bind (G24_l0_run ((a0, (a1, ((List.length a1 : Int), (0, ())))), ())) fun q2 =>
  (bif (decide (ByteArray.size q2.2.1.1 + ByteArray.size (⟨#[10]⟩ : ByteArray) ≤ LIM)) then
    some (ByteArray.append q2.2.1.1 (⟨#[10]⟩ : ByteArray))
    else
    none))
noncomputable def G24_E : CEnt := pureE 24 [.dat .str, .dat (.list (.int .i64))] (.dat .str) fun x => G24 x.1 x.2.1
theorem G24_l0_V : LValid 0 Tryz.prog (.loop G24_l0_c) G24_l0_L false := by
  have hb : ∀ s, codeR Tryz.prog G24_C G24_l0_c [] (G24_l0_S.encE s) (G24_l0_S.encB s) (kst G24_l0_S [.exit 0]) = G24_l0_step s := by
    intro s; kernel_rfl
  have hL : LV 0 Tryz.prog false (loopsOf G24_l0_c) [] := by unfold LV; cases loopsOf G24_l0_c <;> trivial
  exact loopT_valid (fuel := G24_l0_fuel) mixed G24_CV hL (by kernel_rfl) (by decide) rfl hb (fun s r h => h)
theorem G24_LV : LV 0 Tryz.prog false (loopsOf (bodyOf Tryz.f24)) [G24_l0_L] := by
  have hl : loopsOf (bodyOf Tryz.f24) = [.loop G24_l0_c] := by kernel_rfl
  rw [hl]; exact ⟨G24_l0_V, trivial⟩
theorem G24_ent : Ent Tryz.prog 24 := ⟨by decide, enters_of Tryz.func24 (by kernel_rfl) rfl⟩
theorem G24_hev : ∀ x, fnR Tryz.prog G24_C [G24_l0_L] Tryz.f24 (bodyOf Tryz.f24) (encs [.dat .str, .dat (.list (.int .i64))] x) ⟨[], [], 0⟩ (frzF (.dat .str)) = G24 x.1 x.2.1 := by
  intro x; kernel_rfl
theorem G24_valid : G24_E.Valid Tryz.prog :=
  pureE_valid (by kernel_rfl) (by kernel_rfl) G24_ent (frz_lcall mixed Tryz.func24 rfl G24_ent G24_CV G24_LV (by kernel_rfl) (by kernel_rfl) G24_hev)
noncomputable def G25_C : CalT := tabC []
theorem G25_CV : CV Tryz.prog G25_C := tabC_valid (l := _) trivial
noncomputable def G25_l0_c : Code := loopAt (bodyOf Tryz.f25) 0
noncomputable def G25_l0_S : SPat := ⟨[.dat .str, .any, .any, .dat (.int .i64), .any, .any, .dat (.int .i64), .dat (.int .i64), .any, .any, .any, .any, .any, .any, .any, .any, .any, .any, .any, .any, .any, .any, .any, .any, .any, .any, .any, .any, .any, .any, .any, .any, .any], [], 0⟩
noncomputable def G25_l0_step (s : ((ByteArray × (Int × (Int × (Int × Unit)))) × Unit)) : Option (Nat × ((ByteArray × (Int × (Int × (Int × Unit)))) × Unit)) :=
  (bif (decide (s.1.2.2.2.1 < s.1.2.2.1)) then
  (bif (decide (0 ≤ s.1.2.2.2.1) && decide (s.1.2.2.2.1 < (ByteArray.size s.1.1 : Int))) then
    some (0, ((s.1.1, ((Int.tmod (IntKind.wrap .i64 (s.1.2.1 + (IntKind.wrap .i64 (bt s.1.1 s.1.2.2.2.1)))) 251), (s.1.2.2.1, ((IntKind.wrap .i64 (s.1.2.2.2.1 + 1)), ())))), ()))
    else
    none)
  else
  some (1, ((s.1.1, (s.1.2.1, (s.1.2.2.1, (s.1.2.2.2.1, ())))), ())))
noncomputable def G25_l0_fuel (s : ((ByteArray × (Int × (Int × (Int × Unit)))) × Unit)) : Nat := Int.toNat (s.1.2.2.1 - s.1.2.2.2.1) + 1
noncomputable def G25_l0_run (s : ((ByteArray × (Int × (Int × (Int × Unit)))) × Unit)) : Option (Nat × ((ByteArray × (Int × (Int × (Int × Unit)))) × Unit)) := iter G25_l0_step (G25_l0_fuel s) s
noncomputable def G25_l0_L : LoopT := loopT G25_l0_S [.exit 0] G25_l0_run
noncomputable def G25 (a0 : ByteArray) : Option ByteArray :=
  (Option.bind (G25_l0_run ((a0, (0, ((ByteArray.size a0 : Int), (0, ())))), ())) fun q1 =>
  (bif (decide (0 ≤ (IntKind.wrap .i64 (Int.tdiv q1.2.1.2.1 16))) && decide ((IntKind.wrap .i64 (Int.tdiv q1.2.1.2.1 16)) ≤ (IntKind.wrap .i64 ((IntKind.wrap .i64 (Int.tdiv q1.2.1.2.1 16)) + 1))) && decide ((IntKind.wrap .i64 ((IntKind.wrap .i64 (Int.tdiv q1.2.1.2.1 16)) + 1)) ≤ (ByteArray.size (⟨#[48, 49, 50, 51, 52, 53, 54, 55, 56, 57, 97, 98, 99, 100, 101, 102]⟩ : ByteArray) : Int))) then
    (bif (decide (ByteArray.size (⟨#[101, 110, 100, 32]⟩ : ByteArray) + ByteArray.size (ByteArray.extract (⟨#[48, 49, 50, 51, 52, 53, 54, 55, 56, 57, 97, 98, 99, 100, 101, 102]⟩ : ByteArray) (Int.toNat (IntKind.wrap .i64 (Int.tdiv q1.2.1.2.1 16))) (Int.toNat (IntKind.wrap .i64 ((IntKind.wrap .i64 (Int.tdiv q1.2.1.2.1 16)) + 1)))) ≤ LIM)) then
      (bif (decide (0 ≤ (Int.tmod q1.2.1.2.1 16)) && decide ((Int.tmod q1.2.1.2.1 16) ≤ (IntKind.wrap .i64 ((Int.tmod q1.2.1.2.1 16) + 1))) && decide ((IntKind.wrap .i64 ((Int.tmod q1.2.1.2.1 16) + 1)) ≤ (ByteArray.size (⟨#[48, 49, 50, 51, 52, 53, 54, 55, 56, 57, 97, 98, 99, 100, 101, 102]⟩ : ByteArray) : Int))) then
        (bif (decide (ByteArray.size (ByteArray.append (⟨#[101, 110, 100, 32]⟩ : ByteArray) (ByteArray.extract (⟨#[48, 49, 50, 51, 52, 53, 54, 55, 56, 57, 97, 98, 99, 100, 101, 102]⟩ : ByteArray) (Int.toNat (IntKind.wrap .i64 (Int.tdiv q1.2.1.2.1 16))) (Int.toNat (IntKind.wrap .i64 ((IntKind.wrap .i64 (Int.tdiv q1.2.1.2.1 16)) + 1))))) + ByteArray.size (ByteArray.extract (⟨#[48, 49, 50, 51, 52, 53, 54, 55, 56, 57, 97, 98, 99, 100, 101, 102]⟩ : ByteArray) (Int.toNat (Int.tmod q1.2.1.2.1 16)) (Int.toNat (IntKind.wrap .i64 ((Int.tmod q1.2.1.2.1 16) + 1)))) ≤ LIM)) then
          (bif (decide (ByteArray.size (ByteArray.append (ByteArray.append (⟨#[101, 110, 100, 32]⟩ : ByteArray) (ByteArray.extract (⟨#[48, 49, 50, 51, 52, 53, 54, 55, 56, 57, 97, 98, 99, 100, 101, 102]⟩ : ByteArray) (Int.toNat (IntKind.wrap .i64 (Int.tdiv q1.2.1.2.1 16))) (Int.toNat (IntKind.wrap .i64 ((IntKind.wrap .i64 (Int.tdiv q1.2.1.2.1 16)) + 1))))) (ByteArray.extract (⟨#[48, 49, 50, 51, 52, 53, 54, 55, 56, 57, 97, 98, 99, 100, 101, 102]⟩ : ByteArray) (Int.toNat (Int.tmod q1.2.1.2.1 16)) (Int.toNat (IntKind.wrap .i64 ((Int.tmod q1.2.1.2.1 16) + 1))))) + ByteArray.size (⟨#[10]⟩ : ByteArray) ≤ LIM)) then
            some (ByteArray.append (ByteArray.append (ByteArray.append (⟨#[101, 110, 100, 32]⟩ : ByteArray) (ByteArray.extract (⟨#[48, 49, 50, 51, 52, 53, 54, 55, 56, 57, 97, 98, 99, 100, 101, 102]⟩ : ByteArray) (Int.toNat (IntKind.wrap .i64 (Int.tdiv q1.2.1.2.1 16))) (Int.toNat (IntKind.wrap .i64 ((IntKind.wrap .i64 (Int.tdiv q1.2.1.2.1 16)) + 1))))) (ByteArray.extract (⟨#[48, 49, 50, 51, 52, 53, 54, 55, 56, 57, 97, 98, 99, 100, 101, 102]⟩ : ByteArray) (Int.toNat (Int.tmod q1.2.1.2.1 16)) (Int.toNat (IntKind.wrap .i64 ((Int.tmod q1.2.1.2.1 16) + 1))))) (⟨#[10]⟩ : ByteArray))
            else
            none)
          else
          none)
        else
        none)
      else
      none)
    else
    none))
noncomputable def G25_E : CEnt := pureE 25 [.dat .str] (.dat .str) fun x => G25 x.1
theorem G25_l0_V : LValid 0 Tryz.prog (.loop G25_l0_c) G25_l0_L false := by
  have hb : ∀ s, codeR Tryz.prog G25_C G25_l0_c [] (G25_l0_S.encE s) (G25_l0_S.encB s) (kst G25_l0_S [.exit 0]) = G25_l0_step s := by
    intro s; kernel_rfl
  have hL : LV 0 Tryz.prog false (loopsOf G25_l0_c) [] := by unfold LV; cases loopsOf G25_l0_c <;> trivial
  exact loopT_valid (fuel := G25_l0_fuel) mixed G25_CV hL (by kernel_rfl) (by decide) rfl hb (fun s r h => h)
theorem G25_LV : LV 0 Tryz.prog false (loopsOf (bodyOf Tryz.f25)) [G25_l0_L] := by
  have hl : loopsOf (bodyOf Tryz.f25) = [.loop G25_l0_c] := by kernel_rfl
  rw [hl]; exact ⟨G25_l0_V, trivial⟩
theorem G25_ent : Ent Tryz.prog 25 := ⟨by decide, enters_of Tryz.func25 (by kernel_rfl) rfl⟩
theorem G25_hev : ∀ x, fnR Tryz.prog G25_C [G25_l0_L] Tryz.f25 (bodyOf Tryz.f25) (encs [.dat .str] x) ⟨[], [], 0⟩ (frzF (.dat .str)) = G25 x.1 := by
  intro x; kernel_rfl
theorem G25_valid : G25_E.Valid Tryz.prog :=
  pureE_valid (by kernel_rfl) (by kernel_rfl) G25_ent (frz_lcall mixed Tryz.func25 rfl G25_ent G25_CV G25_LV (by kernel_rfl) (by kernel_rfl) G25_hev)
noncomputable def G7_C : CalT := tabC [G23_E, G24_E, G25_E]
theorem G7_CV : CV Tryz.prog G7_C := tabC_valid (l := _) ⟨G23_valid, G24_valid, G25_valid, trivial⟩
noncomputable def G7_l0_c : Code := loopAt (bodyOf Tryz.f7) 0
noncomputable def G7_l0_S : SPat := ⟨[.any, .any, .any, .any, .dat .str, .any, .any, .any, .any, .any, .any, .any, .any, .any, .any, .any, .any, .any, .any, .any, .any, .any, .dat (.list T65), .dat (.int .i64), .dat (.int .i64), .any, .any, .any, .any, .any, .any, .any, .any, .any, .any, .any, .any, .any, .any, .any, .any, .any, .any, .any, .any], [.dat T25], 0⟩
abbrev TY19 : Type := (Nat × ((ByteArray × ((List E65) × (Int × (Int × Unit)))) × (E25 × Unit)))
noncomputable def G7_l0_step (s : ((ByteArray × ((List E65) × (Int × (Int × Unit)))) × (E25 × Unit))) : Option TY19 :=
  (bif (decide (s.1.2.2.2.1 < s.1.2.2.1)) then
  (bif (decide (0 ≤ s.1.2.2.2.1) && decide (s.1.2.2.2.1 < (List.length s.1.2.1 : Int))) then
    (Option.bind (G24 (⟨#[108, 97, 121, 101, 114]⟩ : ByteArray) [(List.getD s.1.2.1 (Int.toNat s.1.2.2.2.1) (0, ((0, (0, ())), ()))).1, (List.getD s.1.2.1 (Int.toNat s.1.2.2.2.1) (0, ((0, (0, ())), ()))).2.1.1, (List.getD s.1.2.1 (Int.toNat s.1.2.2.2.1) (0, ((0, (0, ())), ()))).2.1.2.1]) fun r3 =>
      (bif (decide (ByteArray.size s.1.1 + ByteArray.size r3 ≤ LIM)) then
        some (0, (((ByteArray.append s.1.1 r3), (s.1.2.1, (s.1.2.2.1, ((IntKind.wrap .i64 (s.1.2.2.2.1 + 1)), ())))), (s.2.1, ())))
        else
        none))
    else
    none)
  else
  some (1, ((s.1.1, (s.1.2.1, (s.1.2.2.1, (s.1.2.2.2.1, ())))), (s.2.1, ()))))
noncomputable def G7_l0_fuel (s : ((ByteArray × ((List E65) × (Int × (Int × Unit)))) × (E25 × Unit))) : Nat := Int.toNat (s.1.2.2.1 - s.1.2.2.2.1) + 1
noncomputable def G7_l0_run (s : ((ByteArray × ((List E65) × (Int × (Int × Unit)))) × (E25 × Unit))) : Option TY19 := iter G7_l0_step (G7_l0_fuel s) s
noncomputable def G7_l0_L : LoopT := loopT G7_l0_S [.exit 0] G7_l0_run
noncomputable def G7 (a0 : E25) : Option (ByteArray × (Int × Unit)) :=
  (Option.bind (G23 a0) fun r1 =>
  (bif (!r1) then
    some ((⟨#[]⟩ : ByteArray), (2, ()))
    else
    (Option.bind (G24 (⟨#[104, 111, 108, 101]⟩ : ByteArray) [(List.length a0.1 : Int), a0.2.1.1, a0.2.1.2.1]) fun r2 =>
      (Option.bind (G7_l0_run ((r2, (a0.1, ((List.length a0.1 : Int), (0, ())))), (a0, ()))) fun q4 =>
        (Option.bind (G25 q4.2.1.1) fun r5 =>
          (bif (decide (ByteArray.size q4.2.1.1 + ByteArray.size r5 ≤ LIM)) then
            some ((ByteArray.append q4.2.1.1 r5), (0, ()))
            else
            none))))))
noncomputable def G7_E : CEnt := pureE 7 [.dat T25] (.tup (.cons (.dat .str) (.cons (.dat (.int .i64)) (.nil)))) fun x => G7 x.1
theorem G7_l0_V : LValid 0 Tryz.prog (.loop G7_l0_c) G7_l0_L false := by
  have hb : ∀ s, codeR Tryz.prog G7_C G7_l0_c [] (G7_l0_S.encE s) (G7_l0_S.encB s) (kst G7_l0_S [.exit 0]) = G7_l0_step s := by
    intro s; kernel_rfl
  have hL : LV 0 Tryz.prog false (loopsOf G7_l0_c) [] := by unfold LV; cases loopsOf G7_l0_c <;> trivial
  exact loopT_valid (fuel := G7_l0_fuel) mixed G7_CV hL (by kernel_rfl) (by decide) rfl hb (fun s r h => h)
theorem G7_LV : LV 0 Tryz.prog false (loopsOf (bodyOf Tryz.f7)) [G7_l0_L] := by
  have hl : loopsOf (bodyOf Tryz.f7) = [.loop G7_l0_c] := by kernel_rfl
  rw [hl]; exact ⟨G7_l0_V, trivial⟩
theorem G7_ent : Ent Tryz.prog 7 := ⟨by decide, enters_of Tryz.func7 (by kernel_rfl) rfl⟩
theorem G7_hev : ∀ x, fnR Tryz.prog G7_C [G7_l0_L] Tryz.f7 (bodyOf Tryz.f7) (encs [.dat T25] x) ⟨[], [], 0⟩ (frzF (.tup (.cons (.dat .str) (.cons (.dat (.int .i64)) (.nil))))) = G7 x.1 := by
  intro x; kernel_rfl
theorem G7_valid : G7_E.Valid Tryz.prog :=
  pureE_valid (by kernel_rfl) (by kernel_rfl) G7_ent (frz_lcall mixed Tryz.func7 rfl G7_ent G7_CV G7_LV (by kernel_rfl) (by kernel_rfl) G7_hev)
noncomputable def G21_C : CalT := tabC []
theorem G21_CV : CV Tryz.prog G21_C := tabC_valid (l := _) trivial
noncomputable def G21_l0_c : Code := loopAt (bodyOf Tryz.f21) 0
noncomputable def G21_l0_S : SPat := ⟨[.dat (.list T60), .dat (.list T60), .any, .any, .dat .bool, .dat (.int .i64), .any, .any, .any, .any, .any, .any, .any, .any, .any, .any, .any, .any, .any, .any, .any, .any, .any, .any, .any, .any], [], 0⟩
noncomputable def G21_l0_step (s : (((List E60) × ((List E60) × (Bool × (Int × Unit)))) × Unit)) : Option (Nat × (((List E60) × ((List E60) × (Bool × (Int × Unit)))) × Unit)) :=
  (bif (decide (s.1.2.2.2.1 < (List.length s.1.1 : Int))) then
  (bif (decide (0 ≤ s.1.2.2.2.1) && decide (s.1.2.2.2.1 < (List.length s.1.1 : Int))) then
    (bif (decide (0 ≤ s.1.2.2.2.1) && decide (s.1.2.2.2.1 < (List.length s.1.2.1 : Int))) then
      (bif (!((((List.getD s.1.1 (Int.toNat s.1.2.2.2.1) ((0, (0, ())), ((0, (0, ())), (0, ())))).1.1 == (List.getD s.1.2.1 (Int.toNat s.1.2.2.2.1) ((0, (0, ())), ((0, (0, ())), (0, ())))).1.1) && (((List.getD s.1.1 (Int.toNat s.1.2.2.2.1) ((0, (0, ())), ((0, (0, ())), (0, ())))).1.2.1 == (List.getD s.1.2.1 (Int.toNat s.1.2.2.2.1) ((0, (0, ())), ((0, (0, ())), (0, ())))).1.2.1) && true)) && ((((List.getD s.1.1 (Int.toNat s.1.2.2.2.1) ((0, (0, ())), ((0, (0, ())), (0, ())))).2.1.1 == (List.getD s.1.2.1 (Int.toNat s.1.2.2.2.1) ((0, (0, ())), ((0, (0, ())), (0, ())))).2.1.1) && (((List.getD s.1.1 (Int.toNat s.1.2.2.2.1) ((0, (0, ())), ((0, (0, ())), (0, ())))).2.1.2.1 == (List.getD s.1.2.1 (Int.toNat s.1.2.2.2.1) ((0, (0, ())), ((0, (0, ())), (0, ())))).2.1.2.1) && true)) && (((List.getD s.1.1 (Int.toNat s.1.2.2.2.1) ((0, (0, ())), ((0, (0, ())), (0, ())))).2.2.1 == (List.getD s.1.2.1 (Int.toNat s.1.2.2.2.1) ((0, (0, ())), ((0, (0, ())), (0, ())))).2.2.1) && true)))) then
        some (1, ((s.1.1, (s.1.2.1, (false, (s.1.2.2.2.1, ())))), ()))
        else
        some (0, ((s.1.1, (s.1.2.1, (s.1.2.2.1, ((IntKind.wrap .i64 (s.1.2.2.2.1 + 1)), ())))), ())))
      else
      none)
    else
    none)
  else
  some (2, ((s.1.1, (s.1.2.1, (s.1.2.2.1, (s.1.2.2.2.1, ())))), ())))
noncomputable def G21_l0_fuel (s : (((List E60) × ((List E60) × (Bool × (Int × Unit)))) × Unit)) : Nat := Int.toNat ((List.length s.1.1 : Int) - s.1.2.2.2.1) + 1
noncomputable def G21_l0_run (s : (((List E60) × ((List E60) × (Bool × (Int × Unit)))) × Unit)) : Option (Nat × (((List E60) × ((List E60) × (Bool × (Int × Unit)))) × Unit)) := iter G21_l0_step (G21_l0_fuel s) s
noncomputable def G21_l0_L : LoopT := loopT G21_l0_S [.ret, .exit 0] G21_l0_run
noncomputable def G21 (a0 : (List E60)) (a1 : (List E60)) : Option Bool :=
  (bif ((List.length a0 : Int) != (List.length a1 : Int)) then
  some false
  else
  (Option.bind (G21_l0_run ((a0, (a1, (false, (0, ())))), ())) fun q1 =>
    (natK q1.1
      (some q1.2.1.2.2.1)
      (fun _ => some true))))
noncomputable def G21_E : CEnt := pureE 21 [.dat (.list T60), .dat (.list T60)] (.dat .bool) fun x => G21 x.1 x.2.1
theorem G21_l0_V : LValid 0 Tryz.prog (.loop G21_l0_c) G21_l0_L false := by
  have hb : ∀ s, codeR Tryz.prog G21_C G21_l0_c [] (G21_l0_S.encE s) (G21_l0_S.encB s) (kst G21_l0_S [.ret, .exit 0]) = G21_l0_step s := by
    intro s; kernel_rfl
  have hL : LV 0 Tryz.prog false (loopsOf G21_l0_c) [] := by unfold LV; cases loopsOf G21_l0_c <;> trivial
  exact loopT_valid (fuel := G21_l0_fuel) mixed G21_CV hL (by kernel_rfl) (by decide) rfl hb (fun s r h => h)
theorem G21_LV : LV 0 Tryz.prog false (loopsOf (bodyOf Tryz.f21)) [G21_l0_L] := by
  have hl : loopsOf (bodyOf Tryz.f21) = [.loop G21_l0_c] := by kernel_rfl
  rw [hl]; exact ⟨G21_l0_V, trivial⟩
theorem G21_ent : Ent Tryz.prog 21 := ⟨by decide, enters_of Tryz.func21 (by kernel_rfl) rfl⟩
theorem G21_hev : ∀ x, fnR Tryz.prog G21_C [G21_l0_L] Tryz.f21 (bodyOf Tryz.f21) (encs [.dat (.list T60), .dat (.list T60)] x) ⟨[], [], 0⟩ (frzF (.dat .bool)) = G21 x.1 x.2.1 := by
  intro x; kernel_rfl
theorem G21_valid : G21_E.Valid Tryz.prog :=
  pureE_valid (by kernel_rfl) (by kernel_rfl) G21_ent (frz_lcall mixed Tryz.func21 rfl G21_ent G21_CV G21_LV (by kernel_rfl) (by kernel_rfl) G21_hev)
noncomputable def G22_C : CalT := tabC []
theorem G22_CV : CV Tryz.prog G22_C := tabC_valid (l := _) trivial
noncomputable def G22_l0_c : Code := loopAt (bodyOf Tryz.f22) 0
noncomputable def G22_l0_S : SPat := ⟨[.dat (.list (.int .i64)), .dat (.list (.int .i64)), .any, .any, .dat .bool, .dat (.int .i64), .any, .any, .any, .any, .any, .any, .any, .any, .any, .any, .any, .any, .any, .any, .any, .any, .any, .any, .any, .any], [], 0⟩
noncomputable def G22_l0_step (s : (((List Int) × ((List Int) × (Bool × (Int × Unit)))) × Unit)) : Option (Nat × (((List Int) × ((List Int) × (Bool × (Int × Unit)))) × Unit)) :=
  (bif (decide (s.1.2.2.2.1 < (List.length s.1.1 : Int))) then
  (bif (decide (0 ≤ s.1.2.2.2.1) && decide (s.1.2.2.2.1 < (List.length s.1.1 : Int))) then
    (bif (decide (0 ≤ s.1.2.2.2.1) && decide (s.1.2.2.2.1 < (List.length s.1.2.1 : Int))) then
      (bif ((List.getD s.1.1 (Int.toNat s.1.2.2.2.1) 0) != (List.getD s.1.2.1 (Int.toNat s.1.2.2.2.1) 0)) then
        some (1, ((s.1.1, (s.1.2.1, (false, (s.1.2.2.2.1, ())))), ()))
        else
        some (0, ((s.1.1, (s.1.2.1, (s.1.2.2.1, ((IntKind.wrap .i64 (s.1.2.2.2.1 + 1)), ())))), ())))
      else
      none)
    else
    none)
  else
  some (2, ((s.1.1, (s.1.2.1, (s.1.2.2.1, (s.1.2.2.2.1, ())))), ())))
noncomputable def G22_l0_fuel (s : (((List Int) × ((List Int) × (Bool × (Int × Unit)))) × Unit)) : Nat := Int.toNat ((List.length s.1.1 : Int) - s.1.2.2.2.1) + 1
noncomputable def G22_l0_run (s : (((List Int) × ((List Int) × (Bool × (Int × Unit)))) × Unit)) : Option (Nat × (((List Int) × ((List Int) × (Bool × (Int × Unit)))) × Unit)) := iter G22_l0_step (G22_l0_fuel s) s
noncomputable def G22_l0_L : LoopT := loopT G22_l0_S [.ret, .exit 0] G22_l0_run
noncomputable def G22 (a0 : (List Int)) (a1 : (List Int)) : Option Bool :=
  (bif ((List.length a0 : Int) != (List.length a1 : Int)) then
  some false
  else
  (Option.bind (G22_l0_run ((a0, (a1, (false, (0, ())))), ())) fun q1 =>
    (natK q1.1
      (some q1.2.1.2.2.1)
      (fun _ => some true))))
noncomputable def G22_E : CEnt := pureE 22 [.dat (.list (.int .i64)), .dat (.list (.int .i64))] (.dat .bool) fun x => G22 x.1 x.2.1
theorem G22_l0_V : LValid 0 Tryz.prog (.loop G22_l0_c) G22_l0_L false := by
  have hb : ∀ s, codeR Tryz.prog G22_C G22_l0_c [] (G22_l0_S.encE s) (G22_l0_S.encB s) (kst G22_l0_S [.ret, .exit 0]) = G22_l0_step s := by
    intro s; kernel_rfl
  have hL : LV 0 Tryz.prog false (loopsOf G22_l0_c) [] := by unfold LV; cases loopsOf G22_l0_c <;> trivial
  exact loopT_valid (fuel := G22_l0_fuel) mixed G22_CV hL (by kernel_rfl) (by decide) rfl hb (fun s r h => h)
theorem G22_LV : LV 0 Tryz.prog false (loopsOf (bodyOf Tryz.f22)) [G22_l0_L] := by
  have hl : loopsOf (bodyOf Tryz.f22) = [.loop G22_l0_c] := by kernel_rfl
  rw [hl]; exact ⟨G22_l0_V, trivial⟩
theorem G22_ent : Ent Tryz.prog 22 := ⟨by decide, enters_of Tryz.func22 (by kernel_rfl) rfl⟩
theorem G22_hev : ∀ x, fnR Tryz.prog G22_C [G22_l0_L] Tryz.f22 (bodyOf Tryz.f22) (encs [.dat (.list (.int .i64)), .dat (.list (.int .i64))] x) ⟨[], [], 0⟩ (frzF (.dat .bool)) = G22 x.1 x.2.1 := by
  intro x; kernel_rfl
theorem G22_valid : G22_E.Valid Tryz.prog :=
  pureE_valid (by kernel_rfl) (by kernel_rfl) G22_ent (frz_lcall mixed Tryz.func22 rfl G22_ent G22_CV G22_LV (by kernel_rfl) (by kernel_rfl) G22_hev)
noncomputable def G6_C : CalT := tabC [G14_E, G15_E, G13_E, G16_E, G17_E, G18_E, G19_E, G7_E, G20_E, G21_E, G22_E]
theorem G6_CV : CV Tryz.prog G6_C := tabC_valid (l := _) ⟨G14_valid, G15_valid, G13_valid, G16_valid, G17_valid, G18_valid, G19_valid, G7_valid, G20_valid, G21_valid, G22_valid, trivial⟩
noncomputable def G6 : Option Bool :=
  (Option.bind G14 fun r1 =>
  (Option.bind (G15 2) fun r2 =>
    (Option.bind (G13 r1 r2) fun r3 =>
      (Option.bind G14 fun r4 =>
        (Option.bind (G15 2) fun r5 =>
          (Option.bind (G16 r4 r5 ([110, 250], ([1000, 0], ([65000, 60000], ([60000, 80000], ([200, 100], ())))))) fun r6 =>
            (Option.bind G14 fun r7 =>
              (Option.bind (G15 2) fun r8 =>
                (Option.bind (G17 r7 r8 610) fun r9 =>
                  (Option.bind G14 fun r10 =>
                    (Option.bind (G15 1) fun r11 =>
                      (Option.bind (G18 r10 r11 700) fun r12 =>
                        (Option.bind G14 fun r13 =>
                          (Option.bind (G15 2) fun r14 =>
                            (Option.bind (G19 r13 r14 700) fun r15 =>
                              (Option.bind G14 fun r16 =>
                                (Option.bind (G7 r16) fun r17 =>
                                  (bif (r3.2.1 != 0) then
                                    some false
                                    else
                                    (bif (r6.2.2.1 != 0) then
                                      some false
                                      else
                                      (bif (r9.2.2.1 != 0) then
                                        some false
                                        else
                                        (bif (r12.2.1 != 0) then
                                          some false
                                          else
                                          (bif (r15.2.1 != 0) then
                                            some false
                                            else
                                            (bif (r17.2.1 != 0) then
                                              some false
                                              else
                                              (Option.bind (G20 500 610) fun r18 =>
                                                (Option.bind (G20 0 37000) fun r19 =>
                                                  (Option.bind (G20 500 795) fun r20 =>
                                                    (Option.bind (G20 0 74000) fun r21 =>
                                                      (Option.bind (G21 r3.1 [(r18, (r19, (2, ()))), (r20, (r21, (2, ())))]) fun r22 =>
                                                        (bif r22 then
                                                          (Option.bind (G22 r6.1 [544, 592]) fun r23 =>
                                                            (bif r23 then
                                                              (bif ((r6.2.1.1 == 126000) && ((r6.2.1.2.1 == 120000) && ((r6.2.1.2.2.1 == 6000) && true))) then
                                                                (bif (r9.1 == 1) then
                                                                  (bif (r9.2.1 == 2) then
                                                                    (bif (r12.1 == 20199) then
                                                                      (bif (r15.1 == 18801) then
                                                                        some (ByteArray.toList r17.1 == ByteArray.toList (⟨#[104, 111, 108, 101, 32, 50, 32, 48, 32, 50, 48, 48, 48, 10, 108, 97, 121, 101, 114, 32, 53, 48, 48, 32, 49, 48, 48, 32, 49, 50, 48, 10, 108, 97, 121, 101, 114, 32, 49, 48, 48, 48, 32, 50, 48, 48, 32, 51, 48, 48, 10, 101, 110, 100, 32, 49, 102, 10]⟩ : ByteArray))
                                                                        else
                                                                        some false)
                                                                      else
                                                                      some false)
                                                                    else
                                                                    some false)
                                                                  else
                                                                  some false)
                                                                else
                                                                some false)
                                                              else
                                                              some false))
                                                          else
                                                          some false)))))))))))))))))))))))))))))
noncomputable def G6_E : CEnt := pureE 6 [] (.dat .bool) fun x => G6
theorem G6_LV : LV 0 Tryz.prog false (loopsOf (bodyOf Tryz.f6)) [] := by unfold LV; cases loopsOf (bodyOf Tryz.f6) <;> trivial
theorem G6_ent : Ent Tryz.prog 6 := ⟨by decide, enters_of Tryz.func6 (by kernel_rfl) rfl⟩
theorem G6_hev : ∀ x, fnR Tryz.prog G6_C [] Tryz.f6 (bodyOf Tryz.f6) (encs [] x) ⟨[], [], 0⟩ (frzF (.dat .bool)) = G6 := by
  intro x; kernel_rfl
theorem G6_valid : G6_E.Valid Tryz.prog :=
  pureE_valid (by kernel_rfl) (by kernel_rfl) G6_ent (frz_lcall mixed Tryz.func6 rfl G6_ent G6_CV G6_LV (by kernel_rfl) (by kernel_rfl) G6_hev)
noncomputable def G26_C : CalT := tabC []
theorem G26_CV : CV Tryz.prog G26_C := tabC_valid (l := _) trivial
noncomputable def G26 (a0 : Int) (a1 : Int) (a2 : Int) : Option Bool :=
  (bif (decide (a0 ≥ a1)) then
  some (decide (a0 ≤ a2))
  else
  some false)
noncomputable def G26_E : CEnt := pureE 26 [.dat (.int .i64), .dat (.int .i64), .dat (.int .i64)] (.dat .bool) fun x => G26 x.1 x.2.1 x.2.2.1
theorem G26_LV : LV 0 Tryz.prog false (loopsOf (bodyOf Tryz.f26)) [] := by unfold LV; cases loopsOf (bodyOf Tryz.f26) <;> trivial
theorem G26_ent : Ent Tryz.prog 26 := ⟨by decide, enters_of Tryz.func26 (by kernel_rfl) rfl⟩
theorem G26_hev : ∀ x, fnR Tryz.prog G26_C [] Tryz.f26 (bodyOf Tryz.f26) (encs [.dat (.int .i64), .dat (.int .i64), .dat (.int .i64)] x) ⟨[], [], 0⟩ (frzF (.dat .bool)) = G26 x.1 x.2.1 x.2.2.1 := by
  intro x; kernel_rfl
theorem G26_valid : G26_E.Valid Tryz.prog :=
  pureE_valid (by kernel_rfl) (by kernel_rfl) G26_ent (frz_lcall mixed Tryz.func26 rfl G26_ent G26_CV G26_LV (by kernel_rfl) (by kernel_rfl) G26_hev)
noncomputable def G27_C : CalT := tabC []
theorem G27_CV : CV Tryz.prog G27_C := tabC_valid (l := _) trivial
noncomputable def G27 (a0 : E23) (a1 : Int) (a2 : Int) : Option Bool :=
  (bif (decide (a0.1 ≥ a1)) then
  (bif (decide (a0.1 ≤ a0.2.1)) then
    some (decide (a0.2.1 ≤ a2))
    else
    some false)
  else
  some false)
noncomputable def G27_E : CEnt := pureE 27 [.dat T23, .dat (.int .i64), .dat (.int .i64)] (.dat .bool) fun x => G27 x.1 x.2.1 x.2.2.1
theorem G27_LV : LV 0 Tryz.prog false (loopsOf (bodyOf Tryz.f27)) [] := by unfold LV; cases loopsOf (bodyOf Tryz.f27) <;> trivial
theorem G27_ent : Ent Tryz.prog 27 := ⟨by decide, enters_of Tryz.func27 (by kernel_rfl) rfl⟩
theorem G27_hev : ∀ x, fnR Tryz.prog G27_C [] Tryz.f27 (bodyOf Tryz.f27) (encs [.dat T23, .dat (.int .i64), .dat (.int .i64)] x) ⟨[], [], 0⟩ (frzF (.dat .bool)) = G27 x.1 x.2.1 x.2.2.1 := by
  intro x; kernel_rfl
theorem G27_valid : G27_E.Valid Tryz.prog :=
  pureE_valid (by kernel_rfl) (by kernel_rfl) G27_ent (frz_lcall mixed Tryz.func27 rfl G27_ent G27_CV G27_LV (by kernel_rfl) (by kernel_rfl) G27_hev)
noncomputable def G8_C : CalT := tabC [G26_E, G27_E]
theorem G8_CV : CV Tryz.prog G8_C := tabC_valid (l := _) ⟨G26_valid, G27_valid, trivial⟩
noncomputable def G8_l0_c : Code := loopAt (bodyOf Tryz.f8) 0
noncomputable def G8_l0_S : SPat := ⟨[.any, .fix (.bptr 0 []), .dat .bool, .dat (.int .i64), .any, .any, .any, .any, .any, .any, .any, .any, .any, .any, .any, .any, .any, .any, .any, .any, .any, .any, .any, .any, .any, .any, .any, .any, .any, .any, .any, .any, .any, .any, .any, .any, .any, .any], [.dat T25], 0⟩
noncomputable def G8_l0_step (s : ((Bool × (Int × Unit)) × (E25 × Unit))) : Option (Nat × ((Bool × (Int × Unit)) × (E25 × Unit))) :=
  (bif (decide (s.1.2.1 < (List.length s.2.1.1 : Int))) then
  (bif (decide (0 ≤ s.1.2.1) && decide (s.1.2.1 < (List.length s.2.1.1 : Int))) then
    (Option.bind (G26 ((List.getD s.2.1.1 (Int.toNat s.1.2.1) (0, ((0, (0, ())), ()))).1) 1 20000) fun r1 =>
      (bif (!r1) then
        some (1, ((false, (s.1.2.1, ())), (s.2.1, ())))
        else
        (bif (decide (0 ≤ s.1.2.1) && decide (s.1.2.1 < (List.length s.2.1.1 : Int))) then
          (Option.bind (G27 ((List.getD s.2.1.1 (Int.toNat s.1.2.1) (0, ((0, (0, ())), ()))).2.1) 1 1000) fun r2 =>
            (bif (!r2) then
              some (1, ((false, (s.1.2.1, ())), (s.2.1, ())))
              else
              some (0, ((s.1.1, ((IntKind.wrap .i64 (s.1.2.1 + 1)), ())), (s.2.1, ())))))
          else
          none)))
    else
    none)
  else
  some (2, ((s.1.1, (s.1.2.1, ())), (s.2.1, ()))))
noncomputable def G8_l0_fuel (s : ((Bool × (Int × Unit)) × (E25 × Unit))) : Nat := Int.toNat ((List.length s.2.1.1 : Int) - s.1.2.1) + 1
noncomputable def G8_l0_run (s : ((Bool × (Int × Unit)) × (E25 × Unit))) : Option (Nat × ((Bool × (Int × Unit)) × (E25 × Unit))) := iter G8_l0_step (G8_l0_fuel s) s
noncomputable def G8_l0_L : LoopT := loopT G8_l0_S [.ret, .exit 0] G8_l0_run
noncomputable def G8 (a0 : E25) : Option Bool :=
  (Option.bind (G8_l0_run ((false, (0, ())), (a0, ()))) fun q3 =>
  (natK q3.1
    (some q3.2.1.1)
    (fun _ => (Option.bind (G26 (List.length q3.2.2.1.1 : Int) 1 6) fun r4 =>
      (bif r4 then
        (Option.bind (G27 q3.2.2.1.2.1 0 1000000) fun r5 =>
          some r5)
        else
        some false)))))
noncomputable def G8_E : CEnt := pureE 8 [.dat T25] (.dat .bool) fun x => G8 x.1
theorem G8_l0_V : LValid 0 Tryz.prog (.loop G8_l0_c) G8_l0_L false := by
  have hb : ∀ s, codeR Tryz.prog G8_C G8_l0_c [] (G8_l0_S.encE s) (G8_l0_S.encB s) (kst G8_l0_S [.ret, .exit 0]) = G8_l0_step s := by
    intro s; kernel_rfl
  have hL : LV 0 Tryz.prog false (loopsOf G8_l0_c) [] := by unfold LV; cases loopsOf G8_l0_c <;> trivial
  exact loopT_valid (fuel := G8_l0_fuel) mixed G8_CV hL (by kernel_rfl) (by decide) rfl hb (fun s r h => h)
theorem G8_LV : LV 0 Tryz.prog false (loopsOf (bodyOf Tryz.f8)) [G8_l0_L] := by
  have hl : loopsOf (bodyOf Tryz.f8) = [.loop G8_l0_c] := by kernel_rfl
  rw [hl]; exact ⟨G8_l0_V, trivial⟩
theorem G8_ent : Ent Tryz.prog 8 := ⟨by decide, enters_of Tryz.func8 (by kernel_rfl) rfl⟩
theorem G8_hev : ∀ x, fnR Tryz.prog G8_C [G8_l0_L] Tryz.f8 (bodyOf Tryz.f8) (encs [.dat T25] x) ⟨[], [], 0⟩ (frzF (.dat .bool)) = G8 x.1 := by
  intro x; kernel_rfl
theorem G8_valid : G8_E.Valid Tryz.prog :=
  pureE_valid (by kernel_rfl) (by kernel_rfl) G8_ent (frz_lcall mixed Tryz.func8 rfl G8_ent G8_CV G8_LV (by kernel_rfl) (by kernel_rfl) G8_hev)
noncomputable def G88_C : CalT := tabC [idxM_E]
theorem G88_CV : CV Tryz.prog G88_C := tabC_valid (l := _) ⟨idxM_valid, trivial⟩
noncomputable def G88 (a0 : ByteArray) (a1 : ByteArray) : Option (ByteArray × (ByteArray × (Bool × Unit))) :=
  (Option.bind (idxM a0 a1) fun r1 =>
  (bif (decide (r1 ≥ 0)) then
    (bif (decide (0 ≤ (0 : Int)) && decide ((0 : Int) ≤ r1) && decide (r1 ≤ (ByteArray.size a0 : Int))) then
      (bif (decide (0 ≤ (IntKind.wrap .i64 (r1 + (ByteArray.size a1 : Int)))) && decide ((IntKind.wrap .i64 (r1 + (ByteArray.size a1 : Int))) ≤ (ByteArray.size a0 : Int)) && decide ((ByteArray.size a0 : Int) ≤ (ByteArray.size a0 : Int))) then
        some ((ByteArray.extract a0 (Int.toNat 0) (Int.toNat r1)), ((ByteArray.extract a0 (Int.toNat (IntKind.wrap .i64 (r1 + (ByteArray.size a1 : Int)))) (Int.toNat (ByteArray.size a0 : Int))), (true, ())))
        else
        none)
      else
      none)
    else
    some (a0, ((⟨#[]⟩ : ByteArray), (false, ())))))
noncomputable def G88_E : CEnt := pureE 88 [.dat .str, .dat .str] (.tup (.cons (.dat .str) (.cons (.dat .str) (.cons (.dat .bool) (.nil))))) fun x => G88 x.1 x.2.1
theorem G88_LV : LV 0 Tryz.prog false (loopsOf (bodyOf Tryz.f88)) [] := by unfold LV; cases loopsOf (bodyOf Tryz.f88) <;> trivial
theorem G88_ent : Ent Tryz.prog 88 := ⟨by decide, enters_of Tryz.func88 (by kernel_rfl) rfl⟩
theorem G88_hev : ∀ x, fnR Tryz.prog G88_C [] Tryz.f88 (bodyOf Tryz.f88) (encs [.dat .str, .dat .str] x) ⟨[], [], 0⟩ (frzF (.tup (.cons (.dat .str) (.cons (.dat .str) (.cons (.dat .bool) (.nil)))))) = G88 x.1 x.2.1 := by
  intro x; kernel_rfl
theorem G88_valid : G88_E.Valid Tryz.prog :=
  pureE_valid (by kernel_rfl) (by kernel_rfl) G88_ent (frz_lcall mixed Tryz.func88 rfl G88_ent G88_CV G88_LV (by kernel_rfl) (by kernel_rfl) G88_hev)
noncomputable def G74_C : CalT := tabC [G88_E]
theorem G74_CV : CV Tryz.prog G74_C := tabC_valid (l := _) ⟨G88_valid, trivial⟩
noncomputable def G74 (a0 : ByteArray) (a1 : ByteArray) : Option (ByteArray × (ByteArray × (Bool × Unit))) :=
  (Option.bind (G88 a0 a1) fun r1 =>
  some (r1.1, (r1.2.1, (r1.2.2.1, ()))))
noncomputable def G74_E : CEnt := pureE 74 [.dat .str, .dat .str] (.tup (.cons (.dat .str) (.cons (.dat .str) (.cons (.dat .bool) (.nil))))) fun x => G74 x.1 x.2.1
theorem G74_LV : LV 0 Tryz.prog false (loopsOf (bodyOf Tryz.f74)) [] := by unfold LV; cases loopsOf (bodyOf Tryz.f74) <;> trivial
theorem G74_ent : Ent Tryz.prog 74 := ⟨by decide, enters_of Tryz.func74 (by kernel_rfl) rfl⟩
theorem G74_hev : ∀ x, fnR Tryz.prog G74_C [] Tryz.f74 (bodyOf Tryz.f74) (encs [.dat .str, .dat .str] x) ⟨[], [], 0⟩ (frzF (.tup (.cons (.dat .str) (.cons (.dat .str) (.cons (.dat .bool) (.nil)))))) = G74 x.1 x.2.1 := by
  intro x; kernel_rfl
theorem G74_valid : G74_E.Valid Tryz.prog :=
  pureE_valid (by kernel_rfl) (by kernel_rfl) G74_ent (frz_lcall mixed Tryz.func74 rfl G74_ent G74_CV G74_LV (by kernel_rfl) (by kernel_rfl) G74_hev)
noncomputable def G75_C : CalT := tabC [genM_E]
theorem G75_CV : CV Tryz.prog G75_C := tabC_valid (l := _) ⟨genM_valid, trivial⟩
noncomputable def G75 (a0 : ByteArray) (a1 : ByteArray) : Option (List ByteArray) :=
  (Option.bind (genM a0 a1 0 (-1)) fun r1 =>
  some r1)
noncomputable def G75_E : CEnt := pureE 75 [.dat .str, .dat .str] (.dat (.list .str)) fun x => G75 x.1 x.2.1
theorem G75_LV : LV 0 Tryz.prog false (loopsOf (bodyOf Tryz.f75)) [] := by unfold LV; cases loopsOf (bodyOf Tryz.f75) <;> trivial
theorem G75_ent : Ent Tryz.prog 75 := ⟨by decide, enters_of Tryz.func75 (by kernel_rfl) rfl⟩
theorem G75_hev : ∀ x, fnR Tryz.prog G75_C [] Tryz.f75 (bodyOf Tryz.f75) (encs [.dat .str, .dat .str] x) ⟨[], [], 0⟩ (frzF (.dat (.list .str))) = G75 x.1 x.2.1 := by
  intro x; kernel_rfl
theorem G75_valid : G75_E.Valid Tryz.prog :=
  pureE_valid (by kernel_rfl) (by kernel_rfl) G75_ent (frz_lcall mixed Tryz.func75 rfl G75_ent G75_CV G75_LV (by kernel_rfl) (by kernel_rfl) G75_hev)
noncomputable def G76_C : CalT := tabC [itoaM_E]
theorem G76_CV : CV Tryz.prog G76_C := tabC_valid (l := _) ⟨itoaM_valid, trivial⟩
noncomputable def G76_l0_c : Code := loopAt (bodyOf Tryz.f76) 0
noncomputable def G76_l0_S : SPat := ⟨[.dat .str, .any, .any, .dat (.int .i64), .any, .any, .any, .fix (.bptr 0 []), .any, .any, .any, .any, .any, .any, .any, .any, .any, .any, .any, .any, .any, .any, .any, .any, .any, .any, .any, .any, .any, .any, .any, .any, .any, .any, .any, .any, .any, .any, .any, .any, .any, .any, .any], [.siter], 0⟩
noncomputable def G76_l0_step (s : ((ByteArray × (Int × Unit)) × ((ByteArray × Nat) × Unit))) : Option (Nat × ((ByteArray × (Int × Unit)) × ((ByteArray × Nat) × Unit))) :=
  (bif (decide (s.2.1.2 < ByteArray.size s.2.1.1)) then
  (bif (decide (((Utf8.decode s.2.1.1 s.2.1.2).1 : Int) < 48)) then
    some (1, ((s.1.1, (s.1.2.1, ())), ((s.2.1.1, (s.2.1.2 + (Utf8.decode s.2.1.1 s.2.1.2).2)), ())))
    else
    (bif (decide (((Utf8.decode s.2.1.1 s.2.1.2).1 : Int) > 57)) then
      some (1, ((s.1.1, (s.1.2.1, ())), ((s.2.1.1, (s.2.1.2 + (Utf8.decode s.2.1.1 s.2.1.2).2)), ())))
      else
      (bif (decide (s.1.2.1 > 99999999)) then
        some (1, ((s.1.1, (s.1.2.1, ())), ((s.2.1.1, (s.2.1.2 + (Utf8.decode s.2.1.1 s.2.1.2).2)), ())))
        else
        some (0, ((s.1.1, ((IntKind.wrap .i64 ((IntKind.wrap .i64 ((10 : Int) * s.1.2.1)) + (IntKind.wrap .i64 (IntKind.wrap .i32 (((Utf8.decode s.2.1.1 s.2.1.2).1 : Int) - 48))))), ())), ((s.2.1.1, (s.2.1.2 + (Utf8.decode s.2.1.1 s.2.1.2).2)), ()))))))
  else
  some (2, ((s.1.1, (s.1.2.1, ())), (s.2.1, ()))))
noncomputable def G76_l0_fuel (s : ((ByteArray × (Int × Unit)) × ((ByteArray × Nat) × Unit))) : Nat := Int.toNat (ByteArray.size s.2.1.1 - s.2.1.2) + 1
noncomputable def G76_l0_run (s : ((ByteArray × (Int × Unit)) × ((ByteArray × Nat) × Unit))) : Option (Nat × ((ByteArray × (Int × Unit)) × ((ByteArray × Nat) × Unit))) := iter G76_l0_step (G76_l0_fuel s) s
noncomputable def G76_l0_L : LoopT := loopT G76_l0_S [.pan 71, .exit 0] G76_l0_run
noncomputable def G76 (a0 : ByteArray) : Option (Unit ⊕ Int) :=
  (Option.bind (G76_l0_run ((a0, (0, ())), ((a0, 0), ()))) fun q1 =>
  (natK q1.1
    (some (Sum.inl ()))
    (fun _ => (bif (decide ((ByteArray.size q1.2.1.1 : Int) > 8)) then
      some (Sum.inl ())
      else
      (Option.bind (itoaM q1.2.1.2.1) fun r2 =>
        (bif (!(ByteArray.toList r2 == ByteArray.toList q1.2.1.1)) then
          some (Sum.inl ())
          else
          some (Sum.inr q1.2.1.2.1)))))))
noncomputable def G76_E : CEnt := panE 76 [.dat .str] 71 (.dat (.int .i64)) fun x => G76 x.1
theorem G76_l0_V : LValid 0 Tryz.prog (.loop G76_l0_c) G76_l0_L false := by
  have hb : ∀ s, codeR Tryz.prog G76_C G76_l0_c [] (G76_l0_S.encE s) (G76_l0_S.encB s) (kst G76_l0_S [.pan 71, .exit 0]) = G76_l0_step s := by
    intro s; kernel_rfl
  have hL : LV 0 Tryz.prog false (loopsOf G76_l0_c) [] := by unfold LV; cases loopsOf G76_l0_c <;> trivial
  exact loopT_valid (fuel := G76_l0_fuel) mixed G76_CV hL (by kernel_rfl) (by decide) rfl hb (fun s r h => h)
theorem G76_LV : LV 0 Tryz.prog false (loopsOf (bodyOf Tryz.f76)) [G76_l0_L] := by
  have hl : loopsOf (bodyOf Tryz.f76) = [.loop G76_l0_c] := by kernel_rfl
  rw [hl]; exact ⟨G76_l0_V, trivial⟩
theorem G76_ent : Ent Tryz.prog 76 := ⟨by decide, enters_of Tryz.func76 (by kernel_rfl) rfl⟩
theorem G76_hev : ∀ x, fnR Tryz.prog G76_C [G76_l0_L] Tryz.f76 (bodyOf Tryz.f76) (encs [.dat .str] x) ⟨[], [], 0⟩ (frzP 71 (.dat (.int .i64))) = G76 x.1 := by
  intro x; kernel_rfl
theorem G76_valid : G76_E.Valid Tryz.prog :=
  panE_valid (by kernel_rfl) (by kernel_rfl) (by kernel_rfl) G76_ent (frzP_lcall mixed Tryz.func76 rfl G76_ent G76_CV G76_LV (by kernel_rfl) (by kernel_rfl) G76_hev)
noncomputable def G58_C : CalT := tabC [G74_E, G75_E, G76_E]
theorem G58_CV : CV Tryz.prog G58_C := tabC_valid (l := _) ⟨G74_valid, G75_valid, G76_valid, trivial⟩
abbrev TY20 : Type := (Unit × ((ByteArray × (Int × (((List E65) × ((Int × (Int × Unit)) × Unit)) × Unit))) × Unit))
abbrev TY21 : Type := ((List Int) × ((ByteArray × (Int × (((List E65) × ((Int × (Int × Unit)) × Unit)) × Unit))) × Unit))
noncomputable def G58 (a0 : ByteArray) (b1 : (ByteArray × (Int × (((List E65) × ((Int × (Int × Unit)) × Unit)) × Unit)))) : Option (TY20 ⊕ TY21) :=
  (Option.bind (G74 b1.1 (⟨#[10]⟩ : ByteArray)) fun r1 =>
  (Option.bind (G75 r1.1 (⟨#[32]⟩ : ByteArray)) fun r2 =>
    (bif (!r1.2.2.1) then
      some (Sum.inl ((), (b1, ())))
      else
      (bif ((List.length r2 : Int) != 4) then
        some (Sum.inl ((), (b1, ())))
        else
        (bif (decide (0 ≤ (0 : Int)) && decide ((0 : Int) < (List.length r2 : Int))) then
          (bif (!(ByteArray.toList (List.getD r2 (Int.toNat 0) (⟨#[]⟩ : ByteArray)) == ByteArray.toList a0)) then
            some (Sum.inl ((), (b1, ())))
            else
            (bif (decide (0 ≤ (1 : Int)) && decide ((1 : Int) < (List.length r2 : Int))) then
              (bif (decide (0 ≤ (2 : Int)) && decide ((2 : Int) < (List.length r2 : Int))) then
                (bif (decide (0 ≤ (3 : Int)) && decide ((3 : Int) < (List.length r2 : Int))) then
                  (Option.bind (G76 (List.getD r2 (Int.toNat 1) (⟨#[]⟩ : ByteArray))) fun r3 =>
                    (altK r3
                      (fun r4 => some (Sum.inl ((), ((r1.2.1, b1.2), ()))))
                      (fun r5 => (bif (decide (0 ≤ (1 : Int)) && decide ((1 : Int) < (List.length r2 : Int))) then
                        (Option.bind (G76 (List.getD r2 (Int.toNat 1) (⟨#[]⟩ : ByteArray))) fun r6 =>
                          (altK r6
                            (fun r7 => none)
                            (fun r8 => (bif (decide (0 ≤ (2 : Int)) && decide ((2 : Int) < (List.length r2 : Int))) then
                              (bif (decide (0 ≤ (3 : Int)) && decide ((3 : Int) < (List.length r2 : Int))) then
                                (Option.bind (G76 (List.getD r2 (Int.toNat 2) (⟨#[]⟩ : ByteArray))) fun r9 =>
                                  (altK r9
                                    (fun r10 => some (Sum.inl ((), ((r1.2.1, b1.2), ()))))
                                    (fun r11 => (bif (decide (0 ≤ (1 : Int)) && decide ((1 : Int) < (List.length r2 : Int))) then
                                      (Option.bind (G76 (List.getD r2 (Int.toNat 1) (⟨#[]⟩ : ByteArray))) fun r12 =>
                                        (altK r12
                                          (fun r13 => none)
                                          (fun r14 => (bif (decide (0 ≤ (2 : Int)) && decide ((2 : Int) < (List.length r2 : Int))) then
                                            (Option.bind (G76 (List.getD r2 (Int.toNat 2) (⟨#[]⟩ : ByteArray))) fun r15 =>
                                              (altK r15
                                                (fun r16 => none)
                                                (fun r17 => (bif (decide (0 ≤ (3 : Int)) && decide ((3 : Int) < (List.length r2 : Int))) then
                                                  (Option.bind (G76 (List.getD r2 (Int.toNat 3) (⟨#[]⟩ : ByteArray))) fun r18 =>
                                                    (altK r18
                                                      (fun r19 => some (Sum.inl ((), ((r1.2.1, b1.2), ()))))
                                                      (fun r20 => (bif (decide (0 ≤ (1 : Int)) && decide ((1 : Int) < (List.length r2 : Int))) then
                                                        (Option.bind (G76 (List.getD r2 (Int.toNat 1) (⟨#[]⟩ : ByteArray))) fun r21 =>
                                                          (altK r21
                                                            (fun r22 => none)
                                                            (fun r23 => (bif (decide (0 ≤ (2 : Int)) && decide ((2 : Int) < (List.length r2 : Int))) then
                                                              (Option.bind (G76 (List.getD r2 (Int.toNat 2) (⟨#[]⟩ : ByteArray))) fun r24 =>
                                                                (altK r24
                                                                  (fun r25 => none)
                                                                  (fun r26 => (bif (decide (0 ≤ (3 : Int)) && decide ((3 : Int) < (List.length r2 : Int))) then
                                                                    (Option.bind (G76 (List.getD r2 (Int.toNat 3) (⟨#[]⟩ : ByteArray))) fun r27 =>
                                                                      (altK r27
                                                                        (fun r28 => none)
                                                                        (fun r29 => some (Sum.inr ((r23 :: (r26 :: (r29 :: []))), ((r1.2.1, b1.2), ()))))))
                                                                    else
                                                                    none))))
                                                              else
                                                              none))))
                                                        else
                                                        none))))
                                                  else
                                                  none))))
                                            else
                                            none))))
                                      else
                                      none))))
                                else
                                none)
                              else
                              none))))
                        else
                        none))))
                  else
                  none)
                else
                none)
              else
              none))
          else
          none)))))
abbrev G58_CS : CSpec := ⟨[.fix (.bptr 0 []), .dat .str], [.cons (.dat .str) (.cons (.dat (.int .i64)) (.cons (.cons (.own 0 T65) (.cons (.cons (.dat (.int .i64)) (.cons (.dat (.int .i64)) (.nil))) (.nil))) (.nil)))], 1, [.cons (.dat .str) (.cons (.dat (.int .i64)) (.cons (.cons (.own 0 T65) (.cons (.cons (.dat (.int .i64)) (.cons (.dat (.int .i64)) (.nil))) (.nil))) (.nil)))], 1, .fix (.pan 71)⟩
abbrev G58_O2 : List PTy := [.cons (.dat .str) (.cons (.dat (.int .i64)) (.cons (.cons (.own 0 T65) (.cons (.cons (.dat (.int .i64)) (.cons (.dat (.int .i64)) (.nil))) (.nil))) (.nil)))]
abbrev G58_R2 : PTy := .dat (.arr 3 (.int .i64))
noncomputable def G58_E : CEnt := altE 58 G58_CS G58_O2 1 G58_R2 fun x => G58 x.1.1 x.2.1
theorem G58_LV : LV 1 Tryz.prog false (loopsOf (bodyOf Tryz.f58)) [] := by unfold LV; cases loopsOf (bodyOf Tryz.f58) <;> trivial
theorem G58_ent : Ent Tryz.prog 58 := ⟨by decide, enters_of Tryz.func58 (by kernel_rfl) rfl⟩
theorem G58_hev : ∀ x : G58_CS.In, fnR Tryz.prog G58_C [] Tryz.f58 (bodyOf Tryz.f58) (encs G58_CS.A x.1) ⟨encs G58_CS.I x.2, [], G58_CS.nt⟩ (finK2 G58_CS G58_O2 1 G58_R2) = G58 x.1.1 x.2.1 := by
  intro x; kernel_rfl
theorem G58_valid : G58_E.Valid Tryz.prog :=
  altE_valid (S := G58_CS) (by kernel_rfl) (by kernel_rfl) (.inr G58_ent) (alt_lcall (S := G58_CS) mixed Tryz.func58 rfl G58_ent G58_CV G58_LV (by kernel_rfl) (by kernel_rfl) (by kernel_rfl) (by kernel_rfl) G58_hev)
noncomputable def G30_C : CalT := tabC [G58_E]
theorem G30_CV : CV Tryz.prog G30_C := tabC_valid (l := _) ⟨G58_valid, trivial⟩
noncomputable def G30 (b0 : (ByteArray × (Int × (((List E65) × ((Int × (Int × Unit)) × Unit)) × Unit)))) : Option (TY20 ⊕ TY20) :=
  (Option.bind (G58 (⟨#[104, 111, 108, 101]⟩ : ByteArray) b0) fun r1 =>
  (altK r1
    (fun r2 => some (Sum.inl ((), (r2.2.1, ()))))
    (fun r3 => some (Sum.inr ((), ((r3.2.1.1, ((List.getD r3.1 (Int.toNat 0) 0), ((r3.2.1.2.2.1.1, (((List.getD r3.1 (Int.toNat 1) 0), ((List.getD r3.1 (Int.toNat 2) 0), ())), r3.2.1.2.2.1.2.2)), r3.2.1.2.2.2))), ()))))))
abbrev G30_CS : CSpec := ⟨[.fix (.bptr 0 [])], [.cons (.dat .str) (.cons (.dat (.int .i64)) (.cons (.cons (.own 0 T65) (.cons (.cons (.dat (.int .i64)) (.cons (.dat (.int .i64)) (.nil))) (.nil))) (.nil)))], 1, [.cons (.dat .str) (.cons (.dat (.int .i64)) (.cons (.cons (.own 0 T65) (.cons (.cons (.dat (.int .i64)) (.cons (.dat (.int .i64)) (.nil))) (.nil))) (.nil)))], 1, .fix (.pan 71)⟩
abbrev G30_O2 : List PTy := [.cons (.dat .str) (.cons (.dat (.int .i64)) (.cons (.cons (.own 0 T65) (.cons (.cons (.dat (.int .i64)) (.cons (.dat (.int .i64)) (.nil))) (.nil))) (.nil)))]
abbrev G30_R2 : PTy := .tup (.nil)
noncomputable def G30_E : CEnt := altE 30 G30_CS G30_O2 1 G30_R2 fun x => G30 x.2.1
theorem G30_LV : LV 1 Tryz.prog false (loopsOf (bodyOf Tryz.f30)) [] := by unfold LV; cases loopsOf (bodyOf Tryz.f30) <;> trivial
theorem G30_ent : Ent Tryz.prog 30 := ⟨by decide, enters_of Tryz.func30 (by kernel_rfl) rfl⟩
theorem G30_hev : ∀ x : G30_CS.In, fnR Tryz.prog G30_C [] Tryz.f30 (bodyOf Tryz.f30) (encs G30_CS.A x.1) ⟨encs G30_CS.I x.2, [], G30_CS.nt⟩ (finK2 G30_CS G30_O2 1 G30_R2) = G30 x.2.1 := by
  intro x; kernel_rfl
theorem G30_valid : G30_E.Valid Tryz.prog :=
  altE_valid (S := G30_CS) (by kernel_rfl) (by kernel_rfl) (.inr G30_ent) (alt_lcall (S := G30_CS) mixed Tryz.func30 rfl G30_ent G30_CV G30_LV (by kernel_rfl) (by kernel_rfl) (by kernel_rfl) (by kernel_rfl) G30_hev)
noncomputable def G29_C : CalT := tabC [G30_E]
theorem G29_CV : CV Tryz.prog G29_C := tabC_valid (l := _) ⟨G30_valid, trivial⟩
noncomputable def G29_l0_c : Code := loopAt (bodyOf Tryz.f29) 0
abbrev PA22 : PTy := (.cons (.dat (.int .i64)) (.cons (.cons (.own 0 T65) (.cons (.cons (.dat (.int .i64)) (.cons (.dat (.int .i64)) (.nil))) (.nil))) (.nil)))
noncomputable def G29_l0_S : SPat := ⟨[.fix (.bptr 0 []), .any, .fix (.func (.func 30) .nil .nil), .any, .any, .any, .dat (.int .i64), .dat (.int .i64), .any, .any, .any, .any, .any], [.cons (.dat .str) PA22], 1⟩
abbrev TY23 : Type := ((Int × (Int × Unit)) × ((ByteArray × (Int × (((List E65) × ((Int × (Int × Unit)) × Unit)) × Unit))) × Unit))
abbrev TY24 : Type := (Nat × ((Int × (Int × Unit)) × ((ByteArray × (Int × (((List E65) × ((Int × (Int × Unit)) × Unit)) × Unit))) × Unit)))
noncomputable def G29_l0_step (s : TY23) : Option TY24 :=
  (bif (decide (s.1.2.1 < s.1.1)) then
  (Option.bind (G30 s.2.1) fun r1 =>
    (altK r1
      (fun r2 => some (1, ((s.1.1, (s.1.2.1, ())), (r2.2.1, ()))))
      (fun r3 => some (0, ((s.1.1, ((IntKind.wrap .i64 (s.1.2.1 + 1)), ())), (r3.2.1, ()))))))
  else
  some (2, ((s.1.1, (s.1.2.1, ())), (s.2.1, ()))))
noncomputable def G29_l0_fuel (s : TY23) : Nat := Int.toNat (s.1.1 - s.1.2.1) + 1
noncomputable def G29_l0_run (s : TY23) : Option TY24 := iter G29_l0_step (G29_l0_fuel s) s
noncomputable def G29_l0_L : LoopT := loopT G29_l0_S [.pan 71, .exit 0] G29_l0_run
noncomputable def G29 (a0 : Int) (b1 : (ByteArray × (Int × (((List E65) × ((Int × (Int × Unit)) × Unit)) × Unit)))) : Option (TY20 ⊕ TY20) :=
  (Option.bind (G29_l0_run ((a0, (0, ())), (b1, ()))) fun q4 =>
  (natK q4.1
    (some (Sum.inl ((), (q4.2.2.1, ()))))
    (fun _ => some (Sum.inr ((), (q4.2.2.1, ()))))))
abbrev G29_CS : CSpec := ⟨[.fix (.bptr 0 []), .dat (.int .i64), .fix (.func (.func 30) .nil .nil)], [.cons (.dat .str) (.cons (.dat (.int .i64)) (.cons (.cons (.own 0 T65) (.cons (.cons (.dat (.int .i64)) (.cons (.dat (.int .i64)) (.nil))) (.nil))) (.nil)))], 1, [.cons (.dat .str) (.cons (.dat (.int .i64)) (.cons (.cons (.own 0 T65) (.cons (.cons (.dat (.int .i64)) (.cons (.dat (.int .i64)) (.nil))) (.nil))) (.nil)))], 1, .fix (.pan 71)⟩
abbrev G29_O2 : List PTy := [.cons (.dat .str) (.cons (.dat (.int .i64)) (.cons (.cons (.own 0 T65) (.cons (.cons (.dat (.int .i64)) (.cons (.dat (.int .i64)) (.nil))) (.nil))) (.nil)))]
abbrev G29_R2 : PTy := .tup (.nil)
noncomputable def G29_E : CEnt := altE 29 G29_CS G29_O2 1 G29_R2 fun x => G29 x.1.1 x.2.1
theorem G29_l0_V : LValid 1 Tryz.prog (.loop G29_l0_c) G29_l0_L false := by
  have hb : ∀ s, codeR Tryz.prog G29_C G29_l0_c [] (G29_l0_S.encE s) (G29_l0_S.encB s) (kst G29_l0_S [.pan 71, .exit 0]) = G29_l0_step s := by
    intro s; kernel_rfl
  have hL : LV 1 Tryz.prog false (loopsOf G29_l0_c) [] := by unfold LV; cases loopsOf G29_l0_c <;> trivial
  exact loopT_valid (fuel := G29_l0_fuel) mixed G29_CV hL (by kernel_rfl) (by decide) rfl hb (fun s r h => h)
theorem G29_LV : LV 1 Tryz.prog false (loopsOf (bodyOf Tryz.f29)) [G29_l0_L] := by
  have hl : loopsOf (bodyOf Tryz.f29) = [.loop G29_l0_c] := by kernel_rfl
  rw [hl]; exact ⟨G29_l0_V, trivial⟩
theorem G29_ent : Ent Tryz.prog 29 := ⟨by decide, enters_of Tryz.func29 (by kernel_rfl) rfl⟩
theorem G29_hev : ∀ x : G29_CS.In, fnR Tryz.prog G29_C [G29_l0_L] Tryz.f29 (bodyOf Tryz.f29) (encs G29_CS.A x.1) ⟨encs G29_CS.I x.2, [], G29_CS.nt⟩ (finK2 G29_CS G29_O2 1 G29_R2) = G29 x.1.1 x.2.1 := by
  intro x; kernel_rfl
theorem G29_valid : G29_E.Valid Tryz.prog :=
  altE_valid (S := G29_CS) (by kernel_rfl) (by kernel_rfl) (.inr G29_ent) (alt_lcall (S := G29_CS) mixed Tryz.func29 rfl G29_ent G29_CV G29_LV (by kernel_rfl) (by kernel_rfl) (by kernel_rfl) (by kernel_rfl) G29_hev)
noncomputable def G31_C : CalT := tabC [G58_E]
theorem G31_CV : CV Tryz.prog G31_C := tabC_valid (l := _) ⟨G58_valid, trivial⟩
noncomputable def G31 (b0 : (ByteArray × (Int × (((List E65) × ((Int × (Int × Unit)) × Unit)) × Unit)))) : Option (TY20 ⊕ TY20) :=
  (Option.bind (G58 (⟨#[108, 97, 121, 101, 114]⟩ : ByteArray) b0) fun r1 =>
  (altK r1
    (fun r2 => some (Sum.inl ((), (r2.2.1, ()))))
    (fun r3 => (bif (decide (List.length r3.2.1.2.2.1.1 + List.length [((List.getD r3.1 (Int.toNat 0) 0), (((List.getD r3.1 (Int.toNat 1) 0), ((List.getD r3.1 (Int.toNat 2) 0), ())), ()))] ≤ LIM)) then
      some (Sum.inr ((), ((r3.2.1.1, (r3.2.1.2.1, (((r3.2.1.2.2.1.1 ++ [((List.getD r3.1 (Int.toNat 0) 0), (((List.getD r3.1 (Int.toNat 1) 0), ((List.getD r3.1 (Int.toNat 2) 0), ())), ()))]), r3.2.1.2.2.1.2), r3.2.1.2.2.2))), ())))
      else
      none))))
abbrev G31_CS : CSpec := ⟨[.fix (.bptr 0 [])], [.cons (.dat .str) (.cons (.dat (.int .i64)) (.cons (.cons (.own 0 T65) (.cons (.cons (.dat (.int .i64)) (.cons (.dat (.int .i64)) (.nil))) (.nil))) (.nil)))], 1, [.cons (.dat .str) (.cons (.dat (.int .i64)) (.cons (.cons (.own 0 T65) (.cons (.cons (.dat (.int .i64)) (.cons (.dat (.int .i64)) (.nil))) (.nil))) (.nil)))], 1, .fix (.pan 71)⟩
abbrev G31_O2 : List PTy := [.cons (.dat .str) (.cons (.dat (.int .i64)) (.cons (.cons (.own 0 T65) (.cons (.cons (.dat (.int .i64)) (.cons (.dat (.int .i64)) (.nil))) (.nil))) (.nil)))]
abbrev G31_R2 : PTy := .tup (.nil)
noncomputable def G31_E : CEnt := altE 31 G31_CS G31_O2 1 G31_R2 fun x => G31 x.2.1
theorem G31_LV : LV 1 Tryz.prog false (loopsOf (bodyOf Tryz.f31)) [] := by unfold LV; cases loopsOf (bodyOf Tryz.f31) <;> trivial
theorem G31_ent : Ent Tryz.prog 31 := ⟨by decide, enters_of Tryz.func31 (by kernel_rfl) rfl⟩
theorem G31_hev : ∀ x : G31_CS.In, fnR Tryz.prog G31_C [] Tryz.f31 (bodyOf Tryz.f31) (encs G31_CS.A x.1) ⟨encs G31_CS.I x.2, [], G31_CS.nt⟩ (finK2 G31_CS G31_O2 1 G31_R2) = G31 x.2.1 := by
  intro x; kernel_rfl
theorem G31_valid : G31_E.Valid Tryz.prog :=
  altE_valid (S := G31_CS) (by kernel_rfl) (by kernel_rfl) (.inr G31_ent) (alt_lcall (S := G31_CS) mixed Tryz.func31 rfl G31_ent G31_CV G31_LV (by kernel_rfl) (by kernel_rfl) (by kernel_rfl) (by kernel_rfl) G31_hev)
noncomputable def G29_v1_C : CalT := tabC [G31_E]
theorem G29_v1_CV : CV Tryz.prog G29_v1_C := tabC_valid (l := _) ⟨G31_valid, trivial⟩
noncomputable def G29_v1_l0_c : Code := loopAt (bodyOf Tryz.f29) 0
noncomputable def G29_v1_l0_S : SPat := ⟨[.fix (.bptr 0 []), .any, .fix (.func (.func 31) .nil .nil), .any, .any, .any, .dat (.int .i64), .dat (.int .i64), .any, .any, .any, .any, .any], [.cons (.dat .str) PA22], 1⟩
noncomputable def G29_v1_l0_step (s : TY23) : Option TY24 :=
  (bif (decide (s.1.2.1 < s.1.1)) then
  (Option.bind (G31 s.2.1) fun r1 =>
    (altK r1
      (fun r2 => some (1, ((s.1.1, (s.1.2.1, ())), (r2.2.1, ()))))
      (fun r3 => some (0, ((s.1.1, ((IntKind.wrap .i64 (s.1.2.1 + 1)), ())), (r3.2.1, ()))))))
  else
  some (2, ((s.1.1, (s.1.2.1, ())), (s.2.1, ()))))
noncomputable def G29_v1_l0_fuel (s : TY23) : Nat := Int.toNat (s.1.1 - s.1.2.1) + 1
noncomputable def G29_v1_l0_run (s : TY23) : Option TY24 := iter G29_v1_l0_step (G29_v1_l0_fuel s) s
noncomputable def G29_v1_l0_L : LoopT := loopT G29_v1_l0_S [.pan 71, .exit 0] G29_v1_l0_run
noncomputable def G29_v1 (a0 : Int) (b1 : (ByteArray × (Int × (((List E65) × ((Int × (Int × Unit)) × Unit)) × Unit)))) : Option (TY20 ⊕ TY20) :=
  (Option.bind (G29_v1_l0_run ((a0, (0, ())), (b1, ()))) fun q4 =>
  (natK q4.1
    (some (Sum.inl ((), (q4.2.2.1, ()))))
    (fun _ => some (Sum.inr ((), (q4.2.2.1, ()))))))
abbrev G29_v1_CS : CSpec := ⟨[.fix (.bptr 0 []), .dat (.int .i64), .fix (.func (.func 31) .nil .nil)], [.cons (.dat .str) (.cons (.dat (.int .i64)) (.cons (.cons (.own 0 T65) (.cons (.cons (.dat (.int .i64)) (.cons (.dat (.int .i64)) (.nil))) (.nil))) (.nil)))], 1, [.cons (.dat .str) (.cons (.dat (.int .i64)) (.cons (.cons (.own 0 T65) (.cons (.cons (.dat (.int .i64)) (.cons (.dat (.int .i64)) (.nil))) (.nil))) (.nil)))], 1, .fix (.pan 71)⟩
abbrev G29_v1_O2 : List PTy := [.cons (.dat .str) (.cons (.dat (.int .i64)) (.cons (.cons (.own 0 T65) (.cons (.cons (.dat (.int .i64)) (.cons (.dat (.int .i64)) (.nil))) (.nil))) (.nil)))]
abbrev G29_v1_R2 : PTy := .tup (.nil)
noncomputable def G29_v1_E : CEnt := altE 29 G29_v1_CS G29_v1_O2 1 G29_v1_R2 fun x => G29_v1 x.1.1 x.2.1
theorem G29_v1_l0_V : LValid 1 Tryz.prog (.loop G29_v1_l0_c) G29_v1_l0_L false := by
  have hb : ∀ s, codeR Tryz.prog G29_v1_C G29_v1_l0_c [] (G29_v1_l0_S.encE s) (G29_v1_l0_S.encB s) (kst G29_v1_l0_S [.pan 71, .exit 0]) = G29_v1_l0_step s := by
    intro s; kernel_rfl
  have hL : LV 1 Tryz.prog false (loopsOf G29_v1_l0_c) [] := by unfold LV; cases loopsOf G29_v1_l0_c <;> trivial
  exact loopT_valid (fuel := G29_v1_l0_fuel) mixed G29_v1_CV hL (by kernel_rfl) (by decide) rfl hb (fun s r h => h)
theorem G29_v1_LV : LV 1 Tryz.prog false (loopsOf (bodyOf Tryz.f29)) [G29_v1_l0_L] := by
  have hl : loopsOf (bodyOf Tryz.f29) = [.loop G29_v1_l0_c] := by kernel_rfl
  rw [hl]; exact ⟨G29_v1_l0_V, trivial⟩
theorem G29_v1_ent : Ent Tryz.prog 29 := ⟨by decide, enters_of Tryz.func29 (by kernel_rfl) rfl⟩
theorem G29_v1_hev : ∀ x : G29_v1_CS.In, fnR Tryz.prog G29_v1_C [G29_v1_l0_L] Tryz.f29 (bodyOf Tryz.f29) (encs G29_v1_CS.A x.1) ⟨encs G29_v1_CS.I x.2, [], G29_v1_CS.nt⟩ (finK2 G29_v1_CS G29_v1_O2 1 G29_v1_R2) = G29_v1 x.1.1 x.2.1 := by
  intro x; kernel_rfl
theorem G29_v1_valid : G29_v1_E.Valid Tryz.prog :=
  altE_valid (S := G29_v1_CS) (by kernel_rfl) (by kernel_rfl) (.inr G29_v1_ent) (alt_lcall (S := G29_v1_CS) mixed Tryz.func29 rfl G29_v1_ent G29_v1_CV G29_v1_LV (by kernel_rfl) (by kernel_rfl) (by kernel_rfl) (by kernel_rfl) G29_v1_hev)
noncomputable def G77_C : CalT := tabC []
theorem G77_CV : CV Tryz.prog G77_C := tabC_valid (l := _) trivial
noncomputable def G77 (a0 : ByteArray) (a1 : ByteArray) : Option Bool :=
  (bif (decide ((ByteArray.size a0 : Int) ≥ (ByteArray.size a1 : Int))) then
  (bif (decide (0 ≤ (IntKind.wrap .i64 ((ByteArray.size a0 : Int) - (ByteArray.size a1 : Int)))) && decide ((IntKind.wrap .i64 ((ByteArray.size a0 : Int) - (ByteArray.size a1 : Int))) ≤ (ByteArray.size a0 : Int)) && decide ((ByteArray.size a0 : Int) ≤ (ByteArray.size a0 : Int))) then
    some (ByteArray.toList (ByteArray.extract a0 (Int.toNat (IntKind.wrap .i64 ((ByteArray.size a0 : Int) - (ByteArray.size a1 : Int)))) (Int.toNat (ByteArray.size a0 : Int))) == ByteArray.toList a1)
    else
    none)
  else
  some false)
noncomputable def G77_E : CEnt := pureE 77 [.dat .str, .dat .str] (.dat .bool) fun x => G77 x.1 x.2.1
theorem G77_LV : LV 0 Tryz.prog false (loopsOf (bodyOf Tryz.f77)) [] := by unfold LV; cases loopsOf (bodyOf Tryz.f77) <;> trivial
theorem G77_ent : Ent Tryz.prog 77 := ⟨by decide, enters_of Tryz.func77 (by kernel_rfl) rfl⟩
theorem G77_hev : ∀ x, fnR Tryz.prog G77_C [] Tryz.f77 (bodyOf Tryz.f77) (encs [.dat .str, .dat .str] x) ⟨[], [], 0⟩ (frzF (.dat .bool)) = G77 x.1 x.2.1 := by
  intro x; kernel_rfl
theorem G77_valid : G77_E.Valid Tryz.prog :=
  pureE_valid (by kernel_rfl) (by kernel_rfl) G77_ent (frz_lcall mixed Tryz.func77 rfl G77_ent G77_CV G77_LV (by kernel_rfl) (by kernel_rfl) G77_hev)
noncomputable def G59_C : CalT := tabC [G77_E]
theorem G59_CV : CV Tryz.prog G59_C := tabC_valid (l := _) ⟨G77_valid, trivial⟩
noncomputable def G59 (a0 : ByteArray) (a1 : ByteArray) : Option ByteArray :=
  (Option.bind (G77 a0 a1) fun r1 =>
  (bif r1 then
    (bif (decide (0 ≤ (0 : Int)) && decide ((0 : Int) ≤ (IntKind.wrap .i64 ((ByteArray.size a0 : Int) - (ByteArray.size a1 : Int)))) && decide ((IntKind.wrap .i64 ((ByteArray.size a0 : Int) - (ByteArray.size a1 : Int))) ≤ (ByteArray.size a0 : Int))) then
      some (ByteArray.extract a0 (Int.toNat 0) (Int.toNat (IntKind.wrap .i64 ((ByteArray.size a0 : Int) - (ByteArray.size a1 : Int)))))
      else
      none)
    else
    some a0))
noncomputable def G59_E : CEnt := pureE 59 [.dat .str, .dat .str] (.dat .str) fun x => G59 x.1 x.2.1
theorem G59_LV : LV 0 Tryz.prog false (loopsOf (bodyOf Tryz.f59)) [] := by unfold LV; cases loopsOf (bodyOf Tryz.f59) <;> trivial
theorem G59_ent : Ent Tryz.prog 59 := ⟨by decide, enters_of Tryz.func59 (by kernel_rfl) rfl⟩
theorem G59_hev : ∀ x, fnR Tryz.prog G59_C [] Tryz.f59 (bodyOf Tryz.f59) (encs [.dat .str, .dat .str] x) ⟨[], [], 0⟩ (frzF (.dat .str)) = G59 x.1 x.2.1 := by
  intro x; kernel_rfl
theorem G59_valid : G59_E.Valid Tryz.prog :=
  pureE_valid (by kernel_rfl) (by kernel_rfl) G59_ent (frz_lcall mixed Tryz.func59 rfl G59_ent G59_CV G59_LV (by kernel_rfl) (by kernel_rfl) G59_hev)
noncomputable def G32_C : CalT := tabC [G59_E]
theorem G32_CV : CV Tryz.prog G32_C := tabC_valid (l := _) ⟨G59_valid, trivial⟩
noncomputable def G32 (a0 : ByteArray) (a1 : ByteArray) : Option ByteArray :=
  (Option.bind (G59 a0 a1) fun r1 =>
  some r1)
noncomputable def G32_E : CEnt := pureE 32 [.dat .str, .dat .str] (.dat .str) fun x => G32 x.1 x.2.1
theorem G32_LV : LV 0 Tryz.prog false (loopsOf (bodyOf Tryz.f32)) [] := by unfold LV; cases loopsOf (bodyOf Tryz.f32) <;> trivial
theorem G32_ent : Ent Tryz.prog 32 := ⟨by decide, enters_of Tryz.func32 (by kernel_rfl) rfl⟩
theorem G32_hev : ∀ x, fnR Tryz.prog G32_C [] Tryz.f32 (bodyOf Tryz.f32) (encs [.dat .str, .dat .str] x) ⟨[], [], 0⟩ (frzF (.dat .str)) = G32 x.1 x.2.1 := by
  intro x; kernel_rfl
theorem G32_valid : G32_E.Valid Tryz.prog :=
  pureE_valid (by kernel_rfl) (by kernel_rfl) G32_ent (frz_lcall mixed Tryz.func32 rfl G32_ent G32_CV G32_LV (by kernel_rfl) (by kernel_rfl) G32_hev)
noncomputable def G9_C : CalT := tabC [G29_E, G29_v1_E, G32_E, G25_E, G23_E]
theorem G9_CV : CV Tryz.prog G9_C := tabC_valid (l := _) ⟨G29_valid, G29_v1_valid, G32_valid, G25_valid, G23_valid, trivial⟩
noncomputable def G9 (a0 : ByteArray) : Option (E25 × (Int × Unit)) :=
  (bif (decide ((ByteArray.size a0 : Int) > 5000)) then
  some (([], ((0, (0, ())), ())), (3, ()))
  else
  (Option.bind (G29 1 (a0, (0, (([], ((0, (0, ())), ())), ())))) fun r1 =>
    (altK r1
      (fun r2 => some (([], ((0, (0, ())), ())), (4, ())))
      (fun r3 => (Option.bind (G29_v1 r3.2.1.2.1 r3.2.1) fun r4 =>
        (altK r4
          (fun r5 => some (([], ((0, (0, ())), ())), (4, ())))
          (fun r6 => (Option.bind (G32 a0 r6.2.1.1) fun r7 =>
            (Option.bind (G25 r7) fun r8 =>
              (bif (!(ByteArray.toList r6.2.1.1 == ByteArray.toList r8)) then
                some (([], ((0, (0, ())), ())), (4, ()))
                else
                (Option.bind (G23 r6.2.1.2.2.1) fun r9 =>
                  (bif (!r9) then
                    some (([], ((0, (0, ())), ())), (2, ()))
                    else
                    some (r6.2.1.2.2.1, (0, ()))))))))))))))
noncomputable def G9_E : CEnt := pureE 9 [.dat .str] (.tup (.cons (.dat T25) (.cons (.dat (.int .i64)) (.nil)))) fun x => G9 x.1
theorem G9_LV : LV 2 Tryz.prog false (loopsOf (bodyOf Tryz.f9)) [] := by unfold LV; cases loopsOf (bodyOf Tryz.f9) <;> trivial
theorem G9_ent : Ent Tryz.prog 9 := ⟨by decide, enters_of Tryz.func9 (by kernel_rfl) rfl⟩
theorem G9_hev : ∀ x : Els [.dat .str], fnD Tryz.prog G9_C 2 cloOps 28 71 2 12 [] Tryz.f9 (bodyOf Tryz.f9) (encs [.dat .str] x) ⟨[], [], 0⟩ (frzV (.tup (.cons (.dat T25) (.cons (.dat (.int .i64)) (.nil))))) = G9 x.1 := by
  intro x; kernel_rfl
theorem G9_valid : G9_E.Valid Tryz.prog :=
  pureE_valid (by kernel_rfl) (by kernel_rfl) G9_ent (frzD_lcall mixed Tryz.func9 rfl G9_ent G9_CV clo_ok G9_LV (by kernel_rfl) G9_hev)
end Go.Proofs.YtbidmbjkjpdgdaaGreatDoor.Abs
set_option linter.unusedVariables false
set_option maxRecDepth 100000
namespace Go.Proofs.YtbidmbjkjpdgdaaGreatDoor.Abs
open Go.Shelf Go.Sort
noncomputable def G11_C : CalT := tabC []
theorem G11_CV : CV Tryz.prog G11_C := tabC_valid (l := _) trivial
noncomputable def G11_l0_c : Code := loopAt (bodyOf Tryz.f11) 0
noncomputable def G11_l0_S : SPat := ⟨[.any, .any, .fix (.bptr 0 []), .fix (.bptr 1 []), .dat .bool, .dat (.int .i64), .any, .any, .any, .any, .any, .any, .any, .any, .any, .any, .any, .any, .any, .any, .any, .any, .any, .any, .any, .any, .any, .any, .any, .any, .any, .any, .any, .any, .any, .any, .any, .any], [.dat T25, .dat T25], 0⟩
noncomputable def G11_l0_step (s : ((Bool × (Int × Unit)) × (E25 × (E25 × Unit)))) : Option (Nat × ((Bool × (Int × Unit)) × (E25 × (E25 × Unit)))) :=
  (bif (decide (s.1.2.1 < (List.length s.2.1.1 : Int))) then
  (bif (decide (0 ≤ s.1.2.1) && decide (s.1.2.1 < (List.length s.2.1.1 : Int))) then
    (bif (decide (0 ≤ s.1.2.1) && decide (s.1.2.1 < (List.length s.2.2.1.1 : Int))) then
      (bif (!(((List.getD s.2.1.1 (Int.toNat s.1.2.1) (0, ((0, (0, ())), ()))).1 == (List.getD s.2.2.1.1 (Int.toNat s.1.2.1) (0, ((0, (0, ())), ()))).1) && ((((List.getD s.2.1.1 (Int.toNat s.1.2.1) (0, ((0, (0, ())), ()))).2.1.1 == (List.getD s.2.2.1.1 (Int.toNat s.1.2.1) (0, ((0, (0, ())), ()))).2.1.1) && (((List.getD s.2.1.1 (Int.toNat s.1.2.1) (0, ((0, (0, ())), ()))).2.1.2.1 == (List.getD s.2.2.1.1 (Int.toNat s.1.2.1) (0, ((0, (0, ())), ()))).2.1.2.1) && true)) && true))) then
        some (1, ((false, (s.1.2.1, ())), (s.2.1, (s.2.2.1, ()))))
        else
        some (0, ((s.1.1, ((IntKind.wrap .i64 (s.1.2.1 + 1)), ())), (s.2.1, (s.2.2.1, ())))))
      else
      none)
    else
    none)
  else
  some (2, ((s.1.1, (s.1.2.1, ())), (s.2.1, (s.2.2.1, ())))))
noncomputable def G11_l0_fuel (s : ((Bool × (Int × Unit)) × (E25 × (E25 × Unit)))) : Nat := Int.toNat ((List.length s.2.1.1 : Int) - s.1.2.1) + 1
noncomputable def G11_l0_run (s : ((Bool × (Int × Unit)) × (E25 × (E25 × Unit)))) : Option (Nat × ((Bool × (Int × Unit)) × (E25 × (E25 × Unit)))) := iter G11_l0_step (G11_l0_fuel s) s
noncomputable def G11_l0_L : LoopT := loopT G11_l0_S [.ret, .exit 0] G11_l0_run
noncomputable def G11 (a0 : E25) (a1 : E25) : Option Bool :=
  (bif (!((a0.2.1.1 == a1.2.1.1) && ((a0.2.1.2.1 == a1.2.1.2.1) && true))) then
  some false
  else
  (bif ((List.length a0.1 : Int) != (List.length a1.1 : Int)) then
    some false
    else
    (Option.bind (G11_l0_run ((false, (0, ())), (a0, (a1, ())))) fun q1 =>
      (natK q1.1
        (some q1.2.1.1)
        (fun _ => some true)))))
noncomputable def G11_E : CEnt := pureE 11 [.dat T25, .dat T25] (.dat .bool) fun x => G11 x.1 x.2.1
theorem G11_l0_V : LValid 0 Tryz.prog (.loop G11_l0_c) G11_l0_L false := by
  have hb : ∀ s, codeR Tryz.prog G11_C G11_l0_c [] (G11_l0_S.encE s) (G11_l0_S.encB s) (kst G11_l0_S [.ret, .exit 0]) = G11_l0_step s := by
    intro s; kernel_rfl
  have hL : LV 0 Tryz.prog false (loopsOf G11_l0_c) [] := by unfold LV; cases loopsOf G11_l0_c <;> trivial
  exact loopT_valid (fuel := G11_l0_fuel) mixed G11_CV hL (by kernel_rfl) (by decide) rfl hb (fun s r h => h)
theorem G11_LV : LV 0 Tryz.prog false (loopsOf (bodyOf Tryz.f11)) [G11_l0_L] := by
  have hl : loopsOf (bodyOf Tryz.f11) = [.loop G11_l0_c] := by kernel_rfl
  rw [hl]; exact ⟨G11_l0_V, trivial⟩
theorem G11_ent : Ent Tryz.prog 11 := ⟨by decide, enters_of Tryz.func11 (by kernel_rfl) rfl⟩
theorem G11_hev : ∀ x, fnR Tryz.prog G11_C [G11_l0_L] Tryz.f11 (bodyOf Tryz.f11) (encs [.dat T25, .dat T25] x) ⟨[], [], 0⟩ (frzF (.dat .bool)) = G11 x.1 x.2.1 := by
  intro x; kernel_rfl
theorem G11_valid : G11_E.Valid Tryz.prog :=
  pureE_valid (by kernel_rfl) (by kernel_rfl) G11_ent (frz_lcall mixed Tryz.func11 rfl G11_ent G11_CV G11_LV (by kernel_rfl) (by kernel_rfl) G11_hev)
end Go.Proofs.YtbidmbjkjpdgdaaGreatDoor.Abs
