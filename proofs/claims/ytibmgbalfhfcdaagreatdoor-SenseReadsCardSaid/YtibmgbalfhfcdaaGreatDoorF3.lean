import Derived.Test.YtibmgbalfhfcdaaGreatDoorF2
set_option linter.unusedVariables false
set_option maxRecDepth 100000
namespace Go.Proofs.YtibmgbalfhfcdaaGreatDoor.Abs
open Go.Shelf Go.Sort
noncomputable def G37_C : CalT := CalT.vecs (tabC []) [1000007]
theorem G37_CV : CV Tryz.prog G37_C := CV.vecs (C := tabC []) (tabC_valid (l := _) trivial)
noncomputable def G37_l0_c : Code := loopAt (bodyOf Tryz.f37) 0
noncomputable def G37_l0_S : SPat := ⟨[.dat .str, .dat (.int .u8), .any, .any, .any, .vec 0 0 .str, .dat (.int .i64), .any, .any, .any, .any, .any, .any, .any, .any, .any, .any, .any, .any, .any, .any, .any, .any, .any, .any, .any, .any, .any, .any, .any, .any, .any, .any, .any, .any, .any, .any, .any, .any, .any], [.vrow 0 .str], 1⟩
abbrev TY95 : Type := (Nat × ((ByteArray × (Int × (Nat × (Int × Unit)))) × ((List ByteArray) × Unit)))
noncomputable def G37_l0_step (s : ((ByteArray × (Int × (Nat × (Int × Unit)))) × ((List ByteArray) × Unit))) : Option TY95 :=
  (bif (decide (s.1.2.2.2.1 < (ByteArray.size s.1.1 : Int))) then
  (bif (decide (0 ≤ s.1.2.2.2.1) && decide (s.1.2.2.2.1 < (ByteArray.size s.1.1 : Int))) then
    (bif ((bt s.1.1 s.1.2.2.2.1) == s.1.2.1) then
      (bif (decide (s.1.2.2.1 = List.length s.2.1) && decide (List.length s.2.1 + List.length [(⟨#[]⟩ : ByteArray)] ≤ LIM)) then
        some (0, ((s.1.1, (s.1.2.1, ((s.1.2.2.1 + List.length [(⟨#[]⟩ : ByteArray)]), ((IntKind.wrap .i64 (s.1.2.2.2.1 + 1)), ())))), ((s.2.1 ++ [(⟨#[]⟩ : ByteArray)]), ())))
        else
        none)
      else
      (bif (decide (0 ≤ (IntKind.wrap .i64 ((s.1.2.2.1 : Int) - 1))) && decide ((IntKind.wrap .i64 ((s.1.2.2.1 : Int) - 1)) < (s.1.2.2.1 : Int))) then
        (bif (decide ((Int.toNat (IntKind.wrap .i64 ((s.1.2.2.1 : Int) - 1))) < List.length s.2.1)) then
          (bif (decide (0 ≤ s.1.2.2.2.1) && decide (s.1.2.2.2.1 ≤ (IntKind.wrap .i64 (s.1.2.2.2.1 + 1))) && decide ((IntKind.wrap .i64 (s.1.2.2.2.1 + 1)) ≤ (ByteArray.size s.1.1 : Int))) then
            (bif (decide (ByteArray.size (List.getD s.2.1 (Int.toNat (IntKind.wrap .i64 ((s.1.2.2.1 : Int) - 1))) (⟨#[]⟩ : ByteArray)) + ByteArray.size (ByteArray.extract s.1.1 (Int.toNat s.1.2.2.2.1) (Int.toNat (IntKind.wrap .i64 (s.1.2.2.2.1 + 1)))) ≤ LIM)) then
              (bif (decide (0 ≤ (IntKind.wrap .i64 ((s.1.2.2.1 : Int) - 1))) && decide ((IntKind.wrap .i64 ((s.1.2.2.1 : Int) - 1)) < (s.1.2.2.1 : Int))) then
                (bif (decide ((Int.toNat (IntKind.wrap .i64 ((s.1.2.2.1 : Int) - 1))) < List.length s.2.1)) then
                  some (0, ((s.1.1, (s.1.2.1, (s.1.2.2.1, ((IntKind.wrap .i64 (s.1.2.2.2.1 + 1)), ())))), ((List.set s.2.1 (Int.toNat (IntKind.wrap .i64 ((s.1.2.2.1 : Int) - 1))) (ByteArray.append (List.getD s.2.1 (Int.toNat (IntKind.wrap .i64 ((s.1.2.2.1 : Int) - 1))) (⟨#[]⟩ : ByteArray)) (ByteArray.extract s.1.1 (Int.toNat s.1.2.2.2.1) (Int.toNat (IntKind.wrap .i64 (s.1.2.2.2.1 + 1)))))), ())))
                  else
                  none)
                else
                none)
              else
              none)
            else
            none)
          else
          none)
        else
        none))
    else
    none)
  else
  some (1, ((s.1.1, (s.1.2.1, (s.1.2.2.1, (s.1.2.2.2.1, ())))), (s.2.1, ()))))
noncomputable def G37_l0_fuel (s : ((ByteArray × (Int × (Nat × (Int × Unit)))) × ((List ByteArray) × Unit))) : Nat := Int.toNat ((ByteArray.size s.1.1 : Int) - s.1.2.2.2.1) + 1
noncomputable def G37_l0_run (s : ((ByteArray × (Int × (Nat × (Int × Unit)))) × ((List ByteArray) × Unit))) : Option TY95 := iter G37_l0_step (G37_l0_fuel s) s
noncomputable def G37_l0_L : LoopT := loopT G37_l0_S [.exit 0] G37_l0_run
noncomputable def G37 (a0 : ByteArray) (a1 : Int) : Option (List ByteArray) :=
  (Option.bind (G37_l0_run ((a0, (a1, ((List.length ([(⟨#[]⟩ : ByteArray)] : List ByteArray)), (0, ())))), (([(⟨#[]⟩ : ByteArray)] : List ByteArray), ()))) fun q1 =>
  (bif (decide (q1.2.1.2.2.1 ≤ List.length q1.2.2.1)) then
    some (List.take q1.2.1.2.2.1 q1.2.2.1)
    else
    none))
noncomputable def G37_E : CEnt := pureE 37 [.dat .str, .dat (.int .u8)] (.dat (.list .str)) fun x => G37 x.1 x.2.1
theorem G37_l0_V : LValid 0 Tryz.prog (.loop G37_l0_c) G37_l0_L false := by
  have hb : ∀ s, codeR Tryz.prog G37_C G37_l0_c [] (G37_l0_S.encE s) (G37_l0_S.encB s) (kst G37_l0_S [.exit 0]) = G37_l0_step s := by
    intro s; kernel_rfl
  have hL : LV 0 Tryz.prog false (loopsOf G37_l0_c) [] := by unfold LV; cases loopsOf G37_l0_c <;> trivial
  exact loopT_valid (fuel := G37_l0_fuel) mixed G37_CV hL (by kernel_rfl) (by decide) rfl hb (fun s r h => h)
theorem G37_LV : LV 0 Tryz.prog false (loopsOf (bodyOf Tryz.f37)) [G37_l0_L] := by
  have hl : loopsOf (bodyOf Tryz.f37) = [.loop G37_l0_c] := by kernel_rfl
  rw [hl]; exact ⟨G37_l0_V, trivial⟩
theorem G37_ent : Ent Tryz.prog 37 := ⟨by decide, enters_of Tryz.func37 (by kernel_rfl) rfl⟩
theorem G37_hev : ∀ x, fnR Tryz.prog G37_C [G37_l0_L] Tryz.f37 (bodyOf Tryz.f37) (encs [.dat .str, .dat (.int .u8)] x) ⟨[], [], 0⟩ (frzV (.dat (.list .str))) = G37 x.1 x.2.1 := by
  intro x; kernel_rfl
theorem G37_valid : G37_E.Valid Tryz.prog :=
  pureE_valid (by kernel_rfl) (by kernel_rfl) G37_ent (frzV_lcall mixed Tryz.func37 rfl G37_ent G37_CV G37_LV (by kernel_rfl) (by kernel_rfl) G37_hev)
noncomputable def G69_C : CalT := tabC [G67_E]
theorem G69_CV : CV Tryz.prog G69_C := tabC_valid (l := _) ⟨G67_valid, trivial⟩
noncomputable def G69_l0_c : Code := loopAt (bodyOf Tryz.f69) 0
noncomputable def G69_l0_S : SPat := ⟨[.dat .str, .any, .dat (.int .i64), .dat .bool, .dat (.int .i64), .dat (.int .i64), .any, .any, .any, .any, .any, .any, .any, .any, .any, .any, .any, .any, .any, .any, .any, .any, .any, .any, .any, .any, .any, .any, .any, .any, .any, .any, .any, .any, .any, .any, .any, .any, .any, .any, .any, .any, .any], [], 0⟩
noncomputable def G69_l0_step (s : ((ByteArray × (Int × (Bool × (Int × (Int × Unit))))) × Unit)) : Option (Nat × ((ByteArray × (Int × (Bool × (Int × (Int × Unit))))) × Unit)) :=
  (bif (decide (s.1.2.2.2.2.1 < (ByteArray.size s.1.1 : Int))) then
  (bif (decide (0 ≤ s.1.2.2.2.2.1) && decide (s.1.2.2.2.2.1 < (ByteArray.size s.1.1 : Int))) then
    (bif (decide ((bt s.1.1 s.1.2.2.2.2.1) < 48)) then
      some (1, ((s.1.1, (0, (false, (s.1.2.2.2.1, (s.1.2.2.2.2.1, ()))))), ()))
      else
      (bif (decide (0 ≤ s.1.2.2.2.2.1) && decide (s.1.2.2.2.2.1 < (ByteArray.size s.1.1 : Int))) then
        (bif (decide ((bt s.1.1 s.1.2.2.2.2.1) > 57)) then
          some (1, ((s.1.1, (0, (false, (s.1.2.2.2.1, (s.1.2.2.2.2.1, ()))))), ()))
          else
          (bif (decide (0 ≤ s.1.2.2.2.2.1) && decide (s.1.2.2.2.2.1 < (ByteArray.size s.1.1 : Int))) then
            some (0, ((s.1.1, (s.1.2.1, (s.1.2.2.1, ((IntKind.wrap .i64 ((IntKind.wrap .i64 ((10 : Int) * s.1.2.2.2.1)) + (IntKind.wrap .i64 (IntKind.wrap .u8 ((bt s.1.1 s.1.2.2.2.2.1) - 48))))), ((IntKind.wrap .i64 (s.1.2.2.2.2.1 + 1)), ()))))), ()))
            else
            none))
        else
        none))
    else
    none)
  else
  some (2, ((s.1.1, (s.1.2.1, (s.1.2.2.1, (s.1.2.2.2.1, (s.1.2.2.2.2.1, ()))))), ())))
noncomputable def G69_l0_fuel (s : ((ByteArray × (Int × (Bool × (Int × (Int × Unit))))) × Unit)) : Nat := Int.toNat ((ByteArray.size s.1.1 : Int) - s.1.2.2.2.2.1) + 1
noncomputable def G69_l0_run (s : ((ByteArray × (Int × (Bool × (Int × (Int × Unit))))) × Unit)) : Option (Nat × ((ByteArray × (Int × (Bool × (Int × (Int × Unit))))) × Unit)) := iter G69_l0_step (G69_l0_fuel s) s
noncomputable def G69_l0_L : LoopT := loopT G69_l0_S [.ret, .exit 0] G69_l0_run
noncomputable def G69 (a0 : ByteArray) : Option (Int × (Bool × Unit)) :=
  (bif ((ByteArray.size a0 : Int) == 0) then
  some (0, (false, ()))
  else
  (bif (decide ((ByteArray.size a0 : Int) > 4)) then
    some (0, (false, ()))
    else
    (Option.bind (G69_l0_run ((a0, (0, (false, (0, (0, ()))))), ())) fun q1 =>
      (natK q1.1
        (some (q1.2.1.2.1, (q1.2.1.2.2.1, ())))
        (fun _ => (Option.bind (G67 q1.2.1.2.2.2.1) fun r2 =>
          some (q1.2.1.2.2.2.1, ((ByteArray.toList r2 == ByteArray.toList q1.2.1.1), ()))))))))
noncomputable def G69_E : CEnt := pureE 69 [.dat .str] (.tup (.cons (.dat (.int .i64)) (.cons (.dat .bool) (.nil)))) fun x => G69 x.1
theorem G69_l0_V : LValid 0 Tryz.prog (.loop G69_l0_c) G69_l0_L false := by
  have hb : ∀ s, codeR Tryz.prog G69_C G69_l0_c [] (G69_l0_S.encE s) (G69_l0_S.encB s) (kst G69_l0_S [.ret, .exit 0]) = G69_l0_step s := by
    intro s; kernel_rfl
  have hL : LV 0 Tryz.prog false (loopsOf G69_l0_c) [] := by unfold LV; cases loopsOf G69_l0_c <;> trivial
  exact loopT_valid (fuel := G69_l0_fuel) mixed G69_CV hL (by kernel_rfl) (by decide) rfl hb (fun s r h => h)
theorem G69_LV : LV 0 Tryz.prog false (loopsOf (bodyOf Tryz.f69)) [G69_l0_L] := by
  have hl : loopsOf (bodyOf Tryz.f69) = [.loop G69_l0_c] := by kernel_rfl
  rw [hl]; exact ⟨G69_l0_V, trivial⟩
theorem G69_ent : Ent Tryz.prog 69 := ⟨by decide, enters_of Tryz.func69 (by kernel_rfl) rfl⟩
theorem G69_hev : ∀ x, fnR Tryz.prog G69_C [G69_l0_L] Tryz.f69 (bodyOf Tryz.f69) (encs [.dat .str] x) ⟨[], [], 0⟩ (frzF (.tup (.cons (.dat (.int .i64)) (.cons (.dat .bool) (.nil))))) = G69 x.1 := by
  intro x; kernel_rfl
theorem G69_valid : G69_E.Valid Tryz.prog :=
  pureE_valid (by kernel_rfl) (by kernel_rfl) G69_ent (frz_lcall mixed Tryz.func69 rfl G69_ent G69_CV G69_LV (by kernel_rfl) (by kernel_rfl) G69_hev)
noncomputable def G38_C : CalT := tabC [G37_E, G69_E, G68_E]
theorem G38_CV : CV Tryz.prog G38_C := tabC_valid (l := _) ⟨G37_valid, G69_valid, G68_valid, trivial⟩
noncomputable def G38_l0_c : Code := loopAt (bodyOf Tryz.f38) 0
noncomputable def G38_l0_S : SPat := ⟨[.any, .any, .dat (.int .i64), .any, .any, .any, .own 0 (.int .i64), .dat .bool, .dat (.list .str), .own 1 (.int .i64), .dat (.int .i64), .any, .any, .any, .any, .any, .any, .any, .any, .any, .any, .any, .any, .any, .any, .any, .any, .any, .any, .any, .any, .any, .any, .any, .any, .any, .any, .any, .any, .any, .any, .any, .any, .any, .any, .any, .any, .any, .any, .any, .any, .any, .any, .any, .any], [], 2⟩
abbrev TY96 : Type := ((Int × ((List Int) × (Bool × ((List ByteArray) × ((List Int) × (Int × Unit)))))) × Unit)
abbrev TY97 : Type := (Nat × ((Int × ((List Int) × (Bool × ((List ByteArray) × ((List Int) × (Int × Unit)))))) × Unit))
noncomputable def G38_l0_step (s : TY96) : Option TY97 :=
  (bif (decide (s.1.2.2.2.2.2.1 ≤ s.1.1)) then
  (bif (decide (0 ≤ s.1.2.2.2.2.2.1) && decide (s.1.2.2.2.2.2.1 < (List.length s.1.2.2.2.1 : Int))) then
    (Option.bind (G69 (List.getD s.1.2.2.2.1 (Int.toNat s.1.2.2.2.2.2.1) (⟨#[]⟩ : ByteArray))) fun r2 =>
      (bif (!r2.2.1) then
        some (1, ((s.1.1, ([], (false, (s.1.2.2.2.1, (s.1.2.2.2.2.1, (s.1.2.2.2.2.2.1, ())))))), ()))
        else
        (bif (decide (List.length s.1.2.2.2.2.1 + List.length [r2.1] ≤ LIM)) then
          some (0, ((s.1.1, (s.1.2.1, (s.1.2.2.1, (s.1.2.2.2.1, ((s.1.2.2.2.2.1 ++ [r2.1]), ((IntKind.wrap .i64 (s.1.2.2.2.2.2.1 + 1)), ())))))), ()))
          else
          none)))
    else
    none)
  else
  some (2, ((s.1.1, (s.1.2.1, (s.1.2.2.1, (s.1.2.2.2.1, (s.1.2.2.2.2.1, (s.1.2.2.2.2.2.1, ())))))), ())))
noncomputable def G38_l0_fuel (s : TY96) : Nat := 100000
noncomputable def G38_l0_run (s : TY96) : Option TY97 := iter G38_l0_step (G38_l0_fuel s) s
noncomputable def G38_l0_L : LoopT := loopT G38_l0_S [.ret, .exit 0] G38_l0_run
noncomputable def G38 (a0 : ByteArray) (a1 : ByteArray) (a2 : Int) : Option ((List Int) × (Bool × Unit)) :=
  (Option.bind (G37 a0 32) fun r1 =>
  (bif ((List.length r1 : Int) != (IntKind.wrap .i64 (a2 + 2))) then
    some ([], (false, ()))
    else
    (bif (decide (0 ≤ (0 : Int)) && decide ((0 : Int) < (List.length r1 : Int))) then
      (bif (!(ByteArray.toList (List.getD r1 (Int.toNat 0) (⟨#[]⟩ : ByteArray)) == ByteArray.toList a1)) then
        some ([], (false, ()))
        else
        (Option.bind (G38_l0_run ((a2, ([], (false, (r1, ([], (1, ())))))), ())) fun q3 =>
          (natK q3.1
            (some (q3.2.1.2.1, (q3.2.1.2.2.1, ())))
            (fun _ => (bif (decide (0 ≤ (IntKind.wrap .i64 (q3.2.1.1 + 1))) && decide ((IntKind.wrap .i64 (q3.2.1.1 + 1)) < (List.length q3.2.1.2.2.2.1 : Int))) then
              (Option.bind (G68 q3.2.1.2.2.2.2.1) fun r4 =>
                some (q3.2.1.2.2.2.2.1, ((ByteArray.toList (List.getD q3.2.1.2.2.2.1 (Int.toNat (IntKind.wrap .i64 (q3.2.1.1 + 1))) (⟨#[]⟩ : ByteArray)) == ByteArray.toList r4), ())))
              else
              none)))))
      else
      none)))
noncomputable def G38_E : CEnt := pureE 38 [.dat .str, .dat .str, .dat (.int .i64)] (.tup (.cons (.dat (.list (.int .i64))) (.cons (.dat .bool) (.nil)))) fun x => G38 x.1 x.2.1 x.2.2.1
theorem G38_l0_V : LValid 0 Tryz.prog (.loop G38_l0_c) G38_l0_L false := by
  have hb : ∀ s, codeR Tryz.prog G38_C G38_l0_c [] (G38_l0_S.encE s) (G38_l0_S.encB s) (kst G38_l0_S [.ret, .exit 0]) = G38_l0_step s := by
    intro s; kernel_rfl
  have hL : LV 0 Tryz.prog false (loopsOf G38_l0_c) [] := by unfold LV; cases loopsOf G38_l0_c <;> trivial
  exact loopT_valid (fuel := G38_l0_fuel) mixed G38_CV hL (by kernel_rfl) (by decide) rfl hb (fun s r h => h)
theorem G38_LV : LV 0 Tryz.prog false (loopsOf (bodyOf Tryz.f38)) [G38_l0_L] := by
  have hl : loopsOf (bodyOf Tryz.f38) = [.loop G38_l0_c] := by kernel_rfl
  rw [hl]; exact ⟨G38_l0_V, trivial⟩
theorem G38_ent : Ent Tryz.prog 38 := ⟨by decide, enters_of Tryz.func38 (by kernel_rfl) rfl⟩
theorem G38_hev : ∀ x, fnR Tryz.prog G38_C [G38_l0_L] Tryz.f38 (bodyOf Tryz.f38) (encs [.dat .str, .dat .str, .dat (.int .i64)] x) ⟨[], [], 0⟩ (frzF (.tup (.cons (.dat (.list (.int .i64))) (.cons (.dat .bool) (.nil))))) = G38 x.1 x.2.1 x.2.2.1 := by
  intro x; kernel_rfl
theorem G38_valid : G38_E.Valid Tryz.prog :=
  pureE_valid (by kernel_rfl) (by kernel_rfl) G38_ent (frz_lcall mixed Tryz.func38 rfl G38_ent G38_CV G38_LV (by kernel_rfl) (by kernel_rfl) G38_hev)
noncomputable def G14_C : CalT := tabC [G37_E, G38_E]
theorem G14_CV : CV Tryz.prog G14_C := tabC_valid (l := _) ⟨G37_valid, G38_valid, trivial⟩
noncomputable def G14_l0_c : Code := loopAt (bodyOf Tryz.f14) 0
noncomputable def G14_l1_c : Code := loopAt (bodyOf Tryz.f14) 1
abbrev PA98 : PTy := (.cons (.dat (.int .i64)) (.cons (.dat (.int .i64)) (.cons (.dat (.int .i64)) (.cons (.own 1 (.int .i64)) (.nil)))))
noncomputable def G14_l0_S : SPat := ⟨[.any, .any, .fix (.bptr 0 []), .own 2 T71, .dat .bool, .dat (.list .str), .dat (.list (.int .i64)), .any, .fix (.bptr 1 []), .dat (.int .i64), .any, .any, .any, .any, .any, .any, .any, .any, .any, .any, .any, .any, .any, .any, .any, .any, .any, .any, .any, .any, .any, .any, .any, .any, .any, .any, .any, .any, .any, .any, .any, .any, .any, .any, .any, .any, .any, .any, .any, .any, .any, .any, .any, .any, .any, .any, .any, .any, .any, .any, .any, .any, .any, .any, .any, .any, .any, .any, .any, .any, .any, .any, .any, .any, .any, .any, .any, .any, .any, .any, .any, .any, .any, .any, .any, .any, .any, .any, .any, .any, .any, .any, .any, .any, .any, .any, .any, .any, .any, .any, .any, .any, .any, .any, .any, .any, .any, .any, .any, .any, .any, .any, .any, .any, .any, .any, .any, .any, .any, .any, .any, .any, .any, .any, .any, .any, .any, .any, .any, .any, .any, .any, .any, .any, .any, .any, .any, .any, .any, .any, .any, .any, .any, .any], [.cons (.dat (.int .i64)) PA88, .cons (.dat (.int .i64)) PA98], 3⟩
abbrev TY99 : Type := (((List E71) × (Bool × ((List ByteArray) × ((List Int) × (Int × Unit))))) × ((Int × (Int × (Int × (Int × ((List Int) × Unit))))) × ((Int × (Int × (Int × (Int × ((List Int) × Unit))))) × Unit)))
abbrev TY100 : Type := (Nat × (((List E71) × (Bool × ((List ByteArray) × ((List Int) × (Int × Unit))))) × ((Int × (Int × (Int × (Int × ((List Int) × Unit))))) × ((Int × (Int × (Int × (Int × ((List Int) × Unit))))) × Unit))))
noncomputable def G14_l0_step (s : TY99) : Option TY100 :=
  (bif (decide (0 ≤ (4 : Int)) && decide ((4 : Int) < (List.length s.1.2.2.2.1 : Int))) then
  (bif (decide (s.1.2.2.2.2.1 ≤ (List.getD s.1.2.2.2.1 (Int.toNat 4) 0))) then
    (bif (decide (0 ≤ s.1.2.2.2.2.1) && decide (s.1.2.2.2.2.1 < (List.length s.1.2.2.1 : Int))) then
      (Option.bind (G38 (List.getD s.1.2.2.1 (Int.toNat s.1.2.2.2.2.1) (⟨#[]⟩ : ByteArray)) (⟨#[115, 101, 110, 115, 111, 114]⟩ : ByteArray) 1) fun r3 =>
        (bif (!r3.2.1) then
          some (1, (([], (false, (s.1.2.2.1, (s.1.2.2.2.1, (s.1.2.2.2.2.1, ()))))), ((0, (0, (0, (0, ([], ()))))), (s.2.2.1, ()))))
          else
          (bif (decide (0 ≤ (0 : Int)) && decide ((0 : Int) < (List.length r3.1 : Int))) then
            (bif (decide (List.length s.2.2.1.2.2.2.2.1 + List.length [(List.getD r3.1 (Int.toNat 0) 0)] ≤ LIM)) then
              some (0, ((s.1.1, (s.1.2.1, (s.1.2.2.1, (s.1.2.2.2.1, ((IntKind.wrap .i64 (s.1.2.2.2.2.1 + 1)), ()))))), (s.2.1, ((s.2.2.1.1, (s.2.2.1.2.1, (s.2.2.1.2.2.1, (s.2.2.1.2.2.2.1, ((s.2.2.1.2.2.2.2.1 ++ [(List.getD r3.1 (Int.toNat 0) 0)]), s.2.2.1.2.2.2.2.2))))), ()))))
              else
              none)
            else
            none)))
      else
      none)
    else
    some (2, ((s.1.1, (s.1.2.1, (s.1.2.2.1, (s.1.2.2.2.1, (s.1.2.2.2.2.1, ()))))), (s.2.1, (s.2.2.1, ())))))
  else
  none)
noncomputable def G14_l0_fuel (s : TY99) : Nat := 100000
noncomputable def G14_l0_run (s : TY99) : Option TY100 := iter G14_l0_step (G14_l0_fuel s) s
noncomputable def G14_l0_L : LoopT := loopT G14_l0_S [.ret, .exit 0] G14_l0_run
noncomputable def G14_l1_S : SPat := ⟨[.any, .any, .fix (.bptr 0 []), .own 2 T71, .dat .bool, .dat (.list .str), .any, .any, .fix (.bptr 1 []), .any, .any, .any, .own 3 T71, .dat (.int .i64), .any, .any, .any, .any, .any, .any, .any, .any, .any, .any, .any, .any, .any, .any, .any, .any, .any, .any, .any, .any, .any, .any, .any, .any, .any, .any, .any, .any, .any, .any, .any, .any, .any, .any, .any, .any, .any, .any, .any, .any, .any, .any, .any, .any, .any, .any, .any, .any, .any, .any, .any, .any, .any, .any, .any, .any, .any, .any, .any, .any, .any, .any, .any, .any, .any, .any, .any, .any, .any, .any, .any, .any, .any, .any, .any, .any, .any, .any, .any, .any, .any, .any, .any, .any, .any, .any, .any, .any, .any, .any, .any, .any, .any, .any, .any, .any, .any, .any, .any, .any, .any, .any, .any, .any, .any, .any, .any, .any, .any, .any, .any, .any, .any, .any, .any, .any, .any, .any, .any, .any, .any, .any, .any, .any, .any, .any, .any, .any, .any, .any], [.cons (.dat (.int .i64)) PA88, .cons (.dat (.int .i64)) PA98], 4⟩
abbrev TY101 : Type := (((List E71) × (Bool × ((List ByteArray) × ((List E71) × (Int × Unit))))) × ((Int × (Int × (Int × (Int × ((List Int) × Unit))))) × ((Int × (Int × (Int × (Int × ((List Int) × Unit))))) × Unit)))
abbrev TY102 : Type := (Nat × (((List E71) × (Bool × ((List ByteArray) × ((List E71) × (Int × Unit))))) × ((Int × (Int × (Int × (Int × ((List Int) × Unit))))) × ((Int × (Int × (Int × (Int × ((List Int) × Unit))))) × Unit))))
noncomputable def G14_l1_step (s : TY101) : Option TY102 :=
  (bif (decide (s.1.2.2.2.2.1 < (IntKind.wrap .i64 ((List.length s.1.2.2.1 : Int) - 2)))) then
  (bif (decide (0 ≤ s.1.2.2.2.2.1) && decide (s.1.2.2.2.2.1 < (List.length s.1.2.2.1 : Int))) then
    (Option.bind (G38 (List.getD s.1.2.2.1 (Int.toNat s.1.2.2.2.2.1) (⟨#[]⟩ : ByteArray)) (⟨#[114, 101, 97, 100]⟩ : ByteArray) 3) fun r5 =>
      (bif (!r5.2.1) then
        some (1, (([], (false, (s.1.2.2.1, (s.1.2.2.2.1, (s.1.2.2.2.2.1, ()))))), ((0, (0, (0, (0, ([], ()))))), (s.2.2.1, ()))))
        else
        (bif (decide (0 ≤ (0 : Int)) && decide ((0 : Int) < (List.length r5.1 : Int))) then
          (bif (decide (0 ≤ (1 : Int)) && decide ((1 : Int) < (List.length r5.1 : Int))) then
            (bif (decide (0 ≤ (2 : Int)) && decide ((2 : Int) < (List.length r5.1 : Int))) then
              (bif (decide (List.length s.1.2.2.2.1 + List.length [((List.getD r5.1 (Int.toNat 0) 0), ((List.getD r5.1 (Int.toNat 1) 0), ((List.getD r5.1 (Int.toNat 2) 0), ())))] ≤ LIM)) then
                some (0, ((s.1.1, (s.1.2.1, (s.1.2.2.1, ((s.1.2.2.2.1 ++ [((List.getD r5.1 (Int.toNat 0) 0), ((List.getD r5.1 (Int.toNat 1) 0), ((List.getD r5.1 (Int.toNat 2) 0), ())))]), ((IntKind.wrap .i64 (s.1.2.2.2.2.1 + 1)), ()))))), (s.2.1, (s.2.2.1, ()))))
                else
                none)
              else
              none)
            else
            none)
          else
          none)))
    else
    none)
  else
  some (2, ((s.1.1, (s.1.2.1, (s.1.2.2.1, (s.1.2.2.2.1, (s.1.2.2.2.2.1, ()))))), (s.2.1, (s.2.2.1, ())))))
noncomputable def G14_l1_fuel (s : TY101) : Nat := Int.toNat ((IntKind.wrap .i64 ((List.length s.1.2.2.1 : Int) - 2)) - s.1.2.2.2.2.1) + 1
noncomputable def G14_l1_run (s : TY101) : Option TY102 := iter G14_l1_step (G14_l1_fuel s) s
noncomputable def G14_l1_L : LoopT := loopT G14_l1_S [.ret, .exit 2] G14_l1_run
noncomputable def G14 (a0 : ByteArray) : Option (E23 × ((List E71) × (Bool × Unit))) :=
  (Option.bind (G37 a0 10) fun r1 =>
  (bif (decide (0 ≤ (0 : Int)) && decide ((0 : Int) < (List.length r1 : Int))) then
    (Option.bind (G38 (List.getD r1 (Int.toNat 0) (⟨#[]⟩ : ByteArray)) (⟨#[115, 116, 114, 105, 110, 103]⟩ : ByteArray) 5) fun r2 =>
      (bif (!r2.2.1) then
        some ((0, (0, (0, (0, ([], ()))))), ([], (false, ())))
        else
        (bif (decide (0 ≤ (4 : Int)) && decide ((4 : Int) < (List.length r2.1 : Int))) then
          (bif (decide ((IntKind.wrap .i64 ((List.getD r2.1 (Int.toNat 4) 0) + 3)) > (List.length r1 : Int))) then
            some ((0, (0, (0, (0, ([], ()))))), ([], (false, ())))
            else
            (bif (decide (0 ≤ (IntKind.wrap .i64 ((List.length r1 : Int) - 1))) && decide ((IntKind.wrap .i64 ((List.length r1 : Int) - 1)) < (List.length r1 : Int))) then
              (bif (!(ByteArray.toList (List.getD r1 (Int.toNat (IntKind.wrap .i64 ((List.length r1 : Int) - 1))) (⟨#[]⟩ : ByteArray)) == ByteArray.toList (⟨#[]⟩ : ByteArray))) then
                some ((0, (0, (0, (0, ([], ()))))), ([], (false, ())))
                else
                (bif (decide (0 ≤ (0 : Int)) && decide ((0 : Int) < (List.length r2.1 : Int))) then
                  (bif (decide (0 ≤ (1 : Int)) && decide ((1 : Int) < (List.length r2.1 : Int))) then
                    (bif (decide (0 ≤ (2 : Int)) && decide ((2 : Int) < (List.length r2.1 : Int))) then
                      (bif (decide (0 ≤ (3 : Int)) && decide ((3 : Int) < (List.length r2.1 : Int))) then
                        (Option.bind (G14_l0_run (([], (false, (r1, (r2.1, (1, ()))))), ((0, (0, (0, (0, ([], ()))))), (((List.getD r2.1 (Int.toNat 0) 0), ((List.getD r2.1 (Int.toNat 1) 0), ((List.getD r2.1 (Int.toNat 2) 0), ((List.getD r2.1 (Int.toNat 3) 0), ([], ()))))), ())))) fun q4 =>
                          (natK q4.1
                            (some (q4.2.2.1, (q4.2.1.1, (q4.2.1.2.1, ()))))
                            (fun _ => (bif (decide (0 ≤ (4 : Int)) && decide ((4 : Int) < (List.length q4.2.1.2.2.2.1 : Int))) then
                              (Option.bind (G14_l1_run ((q4.2.1.1, (q4.2.1.2.1, (q4.2.1.2.2.1, ([], ((IntKind.wrap .i64 ((List.getD q4.2.1.2.2.2.1 (Int.toNat 4) 0) + 1)), ()))))), (q4.2.2.1, (q4.2.2.2.1, ())))) fun q6 =>
                                (natK q6.1
                                  (some (q6.2.2.1, (q6.2.1.1, (q6.2.1.2.1, ()))))
                                  (fun _ => (bif (decide (0 ≤ (IntKind.wrap .i64 ((List.length q6.2.1.2.2.1 : Int) - 2))) && decide ((IntKind.wrap .i64 ((List.length q6.2.1.2.2.1 : Int) - 2)) < (List.length q6.2.1.2.2.1 : Int))) then
                                    (Option.bind (G38 (List.getD q6.2.1.2.2.1 (Int.toNat (IntKind.wrap .i64 ((List.length q6.2.1.2.2.1 : Int) - 2))) (⟨#[]⟩ : ByteArray)) (⟨#[101, 110, 100]⟩ : ByteArray) 1) fun r7 =>
                                      (bif (!r7.2.1) then
                                        some ((0, (0, (0, (0, ([], ()))))), ([], (false, ())))
                                        else
                                        (bif (decide (0 ≤ (0 : Int)) && decide ((0 : Int) < (List.length r7.1 : Int))) then
                                          (bif ((List.getD r7.1 (Int.toNat 0) 0) != (List.length q6.2.1.2.2.2.1 : Int)) then
                                            some ((0, (0, (0, (0, ([], ()))))), ([], (false, ())))
                                            else
                                            some (q6.2.2.2.1, (q6.2.1.2.2.2.1, (true, ()))))
                                          else
                                          none)))
                                    else
                                    none))))
                              else
                              none))))
                        else
                        none)
                      else
                      none)
                    else
                    none)
                  else
                  none))
              else
              none))
          else
          none)))
    else
    none))
noncomputable def G14_E : CEnt := pureE 14 [.dat .str] (.tup (.cons (.dat T23) (.cons (.dat (.list T71)) (.cons (.dat .bool) (.nil))))) fun x => G14 x.1
theorem G14_l0_V : LValid 0 Tryz.prog (.loop G14_l0_c) G14_l0_L false := by
  have hb : ∀ s, codeR Tryz.prog G14_C G14_l0_c [] (G14_l0_S.encE s) (G14_l0_S.encB s) (kst G14_l0_S [.ret, .exit 0]) = G14_l0_step s := by
    intro s; kernel_rfl
  have hL : LV 0 Tryz.prog false (loopsOf G14_l0_c) [] := by unfold LV; cases loopsOf G14_l0_c <;> trivial
  exact loopT_valid (fuel := G14_l0_fuel) mixed G14_CV hL (by kernel_rfl) (by decide) rfl hb (fun s r h => h)
theorem G14_l1_V : LValid 0 Tryz.prog (.loop G14_l1_c) G14_l1_L false := by
  have hb : ∀ s, codeR Tryz.prog G14_C G14_l1_c [] (G14_l1_S.encE s) (G14_l1_S.encB s) (kst G14_l1_S [.ret, .exit 2]) = G14_l1_step s := by
    intro s; kernel_rfl
  have hL : LV 0 Tryz.prog false (loopsOf G14_l1_c) [] := by unfold LV; cases loopsOf G14_l1_c <;> trivial
  exact loopT_valid (fuel := G14_l1_fuel) mixed G14_CV hL (by kernel_rfl) (by decide) rfl hb (fun s r h => h)
theorem G14_LV : LV 0 Tryz.prog false (loopsOf (bodyOf Tryz.f14)) [G14_l0_L, G14_l1_L] := by
  have hl : loopsOf (bodyOf Tryz.f14) = [.loop G14_l0_c, .loop G14_l1_c] := by kernel_rfl
  rw [hl]; exact ⟨G14_l0_V, G14_l1_V, trivial⟩
theorem G14_ent : Ent Tryz.prog 14 := ⟨by decide, enters_of Tryz.func14 (by kernel_rfl) rfl⟩
theorem G14_hev : ∀ x, fnR Tryz.prog G14_C [G14_l0_L, G14_l1_L] Tryz.f14 (bodyOf Tryz.f14) (encs [.dat .str] x) ⟨[], [], 0⟩ (frzF (.tup (.cons (.dat T23) (.cons (.dat (.list T71)) (.cons (.dat .bool) (.nil)))))) = G14 x.1 := by
  intro x; kernel_rfl
theorem G14_valid : G14_E.Valid Tryz.prog :=
  pureE_valid (by kernel_rfl) (by kernel_rfl) G14_ent (frz_lcall mixed Tryz.func14 rfl G14_ent G14_CV G14_LV (by kernel_rfl) (by kernel_rfl) G14_hev)
end Go.Proofs.YtibmgbalfhfcdaaGreatDoor.Abs
