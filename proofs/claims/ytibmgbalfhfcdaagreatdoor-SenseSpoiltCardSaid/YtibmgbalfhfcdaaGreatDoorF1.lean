import Derived.Test.YtibmgbalfhfcdaaGreatDoorX1
set_option linter.unusedVariables false
set_option maxRecDepth 100000
namespace Go.Proofs.YtibmgbalfhfcdaaGreatDoor.Abs
open Go.Shelf Go.Sort
abbrev T58 : DTy := (.cons (.int .i64) (.cons (.int .i64) .nil))
abbrev E58 : Type := (Int × (Int × Unit))
abbrev T46 : DTy := (.cons (.list (.int .i64)) (.cons (.list (.int .i64)) .nil))
abbrev E46 : Type := ((List Int) × ((List Int) × Unit))
abbrev T71 : DTy := (.cons (.int .i64) T58)
abbrev E71 : Type := (Int × E58)
abbrev T48 : DTy := (.cons (.list (.int .i64)) T46)
abbrev E48 : Type := ((List Int) × E46)
abbrev T91 : DTy := (.cons (.arr 41 T58) (.cons .bool .nil))
abbrev E91 : Type := ((List E58) × (Bool × Unit))
abbrev T23 : DTy := (.cons (.int .i64) (.cons (.int .i64) (.cons (.int .i64) (.cons (.int .i64) (.cons (.list (.int .i64)) .nil)))))
abbrev E23 : Type := (Int × (Int × (Int × (Int × ((List Int) × Unit)))))
abbrev T106 : DTy := (.cons T23 (.cons (.list T71) (.cons .mapr .nil)))
abbrev E106 : Type := (E23 × ((List E71) × (Unit × Unit)))
noncomputable def G6_C : CalT := tabC []
theorem G6_CV : CV Tryz.prog G6_C := tabC_valid (l := _) trivial
noncomputable def G6 (a0 : E23) (a1 : (List E71)) : Option Bool :=
  (bif (decide ((List.length a0.2.2.2.2.1 : Int) ≤ 12)) then
  some (decide ((List.length a1 : Int) ≤ 29))
  else
  some false)
noncomputable def G6_E : CEnt := pureE 6 [.dat T23, .dat (.list T71)] (.dat .bool) fun x => G6 x.1 x.2.1
theorem G6_LV : LV 0 Tryz.prog false (loopsOf (bodyOf Tryz.f6)) [] := by unfold LV; cases loopsOf (bodyOf Tryz.f6) <;> trivial
theorem G6_ent : Ent Tryz.prog 6 := ⟨by decide, enters_of Tryz.func6 (by kernel_rfl) rfl⟩
theorem G6_hev : ∀ x, fnR Tryz.prog G6_C [] Tryz.f6 (bodyOf Tryz.f6) (encs [.dat T23, .dat (.list T71)] x) ⟨[], [], 0⟩ (frzF (.dat .bool)) = G6 x.1 x.2.1 := by
  intro x; kernel_rfl
theorem G6_valid : G6_E.Valid Tryz.prog :=
  pureE_valid (by kernel_rfl) (by kernel_rfl) G6_ent (frz_lcall mixed Tryz.func6 rfl G6_ent G6_CV G6_LV (by kernel_rfl) (by kernel_rfl) G6_hev)
noncomputable def G16_C : CalT := tabC []
theorem G16_CV : CV Tryz.prog G16_C := tabC_valid (l := _) trivial
noncomputable def G16 : Option E23 :=
  some (2, (3, (2, (2, ([0, 0, 1], ())))))
noncomputable def G16_E : CEnt := pureE 16 [] (.dat T23) fun x => G16
theorem G16_LV : LV 0 Tryz.prog false (loopsOf (bodyOf Tryz.f16)) [] := by unfold LV; cases loopsOf (bodyOf Tryz.f16) <;> trivial
theorem G16_ent : Ent Tryz.prog 16 := ⟨by decide, enters_of Tryz.func16 (by kernel_rfl) rfl⟩
theorem G16_hev : ∀ x, fnR Tryz.prog G16_C [] Tryz.f16 (bodyOf Tryz.f16) (encs [] x) ⟨[], [], 0⟩ (frzF (.dat T23)) = G16 := by
  intro x; kernel_rfl
theorem G16_valid : G16_E.Valid Tryz.prog :=
  pureE_valid (by kernel_rfl) (by kernel_rfl) G16_ent (frz_lcall mixed Tryz.func16 rfl G16_ent G16_CV G16_LV (by kernel_rfl) (by kernel_rfl) G16_hev)
noncomputable def G17_C : CalT := tabC []
theorem G17_CV : CV Tryz.prog G17_C := tabC_valid (l := _) trivial
noncomputable def G17 : Option (List E71) :=
  some ([(0, (0, (2700, ()))), (0, (10, (2720, ()))), (1, (0, (2701, ()))), (1, (10, (2702, ()))), (2, (0, (2650, ()))), (2, (10, (2651, ())))])
noncomputable def G17_E : CEnt := pureE 17 [] (.dat (.list T71)) fun x => G17
theorem G17_LV : LV 0 Tryz.prog false (loopsOf (bodyOf Tryz.f17)) [] := by unfold LV; cases loopsOf (bodyOf Tryz.f17) <;> trivial
theorem G17_ent : Ent Tryz.prog 17 := ⟨by decide, enters_of Tryz.func17 (by kernel_rfl) rfl⟩
theorem G17_hev : ∀ x, fnR Tryz.prog G17_C [] Tryz.f17 (bodyOf Tryz.f17) (encs [] x) ⟨[], [], 0⟩ (frzF (.dat (.list T71))) = G17 := by
  intro x; kernel_rfl
theorem G17_valid : G17_E.Valid Tryz.prog :=
  pureE_valid (by kernel_rfl) (by kernel_rfl) G17_ent (frz_lcall mixed Tryz.func17 rfl G17_ent G17_CV G17_LV (by kernel_rfl) (by kernel_rfl) G17_hev)
noncomputable def G51_C : CalT := tabC []
theorem G51_CV : CV Tryz.prog G51_C := tabC_valid (l := _) trivial
noncomputable def G51 (a0 : Int) (a1 : Int) (a2 : Int) : Option Bool :=
  (bif (decide (a0 ≥ a1)) then
  some (decide (a0 ≤ a2))
  else
  some false)
noncomputable def G51_E : CEnt := pureE 51 [.dat (.int .i64), .dat (.int .i64), .dat (.int .i64)] (.dat .bool) fun x => G51 x.1 x.2.1 x.2.2.1
theorem G51_LV : LV 0 Tryz.prog false (loopsOf (bodyOf Tryz.f51)) [] := by unfold LV; cases loopsOf (bodyOf Tryz.f51) <;> trivial
theorem G51_ent : Ent Tryz.prog 51 := ⟨by decide, enters_of Tryz.func51 (by kernel_rfl) rfl⟩
theorem G51_hev : ∀ x, fnR Tryz.prog G51_C [] Tryz.f51 (bodyOf Tryz.f51) (encs [.dat (.int .i64), .dat (.int .i64), .dat (.int .i64)] x) ⟨[], [], 0⟩ (frzF (.dat .bool)) = G51 x.1 x.2.1 x.2.2.1 := by
  intro x; kernel_rfl
theorem G51_valid : G51_E.Valid Tryz.prog :=
  pureE_valid (by kernel_rfl) (by kernel_rfl) G51_ent (frz_lcall mixed Tryz.func51 rfl G51_ent G51_CV G51_LV (by kernel_rfl) (by kernel_rfl) G51_hev)
noncomputable def G77_C : CalT := tabC [G51_E]
theorem G77_CV : CV Tryz.prog G77_C := tabC_valid (l := _) ⟨G51_valid, trivial⟩
noncomputable def G77 (a0 : Int) (b1 : E23) : Option (Bool × (E23 × Unit)) :=
  (Option.bind (G51 a0 0 (IntKind.wrap .i64 (b1.2.2.2.1 - 1))) fun r1 =>
  some ((!r1), (b1, ())))
abbrev G77_CS : CSpec := ⟨[.dat (.int .i64), .fix (.bptr 0 [])], [.dat T23], 0, [.dat T23], 0, .dat .bool⟩
noncomputable def G77_E : CEnt := boxE 77 G77_CS fun x => G77 x.1.1 x.2.1
theorem G77_LV : LV 1 Tryz.prog false (loopsOf (bodyOf Tryz.f77)) [] := by unfold LV; cases loopsOf (bodyOf Tryz.f77) <;> trivial
theorem G77_ent : Ent Tryz.prog 77 := ⟨by decide, enters_of Tryz.func77 (by kernel_rfl) rfl⟩
theorem G77_hev : ∀ x : G77_CS.In, fnR Tryz.prog G77_C [] Tryz.f77 (bodyOf Tryz.f77) (encs G77_CS.A x.1) ⟨encs G77_CS.I x.2, [], G77_CS.nt⟩ (finK G77_CS) = G77 x.1.1 x.2.1 := by
  intro x; kernel_rfl
theorem G77_valid : G77_E.Valid Tryz.prog :=
  boxE_valid (S := G77_CS) (by kernel_rfl) (.inr G77_ent) (fn_lcall (S := G77_CS) mixed Tryz.func77 rfl G77_ent G77_CV G77_LV (by kernel_rfl) (by kernel_rfl) G77_hev)
noncomputable def G91_C : CalT := tabC [G77_E]
theorem G91_CV : CV Tryz.prog G91_C := tabC_valid (l := _) ⟨G77_valid, trivial⟩
noncomputable def G91_l0_c : Code := loopAt (bodyOf Tryz.f91) 0
noncomputable def G91_l0_S : SPat := ⟨[.dat (.list (.int .i64)), .fix (.func (.func 77) .nil (.cons (.bptr 0 []) .nil)), .any, .any, .dat (.int .i64), .any, .any, .dat (.int .i64), .dat (.int .i64), .any, .any, .any, .any, .any, .any, .any, .any, .any, .any], [.dat T23], 0⟩
noncomputable def G91_l0_step (s : (((List Int) × (Int × (Int × (Int × Unit)))) × (E23 × Unit))) : Option (Nat × (((List Int) × (Int × (Int × (Int × Unit)))) × (E23 × Unit))) :=
  (bif (decide (s.1.2.2.2.1 < s.1.2.2.1)) then
  (bif (decide (0 ≤ s.1.2.2.2.1) && decide (s.1.2.2.2.1 < (List.length s.1.1 : Int))) then
    (Option.bind (G77 (List.getD s.1.1 (Int.toNat s.1.2.2.2.1) 0) s.2.1) fun r1 =>
      (bif r1.1 then
        some (1, ((s.1.1, (s.1.2.2.2.1, (s.1.2.2.1, (s.1.2.2.2.1, ())))), (r1.2.1, ())))
        else
        some (0, ((s.1.1, (s.1.2.1, (s.1.2.2.1, ((IntKind.wrap .i64 (s.1.2.2.2.1 + 1)), ())))), (r1.2.1, ())))))
    else
    none)
  else
  some (2, ((s.1.1, (s.1.2.1, (s.1.2.2.1, (s.1.2.2.2.1, ())))), (s.2.1, ()))))
noncomputable def G91_l0_fuel (s : (((List Int) × (Int × (Int × (Int × Unit)))) × (E23 × Unit))) : Nat := Int.toNat (s.1.2.2.1 - s.1.2.2.2.1) + 1
noncomputable def G91_l0_run (s : (((List Int) × (Int × (Int × (Int × Unit)))) × (E23 × Unit))) : Option (Nat × (((List Int) × (Int × (Int × (Int × Unit)))) × (E23 × Unit))) := iter G91_l0_step (G91_l0_fuel s) s
noncomputable def G91_l0_L : LoopT := loopT G91_l0_S [.ret, .exit 0] G91_l0_run
noncomputable def G91 (a0 : (List Int)) (b1 : E23) : Option (Int × (E23 × Unit)) :=
  (Option.bind (G91_l0_run ((a0, (0, ((List.length a0 : Int), (0, ())))), (b1, ()))) fun q2 =>
  (natK q2.1
    (some (q2.2.1.2.1, (q2.2.2.1, ())))
    (fun _ => some ((-1), (q2.2.2.1, ())))))
abbrev G91_CS : CSpec := ⟨[.dat (.list (.int .i64)), .fix (.func (.func 77) .nil (.cons (.bptr 0 []) .nil))], [.dat T23], 0, [.dat T23], 0, .dat (.int .i64)⟩
noncomputable def G91_E : CEnt := boxE 91 G91_CS fun x => G91 x.1.1 x.2.1
theorem G91_l0_V : LValid 1 Tryz.prog (.loop G91_l0_c) G91_l0_L false := by
  have hb : ∀ s, codeR Tryz.prog G91_C G91_l0_c [] (G91_l0_S.encE s) (G91_l0_S.encB s) (kst G91_l0_S [.ret, .exit 0]) = G91_l0_step s := by
    intro s; kernel_rfl
  have hL : LV 1 Tryz.prog false (loopsOf G91_l0_c) [] := by unfold LV; cases loopsOf G91_l0_c <;> trivial
  exact loopT_valid (fuel := G91_l0_fuel) mixed G91_CV hL (by kernel_rfl) (by decide) rfl hb (fun s r h => h)
theorem G91_LV : LV 1 Tryz.prog false (loopsOf (bodyOf Tryz.f91)) [G91_l0_L] := by
  have hl : loopsOf (bodyOf Tryz.f91) = [.loop G91_l0_c] := by kernel_rfl
  rw [hl]; exact ⟨G91_l0_V, trivial⟩
theorem G91_ent : Ent Tryz.prog 91 := ⟨by decide, enters_of Tryz.func91 (by kernel_rfl) rfl⟩
theorem G91_hev : ∀ x : G91_CS.In, fnR Tryz.prog G91_C [G91_l0_L] Tryz.f91 (bodyOf Tryz.f91) (encs G91_CS.A x.1) ⟨encs G91_CS.I x.2, [], G91_CS.nt⟩ (finK G91_CS) = G91 x.1.1 x.2.1 := by
  intro x; kernel_rfl
theorem G91_valid : G91_E.Valid Tryz.prog :=
  boxE_valid (S := G91_CS) (by kernel_rfl) (.inr G91_ent) (fn_lcall (S := G91_CS) mixed Tryz.func91 rfl G91_ent G91_CV G91_LV (by kernel_rfl) (by kernel_rfl) G91_hev)
noncomputable def G76_C : CalT := tabC [G91_E]
theorem G76_CV : CV Tryz.prog G76_C := tabC_valid (l := _) ⟨G91_valid, trivial⟩
noncomputable def G76 (a0 : (List Int)) (b1 : E23) : Option (Bool × (E23 × Unit)) :=
  (Option.bind (G91 a0 b1) fun r1 =>
  some ((decide (r1.1 ≥ 0)), (r1.2.1, ())))
abbrev G76_CS : CSpec := ⟨[.dat (.list (.int .i64)), .fix (.func (.func 77) .nil (.cons (.bptr 0 []) .nil))], [.dat T23], 0, [.dat T23], 0, .dat .bool⟩
noncomputable def G76_E : CEnt := boxE 76 G76_CS fun x => G76 x.1.1 x.2.1
theorem G76_LV : LV 1 Tryz.prog false (loopsOf (bodyOf Tryz.f76)) [] := by unfold LV; cases loopsOf (bodyOf Tryz.f76) <;> trivial
theorem G76_ent : Ent Tryz.prog 76 := ⟨by decide, enters_of Tryz.func76 (by kernel_rfl) rfl⟩
theorem G76_hev : ∀ x : G76_CS.In, fnR Tryz.prog G76_C [] Tryz.f76 (bodyOf Tryz.f76) (encs G76_CS.A x.1) ⟨encs G76_CS.I x.2, [], G76_CS.nt⟩ (finK G76_CS) = G76 x.1.1 x.2.1 := by
  intro x; kernel_rfl
theorem G76_valid : G76_E.Valid Tryz.prog :=
  boxE_valid (S := G76_CS) (by kernel_rfl) (.inr G76_ent) (fn_lcall (S := G76_CS) mixed Tryz.func76 rfl G76_ent G76_CV G76_LV (by kernel_rfl) (by kernel_rfl) G76_hev)
noncomputable def G57_C : CalT := tabC [G51_E, G76_E]
theorem G57_CV : CV Tryz.prog G57_C := tabC_valid (l := _) ⟨G51_valid, G76_valid, trivial⟩
noncomputable def G57 (a0 : E23) : Option Bool :=
  (Option.bind (G51 a0.1 0 100) fun r1 =>
  (bif r1 then
    (Option.bind (G51 a0.2.1 0 20) fun r2 =>
      (bif r2 then
        (Option.bind (G51 a0.2.2.1 0 20) fun r3 =>
          (bif r3 then
            (Option.bind (G51 a0.2.2.2.1 1 4) fun r4 =>
              (bif r4 then
                (Option.bind (G51 (List.length a0.2.2.2.2.1 : Int) 1 6) fun r5 =>
                  (bif r5 then
                    (Option.bind (G76 a0.2.2.2.2.1 a0) fun r6 =>
                      some (!r6.1))
                    else
                    some false))
                else
                some false))
            else
            some false))
        else
        some false))
    else
    some false))
noncomputable def G57_E : CEnt := pureE 57 [.dat T23] (.dat .bool) fun x => G57 x.1
theorem G57_LV : LV 0 Tryz.prog false (loopsOf (bodyOf Tryz.f57)) [] := by unfold LV; cases loopsOf (bodyOf Tryz.f57) <;> trivial
theorem G57_ent : Ent Tryz.prog 57 := ⟨by decide, enters_of Tryz.func57 (by kernel_rfl) rfl⟩
theorem G57_hev : ∀ x, fnR Tryz.prog G57_C [] Tryz.f57 (bodyOf Tryz.f57) (encs [.dat T23] x) ⟨[], [], 0⟩ (frzF (.dat .bool)) = G57 x.1 := by
  intro x; kernel_rfl
theorem G57_valid : G57_E.Valid Tryz.prog :=
  pureE_valid (by kernel_rfl) (by kernel_rfl) G57_ent (frz_lcall mixed Tryz.func57 rfl G57_ent G57_CV G57_LV (by kernel_rfl) (by kernel_rfl) G57_hev)
noncomputable def G59_C : CalT := tabC [G51_E]
theorem G59_CV : CV Tryz.prog G59_C := tabC_valid (l := _) ⟨G51_valid, trivial⟩
noncomputable def G59 (a0 : E71) (b1 : E23) : Option (Bool × (E23 × Unit)) :=
  (Option.bind (G51 a0.1 0 (IntKind.wrap .i64 ((List.length b1.2.2.2.2.1 : Int) - 1))) fun r1 =>
  (bif (!r1) then
    some (true, (b1, ()))
    else
    (Option.bind (G51 a0.2.1 0 200) fun r2 =>
      (bif (!r2) then
        some (true, (b1, ()))
        else
        (Option.bind (G51 a0.2.2.1 0 6400) fun r3 =>
          some ((!r3), (b1, ())))))))
abbrev G59_CS : CSpec := ⟨[.dat T71, .fix (.bptr 0 [])], [.dat T23], 0, [.dat T23], 0, .dat .bool⟩
noncomputable def G59_E : CEnt := boxE 59 G59_CS fun x => G59 x.1.1 x.2.1
theorem G59_LV : LV 1 Tryz.prog false (loopsOf (bodyOf Tryz.f59)) [] := by unfold LV; cases loopsOf (bodyOf Tryz.f59) <;> trivial
theorem G59_ent : Ent Tryz.prog 59 := ⟨by decide, enters_of Tryz.func59 (by kernel_rfl) rfl⟩
theorem G59_hev : ∀ x : G59_CS.In, fnR Tryz.prog G59_C [] Tryz.f59 (bodyOf Tryz.f59) (encs G59_CS.A x.1) ⟨encs G59_CS.I x.2, [], G59_CS.nt⟩ (finK G59_CS) = G59 x.1.1 x.2.1 := by
  intro x; kernel_rfl
theorem G59_valid : G59_E.Valid Tryz.prog :=
  boxE_valid (S := G59_CS) (by kernel_rfl) (.inr G59_ent) (fn_lcall (S := G59_CS) mixed Tryz.func59 rfl G59_ent G59_CV G59_LV (by kernel_rfl) (by kernel_rfl) G59_hev)
noncomputable def G78_C : CalT := tabC [G59_E]
theorem G78_CV : CV Tryz.prog G78_C := tabC_valid (l := _) ⟨G59_valid, trivial⟩
noncomputable def G78_l0_c : Code := loopAt (bodyOf Tryz.f78) 0
noncomputable def G78_l0_S : SPat := ⟨[.dat (.list T71), .fix (.func (.func 59) .nil (.cons (.bptr 0 []) .nil)), .any, .any, .dat (.int .i64), .any, .any, .dat (.int .i64), .dat (.int .i64), .any, .any, .any, .any, .any, .any, .any, .any, .any, .any], [.dat T23], 0⟩
noncomputable def G78_l0_step (s : (((List E71) × (Int × (Int × (Int × Unit)))) × (E23 × Unit))) : Option (Nat × (((List E71) × (Int × (Int × (Int × Unit)))) × (E23 × Unit))) :=
  (bif (decide (s.1.2.2.2.1 < s.1.2.2.1)) then
  (bif (decide (0 ≤ s.1.2.2.2.1) && decide (s.1.2.2.2.1 < (List.length s.1.1 : Int))) then
    (Option.bind (G59 (List.getD s.1.1 (Int.toNat s.1.2.2.2.1) (0, (0, (0, ())))) s.2.1) fun r1 =>
      (bif r1.1 then
        some (1, ((s.1.1, (s.1.2.2.2.1, (s.1.2.2.1, (s.1.2.2.2.1, ())))), (r1.2.1, ())))
        else
        some (0, ((s.1.1, (s.1.2.1, (s.1.2.2.1, ((IntKind.wrap .i64 (s.1.2.2.2.1 + 1)), ())))), (r1.2.1, ())))))
    else
    none)
  else
  some (2, ((s.1.1, (s.1.2.1, (s.1.2.2.1, (s.1.2.2.2.1, ())))), (s.2.1, ()))))
noncomputable def G78_l0_fuel (s : (((List E71) × (Int × (Int × (Int × Unit)))) × (E23 × Unit))) : Nat := Int.toNat (s.1.2.2.1 - s.1.2.2.2.1) + 1
noncomputable def G78_l0_run (s : (((List E71) × (Int × (Int × (Int × Unit)))) × (E23 × Unit))) : Option (Nat × (((List E71) × (Int × (Int × (Int × Unit)))) × (E23 × Unit))) := iter G78_l0_step (G78_l0_fuel s) s
noncomputable def G78_l0_L : LoopT := loopT G78_l0_S [.ret, .exit 0] G78_l0_run
noncomputable def G78 (a0 : (List E71)) (b1 : E23) : Option (Int × (E23 × Unit)) :=
  (Option.bind (G78_l0_run ((a0, (0, ((List.length a0 : Int), (0, ())))), (b1, ()))) fun q2 =>
  (natK q2.1
    (some (q2.2.1.2.1, (q2.2.2.1, ())))
    (fun _ => some ((-1), (q2.2.2.1, ())))))
abbrev G78_CS : CSpec := ⟨[.dat (.list T71), .fix (.func (.func 59) .nil (.cons (.bptr 0 []) .nil))], [.dat T23], 0, [.dat T23], 0, .dat (.int .i64)⟩
noncomputable def G78_E : CEnt := boxE 78 G78_CS fun x => G78 x.1.1 x.2.1
theorem G78_l0_V : LValid 1 Tryz.prog (.loop G78_l0_c) G78_l0_L false := by
  have hb : ∀ s, codeR Tryz.prog G78_C G78_l0_c [] (G78_l0_S.encE s) (G78_l0_S.encB s) (kst G78_l0_S [.ret, .exit 0]) = G78_l0_step s := by
    intro s; kernel_rfl
  have hL : LV 1 Tryz.prog false (loopsOf G78_l0_c) [] := by unfold LV; cases loopsOf G78_l0_c <;> trivial
  exact loopT_valid (fuel := G78_l0_fuel) mixed G78_CV hL (by kernel_rfl) (by decide) rfl hb (fun s r h => h)
theorem G78_LV : LV 1 Tryz.prog false (loopsOf (bodyOf Tryz.f78)) [G78_l0_L] := by
  have hl : loopsOf (bodyOf Tryz.f78) = [.loop G78_l0_c] := by kernel_rfl
  rw [hl]; exact ⟨G78_l0_V, trivial⟩
theorem G78_ent : Ent Tryz.prog 78 := ⟨by decide, enters_of Tryz.func78 (by kernel_rfl) rfl⟩
theorem G78_hev : ∀ x : G78_CS.In, fnR Tryz.prog G78_C [G78_l0_L] Tryz.f78 (bodyOf Tryz.f78) (encs G78_CS.A x.1) ⟨encs G78_CS.I x.2, [], G78_CS.nt⟩ (finK G78_CS) = G78 x.1.1 x.2.1 := by
  intro x; kernel_rfl
theorem G78_valid : G78_E.Valid Tryz.prog :=
  boxE_valid (S := G78_CS) (by kernel_rfl) (.inr G78_ent) (fn_lcall (S := G78_CS) mixed Tryz.func78 rfl G78_ent G78_CV G78_LV (by kernel_rfl) (by kernel_rfl) G78_hev)
noncomputable def G58_C : CalT := tabC [G78_E]
theorem G58_CV : CV Tryz.prog G58_C := tabC_valid (l := _) ⟨G78_valid, trivial⟩
noncomputable def G58 (a0 : (List E71)) (b1 : E23) : Option (Bool × (E23 × Unit)) :=
  (Option.bind (G78 a0 b1) fun r1 =>
  some ((decide (r1.1 ≥ 0)), (r1.2.1, ())))
abbrev G58_CS : CSpec := ⟨[.dat (.list T71), .fix (.func (.func 59) .nil (.cons (.bptr 0 []) .nil))], [.dat T23], 0, [.dat T23], 0, .dat .bool⟩
noncomputable def G58_E : CEnt := boxE 58 G58_CS fun x => G58 x.1.1 x.2.1
theorem G58_LV : LV 1 Tryz.prog false (loopsOf (bodyOf Tryz.f58)) [] := by unfold LV; cases loopsOf (bodyOf Tryz.f58) <;> trivial
theorem G58_ent : Ent Tryz.prog 58 := ⟨by decide, enters_of Tryz.func58 (by kernel_rfl) rfl⟩
theorem G58_hev : ∀ x : G58_CS.In, fnR Tryz.prog G58_C [] Tryz.f58 (bodyOf Tryz.f58) (encs G58_CS.A x.1) ⟨encs G58_CS.I x.2, [], G58_CS.nt⟩ (finK G58_CS) = G58 x.1.1 x.2.1 := by
  intro x; kernel_rfl
theorem G58_valid : G58_E.Valid Tryz.prog :=
  boxE_valid (S := G58_CS) (by kernel_rfl) (.inr G58_ent) (fn_lcall (S := G58_CS) mixed Tryz.func58 rfl G58_ent G58_CV G58_LV (by kernel_rfl) (by kernel_rfl) G58_hev)
noncomputable def G40_C : CalT := tabC [G51_E]
theorem G40_CV : CV Tryz.prog G40_C := tabC_valid (l := _) ⟨G51_valid, trivial⟩
noncomputable def G40_l0_c : Code := loopAt (bodyOf Tryz.f40) 0
noncomputable def G40_l1_c : Code := loopAt G40_l0_c 0
noncomputable def G40_l1_S : SPat := ⟨[.ip T106, .any, .any, .any, .dat (.int .i64), .dat .bool, .dat (.int .i64), .any, .dat (.list (.int .i64)), .dat (.int .i64), .dat (.int .i64), .any, .any, .any, .any, .any, .any, .cons (.dat (.list (.int .i64))) (.cons (.dat (.list (.int .i64))) (.nil)), .dat (.int .i64), .any, .any, .any, .any, .any, .any, .any, .any, .any, .any, .any, .any, .any, .any, .any, .any, .any, .any, .any, .any, .any, .any, .dat (.list (.int .i64)), .dat (.int .i64), .dat (.int .i64), .any, .any, .any, .any, .any, .any, .any, .any, .any, .any, .any, .any, .any, .any, .any, .any, .any, .any, .any, .any, .any, .any, .any, .any, .any, .any, .any, .any, .any, .any, .any], [.dat T46], 0⟩
abbrev TY0 : Type := (E106 × (Int × (Bool × (Int × ((List Int) × (Int × (Int × (((List Int) × ((List Int) × Unit)) × (Int × ((List Int) × (Int × (Int × Unit))))))))))))
abbrev TY1 : Type := (Nat × ((E106 × (Int × (Bool × (Int × ((List Int) × (Int × (Int × (((List Int) × ((List Int) × Unit)) × (Int × ((List Int) × (Int × (Int × Unit)))))))))))) × (E46 × Unit)))
noncomputable def G40_l1_step (s : (TY0 × (E46 × Unit))) : Option TY1 :=
  (bif (decide (s.1.2.2.2.2.2.2.2.2.2.2.2.1 < s.1.2.2.2.2.2.2.2.2.2.2.1)) then
  (bif (decide (0 ≤ s.1.2.2.2.2.2.2.2.2.2.2.2.1) && decide (s.1.2.2.2.2.2.2.2.2.2.2.2.1 < (List.length s.1.2.2.2.2.2.2.2.2.2.1 : Int))) then
    (Option.bind (G51 (List.getD s.1.2.2.2.2.2.2.2.2.2.1 (Int.toNat s.1.2.2.2.2.2.2.2.2.2.2.2.1) 0) 0 (IntKind.wrap .i64 (s.1.2.2.2.2.2.1 - 1))) fun r1 =>
      (bif (!r1) then
        some (1, ((s.1.1, (0, (false, (s.1.2.2.2.1, (s.1.2.2.2.2.1, (s.1.2.2.2.2.2.1, (s.1.2.2.2.2.2.2.1, (s.1.2.2.2.2.2.2.2.1, (s.1.2.2.2.2.2.2.2.2.1, (s.1.2.2.2.2.2.2.2.2.2.1, (s.1.2.2.2.2.2.2.2.2.2.2.1, (s.1.2.2.2.2.2.2.2.2.2.2.2.1, ())))))))))))), (s.2.1, ())))
        else
        (bif (decide (s.1.2.2.2.2.2.2.2.2.2.2.2.1 > 0)) then
          (bif (decide (0 ≤ (IntKind.wrap .i64 (s.1.2.2.2.2.2.2.2.2.2.2.2.1 - 1))) && decide ((IntKind.wrap .i64 (s.1.2.2.2.2.2.2.2.2.2.2.2.1 - 1)) < (List.length s.1.2.2.2.2.1 : Int))) then
            (bif (decide ((List.getD s.1.2.2.2.2.2.2.2.2.2.1 (Int.toNat s.1.2.2.2.2.2.2.2.2.2.2.2.1) 0) ≤ (List.getD s.1.2.2.2.2.1 (Int.toNat (IntKind.wrap .i64 (s.1.2.2.2.2.2.2.2.2.2.2.2.1 - 1))) 0))) then
              some (1, ((s.1.1, (0, (false, (s.1.2.2.2.1, (s.1.2.2.2.2.1, (s.1.2.2.2.2.2.1, (s.1.2.2.2.2.2.2.1, (s.1.2.2.2.2.2.2.2.1, (s.1.2.2.2.2.2.2.2.2.1, (s.1.2.2.2.2.2.2.2.2.2.1, (s.1.2.2.2.2.2.2.2.2.2.2.1, (s.1.2.2.2.2.2.2.2.2.2.2.2.1, ())))))))))))), (s.2.1, ())))
              else
              (bif (!decide ((IntKind.wrap .i64 (s.1.2.2.2.2.2.2.1 + (List.getD s.1.2.2.2.2.2.2.2.2.2.1 (Int.toNat s.1.2.2.2.2.2.2.2.2.2.2.2.1) 0))) < 0)) then
                some (0, ((s.1.1, (s.1.2.1, (s.1.2.2.1, ((IntKind.wrap .i64 ((BitVec.toNat ((BitVec.ofInt (IntKind.bits .i64) s.1.2.2.2.1) ||| (BitVec.ofInt (IntKind.bits .i64) (IntKind.wrap .i64 (1 * 2 ^ (min (Int.toNat (IntKind.wrap .i64 (s.1.2.2.2.2.2.2.1 + (List.getD s.1.2.2.2.2.2.2.2.2.2.1 (Int.toNat s.1.2.2.2.2.2.2.2.2.2.2.2.1) 0)))) (IntKind.bits .i64)))))) : Nat) : Int)), (s.1.2.2.2.2.1, (s.1.2.2.2.2.2.1, (s.1.2.2.2.2.2.2.1, (s.1.2.2.2.2.2.2.2.1, (s.1.2.2.2.2.2.2.2.2.1, (s.1.2.2.2.2.2.2.2.2.2.1, (s.1.2.2.2.2.2.2.2.2.2.2.1, ((IntKind.wrap .i64 (s.1.2.2.2.2.2.2.2.2.2.2.2.1 + 1)), ())))))))))))), (s.2.1, ())))
                else
                none))
            else
            none)
          else
          (bif (!decide ((IntKind.wrap .i64 (s.1.2.2.2.2.2.2.1 + (List.getD s.1.2.2.2.2.2.2.2.2.2.1 (Int.toNat s.1.2.2.2.2.2.2.2.2.2.2.2.1) 0))) < 0)) then
            some (0, ((s.1.1, (s.1.2.1, (s.1.2.2.1, ((IntKind.wrap .i64 ((BitVec.toNat ((BitVec.ofInt (IntKind.bits .i64) s.1.2.2.2.1) ||| (BitVec.ofInt (IntKind.bits .i64) (IntKind.wrap .i64 (1 * 2 ^ (min (Int.toNat (IntKind.wrap .i64 (s.1.2.2.2.2.2.2.1 + (List.getD s.1.2.2.2.2.2.2.2.2.2.1 (Int.toNat s.1.2.2.2.2.2.2.2.2.2.2.2.1) 0)))) (IntKind.bits .i64)))))) : Nat) : Int)), (s.1.2.2.2.2.1, (s.1.2.2.2.2.2.1, (s.1.2.2.2.2.2.2.1, (s.1.2.2.2.2.2.2.2.1, (s.1.2.2.2.2.2.2.2.2.1, (s.1.2.2.2.2.2.2.2.2.2.1, (s.1.2.2.2.2.2.2.2.2.2.2.1, ((IntKind.wrap .i64 (s.1.2.2.2.2.2.2.2.2.2.2.2.1 + 1)), ())))))))))))), (s.2.1, ())))
            else
            none))))
    else
    none)
  else
  some (2, ((s.1.1, (s.1.2.1, (s.1.2.2.1, (s.1.2.2.2.1, (s.1.2.2.2.2.1, (s.1.2.2.2.2.2.1, (s.1.2.2.2.2.2.2.1, (s.1.2.2.2.2.2.2.2.1, (s.1.2.2.2.2.2.2.2.2.1, (s.1.2.2.2.2.2.2.2.2.2.1, (s.1.2.2.2.2.2.2.2.2.2.2.1, (s.1.2.2.2.2.2.2.2.2.2.2.2.1, ())))))))))))), (s.2.1, ()))))
noncomputable def G40_l1_fuel (s : (TY0 × (E46 × Unit))) : Nat := Int.toNat (s.1.2.2.2.2.2.2.2.2.2.2.1 - s.1.2.2.2.2.2.2.2.2.2.2.2.1) + 1
noncomputable def G40_l1_run (s : (TY0 × (E46 × Unit))) : Option TY1 := iter G40_l1_step (G40_l1_fuel s) s
noncomputable def G40_l1_L : LoopT := loopT G40_l1_S [.ret, .exit 2] G40_l1_run
noncomputable def G40_l0_S : SPat := ⟨[.ip T106, .any, .any, .any, .dat (.int .i64), .dat .bool, .dat (.int .i64), .any, .any, .any, .any, .any, .any, .any, .any, .any, .any, .cons (.dat (.list (.int .i64))) (.cons (.dat (.list (.int .i64))) (.nil)), .dat (.int .i64), .any, .any, .any, .any, .any, .any, .any, .any, .any, .any, .any, .any, .any, .any, .any, .any, .any, .any, .any, .any, .any, .any, .any, .any, .any, .any, .any, .any, .any, .any, .any, .any, .any, .any, .any, .any, .any, .any, .any, .any, .any, .any, .any, .any, .any, .any, .any, .any, .any, .any, .any, .any, .any, .any, .any, .any], [.dat T46], 0⟩
abbrev TY2 : Type := (E106 × (Int × (Bool × (Int × (((List Int) × ((List Int) × Unit)) × (Int × Unit))))))
abbrev TY3 : Type := (Nat × ((E106 × (Int × (Bool × (Int × (((List Int) × ((List Int) × Unit)) × (Int × Unit)))))) × (E46 × Unit)))
noncomputable def G40_l0_step (s : (TY2 × (E46 × Unit))) : Option TY3 :=
  (bif (decide (s.1.2.2.2.2.2.1 < 2)) then
  (bif (decide (s.1.2.2.2.2.2.1 = (0 : Int))) then
    (bif (s.1.2.2.2.2.2.1 == 1) then
      (Option.bind (G40_l1_run ((s.1.1, (s.1.2.1, (s.1.2.2.1, (s.1.2.2.2.1, (s.1.2.2.2.2.1.1, (s.1.1.1.2.2.2.1, ((List.length s.1.1.1.2.2.2.2.1 : Int), (s.1.2.2.2.2.1, (s.1.2.2.2.2.2.1, (s.1.2.2.2.2.1.1, ((List.length s.1.2.2.2.2.1.1 : Int), (0, ())))))))))))), (s.2.1, ()))) fun q2 =>
        (natK q2.1
          (some (1, ((q2.2.1.1, (q2.2.1.2.1, (q2.2.1.2.2.1, (q2.2.1.2.2.2.1, (q2.2.1.2.2.2.2.2.2.2.1, (q2.2.1.2.2.2.2.2.2.2.2.1, ())))))), (q2.2.2.1, ()))))
          (fun _ => some (0, ((q2.2.1.1, (q2.2.1.2.1, (q2.2.1.2.2.1, (q2.2.1.2.2.2.1, (q2.2.1.2.2.2.2.2.2.2.1, ((IntKind.wrap .i64 (q2.2.1.2.2.2.2.2.2.2.2.1 + 1)), ())))))), (q2.2.2.1, ()))))))
      else
      (Option.bind (G40_l1_run ((s.1.1, (s.1.2.1, (s.1.2.2.1, (s.1.2.2.2.1, (s.1.2.2.2.2.1.1, ((List.length s.1.1.1.2.2.2.2.1 : Int), (0, (s.1.2.2.2.2.1, (s.1.2.2.2.2.2.1, (s.1.2.2.2.2.1.1, ((List.length s.1.2.2.2.2.1.1 : Int), (0, ())))))))))))), (s.2.1, ()))) fun q3 =>
        (natK q3.1
          (some (1, ((q3.2.1.1, (q3.2.1.2.1, (q3.2.1.2.2.1, (q3.2.1.2.2.2.1, (q3.2.1.2.2.2.2.2.2.2.1, (q3.2.1.2.2.2.2.2.2.2.2.1, ())))))), (q3.2.2.1, ()))))
          (fun _ => some (0, ((q3.2.1.1, (q3.2.1.2.1, (q3.2.1.2.2.1, (q3.2.1.2.2.2.1, (q3.2.1.2.2.2.2.2.2.2.1, ((IntKind.wrap .i64 (q3.2.1.2.2.2.2.2.2.2.2.1 + 1)), ())))))), (q3.2.2.1, ())))))))
    else
    (bif (decide (s.1.2.2.2.2.2.1 = (1 : Int))) then
      (bif (s.1.2.2.2.2.2.1 == 1) then
        (Option.bind (G40_l1_run ((s.1.1, (s.1.2.1, (s.1.2.2.1, (s.1.2.2.2.1, (s.1.2.2.2.2.1.2.1, (s.1.1.1.2.2.2.1, ((List.length s.1.1.1.2.2.2.2.1 : Int), (s.1.2.2.2.2.1, (s.1.2.2.2.2.2.1, (s.1.2.2.2.2.1.2.1, ((List.length s.1.2.2.2.2.1.2.1 : Int), (0, ())))))))))))), (s.2.1, ()))) fun q4 =>
          (natK q4.1
            (some (1, ((q4.2.1.1, (q4.2.1.2.1, (q4.2.1.2.2.1, (q4.2.1.2.2.2.1, (q4.2.1.2.2.2.2.2.2.2.1, (q4.2.1.2.2.2.2.2.2.2.2.1, ())))))), (q4.2.2.1, ()))))
            (fun _ => some (0, ((q4.2.1.1, (q4.2.1.2.1, (q4.2.1.2.2.1, (q4.2.1.2.2.2.1, (q4.2.1.2.2.2.2.2.2.2.1, ((IntKind.wrap .i64 (q4.2.1.2.2.2.2.2.2.2.2.1 + 1)), ())))))), (q4.2.2.1, ()))))))
        else
        (Option.bind (G40_l1_run ((s.1.1, (s.1.2.1, (s.1.2.2.1, (s.1.2.2.2.1, (s.1.2.2.2.2.1.2.1, ((List.length s.1.1.1.2.2.2.2.1 : Int), (0, (s.1.2.2.2.2.1, (s.1.2.2.2.2.2.1, (s.1.2.2.2.2.1.2.1, ((List.length s.1.2.2.2.2.1.2.1 : Int), (0, ())))))))))))), (s.2.1, ()))) fun q5 =>
          (natK q5.1
            (some (1, ((q5.2.1.1, (q5.2.1.2.1, (q5.2.1.2.2.1, (q5.2.1.2.2.2.1, (q5.2.1.2.2.2.2.2.2.2.1, (q5.2.1.2.2.2.2.2.2.2.2.1, ())))))), (q5.2.2.1, ()))))
            (fun _ => some (0, ((q5.2.1.1, (q5.2.1.2.1, (q5.2.1.2.2.1, (q5.2.1.2.2.2.1, (q5.2.1.2.2.2.2.2.2.2.1, ((IntKind.wrap .i64 (q5.2.1.2.2.2.2.2.2.2.2.1 + 1)), ())))))), (q5.2.2.1, ())))))))
      else
      none))
  else
  some (2, ((s.1.1, (s.1.2.1, (s.1.2.2.1, (s.1.2.2.2.1, (s.1.2.2.2.2.1, (s.1.2.2.2.2.2.1, ())))))), (s.2.1, ()))))
noncomputable def G40_l0_fuel (s : (TY2 × (E46 × Unit))) : Nat := Int.toNat (2 - s.1.2.2.2.2.2.1) + 1
noncomputable def G40_l0_run (s : (TY2 × (E46 × Unit))) : Option TY3 := iter G40_l0_step (G40_l0_fuel s) s
noncomputable def G40_l0_L : LoopT := loopT G40_l0_S [.ret, .exit 0] G40_l0_run
noncomputable def G40 (a0 : E106) (a1 : E46) : Option (Int × (Bool × Unit)) :=
  (Option.bind (G40_l0_run ((a0, (0, (false, (0, ((a1.1, (a1.2.1, ())), (0, ())))))), (a1, ()))) fun q6 =>
  (natK q6.1
    (some (q6.2.1.2.1, (q6.2.1.2.2.1, ())))
    (fun _ => some (q6.2.1.2.2.2.1, (true, ())))))
noncomputable def G40_E : CEnt := viewE 40 [.ip T106, .dat T46] (.tup (.cons (.dat (.int .i64)) (.cons (.dat .bool) (.nil)))) fun x => G40 x.1 x.2.1
theorem G40_l1_V : LValid 0 Tryz.prog (.loop G40_l1_c) G40_l1_L false := by
  have hb : ∀ s, codeR Tryz.prog G40_C G40_l1_c [] (G40_l1_S.encE s) (G40_l1_S.encB s) (kst G40_l1_S [.ret, .exit 2]) = G40_l1_step s := by
    intro s; kernel_rfl
  have hL : LV 0 Tryz.prog false (loopsOf G40_l1_c) [] := by unfold LV; cases loopsOf G40_l1_c <;> trivial
  exact loopT_valid (fuel := G40_l1_fuel) mixed G40_CV hL (by kernel_rfl) (by decide) rfl hb (fun s r h => h)
theorem G40_l0_V : LValid 0 Tryz.prog (.loop G40_l0_c) G40_l0_L false := by
  have hb : ∀ s, codeR Tryz.prog G40_C G40_l0_c [G40_l1_L] (G40_l0_S.encE s) (G40_l0_S.encB s) (kst G40_l0_S [.ret, .exit 0]) = G40_l0_step s := by
    intro s; kernel_rfl
  have hl : loopsOf G40_l0_c = [.loop G40_l1_c] := by kernel_rfl
  have hL : LV 0 Tryz.prog false (loopsOf G40_l0_c) [G40_l1_L] := by rw [hl]; exact ⟨G40_l1_V, trivial⟩
  exact loopT_valid (fuel := G40_l0_fuel) mixed G40_CV hL (by kernel_rfl) (by decide) rfl hb (fun s r h => h)
theorem G40_LV : LV 0 Tryz.prog false (loopsOf (bodyOf Tryz.f40)) [G40_l0_L] := by
  have hl : loopsOf (bodyOf Tryz.f40) = [.loop G40_l0_c] := by kernel_rfl
  rw [hl]; exact ⟨G40_l0_V, trivial⟩
theorem G40_ent : Ent Tryz.prog 40 := ⟨by decide, enters_of Tryz.func40 (by kernel_rfl) rfl⟩
theorem G40_hev : ∀ x, fnR Tryz.prog G40_C [G40_l0_L] Tryz.f40 (bodyOf Tryz.f40) (encs [.ip T106, .dat T46] x) ⟨[], [], 0⟩ (frzF (.tup (.cons (.dat (.int .i64)) (.cons (.dat .bool) (.nil))))) = G40 x.1 x.2.1 := by
  intro x; kernel_rfl
theorem G40_valid : G40_E.Valid Tryz.prog :=
  viewE_valid (by kernel_rfl) (by kernel_rfl) G40_ent (frz_lcall mixed Tryz.func40 rfl G40_ent G40_CV G40_LV (by kernel_rfl) (by kernel_rfl) G40_hev)
noncomputable def G39_C : CalT := tabC [G40_E]
theorem G39_CV : CV Tryz.prog G39_C := tabC_valid (l := _) ⟨G40_valid, trivial⟩
noncomputable def G39 (b0 : (E23 × ((List E71) × (Unit × Unit)))) (b1 : E46) (b2 : (List (E58 × E91))) : Option (Bool × ((E23 × ((List E71) × (Unit × Unit))) × (E46 × ((List (E58 × E91)) × Unit)))) :=
  (Option.bind (G40 (b0.1, (b0.2.1, ((), b0.2.2.2))) b1) fun r1 =>
  some (r1.2.1, ((b0.1, (b0.2.1, ((), b0.2.2.2))), (b1, (b2, ())))))
abbrev G39_CS : CSpec := ⟨[.fix (.bptr 0 []), .fix (.bptr 1 [])], [.cons (.dat T23) (.cons (.dat (.list T71)) (.cons (.fix (.mref 2)) (.nil))), .dat T46, .map T58 T91], 0, [.cons (.dat T23) (.cons (.dat (.list T71)) (.cons (.fix (.mref 2)) (.nil))), .dat T46, .map T58 T91], 0, .dat .bool⟩
noncomputable def G39_E : CEnt := boxE 39 G39_CS fun x => G39 x.2.1 x.2.2.1 x.2.2.2.1
theorem G39_LV : LV 3 Tryz.prog false (loopsOf (bodyOf Tryz.f39)) [] := by unfold LV; cases loopsOf (bodyOf Tryz.f39) <;> trivial
theorem G39_ent : Ent Tryz.prog 39 := ⟨by decide, enters_of Tryz.func39 (by kernel_rfl) rfl⟩
theorem G39_hev : ∀ x : G39_CS.In, fnR Tryz.prog G39_C [] Tryz.f39 (bodyOf Tryz.f39) (encs G39_CS.A x.1) ⟨encs G39_CS.I x.2, [], G39_CS.nt⟩ (finK G39_CS) = G39 x.2.1 x.2.2.1 x.2.2.2.1 := by
  intro x; kernel_rfl
theorem G39_valid : G39_E.Valid Tryz.prog :=
  boxE_valid (S := G39_CS) (by kernel_rfl) (.inr G39_ent) (fn_lcall (S := G39_CS) mixed Tryz.func39 rfl G39_ent G39_CV G39_LV (by kernel_rfl) (by kernel_rfl) G39_hev)
noncomputable def G26_C : CalT := tabC [G57_E, G58_E, G39_E]
theorem G26_CV : CV Tryz.prog G26_C := tabC_valid (l := _) ⟨G57_valid, G58_valid, G39_valid, trivial⟩
abbrev TY4 : Type := (E46 × (E23 × ((List (E58 × E91)) × ((E23 × ((List E71) × (Unit × Unit))) × Unit))))
noncomputable def G26 (a0 : E23) (a1 : (List E71)) (b2 : E46) : Option (((Unit × (Int × Unit)) × (E46 × Unit)) ⊕ ((Unit × (Int × Unit)) × TY4)) :=
  (bif (decide ((List.length a1 : Int) > 24)) then
  some (Sum.inl (((), (3, ())), (b2, ())))
  else
  (Option.bind (G57 a0) fun r1 =>
    (bif (!r1) then
      some (Sum.inl (((), (2, ())), (b2, ())))
      else
      (Option.bind (G58 a1 a0) fun r2 =>
        (bif r2.1 then
          some (Sum.inl (((), (2, ())), (b2, ())))
          else
          (Option.bind (G39 (a0, (a1, ((), ()))) b2 ([] : List (E58 × E91))) fun r3 =>
            (bif (!r3.1) then
              some (Sum.inl (((), (2, ())), (r3.2.2.1, ())))
              else
              some (Sum.inr (((), (0, ())), (r3.2.2.1, (r2.2.1, (r3.2.2.2.1, ((r3.2.1.1, (r3.2.1.2.1, ((), r3.2.1.2.2.2))), ())))))))))))))
abbrev G26_CS : CSpec := ⟨[.dat T23, .dat (.list T71), .fix (.func (.func 39) .nil (.cons (.bptr 0 []) .nil))], [.dat T46], 0, [.dat T46], 0, .tup (.cons (.fix .pnil) (.cons (.dat (.int .i64)) (.nil)))⟩
abbrev G26_O2 : List PTy := [.dat T46, .dat T23, .map T58 T91, .cons (.dat T23) (.cons (.dat (.list T71)) (.cons (.fix (.mref 2)) (.nil)))]
abbrev G26_R2 : PTy := .tup (.cons (.fix (.bptr 3 [])) (.cons (.dat (.int .i64)) (.nil)))
noncomputable def G26_E : CEnt := altE 26 G26_CS G26_O2 0 G26_R2 fun x => G26 x.1.1 x.1.2.1 x.2.1
theorem G26_LV : LV 1 Tryz.prog false (loopsOf (bodyOf Tryz.f26)) [] := by unfold LV; cases loopsOf (bodyOf Tryz.f26) <;> trivial
theorem G26_ent : Ent Tryz.prog 26 := ⟨by decide, enters_of Tryz.func26 (by kernel_rfl) rfl⟩
theorem G26_hev : ∀ x : G26_CS.In, fnR Tryz.prog G26_C [] Tryz.f26 (bodyOf Tryz.f26) (encs G26_CS.A x.1) ⟨encs G26_CS.I x.2, [], G26_CS.nt⟩ (finK2 G26_CS G26_O2 0 G26_R2) = G26 x.1.1 x.1.2.1 x.2.1 := by
  intro x; kernel_rfl
theorem G26_valid : G26_E.Valid Tryz.prog :=
  altE_valid (S := G26_CS) (by kernel_rfl) (by kernel_rfl) (.inr G26_ent) (alt_lcall (S := G26_CS) mixed Tryz.func26 rfl G26_ent G26_CV G26_LV (by kernel_rfl) (by kernel_rfl) (by kernel_rfl) (by kernel_rfl) G26_hev)
noncomputable def G40_v1_C : CalT := tabC []
theorem G40_v1_CV : CV Tryz.prog G40_v1_C := tabC_valid (l := _) trivial
noncomputable def G40_v1_l0_c : Code := loopAt (bodyOf Tryz.f40) 0
noncomputable def G40_v1_l0_S : SPat := ⟨[.fix .pnil, .any, .any, .any, .dat (.int .i64), .dat .bool, .dat (.int .i64), .any, .any, .any, .any, .any, .any, .any, .any, .any, .any, .cons (.dat (.list (.int .i64))) (.cons (.dat (.list (.int .i64))) (.nil)), .dat (.int .i64), .any, .any, .any, .any, .any, .any, .any, .any, .any, .any, .any, .any, .any, .any, .any, .any, .any, .any, .any, .any, .any, .any, .any, .any, .any, .any, .any, .any, .any, .any, .any, .any, .any, .any, .any, .any, .any, .any, .any, .any, .any, .any, .any, .any, .any, .any, .any, .any, .any, .any, .any, .any, .any, .any, .any, .any], [.dat T46], 0⟩
abbrev TY5 : Type := ((Int × (Bool × (Int × (((List Int) × ((List Int) × Unit)) × (Int × Unit))))) × (E46 × Unit))
abbrev TY6 : Type := (Nat × ((Int × (Bool × (Int × (((List Int) × ((List Int) × Unit)) × (Int × Unit))))) × (E46 × Unit)))
noncomputable def G40_v1_l0_step (s : TY5) : Option TY6 :=
  (bif (decide (s.1.2.2.2.2.1 < 2)) then
  (bif (decide (s.1.2.2.2.2.1 = (0 : Int))) then
    none
    else
    (bif (decide (s.1.2.2.2.2.1 = (1 : Int))) then
      none
      else
      none))
  else
  some (1, ((s.1.1, (s.1.2.1, (s.1.2.2.1, (s.1.2.2.2.1, (s.1.2.2.2.2.1, ()))))), (s.2.1, ()))))
noncomputable def G40_v1_l0_fuel (s : TY5) : Nat := Int.toNat (2 - s.1.2.2.2.2.1) + 1
noncomputable def G40_v1_l0_run (s : TY5) : Option TY6 := iter G40_v1_l0_step (G40_v1_l0_fuel s) s
noncomputable def G40_v1_l0_L : LoopT := loopT G40_v1_l0_S [.exit 0] G40_v1_l0_run
noncomputable def G40_v1 (a0 : E46) : Option (Int × (Bool × Unit)) :=
  (Option.bind (G40_v1_l0_run ((0, (false, (0, ((a0.1, (a0.2.1, ())), (0, ()))))), (a0, ()))) fun q1 =>
  some (q1.2.1.2.2.1, (true, ())))
noncomputable def G40_v1_E : CEnt := viewE 40 [.fix .pnil, .dat T46] (.tup (.cons (.dat (.int .i64)) (.cons (.dat .bool) (.nil)))) fun x => G40_v1 x.1
theorem G40_v1_l0_V : LValid 0 Tryz.prog (.loop G40_v1_l0_c) G40_v1_l0_L false := by
  have hb : ∀ s, codeR Tryz.prog G40_v1_C G40_v1_l0_c [noL] (G40_v1_l0_S.encE s) (G40_v1_l0_S.encB s) (kst G40_v1_l0_S [.exit 0]) = G40_v1_l0_step s := by
    intro s; kernel_rfl
  have hl : loopsOf G40_v1_l0_c = [.loop (loopAt G40_v1_l0_c 0)] := by kernel_rfl
  have hL : LV 0 Tryz.prog false (loopsOf G40_v1_l0_c) [noL] := by rw [hl]; exact ⟨noL_valid, trivial⟩
  exact loopT_valid (fuel := G40_v1_l0_fuel) mixed G40_v1_CV hL (by kernel_rfl) (by decide) rfl hb (fun s r h => h)
theorem G40_v1_LV : LV 0 Tryz.prog false (loopsOf (bodyOf Tryz.f40)) [G40_v1_l0_L] := by
  have hl : loopsOf (bodyOf Tryz.f40) = [.loop G40_v1_l0_c] := by kernel_rfl
  rw [hl]; exact ⟨G40_v1_l0_V, trivial⟩
theorem G40_v1_ent : Ent Tryz.prog 40 := ⟨by decide, enters_of Tryz.func40 (by kernel_rfl) rfl⟩
theorem G40_v1_hev : ∀ x, fnR Tryz.prog G40_v1_C [G40_v1_l0_L] Tryz.f40 (bodyOf Tryz.f40) (encs [.fix .pnil, .dat T46] x) ⟨[], [], 0⟩ (frzF (.tup (.cons (.dat (.int .i64)) (.cons (.dat .bool) (.nil))))) = G40_v1 x.1 := by
  intro x; kernel_rfl
theorem G40_v1_valid : G40_v1_E.Valid Tryz.prog :=
  viewE_valid (by kernel_rfl) (by kernel_rfl) G40_v1_ent (frz_lcall mixed Tryz.func40 rfl G40_v1_ent G40_v1_CV G40_v1_LV (by kernel_rfl) (by kernel_rfl) G40_v1_hev)
noncomputable def G70_C : CalT := tabC []
theorem G70_CV : CV Tryz.prog G70_C := tabC_valid (l := _) trivial
noncomputable def G70_l0_c : Code := loopAt (bodyOf Tryz.f70) 0
noncomputable def G70_l0_S : SPat := ⟨[.any, .dat (.int .i64), .dat (.int .i64), .any, .any, .any, .any, .dat (.int .i64), .any, .any, .any, .any, .any, .any, .any, .any, .any, .any, .any, .any, .any, .any, .any, .any, .any, .dat (.list (.int .i64)), .dat (.int .i64), .dat (.int .i64), .any, .any, .any, .any, .any, .any, .any, .any, .any, .any, .any, .any, .any, .any, .any], [], 0⟩
abbrev TY7 : Type := (Nat × ((Int × (Int × (Int × ((List Int) × (Int × (Int × Unit)))))) × Unit))
noncomputable def G70_l0_step (s : ((Int × (Int × (Int × ((List Int) × (Int × (Int × Unit)))))) × Unit)) : Option TY7 :=
  (bif (decide (s.1.2.2.2.2.2.1 < s.1.2.2.2.2.1)) then
  (bif (decide (0 ≤ s.1.2.2.2.2.2.1) && decide (s.1.2.2.2.2.2.1 < (List.length s.1.2.2.2.1 : Int))) then
    (bif ((List.getD s.1.2.2.2.1 (Int.toNat s.1.2.2.2.2.2.1) 0) == s.1.1) then
      (bif (!decide (s.1.2.2.2.2.2.1 < 0)) then
        some (0, ((s.1.1, (s.1.2.1, ((IntKind.wrap .i64 ((BitVec.toNat ((BitVec.ofInt (IntKind.bits .i64) s.1.2.2.1) ||| (BitVec.ofInt (IntKind.bits .i64) (IntKind.wrap .i64 ((BitVec.toNat ((BitVec.ofInt (IntKind.bits .i64) s.1.2.1) &&& (BitVec.ofInt (IntKind.bits .i64) (IntKind.wrap .i64 (1 * 2 ^ (min (Int.toNat s.1.2.2.2.2.2.1) (IntKind.bits .i64)))))) : Nat) : Int)))) : Nat) : Int)), (s.1.2.2.2.1, (s.1.2.2.2.2.1, ((IntKind.wrap .i64 (s.1.2.2.2.2.2.1 + 1)), ())))))), ()))
        else
        none)
      else
      some (0, ((s.1.1, (s.1.2.1, (s.1.2.2.1, (s.1.2.2.2.1, (s.1.2.2.2.2.1, ((IntKind.wrap .i64 (s.1.2.2.2.2.2.1 + 1)), ())))))), ())))
    else
    none)
  else
  some (1, ((s.1.1, (s.1.2.1, (s.1.2.2.1, (s.1.2.2.2.1, (s.1.2.2.2.2.1, (s.1.2.2.2.2.2.1, ())))))), ())))
noncomputable def G70_l0_fuel (s : ((Int × (Int × (Int × ((List Int) × (Int × (Int × Unit)))))) × Unit)) : Nat := Int.toNat (s.1.2.2.2.2.1 - s.1.2.2.2.2.2.1) + 1
noncomputable def G70_l0_run (s : ((Int × (Int × (Int × ((List Int) × (Int × (Int × Unit)))))) × Unit)) : Option TY7 := iter G70_l0_step (G70_l0_fuel s) s
noncomputable def G70_l0_L : LoopT := loopT G70_l0_S [.exit 0] G70_l0_run
noncomputable def G70 (a0 : E106) (a1 : Int) (a2 : Int) : Option Int :=
  (bif (!decide ((IntKind.wrap .i64 ((List.length a0.1.2.2.2.2.1 : Int) + a1)) < 0)) then
  (Option.bind (G70_l0_run ((a1, (a2, ((IntKind.wrap .i64 ((BitVec.toNat ((BitVec.ofInt (IntKind.bits .i64) a2) &&& (BitVec.ofInt (IntKind.bits .i64) (IntKind.wrap .i64 (1 * 2 ^ (min (Int.toNat (IntKind.wrap .i64 ((List.length a0.1.2.2.2.2.1 : Int) + a1))) (IntKind.bits .i64)))))) : Nat) : Int)), (a0.1.2.2.2.2.1, ((List.length a0.1.2.2.2.2.1 : Int), (0, ())))))), ())) fun q1 =>
    some q1.2.1.2.2.1)
  else
  none)
noncomputable def G70_E : CEnt := viewE 70 [.ip T106, .dat (.int .i64), .dat (.int .i64)] (.dat (.int .i64)) fun x => G70 x.1 x.2.1 x.2.2.1
theorem G70_l0_V : LValid 0 Tryz.prog (.loop G70_l0_c) G70_l0_L false := by
  have hb : ∀ s, codeR Tryz.prog G70_C G70_l0_c [] (G70_l0_S.encE s) (G70_l0_S.encB s) (kst G70_l0_S [.exit 0]) = G70_l0_step s := by
    intro s; kernel_rfl
  have hL : LV 0 Tryz.prog false (loopsOf G70_l0_c) [] := by unfold LV; cases loopsOf G70_l0_c <;> trivial
  exact loopT_valid (fuel := G70_l0_fuel) mixed G70_CV hL (by kernel_rfl) (by decide) rfl hb (fun s r h => h)
theorem G70_LV : LV 0 Tryz.prog false (loopsOf (bodyOf Tryz.f70)) [G70_l0_L] := by
  have hl : loopsOf (bodyOf Tryz.f70) = [.loop G70_l0_c] := by kernel_rfl
  rw [hl]; exact ⟨G70_l0_V, trivial⟩
theorem G70_ent : Ent Tryz.prog 70 := ⟨by decide, enters_of Tryz.func70 (by kernel_rfl) rfl⟩
theorem G70_hev : ∀ x, fnR Tryz.prog G70_C [G70_l0_L] Tryz.f70 (bodyOf Tryz.f70) (encs [.ip T106, .dat (.int .i64), .dat (.int .i64)] x) ⟨[], [], 0⟩ (frzF (.dat (.int .i64))) = G70 x.1 x.2.1 x.2.2.1 := by
  intro x; kernel_rfl
theorem G70_valid : G70_E.Valid Tryz.prog :=
  viewE_valid (by kernel_rfl) (by kernel_rfl) G70_ent (frz_lcall mixed Tryz.func70 rfl G70_ent G70_CV G70_LV (by kernel_rfl) (by kernel_rfl) G70_hev)
noncomputable def G71_C : CalT := tabC []
theorem G71_CV : CV Tryz.prog G71_C := tabC_valid (l := _) trivial
noncomputable def G71 (a0 : Int) (a1 : Int) (a2 : Int) : Option Int :=
  (bif (!decide (a1 < 0)) then
  (bif ((IntKind.wrap .i64 ((BitVec.toNat ((BitVec.ofInt (IntKind.bits .i64) (Int.fdiv a0 (2 ^ (min (Int.toNat a1) (IntKind.bits .i64))))) &&& (BitVec.ofInt (IntKind.bits .i64) 1)) : Nat) : Int)) == 1) then
    some a2
    else
    some 0)
  else
  none)
noncomputable def G71_E : CEnt := pureE 71 [.dat (.int .i64), .dat (.int .i64), .dat (.int .i64)] (.dat (.int .i64)) fun x => G71 x.1 x.2.1 x.2.2.1
theorem G71_LV : LV 0 Tryz.prog false (loopsOf (bodyOf Tryz.f71)) [] := by unfold LV; cases loopsOf (bodyOf Tryz.f71) <;> trivial
theorem G71_ent : Ent Tryz.prog 71 := ⟨by decide, enters_of Tryz.func71 (by kernel_rfl) rfl⟩
theorem G71_hev : ∀ x, fnR Tryz.prog G71_C [] Tryz.f71 (bodyOf Tryz.f71) (encs [.dat (.int .i64), .dat (.int .i64), .dat (.int .i64)] x) ⟨[], [], 0⟩ (frzF (.dat (.int .i64))) = G71 x.1 x.2.1 x.2.2.1 := by
  intro x; kernel_rfl
theorem G71_valid : G71_E.Valid Tryz.prog :=
  pureE_valid (by kernel_rfl) (by kernel_rfl) G71_ent (frz_lcall mixed Tryz.func71 rfl G71_ent G71_CV G71_LV (by kernel_rfl) (by kernel_rfl) G71_hev)
noncomputable def G90_C : CalT := tabC []
theorem G90_CV : CV Tryz.prog G90_C := tabC_valid (l := _) trivial
noncomputable def G90_l0_c : Code := loopAt (bodyOf Tryz.f90) 0
noncomputable def G90_l0_S : SPat := ⟨[.any, .any, .fix (.bptr 0 []), .fix (.bptr 1 []), .any, .any, .any, .dat (.list T58), .dat (.int .i64), .dat (.int .i64), .any, .any, .any, .any, .any, .any, .any, .any, .any, .any, .any, .any, .any, .any, .any, .any], [.cons (.dat (.int .i64)) (.cons (.dat (.int .i64)) (.nil)), .cons (.dat (.int .i64)) (.cons (.dat (.int .i64)) (.nil))], 0⟩
abbrev TY8 : Type := (((List E58) × (Int × (Int × Unit))) × ((Int × (Int × Unit)) × ((Int × (Int × Unit)) × Unit)))
abbrev TY9 : Type := (Nat × (((List E58) × (Int × (Int × Unit))) × ((Int × (Int × Unit)) × ((Int × (Int × Unit)) × Unit))))
noncomputable def G90_l0_step (s : TY8) : Option TY9 :=
  (bif (decide (s.1.2.2.1 < s.1.2.1)) then
  (bif (decide (0 ≤ s.1.2.2.1) && decide (s.1.2.2.1 < (List.length s.1.1 : Int))) then
    some (0, ((s.1.1, (s.1.2.1, ((IntKind.wrap .i64 (s.1.2.2.1 + 1)), ()))), (s.2.1, (((if (List.getD s.1.1 (Int.toNat s.1.2.2.1) (0, (0, ()))).1 > s.2.2.1.1 then (List.getD s.1.1 (Int.toNat s.1.2.2.1) (0, (0, ()))).1 else s.2.2.1.1), ((if (List.getD s.1.1 (Int.toNat s.1.2.2.1) (0, (0, ()))).2.1 < s.2.2.1.2.1 then (List.getD s.1.1 (Int.toNat s.1.2.2.1) (0, (0, ()))).2.1 else s.2.2.1.2.1), ())), ()))))
    else
    none)
  else
  some (1, ((s.1.1, (s.1.2.1, (s.1.2.2.1, ()))), (s.2.1, (s.2.2.1, ())))))
noncomputable def G90_l0_fuel (s : TY8) : Nat := Int.toNat (s.1.2.1 - s.1.2.2.1) + 1
noncomputable def G90_l0_run (s : TY8) : Option TY9 := iter G90_l0_step (G90_l0_fuel s) s
noncomputable def G90_l0_L : LoopT := loopT G90_l0_S [.exit 0] G90_l0_run
noncomputable def G90 (a0 : (List E58)) : Option E58 :=
  (Option.bind (G90_l0_run ((a0, ((List.length a0 : Int), (0, ()))), ((0, (0, ())), ((2000, (3200, ())), ())))) fun q1 =>
  some q1.2.2.2.1)
noncomputable def G90_E : CEnt := pureE 90 [.dat (.list T58)] (.dat T58) fun x => G90 x.1
theorem G90_l0_V : LValid 0 Tryz.prog (.loop G90_l0_c) G90_l0_L false := by
  have hb : ∀ s, codeR Tryz.prog G90_C G90_l0_c [] (G90_l0_S.encE s) (G90_l0_S.encB s) (kst G90_l0_S [.exit 0]) = G90_l0_step s := by
    intro s; kernel_rfl
  have hL : LV 0 Tryz.prog false (loopsOf G90_l0_c) [] := by unfold LV; cases loopsOf G90_l0_c <;> trivial
  exact loopT_valid (fuel := G90_l0_fuel) mixed G90_CV hL (by kernel_rfl) (by decide) rfl hb (fun s r h => h)
theorem G90_LV : LV 0 Tryz.prog false (loopsOf (bodyOf Tryz.f90)) [G90_l0_L] := by
  have hl : loopsOf (bodyOf Tryz.f90) = [.loop G90_l0_c] := by kernel_rfl
  rw [hl]; exact ⟨G90_l0_V, trivial⟩
theorem G90_ent : Ent Tryz.prog 90 := ⟨by decide, enters_of Tryz.func90 (by kernel_rfl) rfl⟩
theorem G90_hev : ∀ x, fnR Tryz.prog G90_C [G90_l0_L] Tryz.f90 (bodyOf Tryz.f90) (encs [.dat (.list T58)] x) ⟨[], [], 0⟩ (frzF (.dat T58)) = G90 x.1 := by
  intro x; kernel_rfl
theorem G90_valid : G90_E.Valid Tryz.prog :=
  pureE_valid (by kernel_rfl) (by kernel_rfl) G90_ent (frz_lcall mixed Tryz.func90 rfl G90_ent G90_CV G90_LV (by kernel_rfl) (by kernel_rfl) G90_hev)
noncomputable def G73_C : CalT := tabC [G90_E]
theorem G73_CV : CV Tryz.prog G73_C := tabC_valid (l := _) ⟨G90_valid, trivial⟩
noncomputable def G73_l0_c : Code := loopAt (bodyOf Tryz.f73) 0
noncomputable def G73_l0_S : SPat := ⟨[.ip T106, .dat (.int .i64), .dat (.int .i64), .any, .any, .any, .fix (.bptr 0 []), .own 0 T58, .any, .any, .any, .any, .any, .any, .dat (.list T71), .dat (.int .i64), .dat (.int .i64), .any, .any, .any, .any, .any, .any, .any, .any, .any, .any, .any, .any, .any, .any, .any, .any, .any, .any, .any, .any, .any, .any, .any, .any, .any, .any, .any, .any, .any, .any, .any, .any, .any, .any, .any], [.cons (.dat (.int .i64)) (.cons (.dat (.int .i64)) (.nil))], 1⟩
abbrev TY10 : Type := (E106 × (Int × (Int × ((List E58) × ((List E71) × (Int × (Int × Unit)))))))
abbrev TY11 : Type := (Nat × ((E106 × (Int × (Int × ((List E58) × ((List E71) × (Int × (Int × Unit))))))) × ((Int × (Int × Unit)) × Unit)))
noncomputable def G73_l0_step (s : (TY10 × ((Int × (Int × Unit)) × Unit))) : Option TY11 :=
  (bif (decide (s.1.2.2.2.2.2.2.1 < s.1.2.2.2.2.2.1)) then
  (bif (decide (0 ≤ s.1.2.2.2.2.2.2.1) && decide (s.1.2.2.2.2.2.2.1 < (List.length s.1.2.2.2.2.1 : Int))) then
    (bif ((List.getD s.1.2.2.2.2.1 (Int.toNat s.1.2.2.2.2.2.2.1) (0, (0, (0, ())))).1 == s.1.2.1) then
      (bif (decide (List.length s.1.2.2.2.1 + List.length [((IntKind.wrap .i64 ((IntKind.wrap .i64 ((List.getD s.1.2.2.2.2.1 (Int.toNat s.1.2.2.2.2.2.2.1) (0, (0, (0, ())))).2.2.1 - (IntKind.wrap .i64 (s.1.2.2.1 * (List.getD s.1.2.2.2.2.1 (Int.toNat s.1.2.2.2.2.2.2.1) (0, (0, (0, ())))).2.1)))) - s.1.1.1.1)), ((IntKind.wrap .i64 ((IntKind.wrap .i64 ((List.getD s.1.2.2.2.2.1 (Int.toNat s.1.2.2.2.2.2.2.1) (0, (0, (0, ())))).2.2.1 - (IntKind.wrap .i64 (s.1.2.2.1 * (List.getD s.1.2.2.2.2.1 (Int.toNat s.1.2.2.2.2.2.2.1) (0, (0, (0, ())))).2.1)))) + s.1.1.1.1)), ()))] ≤ LIM)) then
        some (0, ((s.1.1, (s.1.2.1, (s.1.2.2.1, ((s.1.2.2.2.1 ++ [((IntKind.wrap .i64 ((IntKind.wrap .i64 ((List.getD s.1.2.2.2.2.1 (Int.toNat s.1.2.2.2.2.2.2.1) (0, (0, (0, ())))).2.2.1 - (IntKind.wrap .i64 (s.1.2.2.1 * (List.getD s.1.2.2.2.2.1 (Int.toNat s.1.2.2.2.2.2.2.1) (0, (0, (0, ())))).2.1)))) - s.1.1.1.1)), ((IntKind.wrap .i64 ((IntKind.wrap .i64 ((List.getD s.1.2.2.2.2.1 (Int.toNat s.1.2.2.2.2.2.2.1) (0, (0, (0, ())))).2.2.1 - (IntKind.wrap .i64 (s.1.2.2.1 * (List.getD s.1.2.2.2.2.1 (Int.toNat s.1.2.2.2.2.2.2.1) (0, (0, (0, ())))).2.1)))) + s.1.1.1.1)), ()))]), (s.1.2.2.2.2.1, (s.1.2.2.2.2.2.1, ((IntKind.wrap .i64 (s.1.2.2.2.2.2.2.1 + 1)), ()))))))), (s.2.1, ())))
        else
        none)
      else
      some (0, ((s.1.1, (s.1.2.1, (s.1.2.2.1, (s.1.2.2.2.1, (s.1.2.2.2.2.1, (s.1.2.2.2.2.2.1, ((IntKind.wrap .i64 (s.1.2.2.2.2.2.2.1 + 1)), ()))))))), (s.2.1, ()))))
    else
    none)
  else
  some (1, ((s.1.1, (s.1.2.1, (s.1.2.2.1, (s.1.2.2.2.1, (s.1.2.2.2.2.1, (s.1.2.2.2.2.2.1, (s.1.2.2.2.2.2.2.1, ()))))))), (s.2.1, ()))))
noncomputable def G73_l0_fuel (s : (TY10 × ((Int × (Int × Unit)) × Unit))) : Nat := Int.toNat (s.1.2.2.2.2.2.1 - s.1.2.2.2.2.2.2.1) + 1
noncomputable def G73_l0_run (s : (TY10 × ((Int × (Int × Unit)) × Unit))) : Option TY11 := iter G73_l0_step (G73_l0_fuel s) s
noncomputable def G73_l0_L : LoopT := loopT G73_l0_S [.exit 0] G73_l0_run
noncomputable def G73 (a0 : E106) (a1 : Int) (a2 : Int) : Option E58 :=
  (Option.bind (G73_l0_run ((a0, (a1, (a2, ([], (a0.2.1, ((List.length a0.2.1 : Int), (0, ()))))))), ((0, (0, ())), ()))) fun q1 =>
  (Option.bind (G90 q1.2.1.2.2.2.1) fun r2 =>
    some r2))
noncomputable def G73_E : CEnt := viewE 73 [.ip T106, .dat (.int .i64), .dat (.int .i64)] (.dat T58) fun x => G73 x.1 x.2.1 x.2.2.1
theorem G73_l0_V : LValid 0 Tryz.prog (.loop G73_l0_c) G73_l0_L false := by
  have hb : ∀ s, codeR Tryz.prog G73_C G73_l0_c [] (G73_l0_S.encE s) (G73_l0_S.encB s) (kst G73_l0_S [.exit 0]) = G73_l0_step s := by
    intro s; kernel_rfl
  have hL : LV 0 Tryz.prog false (loopsOf G73_l0_c) [] := by unfold LV; cases loopsOf G73_l0_c <;> trivial
  exact loopT_valid (fuel := G73_l0_fuel) mixed G73_CV hL (by kernel_rfl) (by decide) rfl hb (fun s r h => h)
theorem G73_LV : LV 0 Tryz.prog false (loopsOf (bodyOf Tryz.f73)) [G73_l0_L] := by
  have hl : loopsOf (bodyOf Tryz.f73) = [.loop G73_l0_c] := by kernel_rfl
  rw [hl]; exact ⟨G73_l0_V, trivial⟩
theorem G73_ent : Ent Tryz.prog 73 := ⟨by decide, enters_of Tryz.func73 (by kernel_rfl) rfl⟩
theorem G73_hev : ∀ x, fnR Tryz.prog G73_C [G73_l0_L] Tryz.f73 (bodyOf Tryz.f73) (encs [.ip T106, .dat (.int .i64), .dat (.int .i64)] x) ⟨[], [], 0⟩ (frzF (.dat T58)) = G73 x.1 x.2.1 x.2.2.1 := by
  intro x; kernel_rfl
theorem G73_valid : G73_E.Valid Tryz.prog :=
  viewE_valid (by kernel_rfl) (by kernel_rfl) G73_ent (frz_lcall mixed Tryz.func73 rfl G73_ent G73_CV G73_LV (by kernel_rfl) (by kernel_rfl) G73_hev)
noncomputable def G44_C : CalT := tabC [G71_E, G73_E, G51_E]
theorem G44_CV : CV Tryz.prog G44_C := tabC_valid (l := _) ⟨G71_valid, G73_valid, G51_valid, trivial⟩
noncomputable def G44_l0_c : Code := loopAt (bodyOf Tryz.f44) 0
noncomputable def G44_l0_S : SPat := ⟨[.ip T106, .dat (.int .i64), .any, .dat (.int .i64), .dat (.int .i64), .any, .any, .any, .any, .any, .dat (.int .i64), .dat .bool, .dat (.int .i64), .dat (.int .i64), .any, .any, .any, .any, .any, .any, .any, .any, .any, .any, .any, .any, .any, .any, .any, .any, .any, .any, .any, .any, .any, .any, .any, .any, .any, .any, .any, .any, .any], [], 0⟩
abbrev TY12 : Type := (E106 × (Int × (Int × (Int × (Int × (Bool × (Int × (Int × Unit))))))))
abbrev TY13 : Type := (Nat × ((E106 × (Int × (Int × (Int × (Int × (Bool × (Int × (Int × Unit)))))))) × Unit))
noncomputable def G44_l0_step (s : (TY12 × Unit)) : Option TY13 :=
  (bif (decide (s.1.2.2.2.2.2.2.2.1 ≤ s.1.2.2.2.2.2.2.1)) then
  (Option.bind (G73 s.1.1 s.1.2.1 (IntKind.wrap .i64 (s.1.2.2.2.1 + s.1.2.2.2.2.2.2.2.1))) fun r2 =>
    (Option.bind (G51 s.1.2.2.1 r2.1 r2.2.1) fun r3 =>
      (bif r3 then
        some (1, ((s.1.1, (s.1.2.1, (s.1.2.2.1, (s.1.2.2.2.1, (s.1.2.2.2.2.2.2.2.1, (true, (s.1.2.2.2.2.2.2.1, (s.1.2.2.2.2.2.2.2.1, ())))))))), ()))
        else
        some (0, ((s.1.1, (s.1.2.1, (s.1.2.2.1, (s.1.2.2.2.1, (s.1.2.2.2.2.1, (s.1.2.2.2.2.2.1, (s.1.2.2.2.2.2.2.1, ((IntKind.wrap .i64 (s.1.2.2.2.2.2.2.2.1 + 1)), ())))))))), ())))))
  else
  some (2, ((s.1.1, (s.1.2.1, (s.1.2.2.1, (s.1.2.2.2.1, (s.1.2.2.2.2.1, (s.1.2.2.2.2.2.1, (s.1.2.2.2.2.2.2.1, (s.1.2.2.2.2.2.2.2.1, ())))))))), ())))
noncomputable def G44_l0_fuel (s : (TY12 × Unit)) : Nat := 100000
noncomputable def G44_l0_run (s : (TY12 × Unit)) : Option TY13 := iter G44_l0_step (G44_l0_fuel s) s
noncomputable def G44_l0_L : LoopT := loopT G44_l0_S [.ret, .exit 0] G44_l0_run
noncomputable def G44 (a0 : E106) (a1 : Int) (a2 : Int) (a3 : Int) (a4 : Int) : Option (Int × (Bool × Unit)) :=
  (Option.bind (G71 a2 a1 a0.1.2.1) fun r1 =>
  (Option.bind (G44_l0_run ((a0, (a1, (a3, (a4, (0, (false, (r1, ((IntKind.wrap .i64 (0 - r1)), ())))))))), ())) fun q4 =>
    (natK q4.1
      (some (q4.2.1.2.2.2.2.1, (q4.2.1.2.2.2.2.2.1, ())))
      (fun _ => some (0, (false, ()))))))
noncomputable def G44_E : CEnt := viewE 44 [.ip T106, .dat (.int .i64), .dat (.int .i64), .dat (.int .i64), .dat (.int .i64)] (.tup (.cons (.dat (.int .i64)) (.cons (.dat .bool) (.nil)))) fun x => G44 x.1 x.2.1 x.2.2.1 x.2.2.2.1 x.2.2.2.2.1
theorem G44_l0_V : LValid 0 Tryz.prog (.loop G44_l0_c) G44_l0_L false := by
  have hb : ∀ s, codeR Tryz.prog G44_C G44_l0_c [] (G44_l0_S.encE s) (G44_l0_S.encB s) (kst G44_l0_S [.ret, .exit 0]) = G44_l0_step s := by
    intro s; kernel_rfl
  have hL : LV 0 Tryz.prog false (loopsOf G44_l0_c) [] := by unfold LV; cases loopsOf G44_l0_c <;> trivial
  exact loopT_valid (fuel := G44_l0_fuel) mixed G44_CV hL (by kernel_rfl) (by decide) rfl hb (fun s r h => h)
theorem G44_LV : LV 0 Tryz.prog false (loopsOf (bodyOf Tryz.f44)) [G44_l0_L] := by
  have hl : loopsOf (bodyOf Tryz.f44) = [.loop G44_l0_c] := by kernel_rfl
  rw [hl]; exact ⟨G44_l0_V, trivial⟩
theorem G44_ent : Ent Tryz.prog 44 := ⟨by decide, enters_of Tryz.func44 (by kernel_rfl) rfl⟩
theorem G44_hev : ∀ x, fnR Tryz.prog G44_C [G44_l0_L] Tryz.f44 (bodyOf Tryz.f44) (encs [.ip T106, .dat (.int .i64), .dat (.int .i64), .dat (.int .i64), .dat (.int .i64)] x) ⟨[], [], 0⟩ (frzF (.tup (.cons (.dat (.int .i64)) (.cons (.dat .bool) (.nil))))) = G44 x.1 x.2.1 x.2.2.1 x.2.2.2.1 x.2.2.2.2.1 := by
  intro x; kernel_rfl
theorem G44_valid : G44_E.Valid Tryz.prog :=
  viewE_valid (by kernel_rfl) (by kernel_rfl) G44_ent (frz_lcall mixed Tryz.func44 rfl G44_ent G44_CV G44_LV (by kernel_rfl) (by kernel_rfl) G44_hev)
noncomputable def G86_C : CalT := tabC [G44_E]
theorem G86_CV : CV Tryz.prog G86_C := tabC_valid (l := _) ⟨G44_valid, trivial⟩
noncomputable def G86_l0_c : Code := loopAt (bodyOf Tryz.f86) 0
noncomputable def G86_l0_S : SPat := ⟨[.ip T106, .dat (.int .i64), .dat (.int .i64), .dat (.int .i64), .dat (.int .i64), .any, .any, .any, .any, .any, .dat .bool, .any, .any, .any, .any, .any, .any, .any, .any, .dat (.list (.int .i64)), .dat (.int .i64), .dat (.int .i64), .any, .any, .any, .any, .any, .any, .any, .any, .any, .any, .any, .any, .any, .any, .any, .any, .any, .any, .any], [], 0⟩
abbrev TY14 : Type := (E106 × (Int × (Int × (Int × (Int × (Bool × ((List Int) × (Int × (Int × Unit)))))))))
abbrev TY15 : Type := (Nat × ((E106 × (Int × (Int × (Int × (Int × (Bool × ((List Int) × (Int × (Int × Unit))))))))) × Unit))
noncomputable def G86_l0_step (s : (TY14 × Unit)) : Option TY15 :=
  (bif (decide (s.1.2.2.2.2.2.2.2.2.1 < s.1.2.2.2.2.2.2.2.1)) then
  (bif (decide (0 ≤ s.1.2.2.2.2.2.2.2.2.1) && decide (s.1.2.2.2.2.2.2.2.2.1 < (List.length s.1.2.2.2.2.2.2.1 : Int))) then
    (bif ((List.getD s.1.2.2.2.2.2.2.1 (Int.toNat s.1.2.2.2.2.2.2.2.2.1) 0) != s.1.2.1) then
      some (0, ((s.1.1, (s.1.2.1, (s.1.2.2.1, (s.1.2.2.2.1, (s.1.2.2.2.2.1, (s.1.2.2.2.2.2.1, (s.1.2.2.2.2.2.2.1, (s.1.2.2.2.2.2.2.2.1, ((IntKind.wrap .i64 (s.1.2.2.2.2.2.2.2.2.1 + 1)), ()))))))))), ()))
      else
      (Option.bind (G44 s.1.1 s.1.2.2.2.2.2.2.2.2.1 s.1.2.2.1 s.1.2.2.2.1 s.1.2.2.2.2.1) fun r1 =>
        (bif (!r1.2.1) then
          some (1, ((s.1.1, (s.1.2.1, (s.1.2.2.1, (s.1.2.2.2.1, (s.1.2.2.2.2.1, (false, (s.1.2.2.2.2.2.2.1, (s.1.2.2.2.2.2.2.2.1, (s.1.2.2.2.2.2.2.2.2.1, ()))))))))), ()))
          else
          some (0, ((s.1.1, (s.1.2.1, (s.1.2.2.1, (s.1.2.2.2.1, (s.1.2.2.2.2.1, (s.1.2.2.2.2.2.1, (s.1.2.2.2.2.2.2.1, (s.1.2.2.2.2.2.2.2.1, ((IntKind.wrap .i64 (s.1.2.2.2.2.2.2.2.2.1 + 1)), ()))))))))), ())))))
    else
    none)
  else
  some (2, ((s.1.1, (s.1.2.1, (s.1.2.2.1, (s.1.2.2.2.1, (s.1.2.2.2.2.1, (s.1.2.2.2.2.2.1, (s.1.2.2.2.2.2.2.1, (s.1.2.2.2.2.2.2.2.1, (s.1.2.2.2.2.2.2.2.2.1, ()))))))))), ())))
noncomputable def G86_l0_fuel (s : (TY14 × Unit)) : Nat := Int.toNat (s.1.2.2.2.2.2.2.2.1 - s.1.2.2.2.2.2.2.2.2.1) + 1
noncomputable def G86_l0_run (s : (TY14 × Unit)) : Option TY15 := iter G86_l0_step (G86_l0_fuel s) s
noncomputable def G86_l0_L : LoopT := loopT G86_l0_S [.ret, .exit 0] G86_l0_run
noncomputable def G86 (a0 : E106) (a1 : Int) (a2 : Int) (a3 : Int) (a4 : Int) : Option Bool :=
  (Option.bind (G86_l0_run ((a0, (a1, (a2, (a3, (a4, (false, (a0.1.2.2.2.2.1, ((List.length a0.1.2.2.2.2.1 : Int), (0, ()))))))))), ())) fun q2 =>
  (natK q2.1
    (some q2.2.1.2.2.2.2.2.1)
    (fun _ => some true)))
noncomputable def G86_E : CEnt := viewE 86 [.ip T106, .dat (.int .i64), .dat (.int .i64), .dat (.int .i64), .dat (.int .i64)] (.dat .bool) fun x => G86 x.1 x.2.1 x.2.2.1 x.2.2.2.1 x.2.2.2.2.1
theorem G86_l0_V : LValid 0 Tryz.prog (.loop G86_l0_c) G86_l0_L false := by
  have hb : ∀ s, codeR Tryz.prog G86_C G86_l0_c [] (G86_l0_S.encE s) (G86_l0_S.encB s) (kst G86_l0_S [.ret, .exit 0]) = G86_l0_step s := by
    intro s; kernel_rfl
  have hL : LV 0 Tryz.prog false (loopsOf G86_l0_c) [] := by unfold LV; cases loopsOf G86_l0_c <;> trivial
  exact loopT_valid (fuel := G86_l0_fuel) mixed G86_CV hL (by kernel_rfl) (by decide) rfl hb (fun s r h => h)
theorem G86_LV : LV 0 Tryz.prog false (loopsOf (bodyOf Tryz.f86)) [G86_l0_L] := by
  have hl : loopsOf (bodyOf Tryz.f86) = [.loop G86_l0_c] := by kernel_rfl
  rw [hl]; exact ⟨G86_l0_V, trivial⟩
theorem G86_ent : Ent Tryz.prog 86 := ⟨by decide, enters_of Tryz.func86 (by kernel_rfl) rfl⟩
theorem G86_hev : ∀ x, fnR Tryz.prog G86_C [G86_l0_L] Tryz.f86 (bodyOf Tryz.f86) (encs [.ip T106, .dat (.int .i64), .dat (.int .i64), .dat (.int .i64), .dat (.int .i64)] x) ⟨[], [], 0⟩ (frzF (.dat .bool)) = G86 x.1 x.2.1 x.2.2.1 x.2.2.2.1 x.2.2.2.2.1 := by
  intro x; kernel_rfl
theorem G86_valid : G86_E.Valid Tryz.prog :=
  viewE_valid (by kernel_rfl) (by kernel_rfl) G86_ent (frz_lcall mixed Tryz.func86 rfl G86_ent G86_CV G86_LV (by kernel_rfl) (by kernel_rfl) G86_hev)
noncomputable def G85_C : CalT := tabC [G51_E, G86_E]
theorem G85_CV : CV Tryz.prog G85_C := tabC_valid (l := _) ⟨G51_valid, G86_valid, trivial⟩
noncomputable def G85 (a0 : Int) (b1 : E106) (b2 : Int) (b3 : Int) (b4 : Int) : Option (Bool × (E106 × (Int × (Int × (Int × Unit))))) :=
  (Option.bind (G51 a0 2000 3200) fun r1 =>
  (bif r1 then
    (Option.bind (G86 b1 b2 b3 a0 b4) fun r2 =>
      some (r2, (b1, (b2, (b3, (b4, ()))))))
    else
    some (false, (b1, (b2, (b3, (b4, ())))))))
abbrev G85_CS : CSpec := ⟨[.dat (.int .i64), .fix (.bptr 0 []), .fix (.bptr 1 []), .fix (.bptr 2 []), .fix (.bptr 3 [])], [.ip T106, .dat (.int .i64), .dat (.int .i64), .dat (.int .i64)], 0, [.ip T106, .dat (.int .i64), .dat (.int .i64), .dat (.int .i64)], 0, .dat .bool⟩
noncomputable def G85_E : CEnt := boxE 85 G85_CS fun x => G85 x.1.1 x.2.1 x.2.2.1 x.2.2.2.1 x.2.2.2.2.1
theorem G85_LV : LV 4 Tryz.prog false (loopsOf (bodyOf Tryz.f85)) [] := by unfold LV; cases loopsOf (bodyOf Tryz.f85) <;> trivial
theorem G85_ent : Ent Tryz.prog 85 := ⟨by decide, enters_of Tryz.func85 (by kernel_rfl) rfl⟩
theorem G85_hev : ∀ x : G85_CS.In, fnR Tryz.prog G85_C [] Tryz.f85 (bodyOf Tryz.f85) (encs G85_CS.A x.1) ⟨encs G85_CS.I x.2, [], G85_CS.nt⟩ (finK G85_CS) = G85 x.1.1 x.2.1 x.2.2.1 x.2.2.2.1 x.2.2.2.2.1 := by
  intro x; kernel_rfl
theorem G85_valid : G85_E.Valid Tryz.prog :=
  boxE_valid (S := G85_CS) (by kernel_rfl) (.inr G85_ent) (fn_lcall (S := G85_CS) mixed Tryz.func85 rfl G85_ent G85_CV G85_LV (by kernel_rfl) (by kernel_rfl) G85_hev)
noncomputable def G88_C : CalT := tabC []
theorem G88_CV : CV Tryz.prog G88_C := tabC_valid (l := _) trivial
noncomputable def G88 (a0 : Int) (a1 : Int) : Option Bool :=
  some (decide (a0 < a1))
noncomputable def G88_E : CEnt := pureE 88 [.dat (.int .i64), .dat (.int .i64)] (.dat .bool) fun x => G88 x.1 x.2.1
theorem G88_LV : LV 0 Tryz.prog false (loopsOf (bodyOf Tryz.f88)) [] := by unfold LV; cases loopsOf (bodyOf Tryz.f88) <;> trivial
theorem G88_ent : Ent Tryz.prog 88 := ⟨by decide, enters_of Tryz.func88 (by kernel_rfl) rfl⟩
theorem G88_hev : ∀ x, fnR Tryz.prog G88_C [] Tryz.f88 (bodyOf Tryz.f88) (encs [.dat (.int .i64), .dat (.int .i64)] x) ⟨[], [], 0⟩ (frzF (.dat .bool)) = G88 x.1 x.2.1 := by
  intro x; kernel_rfl
theorem G88_valid : G88_E.Valid Tryz.prog :=
  pureE_valid (by kernel_rfl) (by kernel_rfl) G88_ent (frz_lcall mixed Tryz.func88 rfl G88_ent G88_CV G88_LV (by kernel_rfl) (by kernel_rfl) G88_hev)
noncomputable def G87_C : CalT := tabC [G85_E, G88_E]
theorem G87_CV : CV Tryz.prog G87_C := tabC_valid (l := _) ⟨G85_valid, G88_valid, trivial⟩
noncomputable def G87_l0_c : Code := loopAt (bodyOf Tryz.f87) 0
noncomputable def G87_l0_S : SPat := ⟨[.any, .fix (.func (.func 85) .nil (.cons (.bptr 0 []) (.cons (.bptr 1 []) (.cons (.bptr 2 []) (.cons (.bptr 3 []) .nil))))), .fix (.func (.func 88) .nil .nil), .any, .any, .any, .any, .any, .dat (.int .i64), .dat .bool, .any, .any, .dat (.list (.int .i64)), .dat (.int .i64), .dat (.int .i64), .any, .any, .any, .any, .any, .any, .any, .any, .any, .any, .any, .any, .any, .any, .any, .any, .any, .any, .any, .any], [.ip T106, .dat (.int .i64), .dat (.int .i64), .dat (.int .i64)], 0⟩
abbrev TY16 : Type := ((Int × (Bool × ((List Int) × (Int × (Int × Unit))))) × (E106 × (Int × (Int × (Int × Unit)))))
abbrev TY17 : Type := (Nat × ((Int × (Bool × ((List Int) × (Int × (Int × Unit))))) × (E106 × (Int × (Int × (Int × Unit))))))
noncomputable def G87_l0_step (s : TY16) : Option TY17 :=
  (bif (decide (s.1.2.2.2.2.1 < s.1.2.2.2.1)) then
  (bif (decide (0 ≤ s.1.2.2.2.2.1) && decide (s.1.2.2.2.2.1 < (List.length s.1.2.2.1 : Int))) then
    (bif (!s.1.2.1) then
      (Option.bind (G85 (List.getD s.1.2.2.1 (Int.toNat s.1.2.2.2.2.1) 0) s.2.1 s.2.2.1 s.2.2.2.1 s.2.2.2.2.1) fun r1 =>
        (bif r1.1 then
          some (0, (((List.getD s.1.2.2.1 (Int.toNat s.1.2.2.2.2.1) 0), (true, (s.1.2.2.1, (s.1.2.2.2.1, ((IntKind.wrap .i64 (s.1.2.2.2.2.1 + 1)), ()))))), (r1.2.1, (r1.2.2.1, (r1.2.2.2.1, (r1.2.2.2.2.1, ()))))))
          else
          some (0, ((s.1.1, (s.1.2.1, (s.1.2.2.1, (s.1.2.2.2.1, ((IntKind.wrap .i64 (s.1.2.2.2.2.1 + 1)), ()))))), (r1.2.1, (r1.2.2.1, (r1.2.2.2.1, (r1.2.2.2.2.1, ()))))))))
      else
      (Option.bind (G88 (List.getD s.1.2.2.1 (Int.toNat s.1.2.2.2.2.1) 0) s.1.1) fun r2 =>
        (bif r2 then
          (Option.bind (G85 (List.getD s.1.2.2.1 (Int.toNat s.1.2.2.2.2.1) 0) s.2.1 s.2.2.1 s.2.2.2.1 s.2.2.2.2.1) fun r3 =>
            (bif r3.1 then
              some (0, (((List.getD s.1.2.2.1 (Int.toNat s.1.2.2.2.2.1) 0), (true, (s.1.2.2.1, (s.1.2.2.2.1, ((IntKind.wrap .i64 (s.1.2.2.2.2.1 + 1)), ()))))), (r3.2.1, (r3.2.2.1, (r3.2.2.2.1, (r3.2.2.2.2.1, ()))))))
              else
              some (0, ((s.1.1, (s.1.2.1, (s.1.2.2.1, (s.1.2.2.2.1, ((IntKind.wrap .i64 (s.1.2.2.2.2.1 + 1)), ()))))), (r3.2.1, (r3.2.2.1, (r3.2.2.2.1, (r3.2.2.2.2.1, ()))))))))
          else
          some (0, ((s.1.1, (s.1.2.1, (s.1.2.2.1, (s.1.2.2.2.1, ((IntKind.wrap .i64 (s.1.2.2.2.2.1 + 1)), ()))))), (s.2.1, (s.2.2.1, (s.2.2.2.1, (s.2.2.2.2.1, ())))))))))
    else
    none)
  else
  some (1, ((s.1.1, (s.1.2.1, (s.1.2.2.1, (s.1.2.2.2.1, (s.1.2.2.2.2.1, ()))))), (s.2.1, (s.2.2.1, (s.2.2.2.1, (s.2.2.2.2.1, ())))))))
noncomputable def G87_l0_fuel (s : TY16) : Nat := Int.toNat (s.1.2.2.2.1 - s.1.2.2.2.2.1) + 1
noncomputable def G87_l0_run (s : TY16) : Option TY17 := iter G87_l0_step (G87_l0_fuel s) s
noncomputable def G87_l0_L : LoopT := loopT G87_l0_S [.exit 0] G87_l0_run
noncomputable def G87 (a0 : (List Int)) (b1 : E106) (b2 : Int) (b3 : Int) (b4 : Int) : Option ((Int × (Bool × Unit)) × (E106 × (Int × (Int × (Int × Unit))))) :=
  (Option.bind (G87_l0_run ((0, (false, (a0, ((List.length a0 : Int), (0, ()))))), (b1, (b2, (b3, (b4, ())))))) fun q4 =>
  some ((q4.2.1.1, (q4.2.1.2.1, ())), (q4.2.2.1, (q4.2.2.2.1, (q4.2.2.2.2.1, (q4.2.2.2.2.2.1, ()))))))
abbrev G87_CS : CSpec := ⟨[.dat (.list (.int .i64)), .fix (.func (.func 85) .nil (.cons (.bptr 0 []) (.cons (.bptr 1 []) (.cons (.bptr 2 []) (.cons (.bptr 3 []) .nil))))), .fix (.func (.func 88) .nil .nil)], [.ip T106, .dat (.int .i64), .dat (.int .i64), .dat (.int .i64)], 0, [.ip T106, .dat (.int .i64), .dat (.int .i64), .dat (.int .i64)], 0, .tup (.cons (.dat (.int .i64)) (.cons (.dat .bool) (.nil)))⟩
noncomputable def G87_E : CEnt := boxE 87 G87_CS fun x => G87 x.1.1 x.2.1 x.2.2.1 x.2.2.2.1 x.2.2.2.2.1
theorem G87_l0_V : LValid 4 Tryz.prog (.loop G87_l0_c) G87_l0_L false := by
  have hb : ∀ s, codeR Tryz.prog G87_C G87_l0_c [] (G87_l0_S.encE s) (G87_l0_S.encB s) (kst G87_l0_S [.exit 0]) = G87_l0_step s := by
    intro s; kernel_rfl
  have hL : LV 4 Tryz.prog false (loopsOf G87_l0_c) [] := by unfold LV; cases loopsOf G87_l0_c <;> trivial
  exact loopT_valid (fuel := G87_l0_fuel) mixed G87_CV hL (by kernel_rfl) (by decide) rfl hb (fun s r h => h)
theorem G87_LV : LV 4 Tryz.prog false (loopsOf (bodyOf Tryz.f87)) [G87_l0_L] := by
  have hl : loopsOf (bodyOf Tryz.f87) = [.loop G87_l0_c] := by kernel_rfl
  rw [hl]; exact ⟨G87_l0_V, trivial⟩
theorem G87_ent : Ent Tryz.prog 87 := ⟨by decide, enters_of Tryz.func87 (by kernel_rfl) rfl⟩
theorem G87_hev : ∀ x : G87_CS.In, fnR Tryz.prog G87_C [G87_l0_L] Tryz.f87 (bodyOf Tryz.f87) (encs G87_CS.A x.1) ⟨encs G87_CS.I x.2, [], G87_CS.nt⟩ (finK G87_CS) = G87 x.1.1 x.2.1 x.2.2.1 x.2.2.2.1 x.2.2.2.2.1 := by
  intro x; kernel_rfl
theorem G87_valid : G87_E.Valid Tryz.prog :=
  boxE_valid (S := G87_CS) (by kernel_rfl) (.inr G87_ent) (fn_lcall (S := G87_CS) mixed Tryz.func87 rfl G87_ent G87_CV G87_LV (by kernel_rfl) (by kernel_rfl) G87_hev)
noncomputable def G89_C : CalT := tabC []
theorem G89_CV : CV Tryz.prog G89_C := tabC_valid (l := _) trivial
noncomputable def G89 (a0 : Int) (a1 : Int) : Option Bool :=
  some (decide (a0 > a1))
noncomputable def G89_E : CEnt := pureE 89 [.dat (.int .i64), .dat (.int .i64)] (.dat .bool) fun x => G89 x.1 x.2.1
theorem G89_LV : LV 0 Tryz.prog false (loopsOf (bodyOf Tryz.f89)) [] := by unfold LV; cases loopsOf (bodyOf Tryz.f89) <;> trivial
theorem G89_ent : Ent Tryz.prog 89 := ⟨by decide, enters_of Tryz.func89 (by kernel_rfl) rfl⟩
theorem G89_hev : ∀ x, fnR Tryz.prog G89_C [] Tryz.f89 (bodyOf Tryz.f89) (encs [.dat (.int .i64), .dat (.int .i64)] x) ⟨[], [], 0⟩ (frzF (.dat .bool)) = G89 x.1 x.2.1 := by
  intro x; kernel_rfl
theorem G89_valid : G89_E.Valid Tryz.prog :=
  pureE_valid (by kernel_rfl) (by kernel_rfl) G89_ent (frz_lcall mixed Tryz.func89 rfl G89_ent G89_CV G89_LV (by kernel_rfl) (by kernel_rfl) G89_hev)
noncomputable def G87_v1_C : CalT := tabC [G85_E, G89_E]
theorem G87_v1_CV : CV Tryz.prog G87_v1_C := tabC_valid (l := _) ⟨G85_valid, G89_valid, trivial⟩
noncomputable def G87_v1_l0_c : Code := loopAt (bodyOf Tryz.f87) 0
noncomputable def G87_v1_l0_S : SPat := ⟨[.any, .fix (.func (.func 85) .nil (.cons (.bptr 0 []) (.cons (.bptr 1 []) (.cons (.bptr 2 []) (.cons (.bptr 3 []) .nil))))), .fix (.func (.func 89) .nil .nil), .any, .any, .any, .any, .any, .dat (.int .i64), .dat .bool, .any, .any, .dat (.list (.int .i64)), .dat (.int .i64), .dat (.int .i64), .any, .any, .any, .any, .any, .any, .any, .any, .any, .any, .any, .any, .any, .any, .any, .any, .any, .any, .any, .any], [.ip T106, .dat (.int .i64), .dat (.int .i64), .dat (.int .i64)], 0⟩
noncomputable def G87_v1_l0_step (s : TY16) : Option TY17 :=
  (bif (decide (s.1.2.2.2.2.1 < s.1.2.2.2.1)) then
  (bif (decide (0 ≤ s.1.2.2.2.2.1) && decide (s.1.2.2.2.2.1 < (List.length s.1.2.2.1 : Int))) then
    (bif (!s.1.2.1) then
      (Option.bind (G85 (List.getD s.1.2.2.1 (Int.toNat s.1.2.2.2.2.1) 0) s.2.1 s.2.2.1 s.2.2.2.1 s.2.2.2.2.1) fun r1 =>
        (bif r1.1 then
          some (0, (((List.getD s.1.2.2.1 (Int.toNat s.1.2.2.2.2.1) 0), (true, (s.1.2.2.1, (s.1.2.2.2.1, ((IntKind.wrap .i64 (s.1.2.2.2.2.1 + 1)), ()))))), (r1.2.1, (r1.2.2.1, (r1.2.2.2.1, (r1.2.2.2.2.1, ()))))))
          else
          some (0, ((s.1.1, (s.1.2.1, (s.1.2.2.1, (s.1.2.2.2.1, ((IntKind.wrap .i64 (s.1.2.2.2.2.1 + 1)), ()))))), (r1.2.1, (r1.2.2.1, (r1.2.2.2.1, (r1.2.2.2.2.1, ()))))))))
      else
      (Option.bind (G89 (List.getD s.1.2.2.1 (Int.toNat s.1.2.2.2.2.1) 0) s.1.1) fun r2 =>
        (bif r2 then
          (Option.bind (G85 (List.getD s.1.2.2.1 (Int.toNat s.1.2.2.2.2.1) 0) s.2.1 s.2.2.1 s.2.2.2.1 s.2.2.2.2.1) fun r3 =>
            (bif r3.1 then
              some (0, (((List.getD s.1.2.2.1 (Int.toNat s.1.2.2.2.2.1) 0), (true, (s.1.2.2.1, (s.1.2.2.2.1, ((IntKind.wrap .i64 (s.1.2.2.2.2.1 + 1)), ()))))), (r3.2.1, (r3.2.2.1, (r3.2.2.2.1, (r3.2.2.2.2.1, ()))))))
              else
              some (0, ((s.1.1, (s.1.2.1, (s.1.2.2.1, (s.1.2.2.2.1, ((IntKind.wrap .i64 (s.1.2.2.2.2.1 + 1)), ()))))), (r3.2.1, (r3.2.2.1, (r3.2.2.2.1, (r3.2.2.2.2.1, ()))))))))
          else
          some (0, ((s.1.1, (s.1.2.1, (s.1.2.2.1, (s.1.2.2.2.1, ((IntKind.wrap .i64 (s.1.2.2.2.2.1 + 1)), ()))))), (s.2.1, (s.2.2.1, (s.2.2.2.1, (s.2.2.2.2.1, ())))))))))
    else
    none)
  else
  some (1, ((s.1.1, (s.1.2.1, (s.1.2.2.1, (s.1.2.2.2.1, (s.1.2.2.2.2.1, ()))))), (s.2.1, (s.2.2.1, (s.2.2.2.1, (s.2.2.2.2.1, ())))))))
noncomputable def G87_v1_l0_fuel (s : TY16) : Nat := Int.toNat (s.1.2.2.2.1 - s.1.2.2.2.2.1) + 1
noncomputable def G87_v1_l0_run (s : TY16) : Option TY17 := iter G87_v1_l0_step (G87_v1_l0_fuel s) s
noncomputable def G87_v1_l0_L : LoopT := loopT G87_v1_l0_S [.exit 0] G87_v1_l0_run
noncomputable def G87_v1 (a0 : (List Int)) (b1 : E106) (b2 : Int) (b3 : Int) (b4 : Int) : Option ((Int × (Bool × Unit)) × (E106 × (Int × (Int × (Int × Unit))))) :=
  (Option.bind (G87_v1_l0_run ((0, (false, (a0, ((List.length a0 : Int), (0, ()))))), (b1, (b2, (b3, (b4, ())))))) fun q4 =>
  some ((q4.2.1.1, (q4.2.1.2.1, ())), (q4.2.2.1, (q4.2.2.2.1, (q4.2.2.2.2.1, (q4.2.2.2.2.2.1, ()))))))
abbrev G87_v1_CS : CSpec := ⟨[.dat (.list (.int .i64)), .fix (.func (.func 85) .nil (.cons (.bptr 0 []) (.cons (.bptr 1 []) (.cons (.bptr 2 []) (.cons (.bptr 3 []) .nil))))), .fix (.func (.func 89) .nil .nil)], [.ip T106, .dat (.int .i64), .dat (.int .i64), .dat (.int .i64)], 0, [.ip T106, .dat (.int .i64), .dat (.int .i64), .dat (.int .i64)], 0, .tup (.cons (.dat (.int .i64)) (.cons (.dat .bool) (.nil)))⟩
noncomputable def G87_v1_E : CEnt := boxE 87 G87_v1_CS fun x => G87_v1 x.1.1 x.2.1 x.2.2.1 x.2.2.2.1 x.2.2.2.2.1
theorem G87_v1_l0_V : LValid 4 Tryz.prog (.loop G87_v1_l0_c) G87_v1_l0_L false := by
  have hb : ∀ s, codeR Tryz.prog G87_v1_C G87_v1_l0_c [] (G87_v1_l0_S.encE s) (G87_v1_l0_S.encB s) (kst G87_v1_l0_S [.exit 0]) = G87_v1_l0_step s := by
    intro s; kernel_rfl
  have hL : LV 4 Tryz.prog false (loopsOf G87_v1_l0_c) [] := by unfold LV; cases loopsOf G87_v1_l0_c <;> trivial
  exact loopT_valid (fuel := G87_v1_l0_fuel) mixed G87_v1_CV hL (by kernel_rfl) (by decide) rfl hb (fun s r h => h)
theorem G87_v1_LV : LV 4 Tryz.prog false (loopsOf (bodyOf Tryz.f87)) [G87_v1_l0_L] := by
  have hl : loopsOf (bodyOf Tryz.f87) = [.loop G87_v1_l0_c] := by kernel_rfl
  rw [hl]; exact ⟨G87_v1_l0_V, trivial⟩
theorem G87_v1_ent : Ent Tryz.prog 87 := ⟨by decide, enters_of Tryz.func87 (by kernel_rfl) rfl⟩
theorem G87_v1_hev : ∀ x : G87_v1_CS.In, fnR Tryz.prog G87_v1_C [G87_v1_l0_L] Tryz.f87 (bodyOf Tryz.f87) (encs G87_v1_CS.A x.1) ⟨encs G87_v1_CS.I x.2, [], G87_v1_CS.nt⟩ (finK G87_v1_CS) = G87_v1 x.1.1 x.2.1 x.2.2.1 x.2.2.2.1 x.2.2.2.2.1 := by
  intro x; kernel_rfl
theorem G87_v1_valid : G87_v1_E.Valid Tryz.prog :=
  boxE_valid (S := G87_v1_CS) (by kernel_rfl) (.inr G87_v1_ent) (fn_lcall (S := G87_v1_CS) mixed Tryz.func87 rfl G87_v1_ent G87_v1_CV G87_v1_LV (by kernel_rfl) (by kernel_rfl) G87_v1_hev)
noncomputable def G72_C : CalT := tabC [G71_E, G73_E, G87_E, G87_v1_E]
theorem G72_CV : CV Tryz.prog G72_C := tabC_valid (l := _) ⟨G71_valid, G73_valid, G87_valid, G87_v1_valid, trivial⟩
noncomputable def G72_l0_c : Code := loopAt (bodyOf Tryz.f72) 0
noncomputable def G72_l1_c : Code := loopAt G72_l0_c 0
noncomputable def G72_l1_S : SPat := ⟨[.any, .any, .any, .any, .fix (.bptr 0 []), .fix (.bptr 1 []), .fix (.bptr 2 []), .fix (.bptr 3 []), .fix (.bptr 4 []), .any, .own 0 (.int .i64), .own 1 (.int .i64), .dat (.int .i64), .any, .dat (.int .i64), .dat (.int .i64), .any, .any, .any, .any, .any, .any, .any, .any, .any, .any, .any, .any, .dat (.list (.int .i64)), .dat (.int .i64), .dat (.int .i64), .any, .any, .any, .any, .any, .any, .any, .any, .any, .any, .any, .any, .any, .any, .any, .any, .any, .any, .any, .any, .any, .any, .any, .any, .any, .any, .any, .any, .any, .any, .any, .any, .any, .any, .any, .any, .any, .any, .any, .any, .any, .any, .any, .any, .any, .any, .any, .any, .any, .any, .any, .any, .any, .any, .any, .any], [.ip T106, .dat (.int .i64), .dat (.int .i64), .dat (.int .i64), .cons (.dat (.int .i64)) (.cons (.dat (.int .i64)) (.nil))], 2⟩
abbrev TY18 : Type := (((List Int) × ((List Int) × (Int × (Int × (Int × ((List Int) × (Int × (Int × Unit)))))))) × (E106 × (Int × (Int × (Int × ((Int × (Int × Unit)) × Unit))))))
abbrev TY19 : Type := (Nat × (((List Int) × ((List Int) × (Int × (Int × (Int × ((List Int) × (Int × (Int × Unit)))))))) × (E106 × (Int × (Int × (Int × ((Int × (Int × Unit)) × Unit)))))))
noncomputable def G72_l1_step (s : TY18) : Option TY19 :=
  (bif (decide (s.1.2.2.2.2.1 ≤ s.1.2.2.2.1)) then
  (Option.bind (G73 s.2.1 s.1.2.2.1 (IntKind.wrap .i64 (s.2.2.2.2.1 + s.1.2.2.2.2.1))) fun r2 =>
    (bif (decide (List.length s.1.1 + List.length [r2.1] ≤ LIM)) then
      (bif (decide (List.length s.1.2.1 + List.length [r2.2.1] ≤ LIM)) then
        some (0, (((s.1.1 ++ [r2.1]), ((s.1.2.1 ++ [r2.2.1]), (s.1.2.2.1, (s.1.2.2.2.1, ((IntKind.wrap .i64 (s.1.2.2.2.2.1 + 1)), (s.1.2.2.2.2.2.1, (s.1.2.2.2.2.2.2.1, (s.1.2.2.2.2.2.2.2.1, ())))))))), (s.2.1, (s.2.2.1, (s.2.2.2.1, (s.2.2.2.2.1, (s.2.2.2.2.2.1, ())))))))
        else
        none)
      else
      none))
  else
  some (1, ((s.1.1, (s.1.2.1, (s.1.2.2.1, (s.1.2.2.2.1, (s.1.2.2.2.2.1, (s.1.2.2.2.2.2.1, (s.1.2.2.2.2.2.2.1, (s.1.2.2.2.2.2.2.2.1, ())))))))), (s.2.1, (s.2.2.1, (s.2.2.2.1, (s.2.2.2.2.1, (s.2.2.2.2.2.1, ()))))))))
noncomputable def G72_l1_fuel (s : TY18) : Nat := 100000
noncomputable def G72_l1_run (s : TY18) : Option TY19 := iter G72_l1_step (G72_l1_fuel s) s
noncomputable def G72_l1_L : LoopT := loopT G72_l1_S [.exit 2] G72_l1_run
noncomputable def G72_l0_S : SPat := ⟨[.any, .any, .any, .any, .fix (.bptr 0 []), .fix (.bptr 1 []), .fix (.bptr 2 []), .fix (.bptr 3 []), .fix (.bptr 4 []), .any, .own 0 (.int .i64), .own 1 (.int .i64), .any, .any, .any, .any, .any, .any, .any, .any, .any, .any, .any, .any, .any, .any, .any, .any, .dat (.list (.int .i64)), .dat (.int .i64), .dat (.int .i64), .any, .any, .any, .any, .any, .any, .any, .any, .any, .any, .any, .any, .any, .any, .any, .any, .any, .any, .any, .any, .any, .any, .any, .any, .any, .any, .any, .any, .any, .any, .any, .any, .any, .any, .any, .any, .any, .any, .any, .any, .any, .any, .any, .any, .any, .any, .any, .any, .any, .any, .any, .any, .any, .any, .any, .any], [.ip T106, .dat (.int .i64), .dat (.int .i64), .dat (.int .i64), .cons (.dat (.int .i64)) (.cons (.dat (.int .i64)) (.nil))], 2⟩
abbrev TY20 : Type := (((List Int) × ((List Int) × ((List Int) × (Int × (Int × Unit))))) × (E106 × (Int × (Int × (Int × ((Int × (Int × Unit)) × Unit))))))
abbrev TY21 : Type := (Nat × (((List Int) × ((List Int) × ((List Int) × (Int × (Int × Unit))))) × (E106 × (Int × (Int × (Int × ((Int × (Int × Unit)) × Unit)))))))
noncomputable def G72_l0_step (s : TY20) : Option TY21 :=
  (bif (decide (s.1.2.2.2.2.1 < s.1.2.2.2.1)) then
  (bif (decide (0 ≤ s.1.2.2.2.2.1) && decide (s.1.2.2.2.2.1 < (List.length s.1.2.2.1 : Int))) then
    (bif ((List.getD s.1.2.2.1 (Int.toNat s.1.2.2.2.2.1) 0) != s.2.2.1) then
      some (0, ((s.1.1, (s.1.2.1, (s.1.2.2.1, (s.1.2.2.2.1, ((IntKind.wrap .i64 (s.1.2.2.2.2.1 + 1)), ()))))), (s.2.1, (s.2.2.1, (s.2.2.2.1, (s.2.2.2.2.1, (s.2.2.2.2.2.1, ())))))))
      else
      (Option.bind (G71 s.2.2.2.1 s.1.2.2.2.2.1 s.2.1.1.2.1) fun r1 =>
        (Option.bind (G72_l1_run ((s.1.1, (s.1.2.1, (s.1.2.2.2.2.1, (r1, ((IntKind.wrap .i64 (0 - r1)), (s.1.2.2.1, (s.1.2.2.2.1, (s.1.2.2.2.2.1, ())))))))), (s.2.1, (s.2.2.1, (s.2.2.2.1, (s.2.2.2.2.1, (s.2.2.2.2.2.1, ()))))))) fun q3 =>
          some (0, ((q3.2.1.1, (q3.2.1.2.1, (q3.2.1.2.2.2.2.2.1, (q3.2.1.2.2.2.2.2.2.1, ((IntKind.wrap .i64 (q3.2.1.2.2.2.2.2.2.2.1 + 1)), ()))))), (q3.2.2.1, (q3.2.2.2.1, (q3.2.2.2.2.1, (q3.2.2.2.2.2.1, (q3.2.2.2.2.2.2.1, ()))))))))))
    else
    none)
  else
  some (1, ((s.1.1, (s.1.2.1, (s.1.2.2.1, (s.1.2.2.2.1, (s.1.2.2.2.2.1, ()))))), (s.2.1, (s.2.2.1, (s.2.2.2.1, (s.2.2.2.2.1, (s.2.2.2.2.2.1, ()))))))))
noncomputable def G72_l0_fuel (s : TY20) : Nat := Int.toNat (s.1.2.2.2.1 - s.1.2.2.2.2.1) + 1
noncomputable def G72_l0_run (s : TY20) : Option TY21 := iter G72_l0_step (G72_l0_fuel s) s
noncomputable def G72_l0_L : LoopT := loopT G72_l0_S [.exit 0] G72_l0_run
noncomputable def G72 (a0 : E106) (a1 : Int) (a2 : Int) (a3 : Int) : Option (E58 × (Bool × Unit)) :=
  (Option.bind (G72_l0_run (([2000], ([3200], (a0.1.2.2.2.2.1, ((List.length a0.1.2.2.2.2.1 : Int), (0, ()))))), (a0, (a1, (a2, (a3, ((0, (0, ())), ()))))))) fun q4 =>
  (Option.bind (G87 q4.2.1.1 q4.2.2.1 q4.2.2.2.1 q4.2.2.2.2.1 q4.2.2.2.2.2.1) fun r5 =>
    (Option.bind (G87_v1 q4.2.1.2.1 r5.2.1 r5.2.2.1 r5.2.2.2.1 r5.2.2.2.2.1) fun r6 =>
      some ((r5.1.1, (r6.1.1, ())), (r5.1.2.1, ())))))
noncomputable def G72_E : CEnt := viewE 72 [.ip T106, .dat (.int .i64), .dat (.int .i64), .dat (.int .i64)] (.tup (.cons (.dat T58) (.cons (.dat .bool) (.nil)))) fun x => G72 x.1 x.2.1 x.2.2.1 x.2.2.2.1
theorem G72_l1_V : LValid 0 Tryz.prog (.loop G72_l1_c) G72_l1_L false := by
  have hb : ∀ s, codeR Tryz.prog G72_C G72_l1_c [] (G72_l1_S.encE s) (G72_l1_S.encB s) (kst G72_l1_S [.exit 2]) = G72_l1_step s := by
    intro s; kernel_rfl
  have hL : LV 0 Tryz.prog false (loopsOf G72_l1_c) [] := by unfold LV; cases loopsOf G72_l1_c <;> trivial
  exact loopT_valid (fuel := G72_l1_fuel) mixed G72_CV hL (by kernel_rfl) (by decide) rfl hb (fun s r h => h)
theorem G72_l0_V : LValid 0 Tryz.prog (.loop G72_l0_c) G72_l0_L false := by
  have hb : ∀ s, codeR Tryz.prog G72_C G72_l0_c [G72_l1_L] (G72_l0_S.encE s) (G72_l0_S.encB s) (kst G72_l0_S [.exit 0]) = G72_l0_step s := by
    intro s; kernel_rfl
  have hl : loopsOf G72_l0_c = [.loop G72_l1_c] := by kernel_rfl
  have hL : LV 0 Tryz.prog false (loopsOf G72_l0_c) [G72_l1_L] := by rw [hl]; exact ⟨G72_l1_V, trivial⟩
  exact loopT_valid (fuel := G72_l0_fuel) mixed G72_CV hL (by kernel_rfl) (by decide) rfl hb (fun s r h => h)
theorem G72_LV : LV 0 Tryz.prog false (loopsOf (bodyOf Tryz.f72)) [G72_l0_L] := by
  have hl : loopsOf (bodyOf Tryz.f72) = [.loop G72_l0_c] := by kernel_rfl
  rw [hl]; exact ⟨G72_l0_V, trivial⟩
theorem G72_ent : Ent Tryz.prog 72 := ⟨by decide, enters_of Tryz.func72 (by kernel_rfl) rfl⟩
theorem G72_hev : ∀ x, fnR Tryz.prog G72_C [G72_l0_L] Tryz.f72 (bodyOf Tryz.f72) (encs [.ip T106, .dat (.int .i64), .dat (.int .i64), .dat (.int .i64)] x) ⟨[], [], 0⟩ (frzF (.tup (.cons (.dat T58) (.cons (.dat .bool) (.nil))))) = G72 x.1 x.2.1 x.2.2.1 x.2.2.2.1 := by
  intro x; kernel_rfl
theorem G72_valid : G72_E.Valid Tryz.prog :=
  viewE_valid (by kernel_rfl) (by kernel_rfl) G72_ent (frz_lcall mixed Tryz.func72 rfl G72_ent G72_CV G72_LV (by kernel_rfl) (by kernel_rfl) G72_hev)
noncomputable def G43_C : CalT := tabC [G70_E, G71_E, G51_E, G72_E]
theorem G43_CV : CV Tryz.prog G43_C := tabC_valid (l := _) ⟨G70_valid, G71_valid, G51_valid, G72_valid, trivial⟩
noncomputable def G43_l0_c : Code := loopAt (bodyOf Tryz.f43) 0
noncomputable def G43_l0_S : SPat := ⟨[.fix (.bptr 0 []), .dat (.int .i64), .dat (.int .i64), .any, .any, .any, .fix (.bptr 2 []), .fix (.bptr 3 []), .any, .any, .fix (.bptr 5 []), .dat (.int .i64), .any, .any, .any, .any, .any, .any, .any, .any, .any, .any, .any, .any, .any, .any, .any, .any, .any, .any, .any, .any, .any, .any, .any, .any, .any, .any, .any, .any, .any, .any, .any, .any, .any, .any, .any, .any, .dat (.int .i64), .any, .any, .any, .any, .any, .any, .any, .any, .any, .any, .any, .any, .any, .any, .any, .any, .any, .any, .any, .any, .any, .any, .any, .any, .any, .any, .any, .any, .any, .any, .any, .any, .any, .any, .any], [.cons (.dat T23) (.cons (.dat (.list T71)) (.cons (.fix (.mref 1)) (.nil))), .map T58 T91, .dat T91, .cons (.dat (.int .i64)) (.cons (.dat (.int .i64)) (.nil)), .dat T91, .dat T91], 0⟩
abbrev TY22 : Type := ((Int × (Int × (Int × (Int × Unit)))) × ((E23 × ((List E71) × (Unit × Unit))) × ((List (E58 × E91)) × (E91 × ((Int × (Int × Unit)) × (E91 × (E91 × Unit)))))))
abbrev TY23 : Type := (Nat × ((Int × (Int × (Int × (Int × Unit)))) × ((E23 × ((List E71) × (Unit × Unit))) × ((List (E58 × E91)) × (E91 × ((Int × (Int × Unit)) × (E91 × (E91 × Unit))))))))
noncomputable def G43_l0_step (s : TY22) : Option TY23 :=
  (bif (decide (s.1.2.2.2.1 < 41)) then
  (bif (decide (0 ≤ s.1.2.2.2.1) && decide (s.1.2.2.2.1 < (41 : Int))) then
    (Option.bind (G51 (IntKind.wrap .i64 (s.1.2.2.2.1 - 20)) (IntKind.wrap .i64 (0 - s.1.2.2.1)) s.1.2.2.1) fun r3 =>
      (bif r3 then
        (Option.bind (G72 (s.2.1.1, (s.2.1.2.1, ((), s.2.1.2.2.2))) s.1.1 s.1.2.1 (IntKind.wrap .i64 (s.1.2.2.2.1 - 20))) fun r4 =>
          (bif r4.2.1 then
            (bif (decide (0 ≤ s.1.2.2.2.1) && decide (s.1.2.2.2.1 < (41 : Int))) then
              some (0, ((s.1.1, (s.1.2.1, (s.1.2.2.1, ((IntKind.wrap .i64 (s.1.2.2.2.1 + 1)), ())))), ((s.2.1.1, (s.2.1.2.1, ((), s.2.1.2.2.2))), (s.2.2.1, (s.2.2.2.1, (s.2.2.2.2.1, (s.2.2.2.2.2.1, (((List.set (List.set s.2.2.2.2.2.2.1.1 (Int.toNat s.1.2.2.2.1) ((-1), ((-1), ()))) (Int.toNat s.1.2.2.2.1) r4.1), (true, s.2.2.2.2.2.2.1.2.2)), ()))))))))
              else
              none)
            else
            some (0, ((s.1.1, (s.1.2.1, (s.1.2.2.1, ((IntKind.wrap .i64 (s.1.2.2.2.1 + 1)), ())))), ((s.2.1.1, (s.2.1.2.1, ((), s.2.1.2.2.2))), (s.2.2.1, (s.2.2.2.1, (s.2.2.2.2.1, (s.2.2.2.2.2.1, (((List.set s.2.2.2.2.2.2.1.1 (Int.toNat s.1.2.2.2.1) ((-1), ((-1), ()))), s.2.2.2.2.2.2.1.2), ()))))))))))
        else
        some (0, ((s.1.1, (s.1.2.1, (s.1.2.2.1, ((IntKind.wrap .i64 (s.1.2.2.2.1 + 1)), ())))), ((s.2.1.1, (s.2.1.2.1, ((), s.2.1.2.2.2))), (s.2.2.1, (s.2.2.2.1, (s.2.2.2.2.1, (s.2.2.2.2.2.1, (((List.set s.2.2.2.2.2.2.1.1 (Int.toNat s.1.2.2.2.1) ((-1), ((-1), ()))), s.2.2.2.2.2.2.1.2), ()))))))))))
    else
    none)
  else
  some (1, ((s.1.1, (s.1.2.1, (s.1.2.2.1, (s.1.2.2.2.1, ())))), ((s.2.1.1, (s.2.1.2.1, ((), s.2.1.2.2.2))), (s.2.2.1, (s.2.2.2.1, (s.2.2.2.2.1, (s.2.2.2.2.2.1, (s.2.2.2.2.2.2.1, ())))))))))
noncomputable def G43_l0_fuel (s : TY22) : Nat := Int.toNat (41 - s.1.2.2.2.1) + 1
noncomputable def G43_l0_run (s : TY22) : Option TY23 := iter G43_l0_step (G43_l0_fuel s) s
noncomputable def G43_l0_L : LoopT := loopT G43_l0_S [.exit 0] G43_l0_run
abbrev TY24 : Type := (E91 × ((E23 × ((List E71) × (Unit × Unit))) × ((List (E58 × E91)) × Unit)))
noncomputable def G43 (a0 : Int) (a1 : Int) (b2 : (E23 × ((List E71) × (Unit × Unit)))) (b3 : (List (E58 × E91))) : Option TY24 :=
  (Option.bind (G70 (b2.1, (b2.2.1, ((), b2.2.2.2))) a0 a1) fun r1 =>
  (bif (Option.isSome (findD T58 (a0, (r1, ())) b3)) then
    some ((Option.getD (findD T58 (a0, (r1, ())) b3) (((0, (0, ())) :: ((0, (0, ())) :: ((0, (0, ())) :: ((0, (0, ())) :: ((0, (0, ())) :: ((0, (0, ())) :: ((0, (0, ())) :: ((0, (0, ())) :: ((0, (0, ())) :: ((0, (0, ())) :: ((0, (0, ())) :: ((0, (0, ())) :: ((0, (0, ())) :: ((0, (0, ())) :: ((0, (0, ())) :: ((0, (0, ())) :: ((0, (0, ())) :: ((0, (0, ())) :: ((0, (0, ())) :: ((0, (0, ())) :: ((0, (0, ())) :: ((0, (0, ())) :: ((0, (0, ())) :: ((0, (0, ())) :: ((0, (0, ())) :: ((0, (0, ())) :: ((0, (0, ())) :: ((0, (0, ())) :: ((0, (0, ())) :: ((0, (0, ())) :: ((0, (0, ())) :: ((0, (0, ())) :: ((0, (0, ())) :: ((0, (0, ())) :: ((0, (0, ())) :: ((0, (0, ())) :: ((0, (0, ())) :: ((0, (0, ())) :: ((0, (0, ())) :: ((0, (0, ())) :: ((0, (0, ())) :: []))))))))))))))))))))))))))))))))))))))))), (false, ()))), ((b2.1, (b2.2.1, ((), b2.2.2.2))), (b3, ())))
    else
    (Option.bind (G71 a1 (IntKind.wrap .i64 ((List.length b2.1.2.2.2.2.1 : Int) + a0)) b2.1.2.2.1) fun r2 =>
      (Option.bind (G43_l0_run ((a0, (a1, (r2, (0, ())))), ((b2.1, (b2.2.1, ((), b2.2.2.2))), (b3, ((((0, (0, ())) :: ((0, (0, ())) :: ((0, (0, ())) :: ((0, (0, ())) :: ((0, (0, ())) :: ((0, (0, ())) :: ((0, (0, ())) :: ((0, (0, ())) :: ((0, (0, ())) :: ((0, (0, ())) :: ((0, (0, ())) :: ((0, (0, ())) :: ((0, (0, ())) :: ((0, (0, ())) :: ((0, (0, ())) :: ((0, (0, ())) :: ((0, (0, ())) :: ((0, (0, ())) :: ((0, (0, ())) :: ((0, (0, ())) :: ((0, (0, ())) :: ((0, (0, ())) :: ((0, (0, ())) :: ((0, (0, ())) :: ((0, (0, ())) :: ((0, (0, ())) :: ((0, (0, ())) :: ((0, (0, ())) :: ((0, (0, ())) :: ((0, (0, ())) :: ((0, (0, ())) :: ((0, (0, ())) :: ((0, (0, ())) :: ((0, (0, ())) :: ((0, (0, ())) :: ((0, (0, ())) :: ((0, (0, ())) :: ((0, (0, ())) :: ((0, (0, ())) :: ((0, (0, ())) :: ((0, (0, ())) :: []))))))))))))))))))))))))))))))))))))))))), (false, ())), ((a0, (r1, ())), ((Option.getD (findD T58 (a0, (r1, ())) b3) (((0, (0, ())) :: ((0, (0, ())) :: ((0, (0, ())) :: ((0, (0, ())) :: ((0, (0, ())) :: ((0, (0, ())) :: ((0, (0, ())) :: ((0, (0, ())) :: ((0, (0, ())) :: ((0, (0, ())) :: ((0, (0, ())) :: ((0, (0, ())) :: ((0, (0, ())) :: ((0, (0, ())) :: ((0, (0, ())) :: ((0, (0, ())) :: ((0, (0, ())) :: ((0, (0, ())) :: ((0, (0, ())) :: ((0, (0, ())) :: ((0, (0, ())) :: ((0, (0, ())) :: ((0, (0, ())) :: ((0, (0, ())) :: ((0, (0, ())) :: ((0, (0, ())) :: ((0, (0, ())) :: ((0, (0, ())) :: ((0, (0, ())) :: ((0, (0, ())) :: ((0, (0, ())) :: ((0, (0, ())) :: ((0, (0, ())) :: ((0, (0, ())) :: ((0, (0, ())) :: ((0, (0, ())) :: ((0, (0, ())) :: ((0, (0, ())) :: ((0, (0, ())) :: ((0, (0, ())) :: ((0, (0, ())) :: []))))))))))))))))))))))))))))))))))))))))), (false, ()))), ((((0, (0, ())) :: ((0, (0, ())) :: ((0, (0, ())) :: ((0, (0, ())) :: ((0, (0, ())) :: ((0, (0, ())) :: ((0, (0, ())) :: ((0, (0, ())) :: ((0, (0, ())) :: ((0, (0, ())) :: ((0, (0, ())) :: ((0, (0, ())) :: ((0, (0, ())) :: ((0, (0, ())) :: ((0, (0, ())) :: ((0, (0, ())) :: ((0, (0, ())) :: ((0, (0, ())) :: ((0, (0, ())) :: ((0, (0, ())) :: ((0, (0, ())) :: ((0, (0, ())) :: ((0, (0, ())) :: ((0, (0, ())) :: ((0, (0, ())) :: ((0, (0, ())) :: ((0, (0, ())) :: ((0, (0, ())) :: ((0, (0, ())) :: ((0, (0, ())) :: ((0, (0, ())) :: ((0, (0, ())) :: ((0, (0, ())) :: ((0, (0, ())) :: ((0, (0, ())) :: ((0, (0, ())) :: ((0, (0, ())) :: ((0, (0, ())) :: ((0, (0, ())) :: ((0, (0, ())) :: ((0, (0, ())) :: []))))))))))))))))))))))))))))))))))))))))), (false, ())), ())))))))) fun q5 =>
        some (q5.2.2.2.2.2.2.2.1, ((q5.2.2.1.1, (q5.2.2.1.2.1, ((), q5.2.2.1.2.2.2))), ((putD T58 q5.2.2.2.2.2.1 q5.2.2.2.2.2.2.2.1 q5.2.2.2.1), ())))))))
abbrev G43_CS : CSpec := ⟨[.fix (.bptr 0 []), .dat (.int .i64), .dat (.int .i64)], [.cons (.dat T23) (.cons (.dat (.list T71)) (.cons (.fix (.mref 1)) (.nil))), .map T58 T91], 0, [.cons (.dat T23) (.cons (.dat (.list T71)) (.cons (.fix (.mref 1)) (.nil))), .map T58 T91], 0, .dat T91⟩
noncomputable def G43_E : CEnt := boxE 43 G43_CS fun x => G43 x.1.1 x.1.2.1 x.2.1 x.2.2.1
theorem G43_l0_V : LValid 2 Tryz.prog (.loop G43_l0_c) G43_l0_L false := by
  have hb : ∀ s, codeR Tryz.prog G43_C G43_l0_c [] (G43_l0_S.encE s) (G43_l0_S.encB s) (kst G43_l0_S [.exit 0]) = G43_l0_step s := by
    intro s; kernel_rfl
  have hL : LV 2 Tryz.prog false (loopsOf G43_l0_c) [] := by unfold LV; cases loopsOf G43_l0_c <;> trivial
  exact loopT_valid (fuel := G43_l0_fuel) mixed G43_CV hL (by kernel_rfl) (by decide) rfl hb (fun s r h => h)
theorem G43_LV : LV 2 Tryz.prog false (loopsOf (bodyOf Tryz.f43)) [G43_l0_L] := by
  have hl : loopsOf (bodyOf Tryz.f43) = [.loop G43_l0_c] := by kernel_rfl
  rw [hl]; exact ⟨G43_l0_V, trivial⟩
theorem G43_ent : Ent Tryz.prog 43 := ⟨by decide, enters_of Tryz.func43 (by kernel_rfl) rfl⟩
theorem G43_hev : ∀ x : G43_CS.In, fnR Tryz.prog G43_C [G43_l0_L] Tryz.f43 (bodyOf Tryz.f43) (encs G43_CS.A x.1) ⟨encs G43_CS.I x.2, [], G43_CS.nt⟩ (finK G43_CS) = G43 x.1.1 x.1.2.1 x.2.1 x.2.2.1 := by
  intro x; kernel_rfl
theorem G43_valid : G43_E.Valid Tryz.prog :=
  boxE_valid (S := G43_CS) (by kernel_rfl) (.inr G43_ent) (fn_lcall (S := G43_CS) mixed Tryz.func43 rfl G43_ent G43_CV G43_LV (by kernel_rfl) (by kernel_rfl) G43_hev)
end Go.Proofs.YtibmgbalfhfcdaaGreatDoor.Abs
set_option linter.unusedVariables false
set_option maxRecDepth 100000
namespace Go.Proofs.YtibmgbalfhfcdaaGreatDoor.Abs
open Go.Shelf Go.Sort
noncomputable def G41_C : CalT := tabC [G43_E]
theorem G41_CV : CV Tryz.prog G41_C := tabC_valid (l := _) ⟨G43_valid, trivial⟩
noncomputable def G41_l0_c : Code := loopAt (bodyOf Tryz.f41) 0
noncomputable def G41_l0_S : SPat := ⟨[.fix (.bptr 0 []), .dat (.int .i64), .any, .any, .dat .bool, .any, .any, .any, .any, .any, .dat (.int .i64), .dat (.int .i64), .any, .any, .any, .any, .any, .any, .any, .any, .any], [.cons (.dat T23) (.cons (.dat (.list T71)) (.cons (.fix (.mref 1)) (.nil))), .map T58 T91], 0⟩
abbrev TY25 : Type := ((Int × (Bool × (Int × (Int × Unit)))) × ((E23 × ((List E71) × (Unit × Unit))) × ((List (E58 × E91)) × Unit)))
abbrev TY26 : Type := (Nat × ((Int × (Bool × (Int × (Int × Unit)))) × ((E23 × ((List E71) × (Unit × Unit))) × ((List (E58 × E91)) × Unit))))
noncomputable def G41_l0_step (s : TY25) : Option TY26 :=
  (bif (decide (s.1.2.2.2.1 < s.1.2.2.1)) then
  (Option.bind (G43 s.1.2.2.2.1 s.1.1 (s.2.1.1, (s.2.1.2.1, ((), s.2.1.2.2.2))) s.2.2.1) fun r1 =>
    (bif (!r1.1.2.1) then
      some (1, ((s.1.1, (false, (s.1.2.2.1, (s.1.2.2.2.1, ())))), ((r1.2.1.1, (r1.2.1.2.1, ((), r1.2.1.2.2.2))), (r1.2.2.1, ()))))
      else
      some (0, ((s.1.1, (s.1.2.1, (s.1.2.2.1, ((IntKind.wrap .i64 (s.1.2.2.2.1 + 1)), ())))), ((r1.2.1.1, (r1.2.1.2.1, ((), r1.2.1.2.2.2))), (r1.2.2.1, ()))))))
  else
  some (2, ((s.1.1, (s.1.2.1, (s.1.2.2.1, (s.1.2.2.2.1, ())))), ((s.2.1.1, (s.2.1.2.1, ((), s.2.1.2.2.2))), (s.2.2.1, ())))))
noncomputable def G41_l0_fuel (s : TY25) : Nat := Int.toNat (s.1.2.2.1 - s.1.2.2.2.1) + 1
noncomputable def G41_l0_run (s : TY25) : Option TY26 := iter G41_l0_step (G41_l0_fuel s) s
noncomputable def G41_l0_L : LoopT := loopT G41_l0_S [.ret, .exit 0] G41_l0_run
noncomputable def G41 (a0 : Int) (b1 : (E23 × ((List E71) × (Unit × Unit)))) (b2 : (List (E58 × E91))) : Option (Bool × ((E23 × ((List E71) × (Unit × Unit))) × ((List (E58 × E91)) × Unit))) :=
  (Option.bind (G41_l0_run ((a0, (false, (b1.1.2.2.2.1, (0, ())))), ((b1.1, (b1.2.1, ((), b1.2.2.2))), (b2, ())))) fun q2 =>
  (natK q2.1
    (some (q2.2.1.2.1, ((q2.2.2.1.1, (q2.2.2.1.2.1, ((), q2.2.2.1.2.2.2))), (q2.2.2.2.1, ()))))
    (fun _ => some (true, ((q2.2.2.1.1, (q2.2.2.1.2.1, ((), q2.2.2.1.2.2.2))), (q2.2.2.2.1, ()))))))
abbrev G41_CS : CSpec := ⟨[.fix (.bptr 0 []), .dat (.int .i64)], [.cons (.dat T23) (.cons (.dat (.list T71)) (.cons (.fix (.mref 1)) (.nil))), .map T58 T91], 0, [.cons (.dat T23) (.cons (.dat (.list T71)) (.cons (.fix (.mref 1)) (.nil))), .map T58 T91], 0, .dat .bool⟩
noncomputable def G41_E : CEnt := boxE 41 G41_CS fun x => G41 x.1.1 x.2.1 x.2.2.1
theorem G41_l0_V : LValid 2 Tryz.prog (.loop G41_l0_c) G41_l0_L false := by
  have hb : ∀ s, codeR Tryz.prog G41_C G41_l0_c [] (G41_l0_S.encE s) (G41_l0_S.encB s) (kst G41_l0_S [.ret, .exit 0]) = G41_l0_step s := by
    intro s; kernel_rfl
  have hL : LV 2 Tryz.prog false (loopsOf G41_l0_c) [] := by unfold LV; cases loopsOf G41_l0_c <;> trivial
  exact loopT_valid (fuel := G41_l0_fuel) mixed G41_CV hL (by kernel_rfl) (by decide) rfl hb (fun s r h => h)
theorem G41_LV : LV 2 Tryz.prog false (loopsOf (bodyOf Tryz.f41)) [G41_l0_L] := by
  have hl : loopsOf (bodyOf Tryz.f41) = [.loop G41_l0_c] := by kernel_rfl
  rw [hl]; exact ⟨G41_l0_V, trivial⟩
theorem G41_ent : Ent Tryz.prog 41 := ⟨by decide, enters_of Tryz.func41 (by kernel_rfl) rfl⟩
theorem G41_hev : ∀ x : G41_CS.In, fnR Tryz.prog G41_C [G41_l0_L] Tryz.f41 (bodyOf Tryz.f41) (encs G41_CS.A x.1) ⟨encs G41_CS.I x.2, [], G41_CS.nt⟩ (finK G41_CS) = G41 x.1.1 x.2.1 x.2.2.1 := by
  intro x; kernel_rfl
theorem G41_valid : G41_E.Valid Tryz.prog :=
  boxE_valid (S := G41_CS) (by kernel_rfl) (.inr G41_ent) (fn_lcall (S := G41_CS) mixed Tryz.func41 rfl G41_ent G41_CV G41_LV (by kernel_rfl) (by kernel_rfl) G41_hev)
noncomputable def G15_C : CalT := tabC [G26_E, G40_v1_E, G40_E, G41_E]
theorem G15_CV : CV Tryz.prog G15_C := tabC_valid (l := _) ⟨G26_valid, G40_v1_valid, G40_valid, G41_valid, trivial⟩
noncomputable def G15 (a0 : E23) (a1 : (List E71)) (a2 : E46) : Option (Bool × (Int × Unit)) :=
  (Option.bind (G26 a0 a1 a2) fun r1 =>
  (altK r1
    (fun r2 => (bif (r2.1.2.1 != 0) then
      some (false, (r2.1.2.1, ()))
      else
      (Option.bind (G40_v1 r2.2.1) fun r4 =>
        none)))
    (fun r3 => (bif (r3.1.2.1 != 0) then
      some (false, (r3.1.2.1, ()))
      else
      (Option.bind (G40 (r3.2.2.2.2.1.1, (r3.2.2.2.2.1.2.1, ((), r3.2.2.2.2.1.2.2.2))) r3.2.1) fun r5 =>
        (Option.bind (G41 r5.1 (r3.2.2.2.2.1.1, (r3.2.2.2.2.1.2.1, ((), r3.2.2.2.2.1.2.2.2))) r3.2.2.2.1) fun r6 =>
          some (r6.1, (0, ()))))))))
noncomputable def G15_E : CEnt := pureE 15 [.dat T23, .dat (.list T71), .dat T46] (.tup (.cons (.dat .bool) (.cons (.dat (.int .i64)) (.nil)))) fun x => G15 x.1 x.2.1 x.2.2.1
theorem G15_LV : LV 0 Tryz.prog false (loopsOf (bodyOf Tryz.f15)) [] := by unfold LV; cases loopsOf (bodyOf Tryz.f15) <;> trivial
theorem G15_ent : Ent Tryz.prog 15 := ⟨by decide, enters_of Tryz.func15 (by kernel_rfl) rfl⟩
theorem G15_hev : ∀ x, fnR Tryz.prog G15_C [] Tryz.f15 (bodyOf Tryz.f15) (encs [.dat T23, .dat (.list T71), .dat T46] x) ⟨[], [], 0⟩ (frzF (.tup (.cons (.dat .bool) (.cons (.dat (.int .i64)) (.nil))))) = G15 x.1 x.2.1 x.2.2.1 := by
  intro x; kernel_rfl
theorem G15_valid : G15_E.Valid Tryz.prog :=
  pureE_valid (by kernel_rfl) (by kernel_rfl) G15_ent (frz_lcall mixed Tryz.func15 rfl G15_ent G15_CV G15_LV (by kernel_rfl) (by kernel_rfl) G15_hev)
noncomputable def G42_C : CalT := tabC [G40_E]
theorem G42_CV : CV Tryz.prog G42_C := tabC_valid (l := _) ⟨G40_valid, trivial⟩
noncomputable def G42 (b0 : (E23 × ((List E71) × (Unit × Unit)))) (b1 : E46) (b2 : (List (E58 × E91))) : Option (Bool × ((E23 × ((List E71) × (Unit × Unit))) × (E46 × ((List (E58 × E91)) × Unit)))) :=
  (Option.bind (G40 (b0.1, (b0.2.1, ((), b0.2.2.2))) b1) fun r1 =>
  some (r1.2.1, ((b0.1, (b0.2.1, ((), b0.2.2.2))), (b1, (b2, ())))))
abbrev G42_CS : CSpec := ⟨[.fix (.bptr 0 []), .fix (.bptr 1 [])], [.cons (.dat T23) (.cons (.dat (.list T71)) (.cons (.fix (.mref 2)) (.nil))), .dat T46, .map T58 T91], 0, [.cons (.dat T23) (.cons (.dat (.list T71)) (.cons (.fix (.mref 2)) (.nil))), .dat T46, .map T58 T91], 0, .dat .bool⟩
noncomputable def G42_E : CEnt := boxE 42 G42_CS fun x => G42 x.2.1 x.2.2.1 x.2.2.2.1
theorem G42_LV : LV 3 Tryz.prog false (loopsOf (bodyOf Tryz.f42)) [] := by unfold LV; cases loopsOf (bodyOf Tryz.f42) <;> trivial
theorem G42_ent : Ent Tryz.prog 42 := ⟨by decide, enters_of Tryz.func42 (by kernel_rfl) rfl⟩
theorem G42_hev : ∀ x : G42_CS.In, fnR Tryz.prog G42_C [] Tryz.f42 (bodyOf Tryz.f42) (encs G42_CS.A x.1) ⟨encs G42_CS.I x.2, [], G42_CS.nt⟩ (finK G42_CS) = G42 x.2.1 x.2.2.1 x.2.2.2.1 := by
  intro x; kernel_rfl
theorem G42_valid : G42_E.Valid Tryz.prog :=
  boxE_valid (S := G42_CS) (by kernel_rfl) (.inr G42_ent) (fn_lcall (S := G42_CS) mixed Tryz.func42 rfl G42_ent G42_CV G42_LV (by kernel_rfl) (by kernel_rfl) G42_hev)
noncomputable def G26_v1_C : CalT := tabC [G57_E, G58_E, G42_E]
theorem G26_v1_CV : CV Tryz.prog G26_v1_C := tabC_valid (l := _) ⟨G57_valid, G58_valid, G42_valid, trivial⟩
noncomputable def G26_v1 (a0 : E23) (a1 : (List E71)) (b2 : E46) : Option (((Unit × (Int × Unit)) × (E46 × Unit)) ⊕ ((Unit × (Int × Unit)) × TY4)) :=
  (bif (decide ((List.length a1 : Int) > 24)) then
  some (Sum.inl (((), (3, ())), (b2, ())))
  else
  (Option.bind (G57 a0) fun r1 =>
    (bif (!r1) then
      some (Sum.inl (((), (2, ())), (b2, ())))
      else
      (Option.bind (G58 a1 a0) fun r2 =>
        (bif r2.1 then
          some (Sum.inl (((), (2, ())), (b2, ())))
          else
          (Option.bind (G42 (a0, (a1, ((), ()))) b2 ([] : List (E58 × E91))) fun r3 =>
            (bif (!r3.1) then
              some (Sum.inl (((), (2, ())), (r3.2.2.1, ())))
              else
              some (Sum.inr (((), (0, ())), (r3.2.2.1, (r2.2.1, (r3.2.2.2.1, ((r3.2.1.1, (r3.2.1.2.1, ((), r3.2.1.2.2.2))), ())))))))))))))
abbrev G26_v1_CS : CSpec := ⟨[.dat T23, .dat (.list T71), .fix (.func (.func 42) .nil (.cons (.bptr 0 []) .nil))], [.dat T46], 0, [.dat T46], 0, .tup (.cons (.fix .pnil) (.cons (.dat (.int .i64)) (.nil)))⟩
abbrev G26_v1_O2 : List PTy := [.dat T46, .dat T23, .map T58 T91, .cons (.dat T23) (.cons (.dat (.list T71)) (.cons (.fix (.mref 2)) (.nil)))]
abbrev G26_v1_R2 : PTy := .tup (.cons (.fix (.bptr 3 [])) (.cons (.dat (.int .i64)) (.nil)))
noncomputable def G26_v1_E : CEnt := altE 26 G26_v1_CS G26_v1_O2 0 G26_v1_R2 fun x => G26_v1 x.1.1 x.1.2.1 x.2.1
theorem G26_v1_LV : LV 1 Tryz.prog false (loopsOf (bodyOf Tryz.f26)) [] := by unfold LV; cases loopsOf (bodyOf Tryz.f26) <;> trivial
theorem G26_v1_ent : Ent Tryz.prog 26 := ⟨by decide, enters_of Tryz.func26 (by kernel_rfl) rfl⟩
theorem G26_v1_hev : ∀ x : G26_v1_CS.In, fnR Tryz.prog G26_v1_C [] Tryz.f26 (bodyOf Tryz.f26) (encs G26_v1_CS.A x.1) ⟨encs G26_v1_CS.I x.2, [], G26_v1_CS.nt⟩ (finK2 G26_v1_CS G26_v1_O2 0 G26_v1_R2) = G26_v1 x.1.1 x.1.2.1 x.2.1 := by
  intro x; kernel_rfl
theorem G26_v1_valid : G26_v1_E.Valid Tryz.prog :=
  altE_valid (S := G26_v1_CS) (by kernel_rfl) (by kernel_rfl) (.inr G26_v1_ent) (alt_lcall (S := G26_v1_CS) mixed Tryz.func26 rfl G26_v1_ent G26_v1_CV G26_v1_LV (by kernel_rfl) (by kernel_rfl) (by kernel_rfl) (by kernel_rfl) G26_v1_hev)
noncomputable def G18_C : CalT := tabC [G26_v1_E, G40_v1_E, G40_E, G41_E, G43_E, G44_E]
theorem G18_CV : CV Tryz.prog G18_C := tabC_valid (l := _) ⟨G26_v1_valid, G40_v1_valid, G40_valid, G41_valid, G43_valid, G44_valid, trivial⟩
noncomputable def G18_l0_c : Code := loopAt (bodyOf Tryz.f18) 0
noncomputable def G18_l1_c : Code := loopAt G18_l0_c 0
noncomputable def G18_l2_c : Code := loopAt G18_l0_c 1
noncomputable def G18_l3_c : Code := loopAt G18_l0_c 2
noncomputable def G18_l1_S : SPat := ⟨[.any, .any, .any, .fix (.bptr 0 []), .any, .any, .fix (.bptr 2 []), .any, .fix (.bptr 5 []), .any, .dat (.int .i64), .any, .fix (.bptr 7 []), .dat (.int .i64), .fix (.bptr 8 []), .dat (.int .i64), .dat (.int .i64), .any, .any, .any, .any, .any, .any, .any, .any, .any, .any, .any, .any, .any, .any, .any, .any, .any, .any, .any, .any, .any, .any, .any, .any, .any, .any, .any, .any, .any, .any, .any, .any, .any, .any, .dat (.int .i64), .dat (.int .i64), .any, .any, .any, .any, .any, .any, .any, .dat (.arr 41 T58), .dat (.int .i64), .any, .any, .any, .any, .any, .any, .any, .any, .any, .any, .any, .any, .any, .any, .any, .any, .any, .any, .any, .any, .any, .any, .any, .any, .any, .any, .any, .any, .any, .any, .any, .any, .any, .any, .any, .any, .any, .any, .any, .any, .any, .any, .any, .any, .any, .any, .any, .any, .any, .any, .any, .any, .any, .any, .any, .any, .any, .any, .any, .any, .any, .any], [.dat T23, .dat T46, .cons (.own 0 (.int .i64)) (.cons (.own 1 (.int .i64)) (.cons (.own 2 (.int .i64)) (.nil))), .dat T23, .map T58 T91, .cons (.dat T23) (.cons (.dat (.list T71)) (.cons (.fix (.mref 4)) (.nil))), .vrow 3 (.int .i64), .cons (.own 4 (.int .i64)) (.cons (.own 5 (.int .i64)) (.cons (.vec 3 6 (.int .i64)) (.nil))), .dat T91], 6⟩
abbrev TY27 : Type := ((Int × (Int × (Int × (Int × (Int × (Int × ((List E58) × (Int × Unit)))))))) × (E23 × (E46 × (((List Int) × ((List Int) × ((List Int) × Unit))) × (E23 × ((List (E58 × E91)) × ((E23 × ((List E71) × (Unit × Unit))) × ((List Int) × (((List Int) × ((List Int) × (Nat × Unit))) × (E91 × Unit))))))))))
abbrev TY28 : Type := (Nat × ((Int × (Int × (Int × (Int × (Int × (Int × ((List E58) × (Int × Unit)))))))) × (E23 × (E46 × (((List Int) × ((List Int) × ((List Int) × Unit))) × (E23 × ((List (E58 × E91)) × ((E23 × ((List E71) × (Unit × Unit))) × ((List Int) × (((List Int) × ((List Int) × (Nat × Unit))) × (E91 × Unit)))))))))))
noncomputable def G18_l1_step (s : TY27) : Option TY28 :=
  (bif (decide (s.1.2.2.2.2.2.2.2.1 < 41)) then
  (bif (decide (0 ≤ s.1.2.2.2.2.2.2.2.1) && decide (s.1.2.2.2.2.2.2.2.1 < (41 : Int))) then
    (bif (decide ((List.getD s.1.2.2.2.2.2.2.1 (Int.toNat s.1.2.2.2.2.2.2.2.1) (0, (0, ()))).1 ≥ 0)) then
      some (0, ((s.1.1, (s.1.2.1, ((if (List.getD s.1.2.2.2.2.2.2.1 (Int.toNat s.1.2.2.2.2.2.2.2.1) (0, (0, ()))).1 < s.1.2.2.1 then (List.getD s.1.2.2.2.2.2.2.1 (Int.toNat s.1.2.2.2.2.2.2.2.1) (0, (0, ()))).1 else s.1.2.2.1), (s.1.2.2.2.1, (s.1.2.2.2.2.1, (s.1.2.2.2.2.2.1, (s.1.2.2.2.2.2.2.1, ((IntKind.wrap .i64 (s.1.2.2.2.2.2.2.2.1 + 1)), ())))))))), (s.2.1, (s.2.2.1, (s.2.2.2.1, (s.2.2.2.2.1, (s.2.2.2.2.2.1, ((s.2.2.2.2.2.2.1.1, (s.2.2.2.2.2.2.1.2.1, ((), s.2.2.2.2.2.2.1.2.2.2))), (s.2.2.2.2.2.2.2.1, (s.2.2.2.2.2.2.2.2.1, (s.2.2.2.2.2.2.2.2.2.1, ())))))))))))
      else
      some (0, ((s.1.1, (s.1.2.1, (s.1.2.2.1, (s.1.2.2.2.1, (s.1.2.2.2.2.1, (s.1.2.2.2.2.2.1, (s.1.2.2.2.2.2.2.1, ((IntKind.wrap .i64 (s.1.2.2.2.2.2.2.2.1 + 1)), ())))))))), (s.2.1, (s.2.2.1, (s.2.2.2.1, (s.2.2.2.2.1, (s.2.2.2.2.2.1, ((s.2.2.2.2.2.2.1.1, (s.2.2.2.2.2.2.1.2.1, ((), s.2.2.2.2.2.2.1.2.2.2))), (s.2.2.2.2.2.2.2.1, (s.2.2.2.2.2.2.2.2.1, (s.2.2.2.2.2.2.2.2.2.1, ()))))))))))))
    else
    none)
  else
  some (1, ((s.1.1, (s.1.2.1, (s.1.2.2.1, (s.1.2.2.2.1, (s.1.2.2.2.2.1, (s.1.2.2.2.2.2.1, (s.1.2.2.2.2.2.2.1, (s.1.2.2.2.2.2.2.2.1, ())))))))), (s.2.1, (s.2.2.1, (s.2.2.2.1, (s.2.2.2.2.1, (s.2.2.2.2.2.1, ((s.2.2.2.2.2.2.1.1, (s.2.2.2.2.2.2.1.2.1, ((), s.2.2.2.2.2.2.1.2.2.2))), (s.2.2.2.2.2.2.2.1, (s.2.2.2.2.2.2.2.2.1, (s.2.2.2.2.2.2.2.2.2.1, ()))))))))))))
noncomputable def G18_l1_fuel (s : TY27) : Nat := Int.toNat (41 - s.1.2.2.2.2.2.2.2.1) + 1
noncomputable def G18_l1_run (s : TY27) : Option TY28 := iter G18_l1_step (G18_l1_fuel s) s
noncomputable def G18_l1_L : LoopT := loopT G18_l1_S [.exit 2] G18_l1_run
noncomputable def G18_l2_S : SPat := ⟨[.any, .any, .any, .fix (.bptr 0 []), .any, .any, .fix (.bptr 2 []), .any, .fix (.bptr 5 []), .any, .dat (.int .i64), .any, .fix (.bptr 7 []), .dat (.int .i64), .any, .dat (.int .i64), .dat (.int .i64), .any, .any, .any, .any, .any, .any, .any, .any, .any, .any, .any, .any, .any, .any, .any, .any, .any, .any, .any, .any, .any, .any, .any, .any, .any, .any, .any, .any, .any, .any, .any, .any, .any, .any, .dat (.int .i64), .dat (.int .i64), .any, .any, .any, .any, .any, .any, .any, .any, .any, .any, .any, .any, .any, .any, .any, .any, .any, .any, .any, .any, .dat (.arr 41 T58), .dat (.int .i64), .any, .any, .any, .any, .any, .any, .any, .any, .any, .any, .any, .any, .any, .any, .any, .any, .any, .any, .any, .any, .any, .any, .any, .any, .any, .any, .any, .any, .any, .any, .any, .any, .any, .any, .any, .any, .any, .any, .any, .any, .any, .any, .any, .any, .any, .any, .any, .any, .any], [.dat T23, .dat T46, .cons (.own 0 (.int .i64)) (.cons (.own 1 (.int .i64)) (.cons (.own 2 (.int .i64)) (.nil))), .dat T23, .map T58 T91, .cons (.dat T23) (.cons (.dat (.list T71)) (.cons (.fix (.mref 4)) (.nil))), .vrow 3 (.int .i64), .cons (.own 4 (.int .i64)) (.cons (.own 5 (.int .i64)) (.cons (.vec 3 6 (.int .i64)) (.nil))), .dat T91], 6⟩
noncomputable def G18_l2_step (s : TY27) : Option TY28 :=
  (bif (decide (s.1.2.2.2.2.2.2.2.1 < 41)) then
  (bif (decide (0 ≤ s.1.2.2.2.2.2.2.2.1) && decide (s.1.2.2.2.2.2.2.2.1 < (41 : Int))) then
    (bif ((List.getD s.1.2.2.2.2.2.2.1 (Int.toNat s.1.2.2.2.2.2.2.2.1) (0, (0, ()))).1 == s.1.2.2.1) then
      some (1, ((s.1.1, (s.1.2.1, (s.1.2.2.1, ((IntKind.wrap .i64 (s.1.2.2.2.2.2.2.2.1 - 20)), (s.1.2.2.2.2.1, (s.1.2.2.2.2.2.1, (s.1.2.2.2.2.2.2.1, (s.1.2.2.2.2.2.2.2.1, ())))))))), (s.2.1, (s.2.2.1, (s.2.2.2.1, (s.2.2.2.2.1, (s.2.2.2.2.2.1, ((s.2.2.2.2.2.2.1.1, (s.2.2.2.2.2.2.1.2.1, ((), s.2.2.2.2.2.2.1.2.2.2))), (s.2.2.2.2.2.2.2.1, (s.2.2.2.2.2.2.2.2.1, (s.2.2.2.2.2.2.2.2.2.1, ())))))))))))
      else
      some (0, ((s.1.1, (s.1.2.1, (s.1.2.2.1, (s.1.2.2.2.1, (s.1.2.2.2.2.1, (s.1.2.2.2.2.2.1, (s.1.2.2.2.2.2.2.1, ((IntKind.wrap .i64 (s.1.2.2.2.2.2.2.2.1 + 1)), ())))))))), (s.2.1, (s.2.2.1, (s.2.2.2.1, (s.2.2.2.2.1, (s.2.2.2.2.2.1, ((s.2.2.2.2.2.2.1.1, (s.2.2.2.2.2.2.1.2.1, ((), s.2.2.2.2.2.2.1.2.2.2))), (s.2.2.2.2.2.2.2.1, (s.2.2.2.2.2.2.2.2.1, (s.2.2.2.2.2.2.2.2.2.1, ()))))))))))))
    else
    none)
  else
  some (1, ((s.1.1, (s.1.2.1, (s.1.2.2.1, (s.1.2.2.2.1, (s.1.2.2.2.2.1, (s.1.2.2.2.2.2.1, (s.1.2.2.2.2.2.2.1, (s.1.2.2.2.2.2.2.2.1, ())))))))), (s.2.1, (s.2.2.1, (s.2.2.2.1, (s.2.2.2.2.1, (s.2.2.2.2.2.1, ((s.2.2.2.2.2.2.1.1, (s.2.2.2.2.2.2.1.2.1, ((), s.2.2.2.2.2.2.1.2.2.2))), (s.2.2.2.2.2.2.2.1, (s.2.2.2.2.2.2.2.2.1, (s.2.2.2.2.2.2.2.2.2.1, ()))))))))))))
noncomputable def G18_l2_fuel (s : TY27) : Nat := Int.toNat (41 - s.1.2.2.2.2.2.2.2.1) + 1
noncomputable def G18_l2_run (s : TY27) : Option TY28 := iter G18_l2_step (G18_l2_fuel s) s
noncomputable def G18_l2_L : LoopT := loopT G18_l2_S [.exit 4] G18_l2_run
noncomputable def G18_l3_S : SPat := ⟨[.any, .any, .any, .fix (.bptr 0 []), .any, .any, .fix (.bptr 2 []), .any, .fix (.bptr 5 []), .any, .dat (.int .i64), .any, .fix (.bptr 7 []), .dat (.int .i64), .any, .dat (.int .i64), .dat (.int .i64), .any, .any, .any, .any, .any, .any, .any, .any, .any, .any, .any, .any, .any, .any, .any, .any, .any, .any, .any, .any, .any, .any, .any, .any, .any, .any, .any, .any, .any, .any, .any, .any, .any, .any, .dat (.int .i64), .dat (.int .i64), .any, .any, .any, .any, .any, .any, .any, .any, .any, .any, .any, .any, .any, .any, .any, .any, .any, .any, .any, .any, .any, .any, .any, .any, .any, .any, .any, .any, .any, .any, .any, .any, .any, .any, .any, .any, .any, .any, .any, .any, .any, .any, .any, .any, .any, .dat (.list (.int .i64)), .dat (.int .i64), .dat (.int .i64), .any, .any, .any, .any, .any, .any, .any, .any, .any, .any, .any, .any, .any, .any, .any, .any, .any, .any, .any, .any, .any, .any, .any], [.dat T23, .dat T46, .cons (.own 0 (.int .i64)) (.cons (.own 1 (.int .i64)) (.cons (.own 2 (.int .i64)) (.nil))), .dat T23, .map T58 T91, .cons (.dat T23) (.cons (.dat (.list T71)) (.cons (.fix (.mref 4)) (.nil))), .vrow 3 (.int .i64), .cons (.own 4 (.int .i64)) (.cons (.own 5 (.int .i64)) (.cons (.vec 3 6 (.int .i64)) (.nil))), .dat T91], 6⟩
abbrev TY29 : Type := ((Int × (Int × (Int × (Int × (Int × (Int × ((List Int) × (Int × (Int × Unit))))))))) × (E23 × (E46 × (((List Int) × ((List Int) × ((List Int) × Unit))) × (E23 × ((List (E58 × E91)) × ((E23 × ((List E71) × (Unit × Unit))) × ((List Int) × (((List Int) × ((List Int) × (Nat × Unit))) × (E91 × Unit))))))))))
abbrev TY30 : Type := (Nat × ((Int × (Int × (Int × (Int × (Int × (Int × ((List Int) × (Int × (Int × Unit))))))))) × (E23 × (E46 × (((List Int) × ((List Int) × ((List Int) × Unit))) × (E23 × ((List (E58 × E91)) × ((E23 × ((List E71) × (Unit × Unit))) × ((List Int) × (((List Int) × ((List Int) × (Nat × Unit))) × (E91 × Unit)))))))))))
noncomputable def G18_l3_step (s : TY29) : Option TY30 :=
  (bif (decide (s.1.2.2.2.2.2.2.2.2.1 < s.1.2.2.2.2.2.2.2.1)) then
  (bif (decide (0 ≤ s.1.2.2.2.2.2.2.2.2.1) && decide (s.1.2.2.2.2.2.2.2.2.1 < (List.length s.1.2.2.2.2.2.2.1 : Int))) then
    (bif ((List.getD s.1.2.2.2.2.2.2.1 (Int.toNat s.1.2.2.2.2.2.2.2.2.1) 0) == s.1.2.1) then
      (Option.bind (G44 (s.2.2.2.2.2.2.1.1, (s.2.2.2.2.2.2.1.2.1, ((), s.2.2.2.2.2.2.1.2.2.2))) s.1.2.2.2.2.2.2.2.2.1 s.1.1 s.1.2.2.1 s.1.2.2.2.1) fun r10 =>
        (bif (decide (0 ≤ s.1.2.2.2.2.2.2.2.2.1) && decide (s.1.2.2.2.2.2.2.2.2.1 < (s.2.2.2.2.2.2.2.2.1.2.2.1 : Int))) then
          (bif (decide ((Int.toNat s.1.2.2.2.2.2.2.2.2.1) < List.length s.2.2.2.2.2.2.2.1)) then
            some (0, ((s.1.1, (s.1.2.1, (s.1.2.2.1, (s.1.2.2.2.1, (s.1.2.2.2.2.1, (s.1.2.2.2.2.2.1, (s.1.2.2.2.2.2.2.1, (s.1.2.2.2.2.2.2.2.1, ((IntKind.wrap .i64 (s.1.2.2.2.2.2.2.2.2.1 + 1)), ()))))))))), (s.2.1, (s.2.2.1, (s.2.2.2.1, (s.2.2.2.2.1, (s.2.2.2.2.2.1, ((s.2.2.2.2.2.2.1.1, (s.2.2.2.2.2.2.1.2.1, ((), s.2.2.2.2.2.2.1.2.2.2))), ((List.set s.2.2.2.2.2.2.2.1 (Int.toNat s.1.2.2.2.2.2.2.2.2.1) r10.1), (s.2.2.2.2.2.2.2.2.1, (s.2.2.2.2.2.2.2.2.2.1, ())))))))))))
            else
            none)
          else
          none))
      else
      some (0, ((s.1.1, (s.1.2.1, (s.1.2.2.1, (s.1.2.2.2.1, (s.1.2.2.2.2.1, (s.1.2.2.2.2.2.1, (s.1.2.2.2.2.2.2.1, (s.1.2.2.2.2.2.2.2.1, ((IntKind.wrap .i64 (s.1.2.2.2.2.2.2.2.2.1 + 1)), ()))))))))), (s.2.1, (s.2.2.1, (s.2.2.2.1, (s.2.2.2.2.1, (s.2.2.2.2.2.1, ((s.2.2.2.2.2.2.1.1, (s.2.2.2.2.2.2.1.2.1, ((), s.2.2.2.2.2.2.1.2.2.2))), (s.2.2.2.2.2.2.2.1, (s.2.2.2.2.2.2.2.2.1, (s.2.2.2.2.2.2.2.2.2.1, ()))))))))))))
    else
    none)
  else
  some (1, ((s.1.1, (s.1.2.1, (s.1.2.2.1, (s.1.2.2.2.1, (s.1.2.2.2.2.1, (s.1.2.2.2.2.2.1, (s.1.2.2.2.2.2.2.1, (s.1.2.2.2.2.2.2.2.1, (s.1.2.2.2.2.2.2.2.2.1, ()))))))))), (s.2.1, (s.2.2.1, (s.2.2.2.1, (s.2.2.2.2.1, (s.2.2.2.2.2.1, ((s.2.2.2.2.2.2.1.1, (s.2.2.2.2.2.2.1.2.1, ((), s.2.2.2.2.2.2.1.2.2.2))), (s.2.2.2.2.2.2.2.1, (s.2.2.2.2.2.2.2.2.1, (s.2.2.2.2.2.2.2.2.2.1, ()))))))))))))
noncomputable def G18_l3_fuel (s : TY29) : Nat := Int.toNat (s.1.2.2.2.2.2.2.2.1 - s.1.2.2.2.2.2.2.2.2.1) + 1
noncomputable def G18_l3_run (s : TY29) : Option TY30 := iter G18_l3_step (G18_l3_fuel s) s
noncomputable def G18_l3_L : LoopT := loopT G18_l3_S [.exit 6] G18_l3_run
noncomputable def G18_l0_S : SPat := ⟨[.any, .any, .any, .fix (.bptr 0 []), .any, .any, .fix (.bptr 2 []), .any, .fix (.bptr 5 []), .any, .dat (.int .i64), .any, .fix (.bptr 7 []), .any, .any, .any, .any, .any, .any, .any, .any, .any, .any, .any, .any, .any, .any, .any, .any, .any, .any, .any, .any, .any, .any, .any, .any, .any, .any, .any, .any, .any, .any, .any, .any, .any, .any, .any, .any, .any, .any, .dat (.int .i64), .dat (.int .i64), .any, .any, .any, .any, .any, .any, .any, .any, .any, .any, .any, .any, .any, .any, .any, .any, .any, .any, .any, .any, .any, .any, .any, .any, .any, .any, .any, .any, .any, .any, .any, .any, .any, .any, .any, .any, .any, .any, .any, .any, .any, .any, .any, .any, .any, .any, .any, .any, .any, .any, .any, .any, .any, .any, .any, .any, .any, .any, .any, .any, .any, .any, .any, .any, .any, .any, .any, .any, .any, .any, .any], [.dat T23, .dat T46, .cons (.own 0 (.int .i64)) (.cons (.own 1 (.int .i64)) (.cons (.own 2 (.int .i64)) (.nil))), .dat T23, .map T58 T91, .cons (.dat T23) (.cons (.dat (.list T71)) (.cons (.fix (.mref 4)) (.nil))), .vrow 3 (.int .i64), .cons (.own 4 (.int .i64)) (.cons (.own 5 (.int .i64)) (.cons (.vec 3 6 (.int .i64)) (.nil)))], 6⟩
abbrev TY31 : Type := ((Int × (Int × (Int × Unit))) × (E23 × (E46 × (((List Int) × ((List Int) × ((List Int) × Unit))) × (E23 × ((List (E58 × E91)) × ((E23 × ((List E71) × (Unit × Unit))) × ((List Int) × (((List Int) × ((List Int) × (Nat × Unit))) × Unit)))))))))
abbrev TY32 : Type := (Nat × ((Int × (Int × (Int × Unit))) × (E23 × (E46 × (((List Int) × ((List Int) × ((List Int) × Unit))) × (E23 × ((List (E58 × E91)) × ((E23 × ((List E71) × (Unit × Unit))) × ((List Int) × (((List Int) × ((List Int) × (Nat × Unit))) × Unit))))))))))
noncomputable def G18_l0_step (s : TY31) : Option TY32 :=
  (bif (decide (s.1.2.2.1 < s.1.2.1)) then
  (Option.bind (G43 s.1.2.2.1 s.1.1 (s.2.2.2.2.2.2.1.1, (s.2.2.2.2.2.2.1.2.1, ((), s.2.2.2.2.2.2.1.2.2.2))) s.2.2.2.2.2.1) fun r7 =>
    (Option.bind (G18_l1_run ((s.1.1, (s.1.2.2.1, (3200, (0, (s.1.2.1, (s.1.2.2.1, (r7.1.1, (0, ())))))))), (s.2.1, (s.2.2.1, (s.2.2.2.1, (s.2.2.2.2.1, (r7.2.2.1, ((r7.2.1.1, (r7.2.1.2.1, ((), r7.2.1.2.2.2))), (s.2.2.2.2.2.2.2.1, (s.2.2.2.2.2.2.2.2.1, (r7.1, ()))))))))))) fun q8 =>
      (Option.bind (G18_l2_run ((q8.2.1.1, (q8.2.1.2.1, (q8.2.1.2.2.1, (q8.2.1.2.2.2.1, (q8.2.1.2.2.2.2.1, (q8.2.1.2.2.2.2.2.1, (q8.2.2.2.2.2.2.2.2.2.2.1.1, (0, ())))))))), (q8.2.2.1, (q8.2.2.2.1, (q8.2.2.2.2.1, (q8.2.2.2.2.2.1, (q8.2.2.2.2.2.2.1, ((q8.2.2.2.2.2.2.2.1.1, (q8.2.2.2.2.2.2.2.1.2.1, ((), q8.2.2.2.2.2.2.2.1.2.2.2))), (q8.2.2.2.2.2.2.2.2.1, (q8.2.2.2.2.2.2.2.2.2.1, (q8.2.2.2.2.2.2.2.2.2.2.1, ()))))))))))) fun q9 =>
        (bif (decide (List.length q9.2.2.2.2.2.2.2.2.2.1.1 + List.length [q9.2.1.2.2.1] ≤ LIM)) then
          (bif (decide (List.length q9.2.2.2.2.2.2.2.2.2.1.2.1 + List.length [q9.2.1.2.2.2.1] ≤ LIM)) then
            (Option.bind (G18_l3_run ((q9.2.1.1, (q9.2.1.2.1, (q9.2.1.2.2.1, (q9.2.1.2.2.2.1, (q9.2.1.2.2.2.2.1, (q9.2.1.2.2.2.2.2.1, (q9.2.2.1.2.2.2.2.1, ((List.length q9.2.2.1.2.2.2.2.1 : Int), (0, ()))))))))), (q9.2.2.1, (q9.2.2.2.1, (q9.2.2.2.2.1, (q9.2.2.2.2.2.1, (q9.2.2.2.2.2.2.1, ((q9.2.2.2.2.2.2.2.1.1, (q9.2.2.2.2.2.2.2.1.2.1, ((), q9.2.2.2.2.2.2.2.1.2.2.2))), (q9.2.2.2.2.2.2.2.2.1, (((q9.2.2.2.2.2.2.2.2.2.1.1 ++ [q9.2.1.2.2.1]), ((q9.2.2.2.2.2.2.2.2.2.1.2.1 ++ [q9.2.1.2.2.2.1]), q9.2.2.2.2.2.2.2.2.2.1.2.2)), (q9.2.2.2.2.2.2.2.2.2.2.1, ()))))))))))) fun q11 =>
              some (0, ((q11.2.1.1, (q11.2.1.2.2.2.2.1, ((IntKind.wrap .i64 (q11.2.1.2.2.2.2.2.1 + 1)), ()))), (q11.2.2.1, (q11.2.2.2.1, (q11.2.2.2.2.1, (q11.2.2.2.2.2.1, (q11.2.2.2.2.2.2.1, ((q11.2.2.2.2.2.2.2.1.1, (q11.2.2.2.2.2.2.2.1.2.1, ((), q11.2.2.2.2.2.2.2.1.2.2.2))), (q11.2.2.2.2.2.2.2.2.1, (q11.2.2.2.2.2.2.2.2.2.1, ())))))))))))
            else
            none)
          else
          none))))
  else
  some (1, ((s.1.1, (s.1.2.1, (s.1.2.2.1, ()))), (s.2.1, (s.2.2.1, (s.2.2.2.1, (s.2.2.2.2.1, (s.2.2.2.2.2.1, ((s.2.2.2.2.2.2.1.1, (s.2.2.2.2.2.2.1.2.1, ((), s.2.2.2.2.2.2.1.2.2.2))), (s.2.2.2.2.2.2.2.1, (s.2.2.2.2.2.2.2.2.1, ())))))))))))
noncomputable def G18_l0_fuel (s : TY31) : Nat := Int.toNat (s.1.2.1 - s.1.2.2.1) + 1
noncomputable def G18_l0_run (s : TY31) : Option TY32 := iter G18_l0_step (G18_l0_fuel s) s
noncomputable def G18_l0_L : LoopT := loopT G18_l0_S [.exit 0] G18_l0_run
noncomputable def G18 (a0 : E23) (a1 : (List E71)) (a2 : E46) : Option (E48 × (Int × Unit)) :=
  (Option.bind (G26_v1 a0 a1 a2) fun r1 =>
  (altK r1
    (fun r2 => (bif (r2.1.2.1 != 0) then
      some (([], ([], ([], ()))), (r2.1.2.1, ()))
      else
      (Option.bind (G40_v1 r2.2.1) fun r4 =>
        none)))
    (fun r3 => (bif (r3.1.2.1 != 0) then
      some (([], ([], ([], ()))), (r3.1.2.1, ()))
      else
      (Option.bind (G40 (r3.2.2.2.2.1.1, (r3.2.2.2.2.1.2.1, ((), r3.2.2.2.2.1.2.2.2))) r3.2.1) fun r5 =>
        (Option.bind (G41 r5.1 (r3.2.2.2.2.1.1, (r3.2.2.2.2.1.2.1, ((), r3.2.2.2.2.1.2.2.2))) r3.2.2.2.1) fun r6 =>
          (bif (!r6.1) then
            some (([], ([], ([], ()))), (5, ()))
            else
            (bif (decide ((0 : Int) ≤ (List.length a0.2.2.2.2.1 : Int)) && decide ((List.length a0.2.2.2.2.1 : Int) ≤ (LIM : Int)) && decide ((List.length a0.2.2.2.2.1 : Int) = (List.length a0.2.2.2.2.1 : Int))) then
              (Option.bind (G18_l0_run ((r5.1, (a0.2.2.2.1, (0, ()))), (a0, (r3.2.1, (([], ([], ([], ()))), (r3.2.2.1, (r6.2.2.1, ((r6.2.1.1, (r6.2.1.2.1, ((), r6.2.1.2.2.2))), ((List.replicate (Int.toNat (List.length a0.2.2.2.2.1 : Int)) 0), (([], ([], ((Int.toNat (List.length a0.2.2.2.2.1 : Int)), ()))), ())))))))))) fun q12 =>
                (bif (((decide (q12.2.2.2.2.2.2.2.2.2.1.2.2.1 ≤ List.length q12.2.2.2.2.2.2.2.2.1)) && true) && true) then
                  some ((q12.2.2.2.2.2.2.2.2.2.1.1, (q12.2.2.2.2.2.2.2.2.2.1.2.1, ((List.take q12.2.2.2.2.2.2.2.2.2.1.2.2.1 q12.2.2.2.2.2.2.2.2.1), q12.2.2.2.2.2.2.2.2.2.1.2.2.2))), (0, ()))
                  else
                  none))
              else
              none))))))))
noncomputable def G18_E : CEnt := pureE 18 [.dat T23, .dat (.list T71), .dat T46] (.tup (.cons (.dat T48) (.cons (.dat (.int .i64)) (.nil)))) fun x => G18 x.1 x.2.1 x.2.2.1
theorem G18_l1_V : LValid 0 Tryz.prog (.loop G18_l1_c) G18_l1_L false := by
  have hb : ∀ s, codeR Tryz.prog G18_C G18_l1_c [] (G18_l1_S.encE s) (G18_l1_S.encB s) (kst G18_l1_S [.exit 2]) = G18_l1_step s := by
    intro s; kernel_rfl
  have hL : LV 0 Tryz.prog false (loopsOf G18_l1_c) [] := by unfold LV; cases loopsOf G18_l1_c <;> trivial
  exact loopT_valid (fuel := G18_l1_fuel) mixed G18_CV hL (by kernel_rfl) (by decide) rfl hb (fun s r h => h)
theorem G18_l2_V : LValid 0 Tryz.prog (.loop G18_l2_c) G18_l2_L false := by
  have hb : ∀ s, codeR Tryz.prog G18_C G18_l2_c [] (G18_l2_S.encE s) (G18_l2_S.encB s) (kst G18_l2_S [.exit 4]) = G18_l2_step s := by
    intro s; kernel_rfl
  have hL : LV 0 Tryz.prog false (loopsOf G18_l2_c) [] := by unfold LV; cases loopsOf G18_l2_c <;> trivial
  exact loopT_valid (fuel := G18_l2_fuel) mixed G18_CV hL (by kernel_rfl) (by decide) rfl hb (fun s r h => h)
theorem G18_l3_V : LValid 0 Tryz.prog (.loop G18_l3_c) G18_l3_L false := by
  have hb : ∀ s, codeR Tryz.prog G18_C G18_l3_c [] (G18_l3_S.encE s) (G18_l3_S.encB s) (kst G18_l3_S [.exit 6]) = G18_l3_step s := by
    intro s; kernel_rfl
  have hL : LV 0 Tryz.prog false (loopsOf G18_l3_c) [] := by unfold LV; cases loopsOf G18_l3_c <;> trivial
  exact loopT_valid (fuel := G18_l3_fuel) mixed G18_CV hL (by kernel_rfl) (by decide) rfl hb (fun s r h => h)
theorem G18_l0_V : LValid 0 Tryz.prog (.loop G18_l0_c) G18_l0_L false := by
  have hb : ∀ s, codeR Tryz.prog G18_C G18_l0_c [G18_l1_L, G18_l2_L, G18_l3_L] (G18_l0_S.encE s) (G18_l0_S.encB s) (kst G18_l0_S [.exit 0]) = G18_l0_step s := by
    intro s; kernel_rfl
  have hl : loopsOf G18_l0_c = [.loop G18_l1_c, .loop G18_l2_c, .loop G18_l3_c] := by kernel_rfl
  have hL : LV 0 Tryz.prog false (loopsOf G18_l0_c) [G18_l1_L, G18_l2_L, G18_l3_L] := by rw [hl]; exact ⟨G18_l1_V, G18_l2_V, G18_l3_V, trivial⟩
  exact loopT_valid (fuel := G18_l0_fuel) mixed G18_CV hL (by kernel_rfl) (by decide) rfl hb (fun s r h => h)
theorem G18_LV : LV 0 Tryz.prog false (loopsOf (bodyOf Tryz.f18)) [G18_l0_L] := by
  have hl : loopsOf (bodyOf Tryz.f18) = [.loop G18_l0_c] := by kernel_rfl
  rw [hl]; exact ⟨G18_l0_V, trivial⟩
theorem G18_ent : Ent Tryz.prog 18 := ⟨by decide, enters_of Tryz.func18 (by kernel_rfl) rfl⟩
theorem G18_hev : ∀ x, fnR Tryz.prog G18_C [G18_l0_L] Tryz.f18 (bodyOf Tryz.f18) (encs [.dat T23, .dat (.list T71), .dat T46] x) ⟨[], [], 0⟩ (frzV (.tup (.cons (.dat T48) (.cons (.dat (.int .i64)) (.nil))))) = G18 x.1 x.2.1 x.2.2.1 := by
  intro x; kernel_rfl
theorem G18_valid : G18_E.Valid Tryz.prog :=
  pureE_valid (by kernel_rfl) (by kernel_rfl) G18_ent (frzV_lcall mixed Tryz.func18 rfl G18_ent G18_CV G18_LV (by kernel_rfl) (by kernel_rfl) G18_hev)
noncomputable def G45_C : CalT := tabC []
theorem G45_CV : CV Tryz.prog G45_C := tabC_valid (l := _) trivial
noncomputable def G45 (b0 : (E23 × ((List E71) × (Unit × Unit)))) (b1 : (List (E58 × E91))) : Option (Bool × ((E23 × ((List E71) × (Unit × Unit))) × ((List (E58 × E91)) × Unit))) :=
  some (true, ((b0.1, (b0.2.1, ((), b0.2.2.2))), (b1, ())))
abbrev G45_CS : CSpec := ⟨[.fix (.bptr 0 [])], [.cons (.dat T23) (.cons (.dat (.list T71)) (.cons (.fix (.mref 1)) (.nil))), .map T58 T91], 0, [.cons (.dat T23) (.cons (.dat (.list T71)) (.cons (.fix (.mref 1)) (.nil))), .map T58 T91], 0, .dat .bool⟩
noncomputable def G45_E : CEnt := boxE 45 G45_CS fun x => G45 x.2.1 x.2.2.1
theorem G45_LV : LV 2 Tryz.prog false (loopsOf (bodyOf Tryz.f45)) [] := by unfold LV; cases loopsOf (bodyOf Tryz.f45) <;> trivial
theorem G45_ent : Ent Tryz.prog 45 := ⟨by decide, enters_of Tryz.func45 (by kernel_rfl) rfl⟩
theorem G45_hev : ∀ x : G45_CS.In, fnR Tryz.prog G45_C [] Tryz.f45 (bodyOf Tryz.f45) (encs G45_CS.A x.1) ⟨encs G45_CS.I x.2, [], G45_CS.nt⟩ (finK G45_CS) = G45 x.2.1 x.2.2.1 := by
  intro x; kernel_rfl
theorem G45_valid : G45_E.Valid Tryz.prog :=
  boxE_valid (S := G45_CS) (by kernel_rfl) (.inr G45_ent) (fn_lcall (S := G45_CS) mixed Tryz.func45 rfl G45_ent G45_CV G45_LV (by kernel_rfl) (by kernel_rfl) G45_hev)
noncomputable def G26_v2_C : CalT := tabC [G57_E, G58_E, G45_E]
theorem G26_v2_CV : CV Tryz.prog G26_v2_C := tabC_valid (l := _) ⟨G57_valid, G58_valid, G45_valid, trivial⟩
abbrev TY33 : Type := (E23 × ((List (E58 × E91)) × ((E23 × ((List E71) × (Unit × Unit))) × Unit)))
noncomputable def G26_v2 (a0 : E23) (a1 : (List E71)) : Option (((Unit × (Int × Unit)) × Unit) ⊕ ((Unit × (Int × Unit)) × TY33)) :=
  (bif (decide ((List.length a1 : Int) > 24)) then
  some (Sum.inl (((), (3, ())), ()))
  else
  (Option.bind (G57 a0) fun r1 =>
    (bif (!r1) then
      some (Sum.inl (((), (2, ())), ()))
      else
      (Option.bind (G58 a1 a0) fun r2 =>
        (bif r2.1 then
          some (Sum.inl (((), (2, ())), ()))
          else
          (Option.bind (G45 (a0, (a1, ((), ()))) ([] : List (E58 × E91))) fun r3 =>
            (bif (!r3.1) then
              some (Sum.inl (((), (2, ())), ()))
              else
              some (Sum.inr (((), (0, ())), (r2.2.1, (r3.2.2.1, ((r3.2.1.1, (r3.2.1.2.1, ((), r3.2.1.2.2.2))), ()))))))))))))
abbrev G26_v2_CS : CSpec := ⟨[.dat T23, .dat (.list T71), .fix (.func (.func 45) .nil .nil)], [], 0, [], 0, .tup (.cons (.fix .pnil) (.cons (.dat (.int .i64)) (.nil)))⟩
abbrev G26_v2_O2 : List PTy := [.dat T23, .map T58 T91, .cons (.dat T23) (.cons (.dat (.list T71)) (.cons (.fix (.mref 1)) (.nil)))]
abbrev G26_v2_R2 : PTy := .tup (.cons (.fix (.bptr 2 [])) (.cons (.dat (.int .i64)) (.nil)))
noncomputable def G26_v2_E : CEnt := altE 26 G26_v2_CS G26_v2_O2 0 G26_v2_R2 fun x => G26_v2 x.1.1 x.1.2.1
theorem G26_v2_LV : LV 0 Tryz.prog false (loopsOf (bodyOf Tryz.f26)) [] := by unfold LV; cases loopsOf (bodyOf Tryz.f26) <;> trivial
theorem G26_v2_ent : Ent Tryz.prog 26 := ⟨by decide, enters_of Tryz.func26 (by kernel_rfl) rfl⟩
theorem G26_v2_hev : ∀ x : G26_v2_CS.In, fnR Tryz.prog G26_v2_C [] Tryz.f26 (bodyOf Tryz.f26) (encs G26_v2_CS.A x.1) ⟨encs G26_v2_CS.I x.2, [], G26_v2_CS.nt⟩ (finK2 G26_v2_CS G26_v2_O2 0 G26_v2_R2) = G26_v2 x.1.1 x.1.2.1 := by
  intro x; kernel_rfl
theorem G26_v2_valid : G26_v2_E.Valid Tryz.prog :=
  altE_valid (S := G26_v2_CS) (by kernel_rfl) (by kernel_rfl) (.inr G26_v2_ent) (alt_lcall (S := G26_v2_CS) mixed Tryz.func26 rfl G26_v2_ent G26_v2_CV G26_v2_LV (by kernel_rfl) (by kernel_rfl) (by kernel_rfl) (by kernel_rfl) G26_v2_hev)
noncomputable def G47_C : CalT := tabC []
theorem G47_CV : CV Tryz.prog G47_C := tabC_valid (l := _) trivial
noncomputable def G47 (a0 : E106) : Option Int :=
  some (IntKind.wrap .i64 ((List.length a0.1.2.2.2.2.1 : Int) + a0.1.2.2.2.1))
noncomputable def G47_E : CEnt := viewE 47 [.ip T106] (.dat (.int .i64)) fun x => G47 x.1
theorem G47_LV : LV 0 Tryz.prog false (loopsOf (bodyOf Tryz.f47)) [] := by unfold LV; cases loopsOf (bodyOf Tryz.f47) <;> trivial
theorem G47_ent : Ent Tryz.prog 47 := ⟨by decide, enters_of Tryz.func47 (by kernel_rfl) rfl⟩
theorem G47_hev : ∀ x, fnR Tryz.prog G47_C [] Tryz.f47 (bodyOf Tryz.f47) (encs [.ip T106] x) ⟨[], [], 0⟩ (frzF (.dat (.int .i64))) = G47 x.1 := by
  intro x; kernel_rfl
theorem G47_valid : G47_E.Valid Tryz.prog :=
  viewE_valid (by kernel_rfl) (by kernel_rfl) G47_ent (frz_lcall mixed Tryz.func47 rfl G47_ent G47_CV G47_LV (by kernel_rfl) (by kernel_rfl) G47_hev)
noncomputable def G46_C : CalT := tabC []
theorem G46_CV : CV Tryz.prog G46_C := tabC_valid (l := _) trivial
abbrev TY34 : Type := (Unit × ((E23 × ((List E71) × (Unit × Unit))) × ((List (E58 × E91)) × (Int × Unit))))
noncomputable def G46 (a0 : Int) (b1 : (E23 × ((List E71) × (Unit × Unit)))) (b2 : (List (E58 × E91))) : Option TY34 :=
  some ((), ((b1.1, (b1.2.1, ((), b1.2.2.2))), (b2, (a0, ()))))
abbrev G46_CS : CSpec := ⟨[.fix (.bptr 0 []), .dat (.int .i64)], [.cons (.dat T23) (.cons (.dat (.list T71)) (.cons (.fix (.mref 1)) (.nil))), .map T58 T91], 0, [.cons (.dat T23) (.cons (.dat (.list T71)) (.cons (.fix (.mref 1)) (.nil))), .map T58 T91, .fix (.bptr 0 []), .dat (.int .i64)], 0, .fix (.func (.func 74) .nil (.cons (.bptr 2 []) (.cons (.bptr 3 []) .nil)))⟩
noncomputable def G46_E : CEnt := boxE 46 G46_CS fun x => G46 x.1.1 x.2.1 x.2.2.1
theorem G46_LV : LV 2 Tryz.prog false (loopsOf (bodyOf Tryz.f46)) [] := by unfold LV; cases loopsOf (bodyOf Tryz.f46) <;> trivial
theorem G46_ent : Ent Tryz.prog 46 := ⟨by decide, enters_of Tryz.func46 (by kernel_rfl) rfl⟩
theorem G46_hev : ∀ x : G46_CS.In, fnR Tryz.prog G46_C [] Tryz.f46 (bodyOf Tryz.f46) (encs G46_CS.A x.1) ⟨encs G46_CS.I x.2, [], G46_CS.nt⟩ (finK G46_CS) = G46 x.1.1 x.2.1 x.2.2.1 := by
  intro x; kernel_rfl
theorem G46_valid : G46_E.Valid Tryz.prog :=
  boxE_valid (S := G46_CS) (by kernel_rfl) (.inr G46_ent) (fn_lcall (S := G46_CS) mixed Tryz.func46 rfl G46_ent G46_CV G46_LV (by kernel_rfl) (by kernel_rfl) G46_hev)
noncomputable def G48_C : CalT := tabC []
theorem G48_CV : CV Tryz.prog G48_C := tabC_valid (l := _) trivial
noncomputable def G48_l0_c : Code := loopAt (bodyOf Tryz.f48) 0
noncomputable def G48_l0_S : SPat := ⟨[.dat (.int .i64), .any, .any, .dat (.int .i64), .any, .any, .any, .any, .any, .any, .any, .any, .any], [], 0⟩
noncomputable def G48_l0_step (s : ((Int × (Int × Unit)) × Unit)) : Option (Nat × ((Int × (Int × Unit)) × Unit)) :=
  (bif (decide (s.1.1 > 0)) then
  some (0, (((IntKind.wrap .i64 (Int.tdiv s.1.1 2)), ((IntKind.wrap .i64 (s.1.2.1 + (Int.tmod s.1.1 2))), ())), ()))
  else
  some (1, ((s.1.1, (s.1.2.1, ())), ())))
noncomputable def G48_l0_fuel (s : ((Int × (Int × Unit)) × Unit)) : Nat := 100000
noncomputable def G48_l0_run (s : ((Int × (Int × Unit)) × Unit)) : Option (Nat × ((Int × (Int × Unit)) × Unit)) := iter G48_l0_step (G48_l0_fuel s) s
noncomputable def G48_l0_L : LoopT := loopT G48_l0_S [.exit 0] G48_l0_run
noncomputable def G48 (a0 : Int) : Option Int :=
  (Option.bind (G48_l0_run ((a0, (0, ())), ())) fun q1 =>
  some q1.2.1.2.1)
noncomputable def G48_E : CEnt := pureE 48 [.dat (.int .i64)] (.dat (.int .i64)) fun x => G48 x.1
theorem G48_l0_V : LValid 0 Tryz.prog (.loop G48_l0_c) G48_l0_L false := by
  have hb : ∀ s, codeR Tryz.prog G48_C G48_l0_c [] (G48_l0_S.encE s) (G48_l0_S.encB s) (kst G48_l0_S [.exit 0]) = G48_l0_step s := by
    intro s; kernel_rfl
  have hL : LV 0 Tryz.prog false (loopsOf G48_l0_c) [] := by unfold LV; cases loopsOf G48_l0_c <;> trivial
  exact loopT_valid (fuel := G48_l0_fuel) mixed G48_CV hL (by kernel_rfl) (by decide) rfl hb (fun s r h => h)
theorem G48_LV : LV 0 Tryz.prog false (loopsOf (bodyOf Tryz.f48)) [G48_l0_L] := by
  have hl : loopsOf (bodyOf Tryz.f48) = [.loop G48_l0_c] := by kernel_rfl
  rw [hl]; exact ⟨G48_l0_V, trivial⟩
theorem G48_ent : Ent Tryz.prog 48 := ⟨by decide, enters_of Tryz.func48 (by kernel_rfl) rfl⟩
theorem G48_hev : ∀ x, fnR Tryz.prog G48_C [G48_l0_L] Tryz.f48 (bodyOf Tryz.f48) (encs [.dat (.int .i64)] x) ⟨[], [], 0⟩ (frzF (.dat (.int .i64))) = G48 x.1 := by
  intro x; kernel_rfl
theorem G48_valid : G48_E.Valid Tryz.prog :=
  pureE_valid (by kernel_rfl) (by kernel_rfl) G48_ent (frz_lcall mixed Tryz.func48 rfl G48_ent G48_CV G48_LV (by kernel_rfl) (by kernel_rfl) G48_hev)
noncomputable def G49_C : CalT := tabC [G47_E]
theorem G49_CV : CV Tryz.prog G49_C := tabC_valid (l := _) ⟨G47_valid, trivial⟩
noncomputable def G49_l0_c : Code := loopAt (bodyOf Tryz.f49) 0
noncomputable def G49_l0_S : SPat := ⟨[.ip T106, .dat (.int .i64), .any, .any, .fix (.bptr 0 []), .fix (.bptr 1 []), .any, .any, .dat (.int .i64), .dat (.int .i64), .any, .any, .any, .any, .any, .any, .any, .any, .any, .any, .any, .any, .any, .any, .any, .any, .any, .any, .any, .any, .any, .any, .any, .any, .any, .any, .any, .any, .any, .any, .any, .any, .any, .any, .any, .any, .any, .any], [.cons (.own 0 (.int .i64)) (.cons (.own 1 (.int .i64)) (.nil)), .cons (.own 2 (.int .i64)) (.cons (.own 3 (.int .i64)) (.nil))], 4⟩
abbrev TY35 : Type := (((List Int) × ((List Int) × Unit)) × (((List Int) × ((List Int) × Unit)) × Unit))
abbrev TY36 : Type := (Nat × ((E106 × (Int × (Int × (Int × Unit)))) × (((List Int) × ((List Int) × Unit)) × (((List Int) × ((List Int) × Unit)) × Unit))))
noncomputable def G49_l0_step (s : ((E106 × (Int × (Int × (Int × Unit)))) × TY35)) : Option TY36 :=
  (bif (decide (s.1.2.2.2.1 < s.1.2.2.1)) then
  (bif (!decide (s.1.2.2.2.1 < 0)) then
    (bif ((IntKind.wrap .i64 ((BitVec.toNat ((BitVec.ofInt (IntKind.bits .i64) (Int.fdiv s.1.2.1 (2 ^ (min (Int.toNat s.1.2.2.2.1) (IntKind.bits .i64))))) &&& (BitVec.ofInt (IntKind.bits .i64) 1)) : Nat) : Int)) == 0) then
      some (0, ((s.1.1, (s.1.2.1, (s.1.2.2.1, ((IntKind.wrap .i64 (s.1.2.2.2.1 + 1)), ())))), (s.2.1, (s.2.2.1, ()))))
      else
      (bif (decide (s.1.2.2.2.1 < (List.length s.1.1.1.2.2.2.2.1 : Int))) then
        (bif (decide (List.length s.2.2.1.1 + List.length [s.1.2.2.2.1] ≤ LIM)) then
          some (0, ((s.1.1, (s.1.2.1, (s.1.2.2.1, ((IntKind.wrap .i64 (s.1.2.2.2.1 + 1)), ())))), (s.2.1, (((s.2.2.1.1 ++ [s.1.2.2.2.1]), s.2.2.1.2), ()))))
          else
          none)
        else
        (bif (decide (List.length s.2.2.1.2.1 + List.length [(IntKind.wrap .i64 (s.1.2.2.2.1 - (List.length s.1.1.1.2.2.2.2.1 : Int)))] ≤ LIM)) then
          some (0, ((s.1.1, (s.1.2.1, (s.1.2.2.1, ((IntKind.wrap .i64 (s.1.2.2.2.1 + 1)), ())))), (s.2.1, ((s.2.2.1.1, ((s.2.2.1.2.1 ++ [(IntKind.wrap .i64 (s.1.2.2.2.1 - (List.length s.1.1.1.2.2.2.2.1 : Int)))]), s.2.2.1.2.2)), ()))))
          else
          none)))
    else
    none)
  else
  some (1, ((s.1.1, (s.1.2.1, (s.1.2.2.1, (s.1.2.2.2.1, ())))), (s.2.1, (s.2.2.1, ())))))
noncomputable def G49_l0_fuel (s : ((E106 × (Int × (Int × (Int × Unit)))) × TY35)) : Nat := Int.toNat (s.1.2.2.1 - s.1.2.2.2.1) + 1
noncomputable def G49_l0_run (s : ((E106 × (Int × (Int × (Int × Unit)))) × TY35)) : Option TY36 := iter G49_l0_step (G49_l0_fuel s) s
noncomputable def G49_l0_L : LoopT := loopT G49_l0_S [.exit 0] G49_l0_run
noncomputable def G49 (a0 : E106) (a1 : Int) : Option E46 :=
  (Option.bind (G47 a0) fun r1 =>
  (Option.bind (G49_l0_run ((a0, (a1, (r1, (0, ())))), (([], ([], ())), (([], ([], ())), ())))) fun q2 =>
    some q2.2.2.2.1))
noncomputable def G49_E : CEnt := view2E 49 [.ip T106, .dat (.int .i64)] (.cons (.own 0 (.int .i64)) (.cons (.own 1 (.int .i64)) (.nil))) fun x => G49 x.1 x.2.1
theorem G49_l0_V : LValid 0 Tryz.prog (.loop G49_l0_c) G49_l0_L false := by
  have hb : ∀ s, codeR Tryz.prog G49_C G49_l0_c [] (G49_l0_S.encE s) (G49_l0_S.encB s) (kst G49_l0_S [.exit 0]) = G49_l0_step s := by
    intro s; kernel_rfl
  have hL : LV 0 Tryz.prog false (loopsOf G49_l0_c) [] := by unfold LV; cases loopsOf G49_l0_c <;> trivial
  exact loopT_valid (fuel := G49_l0_fuel) mixed G49_CV hL (by kernel_rfl) (by decide) rfl hb (fun s r h => h)
theorem G49_LV : LV 0 Tryz.prog false (loopsOf (bodyOf Tryz.f49)) [G49_l0_L] := by
  have hl : loopsOf (bodyOf Tryz.f49) = [.loop G49_l0_c] := by kernel_rfl
  rw [hl]; exact ⟨G49_l0_V, trivial⟩
theorem G49_ent : Ent Tryz.prog 49 := ⟨by decide, enters_of Tryz.func49 (by kernel_rfl) rfl⟩
theorem G49_hev : ∀ x, fnR Tryz.prog G49_C [G49_l0_L] Tryz.f49 (bodyOf Tryz.f49) (encs [.ip T106, .dat (.int .i64)] x) ⟨[], [], 0⟩ (finO [.ip T106, .dat (.int .i64)] 2 (.cons (.own 0 (.int .i64)) (.cons (.own 1 (.int .i64)) (.nil)))) = G49 x.1 x.2.1 := by
  intro x; kernel_rfl
theorem G49_valid : G49_E.Valid Tryz.prog :=
  view2E_valid (nt := 2) (by kernel_rfl) (by kernel_rfl) G49_ent (own_lcall mixed Tryz.func49 rfl G49_ent G49_CV G49_LV (by kernel_rfl) G49_hev)
noncomputable def G19_C : CalT := tabC [G48_E, G49_E]
theorem G19_CV : CV Tryz.prog G19_C := tabC_valid (l := _) ⟨G48_valid, G49_valid, trivial⟩
abbrev UT45 : Type := (Unit × (Unit × (Unit × (Unit × (Unit × (Unit × (Unit × (Unit × (Unit × (Unit × (Unit × (Unit × (Unit × (Unit × (Unit × (Unit × (Unit × (Unit × (Unit × (Unit × (Unit × (Unit × (Unit × (Unit × (Unit × (Unit × (Unit × (Unit × (Unit × (Unit × (Unit × (Unit × (Unit × (Unit × (Unit × (Unit × (Unit × (Unit × (Unit × (Unit × (Unit × (Unit × (Unit × (Unit × (Unit × Unit)))))))))))))))))))))))))))))))))))))))))))))
abbrev UC45 : (Unit × (Unit × (Unit × (Unit × (Unit × (Unit × (Unit × (Unit × (Unit × (Unit × (Unit × (Unit × (Unit × (Unit × (Unit × (Unit × (Unit × (Unit × (Unit × (Unit × (Unit × (Unit × (Unit × (Unit × (Unit × (Unit × (Unit × (Unit × (Unit × (Unit × (Unit × (Unit × (Unit × (Unit × (Unit × (Unit × (Unit × (Unit × (Unit × (Unit × (Unit × (Unit × (Unit × (Unit × (Unit × Unit))))))))))))))))))))))))))))))))))))))))))))) := ((), ((), ((), ((), ((), ((), ((), ((), ((), ((), ((), ((), ((), ((), ((), ((), ((), ((), ((), ((), ((), ((), ((), ((), ((), ((), ((), ((), ((), ((), ((), ((), ((), ((), ((), ((), ((), ((), ((), ((), ((), ((), ((), ((), ((), ())))))))))))))))))))))))))))))))))))))))))))))
abbrev TY37 : Type := ((Nat × UT45) × ((List E46) × (Int × ((E23 × ((List E71) × (Unit × Unit))) × ((List (E58 × E91)) × Unit)))))
noncomputable def G19 (a0 : Int) (b1 : (Nat × UT45)) (b2 : (List E46)) (b3 : Int) (b4 : (E23 × ((List E71) × (Unit × Unit)))) (b5 : (List (E58 × E91))) : Option (Bool × TY37) :=
  (natK b1.1
  ((bif (decide (b3 ≥ 0)) then
    (Option.bind (G48 a0) fun r1 =>
      (bif (decide (r1 > b3)) then
        some (false, ((4, UC45), (b2, (b3, ((b4.1, (b4.2.1, ((), b4.2.2.2))), (b5, ()))))))
        else
        (Option.bind (G48 a0) fun r2 =>
          (Option.bind (G49 (b4.1, (b4.2.1, ((), b4.2.2.2))) a0) fun r3 =>
            (bif (decide (List.length b2 + List.length [r3] ≤ LIM)) then
              some (true, ((0, UC45), ((b2 ++ [r3]), (r2, ((b4.1, (b4.2.1, ((), b4.2.2.2))), (b5, ()))))))
              else
              none)))))
    else
    (Option.bind (G48 a0) fun r4 =>
      (Option.bind (G49 (b4.1, (b4.2.1, ((), b4.2.2.2))) a0) fun r5 =>
        (bif (decide (List.length b2 + List.length [r5] ≤ LIM)) then
          some (true, ((0, UC45), ((b2 ++ [r5]), (r4, ((b4.1, (b4.2.1, ((), b4.2.2.2))), (b5, ()))))))
          else
          none)))))
  (fun _ => none))
abbrev AN35 : PTy := (.cons (.any) (.cons (.any) (.cons (.any) (.cons (.any) (.cons (.any) (.cons (.any) (.cons (.any) (.cons (.any) (.cons (.any) (.cons (.any) (.cons (.any) (.cons (.any) (.cons (.any) (.cons (.any) (.cons (.any) (.cons (.any) (.cons (.any) (.cons (.any) (.cons (.any) (.cons (.any) (.cons (.any) (.cons (.any) (.cons (.any) (.cons (.any) (.cons (.any) (.cons (.any) (.cons (.any) (.cons (.any) (.cons (.any) (.cons (.any) (.cons (.any) (.cons (.any) (.cons (.any) (.cons (.any) (.cons (.any) (.nil))))))))))))))))))))))))))))))))))))
abbrev G19_CS : CSpec := ⟨[.fix (.yref 0), .dat (.int .i64)], [.lp 19 0 (.cons (.any) (.cons (.any) (.cons (.any) (.cons (.any) (.cons (.any) (.cons (.any) (.cons (.fix (.bptr 1 [])) (.cons (.any) (.cons (.fix (.bptr 2 [])) (.cons (.fix (.bptr 3 [])) AN35)))))))))), .fix (.bptr 4 []), .own 0 T46, .dat (.int .i64), .cons (.dat T23) (.cons (.dat (.list T71)) (.cons (.fix (.mref 5)) (.nil))), .map T58 T91], 1, [.lp 19 0 (.cons (.any) (.cons (.any) (.cons (.any) (.cons (.any) (.cons (.any) (.cons (.any) (.cons (.fix (.bptr 1 [])) (.cons (.any) (.cons (.fix (.bptr 2 [])) (.cons (.fix (.bptr 3 [])) AN35)))))))))), .fix (.bptr 4 []), .own 0 T46, .dat (.int .i64), .cons (.dat T23) (.cons (.dat (.list T71)) (.cons (.fix (.mref 5)) (.nil))), .map T58 T91], 1, .dat .bool⟩
noncomputable def G19_E : CEnt := boxE YLD G19_CS fun x => G19 x.1.1 x.2.1 x.2.2.1 x.2.2.2.1 x.2.2.2.2.1 x.2.2.2.2.2.1
theorem G19_LV : LV 6 Tryz.prog true (loopsOf (rfBody (lcode 19 0))) [] := by unfold LV; cases loopsOf (rfBody (lcode 19 0)) <;> trivial
theorem G19_hev : ∀ x : G19_CS.In, roundR Tryz.prog G19_C [] 19 0 (encs G19_CS.A x.1) ⟨encs G19_CS.I x.2, [], G19_CS.nt⟩ (finK G19_CS) = G19 x.1.1 x.2.1 x.2.2.1 x.2.2.2.1 x.2.2.2.2.1 x.2.2.2.2.2.1 := by
  intro x; kernel_rfl
theorem G19_valid : G19_E.Valid Tryz.prog :=
  boxE_valid (S := G19_CS) (by kernel_rfl) (.inl rfl) (rd_lcall' (S := G19_CS) mixed G19_CV (by kernel_rfl) G19_LV ⟨_, rfl⟩ (by decide) (by kernel_rfl) (by kernel_rfl) G19_hev)
abbrev G75_CS : CSpec := ⟨[.dat (.int .i64), .dat (.int .i64), .dat (.int .i64), .fix (.bptr 0 []), .fix (.bptr 1 []), .fix (.bptr 2 [])], [.fix (.bptr 3 []), .fix (.yref 4), .fix (.func (.func 75) .nil (.cons (.bptr 0 []) (.cons (.bptr 1 []) (.cons (.bptr 2 []) .nil)))), .cons (.dat T23) (.cons (.dat (.list T71)) (.cons (.fix (.mref 5)) (.nil))), .lp 19 0 (.cons (.any) (.cons (.any) (.cons (.any) (.cons (.any) (.cons (.any) (.cons (.any) (.cons (.fix (.bptr 6 [])) (.cons (.any) (.cons (.fix (.bptr 7 [])) (.cons (.fix (.bptr 8 [])) AN35)))))))))), .map T58 T91, .fix (.bptr 3 []), .own 0 T46, .dat (.int .i64)], 1, [.fix (.bptr 3 []), .fix (.yref 4), .fix (.func (.func 75) .nil (.cons (.bptr 0 []) (.cons (.bptr 1 []) (.cons (.bptr 2 []) .nil)))), .cons (.dat T23) (.cons (.dat (.list T71)) (.cons (.fix (.mref 5)) (.nil))), .lp 19 0 (.cons (.any) (.cons (.any) (.cons (.any) (.cons (.any) (.cons (.any) (.cons (.any) (.cons (.fix (.bptr 6 [])) (.cons (.any) (.cons (.fix (.bptr 7 [])) (.cons (.fix (.bptr 8 [])) AN35)))))))))), .map T58 T91, .fix (.bptr 3 []), .own 0 T46, .dat (.int .i64)], 1, .dat .bool⟩
abbrev G75_RT : Type := G75_CS.In → Option G75_CS.Out
noncomputable def G75_C (rc : G75_RT) : CalT := tabC [G41_E, G19_E, G47_E, (boxE 75 G75_CS rc)]
theorem G75_CV (rc : G75_RT) (hr : (boxE 75 G75_CS rc).Valid Tryz.prog) : CV Tryz.prog (G75_C rc) := tabC_valid (l := _) ⟨G41_valid, G19_valid, G47_valid, hr, trivial⟩
noncomputable def G75_l0_c : Code := loopAt (bodyOf Tryz.f75) 0
abbrev PA38 : PTy := (.cons (.any) (.cons (.any) (.cons (.any) (.cons (.any) (.cons (.any) (.cons (.any) (.cons (.fix (.bptr 6 [])) (.cons (.any) (.cons (.fix (.bptr 7 [])) (.cons (.fix (.bptr 8 [])) AN35))))))))))
noncomputable def G75_l0_S : SPat := ⟨[.dat (.int .i64), .any, .dat (.int .i64), .fix (.bptr 0 []), .any, .fix (.bptr 2 []), .any, .any, .any, .dat .bool, .dat (.int .i64), .any, .any, .any, .any, .any, .any, .any, .any, .any, .any, .any, .any, .any, .any, .any, .any, .any, .any, .any, .any, .any, .any, .any, .any, .any, .any, .any, .any, .any], [.fix (.bptr 3 []), .fix (.yref 4), .fix (.func (.func 75) .nil (.cons (.bptr 0 []) (.cons (.bptr 1 []) (.cons (.bptr 2 []) .nil)))), .cons (.dat T23) (.cons (.dat (.list T71)) (.cons (.fix (.mref 5)) (.nil))), .lp 19 0 PA38, .map T58 T91, .fix (.bptr 3 []), .own 0 T46, .dat (.int .i64)], 1⟩
abbrev TY39 : Type := ((Int × (Int × (Bool × (Int × Unit)))) × ((E23 × ((List E71) × (Unit × Unit))) × ((Nat × UT45) × ((List (E58 × E91)) × ((List E46) × (Int × Unit))))))
abbrev TY40 : Type := (Nat × ((Int × (Int × (Bool × (Int × Unit)))) × ((E23 × ((List E71) × (Unit × Unit))) × ((Nat × UT45) × ((List (E58 × E91)) × ((List E46) × (Int × Unit)))))))
noncomputable def G75_l0_step (rc : G75_RT) (s : TY39) : Option TY40 :=
  (Option.bind (G47 (s.2.1.1, (s.2.1.2.1, ((), s.2.1.2.2.2)))) fun r3 =>
  (bif (decide (s.1.2.2.2.1 < r3)) then
    (bif (!decide (s.1.2.2.2.1 < 0)) then
      (Option.bind (rc (((IntKind.wrap .i64 (s.1.1 - 1)), ((IntKind.wrap .i64 (s.1.2.2.2.1 + 1)), ((IntKind.wrap .i64 ((BitVec.toNat ((BitVec.ofInt (IntKind.bits .i64) s.1.2.1) ||| (BitVec.ofInt (IntKind.bits .i64) (IntKind.wrap .i64 (1 * 2 ^ (min (Int.toNat s.1.2.2.2.1) (IntKind.bits .i64)))))) : Nat) : Int)), ()))), ((s.2.1.1, (s.2.1.2.1, ((), s.2.1.2.2.2))), ((s.2.2.1.1, UC45), (s.2.2.2.1, (s.2.2.2.2.1, (s.2.2.2.2.2.1, ()))))))) fun r4 =>
        (bif (!r4.1) then
          some (1, ((s.1.1, (s.1.2.1, (false, (s.1.2.2.2.1, ())))), ((r4.2.1.1, (r4.2.1.2.1, ((), r4.2.1.2.2.2))), ((r4.2.2.1.1, UC45), (r4.2.2.2.1, (r4.2.2.2.2.1, (r4.2.2.2.2.2.1, ())))))))
          else
          some (0, ((s.1.1, (s.1.2.1, (s.1.2.2.1, ((IntKind.wrap .i64 (s.1.2.2.2.1 + 1)), ())))), ((r4.2.1.1, (r4.2.1.2.1, ((), r4.2.1.2.2.2))), ((r4.2.2.1.1, UC45), (r4.2.2.2.1, (r4.2.2.2.2.1, (r4.2.2.2.2.2.1, ())))))))))
      else
      none)
    else
    some (2, ((s.1.1, (s.1.2.1, (s.1.2.2.1, (s.1.2.2.2.1, ())))), ((s.2.1.1, (s.2.1.2.1, ((), s.2.1.2.2.2))), ((s.2.2.1.1, UC45), (s.2.2.2.1, (s.2.2.2.2.1, (s.2.2.2.2.2.1, ())))))))))
noncomputable def G75_l0_fuel (s : TY39) : Nat := 100000
noncomputable def G75_l0_run (rc : G75_RT) (s : TY39) : Option TY40 := iter (G75_l0_step rc) (G75_l0_fuel s) s
noncomputable def G75_l0_L (rc : G75_RT) : LoopT := loopT G75_l0_S [.ret, .exit 0] (G75_l0_run rc)
noncomputable def G75_b (rc : G75_RT) (a0 : Int) (a1 : Int) (a2 : Int) (b3 : (E23 × ((List E71) × (Unit × Unit)))) (b4 : (Nat × UT45)) (b5 : (List (E58 × E91))) (b6 : (List E46)) (b7 : Int) : Option (Bool × ((E23 × ((List E71) × (Unit × Unit))) × ((Nat × UT45) × ((List (E58 × E91)) × ((List E46) × (Int × Unit)))))) :=
  (bif (a0 == 0) then
  (Option.bind (G41 a2 (b3.1, (b3.2.1, ((), b3.2.2.2))) b5) fun r1 =>
    (bif (!r1.1) then
      some (true, ((r1.2.1.1, (r1.2.1.2.1, ((), r1.2.1.2.2.2))), ((b4.1, UC45), (r1.2.2.1, (b6, (b7, ()))))))
      else
      (Option.bind (G19 a2 (b4.1, UC45) b6 b7 (r1.2.1.1, (r1.2.1.2.1, ((), r1.2.1.2.2.2))) r1.2.2.1) fun r2 =>
        some (r2.1, ((r2.2.2.2.2.1.1, (r2.2.2.2.2.1.2.1, ((), r2.2.2.2.2.1.2.2.2))), ((r2.2.1.1, UC45), (r2.2.2.2.2.2.1, (r2.2.2.1, (r2.2.2.2.1, ())))))))))
  else
  (Option.bind (G75_l0_run rc ((a0, (a2, (false, (a1, ())))), ((b3.1, (b3.2.1, ((), b3.2.2.2))), ((b4.1, UC45), (b5, (b6, (b7, ()))))))) fun q5 =>
    (natK q5.1
      (some (q5.2.1.2.2.1, ((q5.2.2.1.1, (q5.2.2.1.2.1, ((), q5.2.2.1.2.2.2))), ((q5.2.2.2.1.1, UC45), (q5.2.2.2.2.1, (q5.2.2.2.2.2.1, (q5.2.2.2.2.2.2.1, ())))))))
      (fun _ => some (true, ((q5.2.2.1.1, (q5.2.2.1.2.1, ((), q5.2.2.1.2.2.2))), ((q5.2.2.2.1.1, UC45), (q5.2.2.2.2.1, (q5.2.2.2.2.2.1, (q5.2.2.2.2.2.2.1, ()))))))))))
noncomputable def G75_fix : Nat → G75_RT := recF fun rc x => G75_b rc x.1.1 x.1.2.1 x.1.2.2.1 x.2.1 x.2.2.1 x.2.2.2.1 x.2.2.2.2.1 x.2.2.2.2.2.1
noncomputable def G75 (a0 : Int) (a1 : Int) (a2 : Int) (b3 : (E23 × ((List E71) × (Unit × Unit)))) (b4 : (Nat × UT45)) (b5 : (List (E58 × E91))) (b6 : (List E46)) (b7 : Int) : Option (Bool × ((E23 × ((List E71) × (Unit × Unit))) × ((Nat × UT45) × ((List (E58 × E91)) × ((List E46) × (Int × Unit)))))) := G75_fix 64 ((a0, (a1, (a2, ()))), (b3, (b4, (b5, (b6, (b7, ()))))))
noncomputable def G75_E : CEnt := boxE 75 G75_CS fun x => G75 x.1.1 x.1.2.1 x.1.2.2.1 x.2.1 x.2.2.1 x.2.2.2.1 x.2.2.2.2.1 x.2.2.2.2.2.1
theorem G75_l0_V (rc : G75_RT) (hr : (boxE 75 G75_CS rc).Valid Tryz.prog) : LValid 9 Tryz.prog (.loop G75_l0_c) (G75_l0_L rc) false := by
  have hb : ∀ s, codeR Tryz.prog (G75_C rc) G75_l0_c [] (G75_l0_S.encE s) (G75_l0_S.encB s) (kst G75_l0_S [.ret, .exit 0]) = G75_l0_step rc s := by
    intro s; kernel_rfl
  have hL : LV 9 Tryz.prog false (loopsOf G75_l0_c) [] := by unfold LV; cases loopsOf G75_l0_c <;> trivial
  exact loopT_valid (fuel := G75_l0_fuel) mixed (G75_CV rc hr) hL (by kernel_rfl) (by decide) rfl hb (fun s r h => h)
theorem G75_LV (rc : G75_RT) (hr : (boxE 75 G75_CS rc).Valid Tryz.prog) : LV 9 Tryz.prog false (loopsOf (bodyOf Tryz.f75)) [(G75_l0_L rc)] := by
  have hl : loopsOf (bodyOf Tryz.f75) = [.loop G75_l0_c] := by kernel_rfl
  rw [hl]; exact ⟨G75_l0_V rc hr, trivial⟩
theorem G75_ent : Ent Tryz.prog 75 := ⟨by decide, enters_of Tryz.func75 (by kernel_rfl) rfl⟩
theorem G75_hev (rc : G75_RT) : ∀ x : G75_CS.In, fnR Tryz.prog (G75_C rc) [(G75_l0_L rc)] Tryz.f75 (bodyOf Tryz.f75) (encs G75_CS.A x.1) ⟨encs G75_CS.I x.2, [], G75_CS.nt⟩ (finK G75_CS) = G75_b rc x.1.1 x.1.2.1 x.1.2.2.1 x.2.1 x.2.2.1 x.2.2.2.1 x.2.2.2.2.1 x.2.2.2.2.2.1 := by
  intro x; kernel_rfl
theorem G75_valid : G75_E.Valid Tryz.prog :=
  rec_valid (S := G75_CS) (body := fun rc x => G75_b rc x.1.1 x.1.2.1 x.1.2.2.1 x.2.1 x.2.2.1 x.2.2.2.1 x.2.2.2.2.1 x.2.2.2.2.2.1) (by kernel_rfl) (.inr G75_ent) (fun rc hr => fn_lcall (S := G75_CS) mixed Tryz.func75 rfl G75_ent (G75_CV rc hr) (G75_LV rc hr) (by kernel_rfl) (by kernel_rfl) (G75_hev rc)) 64
noncomputable def G74_C : CalT := tabC [G75_E]
theorem G74_CV : CV Tryz.prog G74_C := tabC_valid (l := _) ⟨G75_valid, trivial⟩
noncomputable def G74_l0_c : Code := loopAt (bodyOf Tryz.f74) 0
abbrev PA41 : PTy := (.cons (.any) (.cons (.any) (.cons (.any) (.cons (.any) (.cons (.any) (.cons (.any) (.cons (.fix (.bptr 3 [])) (.cons (.any) (.cons (.fix (.bptr 4 [])) (.cons (.fix (.bptr 5 [])) AN35))))))))))
noncomputable def G74_l0_S : SPat := ⟨[.any, .any, .any, .any, .fix (.bptr 9 []), .any, .any, .any, .dat (.int .i64), .dat (.int .i64), .any, .any, .any, .any, .any, .any, .any], [.lp 19 0 PA41, .fix (.bptr 6 []), .dat (.int .i64), .fix (.bptr 6 []), .own 0 T46, .dat (.int .i64), .cons (.dat T23) (.cons (.dat (.list T71)) (.cons (.fix (.mref 7)) (.nil))), .map T58 T91, .fix (.yref 0), .fix (.func (.func 75) .nil (.cons (.bptr 1 []) (.cons (.bptr 8 []) (.cons (.bptr 9 []) .nil))))], 1⟩
abbrev TY42 : Type := ((Int × (Int × Unit)) × ((Nat × UT45) × (Int × ((List E46) × (Int × ((E23 × ((List E71) × (Unit × Unit))) × ((List (E58 × E91)) × Unit)))))))
abbrev TY43 : Type := (Nat × ((Int × (Int × Unit)) × ((Nat × UT45) × (Int × ((List E46) × (Int × ((E23 × ((List E71) × (Unit × Unit))) × ((List (E58 × E91)) × Unit))))))))
noncomputable def G74_l0_step (s : TY42) : Option TY43 :=
  (bif (decide (s.1.2.1 < s.1.1)) then
  (Option.bind (G75 s.1.2.1 0 0 (s.2.2.2.2.2.1.1, (s.2.2.2.2.2.1.2.1, ((), s.2.2.2.2.2.1.2.2.2))) (s.2.1.1, UC45) s.2.2.2.2.2.2.1 s.2.2.2.1 s.2.2.2.2.1) fun r1 =>
    (bif (!r1.1) then
      some (1, ((s.1.1, (s.1.2.1, ())), ((r1.2.2.1.1, UC45), (s.2.2.1, (r1.2.2.2.2.1, (r1.2.2.2.2.2.1, ((r1.2.1.1, (r1.2.1.2.1, ((), r1.2.1.2.2.2))), (r1.2.2.2.1, ()))))))))
      else
      some (0, ((s.1.1, ((IntKind.wrap .i64 (s.1.2.1 + 1)), ())), ((r1.2.2.1.1, UC45), (s.2.2.1, (r1.2.2.2.2.1, (r1.2.2.2.2.2.1, ((r1.2.1.1, (r1.2.1.2.1, ((), r1.2.1.2.2.2))), (r1.2.2.2.1, ()))))))))))
  else
  some (2, ((s.1.1, (s.1.2.1, ())), ((s.2.1.1, UC45), (s.2.2.1, (s.2.2.2.1, (s.2.2.2.2.1, ((s.2.2.2.2.2.1.1, (s.2.2.2.2.2.1.2.1, ((), s.2.2.2.2.2.1.2.2.2))), (s.2.2.2.2.2.2.1, ())))))))))
noncomputable def G74_l0_fuel (s : TY42) : Nat := Int.toNat (s.1.1 - s.1.2.1) + 1
noncomputable def G74_l0_run (s : TY42) : Option TY43 := iter G74_l0_step (G74_l0_fuel s) s
noncomputable def G74_l0_L : LoopT := loopT G74_l0_S [.ret, .exit 0] G74_l0_run
abbrev TY44 : Type := (Unit × ((Nat × UT45) × (Int × ((List E46) × (Int × ((E23 × ((List E71) × (Unit × Unit))) × ((List (E58 × E91)) × Unit)))))))
noncomputable def G74 (b0 : (Nat × UT45)) (b1 : Int) (b2 : (List E46)) (b3 : Int) (b4 : (E23 × ((List E71) × (Unit × Unit)))) (b5 : (List (E58 × E91))) : Option TY44 :=
  (Option.bind (G74_l0_run (((IntKind.wrap .i64 (b1 + 1)), (0, ())), ((b0.1, UC45), (b1, (b2, (b3, ((b4.1, (b4.2.1, ((), b4.2.2.2))), (b5, ())))))))) fun q2 =>
  (natK q2.1
    (some ((), ((q2.2.2.1.1, UC45), (q2.2.2.2.1, (q2.2.2.2.2.1, (q2.2.2.2.2.2.1, ((q2.2.2.2.2.2.2.1.1, (q2.2.2.2.2.2.2.1.2.1, ((), q2.2.2.2.2.2.2.1.2.2.2))), (q2.2.2.2.2.2.2.2.1, ()))))))))
    (fun _ => some ((), ((q2.2.2.1.1, UC45), (q2.2.2.2.1, (q2.2.2.2.2.1, (q2.2.2.2.2.2.1, ((q2.2.2.2.2.2.2.1.1, (q2.2.2.2.2.2.2.1.2.1, ((), q2.2.2.2.2.2.2.1.2.2.2))), (q2.2.2.2.2.2.2.2.1, ()))))))))))
abbrev G74_CS : CSpec := ⟨[.fix (.yref 0), .fix (.bptr 1 []), .fix (.bptr 2 [])], [.lp 19 0 (.cons (.any) (.cons (.any) (.cons (.any) (.cons (.any) (.cons (.any) (.cons (.any) (.cons (.fix (.bptr 3 [])) (.cons (.any) (.cons (.fix (.bptr 4 [])) (.cons (.fix (.bptr 5 [])) AN35)))))))))), .fix (.bptr 6 []), .dat (.int .i64), .fix (.bptr 6 []), .own 0 T46, .dat (.int .i64), .cons (.dat T23) (.cons (.dat (.list T71)) (.cons (.fix (.mref 7)) (.nil))), .map T58 T91], 1, [.lp 19 0 (.cons (.any) (.cons (.any) (.cons (.any) (.cons (.any) (.cons (.any) (.cons (.any) (.cons (.fix (.bptr 3 [])) (.cons (.any) (.cons (.fix (.bptr 4 [])) (.cons (.fix (.bptr 5 [])) AN35)))))))))), .fix (.bptr 6 []), .dat (.int .i64), .fix (.bptr 6 []), .own 0 T46, .dat (.int .i64), .cons (.dat T23) (.cons (.dat (.list T71)) (.cons (.fix (.mref 7)) (.nil))), .map T58 T91], 1, .tup (.nil)⟩
noncomputable def G74_E : CEnt := boxE 74 G74_CS fun x => G74 x.2.1 x.2.2.1 x.2.2.2.1 x.2.2.2.2.1 x.2.2.2.2.2.1 x.2.2.2.2.2.2.1
theorem G74_l0_V : LValid 8 Tryz.prog (.loop G74_l0_c) G74_l0_L false := by
  have hb : ∀ s, codeR Tryz.prog G74_C G74_l0_c [] (G74_l0_S.encE s) (G74_l0_S.encB s) (kst G74_l0_S [.ret, .exit 0]) = G74_l0_step s := by
    intro s; kernel_rfl
  have hL : LV 8 Tryz.prog false (loopsOf G74_l0_c) [] := by unfold LV; cases loopsOf G74_l0_c <;> trivial
  exact loopT_valid (fuel := G74_l0_fuel) mixed G74_CV hL (by kernel_rfl) (by decide) rfl hb (fun s r h => h)
theorem G74_LV : LV 8 Tryz.prog false (loopsOf (bodyOf Tryz.f74)) [G74_l0_L] := by
  have hl : loopsOf (bodyOf Tryz.f74) = [.loop G74_l0_c] := by kernel_rfl
  rw [hl]; exact ⟨G74_l0_V, trivial⟩
theorem G74_ent : Ent Tryz.prog 74 := ⟨by decide, enters_of Tryz.func74 (by kernel_rfl) rfl⟩
theorem G74_hev : ∀ x : G74_CS.In, fnR Tryz.prog G74_C [G74_l0_L] Tryz.f74 (bodyOf Tryz.f74) (encs G74_CS.A x.1) ⟨encs G74_CS.I x.2, [], G74_CS.nt⟩ (finK G74_CS) = G74 x.2.1 x.2.2.1 x.2.2.2.1 x.2.2.2.2.1 x.2.2.2.2.2.1 x.2.2.2.2.2.2.1 := by
  intro x; kernel_rfl
theorem G74_valid : G74_E.Valid Tryz.prog :=
  boxE_valid (S := G74_CS) (by kernel_rfl) (.inr G74_ent) (fn_lcall (S := G74_CS) mixed Tryz.func74 rfl G74_ent G74_CV G74_LV (by kernel_rfl) (by kernel_rfl) G74_hev)
noncomputable def g19_sense_Least_C : CalT := tabC [G26_v2_E, G47_E, G46_E, G74_E]
theorem g19_sense_Least_CV : CV Tryz.prog g19_sense_Least_C := tabC_valid (l := _) ⟨G26_v2_valid, G47_valid, G46_valid, G74_valid, trivial⟩
noncomputable def g19_sense_Least_f0_L : LoopT := rfT g19_sense_Least_C 19 0 (.tmp 23) [.normal, .exit 0]
noncomputable def g19_sense_Least (a0 : E23) (a1 : (List E71)) : Option ((List E46) × (Int × Unit)) :=
  (Option.bind (G26_v2 a0 a1) fun r1 =>
  (altK r1
    (fun r2 => (bif (r2.1.2.1 != 0) then
      some ([], (r2.1.2.1, ()))
      else
      none))
    (fun r3 => (bif (r3.1.2.1 != 0) then
      some ([], (r3.1.2.1, ()))
      else
      (Option.bind (G47 (r3.2.2.2.1.1, (r3.2.2.2.1.2.1, ((), r3.2.2.2.1.2.2.2)))) fun r4 =>
        (Option.bind (G46 r4 (r3.2.2.2.1.1, (r3.2.2.2.1.2.1, ((), r3.2.2.2.1.2.2.2))) r3.2.2.1) fun r5 =>
          (Option.bind (G74 (0, UC45) r5.2.2.2.1 [] (-1) (r5.2.1.1, (r5.2.1.2.1, ((), r5.2.1.2.2.2))) r5.2.2.1) fun r6 =>
            (bif (r6.2.1.1 == 0) then
              (bif ((List.length r6.2.2.2.1 : Int) == 0) then
                some ([], (5, ()))
                else
                some (r6.2.2.2.1, (0, ())))
              else
              (bif (r6.2.1.1 == 4) then
                (bif ((List.length r6.2.2.2.1 : Int) == 0) then
                  some ([], (5, ()))
                  else
                  some (r6.2.2.2.1, (0, ())))
                else
                none)))))))))
noncomputable def g19_sense_Least_E : CEnt := pureE 19 [.dat T23, .dat (.list T71)] (.tup (.cons (.dat (.list T46)) (.cons (.dat (.int .i64)) (.nil)))) fun x => g19_sense_Least x.1 x.2.1
theorem g19_sense_Least_f0_V : LValid 0 Tryz.prog (lcode 19 0) g19_sense_Least_f0_L := rfT_valid' g19_sense_Least_CV (by kernel_rfl)
theorem g19_sense_Least_LV : LV 0 Tryz.prog false (loopsOf (bodyOf Tryz.f19)) [g19_sense_Least_f0_L] := by
  have hl : loopsOf (bodyOf Tryz.f19) = [(lcode 19 0)] := by kernel_rfl
  rw [hl]; exact ⟨g19_sense_Least_f0_V, trivial⟩
theorem g19_sense_Least_ent : Ent Tryz.prog 19 := ⟨by decide, enters_of Tryz.func19 (by kernel_rfl) rfl⟩
theorem g19_sense_Least_hev : ∀ x, fnR Tryz.prog g19_sense_Least_C [g19_sense_Least_f0_L] Tryz.f19 (bodyOf Tryz.f19) (encs [.dat T23, .dat (.list T71)] x) ⟨[], [], 0⟩ (frzF (.tup (.cons (.dat (.list T46)) (.cons (.dat (.int .i64)) (.nil))))) = g19_sense_Least x.1 x.2.1 := by
  intro x; kernel_rfl
theorem g19_sense_Least_valid : g19_sense_Least_E.Valid Tryz.prog :=
  pureE_valid (by kernel_rfl) (by kernel_rfl) g19_sense_Least_ent (frz_lcall mixed Tryz.func19 rfl g19_sense_Least_ent g19_sense_Least_CV g19_sense_Least_LV (by kernel_rfl) (by kernel_rfl) g19_sense_Least_hev)
noncomputable def G50_C : CalT := tabC [G47_E, G51_E]
theorem G50_CV : CV Tryz.prog G50_C := tabC_valid (l := _) ⟨G47_valid, G51_valid, trivial⟩
noncomputable def G50 (b0 : (E23 × ((List E71) × (Unit × Unit)))) (b1 : Int) (b2 : (List (E58 × E91))) : Option (Bool × ((E23 × ((List E71) × (Unit × Unit))) × (Int × ((List (E58 × E91)) × Unit)))) :=
  (Option.bind (G47 (b0.1, (b0.2.1, ((), b0.2.2.2)))) fun r1 =>
  (Option.bind (G51 b1 0 r1) fun r2 =>
    some (r2, ((b0.1, (b0.2.1, ((), b0.2.2.2))), (b1, (b2, ()))))))
abbrev G50_CS : CSpec := ⟨[.fix (.bptr 0 []), .fix (.bptr 1 [])], [.cons (.dat T23) (.cons (.dat (.list T71)) (.cons (.fix (.mref 2)) (.nil))), .dat (.int .i64), .map T58 T91], 0, [.cons (.dat T23) (.cons (.dat (.list T71)) (.cons (.fix (.mref 2)) (.nil))), .dat (.int .i64), .map T58 T91], 0, .dat .bool⟩
noncomputable def G50_E : CEnt := boxE 50 G50_CS fun x => G50 x.2.1 x.2.2.1 x.2.2.2.1
theorem G50_LV : LV 3 Tryz.prog false (loopsOf (bodyOf Tryz.f50)) [] := by unfold LV; cases loopsOf (bodyOf Tryz.f50) <;> trivial
theorem G50_ent : Ent Tryz.prog 50 := ⟨by decide, enters_of Tryz.func50 (by kernel_rfl) rfl⟩
theorem G50_hev : ∀ x : G50_CS.In, fnR Tryz.prog G50_C [] Tryz.f50 (bodyOf Tryz.f50) (encs G50_CS.A x.1) ⟨encs G50_CS.I x.2, [], G50_CS.nt⟩ (finK G50_CS) = G50 x.2.1 x.2.2.1 x.2.2.2.1 := by
  intro x; kernel_rfl
theorem G50_valid : G50_E.Valid Tryz.prog :=
  boxE_valid (S := G50_CS) (by kernel_rfl) (.inr G50_ent) (fn_lcall (S := G50_CS) mixed Tryz.func50 rfl G50_ent G50_CV G50_LV (by kernel_rfl) (by kernel_rfl) G50_hev)
noncomputable def G26_v3_C : CalT := tabC [G57_E, G58_E, G50_E]
theorem G26_v3_CV : CV Tryz.prog G26_v3_C := tabC_valid (l := _) ⟨G57_valid, G58_valid, G50_valid, trivial⟩
abbrev TY45 : Type := (Int × (E23 × ((List (E58 × E91)) × ((E23 × ((List E71) × (Unit × Unit))) × Unit))))
noncomputable def G26_v3 (a0 : E23) (a1 : (List E71)) (b2 : Int) : Option (((Unit × (Int × Unit)) × (Int × Unit)) ⊕ ((Unit × (Int × Unit)) × TY45)) :=
  (bif (decide ((List.length a1 : Int) > 24)) then
  some (Sum.inl (((), (3, ())), (b2, ())))
  else
  (Option.bind (G57 a0) fun r1 =>
    (bif (!r1) then
      some (Sum.inl (((), (2, ())), (b2, ())))
      else
      (Option.bind (G58 a1 a0) fun r2 =>
        (bif r2.1 then
          some (Sum.inl (((), (2, ())), (b2, ())))
          else
          (Option.bind (G50 (a0, (a1, ((), ()))) b2 ([] : List (E58 × E91))) fun r3 =>
            (bif (!r3.1) then
              some (Sum.inl (((), (2, ())), (r3.2.2.1, ())))
              else
              some (Sum.inr (((), (0, ())), (r3.2.2.1, (r2.2.1, (r3.2.2.2.1, ((r3.2.1.1, (r3.2.1.2.1, ((), r3.2.1.2.2.2))), ())))))))))))))
abbrev G26_v3_CS : CSpec := ⟨[.dat T23, .dat (.list T71), .fix (.func (.func 50) .nil (.cons (.bptr 0 []) .nil))], [.dat (.int .i64)], 0, [.dat (.int .i64)], 0, .tup (.cons (.fix .pnil) (.cons (.dat (.int .i64)) (.nil)))⟩
abbrev G26_v3_O2 : List PTy := [.dat (.int .i64), .dat T23, .map T58 T91, .cons (.dat T23) (.cons (.dat (.list T71)) (.cons (.fix (.mref 2)) (.nil)))]
abbrev G26_v3_R2 : PTy := .tup (.cons (.fix (.bptr 3 [])) (.cons (.dat (.int .i64)) (.nil)))
noncomputable def G26_v3_E : CEnt := altE 26 G26_v3_CS G26_v3_O2 0 G26_v3_R2 fun x => G26_v3 x.1.1 x.1.2.1 x.2.1
theorem G26_v3_LV : LV 1 Tryz.prog false (loopsOf (bodyOf Tryz.f26)) [] := by unfold LV; cases loopsOf (bodyOf Tryz.f26) <;> trivial
theorem G26_v3_ent : Ent Tryz.prog 26 := ⟨by decide, enters_of Tryz.func26 (by kernel_rfl) rfl⟩
theorem G26_v3_hev : ∀ x : G26_v3_CS.In, fnR Tryz.prog G26_v3_C [] Tryz.f26 (bodyOf Tryz.f26) (encs G26_v3_CS.A x.1) ⟨encs G26_v3_CS.I x.2, [], G26_v3_CS.nt⟩ (finK2 G26_v3_CS G26_v3_O2 0 G26_v3_R2) = G26_v3 x.1.1 x.1.2.1 x.2.1 := by
  intro x; kernel_rfl
theorem G26_v3_valid : G26_v3_E.Valid Tryz.prog :=
  altE_valid (S := G26_v3_CS) (by kernel_rfl) (by kernel_rfl) (.inr G26_v3_ent) (alt_lcall (S := G26_v3_CS) mixed Tryz.func26 rfl G26_v3_ent G26_v3_CV G26_v3_LV (by kernel_rfl) (by kernel_rfl) (by kernel_rfl) (by kernel_rfl) G26_v3_hev)
noncomputable def G46_v1_C : CalT := tabC []
theorem G46_v1_CV : CV Tryz.prog G46_v1_C := tabC_valid (l := _) trivial
noncomputable def G46_v1 (a0 : Int) : Option (Unit × (Int × Unit)) :=
  some ((), (a0, ()))
abbrev G46_v1_CS : CSpec := ⟨[.fix .pnil, .dat (.int .i64)], [], 0, [.fix .pnil, .dat (.int .i64)], 0, .fix (.func (.func 74) .nil (.cons (.bptr 0 []) (.cons (.bptr 1 []) .nil)))⟩
noncomputable def G46_v1_E : CEnt := boxE 46 G46_v1_CS fun x => G46_v1 x.1.1
theorem G46_v1_LV : LV 0 Tryz.prog false (loopsOf (bodyOf Tryz.f46)) [] := by unfold LV; cases loopsOf (bodyOf Tryz.f46) <;> trivial
theorem G46_v1_ent : Ent Tryz.prog 46 := ⟨by decide, enters_of Tryz.func46 (by kernel_rfl) rfl⟩
theorem G46_v1_hev : ∀ x : G46_v1_CS.In, fnR Tryz.prog G46_v1_C [] Tryz.f46 (bodyOf Tryz.f46) (encs G46_v1_CS.A x.1) ⟨encs G46_v1_CS.I x.2, [], G46_v1_CS.nt⟩ (finK G46_v1_CS) = G46_v1 x.1.1 := by
  intro x; kernel_rfl
theorem G46_v1_valid : G46_v1_E.Valid Tryz.prog :=
  boxE_valid (S := G46_v1_CS) (by kernel_rfl) (.inr G46_v1_ent) (fn_lcall (S := G46_v1_CS) mixed Tryz.func46 rfl G46_v1_ent G46_v1_CV G46_v1_LV (by kernel_rfl) (by kernel_rfl) G46_v1_hev)
noncomputable def G74_v1_C : CalT := tabC []
theorem G74_v1_CV : CV Tryz.prog G74_v1_C := tabC_valid (l := _) trivial
noncomputable def G74_v1_l0_c : Code := loopAt (bodyOf Tryz.f74) 0
abbrev AN61 : PTy := (.cons (.any) (.cons (.any) (.cons (.any) (.cons (.any) (.cons (.any) (.cons (.any) (.cons (.any) (.cons (.any) (.cons (.any) (.cons (.any) (.cons (.any) (.cons (.any) (.cons (.any) (.cons (.any) (.cons (.any) (.cons (.any) (.cons (.any) (.cons (.any) (.cons (.any) (.cons (.any) (.cons (.any) (.cons (.any) (.cons (.any) (.cons (.any) (.cons (.any) (.cons (.any) (.cons (.any) (.cons (.any) (.cons (.any) (.cons (.any) (.cons (.any) (.cons (.any) (.cons (.any) (.cons (.any) (.cons (.any) (.cons (.any) (.cons (.any) (.cons (.any) (.cons (.any) (.cons (.any) (.cons (.any) (.cons (.any) (.cons (.any) (.cons (.any) (.cons (.any) (.cons (.any) (.cons (.any) (.cons (.any) (.cons (.any) (.cons (.any) (.cons (.any) (.cons (.any) (.cons (.any) (.cons (.any) (.cons (.any) (.cons (.any) (.cons (.any) (.cons (.any) (.cons (.any) (.cons (.any) (.cons (.any) (.nil))))))))))))))))))))))))))))))))))))))))))))))))))))))))))))))
abbrev PA46 : PTy := (.cons (.any) (.cons (.any) (.cons (.any) (.cons (.any) (.cons (.any) (.cons (.any) (.cons (.any) (.cons (.any) (.cons (.any) (.cons (.any) (.cons (.fix (.bptr 3 [])) (.cons (.fix (.bptr 4 [])) AN61))))))))))))
noncomputable def G74_v1_l0_S : SPat := ⟨[.any, .any, .any, .any, .fix (.bptr 6 []), .any, .any, .any, .dat (.int .i64), .dat (.int .i64), .any, .any, .any, .any, .any, .any, .any], [.lp 21 0 PA46, .fix .pnil, .dat (.int .i64), .cons (.dat (.int .i64)) (.cons (.dat (.int .i64)) (.nil)), .dat .bool, .fix (.yref 0), .fix (.func (.func 75) .nil (.cons (.bptr 1 []) (.cons (.bptr 5 []) (.cons (.bptr 6 []) .nil))))], 0⟩
abbrev UT73 : Type := (Unit × (Unit × (Unit × (Unit × (Unit × (Unit × (Unit × (Unit × (Unit × (Unit × (Unit × (Unit × (Unit × (Unit × (Unit × (Unit × (Unit × (Unit × (Unit × (Unit × (Unit × (Unit × (Unit × (Unit × (Unit × (Unit × (Unit × (Unit × (Unit × (Unit × (Unit × (Unit × (Unit × (Unit × (Unit × (Unit × (Unit × (Unit × (Unit × (Unit × (Unit × (Unit × (Unit × (Unit × (Unit × (Unit × (Unit × (Unit × (Unit × (Unit × (Unit × (Unit × (Unit × (Unit × (Unit × (Unit × (Unit × (Unit × (Unit × (Unit × (Unit × (Unit × (Unit × (Unit × (Unit × (Unit × (Unit × (Unit × (Unit × (Unit × (Unit × (Unit × (Unit × Unit)))))))))))))))))))))))))))))))))))))))))))))))))))))))))))))))))))))))))
abbrev UC73 : (Unit × (Unit × (Unit × (Unit × (Unit × (Unit × (Unit × (Unit × (Unit × (Unit × (Unit × (Unit × (Unit × (Unit × (Unit × (Unit × (Unit × (Unit × (Unit × (Unit × (Unit × (Unit × (Unit × (Unit × (Unit × (Unit × (Unit × (Unit × (Unit × (Unit × (Unit × (Unit × (Unit × (Unit × (Unit × (Unit × (Unit × (Unit × (Unit × (Unit × (Unit × (Unit × (Unit × (Unit × (Unit × (Unit × (Unit × (Unit × (Unit × (Unit × (Unit × (Unit × (Unit × (Unit × (Unit × (Unit × (Unit × (Unit × (Unit × (Unit × (Unit × (Unit × (Unit × (Unit × (Unit × (Unit × (Unit × (Unit × (Unit × (Unit × (Unit × (Unit × (Unit × Unit))))))))))))))))))))))))))))))))))))))))))))))))))))))))))))))))))))))))) := ((), ((), ((), ((), ((), ((), ((), ((), ((), ((), ((), ((), ((), ((), ((), ((), ((), ((), ((), ((), ((), ((), ((), ((), ((), ((), ((), ((), ((), ((), ((), ((), ((), ((), ((), ((), ((), ((), ((), ((), ((), ((), ((), ((), ((), ((), ((), ((), ((), ((), ((), ((), ((), ((), ((), ((), ((), ((), ((), ((), ((), ((), ((), ((), ((), ((), ((), ((), ((), ((), ((), ((), ((), ())))))))))))))))))))))))))))))))))))))))))))))))))))))))))))))))))))))))))
abbrev TY47 : Type := ((Int × (Int × Unit)) × ((Nat × UT73) × (Int × ((Int × (Int × Unit)) × (Bool × Unit)))))
abbrev TY48 : Type := (Nat × ((Int × (Int × Unit)) × ((Nat × UT73) × (Int × ((Int × (Int × Unit)) × (Bool × Unit))))))
noncomputable def G74_v1_l0_step (s : TY47) : Option TY48 :=
  (bif (decide (s.1.2.1 < s.1.1)) then
  none
  else
  some (1, ((s.1.1, (s.1.2.1, ())), ((s.2.1.1, UC73), (s.2.2.1, (s.2.2.2.1, (s.2.2.2.2.1, ())))))))
noncomputable def G74_v1_l0_fuel (s : TY47) : Nat := Int.toNat (s.1.1 - s.1.2.1) + 1
noncomputable def G74_v1_l0_run (s : TY47) : Option TY48 := iter G74_v1_l0_step (G74_v1_l0_fuel s) s
noncomputable def G74_v1_l0_L : LoopT := loopT G74_v1_l0_S [.exit 0] G74_v1_l0_run
abbrev TY49 : Type := (Unit × ((Nat × UT73) × (Int × ((Int × (Int × Unit)) × (Bool × Unit)))))
noncomputable def G74_v1 (b0 : (Nat × UT73)) (b1 : Int) (b2 : (Int × (Int × Unit))) (b3 : Bool) : Option TY49 :=
  (Option.bind (G74_v1_l0_run (((IntKind.wrap .i64 (b1 + 1)), (0, ())), ((b0.1, UC73), (b1, (b2, (b3, ())))))) fun q1 =>
  some ((), ((q1.2.2.1.1, UC73), (q1.2.2.2.1, (q1.2.2.2.2.1, (q1.2.2.2.2.2.1, ()))))))
abbrev G74_v1_CS : CSpec := ⟨[.fix (.yref 0), .fix (.bptr 1 []), .fix (.bptr 2 [])], [.lp 21 0 (.cons (.any) (.cons (.any) (.cons (.any) (.cons (.any) (.cons (.any) (.cons (.any) (.cons (.any) (.cons (.any) (.cons (.any) (.cons (.any) (.cons (.fix (.bptr 3 [])) (.cons (.fix (.bptr 4 [])) AN61)))))))))))), .fix .pnil, .dat (.int .i64), .cons (.dat (.int .i64)) (.cons (.dat (.int .i64)) (.nil)), .dat .bool], 0, [.lp 21 0 (.cons (.any) (.cons (.any) (.cons (.any) (.cons (.any) (.cons (.any) (.cons (.any) (.cons (.any) (.cons (.any) (.cons (.any) (.cons (.any) (.cons (.fix (.bptr 3 [])) (.cons (.fix (.bptr 4 [])) AN61)))))))))))), .fix .pnil, .dat (.int .i64), .cons (.dat (.int .i64)) (.cons (.dat (.int .i64)) (.nil)), .dat .bool], 0, .tup (.nil)⟩
noncomputable def G74_v1_E : CEnt := boxE 74 G74_v1_CS fun x => G74_v1 x.2.1 x.2.2.1 x.2.2.2.1 x.2.2.2.2.1
theorem G74_v1_l0_V : LValid 5 Tryz.prog (.loop G74_v1_l0_c) G74_v1_l0_L false := by
  have hb : ∀ s, codeR Tryz.prog G74_v1_C G74_v1_l0_c [] (G74_v1_l0_S.encE s) (G74_v1_l0_S.encB s) (kst G74_v1_l0_S [.exit 0]) = G74_v1_l0_step s := by
    intro s; kernel_rfl
  have hL : LV 5 Tryz.prog false (loopsOf G74_v1_l0_c) [] := by unfold LV; cases loopsOf G74_v1_l0_c <;> trivial
  exact loopT_valid (fuel := G74_v1_l0_fuel) mixed G74_v1_CV hL (by kernel_rfl) (by decide) rfl hb (fun s r h => h)
theorem G74_v1_LV : LV 5 Tryz.prog false (loopsOf (bodyOf Tryz.f74)) [G74_v1_l0_L] := by
  have hl : loopsOf (bodyOf Tryz.f74) = [.loop G74_v1_l0_c] := by kernel_rfl
  rw [hl]; exact ⟨G74_v1_l0_V, trivial⟩
theorem G74_v1_ent : Ent Tryz.prog 74 := ⟨by decide, enters_of Tryz.func74 (by kernel_rfl) rfl⟩
theorem G74_v1_hev : ∀ x : G74_v1_CS.In, fnR Tryz.prog G74_v1_C [G74_v1_l0_L] Tryz.f74 (bodyOf Tryz.f74) (encs G74_v1_CS.A x.1) ⟨encs G74_v1_CS.I x.2, [], G74_v1_CS.nt⟩ (finK G74_v1_CS) = G74_v1 x.2.1 x.2.2.1 x.2.2.2.1 x.2.2.2.2.1 := by
  intro x; kernel_rfl
theorem G74_v1_valid : G74_v1_E.Valid Tryz.prog :=
  boxE_valid (S := G74_v1_CS) (by kernel_rfl) (.inr G74_v1_ent) (fn_lcall (S := G74_v1_CS) mixed Tryz.func74 rfl G74_v1_ent G74_v1_CV G74_v1_LV (by kernel_rfl) (by kernel_rfl) G74_v1_hev)
noncomputable def G21_C : CalT := tabC []
theorem G21_CV : CV Tryz.prog G21_C := tabC_valid (l := _) trivial
noncomputable def G21 (a0 : Int) (b1 : (Nat × UT73)) (b2 : (Int × (Int × Unit))) (b3 : Bool) : Option (Bool × ((Nat × UT73) × ((Int × (Int × Unit)) × (Bool × Unit)))) :=
  (natK b1.1
  (some (true, ((0, UC73), (((IntKind.wrap .i64 ((BitVec.toNat ((BitVec.ofInt (IntKind.bits .i64) b2.1) ||| (BitVec.ofInt (IntKind.bits .i64) a0)) : Nat) : Int)), ((IntKind.wrap .i64 ((BitVec.toNat ((BitVec.ofInt (IntKind.bits .i64) b2.2.1) &&& (BitVec.ofInt (IntKind.bits .i64) a0)) : Nat) : Int)), b2.2.2)), (true, ())))))
  (fun _ => none))
abbrev G21_CS : CSpec := ⟨[.fix (.yref 0), .dat (.int .i64)], [.lp 21 0 (.cons (.any) (.cons (.any) (.cons (.any) (.cons (.any) (.cons (.any) (.cons (.any) (.cons (.any) (.cons (.any) (.cons (.any) (.cons (.any) (.cons (.fix (.bptr 1 [])) (.cons (.fix (.bptr 2 [])) AN61)))))))))))), .cons (.dat (.int .i64)) (.cons (.dat (.int .i64)) (.nil)), .dat .bool], 0, [.lp 21 0 (.cons (.any) (.cons (.any) (.cons (.any) (.cons (.any) (.cons (.any) (.cons (.any) (.cons (.any) (.cons (.any) (.cons (.any) (.cons (.any) (.cons (.fix (.bptr 1 [])) (.cons (.fix (.bptr 2 [])) AN61)))))))))))), .cons (.dat (.int .i64)) (.cons (.dat (.int .i64)) (.nil)), .dat .bool], 0, .dat .bool⟩
noncomputable def G21_E : CEnt := boxE YLD G21_CS fun x => G21 x.1.1 x.2.1 x.2.2.1 x.2.2.2.1
theorem G21_LV : LV 3 Tryz.prog true (loopsOf (rfBody (lcode 21 0))) [] := by unfold LV; cases loopsOf (rfBody (lcode 21 0)) <;> trivial
theorem G21_hev : ∀ x : G21_CS.In, roundR Tryz.prog G21_C [] 21 0 (encs G21_CS.A x.1) ⟨encs G21_CS.I x.2, [], G21_CS.nt⟩ (finK G21_CS) = G21 x.1.1 x.2.1 x.2.2.1 x.2.2.2.1 := by
  intro x; kernel_rfl
theorem G21_valid : G21_E.Valid Tryz.prog :=
  boxE_valid (S := G21_CS) (by kernel_rfl) (.inl rfl) (rd_lcall' (S := G21_CS) mixed G21_CV (by kernel_rfl) G21_LV ⟨_, rfl⟩ (by decide) (by kernel_rfl) (by kernel_rfl) G21_hev)
abbrev G75_v1_CS : CSpec := ⟨[.dat (.int .i64), .dat (.int .i64), .dat (.int .i64), .fix (.bptr 0 []), .fix (.bptr 1 []), .fix (.bptr 2 [])], [.fix (.bptr 3 []), .fix (.yref 4), .fix (.func (.func 75) .nil (.cons (.bptr 0 []) (.cons (.bptr 1 []) (.cons (.bptr 2 []) .nil)))), .cons (.dat T23) (.cons (.dat (.list T71)) (.cons (.fix (.mref 5)) (.nil))), .lp 21 0 (.cons (.any) (.cons (.any) (.cons (.any) (.cons (.any) (.cons (.any) (.cons (.any) (.cons (.any) (.cons (.any) (.cons (.any) (.cons (.any) (.cons (.fix (.bptr 6 [])) (.cons (.fix (.bptr 7 [])) AN61)))))))))))), .map T58 T91, .cons (.dat (.int .i64)) (.cons (.dat (.int .i64)) (.nil)), .dat .bool], 0, [.fix (.bptr 3 []), .fix (.yref 4), .fix (.func (.func 75) .nil (.cons (.bptr 0 []) (.cons (.bptr 1 []) (.cons (.bptr 2 []) .nil)))), .cons (.dat T23) (.cons (.dat (.list T71)) (.cons (.fix (.mref 5)) (.nil))), .lp 21 0 (.cons (.any) (.cons (.any) (.cons (.any) (.cons (.any) (.cons (.any) (.cons (.any) (.cons (.any) (.cons (.any) (.cons (.any) (.cons (.any) (.cons (.fix (.bptr 6 [])) (.cons (.fix (.bptr 7 [])) AN61)))))))))))), .map T58 T91, .cons (.dat (.int .i64)) (.cons (.dat (.int .i64)) (.nil)), .dat .bool], 0, .dat .bool⟩
abbrev G75_v1_RT : Type := G75_v1_CS.In → Option G75_v1_CS.Out
noncomputable def G75_v1_C (rc : G75_v1_RT) : CalT := tabC [G41_E, G21_E, G47_E, (boxE 75 G75_v1_CS rc)]
theorem G75_v1_CV (rc : G75_v1_RT) (hr : (boxE 75 G75_v1_CS rc).Valid Tryz.prog) : CV Tryz.prog (G75_v1_C rc) := tabC_valid (l := _) ⟨G41_valid, G21_valid, G47_valid, hr, trivial⟩
noncomputable def G75_v1_l0_c : Code := loopAt (bodyOf Tryz.f75) 0
abbrev PA50 : PTy := (.cons (.any) (.cons (.any) (.cons (.any) (.cons (.any) (.cons (.any) (.cons (.any) (.cons (.any) (.cons (.any) (.cons (.any) (.cons (.any) (.cons (.fix (.bptr 6 [])) (.cons (.fix (.bptr 7 [])) AN61))))))))))))
noncomputable def G75_v1_l0_S : SPat := ⟨[.dat (.int .i64), .any, .dat (.int .i64), .fix (.bptr 0 []), .any, .fix (.bptr 2 []), .any, .any, .any, .dat .bool, .dat (.int .i64), .any, .any, .any, .any, .any, .any, .any, .any, .any, .any, .any, .any, .any, .any, .any, .any, .any, .any, .any, .any, .any, .any, .any, .any, .any, .any, .any, .any, .any], [.fix (.bptr 3 []), .fix (.yref 4), .fix (.func (.func 75) .nil (.cons (.bptr 0 []) (.cons (.bptr 1 []) (.cons (.bptr 2 []) .nil)))), .cons (.dat T23) (.cons (.dat (.list T71)) (.cons (.fix (.mref 5)) (.nil))), .lp 21 0 PA50, .map T58 T91, .cons (.dat (.int .i64)) (.cons (.dat (.int .i64)) (.nil)), .dat .bool], 0⟩
abbrev TY51 : Type := ((Int × (Int × (Bool × (Int × Unit)))) × ((E23 × ((List E71) × (Unit × Unit))) × ((Nat × UT73) × ((List (E58 × E91)) × ((Int × (Int × Unit)) × (Bool × Unit))))))
abbrev TY52 : Type := (Nat × ((Int × (Int × (Bool × (Int × Unit)))) × ((E23 × ((List E71) × (Unit × Unit))) × ((Nat × UT73) × ((List (E58 × E91)) × ((Int × (Int × Unit)) × (Bool × Unit)))))))
noncomputable def G75_v1_l0_step (rc : G75_v1_RT) (s : TY51) : Option TY52 :=
  (Option.bind (G47 (s.2.1.1, (s.2.1.2.1, ((), s.2.1.2.2.2)))) fun r3 =>
  (bif (decide (s.1.2.2.2.1 < r3)) then
    (bif (!decide (s.1.2.2.2.1 < 0)) then
      (Option.bind (rc (((IntKind.wrap .i64 (s.1.1 - 1)), ((IntKind.wrap .i64 (s.1.2.2.2.1 + 1)), ((IntKind.wrap .i64 ((BitVec.toNat ((BitVec.ofInt (IntKind.bits .i64) s.1.2.1) ||| (BitVec.ofInt (IntKind.bits .i64) (IntKind.wrap .i64 (1 * 2 ^ (min (Int.toNat s.1.2.2.2.1) (IntKind.bits .i64)))))) : Nat) : Int)), ()))), ((s.2.1.1, (s.2.1.2.1, ((), s.2.1.2.2.2))), ((s.2.2.1.1, UC73), (s.2.2.2.1, (s.2.2.2.2.1, (s.2.2.2.2.2.1, ()))))))) fun r4 =>
        (bif (!r4.1) then
          some (1, ((s.1.1, (s.1.2.1, (false, (s.1.2.2.2.1, ())))), ((r4.2.1.1, (r4.2.1.2.1, ((), r4.2.1.2.2.2))), ((r4.2.2.1.1, UC73), (r4.2.2.2.1, (r4.2.2.2.2.1, (r4.2.2.2.2.2.1, ())))))))
          else
          some (0, ((s.1.1, (s.1.2.1, (s.1.2.2.1, ((IntKind.wrap .i64 (s.1.2.2.2.1 + 1)), ())))), ((r4.2.1.1, (r4.2.1.2.1, ((), r4.2.1.2.2.2))), ((r4.2.2.1.1, UC73), (r4.2.2.2.1, (r4.2.2.2.2.1, (r4.2.2.2.2.2.1, ())))))))))
      else
      none)
    else
    some (2, ((s.1.1, (s.1.2.1, (s.1.2.2.1, (s.1.2.2.2.1, ())))), ((s.2.1.1, (s.2.1.2.1, ((), s.2.1.2.2.2))), ((s.2.2.1.1, UC73), (s.2.2.2.1, (s.2.2.2.2.1, (s.2.2.2.2.2.1, ())))))))))
noncomputable def G75_v1_l0_fuel (s : TY51) : Nat := 100000
noncomputable def G75_v1_l0_run (rc : G75_v1_RT) (s : TY51) : Option TY52 := iter (G75_v1_l0_step rc) (G75_v1_l0_fuel s) s
noncomputable def G75_v1_l0_L (rc : G75_v1_RT) : LoopT := loopT G75_v1_l0_S [.ret, .exit 0] (G75_v1_l0_run rc)
abbrev TY53 : Type := ((Nat × UT73) × ((List (E58 × E91)) × ((Int × (Int × Unit)) × (Bool × Unit))))
noncomputable def G75_v1_b (rc : G75_v1_RT) (a0 : Int) (a1 : Int) (a2 : Int) (b3 : (E23 × ((List E71) × (Unit × Unit)))) (b4 : (Nat × UT73)) (b5 : (List (E58 × E91))) (b6 : (Int × (Int × Unit))) (b7 : Bool) : Option (Bool × ((E23 × ((List E71) × (Unit × Unit))) × TY53)) :=
  (bif (a0 == 0) then
  (Option.bind (G41 a2 (b3.1, (b3.2.1, ((), b3.2.2.2))) b5) fun r1 =>
    (bif (!r1.1) then
      some (true, ((r1.2.1.1, (r1.2.1.2.1, ((), r1.2.1.2.2.2))), ((b4.1, UC73), (r1.2.2.1, (b6, (b7, ()))))))
      else
      (Option.bind (G21 a2 (b4.1, UC73) b6 b7) fun r2 =>
        some (r2.1, ((r1.2.1.1, (r1.2.1.2.1, ((), r1.2.1.2.2.2))), ((r2.2.1.1, UC73), (r1.2.2.1, (r2.2.2.1, (r2.2.2.2.1, ())))))))))
  else
  (Option.bind (G75_v1_l0_run rc ((a0, (a2, (false, (a1, ())))), ((b3.1, (b3.2.1, ((), b3.2.2.2))), ((b4.1, UC73), (b5, (b6, (b7, ()))))))) fun q5 =>
    (natK q5.1
      (some (q5.2.1.2.2.1, ((q5.2.2.1.1, (q5.2.2.1.2.1, ((), q5.2.2.1.2.2.2))), ((q5.2.2.2.1.1, UC73), (q5.2.2.2.2.1, (q5.2.2.2.2.2.1, (q5.2.2.2.2.2.2.1, ())))))))
      (fun _ => some (true, ((q5.2.2.1.1, (q5.2.2.1.2.1, ((), q5.2.2.1.2.2.2))), ((q5.2.2.2.1.1, UC73), (q5.2.2.2.2.1, (q5.2.2.2.2.2.1, (q5.2.2.2.2.2.2.1, ()))))))))))
noncomputable def G75_v1_fix : Nat → G75_v1_RT := recF fun rc x => G75_v1_b rc x.1.1 x.1.2.1 x.1.2.2.1 x.2.1 x.2.2.1 x.2.2.2.1 x.2.2.2.2.1 x.2.2.2.2.2.1
noncomputable def G75_v1 (a0 : Int) (a1 : Int) (a2 : Int) (b3 : (E23 × ((List E71) × (Unit × Unit)))) (b4 : (Nat × UT73)) (b5 : (List (E58 × E91))) (b6 : (Int × (Int × Unit))) (b7 : Bool) : Option (Bool × ((E23 × ((List E71) × (Unit × Unit))) × TY53)) := G75_v1_fix 64 ((a0, (a1, (a2, ()))), (b3, (b4, (b5, (b6, (b7, ()))))))
noncomputable def G75_v1_E : CEnt := boxE 75 G75_v1_CS fun x => G75_v1 x.1.1 x.1.2.1 x.1.2.2.1 x.2.1 x.2.2.1 x.2.2.2.1 x.2.2.2.2.1 x.2.2.2.2.2.1
theorem G75_v1_l0_V (rc : G75_v1_RT) (hr : (boxE 75 G75_v1_CS rc).Valid Tryz.prog) : LValid 8 Tryz.prog (.loop G75_v1_l0_c) (G75_v1_l0_L rc) false := by
  have hb : ∀ s, codeR Tryz.prog (G75_v1_C rc) G75_v1_l0_c [] (G75_v1_l0_S.encE s) (G75_v1_l0_S.encB s) (kst G75_v1_l0_S [.ret, .exit 0]) = G75_v1_l0_step rc s := by
    intro s; kernel_rfl
  have hL : LV 8 Tryz.prog false (loopsOf G75_v1_l0_c) [] := by unfold LV; cases loopsOf G75_v1_l0_c <;> trivial
  exact loopT_valid (fuel := G75_v1_l0_fuel) mixed (G75_v1_CV rc hr) hL (by kernel_rfl) (by decide) rfl hb (fun s r h => h)
theorem G75_v1_LV (rc : G75_v1_RT) (hr : (boxE 75 G75_v1_CS rc).Valid Tryz.prog) : LV 8 Tryz.prog false (loopsOf (bodyOf Tryz.f75)) [(G75_v1_l0_L rc)] := by
  have hl : loopsOf (bodyOf Tryz.f75) = [.loop G75_v1_l0_c] := by kernel_rfl
  rw [hl]; exact ⟨G75_v1_l0_V rc hr, trivial⟩
theorem G75_v1_ent : Ent Tryz.prog 75 := ⟨by decide, enters_of Tryz.func75 (by kernel_rfl) rfl⟩
theorem G75_v1_hev (rc : G75_v1_RT) : ∀ x : G75_v1_CS.In, fnR Tryz.prog (G75_v1_C rc) [(G75_v1_l0_L rc)] Tryz.f75 (bodyOf Tryz.f75) (encs G75_v1_CS.A x.1) ⟨encs G75_v1_CS.I x.2, [], G75_v1_CS.nt⟩ (finK G75_v1_CS) = G75_v1_b rc x.1.1 x.1.2.1 x.1.2.2.1 x.2.1 x.2.2.1 x.2.2.2.1 x.2.2.2.2.1 x.2.2.2.2.2.1 := by
  intro x; kernel_rfl
theorem G75_v1_valid : G75_v1_E.Valid Tryz.prog :=
  rec_valid (S := G75_v1_CS) (body := fun rc x => G75_v1_b rc x.1.1 x.1.2.1 x.1.2.2.1 x.2.1 x.2.2.1 x.2.2.2.1 x.2.2.2.2.1 x.2.2.2.2.2.1) (by kernel_rfl) (.inr G75_v1_ent) (fun rc hr => fn_lcall (S := G75_v1_CS) mixed Tryz.func75 rfl G75_v1_ent (G75_v1_CV rc hr) (G75_v1_LV rc hr) (by kernel_rfl) (by kernel_rfl) (G75_v1_hev rc)) 64
end Go.Proofs.YtibmgbalfhfcdaaGreatDoor.Abs
