import Derived.Test.YtibmgbalfhfcdaaDoorF2
set_option linter.unusedVariables false
set_option maxRecDepth 100000
namespace Go.Proofs.YtibmgbalfhfcdaaDoor.Abs
open Go.Shelf Go.Sort
noncomputable def G29_C : CalT := tabC []
theorem G29_CV : CV Tryd.prog G29_C := tabC_valid (l := _) trivial
noncomputable def G29_l0_c : Code := loopAt (bodyOf Tryd.f29) 0
noncomputable def G29_l0_S : SPat := ⟨[.dat (.list (.int .i64)), .dat (.int .i64), .any, .any, .dat .bool, .dat (.int .i64), .any, .any, .any, .any, .any, .any, .any, .any, .any, .any, .any, .any], [], 0⟩
noncomputable def G29_l0_step (s : (((List Int) × (Int × (Bool × (Int × Unit)))) × Unit)) : Option (Nat × (((List Int) × (Int × (Bool × (Int × Unit)))) × Unit)) :=
  (bif (decide (s.1.2.2.2.1 < (List.length s.1.1 : Int))) then
  (bif (decide (0 ≤ s.1.2.2.2.1) && decide (s.1.2.2.2.1 < (List.length s.1.1 : Int))) then
    (bif ((List.getD s.1.1 (Int.toNat s.1.2.2.2.1) 0) == s.1.2.1) then
      some (1, ((s.1.1, (s.1.2.1, (true, (s.1.2.2.2.1, ())))), ()))
      else
      some (0, ((s.1.1, (s.1.2.1, (s.1.2.2.1, ((IntKind.wrap .i64 (s.1.2.2.2.1 + 1)), ())))), ())))
    else
    none)
  else
  some (2, ((s.1.1, (s.1.2.1, (s.1.2.2.1, (s.1.2.2.2.1, ())))), ())))
noncomputable def G29_l0_fuel (s : (((List Int) × (Int × (Bool × (Int × Unit)))) × Unit)) : Nat := Int.toNat ((List.length s.1.1 : Int) - s.1.2.2.2.1) + 1
noncomputable def G29_l0_run (s : (((List Int) × (Int × (Bool × (Int × Unit)))) × Unit)) : Option (Nat × (((List Int) × (Int × (Bool × (Int × Unit)))) × Unit)) := iter G29_l0_step (G29_l0_fuel s) s
noncomputable def G29_l0_L : LoopT := loopT G29_l0_S [.ret, .exit 0] G29_l0_run
noncomputable def G29 (a0 : (List Int)) (a1 : Int) : Option Bool :=
  (Option.bind (G29_l0_run ((a0, (a1, (false, (0, ())))), ())) fun q1 =>
  (natK q1.1
    (some q1.2.1.2.2.1)
    (fun _ => some false)))
noncomputable def G29_E : CEnt := pureE 29 [.dat (.list (.int .i64)), .dat (.int .i64)] (.dat .bool) fun x => G29 x.1 x.2.1
theorem G29_l0_V : LValid 0 Tryd.prog (.loop G29_l0_c) G29_l0_L false := by
  exact loopT_valid (fuel := G29_l0_fuel) mixed G29_CV (lvNil _) (by kernel_rfl) (by decide) rfl (by intro s; kernel_rfl) (fun s r h => h)
theorem G29_LV : LV 0 Tryd.prog false (loopsOf (bodyOf Tryd.f29)) [G29_l0_L] := by
  have hl : loopsOf (bodyOf Tryd.f29) = [.loop G29_l0_c] := by kernel_rfl
  rw [hl]; exact ⟨G29_l0_V, trivial⟩
theorem G29_ent : Ent Tryd.prog 29 := ⟨by decide, enters_of Tryd.func29 (by kernel_rfl) rfl⟩
theorem G29_hev : ∀ x, fnR Tryd.prog G29_C [G29_l0_L] Tryd.f29 (bodyOf Tryd.f29) (encs [.dat (.list (.int .i64)), .dat (.int .i64)] x) ⟨[], [], 0⟩ (frzF (.dat .bool)) = G29 x.1 x.2.1 := by
  intro x; kernel_rfl
theorem G29_valid : G29_E.Valid Tryd.prog :=
  pureE_valid (by kernel_rfl) (by kernel_rfl) G29_ent (frz_lcall mixed Tryd.func29 rfl G29_ent G29_CV G29_LV (by kernel_rfl) (by kernel_rfl) G29_hev)
noncomputable def G92_C : CalT := tabC [G60_E]
theorem G92_CV : CV Tryd.prog G92_C := tabC_valid (l := _) ⟨G60_valid, trivial⟩
noncomputable def G92_l0_c : Code := loopAt (bodyOf Tryd.f92) 0
noncomputable def G92_l1_c : Code := loopAt G92_l0_c 0
noncomputable def G92_l1_S : SPat := ⟨[.any, .dat (.list T72), .dat (.int .i64), .dat (.int .i64), .dat (.int .i64), .dat (.int .i64), .fix (.bptr 0 []), .any, .any, .any, .any, .any, .dat (.int .i64), .dat .bool, .dat (.int .i64), .dat .bool, .dat (.int .i64), .any, .any, .any, .any, .any, .any, .any, .any, .any, .any, .any, .any, .any, .any, .any, .any, .any, .any, .any, .any, .any, .any, .any, .any, .any, .any, .any, .any, .any, .any, .any, .any, .any, .any, .any, .any, .any, .any, .any, .any, .any, .any, .any, .any, .any, .any, .any, .any, .any, .any, .any], [.dat T23], 0⟩
abbrev TY88 : Type := (((List E72) × (Int × (Int × (Int × (Int × (Int × (Bool × (Int × (Bool × (Int × Unit)))))))))) × (E23 × Unit))
abbrev TY89 : Type := (Nat × (((List E72) × (Int × (Int × (Int × (Int × (Int × (Bool × (Int × (Bool × (Int × Unit)))))))))) × (E23 × Unit)))
noncomputable def G92_l1_step (s : TY88) : Option TY89 :=
  (bif (decide (s.1.2.2.2.2.2.2.2.2.2.1 < (List.length s.1.1 : Int))) then
  (bif s.1.2.2.2.2.2.2.2.2.1 then
    (bif (decide (0 ≤ s.1.2.2.2.2.2.2.2.2.2.1) && decide (s.1.2.2.2.2.2.2.2.2.2.1 < (List.length s.1.1 : Int))) then
      (bif ((List.getD s.1.1 (Int.toNat s.1.2.2.2.2.2.2.2.2.2.1) (0, (0, (0, ())))).1 == s.1.2.1) then
        (bif (decide (0 ≤ s.1.2.2.2.2.2.2.2.2.2.1) && decide (s.1.2.2.2.2.2.2.2.2.2.1 < (List.length s.1.1 : Int))) then
          (bif (decide (0 ≤ s.1.2.2.2.2.2.2.2.2.2.1) && decide (s.1.2.2.2.2.2.2.2.2.2.1 < (List.length s.1.1 : Int))) then
            (Option.bind (G60 ((List.getD s.1.1 (Int.toNat s.1.2.2.2.2.2.2.2.2.2.1) (0, (0, (0, ())))).2.2.1) (IntKind.wrap .i64 ((IntKind.wrap .i64 (s.1.2.2.1 + (IntKind.wrap .i64 ((IntKind.wrap .i64 (s.1.2.2.2.1 + s.1.2.2.2.2.2.2.2.1)) * (List.getD s.1.1 (Int.toNat s.1.2.2.2.2.2.2.2.2.2.1) (0, (0, (0, ())))).2.1)))) - s.2.1.1)) (IntKind.wrap .i64 ((IntKind.wrap .i64 (s.1.2.2.1 + (IntKind.wrap .i64 ((IntKind.wrap .i64 (s.1.2.2.2.1 + s.1.2.2.2.2.2.2.2.1)) * (List.getD s.1.1 (Int.toNat s.1.2.2.2.2.2.2.2.2.2.1) (0, (0, (0, ())))).2.1)))) + s.2.1.1))) fun r1 =>
              some (0, ((s.1.1, (s.1.2.1, (s.1.2.2.1, (s.1.2.2.2.1, (s.1.2.2.2.2.1, (s.1.2.2.2.2.2.1, (s.1.2.2.2.2.2.2.1, (s.1.2.2.2.2.2.2.2.1, (r1, ((IntKind.wrap .i64 (s.1.2.2.2.2.2.2.2.2.2.1 + 1)), ())))))))))), (s.2.1, ()))))
            else
            none)
          else
          none)
        else
        some (0, ((s.1.1, (s.1.2.1, (s.1.2.2.1, (s.1.2.2.2.1, (s.1.2.2.2.2.1, (s.1.2.2.2.2.2.1, (s.1.2.2.2.2.2.2.1, (s.1.2.2.2.2.2.2.2.1, (s.1.2.2.2.2.2.2.2.2.1, ((IntKind.wrap .i64 (s.1.2.2.2.2.2.2.2.2.2.1 + 1)), ())))))))))), (s.2.1, ()))))
      else
      none)
    else
    some (1, ((s.1.1, (s.1.2.1, (s.1.2.2.1, (s.1.2.2.2.1, (s.1.2.2.2.2.1, (s.1.2.2.2.2.2.1, (s.1.2.2.2.2.2.2.1, (s.1.2.2.2.2.2.2.2.1, (s.1.2.2.2.2.2.2.2.2.1, (s.1.2.2.2.2.2.2.2.2.2.1, ())))))))))), (s.2.1, ()))))
  else
  some (1, ((s.1.1, (s.1.2.1, (s.1.2.2.1, (s.1.2.2.2.1, (s.1.2.2.2.2.1, (s.1.2.2.2.2.2.1, (s.1.2.2.2.2.2.2.1, (s.1.2.2.2.2.2.2.2.1, (s.1.2.2.2.2.2.2.2.2.1, (s.1.2.2.2.2.2.2.2.2.2.1, ())))))))))), (s.2.1, ()))))
noncomputable def G92_l1_fuel (s : TY88) : Nat := Int.toNat ((List.length s.1.1 : Int) - s.1.2.2.2.2.2.2.2.2.2.1) + 1
noncomputable def G92_l1_run (s : TY88) : Option TY89 := iter G92_l1_step (G92_l1_fuel s) s
noncomputable def G92_l1_L : LoopT := loopT G92_l1_S [.exit 2] G92_l1_run
noncomputable def G92_l0_S : SPat := ⟨[.any, .dat (.list T72), .dat (.int .i64), .dat (.int .i64), .dat (.int .i64), .dat (.int .i64), .fix (.bptr 0 []), .any, .any, .any, .any, .any, .dat (.int .i64), .dat .bool, .dat (.int .i64), .any, .any, .any, .any, .any, .any, .any, .any, .any, .any, .any, .any, .any, .any, .any, .any, .any, .any, .any, .any, .any, .any, .any, .any, .any, .any, .any, .any, .any, .any, .any, .any, .any, .any, .any, .any, .any, .any, .any, .any, .any, .any, .any, .any, .any, .any, .any, .any, .any, .any, .any, .any, .any], [.dat T23], 0⟩
abbrev TY90 : Type := (((List E72) × (Int × (Int × (Int × (Int × (Int × (Bool × (Int × Unit)))))))) × (E23 × Unit))
abbrev TY91 : Type := (Nat × (((List E72) × (Int × (Int × (Int × (Int × (Int × (Bool × (Int × Unit)))))))) × (E23 × Unit)))
noncomputable def G92_l0_step (s : TY90) : Option TY91 :=
  (bif (decide (s.1.2.2.2.2.2.2.2.1 ≤ s.1.2.2.2.2.1)) then
  (Option.bind (G92_l1_run ((s.1.1, (s.1.2.1, (s.1.2.2.1, (s.1.2.2.2.1, (s.1.2.2.2.2.1, (s.1.2.2.2.2.2.1, (s.1.2.2.2.2.2.2.1, (s.1.2.2.2.2.2.2.2.1, (true, (0, ())))))))))), (s.2.1, ()))) fun q2 =>
    (bif q2.2.1.2.2.2.2.2.2.2.2.1 then
      some (1, ((q2.2.1.1, (q2.2.1.2.1, (q2.2.1.2.2.1, (q2.2.1.2.2.2.1, (q2.2.1.2.2.2.2.1, (q2.2.1.2.2.2.2.2.2.2.1, (true, (q2.2.1.2.2.2.2.2.2.2.1, ())))))))), (q2.2.2.1, ())))
      else
      some (0, ((q2.2.1.1, (q2.2.1.2.1, (q2.2.1.2.2.1, (q2.2.1.2.2.2.1, (q2.2.1.2.2.2.2.1, (q2.2.1.2.2.2.2.2.1, (q2.2.1.2.2.2.2.2.2.1, ((IntKind.wrap .i64 (q2.2.1.2.2.2.2.2.2.2.1 + 1)), ())))))))), (q2.2.2.1, ())))))
  else
  some (2, ((s.1.1, (s.1.2.1, (s.1.2.2.1, (s.1.2.2.2.1, (s.1.2.2.2.2.1, (s.1.2.2.2.2.2.1, (s.1.2.2.2.2.2.2.1, (s.1.2.2.2.2.2.2.2.1, ())))))))), (s.2.1, ()))))
noncomputable def G92_l0_fuel (s : TY90) : Nat := 100000
noncomputable def G92_l0_run (s : TY90) : Option TY91 := iter G92_l0_step (G92_l0_fuel s) s
noncomputable def G92_l0_L : LoopT := loopT G92_l0_S [.ret, .exit 0] G92_l0_run
noncomputable def G92 (a0 : E23) (a1 : (List E72)) (a2 : Int) (a3 : Int) (a4 : Int) (a5 : Int) : Option (Int × (Bool × Unit)) :=
  (Option.bind (G92_l0_run ((a1, (a2, (a3, (a4, (a5, (0, (false, ((IntKind.wrap .i64 (0 - a5)), ())))))))), (a0, ()))) fun q3 =>
  (natK q3.1
    (some (q3.2.1.2.2.2.2.2.1, (q3.2.1.2.2.2.2.2.2.1, ())))
    (fun _ => some (0, (false, ())))))
noncomputable def G92_E : CEnt := pureE 92 [.dat T23, .dat (.list T72), .dat (.int .i64), .dat (.int .i64), .dat (.int .i64), .dat (.int .i64)] (.tup (.cons (.dat (.int .i64)) (.cons (.dat .bool) (.nil)))) fun x => G92 x.1 x.2.1 x.2.2.1 x.2.2.2.1 x.2.2.2.2.1 x.2.2.2.2.2.1
theorem G92_l1_V : LValid 0 Tryd.prog (.loop G92_l1_c) G92_l1_L false := by
  exact loopT_valid (fuel := G92_l1_fuel) mixed G92_CV (lvNil _) (by kernel_rfl) (by decide) rfl (by intro s; kernel_rfl) (fun s r h => h)
theorem G92_l0_V : LValid 0 Tryd.prog (.loop G92_l0_c) G92_l0_L false := by
  have hb : ∀ s, codeR Tryd.prog G92_C G92_l0_c [G92_l1_L] (G92_l0_S.encE s) (G92_l0_S.encB s) (kst G92_l0_S [.ret, .exit 0]) = G92_l0_step s := by
    intro s; kernel_rfl
  have hl : loopsOf G92_l0_c = [.loop G92_l1_c] := by kernel_rfl
  have hL : LV 0 Tryd.prog false (loopsOf G92_l0_c) [G92_l1_L] := by rw [hl]; exact ⟨G92_l1_V, trivial⟩
  exact loopT_valid (fuel := G92_l0_fuel) mixed G92_CV hL (by kernel_rfl) (by decide) rfl hb (fun s r h => h)
theorem G92_LV : LV 0 Tryd.prog false (loopsOf (bodyOf Tryd.f92)) [G92_l0_L] := by
  have hl : loopsOf (bodyOf Tryd.f92) = [.loop G92_l0_c] := by kernel_rfl
  rw [hl]; exact ⟨G92_l0_V, trivial⟩
theorem G92_ent : Ent Tryd.prog 92 := ⟨by decide, enters_of Tryd.func92 (by kernel_rfl) rfl⟩
theorem G92_hev : ∀ x, fnR Tryd.prog G92_C [G92_l0_L] Tryd.f92 (bodyOf Tryd.f92) (encs [.dat T23, .dat (.list T72), .dat (.int .i64), .dat (.int .i64), .dat (.int .i64), .dat (.int .i64)] x) ⟨[], [], 0⟩ (frzF (.tup (.cons (.dat (.int .i64)) (.cons (.dat .bool) (.nil))))) = G92 x.1 x.2.1 x.2.2.1 x.2.2.2.1 x.2.2.2.2.1 x.2.2.2.2.2.1 := by
  intro x; kernel_rfl
theorem G92_valid : G92_E.Valid Tryd.prog :=
  pureE_valid (by kernel_rfl) (by kernel_rfl) G92_ent (frz_lcall mixed Tryd.func92 rfl G92_ent G92_CV G92_LV (by kernel_rfl) (by kernel_rfl) G92_hev)
noncomputable def G59_C : CalT := tabC [G29_E, G92_E]
theorem G59_CV : CV Tryd.prog G59_C := tabC_valid (l := _) ⟨G29_valid, G92_valid, trivial⟩
noncomputable def G59_l0_c : Code := loopAt (bodyOf Tryd.f59) 0
noncomputable def G59_l0_S : SPat := ⟨[.any, .dat (.list T72), .any, .dat (.int .i64), .dat (.int .i64), .dat (.int .i64), .fix (.bptr 0 []), .any, .fix (.bptr 1 []), .any, .any, .any, .own 0 (.int .i64), .dat .bool, .own 1 (.int .i64), .dat (.int .i64), .any, .any, .any, .any, .any, .any, .any, .any, .any, .any, .any, .any, .any, .any, .any, .any, .any, .any, .any, .any, .any, .any, .any, .any, .any, .any, .any, .any, .any, .any, .any, .any, .any, .any, .any, .any, .any, .any, .any, .any], [.dat T23, .dat T26], 2⟩
abbrev TY92 : Type := (((List E72) × (Int × (Int × (Int × ((List Int) × (Bool × ((List Int) × (Int × Unit)))))))) × (E23 × (E26 × Unit)))
abbrev TY93 : Type := (Nat × (((List E72) × (Int × (Int × (Int × ((List Int) × (Bool × ((List Int) × (Int × Unit)))))))) × (E23 × (E26 × Unit))))
noncomputable def G59_l0_step (s : TY92) : Option TY93 :=
  (bif (decide (s.1.2.2.2.2.2.2.2.1 < (List.length s.2.1.2.2.2.2.1 : Int))) then
  (bif (decide (0 ≤ s.1.2.2.2.2.2.2.2.1) && decide (s.1.2.2.2.2.2.2.2.1 < (List.length s.2.1.2.2.2.2.1 : Int))) then
    (bif ((List.getD s.2.1.2.2.2.2.1 (Int.toNat s.1.2.2.2.2.2.2.2.1) 0) != s.1.2.1) then
      some (0, ((s.1.1, (s.1.2.1, (s.1.2.2.1, (s.1.2.2.2.1, (s.1.2.2.2.2.1, (s.1.2.2.2.2.2.1, (s.1.2.2.2.2.2.2.1, ((IntKind.wrap .i64 (s.1.2.2.2.2.2.2.2.1 + 1)), ())))))))), (s.2.1, (s.2.2.1, ()))))
      else
      (Option.bind (G29 s.2.2.1.1 s.1.2.2.2.2.2.2.2.1) fun r1 =>
        (bif r1 then
          (Option.bind (G92 s.2.1 s.1.1 s.1.2.2.2.2.2.2.2.1 s.1.2.2.1 s.1.2.2.2.1 s.2.1.2.1) fun r2 =>
            (bif (!r2.2.1) then
              some (1, ((s.1.1, (s.1.2.1, (s.1.2.2.1, (s.1.2.2.2.1, ([], (false, (s.1.2.2.2.2.2.2.1, (s.1.2.2.2.2.2.2.2.1, ())))))))), (s.2.1, (s.2.2.1, ()))))
              else
              (bif (decide (List.length s.1.2.2.2.2.2.2.1 + List.length [r2.1] ≤ LIM)) then
                some (0, ((s.1.1, (s.1.2.1, (s.1.2.2.1, (s.1.2.2.2.1, (s.1.2.2.2.2.1, (s.1.2.2.2.2.2.1, ((s.1.2.2.2.2.2.2.1 ++ [r2.1]), ((IntKind.wrap .i64 (s.1.2.2.2.2.2.2.2.1 + 1)), ())))))))), (s.2.1, (s.2.2.1, ()))))
                else
                none)))
          else
          (Option.bind (G92 s.2.1 s.1.1 s.1.2.2.2.2.2.2.2.1 s.1.2.2.1 s.1.2.2.2.1 0) fun r3 =>
            (bif (!r3.2.1) then
              some (1, ((s.1.1, (s.1.2.1, (s.1.2.2.1, (s.1.2.2.2.1, ([], (false, (s.1.2.2.2.2.2.2.1, (s.1.2.2.2.2.2.2.2.1, ())))))))), (s.2.1, (s.2.2.1, ()))))
              else
              (bif (decide (List.length s.1.2.2.2.2.2.2.1 + List.length [r3.1] ≤ LIM)) then
                some (0, ((s.1.1, (s.1.2.1, (s.1.2.2.1, (s.1.2.2.2.1, (s.1.2.2.2.2.1, (s.1.2.2.2.2.2.1, ((s.1.2.2.2.2.2.2.1 ++ [r3.1]), ((IntKind.wrap .i64 (s.1.2.2.2.2.2.2.2.1 + 1)), ())))))))), (s.2.1, (s.2.2.1, ()))))
                else
                none))))))
    else
    none)
  else
  some (2, ((s.1.1, (s.1.2.1, (s.1.2.2.1, (s.1.2.2.2.1, (s.1.2.2.2.2.1, (s.1.2.2.2.2.2.1, (s.1.2.2.2.2.2.2.1, (s.1.2.2.2.2.2.2.2.1, ())))))))), (s.2.1, (s.2.2.1, ())))))
noncomputable def G59_l0_fuel (s : TY92) : Nat := Int.toNat ((List.length s.2.1.2.2.2.2.1 : Int) - s.1.2.2.2.2.2.2.2.1) + 1
noncomputable def G59_l0_run (s : TY92) : Option TY93 := iter G59_l0_step (G59_l0_fuel s) s
noncomputable def G59_l0_L : LoopT := loopT G59_l0_S [.ret, .exit 0] G59_l0_run
noncomputable def G59 (a0 : E23) (a1 : (List E72)) (a2 : E26) (a3 : Int) (a4 : Int) (a5 : Int) : Option ((List Int) × (Bool × Unit)) :=
  (Option.bind (G59_l0_run ((a1, (a3, (a4, (a5, ([], (false, ([], (0, ())))))))), (a0, (a2, ())))) fun q4 =>
  (natK q4.1
    (some (q4.2.1.2.2.2.2.1, (q4.2.1.2.2.2.2.2.1, ())))
    (fun _ => some (q4.2.1.2.2.2.2.2.2.1, (true, ())))))
noncomputable def G59_E : CEnt := pureE 59 [.dat T23, .dat (.list T72), .dat T26, .dat (.int .i64), .dat (.int .i64), .dat (.int .i64)] (.tup (.cons (.dat (.list (.int .i64))) (.cons (.dat .bool) (.nil)))) fun x => G59 x.1 x.2.1 x.2.2.1 x.2.2.2.1 x.2.2.2.2.1 x.2.2.2.2.2.1
theorem G59_l0_V : LValid 0 Tryd.prog (.loop G59_l0_c) G59_l0_L false := by
  exact loopT_valid (fuel := G59_l0_fuel) mixed G59_CV (lvNil _) (by kernel_rfl) (by decide) rfl (by intro s; kernel_rfl) (fun s r h => h)
theorem G59_LV : LV 0 Tryd.prog false (loopsOf (bodyOf Tryd.f59)) [G59_l0_L] := by
  have hl : loopsOf (bodyOf Tryd.f59) = [.loop G59_l0_c] := by kernel_rfl
  rw [hl]; exact ⟨G59_l0_V, trivial⟩
theorem G59_ent : Ent Tryd.prog 59 := ⟨by decide, enters_of Tryd.func59 (by kernel_rfl) rfl⟩
theorem G59_hev : ∀ x, fnR Tryd.prog G59_C [G59_l0_L] Tryd.f59 (bodyOf Tryd.f59) (encs [.dat T23, .dat (.list T72), .dat T26, .dat (.int .i64), .dat (.int .i64), .dat (.int .i64)] x) ⟨[], [], 0⟩ (frzF (.tup (.cons (.dat (.list (.int .i64))) (.cons (.dat .bool) (.nil))))) = G59 x.1 x.2.1 x.2.2.1 x.2.2.2.1 x.2.2.2.2.1 x.2.2.2.2.2.1 := by
  intro x; kernel_rfl
theorem G59_valid : G59_E.Valid Tryd.prog :=
  pureE_valid (by kernel_rfl) (by kernel_rfl) G59_ent (frz_lcall mixed Tryd.func59 rfl G59_ent G59_CV G59_LV (by kernel_rfl) (by kernel_rfl) G59_hev)
noncomputable def G58_C : CalT := tabC [G29_E, G84_E, G59_E]
theorem G58_CV : CV Tryd.prog G58_C := tabC_valid (l := _) ⟨G29_valid, G84_valid, G59_valid, trivial⟩
noncomputable def G58_l0_c : Code := loopAt (bodyOf Tryd.f58) 0
noncomputable def G58_l1_c : Code := loopAt G58_l0_c 0
noncomputable def G58_l1_S : SPat := ⟨[.any, .dat (.list T72), .any, .dat (.int .i64), .fix (.bptr 0 []), .any, .fix (.bptr 1 []), .any, .fix (.bptr 2 []), .dat .bool, .dat (.int .i64), .fix (.bptr 3 []), .dat (.int .i64), .dat (.int .i64), .any, .any, .any, .any, .any, .any, .any, .any, .any, .any, .any, .any, .any, .any, .any, .any, .any, .any, .any, .any, .any, .any, .any, .any, .any, .any, .any, .any, .any, .any, .any, .any, .any, .any, .any, .any, .any, .any, .any, .any, .any, .any], [.dat T23, .dat T26, .cons (.dat (.int .i64)) (.cons (.dat (.int .i64)) (.nil)), .dat T56], 0⟩
abbrev TY94 : Type := (((List E72) × (Int × (Bool × (Int × (Int × (Int × Unit)))))) × (E23 × (E26 × ((Int × (Int × Unit)) × (E56 × Unit)))))
abbrev TY95 : Type := (Nat × (((List E72) × (Int × (Bool × (Int × (Int × (Int × Unit)))))) × (E23 × (E26 × ((Int × (Int × Unit)) × (E56 × Unit))))))
noncomputable def G58_l1_step (s : TY94) : Option TY95 :=
  (bif (decide (s.1.2.2.2.2.2.1 ≤ s.1.2.2.2.1)) then
  (Option.bind (G59 s.2.1 s.1.1 s.2.2.1 s.1.2.1 s.1.2.2.2.2.1 s.1.2.2.2.2.2.1) fun r3 =>
    (bif r3.2.1 then
      some (1, ((s.1.1, (s.1.2.1, (true, (s.1.2.2.2.1, (s.1.2.2.2.2.1, (s.1.2.2.2.2.2.1, ())))))), (s.2.1, (s.2.2.1, ((s.1.2.2.2.2.1, (s.1.2.2.2.2.2.1, ())), (s.2.2.2.2.1, ()))))))
      else
      some (0, ((s.1.1, (s.1.2.1, (s.1.2.2.1, (s.1.2.2.2.1, (s.1.2.2.2.2.1, ((IntKind.wrap .i64 (s.1.2.2.2.2.2.1 + 1)), ())))))), (s.2.1, (s.2.2.1, (s.2.2.2.1, (s.2.2.2.2.1, ()))))))))
  else
  some (2, ((s.1.1, (s.1.2.1, (s.1.2.2.1, (s.1.2.2.2.1, (s.1.2.2.2.2.1, (s.1.2.2.2.2.2.1, ())))))), (s.2.1, (s.2.2.1, (s.2.2.2.1, (s.2.2.2.2.1, ())))))))
noncomputable def G58_l1_fuel (s : TY94) : Nat := 100000
noncomputable def G58_l1_run (s : TY94) : Option TY95 := iter G58_l1_step (G58_l1_fuel s) s
noncomputable def G58_l1_L : LoopT := loopT G58_l1_S [.ret, .exit 2] G58_l1_run
noncomputable def G58_l0_S : SPat := ⟨[.any, .dat (.list T72), .any, .dat (.int .i64), .fix (.bptr 0 []), .any, .fix (.bptr 1 []), .any, .fix (.bptr 2 []), .dat .bool, .dat (.int .i64), .fix (.bptr 3 []), .dat (.int .i64), .any, .any, .any, .any, .any, .any, .any, .any, .any, .any, .any, .any, .any, .any, .any, .any, .any, .any, .any, .any, .any, .any, .any, .any, .any, .any, .any, .any, .any, .any, .any, .any, .any, .any, .any, .any, .any, .any, .any, .any, .any, .any, .any], [.dat T23, .dat T26, .cons (.dat (.int .i64)) (.cons (.dat (.int .i64)) (.nil)), .dat T56], 0⟩
abbrev TY96 : Type := (((List E72) × (Int × (Bool × (Int × (Int × Unit))))) × (E23 × (E26 × ((Int × (Int × Unit)) × (E56 × Unit)))))
abbrev TY97 : Type := (Nat × (((List E72) × (Int × (Bool × (Int × (Int × Unit))))) × (E23 × (E26 × ((Int × (Int × Unit)) × (E56 × Unit))))))
noncomputable def G58_l0_step (s : TY96) : Option TY97 :=
  (bif (decide (s.1.2.2.2.2.1 ≤ s.2.2.2.2.1.2.1)) then
  (Option.bind (G58_l1_run ((s.1.1, (s.1.2.1, (s.1.2.2.1, (s.1.2.2.2.1, (s.1.2.2.2.2.1, ((IntKind.wrap .i64 (0 - s.1.2.2.2.1)), ())))))), (s.2.1, (s.2.2.1, (s.2.2.2.1, (s.2.2.2.2.1, ())))))) fun q4 =>
    (natK q4.1
      (some (1, ((q4.2.1.1, (q4.2.1.2.1, (q4.2.1.2.2.1, (q4.2.1.2.2.2.1, (q4.2.1.2.2.2.2.1, ()))))), (q4.2.2.1, (q4.2.2.2.1, (q4.2.2.2.2.1, (q4.2.2.2.2.2.1, ())))))))
      (fun _ => some (0, ((q4.2.1.1, (q4.2.1.2.1, (q4.2.1.2.2.1, (q4.2.1.2.2.2.1, ((IntKind.wrap .i64 (q4.2.1.2.2.2.2.1 + 1)), ()))))), (q4.2.2.1, (q4.2.2.2.1, (q4.2.2.2.2.1, (q4.2.2.2.2.2.1, ())))))))))
  else
  some (2, ((s.1.1, (s.1.2.1, (s.1.2.2.1, (s.1.2.2.2.1, (s.1.2.2.2.2.1, ()))))), (s.2.1, (s.2.2.1, (s.2.2.2.1, (s.2.2.2.2.1, ())))))))
noncomputable def G58_l0_fuel (s : TY96) : Nat := 100000
noncomputable def G58_l0_run (s : TY96) : Option TY97 := iter G58_l0_step (G58_l0_fuel s) s
noncomputable def G58_l0_L : LoopT := loopT G58_l0_S [.ret, .exit 0] G58_l0_run
noncomputable def G58 (a0 : E23) (a1 : (List E72)) (a2 : E26) (a3 : Int) : Option (E56 × (Bool × Unit)) :=
  (Option.bind (G29 a2.2.1 a3) fun r1 =>
  (bif r1 then
    (Option.bind (G84 a0 a1 a3) fun r2 =>
      (Option.bind (G58_l0_run ((a1, (a3, (false, (a0.2.2.1, (r2.1, ()))))), (a0, (a2, ((0, (0, ())), (r2, ())))))) fun q5 =>
        (natK q5.1
          (some (q5.2.2.2.2.1, (q5.2.1.2.2.1, ())))
          (fun _ => some ((0, (0, ())), (false, ()))))))
    else
    (Option.bind (G84 a0 a1 a3) fun r6 =>
      (Option.bind (G58_l0_run ((a1, (a3, (false, (0, (r6.1, ()))))), (a0, (a2, ((0, (0, ())), (r6, ())))))) fun q7 =>
        (natK q7.1
          (some (q7.2.2.2.2.1, (q7.2.1.2.2.1, ())))
          (fun _ => some ((0, (0, ())), (false, ()))))))))
noncomputable def G58_E : CEnt := pureE 58 [.dat T23, .dat (.list T72), .dat T26, .dat (.int .i64)] (.tup (.cons (.dat T56) (.cons (.dat .bool) (.nil)))) fun x => G58 x.1 x.2.1 x.2.2.1 x.2.2.2.1
theorem G58_l1_V : LValid 0 Tryd.prog (.loop G58_l1_c) G58_l1_L false := by
  exact loopT_valid (fuel := G58_l1_fuel) mixed G58_CV (lvNil _) (by kernel_rfl) (by decide) rfl (by intro s; kernel_rfl) (fun s r h => h)
theorem G58_l0_V : LValid 0 Tryd.prog (.loop G58_l0_c) G58_l0_L false := by
  have hb : ∀ s, codeR Tryd.prog G58_C G58_l0_c [G58_l1_L] (G58_l0_S.encE s) (G58_l0_S.encB s) (kst G58_l0_S [.ret, .exit 0]) = G58_l0_step s := by
    intro s; kernel_rfl
  have hl : loopsOf G58_l0_c = [.loop G58_l1_c] := by kernel_rfl
  have hL : LV 0 Tryd.prog false (loopsOf G58_l0_c) [G58_l1_L] := by rw [hl]; exact ⟨G58_l1_V, trivial⟩
  exact loopT_valid (fuel := G58_l0_fuel) mixed G58_CV hL (by kernel_rfl) (by decide) rfl hb (fun s r h => h)
theorem G58_LV : LV 0 Tryd.prog false (loopsOf (bodyOf Tryd.f58)) [G58_l0_L] := by
  have hl : loopsOf (bodyOf Tryd.f58) = [.loop G58_l0_c] := by kernel_rfl
  rw [hl]; exact ⟨G58_l0_V, trivial⟩
theorem G58_ent : Ent Tryd.prog 58 := ⟨by decide, enters_of Tryd.func58 (by kernel_rfl) rfl⟩
theorem G58_hev : ∀ x, fnR Tryd.prog G58_C [G58_l0_L] Tryd.f58 (bodyOf Tryd.f58) (encs [.dat T23, .dat (.list T72), .dat T26, .dat (.int .i64)] x) ⟨[], [], 0⟩ (frzF (.tup (.cons (.dat T56) (.cons (.dat .bool) (.nil))))) = G58 x.1 x.2.1 x.2.2.1 x.2.2.2.1 := by
  intro x; kernel_rfl
theorem G58_valid : G58_E.Valid Tryd.prog :=
  pureE_valid (by kernel_rfl) (by kernel_rfl) G58_ent (frz_lcall mixed Tryd.func58 rfl G58_ent G58_CV G58_LV (by kernel_rfl) (by kernel_rfl) G58_hev)
noncomputable def G23_C : CalT := tabC []
theorem G23_CV : CV Tryd.prog G23_C := tabC_valid (l := _) trivial
noncomputable def G23 (a0 : E23) : Option Int :=
  some (IntKind.wrap .i64 ((List.length a0.2.2.2.2.1 : Int) + a0.2.2.2.1))
noncomputable def G23_E : CEnt := pureE 23 [.dat T23] (.dat (.int .i64)) fun x => G23 x.1
theorem G23_LV : LV 0 Tryd.prog false (loopsOf (bodyOf Tryd.f23)) [] := by unfold LV; cases loopsOf (bodyOf Tryd.f23) <;> trivial
theorem G23_ent : Ent Tryd.prog 23 := ⟨by decide, enters_of Tryd.func23 (by kernel_rfl) rfl⟩
theorem G23_hev : ∀ x, fnR Tryd.prog G23_C [] Tryd.f23 (bodyOf Tryd.f23) (encs [.dat T23] x) ⟨[], [], 0⟩ (frzF (.dat (.int .i64))) = G23 x.1 := by
  intro x; kernel_rfl
theorem G23_valid : G23_E.Valid Tryd.prog :=
  pureE_valid (by kernel_rfl) (by kernel_rfl) G23_ent (frz_lcall mixed Tryd.func23 rfl G23_ent G23_CV G23_LV (by kernel_rfl) (by kernel_rfl) G23_hev)
noncomputable def G30_C : CalT := tabC []
theorem G30_CV : CV Tryd.prog G30_C := tabC_valid (l := _) trivial
noncomputable def G30_l0_c : Code := loopAt (bodyOf Tryd.f30) 0
noncomputable def G30_l0_S : SPat := ⟨[.dat (.int .i64), .any, .any, .dat (.int .i64), .dat (.int .i64), .any, .any, .any, .any, .any, .any, .any, .any], [], 0⟩
noncomputable def G30_l0_step (s : ((Int × (Int × (Int × Unit))) × Unit)) : Option (Nat × ((Int × (Int × (Int × Unit))) × Unit)) :=
  (bif (decide (s.1.2.2.1 < s.1.1)) then
  some (0, ((s.1.1, ((IntKind.wrap .i64 ((2 : Int) * s.1.2.1)), ((IntKind.wrap .i64 (s.1.2.2.1 + 1)), ()))), ()))
  else
  some (1, ((s.1.1, (s.1.2.1, (s.1.2.2.1, ()))), ())))
noncomputable def G30_l0_fuel (s : ((Int × (Int × (Int × Unit))) × Unit)) : Nat := Int.toNat (s.1.1 - s.1.2.2.1) + 1
noncomputable def G30_l0_run (s : ((Int × (Int × (Int × Unit))) × Unit)) : Option (Nat × ((Int × (Int × (Int × Unit))) × Unit)) := iter G30_l0_step (G30_l0_fuel s) s
noncomputable def G30_l0_L : LoopT := loopT G30_l0_S [.exit 0] G30_l0_run
noncomputable def G30 (a0 : Int) : Option Int :=
  (Option.bind (G30_l0_run ((a0, (1, (0, ()))), ())) fun q1 =>
  some q1.2.1.2.1)
noncomputable def G30_E : CEnt := pureE 30 [.dat (.int .i64)] (.dat (.int .i64)) fun x => G30 x.1
theorem G30_l0_V : LValid 0 Tryd.prog (.loop G30_l0_c) G30_l0_L false := by
  exact loopT_valid (fuel := G30_l0_fuel) mixed G30_CV (lvNil _) (by kernel_rfl) (by decide) rfl (by intro s; kernel_rfl) (fun s r h => h)
theorem G30_LV : LV 0 Tryd.prog false (loopsOf (bodyOf Tryd.f30)) [G30_l0_L] := by
  have hl : loopsOf (bodyOf Tryd.f30) = [.loop G30_l0_c] := by kernel_rfl
  rw [hl]; exact ⟨G30_l0_V, trivial⟩
theorem G30_ent : Ent Tryd.prog 30 := ⟨by decide, enters_of Tryd.func30 (by kernel_rfl) rfl⟩
theorem G30_hev : ∀ x, fnR Tryd.prog G30_C [G30_l0_L] Tryd.f30 (bodyOf Tryd.f30) (encs [.dat (.int .i64)] x) ⟨[], [], 0⟩ (frzF (.dat (.int .i64))) = G30 x.1 := by
  intro x; kernel_rfl
theorem G30_valid : G30_E.Valid Tryd.prog :=
  pureE_valid (by kernel_rfl) (by kernel_rfl) G30_ent (frz_lcall mixed Tryd.func30 rfl G30_ent G30_CV G30_LV (by kernel_rfl) (by kernel_rfl) G30_hev)
noncomputable def G73_C : CalT := tabC []
theorem G73_CV : CV Tryd.prog G73_C := tabC_valid (l := _) trivial
noncomputable def G73_l0_c : Code := loopAt (bodyOf Tryd.f73) 0
noncomputable def G73_l1_c : Code := loopAt G73_l0_c 0
noncomputable def G73_l2_c : Code := loopAt G73_l1_c 0
noncomputable def G73_l2_S : SPat := ⟨[.dat (.int .i64), .dat (.int .i64), .any, .any, .any, .own 0 (.list (.int .i64)), .dat (.int .i64), .own 1 (.list (.int .i64)), .dat (.int .i64), .any, .dat (.int .i64), .any, .any, .any, .any, .any, .any, .any, .any, .any, .any, .any, .any, .any, .any, .any, .any, .any, .any, .any, .any, .any, .any, .any, .any, .any, .any, .any, .any, .any, .any, .any, .any, .any, .any, .any, .any, .any, .any, .any, .any, .any, .any], [], 2⟩
abbrev TY112 : Type := ((Int × (Int × ((List (List Int)) × (Int × ((List (List Int)) × (Int × (Int × Unit))))))) × Unit)
abbrev TY113 : Type := (Nat × ((Int × (Int × ((List (List Int)) × (Int × ((List (List Int)) × (Int × (Int × Unit))))))) × Unit))
noncomputable def G73_l2_step (s : TY112) : Option TY113 :=
  (bif (decide (s.1.2.2.2.2.2.2.1 < s.1.1)) then
  (bif (decide (0 ≤ s.1.2.2.2.2.2.1) && decide (s.1.2.2.2.2.2.1 < (List.length s.1.2.2.1 : Int))) then
    (bif (decide (List.length ([] : List Int) + List.length (List.getD s.1.2.2.1 (Int.toNat s.1.2.2.2.2.2.1) []) ≤ LIM)) then
      (bif (decide (List.length (([] : List Int) ++ (List.getD s.1.2.2.1 (Int.toNat s.1.2.2.2.2.2.1) [])) + List.length [s.1.2.2.2.2.2.2.1] ≤ LIM)) then
        (bif (decide (List.length s.1.2.2.2.2.1 + List.length [((([] : List Int) ++ (List.getD s.1.2.2.1 (Int.toNat s.1.2.2.2.2.2.1) [])) ++ [s.1.2.2.2.2.2.2.1])] ≤ LIM)) then
          some (0, ((s.1.1, (s.1.2.1, (s.1.2.2.1, (s.1.2.2.2.1, ((s.1.2.2.2.2.1 ++ [((([] : List Int) ++ (List.getD s.1.2.2.1 (Int.toNat s.1.2.2.2.2.2.1) [])) ++ [s.1.2.2.2.2.2.2.1])]), (s.1.2.2.2.2.2.1, ((IntKind.wrap .i64 (s.1.2.2.2.2.2.2.1 + 1)), ()))))))), ()))
          else
          none)
        else
        none)
      else
      none)
    else
    none)
  else
  some (1, ((s.1.1, (s.1.2.1, (s.1.2.2.1, (s.1.2.2.2.1, (s.1.2.2.2.2.1, (s.1.2.2.2.2.2.1, (s.1.2.2.2.2.2.2.1, ()))))))), ())))
noncomputable def G73_l2_fuel (s : TY112) : Nat := Int.toNat (s.1.1 - s.1.2.2.2.2.2.2.1) + 1
noncomputable def G73_l2_run (s : TY112) : Option TY113 := iter G73_l2_step (G73_l2_fuel s) s
noncomputable def G73_l2_L : LoopT := loopT G73_l2_S [.exit 4] G73_l2_run
noncomputable def G73_l1_S : SPat := ⟨[.dat (.int .i64), .dat (.int .i64), .any, .any, .any, .own 0 (.list (.int .i64)), .dat (.int .i64), .own 1 (.list (.int .i64)), .dat (.int .i64), .any, .any, .any, .any, .any, .any, .any, .any, .any, .any, .any, .any, .any, .any, .any, .any, .any, .any, .any, .any, .any, .any, .any, .any, .any, .any, .any, .any, .any, .any, .any, .any, .any, .any, .any, .any, .any, .any, .any, .any, .any, .any, .any, .any], [], 2⟩
abbrev TY114 : Type := ((Int × (Int × ((List (List Int)) × (Int × ((List (List Int)) × (Int × Unit)))))) × Unit)
abbrev TY115 : Type := (Nat × ((Int × (Int × ((List (List Int)) × (Int × ((List (List Int)) × (Int × Unit)))))) × Unit))
noncomputable def G73_l1_step (s : TY114) : Option TY115 :=
  (bif (decide (s.1.2.2.2.2.2.1 < (List.length s.1.2.2.1 : Int))) then
  (bif (decide (s.1.2.2.2.1 > 0)) then
    (bif (decide (0 ≤ s.1.2.2.2.2.2.1) && decide (s.1.2.2.2.2.2.1 < (List.length s.1.2.2.1 : Int))) then
      (bif (decide (0 ≤ (IntKind.wrap .i64 (s.1.2.2.2.1 - 1))) && decide ((IntKind.wrap .i64 (s.1.2.2.2.1 - 1)) < (List.length (List.getD s.1.2.2.1 (Int.toNat s.1.2.2.2.2.2.1) []) : Int))) then
        (Option.bind (G73_l2_run ((s.1.1, (s.1.2.1, (s.1.2.2.1, (s.1.2.2.2.1, (s.1.2.2.2.2.1, (s.1.2.2.2.2.2.1, ((IntKind.wrap .i64 ((List.getD (List.getD s.1.2.2.1 (Int.toNat s.1.2.2.2.2.2.1) []) (Int.toNat (IntKind.wrap .i64 (s.1.2.2.2.1 - 1))) 0) + 1)), ()))))))), ())) fun q1 =>
          some (0, ((q1.2.1.1, (q1.2.1.2.1, (q1.2.1.2.2.1, (q1.2.1.2.2.2.1, (q1.2.1.2.2.2.2.1, ((IntKind.wrap .i64 (q1.2.1.2.2.2.2.2.1 + 1)), ())))))), ())))
        else
        none)
      else
      none)
    else
    (Option.bind (G73_l2_run ((s.1.1, (s.1.2.1, (s.1.2.2.1, (s.1.2.2.2.1, (s.1.2.2.2.2.1, (s.1.2.2.2.2.2.1, (0, ()))))))), ())) fun q2 =>
      some (0, ((q2.2.1.1, (q2.2.1.2.1, (q2.2.1.2.2.1, (q2.2.1.2.2.2.1, (q2.2.1.2.2.2.2.1, ((IntKind.wrap .i64 (q2.2.1.2.2.2.2.2.1 + 1)), ())))))), ()))))
  else
  some (1, ((s.1.1, (s.1.2.1, (s.1.2.2.1, (s.1.2.2.2.1, (s.1.2.2.2.2.1, (s.1.2.2.2.2.2.1, ())))))), ())))
noncomputable def G73_l1_fuel (s : TY114) : Nat := Int.toNat ((List.length s.1.2.2.1 : Int) - s.1.2.2.2.2.2.1) + 1
noncomputable def G73_l1_run (s : TY114) : Option TY115 := iter G73_l1_step (G73_l1_fuel s) s
noncomputable def G73_l1_L : LoopT := loopT G73_l1_S [.exit 2] G73_l1_run
noncomputable def G73_l0_S : SPat := ⟨[.dat (.int .i64), .dat (.int .i64), .any, .any, .any, .own 0 (.list (.int .i64)), .dat (.int .i64), .any, .any, .any, .any, .any, .any, .any, .any, .any, .any, .any, .any, .any, .any, .any, .any, .any, .any, .any, .any, .any, .any, .any, .any, .any, .any, .any, .any, .any, .any, .any, .any, .any, .any, .any, .any, .any, .any, .any, .any, .any, .any, .any, .any, .any, .any], [], 1⟩
noncomputable def G73_l0_step (s : ((Int × (Int × ((List (List Int)) × (Int × Unit)))) × Unit)) : Option (Nat × ((Int × (Int × ((List (List Int)) × (Int × Unit)))) × Unit)) :=
  (bif (decide (s.1.2.2.2.1 < s.1.2.1)) then
  (Option.bind (G73_l1_run ((s.1.1, (s.1.2.1, (s.1.2.2.1, (s.1.2.2.2.1, ([], (0, ())))))), ())) fun q3 =>
    some (0, ((q3.2.1.1, (q3.2.1.2.1, (q3.2.1.2.2.2.2.1, ((IntKind.wrap .i64 (q3.2.1.2.2.2.1 + 1)), ())))), ())))
  else
  some (1, ((s.1.1, (s.1.2.1, (s.1.2.2.1, (s.1.2.2.2.1, ())))), ())))
noncomputable def G73_l0_fuel (s : ((Int × (Int × ((List (List Int)) × (Int × Unit)))) × Unit)) : Nat := Int.toNat (s.1.2.1 - s.1.2.2.2.1) + 1
noncomputable def G73_l0_run (s : ((Int × (Int × ((List (List Int)) × (Int × Unit)))) × Unit)) : Option (Nat × ((Int × (Int × ((List (List Int)) × (Int × Unit)))) × Unit)) := iter G73_l0_step (G73_l0_fuel s) s
noncomputable def G73_l0_L : LoopT := loopT G73_l0_S [.exit 0] G73_l0_run
noncomputable def G73 (a0 : Int) (a1 : Int) : Option (List (List Int)) :=
  (Option.bind (G73_l0_run ((a0, (a1, ([[]], (0, ())))), ())) fun q4 =>
  some q4.2.1.2.2.1)
noncomputable def G73_E : CEnt := pureE 73 [.dat (.int .i64), .dat (.int .i64)] (.dat (.list (.list (.int .i64)))) fun x => G73 x.1 x.2.1
theorem G73_l2_V : LValid 0 Tryd.prog (.loop G73_l2_c) G73_l2_L false := by
  exact loopT_valid (fuel := G73_l2_fuel) mixed G73_CV (lvNil _) (by kernel_rfl) (by decide) rfl (by intro s; kernel_rfl) (fun s r h => h)
theorem G73_l1_V : LValid 0 Tryd.prog (.loop G73_l1_c) G73_l1_L false := by
  have hb : ∀ s, codeR Tryd.prog G73_C G73_l1_c [G73_l2_L] (G73_l1_S.encE s) (G73_l1_S.encB s) (kst G73_l1_S [.exit 2]) = G73_l1_step s := by
    intro s; kernel_rfl
  have hl : loopsOf G73_l1_c = [.loop G73_l2_c] := by kernel_rfl
  have hL : LV 0 Tryd.prog false (loopsOf G73_l1_c) [G73_l2_L] := by rw [hl]; exact ⟨G73_l2_V, trivial⟩
  exact loopT_valid (fuel := G73_l1_fuel) mixed G73_CV hL (by kernel_rfl) (by decide) rfl hb (fun s r h => h)
theorem G73_l0_V : LValid 0 Tryd.prog (.loop G73_l0_c) G73_l0_L false := by
  have hb : ∀ s, codeR Tryd.prog G73_C G73_l0_c [G73_l1_L] (G73_l0_S.encE s) (G73_l0_S.encB s) (kst G73_l0_S [.exit 0]) = G73_l0_step s := by
    intro s; kernel_rfl
  have hl : loopsOf G73_l0_c = [.loop G73_l1_c] := by kernel_rfl
  have hL : LV 0 Tryd.prog false (loopsOf G73_l0_c) [G73_l1_L] := by rw [hl]; exact ⟨G73_l1_V, trivial⟩
  exact loopT_valid (fuel := G73_l0_fuel) mixed G73_CV hL (by kernel_rfl) (by decide) rfl hb (fun s r h => h)
theorem G73_LV : LV 0 Tryd.prog false (loopsOf (bodyOf Tryd.f73)) [G73_l0_L] := by
  have hl : loopsOf (bodyOf Tryd.f73) = [.loop G73_l0_c] := by kernel_rfl
  rw [hl]; exact ⟨G73_l0_V, trivial⟩
theorem G73_ent : Ent Tryd.prog 73 := ⟨by decide, enters_of Tryd.func73 (by kernel_rfl) rfl⟩
theorem G73_hev : ∀ x, fnR Tryd.prog G73_C [G73_l0_L] Tryd.f73 (bodyOf Tryd.f73) (encs [.dat (.int .i64), .dat (.int .i64)] x) ⟨[], [], 0⟩ (frzF (.dat (.list (.list (.int .i64))))) = G73 x.1 x.2.1 := by
  intro x; kernel_rfl
theorem G73_valid : G73_E.Valid Tryd.prog :=
  pureE_valid (by kernel_rfl) (by kernel_rfl) G73_ent (frz_lcall mixed Tryd.func73 rfl G73_ent G73_CV G73_LV (by kernel_rfl) (by kernel_rfl) G73_hev)
noncomputable def G74_C : CalT := tabC []
theorem G74_CV : CV Tryd.prog G74_C := tabC_valid (l := _) trivial
noncomputable def G74_l0_c : Code := loopAt (bodyOf Tryd.f74) 0
noncomputable def G74_l0_S : SPat := ⟨[.any, .dat (.list (.int .i64)), .fix (.bptr 0 []), .any, .fix (.bptr 1 []), .fix (.bptr 2 []), .dat (.int .i64), .any, .any, .any, .any, .any, .any, .any, .any, .any, .any, .any, .any, .any, .any, .any, .any, .any, .any, .any, .any, .any, .any, .any, .any, .any, .any, .any, .any, .any, .any, .any, .any, .any, .any, .any, .any, .any], [.dat T23, .cons (.own 0 (.int .i64)) (.cons (.own 1 (.int .i64)) (.nil)), .cons (.own 2 (.int .i64)) (.cons (.own 3 (.int .i64)) (.nil))], 4⟩
abbrev TY116 : Type := (((List Int) × (Int × Unit)) × (E23 × (((List Int) × ((List Int) × Unit)) × (((List Int) × ((List Int) × Unit)) × Unit))))
abbrev TY117 : Type := (Nat × (((List Int) × (Int × Unit)) × (E23 × (((List Int) × ((List Int) × Unit)) × (((List Int) × ((List Int) × Unit)) × Unit)))))
noncomputable def G74_l0_step (s : TY116) : Option TY117 :=
  (bif (decide (s.1.2.1 < (List.length s.1.1 : Int))) then
  (bif (decide (0 ≤ s.1.2.1) && decide (s.1.2.1 < (List.length s.1.1 : Int))) then
    (bif (decide ((List.getD s.1.1 (Int.toNat s.1.2.1) 0) < (List.length s.2.1.2.2.2.2.1 : Int))) then
      (bif (decide (0 ≤ s.1.2.1) && decide (s.1.2.1 < (List.length s.1.1 : Int))) then
        (bif (decide (List.length s.2.2.2.1.1 + List.length [(List.getD s.1.1 (Int.toNat s.1.2.1) 0)] ≤ LIM)) then
          some (0, ((s.1.1, ((IntKind.wrap .i64 (s.1.2.1 + 1)), ())), (s.2.1, (s.2.2.1, (((s.2.2.2.1.1 ++ [(List.getD s.1.1 (Int.toNat s.1.2.1) 0)]), s.2.2.2.1.2), ())))))
          else
          none)
        else
        none)
      else
      (bif (decide (0 ≤ s.1.2.1) && decide (s.1.2.1 < (List.length s.1.1 : Int))) then
        (bif (decide (List.length s.2.2.2.1.2.1 + List.length [(IntKind.wrap .i64 ((List.getD s.1.1 (Int.toNat s.1.2.1) 0) - (List.length s.2.1.2.2.2.2.1 : Int)))] ≤ LIM)) then
          some (0, ((s.1.1, ((IntKind.wrap .i64 (s.1.2.1 + 1)), ())), (s.2.1, (s.2.2.1, ((s.2.2.2.1.1, ((s.2.2.2.1.2.1 ++ [(IntKind.wrap .i64 ((List.getD s.1.1 (Int.toNat s.1.2.1) 0) - (List.length s.2.1.2.2.2.2.1 : Int)))]), s.2.2.2.1.2.2)), ())))))
          else
          none)
        else
        none))
    else
    none)
  else
  some (1, ((s.1.1, (s.1.2.1, ())), (s.2.1, (s.2.2.1, (s.2.2.2.1, ()))))))
noncomputable def G74_l0_fuel (s : TY116) : Nat := Int.toNat ((List.length s.1.1 : Int) - s.1.2.1) + 1
noncomputable def G74_l0_run (s : TY116) : Option TY117 := iter G74_l0_step (G74_l0_fuel s) s
noncomputable def G74_l0_L : LoopT := loopT G74_l0_S [.exit 0] G74_l0_run
noncomputable def G74 (a0 : E23) (a1 : (List Int)) : Option E26 :=
  (Option.bind (G74_l0_run ((a1, (0, ())), (a0, (([], ([], ())), (([], ([], ())), ()))))) fun q1 =>
  some q1.2.2.2.2.1)
noncomputable def G74_E : CEnt := pureE 74 [.dat T23, .dat (.list (.int .i64))] (.dat T26) fun x => G74 x.1 x.2.1
theorem G74_l0_V : LValid 0 Tryd.prog (.loop G74_l0_c) G74_l0_L false := by
  exact loopT_valid (fuel := G74_l0_fuel) mixed G74_CV (lvNil _) (by kernel_rfl) (by decide) rfl (by intro s; kernel_rfl) (fun s r h => h)
theorem G74_LV : LV 0 Tryd.prog false (loopsOf (bodyOf Tryd.f74)) [G74_l0_L] := by
  have hl : loopsOf (bodyOf Tryd.f74) = [.loop G74_l0_c] := by kernel_rfl
  rw [hl]; exact ⟨G74_l0_V, trivial⟩
theorem G74_ent : Ent Tryd.prog 74 := ⟨by decide, enters_of Tryd.func74 (by kernel_rfl) rfl⟩
theorem G74_hev : ∀ x, fnR Tryd.prog G74_C [G74_l0_L] Tryd.f74 (bodyOf Tryd.f74) (encs [.dat T23, .dat (.list (.int .i64))] x) ⟨[], [], 0⟩ (frzF (.dat T26)) = G74 x.1 x.2.1 := by
  intro x; kernel_rfl
theorem G74_valid : G74_E.Valid Tryd.prog :=
  pureE_valid (by kernel_rfl) (by kernel_rfl) G74_ent (frz_lcall mixed Tryd.func74 rfl G74_ent G74_CV G74_LV (by kernel_rfl) (by kernel_rfl) G74_hev)
noncomputable def G75_C : CalT := tabC [G58_E]
theorem G75_CV : CV Tryd.prog G75_C := tabC_valid (l := _) ⟨G58_valid, trivial⟩
noncomputable def G75_l0_c : Code := loopAt (bodyOf Tryd.f75) 0
noncomputable def G75_l0_S : SPat := ⟨[.any, .dat (.list T72), .any, .fix (.bptr 0 []), .any, .fix (.bptr 1 []), .dat .bool, .dat (.int .i64), .any, .any, .any, .any, .any, .any, .any, .any, .any, .any, .any, .any, .any, .any, .any, .any, .any, .any], [.dat T23, .dat T26], 0⟩
noncomputable def G75_l0_step (s : (((List E72) × (Bool × (Int × Unit))) × (E23 × (E26 × Unit)))) : Option (Nat × (((List E72) × (Bool × (Int × Unit))) × (E23 × (E26 × Unit)))) :=
  (bif (decide (s.1.2.2.1 < s.2.1.2.2.2.1)) then
  (Option.bind (G58 s.2.1 s.1.1 s.2.2.1 s.1.2.2.1) fun r1 =>
    (bif (!r1.2.1) then
      some (1, ((s.1.1, (false, (s.1.2.2.1, ()))), (s.2.1, (s.2.2.1, ()))))
      else
      some (0, ((s.1.1, (s.1.2.1, ((IntKind.wrap .i64 (s.1.2.2.1 + 1)), ()))), (s.2.1, (s.2.2.1, ()))))))
  else
  some (2, ((s.1.1, (s.1.2.1, (s.1.2.2.1, ()))), (s.2.1, (s.2.2.1, ())))))
noncomputable def G75_l0_fuel (s : (((List E72) × (Bool × (Int × Unit))) × (E23 × (E26 × Unit)))) : Nat := Int.toNat (s.2.1.2.2.2.1 - s.1.2.2.1) + 1
noncomputable def G75_l0_run (s : (((List E72) × (Bool × (Int × Unit))) × (E23 × (E26 × Unit)))) : Option (Nat × (((List E72) × (Bool × (Int × Unit))) × (E23 × (E26 × Unit)))) := iter G75_l0_step (G75_l0_fuel s) s
noncomputable def G75_l0_L : LoopT := loopT G75_l0_S [.ret, .exit 0] G75_l0_run
noncomputable def G75 (a0 : E23) (a1 : (List E72)) (a2 : E26) : Option Bool :=
  (Option.bind (G75_l0_run ((a1, (false, (0, ()))), (a0, (a2, ())))) fun q2 =>
  (natK q2.1
    (some q2.2.1.2.1)
    (fun _ => some true)))
noncomputable def G75_E : CEnt := pureE 75 [.dat T23, .dat (.list T72), .dat T26] (.dat .bool) fun x => G75 x.1 x.2.1 x.2.2.1
theorem G75_l0_V : LValid 0 Tryd.prog (.loop G75_l0_c) G75_l0_L false := by
  exact loopT_valid (fuel := G75_l0_fuel) mixed G75_CV (lvNil _) (by kernel_rfl) (by decide) rfl (by intro s; kernel_rfl) (fun s r h => h)
theorem G75_LV : LV 0 Tryd.prog false (loopsOf (bodyOf Tryd.f75)) [G75_l0_L] := by
  have hl : loopsOf (bodyOf Tryd.f75) = [.loop G75_l0_c] := by kernel_rfl
  rw [hl]; exact ⟨G75_l0_V, trivial⟩
theorem G75_ent : Ent Tryd.prog 75 := ⟨by decide, enters_of Tryd.func75 (by kernel_rfl) rfl⟩
theorem G75_hev : ∀ x, fnR Tryd.prog G75_C [G75_l0_L] Tryd.f75 (bodyOf Tryd.f75) (encs [.dat T23, .dat (.list T72), .dat T26] x) ⟨[], [], 0⟩ (frzF (.dat .bool)) = G75 x.1 x.2.1 x.2.2.1 := by
  intro x; kernel_rfl
theorem G75_valid : G75_E.Valid Tryd.prog :=
  pureE_valid (by kernel_rfl) (by kernel_rfl) G75_ent (frz_lcall mixed Tryd.func75 rfl G75_ent G75_CV G75_LV (by kernel_rfl) (by kernel_rfl) G75_hev)
noncomputable def G34_C : CalT := tabC [G23_E, G73_E, G74_E, G75_E]
theorem G34_CV : CV Tryd.prog G34_C := tabC_valid (l := _) ⟨G23_valid, G73_valid, G74_valid, G75_valid, trivial⟩
noncomputable def G34_l0_c : Code := loopAt (bodyOf Tryd.f34) 0
noncomputable def G34_l1_c : Code := loopAt G34_l0_c 0
noncomputable def G34_l1_S : SPat := ⟨[.any, .dat (.list T72), .dat (.int .i64), .fix (.bptr 0 []), .any, .any, .any, .own 0 T26, .dat (.int .i64), .dat (.list (.list (.int .i64))), .dat (.int .i64), .any, .any, .any, .any, .any, .any, .any, .any, .any, .any, .any, .any, .any, .any, .any, .any, .any, .any, .any, .any, .any, .any, .any, .any, .any, .any, .any, .any, .any, .any, .any], [.dat T23], 1⟩
abbrev TY122 : Type := (((List E72) × (Int × ((List E26) × (Int × ((List (List Int)) × (Int × Unit)))))) × (E23 × Unit))
abbrev TY123 : Type := (Nat × (((List E72) × (Int × ((List E26) × (Int × ((List (List Int)) × (Int × Unit)))))) × (E23 × Unit)))
noncomputable def G34_l1_step (s : TY122) : Option TY123 :=
  (bif (decide (s.1.2.2.2.2.2.1 < (List.length s.1.2.2.2.2.1 : Int))) then
  (bif (decide (0 ≤ s.1.2.2.2.2.2.1) && decide (s.1.2.2.2.2.2.1 < (List.length s.1.2.2.2.2.1 : Int))) then
    (Option.bind (G74 s.2.1 (List.getD s.1.2.2.2.2.1 (Int.toNat s.1.2.2.2.2.2.1) [])) fun r3 =>
      (Option.bind (G75 s.2.1 s.1.1 r3) fun r4 =>
        (bif r4 then
          (bif (decide (List.length s.1.2.2.1 + List.length [r3] ≤ LIM)) then
            some (0, ((s.1.1, (s.1.2.1, ((s.1.2.2.1 ++ [r3]), (s.1.2.2.2.1, (s.1.2.2.2.2.1, ((IntKind.wrap .i64 (s.1.2.2.2.2.2.1 + 1)), ())))))), (s.2.1, ())))
            else
            none)
          else
          some (0, ((s.1.1, (s.1.2.1, (s.1.2.2.1, (s.1.2.2.2.1, (s.1.2.2.2.2.1, ((IntKind.wrap .i64 (s.1.2.2.2.2.2.1 + 1)), ())))))), (s.2.1, ()))))))
    else
    none)
  else
  some (1, ((s.1.1, (s.1.2.1, (s.1.2.2.1, (s.1.2.2.2.1, (s.1.2.2.2.2.1, (s.1.2.2.2.2.2.1, ())))))), (s.2.1, ()))))
noncomputable def G34_l1_fuel (s : TY122) : Nat := Int.toNat ((List.length s.1.2.2.2.2.1 : Int) - s.1.2.2.2.2.2.1) + 1
noncomputable def G34_l1_run (s : TY122) : Option TY123 := iter G34_l1_step (G34_l1_fuel s) s
noncomputable def G34_l1_L : LoopT := loopT G34_l1_S [.exit 2] G34_l1_run
noncomputable def G34_l0_S : SPat := ⟨[.any, .dat (.list T72), .dat (.int .i64), .fix (.bptr 0 []), .any, .any, .any, .own 0 T26, .dat (.int .i64), .any, .any, .any, .any, .any, .any, .any, .any, .any, .any, .any, .any, .any, .any, .any, .any, .any, .any, .any, .any, .any, .any, .any, .any, .any, .any, .any, .any, .any, .any, .any, .any, .any], [.dat T23], 1⟩
abbrev TY124 : Type := (Nat × (((List E72) × (Int × ((List E26) × (Int × Unit)))) × (E23 × Unit)))
noncomputable def G34_l0_step (s : (((List E72) × (Int × ((List E26) × (Int × Unit)))) × (E23 × Unit))) : Option TY124 :=
  (bif (decide (s.1.2.2.2.1 ≤ s.1.2.1)) then
  (Option.bind (G23 s.2.1) fun r1 =>
    (Option.bind (G73 r1 s.1.2.2.2.1) fun r2 =>
      (Option.bind (G34_l1_run ((s.1.1, (s.1.2.1, (s.1.2.2.1, (s.1.2.2.2.1, (r2, (0, ())))))), (s.2.1, ()))) fun q5 =>
        some (0, ((q5.2.1.1, (q5.2.1.2.1, (q5.2.1.2.2.1, ((IntKind.wrap .i64 (q5.2.1.2.2.2.1 + 1)), ())))), (q5.2.2.1, ()))))))
  else
  some (1, ((s.1.1, (s.1.2.1, (s.1.2.2.1, (s.1.2.2.2.1, ())))), (s.2.1, ()))))
noncomputable def G34_l0_fuel (s : (((List E72) × (Int × ((List E26) × (Int × Unit)))) × (E23 × Unit))) : Nat := 100000
noncomputable def G34_l0_run (s : (((List E72) × (Int × ((List E26) × (Int × Unit)))) × (E23 × Unit))) : Option TY124 := iter G34_l0_step (G34_l0_fuel s) s
noncomputable def G34_l0_L : LoopT := loopT G34_l0_S [.exit 0] G34_l0_run
noncomputable def G34 (a0 : E23) (a1 : (List E72)) (a2 : Int) : Option (List E26) :=
  (Option.bind (G34_l0_run ((a1, (a2, ([], (0, ())))), (a0, ()))) fun q6 =>
  some q6.2.1.2.2.1)
noncomputable def G34_E : CEnt := pureE 34 [.dat T23, .dat (.list T72), .dat (.int .i64)] (.dat (.list T26)) fun x => G34 x.1 x.2.1 x.2.2.1
theorem G34_l1_V : LValid 0 Tryd.prog (.loop G34_l1_c) G34_l1_L false := by
  exact loopT_valid (fuel := G34_l1_fuel) mixed G34_CV (lvNil _) (by kernel_rfl) (by decide) rfl (by intro s; kernel_rfl) (fun s r h => h)
theorem G34_l0_V : LValid 0 Tryd.prog (.loop G34_l0_c) G34_l0_L false := by
  have hb : ∀ s, codeR Tryd.prog G34_C G34_l0_c [G34_l1_L] (G34_l0_S.encE s) (G34_l0_S.encB s) (kst G34_l0_S [.exit 0]) = G34_l0_step s := by
    intro s; kernel_rfl
  have hl : loopsOf G34_l0_c = [.loop G34_l1_c] := by kernel_rfl
  have hL : LV 0 Tryd.prog false (loopsOf G34_l0_c) [G34_l1_L] := by rw [hl]; exact ⟨G34_l1_V, trivial⟩
  exact loopT_valid (fuel := G34_l0_fuel) mixed G34_CV hL (by kernel_rfl) (by decide) rfl hb (fun s r h => h)
theorem G34_LV : LV 0 Tryd.prog false (loopsOf (bodyOf Tryd.f34)) [G34_l0_L] := by
  have hl : loopsOf (bodyOf Tryd.f34) = [.loop G34_l0_c] := by kernel_rfl
  rw [hl]; exact ⟨G34_l0_V, trivial⟩
theorem G34_ent : Ent Tryd.prog 34 := ⟨by decide, enters_of Tryd.func34 (by kernel_rfl) rfl⟩
theorem G34_hev : ∀ x, fnR Tryd.prog G34_C [G34_l0_L] Tryd.f34 (bodyOf Tryd.f34) (encs [.dat T23, .dat (.list T72), .dat (.int .i64)] x) ⟨[], [], 0⟩ (frzF (.dat (.list T26))) = G34 x.1 x.2.1 x.2.2.1 := by
  intro x; kernel_rfl
theorem G34_valid : G34_E.Valid Tryd.prog :=
  pureE_valid (by kernel_rfl) (by kernel_rfl) G34_ent (frz_lcall mixed Tryd.func34 rfl G34_ent G34_CV G34_LV (by kernel_rfl) (by kernel_rfl) G34_hev)
noncomputable def G36_C : CalT := tabC [G23_E, G29_E]
theorem G36_CV : CV Tryd.prog G36_C := tabC_valid (l := _) ⟨G23_valid, G29_valid, trivial⟩
noncomputable def G36_l0_c : Code := loopAt (bodyOf Tryd.f36) 0
noncomputable def G36_l1_c : Code := loopAt G36_l0_c 0
noncomputable def G36_l1_S : SPat := ⟨[.any, .dat (.list T26), .fix (.bptr 0 []), .any, .any, .own 0 (.int .i64), .dat (.int .i64), .dat (.int .i64), .dat (.int .i64), .any, .any, .any, .any, .any, .any, .any, .any, .any, .any, .any, .any, .any, .any, .any, .any, .any, .any, .any, .any, .any, .any, .any, .any, .any, .any, .any, .any, .any, .any, .any, .any, .any, .any, .any, .any, .any, .any, .any, .any, .any, .any, .any, .any, .any, .any, .any, .any, .any, .any, .any, .any, .any, .any, .any, .any, .any, .any, .any, .any], [.dat T23], 1⟩
abbrev TY125 : Type := (((List E26) × ((List Int) × (Int × (Int × (Int × Unit))))) × (E23 × Unit))
abbrev TY126 : Type := (Nat × (((List E26) × ((List Int) × (Int × (Int × (Int × Unit))))) × (E23 × Unit)))
noncomputable def G36_l1_step (s : TY125) : Option TY126 :=
  (bif (decide (s.1.2.2.2.2.1 < (List.length s.1.1 : Int))) then
  (bif (decide (s.1.2.2.1 < (List.length s.2.1.2.2.2.2.1 : Int))) then
    (bif (decide (0 ≤ s.1.2.2.2.2.1) && decide (s.1.2.2.2.2.1 < (List.length s.1.1 : Int))) then
      (Option.bind (G29 ((List.getD s.1.1 (Int.toNat s.1.2.2.2.2.1) ([], ([], ()))).1) s.1.2.2.1) fun r2 =>
        (bif r2 then
          some (0, ((s.1.1, (s.1.2.1, (s.1.2.2.1, ((IntKind.wrap .i64 (s.1.2.2.2.1 + 1)), ((IntKind.wrap .i64 (s.1.2.2.2.2.1 + 1)), ()))))), (s.2.1, ())))
          else
          (bif (decide (s.1.2.2.1 ≥ (List.length s.2.1.2.2.2.2.1 : Int))) then
            (bif (decide (0 ≤ s.1.2.2.2.2.1) && decide (s.1.2.2.2.2.1 < (List.length s.1.1 : Int))) then
              (Option.bind (G29 ((List.getD s.1.1 (Int.toNat s.1.2.2.2.2.1) ([], ([], ()))).2.1) (IntKind.wrap .i64 (s.1.2.2.1 - (List.length s.2.1.2.2.2.2.1 : Int)))) fun r3 =>
                (bif r3 then
                  some (0, ((s.1.1, (s.1.2.1, (s.1.2.2.1, ((IntKind.wrap .i64 (s.1.2.2.2.1 + 1)), ((IntKind.wrap .i64 (s.1.2.2.2.2.1 + 1)), ()))))), (s.2.1, ())))
                  else
                  some (0, ((s.1.1, (s.1.2.1, (s.1.2.2.1, (s.1.2.2.2.1, ((IntKind.wrap .i64 (s.1.2.2.2.2.1 + 1)), ()))))), (s.2.1, ())))))
              else
              none)
            else
            some (0, ((s.1.1, (s.1.2.1, (s.1.2.2.1, (s.1.2.2.2.1, ((IntKind.wrap .i64 (s.1.2.2.2.2.1 + 1)), ()))))), (s.2.1, ()))))))
      else
      none)
    else
    (bif (decide (s.1.2.2.1 ≥ (List.length s.2.1.2.2.2.2.1 : Int))) then
      (bif (decide (0 ≤ s.1.2.2.2.2.1) && decide (s.1.2.2.2.2.1 < (List.length s.1.1 : Int))) then
        (Option.bind (G29 ((List.getD s.1.1 (Int.toNat s.1.2.2.2.2.1) ([], ([], ()))).2.1) (IntKind.wrap .i64 (s.1.2.2.1 - (List.length s.2.1.2.2.2.2.1 : Int)))) fun r4 =>
          (bif r4 then
            some (0, ((s.1.1, (s.1.2.1, (s.1.2.2.1, ((IntKind.wrap .i64 (s.1.2.2.2.1 + 1)), ((IntKind.wrap .i64 (s.1.2.2.2.2.1 + 1)), ()))))), (s.2.1, ())))
            else
            some (0, ((s.1.1, (s.1.2.1, (s.1.2.2.1, (s.1.2.2.2.1, ((IntKind.wrap .i64 (s.1.2.2.2.2.1 + 1)), ()))))), (s.2.1, ())))))
        else
        none)
      else
      some (0, ((s.1.1, (s.1.2.1, (s.1.2.2.1, (s.1.2.2.2.1, ((IntKind.wrap .i64 (s.1.2.2.2.2.1 + 1)), ()))))), (s.2.1, ())))))
  else
  some (1, ((s.1.1, (s.1.2.1, (s.1.2.2.1, (s.1.2.2.2.1, (s.1.2.2.2.2.1, ()))))), (s.2.1, ()))))
noncomputable def G36_l1_fuel (s : TY125) : Nat := Int.toNat ((List.length s.1.1 : Int) - s.1.2.2.2.2.1) + 1
noncomputable def G36_l1_run (s : TY125) : Option TY126 := iter G36_l1_step (G36_l1_fuel s) s
noncomputable def G36_l1_L : LoopT := loopT G36_l1_S [.exit 2] G36_l1_run
noncomputable def G36_l0_S : SPat := ⟨[.any, .dat (.list T26), .fix (.bptr 0 []), .any, .any, .own 0 (.int .i64), .dat (.int .i64), .any, .any, .any, .any, .any, .any, .any, .any, .any, .any, .any, .any, .any, .any, .any, .any, .any, .any, .any, .any, .any, .any, .any, .any, .any, .any, .any, .any, .any, .any, .any, .any, .any, .any, .any, .any, .any, .any, .any, .any, .any, .any, .any, .any, .any, .any, .any, .any, .any, .any, .any, .any, .any, .any, .any, .any, .any, .any, .any, .any, .any, .any], [.dat T23], 1⟩
noncomputable def G36_l0_step (s : (((List E26) × ((List Int) × (Int × Unit))) × (E23 × Unit))) : Option (Nat × (((List E26) × ((List Int) × (Int × Unit))) × (E23 × Unit))) :=
  (Option.bind (G23 s.2.1) fun r1 =>
  (bif (decide (s.1.2.2.1 < r1)) then
    (Option.bind (G36_l1_run ((s.1.1, (s.1.2.1, (s.1.2.2.1, (0, (0, ()))))), (s.2.1, ()))) fun q5 =>
      (bif (q5.2.1.2.2.2.1 == 0) then
        (bif (decide (List.length q5.2.1.2.1 + List.length [1] ≤ LIM)) then
          some (0, ((q5.2.1.1, ((q5.2.1.2.1 ++ [1]), ((IntKind.wrap .i64 (q5.2.1.2.2.1 + 1)), ()))), (q5.2.2.1, ())))
          else
          none)
        else
        (bif (q5.2.1.2.2.2.1 == (List.length q5.2.1.1 : Int)) then
          (bif (decide (List.length q5.2.1.2.1 + List.length [3] ≤ LIM)) then
            some (0, ((q5.2.1.1, ((q5.2.1.2.1 ++ [3]), ((IntKind.wrap .i64 (q5.2.1.2.2.1 + 1)), ()))), (q5.2.2.1, ())))
            else
            none)
          else
          (bif (decide (List.length q5.2.1.2.1 + List.length [2] ≤ LIM)) then
            some (0, ((q5.2.1.1, ((q5.2.1.2.1 ++ [2]), ((IntKind.wrap .i64 (q5.2.1.2.2.1 + 1)), ()))), (q5.2.2.1, ())))
            else
            none))))
    else
    some (1, ((s.1.1, (s.1.2.1, (s.1.2.2.1, ()))), (s.2.1, ())))))
noncomputable def G36_l0_fuel (s : (((List E26) × ((List Int) × (Int × Unit))) × (E23 × Unit))) : Nat := 100000
noncomputable def G36_l0_run (s : (((List E26) × ((List Int) × (Int × Unit))) × (E23 × Unit))) : Option (Nat × (((List E26) × ((List Int) × (Int × Unit))) × (E23 × Unit))) := iter G36_l0_step (G36_l0_fuel s) s
noncomputable def G36_l0_L : LoopT := loopT G36_l0_S [.exit 0] G36_l0_run
noncomputable def G36 (a0 : E23) (a1 : (List E26)) : Option (List Int) :=
  (Option.bind (G36_l0_run ((a1, ([], (0, ()))), (a0, ()))) fun q6 =>
  some q6.2.1.2.1)
noncomputable def G36_E : CEnt := pureE 36 [.dat T23, .dat (.list T26)] (.dat (.list (.int .i64))) fun x => G36 x.1 x.2.1
theorem G36_l1_V : LValid 0 Tryd.prog (.loop G36_l1_c) G36_l1_L false := by
  exact loopT_valid (fuel := G36_l1_fuel) mixed G36_CV (lvNil _) (by kernel_rfl) (by decide) rfl (by intro s; kernel_rfl) (fun s r h => h)
theorem G36_l0_V : LValid 0 Tryd.prog (.loop G36_l0_c) G36_l0_L false := by
  have hb : ∀ s, codeR Tryd.prog G36_C G36_l0_c [G36_l1_L] (G36_l0_S.encE s) (G36_l0_S.encB s) (kst G36_l0_S [.exit 0]) = G36_l0_step s := by
    intro s; kernel_rfl
  have hl : loopsOf G36_l0_c = [.loop G36_l1_c] := by kernel_rfl
  have hL : LV 0 Tryd.prog false (loopsOf G36_l0_c) [G36_l1_L] := by rw [hl]; exact ⟨G36_l1_V, trivial⟩
  exact loopT_valid (fuel := G36_l0_fuel) mixed G36_CV hL (by kernel_rfl) (by decide) rfl hb (fun s r h => h)
theorem G36_LV : LV 0 Tryd.prog false (loopsOf (bodyOf Tryd.f36)) [G36_l0_L] := by
  have hl : loopsOf (bodyOf Tryd.f36) = [.loop G36_l0_c] := by kernel_rfl
  rw [hl]; exact ⟨G36_l0_V, trivial⟩
theorem G36_ent : Ent Tryd.prog 36 := ⟨by decide, enters_of Tryd.func36 (by kernel_rfl) rfl⟩
theorem G36_hev : ∀ x, fnR Tryd.prog G36_C [G36_l0_L] Tryd.f36 (bodyOf Tryd.f36) (encs [.dat T23, .dat (.list T26)] x) ⟨[], [], 0⟩ (frzF (.dat (.list (.int .i64)))) = G36 x.1 x.2.1 := by
  intro x; kernel_rfl
theorem G36_valid : G36_E.Valid Tryd.prog :=
  pureE_valid (by kernel_rfl) (by kernel_rfl) G36_ent (frz_lcall mixed Tryd.func36 rfl G36_ent G36_CV G36_LV (by kernel_rfl) (by kernel_rfl) G36_hev)
noncomputable def G76_C : CalT := tabC [G29_E, G84_E, G59_E]
theorem G76_CV : CV Tryd.prog G76_C := tabC_valid (l := _) ⟨G29_valid, G84_valid, G59_valid, trivial⟩
noncomputable def G76_l0_c : Code := loopAt (bodyOf Tryd.f76) 0
noncomputable def G76_l1_c : Code := loopAt G76_l0_c 0
noncomputable def G76_l1_S : SPat := ⟨[.any, .dat (.list T72), .any, .dat (.int .i64), .fix (.bptr 0 []), .any, .fix (.bptr 1 []), .any, .any, .own 0 T56, .dat (.int .i64), .fix (.bptr 2 []), .dat (.int .i64), .dat (.int .i64), .any, .any, .any, .any, .any, .any, .any, .any, .any, .any, .any, .any, .any, .any, .any, .any, .any, .any, .any, .any, .any, .any, .any, .any, .any, .any, .any, .any, .any, .any, .any, .any, .any, .any, .any, .any, .any, .any, .any, .any, .any, .any, .any, .any, .any], [.dat T23, .dat T26, .dat T56], 1⟩
abbrev TY127 : Type := (((List E72) × (Int × ((List E56) × (Int × (Int × (Int × Unit)))))) × (E23 × (E26 × (E56 × Unit))))
abbrev TY128 : Type := (Nat × (((List E72) × (Int × ((List E56) × (Int × (Int × (Int × Unit)))))) × (E23 × (E26 × (E56 × Unit)))))
noncomputable def G76_l1_step (s : TY127) : Option TY128 :=
  (bif (decide (s.1.2.2.2.2.2.1 ≤ s.1.2.2.2.1)) then
  (Option.bind (G59 s.2.1 s.1.1 s.2.2.1 s.1.2.1 s.1.2.2.2.2.1 s.1.2.2.2.2.2.1) fun r3 =>
    (bif r3.2.1 then
      (bif (decide (List.length s.1.2.2.1 + List.length [(s.1.2.2.2.2.1, (s.1.2.2.2.2.2.1, ()))] ≤ LIM)) then
        some (0, ((s.1.1, (s.1.2.1, ((s.1.2.2.1 ++ [(s.1.2.2.2.2.1, (s.1.2.2.2.2.2.1, ()))]), (s.1.2.2.2.1, (s.1.2.2.2.2.1, ((IntKind.wrap .i64 (s.1.2.2.2.2.2.1 + 1)), ())))))), (s.2.1, (s.2.2.1, (s.2.2.2.1, ())))))
        else
        none)
      else
      some (0, ((s.1.1, (s.1.2.1, (s.1.2.2.1, (s.1.2.2.2.1, (s.1.2.2.2.2.1, ((IntKind.wrap .i64 (s.1.2.2.2.2.2.1 + 1)), ())))))), (s.2.1, (s.2.2.1, (s.2.2.2.1, ())))))))
  else
  some (1, ((s.1.1, (s.1.2.1, (s.1.2.2.1, (s.1.2.2.2.1, (s.1.2.2.2.2.1, (s.1.2.2.2.2.2.1, ())))))), (s.2.1, (s.2.2.1, (s.2.2.2.1, ()))))))
noncomputable def G76_l1_fuel (s : TY127) : Nat := 100000
noncomputable def G76_l1_run (s : TY127) : Option TY128 := iter G76_l1_step (G76_l1_fuel s) s
noncomputable def G76_l1_L : LoopT := loopT G76_l1_S [.exit 2] G76_l1_run
noncomputable def G76_l0_S : SPat := ⟨[.any, .dat (.list T72), .any, .dat (.int .i64), .fix (.bptr 0 []), .any, .fix (.bptr 1 []), .any, .any, .own 0 T56, .dat (.int .i64), .fix (.bptr 2 []), .dat (.int .i64), .any, .any, .any, .any, .any, .any, .any, .any, .any, .any, .any, .any, .any, .any, .any, .any, .any, .any, .any, .any, .any, .any, .any, .any, .any, .any, .any, .any, .any, .any, .any, .any, .any, .any, .any, .any, .any, .any, .any, .any, .any, .any, .any, .any, .any, .any], [.dat T23, .dat T26, .dat T56], 1⟩
abbrev TY129 : Type := (((List E72) × (Int × ((List E56) × (Int × (Int × Unit))))) × (E23 × (E26 × (E56 × Unit))))
abbrev TY130 : Type := (Nat × (((List E72) × (Int × ((List E56) × (Int × (Int × Unit))))) × (E23 × (E26 × (E56 × Unit)))))
noncomputable def G76_l0_step (s : TY129) : Option TY130 :=
  (bif (decide (s.1.2.2.2.2.1 ≤ s.2.2.2.1.2.1)) then
  (Option.bind (G76_l1_run ((s.1.1, (s.1.2.1, (s.1.2.2.1, (s.1.2.2.2.1, (s.1.2.2.2.2.1, ((IntKind.wrap .i64 (0 - s.1.2.2.2.1)), ())))))), (s.2.1, (s.2.2.1, (s.2.2.2.1, ()))))) fun q4 =>
    some (0, ((q4.2.1.1, (q4.2.1.2.1, (q4.2.1.2.2.1, (q4.2.1.2.2.2.1, ((IntKind.wrap .i64 (q4.2.1.2.2.2.2.1 + 1)), ()))))), (q4.2.2.1, (q4.2.2.2.1, (q4.2.2.2.2.1, ()))))))
  else
  some (1, ((s.1.1, (s.1.2.1, (s.1.2.2.1, (s.1.2.2.2.1, (s.1.2.2.2.2.1, ()))))), (s.2.1, (s.2.2.1, (s.2.2.2.1, ()))))))
noncomputable def G76_l0_fuel (s : TY129) : Nat := 100000
noncomputable def G76_l0_run (s : TY129) : Option TY130 := iter G76_l0_step (G76_l0_fuel s) s
noncomputable def G76_l0_L : LoopT := loopT G76_l0_S [.exit 0] G76_l0_run
noncomputable def G76 (a0 : E23) (a1 : (List E72)) (a2 : E26) (a3 : Int) : Option (List E56) :=
  (Option.bind (G29 a2.2.1 a3) fun r1 =>
  (bif r1 then
    (Option.bind (G84 a0 a1 a3) fun r2 =>
      (Option.bind (G76_l0_run ((a1, (a3, ([], (a0.2.2.1, (r2.1, ()))))), (a0, (a2, (r2, ()))))) fun q5 =>
        some q5.2.1.2.2.1))
    else
    (Option.bind (G84 a0 a1 a3) fun r6 =>
      (Option.bind (G76_l0_run ((a1, (a3, ([], (0, (r6.1, ()))))), (a0, (a2, (r6, ()))))) fun q7 =>
        some q7.2.1.2.2.1))))
noncomputable def G76_E : CEnt := pureE 76 [.dat T23, .dat (.list T72), .dat T26, .dat (.int .i64)] (.dat (.list T56)) fun x => G76 x.1 x.2.1 x.2.2.1 x.2.2.2.1
theorem G76_l1_V : LValid 0 Tryd.prog (.loop G76_l1_c) G76_l1_L false := by
  exact loopT_valid (fuel := G76_l1_fuel) mixed G76_CV (lvNil _) (by kernel_rfl) (by decide) rfl (by intro s; kernel_rfl) (fun s r h => h)
theorem G76_l0_V : LValid 0 Tryd.prog (.loop G76_l0_c) G76_l0_L false := by
  have hb : ∀ s, codeR Tryd.prog G76_C G76_l0_c [G76_l1_L] (G76_l0_S.encE s) (G76_l0_S.encB s) (kst G76_l0_S [.exit 0]) = G76_l0_step s := by
    intro s; kernel_rfl
  have hl : loopsOf G76_l0_c = [.loop G76_l1_c] := by kernel_rfl
  have hL : LV 0 Tryd.prog false (loopsOf G76_l0_c) [G76_l1_L] := by rw [hl]; exact ⟨G76_l1_V, trivial⟩
  exact loopT_valid (fuel := G76_l0_fuel) mixed G76_CV hL (by kernel_rfl) (by decide) rfl hb (fun s r h => h)
theorem G76_LV : LV 0 Tryd.prog false (loopsOf (bodyOf Tryd.f76)) [G76_l0_L] := by
  have hl : loopsOf (bodyOf Tryd.f76) = [.loop G76_l0_c] := by kernel_rfl
  rw [hl]; exact ⟨G76_l0_V, trivial⟩
theorem G76_ent : Ent Tryd.prog 76 := ⟨by decide, enters_of Tryd.func76 (by kernel_rfl) rfl⟩
theorem G76_hev : ∀ x, fnR Tryd.prog G76_C [G76_l0_L] Tryd.f76 (bodyOf Tryd.f76) (encs [.dat T23, .dat (.list T72), .dat T26, .dat (.int .i64)] x) ⟨[], [], 0⟩ (frzF (.dat (.list T56))) = G76 x.1 x.2.1 x.2.2.1 x.2.2.2.1 := by
  intro x; kernel_rfl
theorem G76_valid : G76_E.Valid Tryd.prog :=
  pureE_valid (by kernel_rfl) (by kernel_rfl) G76_ent (frz_lcall mixed Tryd.func76 rfl G76_ent G76_CV G76_LV (by kernel_rfl) (by kernel_rfl) G76_hev)
end Go.Proofs.YtibmgbalfhfcdaaDoor.Abs
set_option linter.unusedVariables false
set_option maxRecDepth 100000
namespace Go.Proofs.YtibmgbalfhfcdaaDoor.Abs
open Go.Shelf Go.Sort
noncomputable def G37_C : CalT := tabC [G76_E]
theorem G37_CV : CV Tryd.prog G37_C := tabC_valid (l := _) ⟨G76_valid, trivial⟩
noncomputable def G37_l0_c : Code := loopAt (bodyOf Tryd.f37) 0
noncomputable def G37_l1_c : Code := loopAt G37_l0_c 0
noncomputable def G37_l1_S : SPat := ⟨[.any, .dat (.list T72), .dat (.list T26), .dat (.int .i64), .dat (.int .i64), .fix (.bptr 0 []), .any, .any, .any, .any, .fix (.bptr 1 []), .fix (.bptr 2 []), .dat (.int .i64), .dat (.list T56), .dat (.int .i64), .any, .any, .any, .any, .any, .any, .any, .any, .any, .any, .any, .any, .any, .any, .any, .any, .any, .any, .any, .any, .any, .any, .any, .any, .any, .any, .any, .any, .any, .any, .any, .any, .any, .any, .any, .any, .any, .any, .any, .any, .any, .any, .any, .any, .any], [.dat T23, .cons (.dat (.int .i64)) (.cons (.dat (.int .i64)) (.nil)), .cons (.dat (.int .i64)) (.cons (.dat (.int .i64)) (.nil))], 0⟩
abbrev TY131 : Type := (((List E72) × ((List E26) × (Int × (Int × (Int × ((List E56) × (Int × Unit))))))) × (E23 × ((Int × (Int × Unit)) × ((Int × (Int × Unit)) × Unit))))
abbrev TY132 : Type := (Nat × (((List E72) × ((List E26) × (Int × (Int × (Int × ((List E56) × (Int × Unit))))))) × (E23 × ((Int × (Int × Unit)) × ((Int × (Int × Unit)) × Unit)))))
noncomputable def G37_l1_step (s : TY131) : Option TY132 :=
  (bif (decide (s.1.2.2.2.2.2.2.1 < (List.length s.1.2.2.2.2.2.1 : Int))) then
  (bif (decide (0 ≤ s.1.2.2.2.2.2.2.1) && decide (s.1.2.2.2.2.2.2.1 < (List.length s.1.2.2.2.2.2.1 : Int))) then
    (bif (decide (0 ≤ s.1.2.2.2.2.2.2.1) && decide (s.1.2.2.2.2.2.2.1 < (List.length s.1.2.2.2.2.2.1 : Int))) then
      some (0, ((s.1.1, (s.1.2.1, (s.1.2.2.1, (s.1.2.2.2.1, (s.1.2.2.2.2.1, (s.1.2.2.2.2.2.1, ((IntKind.wrap .i64 (s.1.2.2.2.2.2.2.1 + 1)), ()))))))), (s.2.1, (s.2.2.1, (((if (IntKind.wrap .i64 ((List.getD s.1.2.2.2.2.2.1 (Int.toNat s.1.2.2.2.2.2.2.1) (0, (0, ()))).1 + (IntKind.wrap .i64 ((List.getD s.1.2.2.2.2.2.1 (Int.toNat s.1.2.2.2.2.2.2.1) (0, (0, ()))).2.1 * s.1.2.2.2.1)))) < s.2.2.2.1.1 then (IntKind.wrap .i64 ((List.getD s.1.2.2.2.2.2.1 (Int.toNat s.1.2.2.2.2.2.2.1) (0, (0, ()))).1 + (IntKind.wrap .i64 ((List.getD s.1.2.2.2.2.2.1 (Int.toNat s.1.2.2.2.2.2.2.1) (0, (0, ()))).2.1 * s.1.2.2.2.1)))) else s.2.2.2.1.1), ((if (IntKind.wrap .i64 ((List.getD s.1.2.2.2.2.2.1 (Int.toNat s.1.2.2.2.2.2.2.1) (0, (0, ()))).1 + (IntKind.wrap .i64 ((List.getD s.1.2.2.2.2.2.1 (Int.toNat s.1.2.2.2.2.2.2.1) (0, (0, ()))).2.1 * s.1.2.2.2.1)))) > s.2.2.2.1.2.1 then (IntKind.wrap .i64 ((List.getD s.1.2.2.2.2.2.1 (Int.toNat s.1.2.2.2.2.2.2.1) (0, (0, ()))).1 + (IntKind.wrap .i64 ((List.getD s.1.2.2.2.2.2.1 (Int.toNat s.1.2.2.2.2.2.2.1) (0, (0, ()))).2.1 * s.1.2.2.2.1)))) else s.2.2.2.1.2.1), ())), ())))))
      else
      none)
    else
    none)
  else
  some (1, ((s.1.1, (s.1.2.1, (s.1.2.2.1, (s.1.2.2.2.1, (s.1.2.2.2.2.1, (s.1.2.2.2.2.2.1, (s.1.2.2.2.2.2.2.1, ()))))))), (s.2.1, (s.2.2.1, (s.2.2.2.1, ()))))))
noncomputable def G37_l1_fuel (s : TY131) : Nat := Int.toNat ((List.length s.1.2.2.2.2.2.1 : Int) - s.1.2.2.2.2.2.2.1) + 1
noncomputable def G37_l1_run (s : TY131) : Option TY132 := iter G37_l1_step (G37_l1_fuel s) s
noncomputable def G37_l1_L : LoopT := loopT G37_l1_S [.exit 2] G37_l1_run
noncomputable def G37_l0_S : SPat := ⟨[.any, .dat (.list T72), .dat (.list T26), .dat (.int .i64), .dat (.int .i64), .fix (.bptr 0 []), .any, .any, .any, .any, .fix (.bptr 1 []), .fix (.bptr 2 []), .dat (.int .i64), .any, .any, .any, .any, .any, .any, .any, .any, .any, .any, .any, .any, .any, .any, .any, .any, .any, .any, .any, .any, .any, .any, .any, .any, .any, .any, .any, .any, .any, .any, .any, .any, .any, .any, .any, .any, .any, .any, .any, .any, .any, .any, .any, .any, .any, .any, .any], [.dat T23, .cons (.dat (.int .i64)) (.cons (.dat (.int .i64)) (.nil)), .cons (.dat (.int .i64)) (.cons (.dat (.int .i64)) (.nil))], 0⟩
abbrev TY133 : Type := (((List E72) × ((List E26) × (Int × (Int × (Int × Unit))))) × (E23 × ((Int × (Int × Unit)) × ((Int × (Int × Unit)) × Unit))))
abbrev TY134 : Type := (Nat × (((List E72) × ((List E26) × (Int × (Int × (Int × Unit))))) × (E23 × ((Int × (Int × Unit)) × ((Int × (Int × Unit)) × Unit)))))
noncomputable def G37_l0_step (s : TY133) : Option TY134 :=
  (bif (decide (s.1.2.2.2.2.1 < (List.length s.1.2.1 : Int))) then
  (bif (decide (0 ≤ s.1.2.2.2.2.1) && decide (s.1.2.2.2.2.1 < (List.length s.1.2.1 : Int))) then
    (Option.bind (G76 s.2.1 s.1.1 (List.getD s.1.2.1 (Int.toNat s.1.2.2.2.2.1) ([], ([], ()))) s.1.2.2.1) fun r1 =>
      (Option.bind (G37_l1_run ((s.1.1, (s.1.2.1, (s.1.2.2.1, (s.1.2.2.2.1, (s.1.2.2.2.2.1, (r1, (0, ()))))))), (s.2.1, (s.2.2.1, (s.2.2.2.1, ()))))) fun q2 =>
        some (0, ((q2.2.1.1, (q2.2.1.2.1, (q2.2.1.2.2.1, (q2.2.1.2.2.2.1, ((IntKind.wrap .i64 (q2.2.1.2.2.2.2.1 + 1)), ()))))), (q2.2.2.1, (q2.2.2.2.1, (q2.2.2.2.2.1, ())))))))
    else
    none)
  else
  some (1, ((s.1.1, (s.1.2.1, (s.1.2.2.1, (s.1.2.2.2.1, (s.1.2.2.2.2.1, ()))))), (s.2.1, (s.2.2.1, (s.2.2.2.1, ()))))))
noncomputable def G37_l0_fuel (s : TY133) : Nat := Int.toNat ((List.length s.1.2.1 : Int) - s.1.2.2.2.2.1) + 1
noncomputable def G37_l0_run (s : TY133) : Option TY134 := iter G37_l0_step (G37_l0_fuel s) s
noncomputable def G37_l0_L : LoopT := loopT G37_l0_S [.exit 0] G37_l0_run
noncomputable def G37 (a0 : E23) (a1 : (List E72)) (a2 : (List E26)) (a3 : Int) (a4 : Int) : Option E56 :=
  (Option.bind (G37_l0_run ((a1, (a2, (a3, (a4, (0, ()))))), (a0, ((0, (0, ())), ((1000000, ((-1000000), ())), ()))))) fun q3 =>
  some q3.2.2.2.2.1)
noncomputable def G37_E : CEnt := pureE 37 [.dat T23, .dat (.list T72), .dat (.list T26), .dat (.int .i64), .dat (.int .i64)] (.dat T56) fun x => G37 x.1 x.2.1 x.2.2.1 x.2.2.2.1 x.2.2.2.2.1
theorem G37_l1_V : LValid 0 Tryd.prog (.loop G37_l1_c) G37_l1_L false := by
  exact loopT_valid (fuel := G37_l1_fuel) mixed G37_CV (lvNil _) (by kernel_rfl) (by decide) rfl (by intro s; kernel_rfl) (fun s r h => h)
theorem G37_l0_V : LValid 0 Tryd.prog (.loop G37_l0_c) G37_l0_L false := by
  have hb : ∀ s, codeR Tryd.prog G37_C G37_l0_c [G37_l1_L] (G37_l0_S.encE s) (G37_l0_S.encB s) (kst G37_l0_S [.exit 0]) = G37_l0_step s := by
    intro s; kernel_rfl
  have hl : loopsOf G37_l0_c = [.loop G37_l1_c] := by kernel_rfl
  have hL : LV 0 Tryd.prog false (loopsOf G37_l0_c) [G37_l1_L] := by rw [hl]; exact ⟨G37_l1_V, trivial⟩
  exact loopT_valid (fuel := G37_l0_fuel) mixed G37_CV hL (by kernel_rfl) (by decide) rfl hb (fun s r h => h)
theorem G37_LV : LV 0 Tryd.prog false (loopsOf (bodyOf Tryd.f37)) [G37_l0_L] := by
  have hl : loopsOf (bodyOf Tryd.f37) = [.loop G37_l0_c] := by kernel_rfl
  rw [hl]; exact ⟨G37_l0_V, trivial⟩
theorem G37_ent : Ent Tryd.prog 37 := ⟨by decide, enters_of Tryd.func37 (by kernel_rfl) rfl⟩
theorem G37_hev : ∀ x, fnR Tryd.prog G37_C [G37_l0_L] Tryd.f37 (bodyOf Tryd.f37) (encs [.dat T23, .dat (.list T72), .dat (.list T26), .dat (.int .i64), .dat (.int .i64)] x) ⟨[], [], 0⟩ (frzF (.dat T56)) = G37 x.1 x.2.1 x.2.2.1 x.2.2.2.1 x.2.2.2.2.1 := by
  intro x; kernel_rfl
theorem G37_valid : G37_E.Valid Tryd.prog :=
  pureE_valid (by kernel_rfl) (by kernel_rfl) G37_ent (frz_lcall mixed Tryd.func37 rfl G37_ent G37_CV G37_LV (by kernel_rfl) (by kernel_rfl) G37_hev)
end Go.Proofs.YtibmgbalfhfcdaaDoor.Abs
