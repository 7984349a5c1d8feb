import Derived.Test.YtcijddeommognaaDoorF1
/-
  Functions of the store layer, and what they come to, as typed functions; part 1. Printed by a program of mine (gen.py).
-/
set_option linter.unusedVariables false
set_option maxRecDepth 100000
namespace Go.Proofs.YtcijddeommognaaDoor.Abs
open Go.Shelf Go.Sort
noncomputable def g85_store_run_arrive_v1_C : CalT := tabC [g57_store_ships_E, g88_store_ships_1_v1_E]
theorem g85_store_run_arrive_v1_CV : CV Tryd.prog g85_store_run_arrive_v1_C := tabC_valid (l := [g57_store_ships_E, g88_store_ships_1_v1_E]) ⟨g57_store_ships_valid, g88_store_ships_1_v1_valid, trivial⟩
noncomputable def g85_store_run_arrive_v1_f0_L : LoopT := rfT g85_store_run_arrive_v1_C 85 0 (.tmp 30) [.normal]
noncomputable def g85_store_run_arrive_v1 (b0 : TY21) (b1 : (List Bool)) : Option TY22 :=
  (bif (decide (b0.2.2.2.2.1 ≥ b0.1.2.2.2.2.1)) then
  some ((), (b0, (b1, ())))
  else
  (bif (decide (0 ≤ b0.2.2.2.2.1) && decide (b0.2.2.2.2.1 < (List.length b0.2.1 : Int))) then
    (bif (!(List.getD b0.2.1 (Int.toNat b0.2.2.2.2.1) false)) then
      some ((), (b0, (b1, ())))
      else
      (Option.bind (g57_store_ships b0.2.2.2.1) fun r1 =>
        (Option.bind (g88_store_ships_1_v1 (0, UC67) r1.2.1 b0 b1) fun r2 =>
          (bif (r2.2.1.1 == 0) then
            some ((), (r2.2.2.2.1, (r2.2.2.2.2.1, ())))
            else
            none))))
    else
    none))
abbrev g85_store_run_arrive_v1_CS : CSpec := ⟨[.fix (.bptr 0 [])], [.cons (.dat T27) (.cons (.dat (.list .bool)) (.cons (.dat (.list (.arr 3 (.int .i64)))) (.cons (.dat (.int .i64)) (.cons (.dat (.int .i64)) (.cons (.dat (.arr 3 (.int .i64))) (.cons (.own 0 (.arr 3 (.int .i64))) (.cons (.cons (.own 1 (.int .i64)) (.nil)) (.cons (.vec 2 1 .bool) (.cons (.cons (.own 3 (.arr 3 (.int .i64))) (.cons (.own 4 (.arr 3 (.int .i64))) (.cons (.own 5 (.arr 3 (.int .i64))) (.nil)))) (.nil)))))))))), .vrow 2 .bool], 6, [.cons (.dat T27) (.cons (.dat (.list .bool)) (.cons (.dat (.list (.arr 3 (.int .i64)))) (.cons (.dat (.int .i64)) (.cons (.dat (.int .i64)) (.cons (.dat (.arr 3 (.int .i64))) (.cons (.own 0 (.arr 3 (.int .i64))) (.cons (.cons (.own 1 (.int .i64)) (.nil)) (.cons (.vec 2 1 .bool) (.cons (.cons (.own 3 (.arr 3 (.int .i64))) (.cons (.own 4 (.arr 3 (.int .i64))) (.cons (.own 5 (.arr 3 (.int .i64))) (.nil)))) (.nil)))))))))), .vrow 2 .bool], 6, .tup (.nil)⟩
noncomputable def g85_store_run_arrive_v1_E : CEnt := boxE 85 g85_store_run_arrive_v1_CS fun x => g85_store_run_arrive_v1 x.2.1 x.2.2.1
theorem g85_store_run_arrive_v1_f0_V : LValid 2 Tryd.prog (lcode 85 0) g85_store_run_arrive_v1_f0_L := rfT_valid' g85_store_run_arrive_v1_CV (by kernel_rfl)
theorem g85_store_run_arrive_v1_LV : LV 2 Tryd.prog false (loopsOf (bodyOf Tryd.f85)) [g85_store_run_arrive_v1_f0_L] := by
  have hl : loopsOf (bodyOf Tryd.f85) = [(lcode 85 0)] := by kernel_rfl
  rw [hl]; exact ⟨g85_store_run_arrive_v1_f0_V, trivial⟩
theorem g85_store_run_arrive_v1_ent : Ent Tryd.prog 85 := ⟨by decide, enters_of Tryd.func85 (by kernel_rfl) rfl⟩
theorem g85_store_run_arrive_v1_hev : ∀ x : g85_store_run_arrive_v1_CS.In, fnR Tryd.prog g85_store_run_arrive_v1_C [g85_store_run_arrive_v1_f0_L] Tryd.f85 (bodyOf Tryd.f85) (encs g85_store_run_arrive_v1_CS.A x.1) ⟨encs g85_store_run_arrive_v1_CS.I x.2, [], g85_store_run_arrive_v1_CS.nt⟩ (finK g85_store_run_arrive_v1_CS) = g85_store_run_arrive_v1 x.2.1 x.2.2.1 := by
  intro x; kernel_rfl
theorem g85_store_run_arrive_v1_valid : g85_store_run_arrive_v1_E.Valid Tryd.prog :=
  boxE_valid (S := g85_store_run_arrive_v1_CS) (by kernel_rfl) (.inr g85_store_run_arrive_v1_ent) (fn_lcall (S := g85_store_run_arrive_v1_CS) mixed Tryd.func85 rfl g85_store_run_arrive_v1_ent g85_store_run_arrive_v1_CV g85_store_run_arrive_v1_LV (by kernel_rfl) (by kernel_rfl) g85_store_run_arrive_v1_hev)

noncomputable def g86_store_run_land_v1_C : CalT := tabC [g63_store_added_E]
theorem g86_store_run_land_v1_CV : CV Tryd.prog g86_store_run_land_v1_C := tabC_valid (l := [g63_store_added_E]) ⟨g63_store_added_valid, trivial⟩
noncomputable def g86_store_run_land_v1_l0_c : Code := loopAt (bodyOf Tryd.f86) 0
noncomputable def g86_store_run_land_v1_l1_c : Code := loopAt g86_store_run_land_v1_l0_c 0
abbrev PA28 : PTy := (.cons (.dat (.list .bool)) (.cons (.dat (.list (.arr 3 (.int .i64)))) (.cons (.dat (.int .i64)) (.cons (.dat (.int .i64)) (.cons (.dat (.arr 3 (.int .i64))) (.cons (.own 0 (.arr 3 (.int .i64))) (.cons (.cons (.own 1 (.int .i64)) (.nil)) (.cons (.vec 2 1 .bool) (.cons (.cons (.own 3 (.arr 3 (.int .i64))) (.cons (.own 4 (.arr 3 (.int .i64))) (.cons (.own 5 (.arr 3 (.int .i64))) (.nil)))) (.nil))))))))))
noncomputable def g86_store_run_land_v1_l1_S : SPat := ⟨[.fix (.bptr 0 []), .any, .dat (.int .i64), .any, .dat (.int .i64), .fix (.bptr 2 []), .any, .any, .any, .any, .any, .any, .any, .any, .any, .any, .any, .any, .any, .any, .any, .any, .any, .any, .any, .any, .any, .any, .any, .any, .any, .any, .any, .any, .any, .any, .any, .any, .any, .dat (.list (.int .i64)), .dat (.int .i64), .dat (.int .i64), .any, .any, .any, .dat (.int .i64), .any, .any, .any, .any, .any, .any, .any, .any, .any, .any, .any, .any, .any, .any, .any, .any, .any, .any, .any, .any, .any, .any, .any, .any, .any, .any, .any, .any, .any, .any, .any, .any, .any, .any, .any, .any, .any, .any, .any, .any, .any, .any, .any, .any, .any, .any, .any, .any, .any, .any, .any, .any, .any, .any, .any, .any, .any, .any, .any, .any, .any, .any, .any, .any, .any, .any, .any, .any, .any, .any, .any, .any, .any, .any, .any, .any, .any, .any, .any, .any, .any, .any], [.cons (.dat T27) PA28, .vrow 2 .bool, .dat (.arr 3 (.int .i64))], 6⟩
abbrev TY29 : Type := ((Int × (Int × ((List Int) × (Int × (Int × (Int × Unit)))))) × ((E27 × ((List Bool) × ((List (List Int)) × (Int × (Int × ((List Int) × ((List (List Int)) × (((List Int) × Unit) × (Nat × (((List (List Int)) × ((List (List Int)) × ((List (List Int)) × Unit))) × Unit)))))))))) × ((List Bool) × ((List Int) × Unit))))
abbrev TY30 : Type := (Nat × ((Int × (Int × ((List Int) × (Int × (Int × (Int × Unit)))))) × ((E27 × ((List Bool) × ((List (List Int)) × (Int × (Int × ((List Int) × ((List (List Int)) × (((List Int) × Unit) × (Nat × (((List (List Int)) × ((List (List Int)) × ((List (List Int)) × Unit))) × Unit)))))))))) × ((List Bool) × ((List Int) × Unit)))))
noncomputable def g86_store_run_land_v1_l1_step (s : TY29) : Option TY30 :=
  (bif (decide (s.1.2.2.2.2.2.1 < 3)) then
  (bif (decide (0 ≤ s.1.2.1) && decide (s.1.2.1 < (List.length s.2.1.2.2.2.2.2.2.1 : Int))) then
    (bif (decide (0 ≤ s.1.2.2.2.2.2.1) && decide (s.1.2.2.2.2.2.1 < (3 : Int))) then
      (bif (decide (0 ≤ s.1.2.2.2.2.2.1) && decide (s.1.2.2.2.2.2.1 < (3 : Int))) then
        (bif (decide (0 ≤ s.1.2.2.2.2.2.1) && decide (s.1.2.2.2.2.2.1 < (3 : Int))) then
          (bif (decide (0 ≤ s.1.2.2.2.2.2.1) && decide (s.1.2.2.2.2.2.1 < (3 : Int))) then
            (bif (decide (0 ≤ s.1.2.2.2.2.2.1) && decide (s.1.2.2.2.2.2.1 < (3 : Int))) then
              (bif (decide (0 ≤ s.1.2.1) && decide (s.1.2.1 < (List.length s.2.1.2.2.2.2.2.2.1 : Int))) then
                (bif (decide (0 ≤ s.1.2.2.2.2.2.1) && decide (s.1.2.2.2.2.2.1 < (3 : Int))) then
                  (bif (decide (0 ≤ s.1.2.2.2.2.2.1) && decide (s.1.2.2.2.2.2.1 < (3 : Int))) then
                    (bif (decide (0 ≤ s.1.2.1) && decide (s.1.2.1 < (List.length s.2.1.2.2.2.2.2.2.1 : Int))) then
                      (bif (decide (0 ≤ s.1.2.2.2.2.2.1) && decide (s.1.2.2.2.2.2.1 < (3 : Int))) then
                        none
                        else
                        none)
                      else
                      none)
                    else
                    none)
                  else
                  none)
                else
                none)
              else
              none)
            else
            none)
          else
          none)
        else
        none)
      else
      none)
    else
    none)
  else
  some (1, ((s.1.1, (s.1.2.1, (s.1.2.2.1, (s.1.2.2.2.1, (s.1.2.2.2.2.1, (s.1.2.2.2.2.2.1, ())))))), (s.2.1, (s.2.2.1, (s.2.2.2.1, ()))))))
noncomputable def g86_store_run_land_v1_l1_fuel (s : TY29) : Nat := Int.toNat (3 - s.1.2.2.2.2.2.1) + 1
noncomputable def g86_store_run_land_v1_l1_run (s : TY29) : Option TY30 := iter g86_store_run_land_v1_l1_step (g86_store_run_land_v1_l1_fuel s) s
noncomputable def g86_store_run_land_v1_l1_L : LoopT := loopT g86_store_run_land_v1_l1_S [.exit 2] g86_store_run_land_v1_l1_run
noncomputable def g86_store_run_land_v1_l0_S : SPat := ⟨[.fix (.bptr 0 []), .any, .dat (.int .i64), .any, .any, .any, .any, .any, .any, .any, .any, .any, .any, .any, .any, .any, .any, .any, .any, .any, .any, .any, .any, .any, .any, .any, .any, .any, .any, .any, .any, .any, .any, .any, .any, .any, .any, .any, .any, .dat (.list (.int .i64)), .dat (.int .i64), .dat (.int .i64), .any, .any, .any, .any, .any, .any, .any, .any, .any, .any, .any, .any, .any, .any, .any, .any, .any, .any, .any, .any, .any, .any, .any, .any, .any, .any, .any, .any, .any, .any, .any, .any, .any, .any, .any, .any, .any, .any, .any, .any, .any, .any, .any, .any, .any, .any, .any, .any, .any, .any, .any, .any, .any, .any, .any, .any, .any, .any, .any, .any, .any, .any, .any, .any, .any, .any, .any, .any, .any, .any, .any, .any, .any, .any, .any, .any, .any, .any, .any, .any, .any, .any, .any, .any, .any, .any], [.cons (.dat T27) PA28, .vrow 2 .bool], 6⟩
abbrev TY31 : Type := ((Int × ((List Int) × (Int × (Int × Unit)))) × ((E27 × ((List Bool) × ((List (List Int)) × (Int × (Int × ((List Int) × ((List (List Int)) × (((List Int) × Unit) × (Nat × (((List (List Int)) × ((List (List Int)) × ((List (List Int)) × Unit))) × Unit)))))))))) × ((List Bool) × Unit)))
abbrev TY32 : Type := (Nat × ((Int × ((List Int) × (Int × (Int × Unit)))) × ((E27 × ((List Bool) × ((List (List Int)) × (Int × (Int × ((List Int) × ((List (List Int)) × (((List Int) × Unit) × (Nat × (((List (List Int)) × ((List (List Int)) × ((List (List Int)) × Unit))) × Unit)))))))))) × ((List Bool) × Unit))))
noncomputable def g86_store_run_land_v1_l0_step (s : TY31) : Option TY32 :=
  (bif (decide (s.1.2.2.2.1 < s.1.2.2.1)) then
  (bif (decide (0 ≤ s.1.2.2.2.1) && decide (s.1.2.2.2.1 < (List.length s.1.2.1 : Int))) then
    (Option.bind (g86_store_run_land_v1_l1_run ((s.1.1, ((List.getD s.1.2.1 (Int.toNat s.1.2.2.2.1) 0), (s.1.2.1, (s.1.2.2.1, (s.1.2.2.2.1, (0, ())))))), (s.2.1, (s.2.2.1, ((0 :: (0 :: (0 :: []))), ()))))) fun q1 =>
      (bif (decide (0 ≤ q1.2.1.2.1) && decide (q1.2.1.2.1 < (List.length q1.2.2.1.2.2.2.2.2.2.2.2.2.1.1 : Int))) then
        (Option.bind (g63_store_added [(List.getD q1.2.2.1.2.2.2.2.2.2.2.2.2.1.1 (Int.toNat q1.2.1.2.1) (List.replicate 3 0)), q1.2.2.2.2.1]) fun r2 =>
          (bif (decide (0 ≤ q1.2.1.2.1) && decide (q1.2.1.2.1 < (List.length q1.2.2.1.2.2.2.2.2.2.2.2.2.1.1 : Int))) then
            none
            else
            none))
        else
        none))
    else
    none)
  else
  some (1, ((s.1.1, (s.1.2.1, (s.1.2.2.1, (s.1.2.2.2.1, ())))), (s.2.1, (s.2.2.1, ())))))
noncomputable def g86_store_run_land_v1_l0_fuel (s : TY31) : Nat := Int.toNat (s.1.2.2.1 - s.1.2.2.2.1) + 1
noncomputable def g86_store_run_land_v1_l0_run (s : TY31) : Option TY32 := iter g86_store_run_land_v1_l0_step (g86_store_run_land_v1_l0_fuel s) s
noncomputable def g86_store_run_land_v1_l0_L : LoopT := loopT g86_store_run_land_v1_l0_S [.exit 0] g86_store_run_land_v1_l0_run
noncomputable def g86_store_run_land_v1 (b0 : TY21) (b1 : (List Bool)) : Option TY22 :=
  (bif (decide (b0.2.2.2.2.1 ≥ b0.1.2.2.2.2.1)) then
  some ((), (b0, (b1, ())))
  else
  (bif (decide (0 ≤ b0.2.2.2.2.1) && decide (b0.2.2.2.2.1 < (List.length b0.2.1 : Int))) then
    (bif (!(List.getD b0.2.1 (Int.toNat b0.2.2.2.2.1) false)) then
      some ((), (b0, (b1, ())))
      else
      (Option.bind (g86_store_run_land_v1_l0_run ((b0.1.2.2.1, (b0.2.2.2.2.2.2.2.1.1, ((List.length b0.2.2.2.2.2.2.2.1.1 : Int), (0, ())))), (b0, (b1, ())))) fun q3 =>
        some ((), (q3.2.2.1, (q3.2.2.2.1, ())))))
    else
    none))
abbrev g86_store_run_land_v1_CS : CSpec := ⟨[.fix (.bptr 0 [])], [.cons (.dat T27) (.cons (.dat (.list .bool)) (.cons (.dat (.list (.arr 3 (.int .i64)))) (.cons (.dat (.int .i64)) (.cons (.dat (.int .i64)) (.cons (.dat (.arr 3 (.int .i64))) (.cons (.own 0 (.arr 3 (.int .i64))) (.cons (.cons (.own 1 (.int .i64)) (.nil)) (.cons (.vec 2 1 .bool) (.cons (.cons (.own 3 (.arr 3 (.int .i64))) (.cons (.own 4 (.arr 3 (.int .i64))) (.cons (.own 5 (.arr 3 (.int .i64))) (.nil)))) (.nil)))))))))), .vrow 2 .bool], 6, [.cons (.dat T27) (.cons (.dat (.list .bool)) (.cons (.dat (.list (.arr 3 (.int .i64)))) (.cons (.dat (.int .i64)) (.cons (.dat (.int .i64)) (.cons (.dat (.arr 3 (.int .i64))) (.cons (.own 0 (.arr 3 (.int .i64))) (.cons (.cons (.own 1 (.int .i64)) (.nil)) (.cons (.vec 2 1 .bool) (.cons (.cons (.own 3 (.arr 3 (.int .i64))) (.cons (.own 4 (.arr 3 (.int .i64))) (.cons (.own 5 (.arr 3 (.int .i64))) (.nil)))) (.nil)))))))))), .vrow 2 .bool], 6, .tup (.nil)⟩
noncomputable def g86_store_run_land_v1_E : CEnt := boxE 86 g86_store_run_land_v1_CS fun x => g86_store_run_land_v1 x.2.1 x.2.2.1
theorem g86_store_run_land_v1_l1_V : LValid 2 Tryd.prog (.loop g86_store_run_land_v1_l1_c) g86_store_run_land_v1_l1_L false := by
  have hb : ∀ s, codeR Tryd.prog g86_store_run_land_v1_C g86_store_run_land_v1_l1_c [] (g86_store_run_land_v1_l1_S.encE s) (g86_store_run_land_v1_l1_S.encB s) (kst g86_store_run_land_v1_l1_S [.exit 2]) = g86_store_run_land_v1_l1_step s := by
    intro s; kernel_rfl
  have hL : LV 2 Tryd.prog false (loopsOf g86_store_run_land_v1_l1_c) [] := by unfold LV; cases loopsOf g86_store_run_land_v1_l1_c <;> trivial
  exact loopT_valid (fuel := g86_store_run_land_v1_l1_fuel) mixed g86_store_run_land_v1_CV hL (by kernel_rfl) (by decide) rfl hb (fun s r h => h)
theorem g86_store_run_land_v1_l0_V : LValid 2 Tryd.prog (.loop g86_store_run_land_v1_l0_c) g86_store_run_land_v1_l0_L false := by
  have hb : ∀ s, codeR Tryd.prog g86_store_run_land_v1_C g86_store_run_land_v1_l0_c [g86_store_run_land_v1_l1_L] (g86_store_run_land_v1_l0_S.encE s) (g86_store_run_land_v1_l0_S.encB s) (kst g86_store_run_land_v1_l0_S [.exit 0]) = g86_store_run_land_v1_l0_step s := by
    intro s; kernel_rfl
  have hl : loopsOf g86_store_run_land_v1_l0_c = [.loop g86_store_run_land_v1_l1_c] := by kernel_rfl
  have hL : LV 2 Tryd.prog false (loopsOf g86_store_run_land_v1_l0_c) [g86_store_run_land_v1_l1_L] := by rw [hl]; exact ⟨g86_store_run_land_v1_l1_V, trivial⟩
  exact loopT_valid (fuel := g86_store_run_land_v1_l0_fuel) mixed g86_store_run_land_v1_CV hL (by kernel_rfl) (by decide) rfl hb (fun s r h => h)
theorem g86_store_run_land_v1_LV : LV 2 Tryd.prog false (loopsOf (bodyOf Tryd.f86)) [g86_store_run_land_v1_l0_L] := by
  have hl : loopsOf (bodyOf Tryd.f86) = [.loop g86_store_run_land_v1_l0_c] := by kernel_rfl
  rw [hl]; exact ⟨g86_store_run_land_v1_l0_V, trivial⟩
theorem g86_store_run_land_v1_ent : Ent Tryd.prog 86 := ⟨by decide, enters_of Tryd.func86 (by kernel_rfl) rfl⟩
theorem g86_store_run_land_v1_hev : ∀ x : g86_store_run_land_v1_CS.In, fnR Tryd.prog g86_store_run_land_v1_C [g86_store_run_land_v1_l0_L] Tryd.f86 (bodyOf Tryd.f86) (encs g86_store_run_land_v1_CS.A x.1) ⟨encs g86_store_run_land_v1_CS.I x.2, [], g86_store_run_land_v1_CS.nt⟩ (finK g86_store_run_land_v1_CS) = g86_store_run_land_v1 x.2.1 x.2.2.1 := by
  intro x; kernel_rfl
theorem g86_store_run_land_v1_valid : g86_store_run_land_v1_E.Valid Tryd.prog :=
  boxE_valid (S := g86_store_run_land_v1_CS) (by kernel_rfl) (.inr g86_store_run_land_v1_ent) (fn_lcall (S := g86_store_run_land_v1_CS) mixed Tryd.func86 rfl g86_store_run_land_v1_ent g86_store_run_land_v1_CV g86_store_run_land_v1_LV (by kernel_rfl) (by kernel_rfl) g86_store_run_land_v1_hev)

noncomputable def g87_store_run_need_v1_C : CalT := tabC []
theorem g87_store_run_need_v1_CV : CV Tryd.prog g87_store_run_need_v1_C := tabC_valid (l := []) trivial
noncomputable def g87_store_run_need_v1_l0_c : Code := loopAt (bodyOf Tryd.f87) 0
noncomputable def g87_store_run_need_v1_l0_S : SPat := ⟨[.fix (.bptr 0 []), .any, .fix (.bptr 2 []), .any, .any, .dat (.int .i64), .any, .any, .any, .any, .any, .any, .any, .any, .any, .any, .any, .any, .any, .any, .any, .any, .any, .any, .any, .any, .any, .any, .any, .any, .any, .any, .any, .any, .any, .any, .any, .any, .any, .any, .any, .any, .any, .any, .any, .any, .any, .any, .any, .any, .any, .any, .any, .any, .any, .any, .any, .any, .any, .any, .any, .any, .any, .any, .any, .any, .any, .any, .any, .any, .any, .any, .any], [.cons (.dat T27) PA28, .vrow 2 .bool, .dat (.arr 3 (.int .i64))], 6⟩
abbrev TY33 : Type := ((Int × Unit) × ((E27 × ((List Bool) × ((List (List Int)) × (Int × (Int × ((List Int) × ((List (List Int)) × (((List Int) × Unit) × (Nat × (((List (List Int)) × ((List (List Int)) × ((List (List Int)) × Unit))) × Unit)))))))))) × ((List Bool) × ((List Int) × Unit))))
abbrev TY34 : Type := (Nat × ((Int × Unit) × ((E27 × ((List Bool) × ((List (List Int)) × (Int × (Int × ((List Int) × ((List (List Int)) × (((List Int) × Unit) × (Nat × (((List (List Int)) × ((List (List Int)) × ((List (List Int)) × Unit))) × Unit)))))))))) × ((List Bool) × ((List Int) × Unit)))))
noncomputable def g87_store_run_need_v1_l0_step (s : TY33) : Option TY34 :=
  (bif (decide (s.1.1 < 3)) then
  (bif (decide (0 ≤ s.2.1.2.2.2.2.1) && decide (s.2.1.2.2.2.2.1 < (List.length s.2.1.2.2.1 : Int))) then
    (bif (decide (0 ≤ s.1.1) && decide (s.1.1 < (3 : Int))) then
      (bif (decide (0 ≤ s.1.1) && decide (s.1.1 < (3 : Int))) then
        (bif (decide (0 ≤ s.1.1) && decide (s.1.1 < (3 : Int))) then
          (bif (decide (0 ≤ s.1.1) && decide (s.1.1 < (3 : Int))) then
            (bif (decide (0 ≤ s.1.1) && decide (s.1.1 < (3 : Int))) then
              some (0, (((IntKind.wrap .i64 (s.1.1 + 1)), ()), ((s.2.1.1, (s.2.1.2.1, (s.2.1.2.2.1, (s.2.1.2.2.2.1, (s.2.1.2.2.2.2.1, ((List.set s.2.1.2.2.2.2.2.1 (Int.toNat s.1.1) (if (IntKind.wrap .i64 ((List.getD s.2.1.2.2.2.2.2.1 (Int.toNat s.1.1) 0) - (List.getD (List.getD s.2.1.2.2.1 (Int.toNat s.2.1.2.2.2.2.1) (List.replicate 3 0)) (Int.toNat s.1.1) 0))) > 0 then (IntKind.wrap .i64 ((List.getD s.2.1.2.2.2.2.2.1 (Int.toNat s.1.1) 0) - (List.getD (List.getD s.2.1.2.2.1 (Int.toNat s.2.1.2.2.2.2.1) (List.replicate 3 0)) (Int.toNat s.1.1) 0))) else 0)), s.2.1.2.2.2.2.2.2)))))), (s.2.2.1, ((List.set s.2.2.2.1 (Int.toNat s.1.1) (if (IntKind.wrap .i64 ((List.getD (List.getD s.2.1.2.2.1 (Int.toNat s.2.1.2.2.2.2.1) (List.replicate 3 0)) (Int.toNat s.1.1) 0) - (List.getD s.2.1.2.2.2.2.2.1 (Int.toNat s.1.1) 0))) > 0 then (IntKind.wrap .i64 ((List.getD (List.getD s.2.1.2.2.1 (Int.toNat s.2.1.2.2.2.2.1) (List.replicate 3 0)) (Int.toNat s.1.1) 0) - (List.getD s.2.1.2.2.2.2.2.1 (Int.toNat s.1.1) 0))) else 0)), ())))))
              else
              none)
            else
            none)
          else
          none)
        else
        none)
      else
      none)
    else
    none)
  else
  some (1, ((s.1.1, ()), (s.2.1, (s.2.2.1, (s.2.2.2.1, ()))))))
noncomputable def g87_store_run_need_v1_l0_fuel (s : TY33) : Nat := Int.toNat (3 - s.1.1) + 1
noncomputable def g87_store_run_need_v1_l0_run (s : TY33) : Option TY34 := iter g87_store_run_need_v1_l0_step (g87_store_run_need_v1_l0_fuel s) s
noncomputable def g87_store_run_need_v1_l0_L : LoopT := loopT g87_store_run_need_v1_l0_S [.exit 0] g87_store_run_need_v1_l0_run
noncomputable def g87_store_run_need_v1 (b0 : TY21) (b1 : (List Bool)) : Option TY22 :=
  (Option.bind (g87_store_run_need_v1_l0_run ((0, ()), (b0, (b1, ((0 :: (0 :: (0 :: []))), ()))))) fun q1 =>
  (bif (decide (List.length q1.2.2.1.2.2.2.2.2.2.2.2.2.1.2.2.1 + List.length [q1.2.2.2.2.1] ≤ LIM)) then
    (bif (decide (List.length q1.2.2.1.2.2.2.2.2.2.2.2.2.1.2.1 + List.length [q1.2.2.1.2.2.2.2.2.1] ≤ LIM)) then
      some ((), ((q1.2.2.1.1, (q1.2.2.1.2.1, (q1.2.2.1.2.2.1, (q1.2.2.1.2.2.2.1, (q1.2.2.1.2.2.2.2.1, (q1.2.2.1.2.2.2.2.2.1, (q1.2.2.1.2.2.2.2.2.2.1, (q1.2.2.1.2.2.2.2.2.2.2.1, (q1.2.2.1.2.2.2.2.2.2.2.2.1, ((q1.2.2.1.2.2.2.2.2.2.2.2.2.1.1, ((q1.2.2.1.2.2.2.2.2.2.2.2.2.1.2.1 ++ [q1.2.2.1.2.2.2.2.2.1]), ((q1.2.2.1.2.2.2.2.2.2.2.2.2.1.2.2.1 ++ [q1.2.2.2.2.1]), q1.2.2.1.2.2.2.2.2.2.2.2.2.1.2.2.2))), q1.2.2.1.2.2.2.2.2.2.2.2.2.2)))))))))), (q1.2.2.2.1, ())))
      else
      none)
    else
    none))
abbrev g87_store_run_need_v1_CS : CSpec := ⟨[.fix (.bptr 0 [])], [.cons (.dat T27) (.cons (.dat (.list .bool)) (.cons (.dat (.list (.arr 3 (.int .i64)))) (.cons (.dat (.int .i64)) (.cons (.dat (.int .i64)) (.cons (.dat (.arr 3 (.int .i64))) (.cons (.own 0 (.arr 3 (.int .i64))) (.cons (.cons (.own 1 (.int .i64)) (.nil)) (.cons (.vec 2 1 .bool) (.cons (.cons (.own 3 (.arr 3 (.int .i64))) (.cons (.own 4 (.arr 3 (.int .i64))) (.cons (.own 5 (.arr 3 (.int .i64))) (.nil)))) (.nil)))))))))), .vrow 2 .bool], 6, [.cons (.dat T27) (.cons (.dat (.list .bool)) (.cons (.dat (.list (.arr 3 (.int .i64)))) (.cons (.dat (.int .i64)) (.cons (.dat (.int .i64)) (.cons (.dat (.arr 3 (.int .i64))) (.cons (.own 0 (.arr 3 (.int .i64))) (.cons (.cons (.own 1 (.int .i64)) (.nil)) (.cons (.vec 2 1 .bool) (.cons (.cons (.own 3 (.arr 3 (.int .i64))) (.cons (.own 4 (.arr 3 (.int .i64))) (.cons (.own 5 (.arr 3 (.int .i64))) (.nil)))) (.nil)))))))))), .vrow 2 .bool], 6, .tup (.nil)⟩
noncomputable def g87_store_run_need_v1_E : CEnt := boxE 87 g87_store_run_need_v1_CS fun x => g87_store_run_need_v1 x.2.1 x.2.2.1
theorem g87_store_run_need_v1_l0_V : LValid 2 Tryd.prog (.loop g87_store_run_need_v1_l0_c) g87_store_run_need_v1_l0_L false := by
  have hb : ∀ s, codeR Tryd.prog g87_store_run_need_v1_C g87_store_run_need_v1_l0_c [] (g87_store_run_need_v1_l0_S.encE s) (g87_store_run_need_v1_l0_S.encB s) (kst g87_store_run_need_v1_l0_S [.exit 0]) = g87_store_run_need_v1_l0_step s := by
    intro s; kernel_rfl
  have hL : LV 2 Tryd.prog false (loopsOf g87_store_run_need_v1_l0_c) [] := by unfold LV; cases loopsOf g87_store_run_need_v1_l0_c <;> trivial
  exact loopT_valid (fuel := g87_store_run_need_v1_l0_fuel) mixed g87_store_run_need_v1_CV hL (by kernel_rfl) (by decide) rfl hb (fun s r h => h)
theorem g87_store_run_need_v1_LV : LV 2 Tryd.prog false (loopsOf (bodyOf Tryd.f87)) [g87_store_run_need_v1_l0_L] := by
  have hl : loopsOf (bodyOf Tryd.f87) = [.loop g87_store_run_need_v1_l0_c] := by kernel_rfl
  rw [hl]; exact ⟨g87_store_run_need_v1_l0_V, trivial⟩
theorem g87_store_run_need_v1_ent : Ent Tryd.prog 87 := ⟨by decide, enters_of Tryd.func87 (by kernel_rfl) rfl⟩
theorem g87_store_run_need_v1_hev : ∀ x : g87_store_run_need_v1_CS.In, fnR Tryd.prog g87_store_run_need_v1_C [g87_store_run_need_v1_l0_L] Tryd.f87 (bodyOf Tryd.f87) (encs g87_store_run_need_v1_CS.A x.1) ⟨encs g87_store_run_need_v1_CS.I x.2, [], g87_store_run_need_v1_CS.nt⟩ (finK g87_store_run_need_v1_CS) = g87_store_run_need_v1 x.2.1 x.2.2.1 := by
  intro x; kernel_rfl
theorem g87_store_run_need_v1_valid : g87_store_run_need_v1_E.Valid Tryd.prog :=
  boxE_valid (S := g87_store_run_need_v1_CS) (by kernel_rfl) (.inr g87_store_run_need_v1_ent) (fn_lcall (S := g87_store_run_need_v1_CS) mixed Tryd.func87 rfl g87_store_run_need_v1_ent g87_store_run_need_v1_CV g87_store_run_need_v1_LV (by kernel_rfl) (by kernel_rfl) g87_store_run_need_v1_hev)

noncomputable def g54_store_trace_C : CalT := CalT.vecs (tabC [g85_store_run_arrive_E, g86_store_run_land_E, g87_store_run_need_E, g85_store_run_arrive_v1_E, g86_store_run_land_v1_E, g87_store_run_need_v1_E]) [32]
theorem g54_store_trace_CV : CV Tryd.prog g54_store_trace_C := CV.vecs (C := tabC [g85_store_run_arrive_E, g86_store_run_land_E, g87_store_run_need_E, g85_store_run_arrive_v1_E, g86_store_run_land_v1_E, g87_store_run_need_v1_E]) (tabC_valid (l := [g85_store_run_arrive_E, g86_store_run_land_E, g87_store_run_need_E, g85_store_run_arrive_v1_E, g86_store_run_land_v1_E, g87_store_run_need_v1_E]) ⟨g85_store_run_arrive_valid, g86_store_run_land_valid, g87_store_run_need_valid, g85_store_run_arrive_v1_valid, g86_store_run_land_v1_valid, g87_store_run_need_v1_valid, trivial⟩)
noncomputable def g54_store_trace_l0_c : Code := loopAt (bodyOf Tryd.f54) 0
noncomputable def g54_store_trace_l1_c : Code := loopAt (bodyOf Tryd.f54) 1
noncomputable def g54_store_trace_l2_c : Code := loopAt g54_store_trace_l1_c 0
abbrev PA35 : PTy := (.cons (.dat (.list .bool)) (.cons (.dat (.list (.arr 3 (.int .i64)))) (.cons (.dat (.int .i64)) (.cons (.dat (.int .i64)) (.cons (.dat (.arr 3 (.int .i64))) (.cons (.vec 4 5 (.arr 3 (.int .i64))) (.cons (.cons (.own 5 (.int .i64)) (.nil)) (.cons (.vec 3 2 .bool) (.cons (.cons (.vec 6 6 (.arr 3 (.int .i64))) (.cons (.own 7 (.arr 3 (.int .i64))) (.cons (.own 8 (.arr 3 (.int .i64))) (.nil)))) (.nil))))))))))
noncomputable def g54_store_trace_l0_S : SPat := ⟨[.any, .any, .any, .any, .fix (.bptr 0 []), .any, .any, .any, .fix (.bptr 1 []), .fix (.bptr 3 []), .any, .any, .any, .any, .any, .any, .any, .any, .any, .any, .any, .any, .any, .any, .any, .any, .any, .any, .any, .any, .any, .any, .any, .any, .any, .dat (.list T39), .dat (.int .i64), .dat (.int .i64), .any, .any, .any, .any, .any, .any, .any, .any, .any, .any, .any, .any, .any, .any, .any, .any, .any, .any, .any, .any, .any, .any, .any, .any, .any, .any, .any, .any, .any, .any, .any, .any, .any, .any, .any, .any, .any, .any, .any, .any, .any, .any, .any, .any, .any, .any, .any, .any, .any, .any, .any, .any, .any], [.dat T27, .cons (.own 0 (.arr 3 (.int .i64))) (.cons (.own 1 (.arr 3 (.int .i64))) (.cons (.own 2 (.arr 3 (.int .i64))) (.nil))), .vrow 3 .bool, .cons (.dat T27) PA35, .dat T39, .vrow 4 (.arr 3 (.int .i64)), .vrow 6 (.arr 3 (.int .i64))], 9⟩
abbrev TY36 : Type := (((List E39) × (Int × (Int × Unit))) × (E27 × (((List (List Int)) × ((List (List Int)) × ((List (List Int)) × Unit))) × ((List Bool) × ((E27 × ((List Bool) × ((List (List Int)) × (Int × (Int × ((List Int) × (Nat × (((List Int) × Unit) × (Nat × ((Nat × ((List (List Int)) × ((List (List Int)) × Unit))) × Unit)))))))))) × (E39 × ((List (List Int)) × ((List (List Int)) × Unit))))))))
abbrev TY37 : Type := (Nat × (((List E39) × (Int × (Int × Unit))) × (E27 × (((List (List Int)) × ((List (List Int)) × ((List (List Int)) × Unit))) × ((List Bool) × ((E27 × ((List Bool) × ((List (List Int)) × (Int × (Int × ((List Int) × (Nat × (((List Int) × Unit) × (Nat × ((Nat × ((List (List Int)) × ((List (List Int)) × Unit))) × Unit)))))))))) × (E39 × ((List (List Int)) × ((List (List Int)) × Unit)))))))))
noncomputable def g54_store_trace_l0_step (s : TY36) : Option TY37 :=
  (bif (decide (s.1.2.2.1 < s.1.2.1)) then
  (bif (decide (0 ≤ s.1.2.2.1) && decide (s.1.2.2.1 < (List.length s.1.1 : Int))) then
    (bif (decide (s.2.2.2.2.1.2.2.2.2.2.2.1 = List.length s.2.2.2.2.2.2.1) && decide (List.length s.2.2.2.2.2.2.1 + List.length [(List.getD s.1.1 (Int.toNat s.1.2.2.1) (0, ((List.replicate 3 0), (0, ())))).2.1] ≤ LIM)) then
      (bif (decide (s.2.2.2.2.1.2.2.2.2.2.2.2.2.2.1.1 = List.length s.2.2.2.2.2.2.2.1) && decide (List.length s.2.2.2.2.2.2.2.1 + List.length [(0 :: (0 :: (0 :: [])))] ≤ LIM)) then
        some (0, ((s.1.1, (s.1.2.1, ((IntKind.wrap .i64 (s.1.2.2.1 + 1)), ()))), (s.2.1, (s.2.2.1, (s.2.2.2.1, ((s.2.2.2.2.1.1, (s.2.2.2.2.1.2.1, (s.2.2.2.2.1.2.2.1, (s.2.2.2.2.1.2.2.2.1, (s.2.2.2.2.1.2.2.2.2.1, (s.2.2.2.2.1.2.2.2.2.2.1, ((s.2.2.2.2.1.2.2.2.2.2.2.1 + List.length [(List.getD s.1.1 (Int.toNat s.1.2.2.1) (0, ((List.replicate 3 0), (0, ())))).2.1]), (s.2.2.2.2.1.2.2.2.2.2.2.2.1, (s.2.2.2.2.1.2.2.2.2.2.2.2.2.1, (((s.2.2.2.2.1.2.2.2.2.2.2.2.2.2.1.1 + List.length [(0 :: (0 :: (0 :: [])))]), s.2.2.2.2.1.2.2.2.2.2.2.2.2.2.1.2), s.2.2.2.2.1.2.2.2.2.2.2.2.2.2.2)))))))))), (s.2.2.2.2.2.1, ((s.2.2.2.2.2.2.1 ++ [(List.getD s.1.1 (Int.toNat s.1.2.2.1) (0, ((List.replicate 3 0), (0, ())))).2.1]), ((s.2.2.2.2.2.2.2.1 ++ [(0 :: (0 :: (0 :: [])))]), ())))))))))
        else
        none)
      else
      none)
    else
    none)
  else
  some (1, ((s.1.1, (s.1.2.1, (s.1.2.2.1, ()))), (s.2.1, (s.2.2.1, (s.2.2.2.1, (s.2.2.2.2.1, (s.2.2.2.2.2.1, (s.2.2.2.2.2.2.1, (s.2.2.2.2.2.2.2.1, ()))))))))))
noncomputable def g54_store_trace_l0_fuel (s : TY36) : Nat := Int.toNat (s.1.2.1 - s.1.2.2.1) + 1
noncomputable def g54_store_trace_l0_run (s : TY36) : Option TY37 := iter g54_store_trace_l0_step (g54_store_trace_l0_fuel s) s
noncomputable def g54_store_trace_l0_L : LoopT := peelT Tryd.prog g54_store_trace_C [] g54_store_trace_l0_c g54_store_trace_l0_S [.exit 0] g54_store_trace_l0_run
noncomputable def g54_store_trace_l2_S : SPat := ⟨[.any, .any, .any, .any, .any, .any, .any, .any, .fix (.bptr 1 []), .fix (.bptr 3 []), .any, .any, .any, .any, .any, .any, .any, .any, .any, .any, .any, .any, .any, .any, .any, .any, .any, .any, .any, .any, .any, .any, .any, .any, .any, .any, .any, .any, .any, .any, .any, .any, .any, .any, .any, .any, .any, .any, .any, .any, .any, .any, .any, .any, .any, .any, .any, .any, .any, .any, .any, .any, .any, .any, .any, .any, .dat (.int .i64), .dat (.int .i64), .any, .any, .any, .any, .any, .any, .any, .any, .any, .any, .any, .cons (.fix (.func (.func 85) (.cons (.bptr 3 []) .nil) .nil)) (.cons (.fix (.func (.func 86) (.cons (.bptr 3 []) .nil) .nil)) (.cons (.fix (.func (.func 87) (.cons (.bptr 3 []) .nil) .nil)) (.nil))), .dat (.int .i64), .any, .any, .any, .any, .any, .any, .any, .any, .any, .any], [.dat T27, .cons (.own 0 (.arr 3 (.int .i64))) (.cons (.own 1 (.arr 3 (.int .i64))) (.cons (.own 2 (.arr 3 (.int .i64))) (.nil))), .vrow 3 .bool, .cons (.dat T27) PA35, .dat T39, .vrow 4 (.arr 3 (.int .i64)), .vrow 6 (.arr 3 (.int .i64))], 9⟩
abbrev TY38 : Type := ((Int × (Int × ((Unit × (Unit × (Unit × Unit))) × (Int × Unit)))) × (E27 × (((List (List Int)) × ((List (List Int)) × ((List (List Int)) × Unit))) × ((List Bool) × ((E27 × ((List Bool) × ((List (List Int)) × (Int × (Int × ((List Int) × (Nat × (((List Int) × Unit) × (Nat × ((Nat × ((List (List Int)) × ((List (List Int)) × Unit))) × Unit)))))))))) × (E39 × ((List (List Int)) × ((List (List Int)) × Unit))))))))
abbrev TY39 : Type := (Nat × ((Int × (Int × ((Unit × (Unit × (Unit × Unit))) × (Int × Unit)))) × (E27 × (((List (List Int)) × ((List (List Int)) × ((List (List Int)) × Unit))) × ((List Bool) × ((E27 × ((List Bool) × ((List (List Int)) × (Int × (Int × ((List Int) × (Nat × (((List Int) × Unit) × (Nat × ((Nat × ((List (List Int)) × ((List (List Int)) × Unit))) × Unit)))))))))) × (E39 × ((List (List Int)) × ((List (List Int)) × Unit)))))))))
noncomputable def g54_store_trace_l2_step (s : TY38) : Option TY39 :=
  (bif (decide (s.1.2.2.2.1 < 3)) then
  (bif (decide (s.1.2.2.2.1 = (0 : Int))) then
    (Option.bind (g85_store_run_arrive s.2.2.2.2.1 s.2.2.2.2.2.2.1 s.2.2.2.1 s.2.2.2.2.2.2.2.1) fun r2 =>
      some (0, ((s.1.1, (s.1.2.1, (((), ((), ((), s.1.2.2.1.2.2.2))), ((IntKind.wrap .i64 (s.1.2.2.2.1 + 1)), ())))), (s.2.1, (s.2.2.1, (r2.2.2.2.1, (r2.2.1, (s.2.2.2.2.2.1, (r2.2.2.1, (r2.2.2.2.2.1, ()))))))))))
    else
    (bif (decide (s.1.2.2.2.1 = (1 : Int))) then
      (Option.bind (g86_store_run_land s.2.2.2.2.1 s.2.2.2.2.2.2.1 s.2.2.2.1 s.2.2.2.2.2.2.2.1) fun r3 =>
        some (0, ((s.1.1, (s.1.2.1, (((), ((), ((), s.1.2.2.1.2.2.2))), ((IntKind.wrap .i64 (s.1.2.2.2.1 + 1)), ())))), (s.2.1, (s.2.2.1, (r3.2.2.2.1, (r3.2.1, (s.2.2.2.2.2.1, (r3.2.2.1, (r3.2.2.2.2.1, ()))))))))))
      else
      (bif (decide (s.1.2.2.2.1 = (2 : Int))) then
        (Option.bind (g87_store_run_need s.2.2.2.2.1 s.2.2.2.2.2.2.1 s.2.2.2.1 s.2.2.2.2.2.2.2.1) fun r4 =>
          some (0, ((s.1.1, (s.1.2.1, (((), ((), ((), s.1.2.2.1.2.2.2))), ((IntKind.wrap .i64 (s.1.2.2.2.1 + 1)), ())))), (s.2.1, (s.2.2.1, (r4.2.2.2.1, (r4.2.1, (s.2.2.2.2.2.1, (r4.2.2.1, (r4.2.2.2.2.1, ()))))))))))
        else
        none)))
  else
  some (1, ((s.1.1, (s.1.2.1, (((), ((), ((), s.1.2.2.1.2.2.2))), (s.1.2.2.2.1, ())))), (s.2.1, (s.2.2.1, (s.2.2.2.1, (s.2.2.2.2.1, (s.2.2.2.2.2.1, (s.2.2.2.2.2.2.1, (s.2.2.2.2.2.2.2.1, ()))))))))))
noncomputable def g54_store_trace_l2_fuel (s : TY38) : Nat := Int.toNat (3 - s.1.2.2.2.1) + 1
noncomputable def g54_store_trace_l2_run (s : TY38) : Option TY39 := iter g54_store_trace_l2_step (g54_store_trace_l2_fuel s) s
noncomputable def g54_store_trace_l2_O : LoopT := loopT g54_store_trace_l2_S [.exit 4] g54_store_trace_l2_run
abbrev PA40 : PTy := (.cons (.dat (.list .bool)) (.cons (.dat (.list (.arr 3 (.int .i64)))) (.cons (.dat (.int .i64)) (.cons (.dat (.int .i64)) (.cons (.dat (.arr 3 (.int .i64))) (.cons (.own 4 (.arr 3 (.int .i64))) (.cons (.cons (.own 5 (.int .i64)) (.nil)) (.cons (.vec 3 2 .bool) (.cons (.cons (.own 6 (.arr 3 (.int .i64))) (.cons (.own 7 (.arr 3 (.int .i64))) (.cons (.own 8 (.arr 3 (.int .i64))) (.nil)))) (.nil))))))))))
noncomputable def g54_store_trace_l2_v1_S : SPat := ⟨[.any, .any, .any, .any, .any, .any, .any, .any, .fix (.bptr 1 []), .fix (.bptr 3 []), .any, .any, .any, .any, .any, .any, .any, .any, .any, .any, .any, .any, .any, .any, .any, .any, .any, .any, .any, .any, .any, .any, .any, .any, .any, .any, .any, .any, .any, .any, .any, .any, .any, .any, .any, .any, .any, .any, .any, .any, .any, .any, .any, .any, .any, .any, .any, .any, .any, .any, .any, .any, .any, .any, .any, .any, .dat (.int .i64), .dat (.int .i64), .any, .any, .any, .any, .any, .any, .any, .any, .any, .any, .any, .cons (.fix (.func (.func 85) (.cons (.bptr 3 []) .nil) .nil)) (.cons (.fix (.func (.func 86) (.cons (.bptr 3 []) .nil) .nil)) (.cons (.fix (.func (.func 87) (.cons (.bptr 3 []) .nil) .nil)) (.nil))), .dat (.int .i64), .any, .any, .any, .any, .any, .any, .any, .any, .any, .any], [.dat T27, .cons (.own 0 (.arr 3 (.int .i64))) (.cons (.own 1 (.arr 3 (.int .i64))) (.cons (.own 2 (.arr 3 (.int .i64))) (.nil))), .vrow 3 .bool, .cons (.dat T27) PA40], 9⟩
abbrev TY41 : Type := ((Int × (Int × ((Unit × (Unit × (Unit × Unit))) × (Int × Unit)))) × (E27 × (((List (List Int)) × ((List (List Int)) × ((List (List Int)) × Unit))) × ((List Bool) × ((E27 × ((List Bool) × ((List (List Int)) × (Int × (Int × ((List Int) × ((List (List Int)) × (((List Int) × Unit) × (Nat × (((List (List Int)) × ((List (List Int)) × ((List (List Int)) × Unit))) × Unit)))))))))) × Unit)))))
abbrev TY42 : Type := (Nat × ((Int × (Int × ((Unit × (Unit × (Unit × Unit))) × (Int × Unit)))) × (E27 × (((List (List Int)) × ((List (List Int)) × ((List (List Int)) × Unit))) × ((List Bool) × ((E27 × ((List Bool) × ((List (List Int)) × (Int × (Int × ((List Int) × ((List (List Int)) × (((List Int) × Unit) × (Nat × (((List (List Int)) × ((List (List Int)) × ((List (List Int)) × Unit))) × Unit)))))))))) × Unit))))))
noncomputable def g54_store_trace_l2_v1_step (s : TY41) : Option TY42 :=
  (bif (decide (s.1.2.2.2.1 < 3)) then
  (bif (decide (s.1.2.2.2.1 = (0 : Int))) then
    (Option.bind (g85_store_run_arrive_v1 s.2.2.2.2.1 s.2.2.2.1) fun r7 =>
      some (0, ((s.1.1, (s.1.2.1, (((), ((), ((), s.1.2.2.1.2.2.2))), ((IntKind.wrap .i64 (s.1.2.2.2.1 + 1)), ())))), (s.2.1, (s.2.2.1, (r7.2.2.1, (r7.2.1, ())))))))
    else
    (bif (decide (s.1.2.2.2.1 = (1 : Int))) then
      (Option.bind (g86_store_run_land_v1 s.2.2.2.2.1 s.2.2.2.1) fun r8 =>
        some (0, ((s.1.1, (s.1.2.1, (((), ((), ((), s.1.2.2.1.2.2.2))), ((IntKind.wrap .i64 (s.1.2.2.2.1 + 1)), ())))), (s.2.1, (s.2.2.1, (r8.2.2.1, (r8.2.1, ())))))))
      else
      (bif (decide (s.1.2.2.2.1 = (2 : Int))) then
        (Option.bind (g87_store_run_need_v1 s.2.2.2.2.1 s.2.2.2.1) fun r9 =>
          some (0, ((s.1.1, (s.1.2.1, (((), ((), ((), s.1.2.2.1.2.2.2))), ((IntKind.wrap .i64 (s.1.2.2.2.1 + 1)), ())))), (s.2.1, (s.2.2.1, (r9.2.2.1, (r9.2.1, ())))))))
        else
        none)))
  else
  some (1, ((s.1.1, (s.1.2.1, (((), ((), ((), s.1.2.2.1.2.2.2))), (s.1.2.2.2.1, ())))), (s.2.1, (s.2.2.1, (s.2.2.2.1, (s.2.2.2.2.1, ())))))))
noncomputable def g54_store_trace_l2_v1_fuel (s : TY41) : Nat := Int.toNat (3 - s.1.2.2.2.1) + 1
noncomputable def g54_store_trace_l2_v1_run (s : TY41) : Option TY42 := iter g54_store_trace_l2_v1_step (g54_store_trace_l2_v1_fuel s) s
noncomputable def g54_store_trace_l2_v1_O : LoopT := loopT g54_store_trace_l2_v1_S [.exit 4] g54_store_trace_l2_v1_run
noncomputable def g54_store_trace_l2_L : LoopT := orT g54_store_trace_l2_S.fit g54_store_trace_l2_O (g54_store_trace_l2_v1_O)
noncomputable def g54_store_trace_l1_S : SPat := ⟨[.any, .any, .any, .any, .any, .any, .any, .any, .fix (.bptr 1 []), .fix (.bptr 3 []), .any, .any, .any, .any, .any, .any, .any, .any, .any, .any, .any, .any, .any, .any, .any, .any, .any, .any, .any, .any, .any, .any, .any, .any, .any, .any, .any, .any, .any, .any, .any, .any, .any, .any, .any, .any, .any, .any, .any, .any, .any, .any, .any, .any, .any, .any, .any, .any, .any, .any, .any, .any, .any, .any, .any, .any, .dat (.int .i64), .dat (.int .i64), .any, .any, .any, .any, .any, .any, .any, .any, .any, .any, .any, .any, .any, .any, .any, .any, .any, .any, .any, .any, .any, .any, .any], [.dat T27, .cons (.own 0 (.arr 3 (.int .i64))) (.cons (.own 1 (.arr 3 (.int .i64))) (.cons (.own 2 (.arr 3 (.int .i64))) (.nil))), .vrow 3 .bool, .cons (.dat T27) PA35, .dat T39, .vrow 4 (.arr 3 (.int .i64)), .vrow 6 (.arr 3 (.int .i64))], 9⟩
abbrev TY43 : Type := ((Int × (Int × Unit)) × (E27 × (((List (List Int)) × ((List (List Int)) × ((List (List Int)) × Unit))) × ((List Bool) × ((E27 × ((List Bool) × ((List (List Int)) × (Int × (Int × ((List Int) × (Nat × (((List Int) × Unit) × (Nat × ((Nat × ((List (List Int)) × ((List (List Int)) × Unit))) × Unit)))))))))) × (E39 × ((List (List Int)) × ((List (List Int)) × Unit))))))))
abbrev TY44 : Type := (Nat × ((Int × (Int × Unit)) × (E27 × (((List (List Int)) × ((List (List Int)) × ((List (List Int)) × Unit))) × ((List Bool) × ((E27 × ((List Bool) × ((List (List Int)) × (Int × (Int × ((List Int) × (Nat × (((List Int) × Unit) × (Nat × ((Nat × ((List (List Int)) × ((List (List Int)) × Unit))) × Unit)))))))))) × (E39 × ((List (List Int)) × ((List (List Int)) × Unit)))))))))
noncomputable def g54_store_trace_l1_step (s : TY43) : Option TY44 :=
  (bif (decide (s.1.2.1 < s.1.1)) then
  (Option.bind (g54_store_trace_l2_run ((s.1.1, (s.1.2.1, (((), ((), ((), ()))), (0, ())))), (s.2.1, (s.2.2.1, (s.2.2.2.1, ((s.2.2.2.2.1.1, (s.2.2.2.2.1.2.1, (s.2.2.2.2.1.2.2.1, (s.2.2.2.2.1.2.2.2.1, (s.1.2.1, s.2.2.2.2.1.2.2.2.2.2))))), (s.2.2.2.2.2.1, (s.2.2.2.2.2.2.1, (s.2.2.2.2.2.2.2.1, ()))))))))) fun q5 =>
    some (0, ((q5.2.1.1, ((IntKind.wrap .i64 (q5.2.1.2.1 + 1)), ())), (q5.2.2.1, (q5.2.2.2.1, (q5.2.2.2.2.1, (q5.2.2.2.2.2.1, (q5.2.2.2.2.2.2.1, (q5.2.2.2.2.2.2.2.1, (q5.2.2.2.2.2.2.2.2.1, ()))))))))))
  else
  some (1, ((s.1.1, (s.1.2.1, ())), (s.2.1, (s.2.2.1, (s.2.2.2.1, (s.2.2.2.2.1, (s.2.2.2.2.2.1, (s.2.2.2.2.2.2.1, (s.2.2.2.2.2.2.2.1, ()))))))))))
noncomputable def g54_store_trace_l1_fuel (s : TY43) : Nat := Int.toNat (s.1.1 - s.1.2.1) + 1
noncomputable def g54_store_trace_l1_run (s : TY43) : Option TY44 := iter g54_store_trace_l1_step (g54_store_trace_l1_fuel s) s
noncomputable def g54_store_trace_l1_O : LoopT := loopT g54_store_trace_l1_S [.exit 2] g54_store_trace_l1_run
noncomputable def g54_store_trace_l1_v1_S : SPat := ⟨[.any, .any, .any, .any, .any, .any, .any, .any, .fix (.bptr 1 []), .fix (.bptr 3 []), .any, .any, .any, .any, .any, .any, .any, .any, .any, .any, .any, .any, .any, .any, .any, .any, .any, .any, .any, .any, .any, .any, .any, .any, .any, .any, .any, .any, .any, .any, .any, .any, .any, .any, .any, .any, .any, .any, .any, .any, .any, .any, .any, .any, .any, .any, .any, .any, .any, .any, .any, .any, .any, .any, .any, .any, .dat (.int .i64), .dat (.int .i64), .any, .any, .any, .any, .any, .any, .any, .any, .any, .any, .any, .any, .any, .any, .any, .any, .any, .any, .any, .any, .any, .any, .any], [.dat T27, .cons (.own 0 (.arr 3 (.int .i64))) (.cons (.own 1 (.arr 3 (.int .i64))) (.cons (.own 2 (.arr 3 (.int .i64))) (.nil))), .vrow 3 .bool, .cons (.dat T27) PA40], 9⟩
abbrev TY45 : Type := ((Int × (Int × Unit)) × (E27 × (((List (List Int)) × ((List (List Int)) × ((List (List Int)) × Unit))) × ((List Bool) × ((E27 × ((List Bool) × ((List (List Int)) × (Int × (Int × ((List Int) × ((List (List Int)) × (((List Int) × Unit) × (Nat × (((List (List Int)) × ((List (List Int)) × ((List (List Int)) × Unit))) × Unit)))))))))) × Unit)))))
abbrev TY46 : Type := (Nat × ((Int × (Int × Unit)) × (E27 × (((List (List Int)) × ((List (List Int)) × ((List (List Int)) × Unit))) × ((List Bool) × ((E27 × ((List Bool) × ((List (List Int)) × (Int × (Int × ((List Int) × ((List (List Int)) × (((List Int) × Unit) × (Nat × (((List (List Int)) × ((List (List Int)) × ((List (List Int)) × Unit))) × Unit)))))))))) × Unit))))))
noncomputable def g54_store_trace_l1_v1_step (s : TY45) : Option TY46 :=
  (bif (decide (s.1.2.1 < s.1.1)) then
  (Option.bind (g54_store_trace_l2_v1_run ((s.1.1, (s.1.2.1, (((), ((), ((), ()))), (0, ())))), (s.2.1, (s.2.2.1, (s.2.2.2.1, ((s.2.2.2.2.1.1, (s.2.2.2.2.1.2.1, (s.2.2.2.2.1.2.2.1, (s.2.2.2.2.1.2.2.2.1, (s.1.2.1, s.2.2.2.2.1.2.2.2.2.2))))), ())))))) fun q10 =>
    some (0, ((q10.2.1.1, ((IntKind.wrap .i64 (q10.2.1.2.1 + 1)), ())), (q10.2.2.1, (q10.2.2.2.1, (q10.2.2.2.2.1, (q10.2.2.2.2.2.1, ())))))))
  else
  some (1, ((s.1.1, (s.1.2.1, ())), (s.2.1, (s.2.2.1, (s.2.2.2.1, (s.2.2.2.2.1, ())))))))
noncomputable def g54_store_trace_l1_v1_fuel (s : TY45) : Nat := Int.toNat (s.1.1 - s.1.2.1) + 1
noncomputable def g54_store_trace_l1_v1_run (s : TY45) : Option TY46 := iter g54_store_trace_l1_v1_step (g54_store_trace_l1_v1_fuel s) s
noncomputable def g54_store_trace_l1_v1_O : LoopT := loopT g54_store_trace_l1_v1_S [.exit 2] g54_store_trace_l1_v1_run
noncomputable def g54_store_trace_l1_L : LoopT := orT g54_store_trace_l1_S.fit g54_store_trace_l1_O (g54_store_trace_l1_v1_O)
noncomputable def g54_store_trace (a0 : E27) (a1 : Int) (a2 : Int) (a3 : Int) : Option E33 :=
  (bif (decide (0 ≤ a2) && decide (a2 < (List.length a0.2.2.2.2.2.2.1 : Int))) then
  (bif (decide (0 ≤ a3) && decide (a3 < (List.length a0.2.2.2.2.2.2.2.1 : Int))) then
    (bif (decide ((0 : Int) ≤ (List.length a0.2.2.2.2.2.1 : Int)) && decide ((List.length a0.2.2.2.2.2.1 : Int) ≤ (LIM : Int)) && decide ((List.length a0.2.2.2.2.2.1 : Int) = (List.length a0.2.2.2.2.2.1 : Int))) then
      (bif (decide ((0 : Int) < (List.length a0.2.2.2.2.2.1 : Int))) then
        (bif (decide (0 ≤ (0 : Int)) && decide ((0 : Int) < (List.length a0.2.2.2.2.2.1 : Int))) then
          (bif (decide (0 < List.length [(List.getD a0.2.2.2.2.2.1 (Int.toNat 0) (0, ((List.replicate 3 0), (0, ())))).2.1]) && decide (List.length [(List.getD a0.2.2.2.2.2.1 (Int.toNat 0) (0, ((List.replicate 3 0), (0, ())))).2.1] ≤ LIM)) then
            (bif (decide (0 < List.length [(0 :: (0 :: (0 :: [])))]) && decide (List.length [(0 :: (0 :: (0 :: [])))] ≤ LIM)) then
              (Option.bind (g54_store_trace_l0_run ((a0.2.2.2.2.2.1, ((List.length a0.2.2.2.2.2.1 : Int), ((IntKind.wrap .i64 ((0 : Int) + 1)), ()))), (a0, (([], ([], ([], ()))), ((List.replicate (Int.toNat (List.length a0.2.2.2.2.2.1 : Int)) false), ((a0, ((List.getD a0.2.2.2.2.2.2.1 (Int.toNat a2) []), ((List.getD a0.2.2.2.2.2.2.2.1 (Int.toNat a3) []), (a1, (0, (a0.1, ((List.length [(List.getD a0.2.2.2.2.2.1 (Int.toNat 0) (0, ((List.replicate 3 0), (0, ())))).2.1]), (([], ()), ((Int.toNat (List.length a0.2.2.2.2.2.1 : Int)), (((List.length [(0 :: (0 :: (0 :: [])))]), ([], ([], ()))), ())))))))))), ((List.getD a0.2.2.2.2.2.1 (Int.toNat 0) (0, ((List.replicate 3 0), (0, ())))), ([(List.getD a0.2.2.2.2.2.1 (Int.toNat 0) (0, ((List.replicate 3 0), (0, ())))).2.1], ([(0 :: (0 :: (0 :: [])))], ()))))))))) fun q1 =>
                (Option.bind (g54_store_trace_l1_run ((q1.2.2.1.2.2.2.1, (0, ())), (q1.2.2.1, (q1.2.2.2.1, (q1.2.2.2.2.1, (q1.2.2.2.2.2.1, (q1.2.2.2.2.2.2.1, (q1.2.2.2.2.2.2.2.1, (q1.2.2.2.2.2.2.2.2.1, ()))))))))) fun q6 =>
                  (bif ((decide (q6.2.2.2.2.2.1.2.2.2.2.2.2.2.2.2.1.1 ≤ List.length q6.2.2.2.2.2.2.2.2.1)) && true) then
                    some ((List.take q6.2.2.2.2.2.1.2.2.2.2.2.2.2.2.2.1.1 q6.2.2.2.2.2.2.2.2.1), q6.2.2.2.2.2.1.2.2.2.2.2.2.2.2.2.1.2)
                    else
                    none)))
              else
              none)
            else
            none)
          else
          none)
        else
        (Option.bind (g54_store_trace_l1_v1_run ((a0.2.2.2.1, (0, ())), (a0, (([], ([], ([], ()))), ((List.replicate (Int.toNat (List.length a0.2.2.2.2.2.1 : Int)) false), ((a0, ((List.getD a0.2.2.2.2.2.2.1 (Int.toNat a2) []), ((List.getD a0.2.2.2.2.2.2.2.1 (Int.toNat a3) []), (a1, (0, (a0.1, ([], (([], ()), ((Int.toNat (List.length a0.2.2.2.2.2.1 : Int)), (([], ([], ([], ()))), ())))))))))), ())))))) fun q11 =>
          some q11.2.2.2.2.2.1.2.2.2.2.2.2.2.2.2.1))
      else
      none)
    else
    none)
  else
  none)
noncomputable def g54_store_trace_E : CEnt := pureE 54 [.dat T27, .dat (.int .i64), .dat (.int .i64), .dat (.int .i64)] (.dat T33) fun x => g54_store_trace x.1 x.2.1 x.2.2.1 x.2.2.2.1
theorem g54_store_trace_l0_V : LValid 0 Tryd.prog (.loop g54_store_trace_l0_c) g54_store_trace_l0_L false := by
  have hb : ∀ s, codeR Tryd.prog g54_store_trace_C g54_store_trace_l0_c [] (g54_store_trace_l0_S.encE s) (g54_store_trace_l0_S.encB s) (kst g54_store_trace_l0_S [.exit 0]) = g54_store_trace_l0_step s := by
    intro s; kernel_rfl
  have hL : LV 0 Tryd.prog false (loopsOf g54_store_trace_l0_c) [] := by unfold LV; cases loopsOf g54_store_trace_l0_c <;> trivial
  exact peelT_valid (fuel := g54_store_trace_l0_fuel) mixed g54_store_trace_CV hL (by kernel_rfl) (by decide) rfl hb (fun s r h => h)
theorem g54_store_trace_l2_VO : LValid 0 Tryd.prog (.loop g54_store_trace_l2_c) g54_store_trace_l2_O false := by
  have hb : ∀ s, codeR Tryd.prog g54_store_trace_C g54_store_trace_l2_c [] (g54_store_trace_l2_S.encE s) (g54_store_trace_l2_S.encB s) (kst g54_store_trace_l2_S [.exit 4]) = g54_store_trace_l2_step s := by
    intro s; kernel_rfl
  have hL : LV 0 Tryd.prog false (loopsOf g54_store_trace_l2_c) [] := by unfold LV; cases loopsOf g54_store_trace_l2_c <;> trivial
  exact loopT_valid (fuel := g54_store_trace_l2_fuel) mixed g54_store_trace_CV hL (by kernel_rfl) (by decide) rfl hb (fun s r h => h)
theorem g54_store_trace_l2_v1_VO : LValid 0 Tryd.prog (.loop g54_store_trace_l2_c) g54_store_trace_l2_v1_O false := by
  have hb : ∀ s, codeR Tryd.prog g54_store_trace_C g54_store_trace_l2_c [] (g54_store_trace_l2_v1_S.encE s) (g54_store_trace_l2_v1_S.encB s) (kst g54_store_trace_l2_v1_S [.exit 4]) = g54_store_trace_l2_v1_step s := by
    intro s; kernel_rfl
  have hL : LV 0 Tryd.prog false (loopsOf g54_store_trace_l2_c) [] := by unfold LV; cases loopsOf g54_store_trace_l2_c <;> trivial
  exact loopT_valid (fuel := g54_store_trace_l2_v1_fuel) mixed g54_store_trace_CV hL (by kernel_rfl) (by decide) rfl hb (fun s r h => h)
theorem g54_store_trace_l2_V : LValid 0 Tryd.prog (.loop g54_store_trace_l2_c) g54_store_trace_l2_L false := orT_valid g54_store_trace_l2_VO (g54_store_trace_l2_v1_VO)
theorem g54_store_trace_l1_VO : LValid 0 Tryd.prog (.loop g54_store_trace_l1_c) g54_store_trace_l1_O false := by
  have hb : ∀ s, codeR Tryd.prog g54_store_trace_C g54_store_trace_l1_c [g54_store_trace_l2_L] (g54_store_trace_l1_S.encE s) (g54_store_trace_l1_S.encB s) (kst g54_store_trace_l1_S [.exit 2]) = g54_store_trace_l1_step s := by
    intro s; kernel_rfl
  have hl : loopsOf g54_store_trace_l1_c = [.loop g54_store_trace_l2_c] := by kernel_rfl
  have hL : LV 0 Tryd.prog false (loopsOf g54_store_trace_l1_c) [g54_store_trace_l2_L] := by rw [hl]; exact ⟨g54_store_trace_l2_V, trivial⟩
  exact loopT_valid (fuel := g54_store_trace_l1_fuel) mixed g54_store_trace_CV hL (by kernel_rfl) (by decide) rfl hb (fun s r h => h)
theorem g54_store_trace_l1_v1_VO : LValid 0 Tryd.prog (.loop g54_store_trace_l1_c) g54_store_trace_l1_v1_O false := by
  have hb : ∀ s, codeR Tryd.prog g54_store_trace_C g54_store_trace_l1_c [g54_store_trace_l2_L] (g54_store_trace_l1_v1_S.encE s) (g54_store_trace_l1_v1_S.encB s) (kst g54_store_trace_l1_v1_S [.exit 2]) = g54_store_trace_l1_v1_step s := by
    intro s; kernel_rfl
  have hl : loopsOf g54_store_trace_l1_c = [.loop g54_store_trace_l2_c] := by kernel_rfl
  have hL : LV 0 Tryd.prog false (loopsOf g54_store_trace_l1_c) [g54_store_trace_l2_L] := by rw [hl]; exact ⟨g54_store_trace_l2_V, trivial⟩
  exact loopT_valid (fuel := g54_store_trace_l1_v1_fuel) mixed g54_store_trace_CV hL (by kernel_rfl) (by decide) rfl hb (fun s r h => h)
theorem g54_store_trace_l1_V : LValid 0 Tryd.prog (.loop g54_store_trace_l1_c) g54_store_trace_l1_L false := orT_valid g54_store_trace_l1_VO (g54_store_trace_l1_v1_VO)
theorem g54_store_trace_LV : LV 0 Tryd.prog false (loopsOf (bodyOf Tryd.f54)) [g54_store_trace_l0_L, g54_store_trace_l1_L] := by
  have hl : loopsOf (bodyOf Tryd.f54) = [.loop g54_store_trace_l0_c, .loop g54_store_trace_l1_c] := by kernel_rfl
  rw [hl]; exact ⟨g54_store_trace_l0_V, g54_store_trace_l1_V, trivial⟩
theorem g54_store_trace_ent : Ent Tryd.prog 54 := ⟨by decide, enters_of Tryd.func54 (by kernel_rfl) rfl⟩
theorem g54_store_trace_hev : ∀ x, fnR Tryd.prog g54_store_trace_C [g54_store_trace_l0_L, g54_store_trace_l1_L] Tryd.f54 (bodyOf Tryd.f54) (encs [.dat T27, .dat (.int .i64), .dat (.int .i64), .dat (.int .i64)] x) ⟨[], [], 0⟩ (frzV (.dat T33)) = g54_store_trace x.1 x.2.1 x.2.2.1 x.2.2.2.1 := by
  intro x; kernel_rfl
theorem g54_store_trace_valid : g54_store_trace_E.Valid Tryd.prog :=
  pureE_valid (by kernel_rfl) (by kernel_rfl) g54_store_trace_ent (frzV_lcall mixed Tryd.func54 rfl g54_store_trace_ent g54_store_trace_CV g54_store_trace_LV (by kernel_rfl) (by kernel_rfl) g54_store_trace_hev)

noncomputable def g21_store_Run_C : CalT := tabC [g51_store_valid_E, g52_store_planned_E, g53_store_in_E, g54_store_trace_E]
theorem g21_store_Run_CV : CV Tryd.prog g21_store_Run_C := tabC_valid (l := [g51_store_valid_E, g52_store_planned_E, g53_store_in_E, g54_store_trace_E]) ⟨g51_store_valid_valid, g52_store_planned_valid, g53_store_in_valid, g54_store_trace_valid, trivial⟩
noncomputable def g21_store_Run (a0 : E27) (a1 : Int) (a2 : Int) (a3 : Int) : Option (E33 × (Int × Unit)) :=
  (Option.bind (g51_store_valid a0) fun r1 =>
  (bif (!r1) then
    some (([], ([], ([], ()))), (2, ()))
    else
    (Option.bind (g52_store_planned a0 a1) fun r2 =>
      (bif (!r2) then
        some (([], ([], ([], ()))), (2, ()))
        else
        (Option.bind (g53_store_in a2 0 (IntKind.wrap .i64 ((List.length a0.2.2.2.2.2.2.1 : Int) - 1))) fun r3 =>
          (bif (!r3) then
            some (([], ([], ([], ()))), (2, ()))
            else
            (Option.bind (g53_store_in a3 0 (IntKind.wrap .i64 ((List.length a0.2.2.2.2.2.2.2.1 : Int) - 1))) fun r4 =>
              (bif (!r4) then
                some (([], ([], ([], ()))), (2, ()))
                else
                (Option.bind (g54_store_trace a0 a1 a2 a3) fun r5 =>
                  some (r5, (0, ())))))))))))
noncomputable def g21_store_Run_E : CEnt := pureE 21 [.dat T27, .dat (.int .i64), .dat (.int .i64), .dat (.int .i64)] (.tup (.cons (.dat T33) (.cons (.dat (.int .i64)) (.nil)))) fun x => g21_store_Run x.1 x.2.1 x.2.2.1 x.2.2.2.1
theorem g21_store_Run_LV : LV 0 Tryd.prog false (loopsOf (bodyOf Tryd.f21)) [] := by unfold LV; cases loopsOf (bodyOf Tryd.f21) <;> trivial
theorem g21_store_Run_ent : Ent Tryd.prog 21 := ⟨by decide, enters_of Tryd.func21 (by kernel_rfl) rfl⟩
theorem g21_store_Run_hev : ∀ x, fnR Tryd.prog g21_store_Run_C [] Tryd.f21 (bodyOf Tryd.f21) (encs [.dat T27, .dat (.int .i64), .dat (.int .i64), .dat (.int .i64)] x) ⟨[], [], 0⟩ (frzF (.tup (.cons (.dat T33) (.cons (.dat (.int .i64)) (.nil))))) = g21_store_Run x.1 x.2.1 x.2.2.1 x.2.2.2.1 := by
  intro x; kernel_rfl
theorem g21_store_Run_valid : g21_store_Run_E.Valid Tryd.prog :=
  pureE_valid (by kernel_rfl) (by kernel_rfl) g21_store_Run_ent (frz_lcall mixed Tryd.func21 rfl g21_store_Run_ent g21_store_Run_CV g21_store_Run_LV (by kernel_rfl) (by kernel_rfl) g21_store_Run_hev)

noncomputable def g55_store_fault_C : CalT := tabC [g54_store_trace_E]
theorem g55_store_fault_CV : CV Tryd.prog g55_store_fault_C := tabC_valid (l := [g54_store_trace_E]) ⟨g54_store_trace_valid, trivial⟩
noncomputable def g55_store_fault_l0_c : Code := loopAt (bodyOf Tryd.f55) 0
noncomputable def g55_store_fault_l1_c : Code := loopAt g55_store_fault_l0_c 0
noncomputable def g55_store_fault_l2_c : Code := loopAt g55_store_fault_l1_c 0
noncomputable def g55_store_fault_l3_c : Code := loopAt g55_store_fault_l2_c 0
abbrev PA47 : PTy := (.cons (.dat (.int .i64)) (.cons (.dat (.int .i64)) (.cons (.dat (.int .i64)) (.cons (.dat (.int .i64)) (.nil)))))
noncomputable def g55_store_fault_l3_S : SPat := ⟨[.any, .dat (.int .i64), .fix (.bptr 0 []), .any, .fix (.bptr 1 []), .dat (.int .i64), .dat (.int .i64), .dat (.int .i64), .fix (.bptr 2 []), .any, .any, .any, .dat (.int .i64), .dat (.int .i64), .any, .any, .any, .any, .dat (.int .i64), .dat (.int .i64), .any, .any, .any, .any, .any, .any, .any, .dat (.list (.arr 3 (.int .i64))), .dat (.int .i64), .dat (.int .i64), .any, .any, .any, .any, .dat (.int .i64), .any, .any, .any, .any, .any, .any, .any, .any, .any, .any, .any, .any, .any, .any, .any, .any], [.dat T27, .cons (.dat .bool) PA47, .dat (.arr 3 (.int .i64))], 0⟩
abbrev TY48 : Type := ((Int × (Int × (Int × (Int × (Int × (Int × (Int × (Int × ((List (List Int)) × (Int × (Int × (Int × Unit)))))))))))) × (E27 × ((Bool × (Int × (Int × (Int × (Int × Unit))))) × ((List Int) × Unit))))
abbrev TY49 : Type := (Nat × ((Int × (Int × (Int × (Int × (Int × (Int × (Int × (Int × ((List (List Int)) × (Int × (Int × (Int × Unit)))))))))))) × (E27 × ((Bool × (Int × (Int × (Int × (Int × Unit))))) × ((List Int) × Unit)))))
noncomputable def g55_store_fault_l3_step (s : TY48) : Option TY49 :=
  (bif (decide (s.1.2.2.2.2.2.2.2.2.2.2.2.1 < 3)) then
  (bif (decide (0 ≤ s.1.2.2.2.2.2.2.2.2.2.2.2.1) && decide (s.1.2.2.2.2.2.2.2.2.2.2.2.1 < (3 : Int))) then
    (bif (decide ((List.getD s.2.2.2.1 (Int.toNat s.1.2.2.2.2.2.2.2.2.2.2.2.1) 0) > 0)) then
      some (1, ((s.1.1, (s.1.2.1, (s.1.2.2.1, (s.1.2.2.2.1, (s.1.2.2.2.2.1, (s.1.2.2.2.2.2.1, (s.1.2.2.2.2.2.2.1, (s.1.2.2.2.2.2.2.2.1, (s.1.2.2.2.2.2.2.2.2.1, (s.1.2.2.2.2.2.2.2.2.2.1, (s.1.2.2.2.2.2.2.2.2.2.2.1, (s.1.2.2.2.2.2.2.2.2.2.2.2.1, ())))))))))))), (s.2.1, ((true, (s.1.2.1, (s.1.2.2.1, (s.1.2.2.2.1, (s.1.2.2.2.2.2.2.2.2.2.2.2.1, ()))))), (s.2.2.2.1, ())))))
      else
      some (0, ((s.1.1, (s.1.2.1, (s.1.2.2.1, (s.1.2.2.2.1, (s.1.2.2.2.2.1, (s.1.2.2.2.2.2.1, (s.1.2.2.2.2.2.2.1, (s.1.2.2.2.2.2.2.2.1, (s.1.2.2.2.2.2.2.2.2.1, (s.1.2.2.2.2.2.2.2.2.2.1, (s.1.2.2.2.2.2.2.2.2.2.2.1, ((IntKind.wrap .i64 (s.1.2.2.2.2.2.2.2.2.2.2.2.1 + 1)), ())))))))))))), (s.2.1, (s.2.2.1, (s.2.2.2.1, ()))))))
    else
    none)
  else
  some (2, ((s.1.1, (s.1.2.1, (s.1.2.2.1, (s.1.2.2.2.1, (s.1.2.2.2.2.1, (s.1.2.2.2.2.2.1, (s.1.2.2.2.2.2.2.1, (s.1.2.2.2.2.2.2.2.1, (s.1.2.2.2.2.2.2.2.2.1, (s.1.2.2.2.2.2.2.2.2.2.1, (s.1.2.2.2.2.2.2.2.2.2.2.1, (s.1.2.2.2.2.2.2.2.2.2.2.2.1, ())))))))))))), (s.2.1, (s.2.2.1, (s.2.2.2.1, ()))))))
noncomputable def g55_store_fault_l3_fuel (s : TY48) : Nat := Int.toNat (3 - s.1.2.2.2.2.2.2.2.2.2.2.2.1) + 1
noncomputable def g55_store_fault_l3_run (s : TY48) : Option TY49 := iter g55_store_fault_l3_step (g55_store_fault_l3_fuel s) s
noncomputable def g55_store_fault_l3_L : LoopT := loopT g55_store_fault_l3_S [.ret, .exit 6] g55_store_fault_l3_run
noncomputable def g55_store_fault_l2_S : SPat := ⟨[.any, .dat (.int .i64), .fix (.bptr 0 []), .any, .fix (.bptr 1 []), .dat (.int .i64), .dat (.int .i64), .any, .any, .any, .any, .any, .dat (.int .i64), .dat (.int .i64), .any, .any, .any, .any, .dat (.int .i64), .dat (.int .i64), .any, .any, .any, .any, .any, .any, .any, .dat (.list (.arr 3 (.int .i64))), .dat (.int .i64), .dat (.int .i64), .any, .any, .any, .any, .any, .any, .any, .any, .any, .any, .any, .any, .any, .any, .any, .any, .any, .any, .any, .any, .any], [.dat T27, .cons (.dat .bool) PA47], 0⟩
abbrev TY50 : Type := ((Int × (Int × (Int × (Int × (Int × (Int × (Int × ((List (List Int)) × (Int × (Int × Unit)))))))))) × (E27 × ((Bool × (Int × (Int × (Int × (Int × Unit))))) × Unit)))
abbrev TY51 : Type := (Nat × ((Int × (Int × (Int × (Int × (Int × (Int × (Int × ((List (List Int)) × (Int × (Int × Unit)))))))))) × (E27 × ((Bool × (Int × (Int × (Int × (Int × Unit))))) × Unit))))
noncomputable def g55_store_fault_l2_step (s : TY50) : Option TY51 :=
  (bif (decide (s.1.2.2.2.2.2.2.2.2.2.1 < s.1.2.2.2.2.2.2.2.2.1)) then
  (bif (decide (0 ≤ s.1.2.2.2.2.2.2.2.2.2.1) && decide (s.1.2.2.2.2.2.2.2.2.2.1 < (List.length s.1.2.2.2.2.2.2.2.1 : Int))) then
    (Option.bind (g55_store_fault_l3_run ((s.1.1, (s.1.2.1, (s.1.2.2.1, (s.1.2.2.2.2.2.2.2.2.2.1, (s.1.2.2.2.1, (s.1.2.2.2.2.1, (s.1.2.2.2.2.2.1, (s.1.2.2.2.2.2.2.1, (s.1.2.2.2.2.2.2.2.1, (s.1.2.2.2.2.2.2.2.2.1, (s.1.2.2.2.2.2.2.2.2.2.1, (0, ())))))))))))), (s.2.1, (s.2.2.1, ((List.getD s.1.2.2.2.2.2.2.2.1 (Int.toNat s.1.2.2.2.2.2.2.2.2.2.1) (List.replicate 3 0)), ()))))) fun q2 =>
      (natK q2.1
        (some (1, ((q2.2.1.1, (q2.2.1.2.1, (q2.2.1.2.2.1, (q2.2.1.2.2.2.2.1, (q2.2.1.2.2.2.2.2.1, (q2.2.1.2.2.2.2.2.2.1, (q2.2.1.2.2.2.2.2.2.2.1, (q2.2.1.2.2.2.2.2.2.2.2.1, (q2.2.1.2.2.2.2.2.2.2.2.2.1, (q2.2.1.2.2.2.2.2.2.2.2.2.2.1, ())))))))))), (q2.2.2.1, (q2.2.2.2.1, ())))))
        (fun _ => some (0, ((q2.2.1.1, (q2.2.1.2.1, (q2.2.1.2.2.1, (q2.2.1.2.2.2.2.1, (q2.2.1.2.2.2.2.2.1, (q2.2.1.2.2.2.2.2.2.1, (q2.2.1.2.2.2.2.2.2.2.1, (q2.2.1.2.2.2.2.2.2.2.2.1, (q2.2.1.2.2.2.2.2.2.2.2.2.1, ((IntKind.wrap .i64 (q2.2.1.2.2.2.2.2.2.2.2.2.2.1 + 1)), ())))))))))), (q2.2.2.1, (q2.2.2.2.1, ())))))))
    else
    none)
  else
  some (2, ((s.1.1, (s.1.2.1, (s.1.2.2.1, (s.1.2.2.2.1, (s.1.2.2.2.2.1, (s.1.2.2.2.2.2.1, (s.1.2.2.2.2.2.2.1, (s.1.2.2.2.2.2.2.2.1, (s.1.2.2.2.2.2.2.2.2.1, (s.1.2.2.2.2.2.2.2.2.2.1, ())))))))))), (s.2.1, (s.2.2.1, ())))))
noncomputable def g55_store_fault_l2_fuel (s : TY50) : Nat := Int.toNat (s.1.2.2.2.2.2.2.2.2.1 - s.1.2.2.2.2.2.2.2.2.2.1) + 1
noncomputable def g55_store_fault_l2_run (s : TY50) : Option TY51 := iter g55_store_fault_l2_step (g55_store_fault_l2_fuel s) s
noncomputable def g55_store_fault_l2_L : LoopT := loopT g55_store_fault_l2_S [.ret, .exit 4] g55_store_fault_l2_run
noncomputable def g55_store_fault_l1_S : SPat := ⟨[.any, .dat (.int .i64), .fix (.bptr 0 []), .any, .fix (.bptr 1 []), .dat (.int .i64), .any, .any, .any, .any, .any, .any, .dat (.int .i64), .dat (.int .i64), .any, .any, .any, .any, .dat (.int .i64), .dat (.int .i64), .any, .any, .any, .any, .any, .any, .any, .any, .any, .any, .any, .any, .any, .any, .any, .any, .any, .any, .any, .any, .any, .any, .any, .any, .any, .any, .any, .any, .any, .any, .any], [.dat T27, .cons (.dat .bool) PA47], 0⟩
abbrev TY52 : Type := ((Int × (Int × (Int × (Int × (Int × (Int × Unit)))))) × (E27 × ((Bool × (Int × (Int × (Int × (Int × Unit))))) × Unit)))
abbrev TY53 : Type := (Nat × ((Int × (Int × (Int × (Int × (Int × (Int × Unit)))))) × (E27 × ((Bool × (Int × (Int × (Int × (Int × Unit))))) × Unit))))
noncomputable def g55_store_fault_l1_step (s : TY52) : Option TY53 :=
  (bif (decide (s.1.2.2.2.2.2.1 < s.1.2.2.2.2.1)) then
  (Option.bind (g54_store_trace s.2.1 s.1.1 s.1.2.1 s.1.2.2.2.2.2.1) fun r1 =>
    (Option.bind (g55_store_fault_l2_run ((s.1.1, (s.1.2.1, (s.1.2.2.2.2.2.1, (s.1.2.2.1, (s.1.2.2.2.1, (s.1.2.2.2.2.1, (s.1.2.2.2.2.2.1, (r1.2.2.1, ((List.length r1.2.2.1 : Int), (0, ())))))))))), (s.2.1, (s.2.2.1, ())))) fun q3 =>
      (natK q3.1
        (some (1, ((q3.2.1.1, (q3.2.1.2.1, (q3.2.1.2.2.2.1, (q3.2.1.2.2.2.2.1, (q3.2.1.2.2.2.2.2.1, (q3.2.1.2.2.2.2.2.2.1, ())))))), (q3.2.2.1, (q3.2.2.2.1, ())))))
        (fun _ => some (0, ((q3.2.1.1, (q3.2.1.2.1, (q3.2.1.2.2.2.1, (q3.2.1.2.2.2.2.1, (q3.2.1.2.2.2.2.2.1, ((IntKind.wrap .i64 (q3.2.1.2.2.2.2.2.2.1 + 1)), ())))))), (q3.2.2.1, (q3.2.2.2.1, ()))))))))
  else
  some (2, ((s.1.1, (s.1.2.1, (s.1.2.2.1, (s.1.2.2.2.1, (s.1.2.2.2.2.1, (s.1.2.2.2.2.2.1, ())))))), (s.2.1, (s.2.2.1, ())))))
noncomputable def g55_store_fault_l1_fuel (s : TY52) : Nat := Int.toNat (s.1.2.2.2.2.1 - s.1.2.2.2.2.2.1) + 1
noncomputable def g55_store_fault_l1_run (s : TY52) : Option TY53 := iter g55_store_fault_l1_step (g55_store_fault_l1_fuel s) s
noncomputable def g55_store_fault_l1_L : LoopT := loopT g55_store_fault_l1_S [.ret, .exit 2] g55_store_fault_l1_run
noncomputable def g55_store_fault_l0_S : SPat := ⟨[.any, .dat (.int .i64), .fix (.bptr 0 []), .any, .fix (.bptr 1 []), .any, .any, .any, .any, .any, .any, .any, .dat (.int .i64), .dat (.int .i64), .any, .any, .any, .any, .any, .any, .any, .any, .any, .any, .any, .any, .any, .any, .any, .any, .any, .any, .any, .any, .any, .any, .any, .any, .any, .any, .any, .any, .any, .any, .any, .any, .any, .any, .any, .any, .any], [.dat T27, .cons (.dat .bool) PA47], 0⟩
abbrev TY54 : Type := ((Int × (Int × (Int × Unit))) × (E27 × ((Bool × (Int × (Int × (Int × (Int × Unit))))) × Unit)))
abbrev TY55 : Type := (Nat × ((Int × (Int × (Int × Unit))) × (E27 × ((Bool × (Int × (Int × (Int × (Int × Unit))))) × Unit))))
noncomputable def g55_store_fault_l0_step (s : TY54) : Option TY55 :=
  (bif (decide (s.1.2.2.1 < s.1.2.1)) then
  (Option.bind (g55_store_fault_l1_run ((s.1.1, (s.1.2.2.1, (s.1.2.1, (s.1.2.2.1, ((List.length s.2.1.2.2.2.2.2.2.2.1 : Int), (0, ())))))), (s.2.1, (s.2.2.1, ())))) fun q4 =>
    (natK q4.1
      (some (1, ((q4.2.1.1, (q4.2.1.2.2.1, (q4.2.1.2.2.2.1, ()))), (q4.2.2.1, (q4.2.2.2.1, ())))))
      (fun _ => some (0, ((q4.2.1.1, (q4.2.1.2.2.1, ((IntKind.wrap .i64 (q4.2.1.2.2.2.1 + 1)), ()))), (q4.2.2.1, (q4.2.2.2.1, ())))))))
  else
  some (2, ((s.1.1, (s.1.2.1, (s.1.2.2.1, ()))), (s.2.1, (s.2.2.1, ())))))
noncomputable def g55_store_fault_l0_fuel (s : TY54) : Nat := Int.toNat (s.1.2.1 - s.1.2.2.1) + 1
noncomputable def g55_store_fault_l0_run (s : TY54) : Option TY55 := iter g55_store_fault_l0_step (g55_store_fault_l0_fuel s) s
noncomputable def g55_store_fault_l0_L : LoopT := loopT g55_store_fault_l0_S [.ret, .exit 0] g55_store_fault_l0_run
noncomputable def g55_store_fault (a0 : E27) (a1 : Int) : Option E44 :=
  (Option.bind (g55_store_fault_l0_run ((a1, ((List.length a0.2.2.2.2.2.2.1 : Int), (0, ()))), (a0, ((false, (0, (0, (0, (0, ()))))), ())))) fun q5 =>
  (natK q5.1
    (some q5.2.2.2.1)
    (fun _ => some (false, (0, (0, (0, (0, ()))))))))
noncomputable def g55_store_fault_E : CEnt := pureE 55 [.dat T27, .dat (.int .i64)] (.dat T44) fun x => g55_store_fault x.1 x.2.1
theorem g55_store_fault_l3_V : LValid 0 Tryd.prog (.loop g55_store_fault_l3_c) g55_store_fault_l3_L false := by
  have hb : ∀ s, codeR Tryd.prog g55_store_fault_C g55_store_fault_l3_c [] (g55_store_fault_l3_S.encE s) (g55_store_fault_l3_S.encB s) (kst g55_store_fault_l3_S [.ret, .exit 6]) = g55_store_fault_l3_step s := by
    intro s; kernel_rfl
  have hL : LV 0 Tryd.prog false (loopsOf g55_store_fault_l3_c) [] := by unfold LV; cases loopsOf g55_store_fault_l3_c <;> trivial
  exact loopT_valid (fuel := g55_store_fault_l3_fuel) mixed g55_store_fault_CV hL (by kernel_rfl) (by decide) rfl hb (fun s r h => h)
theorem g55_store_fault_l2_V : LValid 0 Tryd.prog (.loop g55_store_fault_l2_c) g55_store_fault_l2_L false := by
  have hb : ∀ s, codeR Tryd.prog g55_store_fault_C g55_store_fault_l2_c [g55_store_fault_l3_L] (g55_store_fault_l2_S.encE s) (g55_store_fault_l2_S.encB s) (kst g55_store_fault_l2_S [.ret, .exit 4]) = g55_store_fault_l2_step s := by
    intro s; kernel_rfl
  have hl : loopsOf g55_store_fault_l2_c = [.loop g55_store_fault_l3_c] := by kernel_rfl
  have hL : LV 0 Tryd.prog false (loopsOf g55_store_fault_l2_c) [g55_store_fault_l3_L] := by rw [hl]; exact ⟨g55_store_fault_l3_V, trivial⟩
  exact loopT_valid (fuel := g55_store_fault_l2_fuel) mixed g55_store_fault_CV hL (by kernel_rfl) (by decide) rfl hb (fun s r h => h)
theorem g55_store_fault_l1_V : LValid 0 Tryd.prog (.loop g55_store_fault_l1_c) g55_store_fault_l1_L false := by
  have hb : ∀ s, codeR Tryd.prog g55_store_fault_C g55_store_fault_l1_c [g55_store_fault_l2_L] (g55_store_fault_l1_S.encE s) (g55_store_fault_l1_S.encB s) (kst g55_store_fault_l1_S [.ret, .exit 2]) = g55_store_fault_l1_step s := by
    intro s; kernel_rfl
  have hl : loopsOf g55_store_fault_l1_c = [.loop g55_store_fault_l2_c] := by kernel_rfl
  have hL : LV 0 Tryd.prog false (loopsOf g55_store_fault_l1_c) [g55_store_fault_l2_L] := by rw [hl]; exact ⟨g55_store_fault_l2_V, trivial⟩
  exact loopT_valid (fuel := g55_store_fault_l1_fuel) mixed g55_store_fault_CV hL (by kernel_rfl) (by decide) rfl hb (fun s r h => h)
theorem g55_store_fault_l0_V : LValid 0 Tryd.prog (.loop g55_store_fault_l0_c) g55_store_fault_l0_L false := by
  have hb : ∀ s, codeR Tryd.prog g55_store_fault_C g55_store_fault_l0_c [g55_store_fault_l1_L] (g55_store_fault_l0_S.encE s) (g55_store_fault_l0_S.encB s) (kst g55_store_fault_l0_S [.ret, .exit 0]) = g55_store_fault_l0_step s := by
    intro s; kernel_rfl
  have hl : loopsOf g55_store_fault_l0_c = [.loop g55_store_fault_l1_c] := by kernel_rfl
  have hL : LV 0 Tryd.prog false (loopsOf g55_store_fault_l0_c) [g55_store_fault_l1_L] := by rw [hl]; exact ⟨g55_store_fault_l1_V, trivial⟩
  exact loopT_valid (fuel := g55_store_fault_l0_fuel) mixed g55_store_fault_CV hL (by kernel_rfl) (by decide) rfl hb (fun s r h => h)
theorem g55_store_fault_LV : LV 0 Tryd.prog false (loopsOf (bodyOf Tryd.f55)) [g55_store_fault_l0_L] := by
  have hl : loopsOf (bodyOf Tryd.f55) = [.loop g55_store_fault_l0_c] := by kernel_rfl
  rw [hl]; exact ⟨g55_store_fault_l0_V, trivial⟩
theorem g55_store_fault_ent : Ent Tryd.prog 55 := ⟨by decide, enters_of Tryd.func55 (by kernel_rfl) rfl⟩
theorem g55_store_fault_hev : ∀ x, fnR Tryd.prog g55_store_fault_C [g55_store_fault_l0_L] Tryd.f55 (bodyOf Tryd.f55) (encs [.dat T27, .dat (.int .i64)] x) ⟨[], [], 0⟩ (frzF (.dat T44)) = g55_store_fault x.1 x.2.1 := by
  intro x; kernel_rfl
theorem g55_store_fault_valid : g55_store_fault_E.Valid Tryd.prog :=
  pureE_valid (by kernel_rfl) (by kernel_rfl) g55_store_fault_ent (frz_lcall mixed Tryd.func55 rfl g55_store_fault_ent g55_store_fault_CV g55_store_fault_LV (by kernel_rfl) (by kernel_rfl) g55_store_fault_hev)

noncomputable def g24_store_Fault_C : CalT := tabC [g51_store_valid_E, g52_store_planned_E, g55_store_fault_E]
theorem g24_store_Fault_CV : CV Tryd.prog g24_store_Fault_C := tabC_valid (l := [g51_store_valid_E, g52_store_planned_E, g55_store_fault_E]) ⟨g51_store_valid_valid, g52_store_planned_valid, g55_store_fault_valid, trivial⟩
noncomputable def g24_store_Fault (a0 : E27) (a1 : Int) : Option (E44 × (Int × Unit)) :=
  (Option.bind (g51_store_valid a0) fun r1 =>
  (bif (!r1) then
    some ((false, (0, (0, (0, (0, ()))))), (2, ()))
    else
    (Option.bind (g52_store_planned a0 a1) fun r2 =>
      (bif (!r2) then
        some ((false, (0, (0, (0, (0, ()))))), (2, ()))
        else
        (Option.bind (g55_store_fault a0 a1) fun r3 =>
          some (r3, (0, ())))))))
noncomputable def g24_store_Fault_E : CEnt := pureE 24 [.dat T27, .dat (.int .i64)] (.tup (.cons (.dat T44) (.cons (.dat (.int .i64)) (.nil)))) fun x => g24_store_Fault x.1 x.2.1
theorem g24_store_Fault_LV : LV 0 Tryd.prog false (loopsOf (bodyOf Tryd.f24)) [] := by unfold LV; cases loopsOf (bodyOf Tryd.f24) <;> trivial
theorem g24_store_Fault_ent : Ent Tryd.prog 24 := ⟨by decide, enters_of Tryd.func24 (by kernel_rfl) rfl⟩
theorem g24_store_Fault_hev : ∀ x, fnR Tryd.prog g24_store_Fault_C [] Tryd.f24 (bodyOf Tryd.f24) (encs [.dat T27, .dat (.int .i64)] x) ⟨[], [], 0⟩ (frzF (.tup (.cons (.dat T44) (.cons (.dat (.int .i64)) (.nil))))) = g24_store_Fault x.1 x.2.1 := by
  intro x; kernel_rfl
theorem g24_store_Fault_valid : g24_store_Fault_E.Valid Tryd.prog :=
  pureE_valid (by kernel_rfl) (by kernel_rfl) g24_store_Fault_ent (frz_lcall mixed Tryd.func24 rfl g24_store_Fault_ent g24_store_Fault_CV g24_store_Fault_LV (by kernel_rfl) (by kernel_rfl) g24_store_Fault_hev)

noncomputable def g25_store_First_C : CalT := tabC [g51_store_valid_E, g52_store_planned_E, g54_store_trace_E]
theorem g25_store_First_CV : CV Tryd.prog g25_store_First_C := tabC_valid (l := [g51_store_valid_E, g52_store_planned_E, g54_store_trace_E]) ⟨g51_store_valid_valid, g52_store_planned_valid, g54_store_trace_valid, trivial⟩
noncomputable def g25_store_First_l0_c : Code := loopAt (bodyOf Tryd.f25) 0
noncomputable def g25_store_First_l1_c : Code := loopAt g25_store_First_l0_c 0
noncomputable def g25_store_First_l2_c : Code := loopAt g25_store_First_l1_c 0
noncomputable def g25_store_First_l3_c : Code := loopAt g25_store_First_l2_c 0
noncomputable def g25_store_First_l3_S : SPat := ⟨[.any, .dat (.int .i64), .fix (.bptr 0 []), .any, .any, .any, .any, .dat (.int .i64), .dat (.int .i64), .dat .bool, .dat (.int .i64), .any, .dat (.int .i64), .fix (.bptr 1 []), .any, .any, .any, .any, .any, .any, .any, .any, .any, .any, .any, .any, .dat (.int .i64), .dat (.int .i64), .any, .any, .any, .any, .dat (.int .i64), .dat (.int .i64), .any, .any, .any, .any, .any, .any, .any, .dat (.list (.arr 3 (.int .i64))), .dat (.int .i64), .dat (.int .i64), .any, .any, .any, .any, .dat (.int .i64), .any, .any, .any, .any, .any, .any, .any, .any, .any, .any, .any, .any, .any, .any, .any, .any, .any, .any, .any, .any, .any, .any, .any, .any, .any, .any, .any, .any, .any, .any, .any, .any, .any], [.dat T27, .dat (.arr 3 (.int .i64))], 0⟩
abbrev TY56 : Type := ((Int × (Int × (Int × (Bool × (Int × (Int × (Int × (Int × (Int × (Int × ((List (List Int)) × (Int × (Int × (Int × Unit)))))))))))))) × (E27 × ((List Int) × Unit)))
abbrev TY57 : Type := (Nat × ((Int × (Int × (Int × (Bool × (Int × (Int × (Int × (Int × (Int × (Int × ((List (List Int)) × (Int × (Int × (Int × Unit)))))))))))))) × (E27 × ((List Int) × Unit))))
noncomputable def g25_store_First_l3_step (s : TY56) : Option TY57 :=
  (bif (decide (s.1.2.2.2.2.2.2.2.2.2.2.2.2.2.1 < 3)) then
  (bif (decide (0 ≤ s.1.2.2.2.2.2.2.2.2.2.2.2.2.2.1) && decide (s.1.2.2.2.2.2.2.2.2.2.2.2.2.2.1 < (3 : Int))) then
    (bif ((List.getD s.2.2.1 (Int.toNat s.1.2.2.2.2.2.2.2.2.2.2.2.2.2.1) 0) == 0) then
      some (0, ((s.1.1, (s.1.2.1, (s.1.2.2.1, (s.1.2.2.2.1, (s.1.2.2.2.2.1, (s.1.2.2.2.2.2.1, (s.1.2.2.2.2.2.2.1, (s.1.2.2.2.2.2.2.2.1, (s.1.2.2.2.2.2.2.2.2.1, (s.1.2.2.2.2.2.2.2.2.2.1, (s.1.2.2.2.2.2.2.2.2.2.2.1, (s.1.2.2.2.2.2.2.2.2.2.2.2.1, (s.1.2.2.2.2.2.2.2.2.2.2.2.2.1, ((IntKind.wrap .i64 (s.1.2.2.2.2.2.2.2.2.2.2.2.2.2.1 + 1)), ())))))))))))))), (s.2.1, (s.2.2.1, ()))))
      else
      (bif (!s.1.2.2.2.1) then
        some (1, ((s.1.1, (s.1.2.2.2.2.2.1, (s.1.2.2.2.2.2.2.2.2.2.2.2.2.2.1, (true, (s.1.2.2.2.2.1, (s.1.2.2.2.2.2.1, (s.1.2.2.2.2.2.2.1, (s.1.2.2.2.2.2.2.2.1, (s.1.2.2.2.2.2.2.2.2.1, (s.1.2.2.2.2.2.2.2.2.2.1, (s.1.2.2.2.2.2.2.2.2.2.2.1, (s.1.2.2.2.2.2.2.2.2.2.2.2.1, (s.1.2.2.2.2.2.2.2.2.2.2.2.2.1, (s.1.2.2.2.2.2.2.2.2.2.2.2.2.2.1, ())))))))))))))), (s.2.1, (s.2.2.1, ()))))
        else
        (bif (decide (s.1.2.2.2.2.2.1 < s.1.2.1)) then
          some (1, ((s.1.1, (s.1.2.2.2.2.2.1, (s.1.2.2.2.2.2.2.2.2.2.2.2.2.2.1, (true, (s.1.2.2.2.2.1, (s.1.2.2.2.2.2.1, (s.1.2.2.2.2.2.2.1, (s.1.2.2.2.2.2.2.2.1, (s.1.2.2.2.2.2.2.2.2.1, (s.1.2.2.2.2.2.2.2.2.2.1, (s.1.2.2.2.2.2.2.2.2.2.2.1, (s.1.2.2.2.2.2.2.2.2.2.2.2.1, (s.1.2.2.2.2.2.2.2.2.2.2.2.2.1, (s.1.2.2.2.2.2.2.2.2.2.2.2.2.2.1, ())))))))))))))), (s.2.1, (s.2.2.1, ()))))
          else
          (bif (s.1.2.2.2.2.2.1 == s.1.2.1) then
            (bif (decide (s.1.2.2.2.2.2.2.2.2.2.2.2.2.2.1 < s.1.2.2.1)) then
              some (1, ((s.1.1, (s.1.2.2.2.2.2.1, (s.1.2.2.2.2.2.2.2.2.2.2.2.2.2.1, (true, (s.1.2.2.2.2.1, (s.1.2.2.2.2.2.1, (s.1.2.2.2.2.2.2.1, (s.1.2.2.2.2.2.2.2.1, (s.1.2.2.2.2.2.2.2.2.1, (s.1.2.2.2.2.2.2.2.2.2.1, (s.1.2.2.2.2.2.2.2.2.2.2.1, (s.1.2.2.2.2.2.2.2.2.2.2.2.1, (s.1.2.2.2.2.2.2.2.2.2.2.2.2.1, (s.1.2.2.2.2.2.2.2.2.2.2.2.2.2.1, ())))))))))))))), (s.2.1, (s.2.2.1, ()))))
              else
              some (1, ((s.1.1, (s.1.2.1, (s.1.2.2.1, (s.1.2.2.2.1, (s.1.2.2.2.2.1, (s.1.2.2.2.2.2.1, (s.1.2.2.2.2.2.2.1, (s.1.2.2.2.2.2.2.2.1, (s.1.2.2.2.2.2.2.2.2.1, (s.1.2.2.2.2.2.2.2.2.2.1, (s.1.2.2.2.2.2.2.2.2.2.2.1, (s.1.2.2.2.2.2.2.2.2.2.2.2.1, (s.1.2.2.2.2.2.2.2.2.2.2.2.2.1, (s.1.2.2.2.2.2.2.2.2.2.2.2.2.2.1, ())))))))))))))), (s.2.1, (s.2.2.1, ())))))
            else
            some (1, ((s.1.1, (s.1.2.1, (s.1.2.2.1, (s.1.2.2.2.1, (s.1.2.2.2.2.1, (s.1.2.2.2.2.2.1, (s.1.2.2.2.2.2.2.1, (s.1.2.2.2.2.2.2.2.1, (s.1.2.2.2.2.2.2.2.2.1, (s.1.2.2.2.2.2.2.2.2.2.1, (s.1.2.2.2.2.2.2.2.2.2.2.1, (s.1.2.2.2.2.2.2.2.2.2.2.2.1, (s.1.2.2.2.2.2.2.2.2.2.2.2.2.1, (s.1.2.2.2.2.2.2.2.2.2.2.2.2.2.1, ())))))))))))))), (s.2.1, (s.2.2.1, ()))))))))
    else
    none)
  else
  some (2, ((s.1.1, (s.1.2.1, (s.1.2.2.1, (s.1.2.2.2.1, (s.1.2.2.2.2.1, (s.1.2.2.2.2.2.1, (s.1.2.2.2.2.2.2.1, (s.1.2.2.2.2.2.2.2.1, (s.1.2.2.2.2.2.2.2.2.1, (s.1.2.2.2.2.2.2.2.2.2.1, (s.1.2.2.2.2.2.2.2.2.2.2.1, (s.1.2.2.2.2.2.2.2.2.2.2.2.1, (s.1.2.2.2.2.2.2.2.2.2.2.2.2.1, (s.1.2.2.2.2.2.2.2.2.2.2.2.2.2.1, ())))))))))))))), (s.2.1, (s.2.2.1, ())))))
noncomputable def g25_store_First_l3_fuel (s : TY56) : Nat := Int.toNat (3 - s.1.2.2.2.2.2.2.2.2.2.2.2.2.2.1) + 1
noncomputable def g25_store_First_l3_run (s : TY56) : Option TY57 := iter g25_store_First_l3_step (g25_store_First_l3_fuel s) s
noncomputable def g25_store_First_l3_L : LoopT := loopT g25_store_First_l3_S [.exit 4, .exit 6] g25_store_First_l3_run
noncomputable def g25_store_First_l2_S : SPat := ⟨[.any, .dat (.int .i64), .fix (.bptr 0 []), .any, .any, .any, .any, .dat (.int .i64), .dat (.int .i64), .dat .bool, .dat (.int .i64), .any, .any, .any, .any, .any, .any, .any, .any, .any, .any, .any, .any, .any, .any, .any, .dat (.int .i64), .dat (.int .i64), .any, .any, .any, .any, .dat (.int .i64), .dat (.int .i64), .any, .any, .any, .any, .any, .any, .any, .dat (.list (.arr 3 (.int .i64))), .dat (.int .i64), .dat (.int .i64), .any, .any, .any, .any, .any, .any, .any, .any, .any, .any, .any, .any, .any, .any, .any, .any, .any, .any, .any, .any, .any, .any, .any, .any, .any, .any, .any, .any, .any, .any, .any, .any, .any, .any, .any, .any, .any, .any], [.dat T27], 0⟩
abbrev TY58 : Type := ((Int × (Int × (Int × (Bool × (Int × (Int × (Int × (Int × (Int × ((List (List Int)) × (Int × (Int × Unit)))))))))))) × (E27 × Unit))
abbrev TY59 : Type := (Nat × ((Int × (Int × (Int × (Bool × (Int × (Int × (Int × (Int × (Int × ((List (List Int)) × (Int × (Int × Unit)))))))))))) × (E27 × Unit)))
noncomputable def g25_store_First_l2_step (s : TY58) : Option TY59 :=
  (bif (decide (s.1.2.2.2.2.2.2.2.2.2.2.2.1 < s.1.2.2.2.2.2.2.2.2.2.2.1)) then
  (bif (decide (0 ≤ s.1.2.2.2.2.2.2.2.2.2.2.2.1) && decide (s.1.2.2.2.2.2.2.2.2.2.2.2.1 < (List.length s.1.2.2.2.2.2.2.2.2.2.1 : Int))) then
    (Option.bind (g25_store_First_l3_run ((s.1.1, (s.1.2.1, (s.1.2.2.1, (s.1.2.2.2.1, (s.1.2.2.2.2.1, (s.1.2.2.2.2.2.2.2.2.2.2.2.1, (s.1.2.2.2.2.2.1, (s.1.2.2.2.2.2.2.1, (s.1.2.2.2.2.2.2.2.1, (s.1.2.2.2.2.2.2.2.2.1, (s.1.2.2.2.2.2.2.2.2.2.1, (s.1.2.2.2.2.2.2.2.2.2.2.1, (s.1.2.2.2.2.2.2.2.2.2.2.2.1, (0, ())))))))))))))), (s.2.1, ((List.getD s.1.2.2.2.2.2.2.2.2.2.1 (Int.toNat s.1.2.2.2.2.2.2.2.2.2.2.2.1) (List.replicate 3 0)), ())))) fun q4 =>
      (natK q4.1
        (some (1, ((q4.2.1.1, (q4.2.1.2.1, (q4.2.1.2.2.1, (q4.2.1.2.2.2.1, (q4.2.1.2.2.2.2.1, (q4.2.1.2.2.2.2.2.2.1, (q4.2.1.2.2.2.2.2.2.2.1, (q4.2.1.2.2.2.2.2.2.2.2.1, (q4.2.1.2.2.2.2.2.2.2.2.2.1, (q4.2.1.2.2.2.2.2.2.2.2.2.2.1, (q4.2.1.2.2.2.2.2.2.2.2.2.2.2.1, (q4.2.1.2.2.2.2.2.2.2.2.2.2.2.2.1, ())))))))))))), (q4.2.2.1, ()))))
        (fun _ => some (0, ((q4.2.1.1, (q4.2.1.2.1, (q4.2.1.2.2.1, (q4.2.1.2.2.2.1, (q4.2.1.2.2.2.2.1, (q4.2.1.2.2.2.2.2.2.1, (q4.2.1.2.2.2.2.2.2.2.1, (q4.2.1.2.2.2.2.2.2.2.2.1, (q4.2.1.2.2.2.2.2.2.2.2.2.1, (q4.2.1.2.2.2.2.2.2.2.2.2.2.1, (q4.2.1.2.2.2.2.2.2.2.2.2.2.2.1, ((IntKind.wrap .i64 (q4.2.1.2.2.2.2.2.2.2.2.2.2.2.2.1 + 1)), ())))))))))))), (q4.2.2.1, ()))))))
    else
    none)
  else
  some (1, ((s.1.1, (s.1.2.1, (s.1.2.2.1, (s.1.2.2.2.1, (s.1.2.2.2.2.1, (s.1.2.2.2.2.2.1, (s.1.2.2.2.2.2.2.1, (s.1.2.2.2.2.2.2.2.1, (s.1.2.2.2.2.2.2.2.2.1, (s.1.2.2.2.2.2.2.2.2.2.1, (s.1.2.2.2.2.2.2.2.2.2.2.1, (s.1.2.2.2.2.2.2.2.2.2.2.2.1, ())))))))))))), (s.2.1, ()))))
noncomputable def g25_store_First_l2_fuel (s : TY58) : Nat := Int.toNat (s.1.2.2.2.2.2.2.2.2.2.2.1 - s.1.2.2.2.2.2.2.2.2.2.2.2.1) + 1
noncomputable def g25_store_First_l2_run (s : TY58) : Option TY59 := iter g25_store_First_l2_step (g25_store_First_l2_fuel s) s
noncomputable def g25_store_First_l2_L : LoopT := loopT g25_store_First_l2_S [.exit 4] g25_store_First_l2_run
noncomputable def g25_store_First_l1_S : SPat := ⟨[.any, .dat (.int .i64), .fix (.bptr 0 []), .any, .any, .any, .any, .dat (.int .i64), .dat (.int .i64), .dat .bool, .dat (.int .i64), .any, .any, .any, .any, .any, .any, .any, .any, .any, .any, .any, .any, .any, .any, .any, .dat (.int .i64), .dat (.int .i64), .any, .any, .any, .any, .dat (.int .i64), .dat (.int .i64), .any, .any, .any, .any, .any, .any, .any, .any, .any, .any, .any, .any, .any, .any, .any, .any, .any, .any, .any, .any, .any, .any, .any, .any, .any, .any, .any, .any, .any, .any, .any, .any, .any, .any, .any, .any, .any, .any, .any, .any, .any, .any, .any, .any, .any, .any, .any, .any], [.dat T27], 0⟩
abbrev TY60 : Type := ((Int × (Int × (Int × (Bool × (Int × (Int × (Int × (Int × (Int × Unit))))))))) × (E27 × Unit))
abbrev TY61 : Type := (Nat × ((Int × (Int × (Int × (Bool × (Int × (Int × (Int × (Int × (Int × Unit))))))))) × (E27 × Unit)))
noncomputable def g25_store_First_l1_step (s : TY60) : Option TY61 :=
  (bif (decide (s.1.2.2.2.2.2.2.2.2.1 < s.1.2.2.2.2.2.2.2.1)) then
  (Option.bind (g54_store_trace s.2.1 s.1.1 s.1.2.2.2.2.1 s.1.2.2.2.2.2.2.2.2.1) fun r3 =>
    (Option.bind (g25_store_First_l2_run ((s.1.1, (s.1.2.1, (s.1.2.2.1, (s.1.2.2.2.1, (s.1.2.2.2.2.1, (s.1.2.2.2.2.2.1, (s.1.2.2.2.2.2.2.1, (s.1.2.2.2.2.2.2.2.1, (s.1.2.2.2.2.2.2.2.2.1, (r3.2.2.1, ((List.length r3.2.2.1 : Int), (0, ())))))))))))), (s.2.1, ()))) fun q5 =>
      some (0, ((q5.2.1.1, (q5.2.1.2.1, (q5.2.1.2.2.1, (q5.2.1.2.2.2.1, (q5.2.1.2.2.2.2.1, (q5.2.1.2.2.2.2.2.1, (q5.2.1.2.2.2.2.2.2.1, (q5.2.1.2.2.2.2.2.2.2.1, ((IntKind.wrap .i64 (q5.2.1.2.2.2.2.2.2.2.2.1 + 1)), ()))))))))), (q5.2.2.1, ())))))
  else
  some (1, ((s.1.1, (s.1.2.1, (s.1.2.2.1, (s.1.2.2.2.1, (s.1.2.2.2.2.1, (s.1.2.2.2.2.2.1, (s.1.2.2.2.2.2.2.1, (s.1.2.2.2.2.2.2.2.1, (s.1.2.2.2.2.2.2.2.2.1, ()))))))))), (s.2.1, ()))))
noncomputable def g25_store_First_l1_fuel (s : TY60) : Nat := Int.toNat (s.1.2.2.2.2.2.2.2.1 - s.1.2.2.2.2.2.2.2.2.1) + 1
noncomputable def g25_store_First_l1_run (s : TY60) : Option TY61 := iter g25_store_First_l1_step (g25_store_First_l1_fuel s) s
noncomputable def g25_store_First_l1_L : LoopT := loopT g25_store_First_l1_S [.exit 2] g25_store_First_l1_run
noncomputable def g25_store_First_l0_S : SPat := ⟨[.any, .dat (.int .i64), .fix (.bptr 0 []), .any, .any, .any, .any, .dat (.int .i64), .dat (.int .i64), .dat .bool, .any, .any, .any, .any, .any, .any, .any, .any, .any, .any, .any, .any, .any, .any, .any, .any, .dat (.int .i64), .dat (.int .i64), .any, .any, .any, .any, .any, .any, .any, .any, .any, .any, .any, .any, .any, .any, .any, .any, .any, .any, .any, .any, .any, .any, .any, .any, .any, .any, .any, .any, .any, .any, .any, .any, .any, .any, .any, .any, .any, .any, .any, .any, .any, .any, .any, .any, .any, .any, .any, .any, .any, .any, .any, .any, .any, .any], [.dat T27], 0⟩
abbrev TY62 : Type := ((Int × (Int × (Int × (Bool × (Int × (Int × Unit)))))) × (E27 × Unit))
abbrev TY63 : Type := (Nat × ((Int × (Int × (Int × (Bool × (Int × (Int × Unit)))))) × (E27 × Unit)))
noncomputable def g25_store_First_l0_step (s : TY62) : Option TY63 :=
  (bif (decide (s.1.2.2.2.2.2.1 < s.1.2.2.2.2.1)) then
  (Option.bind (g25_store_First_l1_run ((s.1.1, (s.1.2.1, (s.1.2.2.1, (s.1.2.2.2.1, (s.1.2.2.2.2.2.1, (s.1.2.2.2.2.1, (s.1.2.2.2.2.2.1, ((List.length s.2.1.2.2.2.2.2.2.2.1 : Int), (0, ()))))))))), (s.2.1, ()))) fun q6 =>
    some (0, ((q6.2.1.1, (q6.2.1.2.1, (q6.2.1.2.2.1, (q6.2.1.2.2.2.1, (q6.2.1.2.2.2.2.2.1, ((IntKind.wrap .i64 (q6.2.1.2.2.2.2.2.2.1 + 1)), ())))))), (q6.2.2.1, ()))))
  else
  some (1, ((s.1.1, (s.1.2.1, (s.1.2.2.1, (s.1.2.2.2.1, (s.1.2.2.2.2.1, (s.1.2.2.2.2.2.1, ())))))), (s.2.1, ()))))
noncomputable def g25_store_First_l0_fuel (s : TY62) : Nat := Int.toNat (s.1.2.2.2.2.1 - s.1.2.2.2.2.2.1) + 1
noncomputable def g25_store_First_l0_run (s : TY62) : Option TY63 := iter g25_store_First_l0_step (g25_store_First_l0_fuel s) s
noncomputable def g25_store_First_l0_L : LoopT := loopT g25_store_First_l0_S [.exit 0] g25_store_First_l0_run
noncomputable def g25_store_First (a0 : E27) (a1 : Int) : Option (Int × (Int × (Int × Unit))) :=
  (Option.bind (g51_store_valid a0) fun r1 =>
  (bif (!r1) then
    some (0, (0, (2, ())))
    else
    (Option.bind (g52_store_planned a0 a1) fun r2 =>
      (bif (!r2) then
        some (0, (0, (2, ())))
        else
        (Option.bind (g25_store_First_l0_run ((a1, (0, (0, (false, ((List.length a0.2.2.2.2.2.2.1 : Int), (0, ())))))), (a0, ()))) fun q7 =>
          (bif (!q7.2.1.2.2.2.1) then
            some (0, (0, (5, ())))
            else
            some (q7.2.1.2.1, (q7.2.1.2.2.1, (0, ())))))))))
noncomputable def g25_store_First_E : CEnt := pureE 25 [.dat T27, .dat (.int .i64)] (.tup (.cons (.dat (.int .i64)) (.cons (.dat (.int .i64)) (.cons (.dat (.int .i64)) (.nil))))) fun x => g25_store_First x.1 x.2.1
theorem g25_store_First_l3_V : LValid 0 Tryd.prog (.loop g25_store_First_l3_c) g25_store_First_l3_L false := by
  have hb : ∀ s, codeR Tryd.prog g25_store_First_C g25_store_First_l3_c [] (g25_store_First_l3_S.encE s) (g25_store_First_l3_S.encB s) (kst g25_store_First_l3_S [.exit 4, .exit 6]) = g25_store_First_l3_step s := by
    intro s; kernel_rfl
  have hL : LV 0 Tryd.prog false (loopsOf g25_store_First_l3_c) [] := by unfold LV; cases loopsOf g25_store_First_l3_c <;> trivial
  exact loopT_valid (fuel := g25_store_First_l3_fuel) mixed g25_store_First_CV hL (by kernel_rfl) (by decide) rfl hb (fun s r h => h)
theorem g25_store_First_l2_V : LValid 0 Tryd.prog (.loop g25_store_First_l2_c) g25_store_First_l2_L false := by
  have hb : ∀ s, codeR Tryd.prog g25_store_First_C g25_store_First_l2_c [g25_store_First_l3_L] (g25_store_First_l2_S.encE s) (g25_store_First_l2_S.encB s) (kst g25_store_First_l2_S [.exit 4]) = g25_store_First_l2_step s := by
    intro s; kernel_rfl
  have hl : loopsOf g25_store_First_l2_c = [.loop g25_store_First_l3_c] := by kernel_rfl
  have hL : LV 0 Tryd.prog false (loopsOf g25_store_First_l2_c) [g25_store_First_l3_L] := by rw [hl]; exact ⟨g25_store_First_l3_V, trivial⟩
  exact loopT_valid (fuel := g25_store_First_l2_fuel) mixed g25_store_First_CV hL (by kernel_rfl) (by decide) rfl hb (fun s r h => h)
theorem g25_store_First_l1_V : LValid 0 Tryd.prog (.loop g25_store_First_l1_c) g25_store_First_l1_L false := by
  have hb : ∀ s, codeR Tryd.prog g25_store_First_C g25_store_First_l1_c [g25_store_First_l2_L] (g25_store_First_l1_S.encE s) (g25_store_First_l1_S.encB s) (kst g25_store_First_l1_S [.exit 2]) = g25_store_First_l1_step s := by
    intro s; kernel_rfl
  have hl : loopsOf g25_store_First_l1_c = [.loop g25_store_First_l2_c] := by kernel_rfl
  have hL : LV 0 Tryd.prog false (loopsOf g25_store_First_l1_c) [g25_store_First_l2_L] := by rw [hl]; exact ⟨g25_store_First_l2_V, trivial⟩
  exact loopT_valid (fuel := g25_store_First_l1_fuel) mixed g25_store_First_CV hL (by kernel_rfl) (by decide) rfl hb (fun s r h => h)
theorem g25_store_First_l0_V : LValid 0 Tryd.prog (.loop g25_store_First_l0_c) g25_store_First_l0_L false := by
  have hb : ∀ s, codeR Tryd.prog g25_store_First_C g25_store_First_l0_c [g25_store_First_l1_L] (g25_store_First_l0_S.encE s) (g25_store_First_l0_S.encB s) (kst g25_store_First_l0_S [.exit 0]) = g25_store_First_l0_step s := by
    intro s; kernel_rfl
  have hl : loopsOf g25_store_First_l0_c = [.loop g25_store_First_l1_c] := by kernel_rfl
  have hL : LV 0 Tryd.prog false (loopsOf g25_store_First_l0_c) [g25_store_First_l1_L] := by rw [hl]; exact ⟨g25_store_First_l1_V, trivial⟩
  exact loopT_valid (fuel := g25_store_First_l0_fuel) mixed g25_store_First_CV hL (by kernel_rfl) (by decide) rfl hb (fun s r h => h)
theorem g25_store_First_LV : LV 0 Tryd.prog false (loopsOf (bodyOf Tryd.f25)) [g25_store_First_l0_L] := by
  have hl : loopsOf (bodyOf Tryd.f25) = [.loop g25_store_First_l0_c] := by kernel_rfl
  rw [hl]; exact ⟨g25_store_First_l0_V, trivial⟩
theorem g25_store_First_ent : Ent Tryd.prog 25 := ⟨by decide, enters_of Tryd.func25 (by kernel_rfl) rfl⟩
theorem g25_store_First_hev : ∀ x, fnR Tryd.prog g25_store_First_C [g25_store_First_l0_L] Tryd.f25 (bodyOf Tryd.f25) (encs [.dat T27, .dat (.int .i64)] x) ⟨[], [], 0⟩ (frzF (.tup (.cons (.dat (.int .i64)) (.cons (.dat (.int .i64)) (.cons (.dat (.int .i64)) (.nil)))))) = g25_store_First x.1 x.2.1 := by
  intro x; kernel_rfl
theorem g25_store_First_valid : g25_store_First_E.Valid Tryd.prog :=
  pureE_valid (by kernel_rfl) (by kernel_rfl) g25_store_First_ent (frz_lcall mixed Tryd.func25 rfl g25_store_First_ent g25_store_First_CV g25_store_First_LV (by kernel_rfl) (by kernel_rfl) g25_store_First_hev)

noncomputable def g28_r0_C : CalT := tabC []
theorem g28_r0_CV : CV Tryd.prog g28_r0_C := tabC_valid (l := []) trivial
abbrev UT50 : Type := (Unit × (Unit × (Unit × (Unit × (Unit × (Unit × (Unit × (Unit × (Unit × (Unit × (Unit × (Unit × (Unit × (Unit × (Unit × (Unit × (Unit × (Unit × (Unit × (Unit × (Unit × (Unit × (Unit × (Unit × (Unit × (Unit × (Unit × (Unit × (Unit × (Unit × (Unit × (Unit × (Unit × (Unit × (Unit × (Unit × (Unit × (Unit × (Unit × (Unit × (Unit × (Unit × (Unit × (Unit × (Unit × (Unit × (Unit × (Unit × (Unit × (Unit × Unit))))))))))))))))))))))))))))))))))))))))))))))))))
abbrev UC50 : (Unit × (Unit × (Unit × (Unit × (Unit × (Unit × (Unit × (Unit × (Unit × (Unit × (Unit × (Unit × (Unit × (Unit × (Unit × (Unit × (Unit × (Unit × (Unit × (Unit × (Unit × (Unit × (Unit × (Unit × (Unit × (Unit × (Unit × (Unit × (Unit × (Unit × (Unit × (Unit × (Unit × (Unit × (Unit × (Unit × (Unit × (Unit × (Unit × (Unit × (Unit × (Unit × (Unit × (Unit × (Unit × (Unit × (Unit × (Unit × (Unit × (Unit × Unit)))))))))))))))))))))))))))))))))))))))))))))))))) := ((), ((), ((), ((), ((), ((), ((), ((), ((), ((), ((), ((), ((), ((), ((), ((), ((), ((), ((), ((), ((), ((), ((), ((), ((), ((), ((), ((), ((), ((), ((), ((), ((), ((), ((), ((), ((), ((), ((), ((), ((), ((), ((), ((), ((), ((), ((), ((), ((), ((), ()))))))))))))))))))))))))))))))))))))))))))))))))))
noncomputable def g28_r0 (a0 : Int) (b1 : (Nat × UT50)) (b2 : E27) (b3 : Int) (b4 : (List (Int × Int))) : Option (Bool × ((Nat × UT50) × (E27 × (Int × ((List (Int × Int)) × Unit))))) :=
  (natK b1.1
  ((bif (decide (0 ≤ a0) && decide (a0 < (List.length b2.2.2.2.2.2.1 : Int))) then
    some (true, ((0, UC50), (b2, (b3, ((putD (.int .i64) b3 (IntKind.wrap .i64 ((Option.getD (findD (.int .i64) b3 b4) 0) + (List.getD b2.2.2.2.2.2.1 (Int.toNat a0) (0, ((List.replicate 3 0), (0, ())))).2.2.1)) b4), ())))))
    else
    none))
  (fun _ => none))
abbrev AN43 : PTy := (.cons (.any) (.cons (.any) (.cons (.any) (.cons (.any) (.cons (.any) (.cons (.any) (.cons (.any) (.cons (.any) (.cons (.any) (.cons (.any) (.cons (.any) (.cons (.any) (.cons (.any) (.cons (.any) (.cons (.any) (.cons (.any) (.cons (.any) (.cons (.any) (.cons (.any) (.cons (.any) (.cons (.any) (.cons (.any) (.cons (.any) (.cons (.any) (.cons (.any) (.cons (.any) (.cons (.any) (.cons (.any) (.cons (.any) (.cons (.any) (.cons (.any) (.cons (.any) (.cons (.any) (.cons (.any) (.cons (.any) (.cons (.any) (.cons (.any) (.cons (.any) (.cons (.any) (.cons (.any) (.cons (.any) (.cons (.any) (.cons (.any) (.nil))))))))))))))))))))))))))))))))))))))))))))
abbrev g28_r0_CS : CSpec := ⟨[.fix (.yref 0), .dat (.int .i64)], [.lp 28 0 (.cons (.any) (.cons (.fix (.bptr 1 [])) (.cons (.any) (.cons (.any) (.cons (.any) (.cons (.fix (.bptr 2 [])) (.cons (.fix (.bptr 3 [])) AN43))))))), .dat T27, .fix (.mref 4), .dat (.int .i64), .map (.int .i64) (.int .i64)], 0, [.lp 28 0 (.cons (.any) (.cons (.fix (.bptr 1 [])) (.cons (.any) (.cons (.any) (.cons (.any) (.cons (.fix (.bptr 2 [])) (.cons (.fix (.bptr 3 [])) AN43))))))), .dat T27, .fix (.mref 4), .dat (.int .i64), .map (.int .i64) (.int .i64)], 0, .dat .bool⟩
noncomputable def g28_r0_E : CEnt := boxE YLD g28_r0_CS fun x => g28_r0 x.1.1 x.2.1 x.2.2.1 x.2.2.2.1 x.2.2.2.2.1
theorem g28_r0_LV : LV 5 Tryd.prog true (loopsOf (rfBody (lcode 28 0))) [] := by unfold LV; cases loopsOf (rfBody (lcode 28 0)) <;> trivial
theorem g28_r0_hev : ∀ x : g28_r0_CS.In, roundR Tryd.prog g28_r0_C [] 28 0 (encs g28_r0_CS.A x.1) ⟨encs g28_r0_CS.I x.2, [], g28_r0_CS.nt⟩ (finK g28_r0_CS) = g28_r0 x.1.1 x.2.1 x.2.2.1 x.2.2.2.1 x.2.2.2.2.1 := by
  intro x; kernel_rfl
theorem g28_r0_valid : g28_r0_E.Valid Tryd.prog :=
  boxE_valid (S := g28_r0_CS) (by kernel_rfl) (.inl rfl) (rd_lcall' (S := g28_r0_CS) mixed g28_r0_CV (by kernel_rfl) g28_r0_LV ⟨_, rfl⟩ (by decide) (by kernel_rfl) (by kernel_rfl) g28_r0_hev)

noncomputable def g88_store_ships_1_v2_C : CalT := tabC [g28_r0_E]
theorem g88_store_ships_1_v2_CV : CV Tryd.prog g88_store_ships_1_v2_C := tabC_valid (l := [g28_r0_E]) ⟨g28_r0_valid, trivial⟩
noncomputable def g88_store_ships_1_v2_l0_c : Code := loopAt (bodyOf Tryd.f88) 0
abbrev PA64 : PTy := (.cons (.any) (.cons (.fix (.bptr 2 [])) (.cons (.any) (.cons (.any) (.cons (.any) (.cons (.fix (.bptr 3 [])) (.cons (.fix (.bptr 4 [])) AN43)))))))
noncomputable def g88_store_ships_1_v2_l0_S : SPat := ⟨[.fix (.yref 0), .fix (.bptr 1 []), .any, .any, .dat (.int .i64), .any, .any, .any, .any, .any, .any, .any, .any, .any, .any, .any, .any, .any, .any], [.lp 28 0 PA64, .dat (.int .i64), .dat T27, .fix (.mref 5), .dat (.int .i64), .map (.int .i64) (.int .i64)], 0⟩
abbrev TY65 : Type := ((Int × Unit) × ((Nat × UT50) × (Int × (E27 × (Int × ((List (Int × Int)) × Unit))))))
abbrev TY66 : Type := (Nat × ((Int × Unit) × ((Nat × UT50) × (Int × (E27 × (Int × ((List (Int × Int)) × Unit)))))))
noncomputable def g88_store_ships_1_v2_l0_step (s : TY65) : Option TY66 :=
  (bif (decide (s.1.1 < 6)) then
  (bif (!decide (s.1.1 < 0)) then
    (bif ((IntKind.wrap .i64 ((BitVec.toNat ((BitVec.ofInt (IntKind.bits .i64) (Int.fdiv s.2.2.1 (2 ^ (min (Int.toNat s.1.1) (IntKind.bits .i64))))) &&& (BitVec.ofInt (IntKind.bits .i64) 1)) : Nat) : Int)) == 1) then
      (Option.bind (g28_r0 s.1.1 (s.2.1.1, UC50) s.2.2.2.1 s.2.2.2.2.1 s.2.2.2.2.2.1) fun r1 =>
        (bif (!r1.1) then
          some (1, ((s.1.1, ()), ((r1.2.1.1, UC50), (s.2.2.1, (r1.2.2.1, (r1.2.2.2.1, (r1.2.2.2.2.1, ())))))))
          else
          some (0, (((IntKind.wrap .i64 (s.1.1 + 1)), ()), ((r1.2.1.1, UC50), (s.2.2.1, (r1.2.2.1, (r1.2.2.2.1, (r1.2.2.2.2.1, ())))))))))
      else
      some (0, (((IntKind.wrap .i64 (s.1.1 + 1)), ()), ((s.2.1.1, UC50), (s.2.2.1, (s.2.2.2.1, (s.2.2.2.2.1, (s.2.2.2.2.2.1, ()))))))))
    else
    none)
  else
  some (2, ((s.1.1, ()), ((s.2.1.1, UC50), (s.2.2.1, (s.2.2.2.1, (s.2.2.2.2.1, (s.2.2.2.2.2.1, ()))))))))
noncomputable def g88_store_ships_1_v2_l0_fuel (s : TY65) : Nat := Int.toNat (6 - s.1.1) + 1
noncomputable def g88_store_ships_1_v2_l0_run (s : TY65) : Option TY66 := iter g88_store_ships_1_v2_l0_step (g88_store_ships_1_v2_l0_fuel s) s
noncomputable def g88_store_ships_1_v2_l0_L : LoopT := loopT g88_store_ships_1_v2_l0_S [.ret, .exit 0] g88_store_ships_1_v2_l0_run
abbrev TY67 : Type := (Unit × ((Nat × UT50) × (Int × (E27 × (Int × ((List (Int × Int)) × Unit))))))
noncomputable def g88_store_ships_1_v2 (b0 : (Nat × UT50)) (b1 : Int) (b2 : E27) (b3 : Int) (b4 : (List (Int × Int))) : Option TY67 :=
  (Option.bind (g88_store_ships_1_v2_l0_run ((0, ()), ((b0.1, UC50), (b1, (b2, (b3, (b4, ()))))))) fun q2 =>
  (natK q2.1
    (some ((), ((q2.2.2.1.1, UC50), (q2.2.2.2.1, (q2.2.2.2.2.1, (q2.2.2.2.2.2.1, (q2.2.2.2.2.2.2.1, ())))))))
    (fun _ => some ((), ((q2.2.2.1.1, UC50), (q2.2.2.2.1, (q2.2.2.2.2.1, (q2.2.2.2.2.2.1, (q2.2.2.2.2.2.2.1, ())))))))))
abbrev g88_store_ships_1_v2_CS : CSpec := ⟨[.fix (.yref 0), .fix (.bptr 1 [])], [.lp 28 0 (.cons (.any) (.cons (.fix (.bptr 2 [])) (.cons (.any) (.cons (.any) (.cons (.any) (.cons (.fix (.bptr 3 [])) (.cons (.fix (.bptr 4 [])) AN43))))))), .dat (.int .i64), .dat T27, .fix (.mref 5), .dat (.int .i64), .map (.int .i64) (.int .i64)], 0, [.lp 28 0 (.cons (.any) (.cons (.fix (.bptr 2 [])) (.cons (.any) (.cons (.any) (.cons (.any) (.cons (.fix (.bptr 3 [])) (.cons (.fix (.bptr 4 [])) AN43))))))), .dat (.int .i64), .dat T27, .fix (.mref 5), .dat (.int .i64), .map (.int .i64) (.int .i64)], 0, .tup (.nil)⟩
noncomputable def g88_store_ships_1_v2_E : CEnt := boxE 88 g88_store_ships_1_v2_CS fun x => g88_store_ships_1_v2 x.2.1 x.2.2.1 x.2.2.2.1 x.2.2.2.2.1 x.2.2.2.2.2.1
theorem g88_store_ships_1_v2_l0_V : LValid 6 Tryd.prog (.loop g88_store_ships_1_v2_l0_c) g88_store_ships_1_v2_l0_L false := by
  have hb : ∀ s, codeR Tryd.prog g88_store_ships_1_v2_C g88_store_ships_1_v2_l0_c [] (g88_store_ships_1_v2_l0_S.encE s) (g88_store_ships_1_v2_l0_S.encB s) (kst g88_store_ships_1_v2_l0_S [.ret, .exit 0]) = g88_store_ships_1_v2_l0_step s := by
    intro s; kernel_rfl
  have hL : LV 6 Tryd.prog false (loopsOf g88_store_ships_1_v2_l0_c) [] := by unfold LV; cases loopsOf g88_store_ships_1_v2_l0_c <;> trivial
  exact loopT_valid (fuel := g88_store_ships_1_v2_l0_fuel) mixed g88_store_ships_1_v2_CV hL (by kernel_rfl) (by decide) rfl hb (fun s r h => h)
theorem g88_store_ships_1_v2_LV : LV 6 Tryd.prog false (loopsOf (bodyOf Tryd.f88)) [g88_store_ships_1_v2_l0_L] := by
  have hl : loopsOf (bodyOf Tryd.f88) = [.loop g88_store_ships_1_v2_l0_c] := by kernel_rfl
  rw [hl]; exact ⟨g88_store_ships_1_v2_l0_V, trivial⟩
theorem g88_store_ships_1_v2_ent : Ent Tryd.prog 88 := ⟨by decide, enters_of Tryd.func88 (by kernel_rfl) rfl⟩
theorem g88_store_ships_1_v2_hev : ∀ x : g88_store_ships_1_v2_CS.In, fnR Tryd.prog g88_store_ships_1_v2_C [g88_store_ships_1_v2_l0_L] Tryd.f88 (bodyOf Tryd.f88) (encs g88_store_ships_1_v2_CS.A x.1) ⟨encs g88_store_ships_1_v2_CS.I x.2, [], g88_store_ships_1_v2_CS.nt⟩ (finK g88_store_ships_1_v2_CS) = g88_store_ships_1_v2 x.2.1 x.2.2.1 x.2.2.2.1 x.2.2.2.2.1 x.2.2.2.2.2.1 := by
  intro x; kernel_rfl
theorem g88_store_ships_1_v2_valid : g88_store_ships_1_v2_E.Valid Tryd.prog :=
  boxE_valid (S := g88_store_ships_1_v2_CS) (by kernel_rfl) (.inr g88_store_ships_1_v2_ent) (fn_lcall (S := g88_store_ships_1_v2_CS) mixed Tryd.func88 rfl g88_store_ships_1_v2_ent g88_store_ships_1_v2_CV g88_store_ships_1_v2_LV (by kernel_rfl) (by kernel_rfl) g88_store_ships_1_v2_hev)

noncomputable def g59_store_Best_1_C : CalT := tabC [g55_store_fault_E]
theorem g59_store_Best_1_CV : CV Tryd.prog g59_store_Best_1_C := tabC_valid (l := [g55_store_fault_E]) ⟨g55_store_fault_valid, trivial⟩
noncomputable def g59_store_Best_1 (a0 : Int) (b1 : E27) (b2 : (List (Int × Int))) : Option ((Int × (Bool × Unit)) × (E27 × ((List (Int × Int)) × Unit))) :=
  (Option.bind (g55_store_fault b1 a0) fun r1 =>
  some (((Option.getD (findD (.int .i64) a0 b2) 0), ((!r1.1), ())), (b1, (b2, ()))))
abbrev g59_store_Best_1_CS : CSpec := ⟨[.dat (.int .i64), .fix (.bptr 0 []), .fix (.bptr 1 [])], [.fix (.mref 2), .dat T27, .map (.int .i64) (.int .i64)], 0, [.fix (.mref 2), .dat T27, .map (.int .i64) (.int .i64)], 0, .tup (.cons (.dat (.int .i64)) (.cons (.dat .bool) (.nil)))⟩
noncomputable def g59_store_Best_1_E : CEnt := boxE 59 g59_store_Best_1_CS fun x => g59_store_Best_1 x.1.1 x.2.1 x.2.2.1
theorem g59_store_Best_1_LV : LV 3 Tryd.prog false (loopsOf (bodyOf Tryd.f59)) [] := by unfold LV; cases loopsOf (bodyOf Tryd.f59) <;> trivial
theorem g59_store_Best_1_ent : Ent Tryd.prog 59 := ⟨by decide, enters_of Tryd.func59 (by kernel_rfl) rfl⟩
theorem g59_store_Best_1_hev : ∀ x : g59_store_Best_1_CS.In, fnR Tryd.prog g59_store_Best_1_C [] Tryd.f59 (bodyOf Tryd.f59) (encs g59_store_Best_1_CS.A x.1) ⟨encs g59_store_Best_1_CS.I x.2, [], g59_store_Best_1_CS.nt⟩ (finK g59_store_Best_1_CS) = g59_store_Best_1 x.1.1 x.2.1 x.2.2.1 := by
  intro x; kernel_rfl
theorem g59_store_Best_1_valid : g59_store_Best_1_E.Valid Tryd.prog :=
  boxE_valid (S := g59_store_Best_1_CS) (by kernel_rfl) (.inr g59_store_Best_1_ent) (fn_lcall (S := g59_store_Best_1_CS) mixed Tryd.func59 rfl g59_store_Best_1_ent g59_store_Best_1_CV g59_store_Best_1_LV (by kernel_rfl) (by kernel_rfl) g59_store_Best_1_hev)

noncomputable def g58_store_cheapest_C : CalT := tabC [g59_store_Best_1_E]
theorem g58_store_cheapest_CV : CV Tryd.prog g58_store_cheapest_C := tabC_valid (l := [g59_store_Best_1_E]) ⟨g59_store_Best_1_valid, trivial⟩
noncomputable def g58_store_cheapest_l0_c : Code := loopAt (bodyOf Tryd.f58) 0
noncomputable def g58_store_cheapest_l0_S : SPat := ⟨[.any, .fix (.func (.func 59) .nil (.cons (.bptr 0 []) (.cons (.bptr 1 []) .nil))), .any, .any, .any, .any, .any, .dat (.int .i64), .dat (.int .i64), .dat .bool, .any, .any, .any, .dat (.int .i64), .dat (.int .i64), .any, .any, .any, .any, .any, .any, .any, .any, .any, .any, .any, .any, .any, .any, .any, .any, .any, .any, .any, .any, .any, .any, .any, .any], [.fix (.mref 2), .dat T27, .map (.int .i64) (.int .i64)], 0⟩
abbrev TY68 : Type := ((Int × (Int × (Bool × (Int × (Int × Unit))))) × (E27 × ((List (Int × Int)) × Unit)))
abbrev TY69 : Type := (Nat × ((Int × (Int × (Bool × (Int × (Int × Unit))))) × (E27 × ((List (Int × Int)) × Unit))))
noncomputable def g58_store_cheapest_l0_step (s : TY68) : Option TY69 :=
  (bif (decide (s.1.2.2.2.2.1 < s.1.2.2.2.1)) then
  (Option.bind (g59_store_Best_1 s.1.2.2.2.2.1 s.2.1 s.2.2.1) fun r1 =>
    (bif r1.1.2.1 then
      (bif (!s.1.2.2.1) then
        some (0, ((s.1.2.2.2.2.1, (r1.1.1, (true, (s.1.2.2.2.1, ((IntKind.wrap .i64 (s.1.2.2.2.2.1 + 1)), ()))))), (r1.2.1, (r1.2.2.1, ()))))
        else
        (bif (decide (r1.1.1 < s.1.2.1)) then
          some (0, ((s.1.2.2.2.2.1, (r1.1.1, (true, (s.1.2.2.2.1, ((IntKind.wrap .i64 (s.1.2.2.2.2.1 + 1)), ()))))), (r1.2.1, (r1.2.2.1, ()))))
          else
          some (0, ((s.1.1, (s.1.2.1, (s.1.2.2.1, (s.1.2.2.2.1, ((IntKind.wrap .i64 (s.1.2.2.2.2.1 + 1)), ()))))), (r1.2.1, (r1.2.2.1, ()))))))
      else
      some (0, ((s.1.1, (s.1.2.1, (s.1.2.2.1, (s.1.2.2.2.1, ((IntKind.wrap .i64 (s.1.2.2.2.2.1 + 1)), ()))))), (r1.2.1, (r1.2.2.1, ()))))))
  else
  some (1, ((s.1.1, (s.1.2.1, (s.1.2.2.1, (s.1.2.2.2.1, (s.1.2.2.2.2.1, ()))))), (s.2.1, (s.2.2.1, ())))))
noncomputable def g58_store_cheapest_l0_fuel (s : TY68) : Nat := Int.toNat (s.1.2.2.2.1 - s.1.2.2.2.2.1) + 1
noncomputable def g58_store_cheapest_l0_run (s : TY68) : Option TY69 := iter g58_store_cheapest_l0_step (g58_store_cheapest_l0_fuel s) s
noncomputable def g58_store_cheapest_l0_L : LoopT := loopT g58_store_cheapest_l0_S [.exit 0] g58_store_cheapest_l0_run
noncomputable def g58_store_cheapest (a0 : Int) (b1 : E27) (b2 : (List (Int × Int))) : Option ((Int × (Int × (Bool × Unit))) × (E27 × ((List (Int × Int)) × Unit))) :=
  (Option.bind (g58_store_cheapest_l0_run ((0, (0, (false, (a0, (0, ()))))), (b1, (b2, ())))) fun q2 =>
  some ((q2.2.1.1, (q2.2.1.2.1, (q2.2.1.2.2.1, ()))), (q2.2.2.1, (q2.2.2.2.1, ()))))
abbrev g58_store_cheapest_CS : CSpec := ⟨[.dat (.int .i64), .fix (.func (.func 59) .nil (.cons (.bptr 0 []) (.cons (.bptr 1 []) .nil)))], [.fix (.mref 2), .dat T27, .map (.int .i64) (.int .i64)], 0, [.fix (.mref 2), .dat T27, .map (.int .i64) (.int .i64)], 0, .tup (.cons (.dat (.int .i64)) (.cons (.dat (.int .i64)) (.cons (.dat .bool) (.nil))))⟩
noncomputable def g58_store_cheapest_E : CEnt := boxE 58 g58_store_cheapest_CS fun x => g58_store_cheapest x.1.1 x.2.1 x.2.2.1
theorem g58_store_cheapest_l0_V : LValid 3 Tryd.prog (.loop g58_store_cheapest_l0_c) g58_store_cheapest_l0_L false := by
  have hb : ∀ s, codeR Tryd.prog g58_store_cheapest_C g58_store_cheapest_l0_c [] (g58_store_cheapest_l0_S.encE s) (g58_store_cheapest_l0_S.encB s) (kst g58_store_cheapest_l0_S [.exit 0]) = g58_store_cheapest_l0_step s := by
    intro s; kernel_rfl
  have hL : LV 3 Tryd.prog false (loopsOf g58_store_cheapest_l0_c) [] := by unfold LV; cases loopsOf g58_store_cheapest_l0_c <;> trivial
  exact loopT_valid (fuel := g58_store_cheapest_l0_fuel) mixed g58_store_cheapest_CV hL (by kernel_rfl) (by decide) rfl hb (fun s r h => h)
theorem g58_store_cheapest_LV : LV 3 Tryd.prog false (loopsOf (bodyOf Tryd.f58)) [g58_store_cheapest_l0_L] := by
  have hl : loopsOf (bodyOf Tryd.f58) = [.loop g58_store_cheapest_l0_c] := by kernel_rfl
  rw [hl]; exact ⟨g58_store_cheapest_l0_V, trivial⟩
theorem g58_store_cheapest_ent : Ent Tryd.prog 58 := ⟨by decide, enters_of Tryd.func58 (by kernel_rfl) rfl⟩
theorem g58_store_cheapest_hev : ∀ x : g58_store_cheapest_CS.In, fnR Tryd.prog g58_store_cheapest_C [g58_store_cheapest_l0_L] Tryd.f58 (bodyOf Tryd.f58) (encs g58_store_cheapest_CS.A x.1) ⟨encs g58_store_cheapest_CS.I x.2, [], g58_store_cheapest_CS.nt⟩ (finK g58_store_cheapest_CS) = g58_store_cheapest x.1.1 x.2.1 x.2.2.1 := by
  intro x; kernel_rfl
theorem g58_store_cheapest_valid : g58_store_cheapest_E.Valid Tryd.prog :=
  boxE_valid (S := g58_store_cheapest_CS) (by kernel_rfl) (.inr g58_store_cheapest_ent) (fn_lcall (S := g58_store_cheapest_CS) mixed Tryd.func58 rfl g58_store_cheapest_ent g58_store_cheapest_CV g58_store_cheapest_LV (by kernel_rfl) (by kernel_rfl) g58_store_cheapest_hev)

noncomputable def g28_store_Best_C : CalT := tabC [g51_store_valid_E, g57_store_ships_E, g88_store_ships_1_v2_E, g58_store_cheapest_E]
theorem g28_store_Best_CV : CV Tryd.prog g28_store_Best_C := tabC_valid (l := [g51_store_valid_E, g57_store_ships_E, g88_store_ships_1_v2_E, g58_store_cheapest_E]) ⟨g51_store_valid_valid, g57_store_ships_valid, g88_store_ships_1_v2_valid, g58_store_cheapest_valid, trivial⟩
noncomputable def g28_store_Best_l0_c : Code := loopAt (bodyOf Tryd.f28) 0
noncomputable def g28_store_Best_f0_L : LoopT := rfT g28_store_Best_C 28 0 (.tmp 23) [.normal]
noncomputable def g28_store_Best_l0_S : SPat := ⟨[.any, .fix (.bptr 0 []), .any, .any, .any, .fix (.bptr 2 []), .any, .any, .any, .any, .any, .any, .any, .any, .any, .any, .any, .any, .dat (.int .i64), .dat (.int .i64), .any, .any, .any, .any, .any, .any, .any, .any, .any, .any, .any, .any, .any, .any, .any, .any, .any, .any, .any, .any, .any, .any, .any, .any, .any, .any, .any, .any, .any, .any], [.dat T27, .map (.int .i64) (.int .i64), .fix (.mref 1)], 0⟩
noncomputable def g28_store_Best_l0_step (s : ((Int × (Int × Unit)) × (E27 × ((List (Int × Int)) × Unit)))) : Option (Nat × ((Int × (Int × Unit)) × (E27 × ((List (Int × Int)) × Unit)))) :=
  (bif (decide (s.1.2.1 < s.1.1)) then
  (Option.bind (g57_store_ships s.1.2.1) fun r2 =>
    (Option.bind (g88_store_ships_1_v2 (0, UC50) r2.2.1 s.2.1 s.1.2.1 s.2.2.1) fun r3 =>
      (bif (r3.2.1.1 == 0) then
        some (0, ((s.1.1, ((IntKind.wrap .i64 (s.1.2.1 + 1)), ())), (r3.2.2.2.1, (r3.2.2.2.2.2.1, ()))))
        else
        none)))
  else
  some (1, ((s.1.1, (s.1.2.1, ())), (s.2.1, (s.2.2.1, ())))))
noncomputable def g28_store_Best_l0_fuel (s : ((Int × (Int × Unit)) × (E27 × ((List (Int × Int)) × Unit)))) : Nat := Int.toNat (s.1.1 - s.1.2.1) + 1
noncomputable def g28_store_Best_l0_run (s : ((Int × (Int × Unit)) × (E27 × ((List (Int × Int)) × Unit)))) : Option (Nat × ((Int × (Int × Unit)) × (E27 × ((List (Int × Int)) × Unit)))) := iter g28_store_Best_l0_step (g28_store_Best_l0_fuel s) s
noncomputable def g28_store_Best_l0_L : LoopT := loopT g28_store_Best_l0_S [.exit 0] g28_store_Best_l0_run
noncomputable def g28_store_Best (a0 : E27) : Option (Int × (Int × (Int × Unit))) :=
  (Option.bind (g51_store_valid a0) fun r1 =>
  (bif (!r1) then
    some (0, (0, (2, ())))
    else
    (bif (!decide ((List.length a0.2.2.2.2.2.1 : Int) < 0)) then
      (Option.bind (g28_store_Best_l0_run (((IntKind.wrap .i64 (1 * 2 ^ (min (Int.toNat (List.length a0.2.2.2.2.2.1 : Int)) (IntKind.bits .i64)))), (0, ())), (a0, (([] : List (Int × Int)), ())))) fun q4 =>
        (bif (!decide ((List.length q4.2.2.1.2.2.2.2.2.1 : Int) < 0)) then
          (Option.bind (g58_store_cheapest (IntKind.wrap .i64 (1 * 2 ^ (min (Int.toNat (List.length q4.2.2.1.2.2.2.2.2.1 : Int)) (IntKind.bits .i64)))) q4.2.2.1 q4.2.2.2.1) fun r5 =>
            (bif (!r5.1.2.2.1) then
              some (0, (0, (5, ())))
              else
              some (r5.1.1, (r5.1.2.1, (0, ())))))
          else
          none))
      else
      none)))
noncomputable def g28_store_Best_E : CEnt := pureE 28 [.dat T27] (.tup (.cons (.dat (.int .i64)) (.cons (.dat (.int .i64)) (.cons (.dat (.int .i64)) (.nil))))) fun x => g28_store_Best x.1
theorem g28_store_Best_f0_V : LValid 0 Tryd.prog (lcode 28 0) g28_store_Best_f0_L := rfT_valid' g28_store_Best_CV (by kernel_rfl)
theorem g28_store_Best_l0_V : LValid 0 Tryd.prog (.loop g28_store_Best_l0_c) g28_store_Best_l0_L false := by
  have hb : ∀ s, codeR Tryd.prog g28_store_Best_C g28_store_Best_l0_c [g28_store_Best_f0_L] (g28_store_Best_l0_S.encE s) (g28_store_Best_l0_S.encB s) (kst g28_store_Best_l0_S [.exit 0]) = g28_store_Best_l0_step s := by
    intro s; kernel_rfl
  have hl : loopsOf g28_store_Best_l0_c = [(lcode 28 0)] := by kernel_rfl
  have hL : LV 0 Tryd.prog false (loopsOf g28_store_Best_l0_c) [g28_store_Best_f0_L] := by rw [hl]; exact ⟨g28_store_Best_f0_V, trivial⟩
  exact loopT_valid (fuel := g28_store_Best_l0_fuel) mixed g28_store_Best_CV hL (by kernel_rfl) (by decide) rfl hb (fun s r h => h)
theorem g28_store_Best_LV : LV 0 Tryd.prog false (loopsOf (bodyOf Tryd.f28)) [g28_store_Best_l0_L] := by
  have hl : loopsOf (bodyOf Tryd.f28) = [.loop g28_store_Best_l0_c] := by kernel_rfl
  rw [hl]; exact ⟨g28_store_Best_l0_V, trivial⟩
theorem g28_store_Best_ent : Ent Tryd.prog 28 := ⟨by decide, enters_of Tryd.func28 (by kernel_rfl) rfl⟩
theorem g28_store_Best_hev : ∀ x, fnR Tryd.prog g28_store_Best_C [g28_store_Best_l0_L] Tryd.f28 (bodyOf Tryd.f28) (encs [.dat T27] x) ⟨[], [], 0⟩ (frzF (.tup (.cons (.dat (.int .i64)) (.cons (.dat (.int .i64)) (.cons (.dat (.int .i64)) (.nil)))))) = g28_store_Best x.1 := by
  intro x; kernel_rfl
theorem g28_store_Best_valid : g28_store_Best_E.Valid Tryd.prog :=
  pureE_valid (by kernel_rfl) (by kernel_rfl) g28_store_Best_ent (frz_lcall mixed Tryd.func28 rfl g28_store_Best_ent g28_store_Best_CV g28_store_Best_LV (by kernel_rfl) (by kernel_rfl) g28_store_Best_hev)

noncomputable def g62_store_worth_C : CalT := tabC []
theorem g62_store_worth_CV : CV Tryd.prog g62_store_worth_C := tabC_valid (l := []) trivial
noncomputable def g62_store_worth_l0_c : Code := loopAt (bodyOf Tryd.f62) 0
noncomputable def g62_store_worth_l0_S : SPat := ⟨[.any, .any, .fix (.bptr 0 []), .fix (.bptr 1 []), .any, .dat (.int .i64), .any, .dat (.int .i64), .any, .any, .any, .any, .any, .any, .any, .any, .any, .any, .any, .any, .any], [.dat (.arr 3 (.int .i64)), .dat (.arr 3 (.int .i64))], 0⟩
noncomputable def g62_store_worth_l0_step (s : ((Int × (Int × Unit)) × ((List Int) × ((List Int) × Unit)))) : Option (Nat × ((Int × (Int × Unit)) × ((List Int) × ((List Int) × Unit)))) :=
  (bif (decide (s.1.2.1 < 3)) then
  (bif (decide (0 ≤ s.1.2.1) && decide (s.1.2.1 < (3 : Int))) then
    (bif (decide (0 ≤ s.1.2.1) && decide (s.1.2.1 < (3 : Int))) then
      some (0, (((IntKind.wrap .i64 (s.1.1 + (IntKind.wrap .i64 ((List.getD s.2.1 (Int.toNat s.1.2.1) 0) * (List.getD s.2.2.1 (Int.toNat s.1.2.1) 0))))), ((IntKind.wrap .i64 (s.1.2.1 + 1)), ())), (s.2.1, (s.2.2.1, ()))))
      else
      none)
    else
    none)
  else
  some (1, ((s.1.1, (s.1.2.1, ())), (s.2.1, (s.2.2.1, ())))))
noncomputable def g62_store_worth_l0_fuel (s : ((Int × (Int × Unit)) × ((List Int) × ((List Int) × Unit)))) : Nat := Int.toNat (3 - s.1.2.1) + 1
noncomputable def g62_store_worth_l0_run (s : ((Int × (Int × Unit)) × ((List Int) × ((List Int) × Unit)))) : Option (Nat × ((Int × (Int × Unit)) × ((List Int) × ((List Int) × Unit)))) := iter g62_store_worth_l0_step (g62_store_worth_l0_fuel s) s
noncomputable def g62_store_worth_l0_L : LoopT := loopT g62_store_worth_l0_S [.exit 0] g62_store_worth_l0_run
noncomputable def g62_store_worth (a0 : (List Int)) (a1 : (List Int)) : Option Int :=
  (Option.bind (g62_store_worth_l0_run ((0, (0, ())), (a0, (a1, ())))) fun q1 =>
  some q1.2.1.1)
noncomputable def g62_store_worth_E : CEnt := pureE 62 [.dat (.arr 3 (.int .i64)), .dat (.arr 3 (.int .i64))] (.dat (.int .i64)) fun x => g62_store_worth x.1 x.2.1
theorem g62_store_worth_l0_V : LValid 0 Tryd.prog (.loop g62_store_worth_l0_c) g62_store_worth_l0_L false := by
  have hb : ∀ s, codeR Tryd.prog g62_store_worth_C g62_store_worth_l0_c [] (g62_store_worth_l0_S.encE s) (g62_store_worth_l0_S.encB s) (kst g62_store_worth_l0_S [.exit 0]) = g62_store_worth_l0_step s := by
    intro s; kernel_rfl
  have hL : LV 0 Tryd.prog false (loopsOf g62_store_worth_l0_c) [] := by unfold LV; cases loopsOf g62_store_worth_l0_c <;> trivial
  exact loopT_valid (fuel := g62_store_worth_l0_fuel) mixed g62_store_worth_CV hL (by kernel_rfl) (by decide) rfl hb (fun s r h => h)
theorem g62_store_worth_LV : LV 0 Tryd.prog false (loopsOf (bodyOf Tryd.f62)) [g62_store_worth_l0_L] := by
  have hl : loopsOf (bodyOf Tryd.f62) = [.loop g62_store_worth_l0_c] := by kernel_rfl
  rw [hl]; exact ⟨g62_store_worth_l0_V, trivial⟩
theorem g62_store_worth_ent : Ent Tryd.prog 62 := ⟨by decide, enters_of Tryd.func62 (by kernel_rfl) rfl⟩
theorem g62_store_worth_hev : ∀ x, fnR Tryd.prog g62_store_worth_C [g62_store_worth_l0_L] Tryd.f62 (bodyOf Tryd.f62) (encs [.dat (.arr 3 (.int .i64)), .dat (.arr 3 (.int .i64))] x) ⟨[], [], 0⟩ (frzF (.dat (.int .i64))) = g62_store_worth x.1 x.2.1 := by
  intro x; kernel_rfl
theorem g62_store_worth_valid : g62_store_worth_E.Valid Tryd.prog :=
  pureE_valid (by kernel_rfl) (by kernel_rfl) g62_store_worth_ent (frz_lcall mixed Tryd.func62 rfl g62_store_worth_ent g62_store_worth_CV g62_store_worth_LV (by kernel_rfl) (by kernel_rfl) g62_store_worth_hev)

noncomputable def g61_store_Floor_1_C : CalT := tabC [g62_store_worth_E]
theorem g61_store_Floor_1_CV : CV Tryd.prog g61_store_Floor_1_C := tabC_valid (l := [g62_store_worth_E]) ⟨g62_store_worth_valid, trivial⟩
noncomputable def g61_store_Floor_1 (a0 : E39) (b1 : (List Int)) : Option (Bool × ((List Int) × Unit)) :=
  (Option.bind (g62_store_worth a0.2.1 b1) fun r1 =>
  some ((decide (r1 > a0.2.2.1)), (b1, ())))
abbrev g61_store_Floor_1_CS : CSpec := ⟨[.dat T39, .fix (.bptr 0 [])], [.dat (.arr 3 (.int .i64))], 0, [.dat (.arr 3 (.int .i64))], 0, .dat .bool⟩
noncomputable def g61_store_Floor_1_E : CEnt := boxE 61 g61_store_Floor_1_CS fun x => g61_store_Floor_1 x.1.1 x.2.1
theorem g61_store_Floor_1_LV : LV 1 Tryd.prog false (loopsOf (bodyOf Tryd.f61)) [] := by unfold LV; cases loopsOf (bodyOf Tryd.f61) <;> trivial
theorem g61_store_Floor_1_ent : Ent Tryd.prog 61 := ⟨by decide, enters_of Tryd.func61 (by kernel_rfl) rfl⟩
theorem g61_store_Floor_1_hev : ∀ x : g61_store_Floor_1_CS.In, fnR Tryd.prog g61_store_Floor_1_C [] Tryd.f61 (bodyOf Tryd.f61) (encs g61_store_Floor_1_CS.A x.1) ⟨encs g61_store_Floor_1_CS.I x.2, [], g61_store_Floor_1_CS.nt⟩ (finK g61_store_Floor_1_CS) = g61_store_Floor_1 x.1.1 x.2.1 := by
  intro x; kernel_rfl
theorem g61_store_Floor_1_valid : g61_store_Floor_1_E.Valid Tryd.prog :=
  boxE_valid (S := g61_store_Floor_1_CS) (by kernel_rfl) (.inr g61_store_Floor_1_ent) (fn_lcall (S := g61_store_Floor_1_CS) mixed Tryd.func61 rfl g61_store_Floor_1_ent g61_store_Floor_1_CV g61_store_Floor_1_LV (by kernel_rfl) (by kernel_rfl) g61_store_Floor_1_hev)

noncomputable def g89_slices_IndexFunc_v1_C : CalT := tabC [g61_store_Floor_1_E]
theorem g89_slices_IndexFunc_v1_CV : CV Tryd.prog g89_slices_IndexFunc_v1_C := tabC_valid (l := [g61_store_Floor_1_E]) ⟨g61_store_Floor_1_valid, trivial⟩
noncomputable def g89_slices_IndexFunc_v1_l0_c : Code := loopAt (bodyOf Tryd.f89) 0
noncomputable def g89_slices_IndexFunc_v1_l0_S : SPat := ⟨[.dat (.list T39), .fix (.func (.func 61) .nil (.cons (.bptr 0 []) .nil)), .any, .any, .dat (.int .i64), .any, .any, .dat (.int .i64), .dat (.int .i64), .any, .any, .any, .any, .any, .any, .any, .any, .any, .any], [.dat (.arr 3 (.int .i64))], 0⟩
abbrev TY70 : Type := (Nat × (((List E39) × (Int × (Int × (Int × Unit)))) × ((List Int) × Unit)))
noncomputable def g89_slices_IndexFunc_v1_l0_step (s : (((List E39) × (Int × (Int × (Int × Unit)))) × ((List Int) × Unit))) : Option TY70 :=
  (bif (decide (s.1.2.2.2.1 < s.1.2.2.1)) then
  (bif (decide (0 ≤ s.1.2.2.2.1) && decide (s.1.2.2.2.1 < (List.length s.1.1 : Int))) then
    (Option.bind (g61_store_Floor_1 (List.getD s.1.1 (Int.toNat s.1.2.2.2.1) (0, ((List.replicate 3 0), (0, ())))) s.2.1) fun r1 =>
      (bif r1.1 then
        some (1, ((s.1.1, (s.1.2.2.2.1, (s.1.2.2.1, (s.1.2.2.2.1, ())))), (r1.2.1, ())))
        else
        some (0, ((s.1.1, (s.1.2.1, (s.1.2.2.1, ((IntKind.wrap .i64 (s.1.2.2.2.1 + 1)), ())))), (r1.2.1, ())))))
    else
    none)
  else
  some (2, ((s.1.1, (s.1.2.1, (s.1.2.2.1, (s.1.2.2.2.1, ())))), (s.2.1, ()))))
noncomputable def g89_slices_IndexFunc_v1_l0_fuel (s : (((List E39) × (Int × (Int × (Int × Unit)))) × ((List Int) × Unit))) : Nat := Int.toNat (s.1.2.2.1 - s.1.2.2.2.1) + 1
noncomputable def g89_slices_IndexFunc_v1_l0_run (s : (((List E39) × (Int × (Int × (Int × Unit)))) × ((List Int) × Unit))) : Option TY70 := iter g89_slices_IndexFunc_v1_l0_step (g89_slices_IndexFunc_v1_l0_fuel s) s
noncomputable def g89_slices_IndexFunc_v1_l0_L : LoopT := loopT g89_slices_IndexFunc_v1_l0_S [.ret, .exit 0] g89_slices_IndexFunc_v1_l0_run
noncomputable def g89_slices_IndexFunc_v1 (a0 : (List E39)) (b1 : (List Int)) : Option (Int × ((List Int) × Unit)) :=
  (Option.bind (g89_slices_IndexFunc_v1_l0_run ((a0, (0, ((List.length a0 : Int), (0, ())))), (b1, ()))) fun q2 =>
  (natK q2.1
    (some (q2.2.1.2.1, (q2.2.2.1, ())))
    (fun _ => some ((-1), (q2.2.2.1, ())))))
abbrev g89_slices_IndexFunc_v1_CS : CSpec := ⟨[.dat (.list T39), .fix (.func (.func 61) .nil (.cons (.bptr 0 []) .nil))], [.dat (.arr 3 (.int .i64))], 0, [.dat (.arr 3 (.int .i64))], 0, .dat (.int .i64)⟩
noncomputable def g89_slices_IndexFunc_v1_E : CEnt := boxE 89 g89_slices_IndexFunc_v1_CS fun x => g89_slices_IndexFunc_v1 x.1.1 x.2.1
theorem g89_slices_IndexFunc_v1_l0_V : LValid 1 Tryd.prog (.loop g89_slices_IndexFunc_v1_l0_c) g89_slices_IndexFunc_v1_l0_L false := by
  have hb : ∀ s, codeR Tryd.prog g89_slices_IndexFunc_v1_C g89_slices_IndexFunc_v1_l0_c [] (g89_slices_IndexFunc_v1_l0_S.encE s) (g89_slices_IndexFunc_v1_l0_S.encB s) (kst g89_slices_IndexFunc_v1_l0_S [.ret, .exit 0]) = g89_slices_IndexFunc_v1_l0_step s := by
    intro s; kernel_rfl
  have hL : LV 1 Tryd.prog false (loopsOf g89_slices_IndexFunc_v1_l0_c) [] := by unfold LV; cases loopsOf g89_slices_IndexFunc_v1_l0_c <;> trivial
  exact loopT_valid (fuel := g89_slices_IndexFunc_v1_l0_fuel) mixed g89_slices_IndexFunc_v1_CV hL (by kernel_rfl) (by decide) rfl hb (fun s r h => h)
theorem g89_slices_IndexFunc_v1_LV : LV 1 Tryd.prog false (loopsOf (bodyOf Tryd.f89)) [g89_slices_IndexFunc_v1_l0_L] := by
  have hl : loopsOf (bodyOf Tryd.f89) = [.loop g89_slices_IndexFunc_v1_l0_c] := by kernel_rfl
  rw [hl]; exact ⟨g89_slices_IndexFunc_v1_l0_V, trivial⟩
theorem g89_slices_IndexFunc_v1_ent : Ent Tryd.prog 89 := ⟨by decide, enters_of Tryd.func89 (by kernel_rfl) rfl⟩
theorem g89_slices_IndexFunc_v1_hev : ∀ x : g89_slices_IndexFunc_v1_CS.In, fnR Tryd.prog g89_slices_IndexFunc_v1_C [g89_slices_IndexFunc_v1_l0_L] Tryd.f89 (bodyOf Tryd.f89) (encs g89_slices_IndexFunc_v1_CS.A x.1) ⟨encs g89_slices_IndexFunc_v1_CS.I x.2, [], g89_slices_IndexFunc_v1_CS.nt⟩ (finK g89_slices_IndexFunc_v1_CS) = g89_slices_IndexFunc_v1 x.1.1 x.2.1 := by
  intro x; kernel_rfl
theorem g89_slices_IndexFunc_v1_valid : g89_slices_IndexFunc_v1_E.Valid Tryd.prog :=
  boxE_valid (S := g89_slices_IndexFunc_v1_CS) (by kernel_rfl) (.inr g89_slices_IndexFunc_v1_ent) (fn_lcall (S := g89_slices_IndexFunc_v1_CS) mixed Tryd.func89 rfl g89_slices_IndexFunc_v1_ent g89_slices_IndexFunc_v1_CV g89_slices_IndexFunc_v1_LV (by kernel_rfl) (by kernel_rfl) g89_slices_IndexFunc_v1_hev)

noncomputable def g60_slices_ContainsFunc_v1_C : CalT := tabC [g89_slices_IndexFunc_v1_E]
theorem g60_slices_ContainsFunc_v1_CV : CV Tryd.prog g60_slices_ContainsFunc_v1_C := tabC_valid (l := [g89_slices_IndexFunc_v1_E]) ⟨g89_slices_IndexFunc_v1_valid, trivial⟩
noncomputable def g60_slices_ContainsFunc_v1 (a0 : (List E39)) (b1 : (List Int)) : Option (Bool × ((List Int) × Unit)) :=
  (Option.bind (g89_slices_IndexFunc_v1 a0 b1) fun r1 =>
  some ((decide (r1.1 ≥ 0)), (r1.2.1, ())))
abbrev g60_slices_ContainsFunc_v1_CS : CSpec := ⟨[.dat (.list T39), .fix (.func (.func 61) .nil (.cons (.bptr 0 []) .nil))], [.dat (.arr 3 (.int .i64))], 0, [.dat (.arr 3 (.int .i64))], 0, .dat .bool⟩
noncomputable def g60_slices_ContainsFunc_v1_E : CEnt := boxE 60 g60_slices_ContainsFunc_v1_CS fun x => g60_slices_ContainsFunc_v1 x.1.1 x.2.1
theorem g60_slices_ContainsFunc_v1_LV : LV 1 Tryd.prog false (loopsOf (bodyOf Tryd.f60)) [] := by unfold LV; cases loopsOf (bodyOf Tryd.f60) <;> trivial
theorem g60_slices_ContainsFunc_v1_ent : Ent Tryd.prog 60 := ⟨by decide, enters_of Tryd.func60 (by kernel_rfl) rfl⟩
theorem g60_slices_ContainsFunc_v1_hev : ∀ x : g60_slices_ContainsFunc_v1_CS.In, fnR Tryd.prog g60_slices_ContainsFunc_v1_C [] Tryd.f60 (bodyOf Tryd.f60) (encs g60_slices_ContainsFunc_v1_CS.A x.1) ⟨encs g60_slices_ContainsFunc_v1_CS.I x.2, [], g60_slices_ContainsFunc_v1_CS.nt⟩ (finK g60_slices_ContainsFunc_v1_CS) = g60_slices_ContainsFunc_v1 x.1.1 x.2.1 := by
  intro x; kernel_rfl
theorem g60_slices_ContainsFunc_v1_valid : g60_slices_ContainsFunc_v1_E.Valid Tryd.prog :=
  boxE_valid (S := g60_slices_ContainsFunc_v1_CS) (by kernel_rfl) (.inr g60_slices_ContainsFunc_v1_ent) (fn_lcall (S := g60_slices_ContainsFunc_v1_CS) mixed Tryd.func60 rfl g60_slices_ContainsFunc_v1_ent g60_slices_ContainsFunc_v1_CV g60_slices_ContainsFunc_v1_LV (by kernel_rfl) (by kernel_rfl) g60_slices_ContainsFunc_v1_hev)

noncomputable def g31_store_Floor_C : CalT := tabC [g51_store_valid_E, g53_store_in_E, g60_slices_ContainsFunc_v1_E, g63_store_added_E, g62_store_worth_E]
theorem g31_store_Floor_CV : CV Tryd.prog g31_store_Floor_C := tabC_valid (l := [g51_store_valid_E, g53_store_in_E, g60_slices_ContainsFunc_v1_E, g63_store_added_E, g62_store_worth_E]) ⟨g51_store_valid_valid, g53_store_in_valid, g60_slices_ContainsFunc_v1_valid, g63_store_added_valid, g62_store_worth_valid, trivial⟩
noncomputable def g31_store_Floor_l0_c : Code := loopAt (bodyOf Tryd.f31) 0
noncomputable def g31_store_Floor_l1_c : Code := loopAt (bodyOf Tryd.f31) 1
noncomputable def g31_store_Floor_l0_S : SPat := ⟨[.any, .dat (.int .i64), .any, .fix (.bptr 0 []), .any, .fix (.bptr 1 []), .dat (.int .i64), .dat (.int .i64), .any, .any, .any, .any, .any, .any, .any, .any, .any, .any, .any, .any, .any, .any, .any, .dat (.int .i64), .any, .any, .any, .any, .any, .any, .any, .any, .any, .any, .any, .any, .any, .any, .any, .any, .any, .any, .any, .any, .any, .any, .any, .any, .any, .any, .any, .any, .any, .any, .any, .any, .any, .any, .any, .any], [.dat T27, .dat (.arr 3 (.int .i64))], 0⟩
abbrev TY71 : Type := (Nat × ((Int × (Int × (Int × (Int × Unit)))) × (E27 × ((List Int) × Unit))))
noncomputable def g31_store_Floor_l0_step (s : ((Int × (Int × (Int × (Int × Unit)))) × (E27 × ((List Int) × Unit)))) : Option TY71 :=
  (bif (decide (s.1.2.2.2.1 < 3)) then
  (bif (decide (0 ≤ s.1.2.2.2.1) && decide (s.1.2.2.2.1 < (3 : Int))) then
    (Option.bind (g53_store_in (List.getD s.2.2.1 (Int.toNat s.1.2.2.2.1) 0) 0 1000000) fun r3 =>
      (bif (!r3) then
        some (1, ((s.1.1, (0, (2, (s.1.2.2.2.1, ())))), (s.2.1, (s.2.2.1, ()))))
        else
        some (0, ((s.1.1, (s.1.2.1, (s.1.2.2.1, ((IntKind.wrap .i64 (s.1.2.2.2.1 + 1)), ())))), (s.2.1, (s.2.2.1, ()))))))
    else
    none)
  else
  some (2, ((s.1.1, (s.1.2.1, (s.1.2.2.1, (s.1.2.2.2.1, ())))), (s.2.1, (s.2.2.1, ())))))
noncomputable def g31_store_Floor_l0_fuel (s : ((Int × (Int × (Int × (Int × Unit)))) × (E27 × ((List Int) × Unit)))) : Nat := Int.toNat (3 - s.1.2.2.2.1) + 1
noncomputable def g31_store_Floor_l0_run (s : ((Int × (Int × (Int × (Int × Unit)))) × (E27 × ((List Int) × Unit)))) : Option TY71 := iter g31_store_Floor_l0_step (g31_store_Floor_l0_fuel s) s
noncomputable def g31_store_Floor_l0_L : LoopT := loopT g31_store_Floor_l0_S [.ret, .exit 0] g31_store_Floor_l0_run
noncomputable def g31_store_Floor_l1_S : SPat := ⟨[.any, .any, .any, .fix (.bptr 0 []), .any, .fix (.bptr 1 []), .any, .any, .any, .fix (.bptr 2 []), .any, .any, .any, .any, .any, .any, .any, .any, .any, .any, .any, .any, .any, .any, .any, .any, .any, .any, .any, .any, .any, .any, .any, .any, .any, .any, .any, .any, .any, .any, .any, .any, .dat (.int .i64), .any, .any, .any, .any, .any, .any, .any, .any, .any, .any, .any, .any, .any, .any, .any, .any, .any], [.dat T27, .dat (.arr 3 (.int .i64)), .dat (.arr 3 (.int .i64))], 0⟩
noncomputable def g31_store_Floor_l1_step (s : ((Int × Unit) × (E27 × ((List Int) × ((List Int) × Unit))))) : Option (Nat × ((Int × Unit) × (E27 × ((List Int) × ((List Int) × Unit))))) :=
  (bif (decide (s.1.1 < 3)) then
  (bif (decide (0 ≤ s.1.1) && decide (s.1.1 < (3 : Int))) then
    (bif (decide (0 ≤ s.1.1) && decide (s.1.1 < (3 : Int))) then
      (bif (decide (0 ≤ s.1.1) && decide (s.1.1 < (3 : Int))) then
        some (0, (((IntKind.wrap .i64 (s.1.1 + 1)), ()), (s.2.1, (s.2.2.1, ((List.set s.2.2.2.1 (Int.toNat s.1.1) (if (IntKind.wrap .i64 ((List.getD s.2.2.2.1 (Int.toNat s.1.1) 0) - (List.getD s.2.1.1 (Int.toNat s.1.1) 0))) > 0 then (IntKind.wrap .i64 ((List.getD s.2.2.2.1 (Int.toNat s.1.1) 0) - (List.getD s.2.1.1 (Int.toNat s.1.1) 0))) else 0)), ())))))
        else
        none)
      else
      none)
    else
    none)
  else
  some (1, ((s.1.1, ()), (s.2.1, (s.2.2.1, (s.2.2.2.1, ()))))))
noncomputable def g31_store_Floor_l1_fuel (s : ((Int × Unit) × (E27 × ((List Int) × ((List Int) × Unit))))) : Nat := Int.toNat (3 - s.1.1) + 1
noncomputable def g31_store_Floor_l1_run (s : ((Int × Unit) × (E27 × ((List Int) × ((List Int) × Unit))))) : Option (Nat × ((Int × Unit) × (E27 × ((List Int) × ((List Int) × Unit))))) := iter g31_store_Floor_l1_step (g31_store_Floor_l1_fuel s) s
noncomputable def g31_store_Floor_l1_L : LoopT := loopT g31_store_Floor_l1_S [.exit 2] g31_store_Floor_l1_run
noncomputable def g31_store_Floor (a0 : E27) (a1 : Int) (a2 : (List Int)) : Option (Int × (Int × Unit)) :=
  (Option.bind (g51_store_valid a0) fun r1 =>
  (bif (!r1) then
    some (0, (2, ()))
    else
    (Option.bind (g53_store_in a1 0 (IntKind.wrap .i64 ((List.length a0.2.2.2.2.2.2.2.1 : Int) - 1))) fun r2 =>
      (bif (!r2) then
        some (0, (2, ()))
        else
        (Option.bind (g31_store_Floor_l0_run ((a1, (0, (0, (0, ())))), (a0, (a2, ())))) fun q4 =>
          (natK q4.1
            (some (q4.2.1.2.1, (q4.2.1.2.2.1, ())))
            (fun _ => (Option.bind (g60_slices_ContainsFunc_v1 q4.2.2.1.2.2.2.2.2.1 q4.2.2.2.1) fun r5 =>
              (bif r5.1 then
                some (0, (7, ()))
                else
                (bif (decide (0 ≤ q4.2.1.1) && decide (q4.2.1.1 < (List.length q4.2.2.1.2.2.2.2.2.2.2.1 : Int))) then
                  (Option.bind (g63_store_added (List.getD q4.2.2.1.2.2.2.2.2.2.2.1 (Int.toNat q4.2.1.1) [])) fun r6 =>
                    (Option.bind (g31_store_Floor_l1_run ((0, ()), (q4.2.2.1, (r5.2.1, (r6, ()))))) fun q7 =>
                      (Option.bind (g62_store_worth q7.2.2.2.2.1 q7.2.2.2.1) fun r8 =>
                        some (r8, (0, ())))))
                  else
                  none))))))))))
noncomputable def g31_store_Floor_E : CEnt := pureE 31 [.dat T27, .dat (.int .i64), .dat (.arr 3 (.int .i64))] (.tup (.cons (.dat (.int .i64)) (.cons (.dat (.int .i64)) (.nil)))) fun x => g31_store_Floor x.1 x.2.1 x.2.2.1
theorem g31_store_Floor_l0_V : LValid 0 Tryd.prog (.loop g31_store_Floor_l0_c) g31_store_Floor_l0_L false := by
  have hb : ∀ s, codeR Tryd.prog g31_store_Floor_C g31_store_Floor_l0_c [] (g31_store_Floor_l0_S.encE s) (g31_store_Floor_l0_S.encB s) (kst g31_store_Floor_l0_S [.ret, .exit 0]) = g31_store_Floor_l0_step s := by
    intro s; kernel_rfl
  have hL : LV 0 Tryd.prog false (loopsOf g31_store_Floor_l0_c) [] := by unfold LV; cases loopsOf g31_store_Floor_l0_c <;> trivial
  exact loopT_valid (fuel := g31_store_Floor_l0_fuel) mixed g31_store_Floor_CV hL (by kernel_rfl) (by decide) rfl hb (fun s r h => h)
theorem g31_store_Floor_l1_V : LValid 0 Tryd.prog (.loop g31_store_Floor_l1_c) g31_store_Floor_l1_L false := by
  have hb : ∀ s, codeR Tryd.prog g31_store_Floor_C g31_store_Floor_l1_c [] (g31_store_Floor_l1_S.encE s) (g31_store_Floor_l1_S.encB s) (kst g31_store_Floor_l1_S [.exit 2]) = g31_store_Floor_l1_step s := by
    intro s; kernel_rfl
  have hL : LV 0 Tryd.prog false (loopsOf g31_store_Floor_l1_c) [] := by unfold LV; cases loopsOf g31_store_Floor_l1_c <;> trivial
  exact loopT_valid (fuel := g31_store_Floor_l1_fuel) mixed g31_store_Floor_CV hL (by kernel_rfl) (by decide) rfl hb (fun s r h => h)
theorem g31_store_Floor_LV : LV 0 Tryd.prog false (loopsOf (bodyOf Tryd.f31)) [g31_store_Floor_l0_L, g31_store_Floor_l1_L] := by
  have hl : loopsOf (bodyOf Tryd.f31) = [.loop g31_store_Floor_l0_c, .loop g31_store_Floor_l1_c] := by kernel_rfl
  rw [hl]; exact ⟨g31_store_Floor_l0_V, g31_store_Floor_l1_V, trivial⟩
theorem g31_store_Floor_ent : Ent Tryd.prog 31 := ⟨by decide, enters_of Tryd.func31 (by kernel_rfl) rfl⟩
theorem g31_store_Floor_hev : ∀ x, fnR Tryd.prog g31_store_Floor_C [g31_store_Floor_l0_L, g31_store_Floor_l1_L] Tryd.f31 (bodyOf Tryd.f31) (encs [.dat T27, .dat (.int .i64), .dat (.arr 3 (.int .i64))] x) ⟨[], [], 0⟩ (frzF (.tup (.cons (.dat (.int .i64)) (.cons (.dat (.int .i64)) (.nil))))) = g31_store_Floor x.1 x.2.1 x.2.2.1 := by
  intro x; kernel_rfl
theorem g31_store_Floor_valid : g31_store_Floor_E.Valid Tryd.prog :=
  pureE_valid (by kernel_rfl) (by kernel_rfl) g31_store_Floor_ent (frz_lcall mixed Tryd.func31 rfl g31_store_Floor_ent g31_store_Floor_CV g31_store_Floor_LV (by kernel_rfl) (by kernel_rfl) g31_store_Floor_hev)

end Go.Proofs.YtcijddeommognaaDoor.Abs

/-
  Functions of the store layer, and what they come to, as typed functions; part 2. Printed by a program of mine (gen.py).
-/
set_option linter.unusedVariables false
set_option maxRecDepth 100000
namespace Go.Proofs.YtcijddeommognaaDoor.Abs
open Go.Shelf Go.Sort
noncomputable def g90_store_manifested_1_C : CalT := tabC [g78_store_ship_E]
theorem g90_store_manifested_1_CV : CV Tryd.prog g90_store_manifested_1_C := tabC_valid (l := [g78_store_ship_E]) ⟨g78_store_ship_valid, trivial⟩
noncomputable def g90_store_manifested_1 (a0 : E39) : Option Bool :=
  (Option.bind (g78_store_ship a0) fun r1 =>
  some (!r1))
noncomputable def g90_store_manifested_1_E : CEnt := pureE 90 [.dat T39] (.dat .bool) fun x => g90_store_manifested_1 x.1
theorem g90_store_manifested_1_LV : LV 0 Tryd.prog false (loopsOf (bodyOf Tryd.f90)) [] := by unfold LV; cases loopsOf (bodyOf Tryd.f90) <;> trivial
theorem g90_store_manifested_1_ent : Ent Tryd.prog 90 := ⟨by decide, enters_of Tryd.func90 (by kernel_rfl) rfl⟩
theorem g90_store_manifested_1_hev : ∀ x, fnR Tryd.prog g90_store_manifested_1_C [] Tryd.f90 (bodyOf Tryd.f90) (encs [.dat T39] x) ⟨[], [], 0⟩ (frzF (.dat .bool)) = g90_store_manifested_1 x.1 := by
  intro x; kernel_rfl
theorem g90_store_manifested_1_valid : g90_store_manifested_1_E.Valid Tryd.prog :=
  pureE_valid (by kernel_rfl) (by kernel_rfl) g90_store_manifested_1_ent (frz_lcall mixed Tryd.func90 rfl g90_store_manifested_1_ent g90_store_manifested_1_CV g90_store_manifested_1_LV (by kernel_rfl) (by kernel_rfl) g90_store_manifested_1_hev)

noncomputable def g89_slices_IndexFunc_v2_C : CalT := tabC [g90_store_manifested_1_E]
theorem g89_slices_IndexFunc_v2_CV : CV Tryd.prog g89_slices_IndexFunc_v2_C := tabC_valid (l := [g90_store_manifested_1_E]) ⟨g90_store_manifested_1_valid, trivial⟩
noncomputable def g89_slices_IndexFunc_v2_l0_c : Code := loopAt (bodyOf Tryd.f89) 0
noncomputable def g89_slices_IndexFunc_v2_l0_S : SPat := ⟨[.dat (.list T39), .fix (.func (.func 90) .nil .nil), .any, .any, .dat (.int .i64), .any, .any, .dat (.int .i64), .dat (.int .i64), .any, .any, .any, .any, .any, .any, .any, .any, .any, .any], [], 0⟩
noncomputable def g89_slices_IndexFunc_v2_l0_step (s : (((List E39) × (Int × (Int × (Int × Unit)))) × Unit)) : Option (Nat × (((List E39) × (Int × (Int × (Int × Unit)))) × Unit)) :=
  (bif (decide (s.1.2.2.2.1 < s.1.2.2.1)) then
  (bif (decide (0 ≤ s.1.2.2.2.1) && decide (s.1.2.2.2.1 < (List.length s.1.1 : Int))) then
    (Option.bind (g90_store_manifested_1 (List.getD s.1.1 (Int.toNat s.1.2.2.2.1) (0, ((List.replicate 3 0), (0, ()))))) fun r1 =>
      (bif r1 then
        some (1, ((s.1.1, (s.1.2.2.2.1, (s.1.2.2.1, (s.1.2.2.2.1, ())))), ()))
        else
        some (0, ((s.1.1, (s.1.2.1, (s.1.2.2.1, ((IntKind.wrap .i64 (s.1.2.2.2.1 + 1)), ())))), ()))))
    else
    none)
  else
  some (2, ((s.1.1, (s.1.2.1, (s.1.2.2.1, (s.1.2.2.2.1, ())))), ())))
noncomputable def g89_slices_IndexFunc_v2_l0_fuel (s : (((List E39) × (Int × (Int × (Int × Unit)))) × Unit)) : Nat := Int.toNat (s.1.2.2.1 - s.1.2.2.2.1) + 1
noncomputable def g89_slices_IndexFunc_v2_l0_run (s : (((List E39) × (Int × (Int × (Int × Unit)))) × Unit)) : Option (Nat × (((List E39) × (Int × (Int × (Int × Unit)))) × Unit)) := iter g89_slices_IndexFunc_v2_l0_step (g89_slices_IndexFunc_v2_l0_fuel s) s
noncomputable def g89_slices_IndexFunc_v2_l0_L : LoopT := loopT g89_slices_IndexFunc_v2_l0_S [.ret, .exit 0] g89_slices_IndexFunc_v2_l0_run
noncomputable def g89_slices_IndexFunc_v2 (a0 : (List E39)) : Option Int :=
  (Option.bind (g89_slices_IndexFunc_v2_l0_run ((a0, (0, ((List.length a0 : Int), (0, ())))), ())) fun q2 =>
  (natK q2.1
    (some q2.2.1.2.1)
    (fun _ => some (-1))))
noncomputable def g89_slices_IndexFunc_v2_E : CEnt := pureE 89 [.dat (.list T39), .fix (.func (.func 90) .nil .nil)] (.dat (.int .i64)) fun x => g89_slices_IndexFunc_v2 x.1
theorem g89_slices_IndexFunc_v2_l0_V : LValid 0 Tryd.prog (.loop g89_slices_IndexFunc_v2_l0_c) g89_slices_IndexFunc_v2_l0_L false := by
  have hb : ∀ s, codeR Tryd.prog g89_slices_IndexFunc_v2_C g89_slices_IndexFunc_v2_l0_c [] (g89_slices_IndexFunc_v2_l0_S.encE s) (g89_slices_IndexFunc_v2_l0_S.encB s) (kst g89_slices_IndexFunc_v2_l0_S [.ret, .exit 0]) = g89_slices_IndexFunc_v2_l0_step s := by
    intro s; kernel_rfl
  have hL : LV 0 Tryd.prog false (loopsOf g89_slices_IndexFunc_v2_l0_c) [] := by unfold LV; cases loopsOf g89_slices_IndexFunc_v2_l0_c <;> trivial
  exact loopT_valid (fuel := g89_slices_IndexFunc_v2_l0_fuel) mixed g89_slices_IndexFunc_v2_CV hL (by kernel_rfl) (by decide) rfl hb (fun s r h => h)
theorem g89_slices_IndexFunc_v2_LV : LV 0 Tryd.prog false (loopsOf (bodyOf Tryd.f89)) [g89_slices_IndexFunc_v2_l0_L] := by
  have hl : loopsOf (bodyOf Tryd.f89) = [.loop g89_slices_IndexFunc_v2_l0_c] := by kernel_rfl
  rw [hl]; exact ⟨g89_slices_IndexFunc_v2_l0_V, trivial⟩
theorem g89_slices_IndexFunc_v2_ent : Ent Tryd.prog 89 := ⟨by decide, enters_of Tryd.func89 (by kernel_rfl) rfl⟩
theorem g89_slices_IndexFunc_v2_hev : ∀ x, fnR Tryd.prog g89_slices_IndexFunc_v2_C [g89_slices_IndexFunc_v2_l0_L] Tryd.f89 (bodyOf Tryd.f89) (encs [.dat (.list T39), .fix (.func (.func 90) .nil .nil)] x) ⟨[], [], 0⟩ (frzF (.dat (.int .i64))) = g89_slices_IndexFunc_v2 x.1 := by
  intro x; kernel_rfl
theorem g89_slices_IndexFunc_v2_valid : g89_slices_IndexFunc_v2_E.Valid Tryd.prog :=
  pureE_valid (by kernel_rfl) (by kernel_rfl) g89_slices_IndexFunc_v2_ent (frz_lcall mixed Tryd.func89 rfl g89_slices_IndexFunc_v2_ent g89_slices_IndexFunc_v2_CV g89_slices_IndexFunc_v2_LV (by kernel_rfl) (by kernel_rfl) g89_slices_IndexFunc_v2_hev)

noncomputable def g60_slices_ContainsFunc_v2_C : CalT := tabC [g89_slices_IndexFunc_v2_E]
theorem g60_slices_ContainsFunc_v2_CV : CV Tryd.prog g60_slices_ContainsFunc_v2_C := tabC_valid (l := [g89_slices_IndexFunc_v2_E]) ⟨g89_slices_IndexFunc_v2_valid, trivial⟩
noncomputable def g60_slices_ContainsFunc_v2 (a0 : (List E39)) : Option Bool :=
  (Option.bind (g89_slices_IndexFunc_v2 a0) fun r1 =>
  some (decide (r1 ≥ 0)))
noncomputable def g60_slices_ContainsFunc_v2_E : CEnt := pureE 60 [.dat (.list T39), .fix (.func (.func 90) .nil .nil)] (.dat .bool) fun x => g60_slices_ContainsFunc_v2 x.1
theorem g60_slices_ContainsFunc_v2_LV : LV 0 Tryd.prog false (loopsOf (bodyOf Tryd.f60)) [] := by unfold LV; cases loopsOf (bodyOf Tryd.f60) <;> trivial
theorem g60_slices_ContainsFunc_v2_ent : Ent Tryd.prog 60 := ⟨by decide, enters_of Tryd.func60 (by kernel_rfl) rfl⟩
theorem g60_slices_ContainsFunc_v2_hev : ∀ x, fnR Tryd.prog g60_slices_ContainsFunc_v2_C [] Tryd.f60 (bodyOf Tryd.f60) (encs [.dat (.list T39), .fix (.func (.func 90) .nil .nil)] x) ⟨[], [], 0⟩ (frzF (.dat .bool)) = g60_slices_ContainsFunc_v2 x.1 := by
  intro x; kernel_rfl
theorem g60_slices_ContainsFunc_v2_valid : g60_slices_ContainsFunc_v2_E.Valid Tryd.prog :=
  pureE_valid (by kernel_rfl) (by kernel_rfl) g60_slices_ContainsFunc_v2_ent (frz_lcall mixed Tryd.func60 rfl g60_slices_ContainsFunc_v2_ent g60_slices_ContainsFunc_v2_CV g60_slices_ContainsFunc_v2_LV (by kernel_rfl) (by kernel_rfl) g60_slices_ContainsFunc_v2_hev)

noncomputable def g65_store_manifested_C : CalT := tabC [g60_slices_ContainsFunc_v2_E]
theorem g65_store_manifested_CV : CV Tryd.prog g65_store_manifested_C := tabC_valid (l := [g60_slices_ContainsFunc_v2_E]) ⟨g60_slices_ContainsFunc_v2_valid, trivial⟩
noncomputable def g65_store_manifested (a0 : (List E39)) : Option Int :=
  (bif (decide ((List.length a0 : Int) > 6)) then
  some 3
  else
  (Option.bind (g60_slices_ContainsFunc_v2 a0) fun r1 =>
    (bif r1 then
      some 2
      else
      some 0)))
noncomputable def g65_store_manifested_E : CEnt := pureE 65 [.dat (.list T39)] (.dat (.int .i64)) fun x => g65_store_manifested x.1
theorem g65_store_manifested_LV : LV 0 Tryd.prog false (loopsOf (bodyOf Tryd.f65)) [] := by unfold LV; cases loopsOf (bodyOf Tryd.f65) <;> trivial
theorem g65_store_manifested_ent : Ent Tryd.prog 65 := ⟨by decide, enters_of Tryd.func65 (by kernel_rfl) rfl⟩
theorem g65_store_manifested_hev : ∀ x, fnR Tryd.prog g65_store_manifested_C [] Tryd.f65 (bodyOf Tryd.f65) (encs [.dat (.list T39)] x) ⟨[], [], 0⟩ (frzF (.dat (.int .i64))) = g65_store_manifested x.1 := by
  intro x; kernel_rfl
theorem g65_store_manifested_valid : g65_store_manifested_E.Valid Tryd.prog :=
  pureE_valid (by kernel_rfl) (by kernel_rfl) g65_store_manifested_ent (frz_lcall mixed Tryd.func65 rfl g65_store_manifested_ent g65_store_manifested_CV g65_store_manifested_LV (by kernel_rfl) (by kernel_rfl) g65_store_manifested_hev)

noncomputable def g66_strings_Builder_WriteString_C : CalT := tabC [bchkM_E]
theorem g66_strings_Builder_WriteString_CV : CV Tryd.prog g66_strings_Builder_WriteString_C := tabC_valid (l := [bchkM_E]) ⟨bchkM_valid, trivial⟩
noncomputable def g66_strings_Builder_WriteString (a0 : ByteArray) (b1 : (Unit × ((List Int) × Unit))) : Option ((Int × (Unit × Unit)) × ((Unit × ((List Int) × Unit)) × Unit)) :=
  (Option.bind (bchkM ((), b1.2)) fun r1 =>
  (bif (decide (List.length r1.2.1.2.1 + List.length (bytesI a0) ≤ LIM)) then
    some (((ByteArray.size a0 : Int), ((), ())), (((), ((r1.2.1.2.1 ++ (bytesI a0)), r1.2.1.2.2)), ()))
    else
    none))
abbrev g66_strings_Builder_WriteString_CS : CSpec := ⟨[.fix (.bptr 0 []), .dat .str], [.tbox 99 (.cons (.optp 0) (.cons (.own 0 (.int .u8)) (.nil)))], 1, [.tbox 99 (.cons (.optp 0) (.cons (.own 0 (.int .u8)) (.nil)))], 1, .tup (.cons (.dat (.int .i64)) (.cons (.fix .inil) (.nil)))⟩
noncomputable def g66_strings_Builder_WriteString_E : CEnt := boxE 66 g66_strings_Builder_WriteString_CS fun x => g66_strings_Builder_WriteString x.1.1 x.2.1
theorem g66_strings_Builder_WriteString_LV : LV 1 Tryd.prog false (loopsOf (bodyOf Tryd.f66)) [] := by unfold LV; cases loopsOf (bodyOf Tryd.f66) <;> trivial
theorem g66_strings_Builder_WriteString_ent : Ent Tryd.prog 66 := ⟨by decide, enters_of Tryd.func66 (by kernel_rfl) rfl⟩
theorem g66_strings_Builder_WriteString_hev : ∀ x : g66_strings_Builder_WriteString_CS.In, fnR Tryd.prog g66_strings_Builder_WriteString_C [] Tryd.f66 (bodyOf Tryd.f66) (encs g66_strings_Builder_WriteString_CS.A x.1) ⟨encs g66_strings_Builder_WriteString_CS.I x.2, [], g66_strings_Builder_WriteString_CS.nt⟩ (finK g66_strings_Builder_WriteString_CS) = g66_strings_Builder_WriteString x.1.1 x.2.1 := by
  intro x; kernel_rfl
theorem g66_strings_Builder_WriteString_valid : g66_strings_Builder_WriteString_E.Valid Tryd.prog :=
  boxE_valid (S := g66_strings_Builder_WriteString_CS) (by kernel_rfl) (.inr g66_strings_Builder_WriteString_ent) (fn_lcall (S := g66_strings_Builder_WriteString_CS) mixed Tryd.func66 rfl g66_strings_Builder_WriteString_ent g66_strings_Builder_WriteString_CV g66_strings_Builder_WriteString_LV (by kernel_rfl) (by kernel_rfl) g66_strings_Builder_WriteString_hev)

noncomputable def g67_store_numbers_C : CalT := CalT.owns (tabC [])
theorem g67_store_numbers_CV : CV Tryd.prog g67_store_numbers_C := CV.owns (C := tabC []) (tabC_valid (l := []) trivial)
noncomputable def g67_store_numbers (a0 : Int) (a1 : E39) : Option (List Int) :=
  (bif (decide (List.length [a0, a1.1, a1.2.2.1] + List.length a1.2.1 ≤ LIM)) then
  some ([a0, a1.1, a1.2.2.1] ++ a1.2.1)
  else
  none)
noncomputable def g67_store_numbers_E : CEnt := pureE 67 [.dat (.int .i64), .dat T39] (.dat (.list (.int .i64))) fun x => g67_store_numbers x.1 x.2.1
theorem g67_store_numbers_LV : LV 0 Tryd.prog false (loopsOf (bodyOf Tryd.f67)) [] := by unfold LV; cases loopsOf (bodyOf Tryd.f67) <;> trivial
theorem g67_store_numbers_ent : Ent Tryd.prog 67 := ⟨by decide, enters_of Tryd.func67 (by kernel_rfl) rfl⟩
theorem g67_store_numbers_hev : ∀ x, fnR Tryd.prog g67_store_numbers_C [] Tryd.f67 (bodyOf Tryd.f67) (encs [.dat (.int .i64), .dat T39] x) ⟨[], [], 0⟩ (frzF (.dat (.list (.int .i64)))) = g67_store_numbers x.1 x.2.1 := by
  intro x; kernel_rfl
theorem g67_store_numbers_valid : g67_store_numbers_E.Valid Tryd.prog :=
  pureE_valid (by kernel_rfl) (by kernel_rfl) g67_store_numbers_ent (frz_lcall mixed Tryd.func67 rfl g67_store_numbers_ent g67_store_numbers_CV g67_store_numbers_LV (by kernel_rfl) (by kernel_rfl) g67_store_numbers_hev)

noncomputable def g93_store_check_C : CalT := tabC [g67_store_numbers_E, itoaM_E]
theorem g93_store_check_CV : CV Tryd.prog g93_store_check_C := tabC_valid (l := [g67_store_numbers_E, itoaM_E]) ⟨g67_store_numbers_valid, itoaM_valid, trivial⟩
noncomputable def g93_store_check_l0_c : Code := loopAt (bodyOf Tryd.f93) 0
noncomputable def g93_store_check_l1_c : Code := loopAt g93_store_check_l0_c 0
noncomputable def g93_store_check_l1_S : SPat := ⟨[.any, .any, .any, .dat (.int .i64), .any, .any, .any, .any, .dat (.list T39), .dat (.int .i64), .dat (.int .i64), .any, .any, .any, .any, .any, .any, .dat (.list (.int .i64)), .dat (.int .i64), .dat (.int .i64), .any, .any, .any, .any, .any, .any, .any, .any, .any, .any, .any, .any, .any, .any, .any, .any, .any, .any, .any, .any, .any], [.dat T39], 0⟩
abbrev TY72 : Type := ((Int × ((List E39) × (Int × (Int × ((List Int) × (Int × (Int × Unit))))))) × (E39 × Unit))
abbrev TY73 : Type := (Nat × ((Int × ((List E39) × (Int × (Int × ((List Int) × (Int × (Int × Unit))))))) × (E39 × Unit)))
noncomputable def g93_store_check_l1_step (s : TY72) : Option TY73 :=
  (bif (decide (s.1.2.2.2.2.2.2.1 < s.1.2.2.2.2.2.1)) then
  (bif (decide (0 ≤ s.1.2.2.2.2.2.2.1) && decide (s.1.2.2.2.2.2.2.1 < (List.length s.1.2.2.2.2.1 : Int))) then
    some (0, (((Int.tmod (IntKind.wrap .i64 (s.1.1 + (IntKind.wrap .i64 ((Int.tmod (List.getD s.1.2.2.2.2.1 (Int.toNat s.1.2.2.2.2.2.2.1) 0) 97) * (IntKind.wrap .i64 (s.1.2.2.2.2.2.2.1 + 1)))))) 97), (s.1.2.1, (s.1.2.2.1, (s.1.2.2.2.1, (s.1.2.2.2.2.1, (s.1.2.2.2.2.2.1, ((IntKind.wrap .i64 (s.1.2.2.2.2.2.2.1 + 1)), ()))))))), (s.2.1, ())))
    else
    none)
  else
  some (1, ((s.1.1, (s.1.2.1, (s.1.2.2.1, (s.1.2.2.2.1, (s.1.2.2.2.2.1, (s.1.2.2.2.2.2.1, (s.1.2.2.2.2.2.2.1, ()))))))), (s.2.1, ()))))
noncomputable def g93_store_check_l1_fuel (s : TY72) : Nat := Int.toNat (s.1.2.2.2.2.2.1 - s.1.2.2.2.2.2.2.1) + 1
noncomputable def g93_store_check_l1_run (s : TY72) : Option TY73 := iter g93_store_check_l1_step (g93_store_check_l1_fuel s) s
noncomputable def g93_store_check_l1_L : LoopT := loopT g93_store_check_l1_S [.exit 2] g93_store_check_l1_run
noncomputable def g93_store_check_l0_S : SPat := ⟨[.any, .any, .any, .dat (.int .i64), .any, .any, .any, .any, .dat (.list T39), .dat (.int .i64), .dat (.int .i64), .any, .any, .any, .any, .any, .any, .any, .any, .any, .any, .any, .any, .any, .any, .any, .any, .any, .any, .any, .any, .any, .any, .any, .any, .any, .any, .any, .any, .any, .any], [], 0⟩
noncomputable def g93_store_check_l0_step (s : ((Int × ((List E39) × (Int × (Int × Unit)))) × Unit)) : Option (Nat × ((Int × ((List E39) × (Int × (Int × Unit)))) × Unit)) :=
  (bif (decide (s.1.2.2.2.1 < s.1.2.2.1)) then
  (bif (decide (0 ≤ s.1.2.2.2.1) && decide (s.1.2.2.2.1 < (List.length s.1.2.1 : Int))) then
    (Option.bind (g67_store_numbers s.1.2.2.2.1 (List.getD s.1.2.1 (Int.toNat s.1.2.2.2.1) (0, ((List.replicate 3 0), (0, ()))))) fun r1 =>
      (Option.bind (g93_store_check_l1_run ((s.1.1, (s.1.2.1, (s.1.2.2.1, (s.1.2.2.2.1, (r1, ((List.length r1 : Int), (0, ()))))))), ((List.getD s.1.2.1 (Int.toNat s.1.2.2.2.1) (0, ((List.replicate 3 0), (0, ())))), ()))) fun q2 =>
        some (0, ((q2.2.1.1, (q2.2.1.2.1, (q2.2.1.2.2.1, ((IntKind.wrap .i64 (q2.2.1.2.2.2.1 + 1)), ())))), ()))))
    else
    none)
  else
  some (1, ((s.1.1, (s.1.2.1, (s.1.2.2.1, (s.1.2.2.2.1, ())))), ())))
noncomputable def g93_store_check_l0_fuel (s : ((Int × ((List E39) × (Int × (Int × Unit)))) × Unit)) : Nat := Int.toNat (s.1.2.2.1 - s.1.2.2.2.1) + 1
noncomputable def g93_store_check_l0_run (s : ((Int × ((List E39) × (Int × (Int × Unit)))) × Unit)) : Option (Nat × ((Int × ((List E39) × (Int × (Int × Unit)))) × Unit)) := iter g93_store_check_l0_step (g93_store_check_l0_fuel s) s
noncomputable def g93_store_check_l0_L : LoopT := loopT g93_store_check_l0_S [.exit 0] g93_store_check_l0_run
noncomputable def g93_store_check (a0 : (List E39)) : Option ByteArray :=
  (Option.bind (g93_store_check_l0_run ((0, (a0, ((List.length a0 : Int), (0, ())))), ())) fun q3 =>
  (Option.bind (itoaM (IntKind.wrap .i64 (Int.tdiv q3.2.1.1 10))) fun r4 =>
    (Option.bind (itoaM (Int.tmod q3.2.1.1 10)) fun r5 =>
      (bif (decide (ByteArray.size r4 + ByteArray.size r5 ≤ LIM)) then
        some (ByteArray.append r4 r5)
        else
        none))))
noncomputable def g93_store_check_E : CEnt := pureE 93 [.dat (.list T39)] (.dat .str) fun x => g93_store_check x.1
theorem g93_store_check_l1_V : LValid 0 Tryd.prog (.loop g93_store_check_l1_c) g93_store_check_l1_L false := by
  have hb : ∀ s, codeR Tryd.prog g93_store_check_C g93_store_check_l1_c [] (g93_store_check_l1_S.encE s) (g93_store_check_l1_S.encB s) (kst g93_store_check_l1_S [.exit 2]) = g93_store_check_l1_step s := by
    intro s; kernel_rfl
  have hL : LV 0 Tryd.prog false (loopsOf g93_store_check_l1_c) [] := by unfold LV; cases loopsOf g93_store_check_l1_c <;> trivial
  exact loopT_valid (fuel := g93_store_check_l1_fuel) mixed g93_store_check_CV hL (by kernel_rfl) (by decide) rfl hb (fun s r h => h)
theorem g93_store_check_l0_V : LValid 0 Tryd.prog (.loop g93_store_check_l0_c) g93_store_check_l0_L false := by
  have hb : ∀ s, codeR Tryd.prog g93_store_check_C g93_store_check_l0_c [g93_store_check_l1_L] (g93_store_check_l0_S.encE s) (g93_store_check_l0_S.encB s) (kst g93_store_check_l0_S [.exit 0]) = g93_store_check_l0_step s := by
    intro s; kernel_rfl
  have hl : loopsOf g93_store_check_l0_c = [.loop g93_store_check_l1_c] := by kernel_rfl
  have hL : LV 0 Tryd.prog false (loopsOf g93_store_check_l0_c) [g93_store_check_l1_L] := by rw [hl]; exact ⟨g93_store_check_l1_V, trivial⟩
  exact loopT_valid (fuel := g93_store_check_l0_fuel) mixed g93_store_check_CV hL (by kernel_rfl) (by decide) rfl hb (fun s r h => h)
theorem g93_store_check_LV : LV 0 Tryd.prog false (loopsOf (bodyOf Tryd.f93)) [g93_store_check_l0_L] := by
  have hl : loopsOf (bodyOf Tryd.f93) = [.loop g93_store_check_l0_c] := by kernel_rfl
  rw [hl]; exact ⟨g93_store_check_l0_V, trivial⟩
theorem g93_store_check_ent : Ent Tryd.prog 93 := ⟨by decide, enters_of Tryd.func93 (by kernel_rfl) rfl⟩
theorem g93_store_check_hev : ∀ x, fnR Tryd.prog g93_store_check_C [g93_store_check_l0_L] Tryd.f93 (bodyOf Tryd.f93) (encs [.dat (.list T39)] x) ⟨[], [], 0⟩ (frzF (.dat .str)) = g93_store_check x.1 := by
  intro x; kernel_rfl
theorem g93_store_check_valid : g93_store_check_E.Valid Tryd.prog :=
  pureE_valid (by kernel_rfl) (by kernel_rfl) g93_store_check_ent (frz_lcall mixed Tryd.func93 rfl g93_store_check_ent g93_store_check_CV g93_store_check_LV (by kernel_rfl) (by kernel_rfl) g93_store_check_hev)

noncomputable def g70_store_end_C : CalT := tabC [itoaM_E, g93_store_check_E]
theorem g70_store_end_CV : CV Tryd.prog g70_store_end_C := tabC_valid (l := [itoaM_E, g93_store_check_E]) ⟨itoaM_valid, g93_store_check_valid, trivial⟩
noncomputable def g70_store_end (a0 : (List E39)) : Option ByteArray :=
  (Option.bind (itoaM (List.length a0 : Int)) fun r1 =>
  (bif (decide (ByteArray.size (⟨#[101, 110, 100, 32]⟩ : ByteArray) + ByteArray.size r1 ≤ LIM)) then
    (bif (decide (ByteArray.size (ByteArray.append (⟨#[101, 110, 100, 32]⟩ : ByteArray) r1) + ByteArray.size (⟨#[32]⟩ : ByteArray) ≤ LIM)) then
      (Option.bind (g93_store_check a0) fun r2 =>
        (bif (decide (ByteArray.size (ByteArray.append (ByteArray.append (⟨#[101, 110, 100, 32]⟩ : ByteArray) r1) (⟨#[32]⟩ : ByteArray)) + ByteArray.size r2 ≤ LIM)) then
          (bif (decide (ByteArray.size (ByteArray.append (ByteArray.append (ByteArray.append (⟨#[101, 110, 100, 32]⟩ : ByteArray) r1) (⟨#[32]⟩ : ByteArray)) r2) + ByteArray.size (⟨#[10]⟩ : ByteArray) ≤ LIM)) then
            some (ByteArray.append (ByteArray.append (ByteArray.append (ByteArray.append (⟨#[101, 110, 100, 32]⟩ : ByteArray) r1) (⟨#[32]⟩ : ByteArray)) r2) (⟨#[10]⟩ : ByteArray))
            else
            none)
          else
          none))
      else
      none)
    else
    none))
noncomputable def g70_store_end_E : CEnt := pureE 70 [.dat (.list T39)] (.dat .str) fun x => g70_store_end x.1
theorem g70_store_end_LV : LV 0 Tryd.prog false (loopsOf (bodyOf Tryd.f70)) [] := by unfold LV; cases loopsOf (bodyOf Tryd.f70) <;> trivial
theorem g70_store_end_ent : Ent Tryd.prog 70 := ⟨by decide, enters_of Tryd.func70 (by kernel_rfl) rfl⟩
theorem g70_store_end_hev : ∀ x, fnR Tryd.prog g70_store_end_C [] Tryd.f70 (bodyOf Tryd.f70) (encs [.dat (.list T39)] x) ⟨[], [], 0⟩ (frzF (.dat .str)) = g70_store_end x.1 := by
  intro x; kernel_rfl
theorem g70_store_end_valid : g70_store_end_E.Valid Tryd.prog :=
  pureE_valid (by kernel_rfl) (by kernel_rfl) g70_store_end_ent (frz_lcall mixed Tryd.func70 rfl g70_store_end_ent g70_store_end_CV g70_store_end_LV (by kernel_rfl) (by kernel_rfl) g70_store_end_hev)

noncomputable def g39_store_Print_C : CalT := tabC [g65_store_manifested_E, g66_strings_Builder_WriteString_E, g67_store_numbers_E, itoaM_E, bstrM_E, g70_store_end_E]
theorem g39_store_Print_CV : CV Tryd.prog g39_store_Print_C := tabC_valid (l := [g65_store_manifested_E, g66_strings_Builder_WriteString_E, g67_store_numbers_E, itoaM_E, bstrM_E, g70_store_end_E]) ⟨g65_store_manifested_valid, g66_strings_Builder_WriteString_valid, g67_store_numbers_valid, itoaM_valid, bstrM_valid, g70_store_end_valid, trivial⟩
noncomputable def g39_store_Print_l0_c : Code := loopAt (bodyOf Tryd.f39) 0
noncomputable def g39_store_Print_l1_c : Code := loopAt g39_store_Print_l0_c 0
noncomputable def g39_store_Print_l1_S : SPat := ⟨[.dat (.list T39), .any, .any, .any, .any, .fix (.bptr 0 []), .any, .any, .any, .any, .any, .any, .any, .any, .any, .dat (.list T39), .dat (.int .i64), .dat (.int .i64), .any, .any, .any, .any, .any, .any, .any, .dat (.list (.int .i64)), .dat (.int .i64), .dat (.int .i64), .any, .any, .any, .any, .any, .any, .any, .any, .any, .any, .any, .any, .any, .any], [.tbox 99 (.cons (.optp 0) (.cons (.own 0 (.int .u8)) (.nil))), .dat T39], 1⟩
abbrev TY74 : Type := (((List E39) × ((List E39) × (Int × (Int × ((List Int) × (Int × (Int × Unit))))))) × ((Unit × ((List Int) × Unit)) × (E39 × Unit)))
abbrev TY75 : Type := (Nat × (((List E39) × ((List E39) × (Int × (Int × ((List Int) × (Int × (Int × Unit))))))) × ((Unit × ((List Int) × Unit)) × (E39 × Unit))))
noncomputable def g39_store_Print_l1_step (s : TY74) : Option TY75 :=
  (bif (decide (s.1.2.2.2.2.2.2.1 < s.1.2.2.2.2.2.1)) then
  (bif (decide (0 ≤ s.1.2.2.2.2.2.2.1) && decide (s.1.2.2.2.2.2.2.1 < (List.length s.1.2.2.2.2.1 : Int))) then
    (Option.bind (itoaM (List.getD s.1.2.2.2.2.1 (Int.toNat s.1.2.2.2.2.2.2.1) 0)) fun r4 =>
      (bif (decide (ByteArray.size (⟨#[32]⟩ : ByteArray) + ByteArray.size r4 ≤ LIM)) then
        (Option.bind (g66_strings_Builder_WriteString (ByteArray.append (⟨#[32]⟩ : ByteArray) r4) ((), s.2.1.2)) fun r5 =>
          some (0, ((s.1.1, (s.1.2.1, (s.1.2.2.1, (s.1.2.2.2.1, (s.1.2.2.2.2.1, (s.1.2.2.2.2.2.1, ((IntKind.wrap .i64 (s.1.2.2.2.2.2.2.1 + 1)), ()))))))), (((), r5.2.1.2), (s.2.2.1, ())))))
        else
        none))
    else
    none)
  else
  some (1, ((s.1.1, (s.1.2.1, (s.1.2.2.1, (s.1.2.2.2.1, (s.1.2.2.2.2.1, (s.1.2.2.2.2.2.1, (s.1.2.2.2.2.2.2.1, ()))))))), (((), s.2.1.2), (s.2.2.1, ())))))
noncomputable def g39_store_Print_l1_fuel (s : TY74) : Nat := Int.toNat (s.1.2.2.2.2.2.1 - s.1.2.2.2.2.2.2.1) + 1
noncomputable def g39_store_Print_l1_run (s : TY74) : Option TY75 := iter g39_store_Print_l1_step (g39_store_Print_l1_fuel s) s
noncomputable def g39_store_Print_l1_L : LoopT := loopT g39_store_Print_l1_S [.exit 2] g39_store_Print_l1_run
noncomputable def g39_store_Print_l0_S : SPat := ⟨[.dat (.list T39), .any, .any, .any, .any, .fix (.bptr 0 []), .any, .any, .any, .any, .any, .any, .any, .any, .any, .dat (.list T39), .dat (.int .i64), .dat (.int .i64), .any, .any, .any, .any, .any, .any, .any, .any, .any, .any, .any, .any, .any, .any, .any, .any, .any, .any, .any, .any, .any, .any, .any, .any], [.tbox 99 (.cons (.optp 0) (.cons (.own 0 (.int .u8)) (.nil)))], 1⟩
abbrev TY76 : Type := (((List E39) × ((List E39) × (Int × (Int × Unit)))) × ((Unit × ((List Int) × Unit)) × Unit))
abbrev TY77 : Type := (Nat × (((List E39) × ((List E39) × (Int × (Int × Unit)))) × ((Unit × ((List Int) × Unit)) × Unit)))
noncomputable def g39_store_Print_l0_step (s : TY76) : Option TY77 :=
  (bif (decide (s.1.2.2.2.1 < s.1.2.2.1)) then
  (bif (decide (0 ≤ s.1.2.2.2.1) && decide (s.1.2.2.2.1 < (List.length s.1.2.1 : Int))) then
    (Option.bind (g66_strings_Builder_WriteString (⟨#[115, 104, 105, 112]⟩ : ByteArray) ((), s.2.1.2)) fun r2 =>
      (Option.bind (g67_store_numbers s.1.2.2.2.1 (List.getD s.1.2.1 (Int.toNat s.1.2.2.2.1) (0, ((List.replicate 3 0), (0, ()))))) fun r3 =>
        (Option.bind (g39_store_Print_l1_run ((s.1.1, (s.1.2.1, (s.1.2.2.1, (s.1.2.2.2.1, (r3, ((List.length r3 : Int), (0, ()))))))), (((), r2.2.1.2), ((List.getD s.1.2.1 (Int.toNat s.1.2.2.2.1) (0, ((List.replicate 3 0), (0, ())))), ())))) fun q6 =>
          (Option.bind (g66_strings_Builder_WriteString (⟨#[10]⟩ : ByteArray) ((), q6.2.2.1.2)) fun r7 =>
            some (0, ((q6.2.1.1, (q6.2.1.2.1, (q6.2.1.2.2.1, ((IntKind.wrap .i64 (q6.2.1.2.2.2.1 + 1)), ())))), (((), r7.2.1.2), ())))))))
    else
    none)
  else
  some (1, ((s.1.1, (s.1.2.1, (s.1.2.2.1, (s.1.2.2.2.1, ())))), (((), s.2.1.2), ()))))
noncomputable def g39_store_Print_l0_fuel (s : TY76) : Nat := Int.toNat (s.1.2.2.1 - s.1.2.2.2.1) + 1
noncomputable def g39_store_Print_l0_run (s : TY76) : Option TY77 := iter g39_store_Print_l0_step (g39_store_Print_l0_fuel s) s
noncomputable def g39_store_Print_l0_L : LoopT := loopT g39_store_Print_l0_S [.exit 0] g39_store_Print_l0_run
noncomputable def g39_store_Print (a0 : (List E39)) : Option (ByteArray × (Int × Unit)) :=
  (Option.bind (g65_store_manifested a0) fun r1 =>
  (bif (r1 != 0) then
    some ((⟨#[]⟩ : ByteArray), (r1, ()))
    else
    (Option.bind (g39_store_Print_l0_run ((a0, (a0, ((List.length a0 : Int), (0, ())))), (((), ([], ())), ()))) fun q8 =>
      (Option.bind (bstrM ((), q8.2.2.1.2)) fun r9 =>
        (Option.bind (g70_store_end q8.2.1.1) fun r10 =>
          (bif (decide (ByteArray.size r9.1 + ByteArray.size r10 ≤ LIM)) then
            some ((ByteArray.append r9.1 r10), (0, ()))
            else
            none))))))
noncomputable def g39_store_Print_E : CEnt := pureE 39 [.dat (.list T39)] (.tup (.cons (.dat .str) (.cons (.dat (.int .i64)) (.nil)))) fun x => g39_store_Print x.1
theorem g39_store_Print_l1_V : LValid 0 Tryd.prog (.loop g39_store_Print_l1_c) g39_store_Print_l1_L false := by
  have hb : ∀ s, codeR Tryd.prog g39_store_Print_C g39_store_Print_l1_c [] (g39_store_Print_l1_S.encE s) (g39_store_Print_l1_S.encB s) (kst g39_store_Print_l1_S [.exit 2]) = g39_store_Print_l1_step s := by
    intro s; kernel_rfl
  have hL : LV 0 Tryd.prog false (loopsOf g39_store_Print_l1_c) [] := by unfold LV; cases loopsOf g39_store_Print_l1_c <;> trivial
  exact loopT_valid (fuel := g39_store_Print_l1_fuel) mixed g39_store_Print_CV hL (by kernel_rfl) (by decide) rfl hb (fun s r h => h)
theorem g39_store_Print_l0_V : LValid 0 Tryd.prog (.loop g39_store_Print_l0_c) g39_store_Print_l0_L false := by
  have hb : ∀ s, codeR Tryd.prog g39_store_Print_C g39_store_Print_l0_c [g39_store_Print_l1_L] (g39_store_Print_l0_S.encE s) (g39_store_Print_l0_S.encB s) (kst g39_store_Print_l0_S [.exit 0]) = g39_store_Print_l0_step s := by
    intro s; kernel_rfl
  have hl : loopsOf g39_store_Print_l0_c = [.loop g39_store_Print_l1_c] := by kernel_rfl
  have hL : LV 0 Tryd.prog false (loopsOf g39_store_Print_l0_c) [g39_store_Print_l1_L] := by rw [hl]; exact ⟨g39_store_Print_l1_V, trivial⟩
  exact loopT_valid (fuel := g39_store_Print_l0_fuel) mixed g39_store_Print_CV hL (by kernel_rfl) (by decide) rfl hb (fun s r h => h)
theorem g39_store_Print_LV : LV 0 Tryd.prog false (loopsOf (bodyOf Tryd.f39)) [g39_store_Print_l0_L] := by
  have hl : loopsOf (bodyOf Tryd.f39) = [.loop g39_store_Print_l0_c] := by kernel_rfl
  rw [hl]; exact ⟨g39_store_Print_l0_V, trivial⟩
theorem g39_store_Print_ent : Ent Tryd.prog 39 := ⟨by decide, enters_of Tryd.func39 (by kernel_rfl) rfl⟩
theorem g39_store_Print_hev : ∀ x, fnR Tryd.prog g39_store_Print_C [g39_store_Print_l0_L] Tryd.f39 (bodyOf Tryd.f39) (encs [.dat (.list T39)] x) ⟨[], [], 0⟩ (frzF (.tup (.cons (.dat .str) (.cons (.dat (.int .i64)) (.nil))))) = g39_store_Print x.1 := by
  intro x; kernel_rfl
theorem g39_store_Print_valid : g39_store_Print_E.Valid Tryd.prog :=
  pureE_valid (by kernel_rfl) (by kernel_rfl) g39_store_Print_ent (frz_lcall mixed Tryd.func39 rfl g39_store_Print_ent g39_store_Print_CV g39_store_Print_LV (by kernel_rfl) (by kernel_rfl) g39_store_Print_hev)

noncomputable def g50_talikref06_SameGoods_C : CalT := tabC []
theorem g50_talikref06_SameGoods_CV : CV Tryd.prog g50_talikref06_SameGoods_C := tabC_valid (l := []) trivial
noncomputable def g50_talikref06_SameGoods_l0_c : Code := loopAt (bodyOf Tryd.f50) 0
noncomputable def g50_talikref06_SameGoods_l0_S : SPat := ⟨[.dat (.list (.arr 3 (.int .i64))), .dat (.list (.arr 3 (.int .i64))), .any, .any, .dat .bool, .dat (.int .i64), .any, .any, .any, .any, .any, .any, .any, .any, .any, .any, .any, .any, .any, .any, .any, .any, .any, .any, .any, .any], [], 0⟩
abbrev TY78 : Type := (((List (List Int)) × ((List (List Int)) × (Bool × (Int × Unit)))) × Unit)
abbrev TY79 : Type := (Nat × (((List (List Int)) × ((List (List Int)) × (Bool × (Int × Unit)))) × Unit))
noncomputable def g50_talikref06_SameGoods_l0_step (s : TY78) : Option TY79 :=
  (bif (decide (s.1.2.2.2.1 < (List.length s.1.1 : Int))) then
  (bif (decide (0 ≤ s.1.2.2.2.1) && decide (s.1.2.2.2.1 < (List.length s.1.1 : Int))) then
    (bif (decide (0 ≤ s.1.2.2.2.1) && decide (s.1.2.2.2.1 < (List.length s.1.2.1 : Int))) then
      (bif (!((List.range' 0 3).all (fun e0 : Nat => ((List.getD (List.getD s.1.1 (Int.toNat s.1.2.2.2.1) (List.replicate 3 0)) e0 0) == (List.getD (List.getD s.1.2.1 (Int.toNat s.1.2.2.2.1) (List.replicate 3 0)) e0 0))))) then
        some (1, ((s.1.1, (s.1.2.1, (false, (s.1.2.2.2.1, ())))), ()))
        else
        some (0, ((s.1.1, (s.1.2.1, (s.1.2.2.1, ((IntKind.wrap .i64 (s.1.2.2.2.1 + 1)), ())))), ())))
      else
      none)
    else
    none)
  else
  some (2, ((s.1.1, (s.1.2.1, (s.1.2.2.1, (s.1.2.2.2.1, ())))), ())))
noncomputable def g50_talikref06_SameGoods_l0_fuel (s : TY78) : Nat := Int.toNat ((List.length s.1.1 : Int) - s.1.2.2.2.1) + 1
noncomputable def g50_talikref06_SameGoods_l0_run (s : TY78) : Option TY79 := iter g50_talikref06_SameGoods_l0_step (g50_talikref06_SameGoods_l0_fuel s) s
noncomputable def g50_talikref06_SameGoods_l0_L : LoopT := loopT g50_talikref06_SameGoods_l0_S [.ret, .exit 0] g50_talikref06_SameGoods_l0_run
noncomputable def g50_talikref06_SameGoods (a0 : (List (List Int))) (a1 : (List (List Int))) : Option Bool :=
  (bif ((List.length a0 : Int) != (List.length a1 : Int)) then
  some false
  else
  (Option.bind (g50_talikref06_SameGoods_l0_run ((a0, (a1, (false, (0, ())))), ())) fun q1 =>
    (natK q1.1
      (some q1.2.1.2.2.1)
      (fun _ => some true))))
noncomputable def g50_talikref06_SameGoods_E : CEnt := pureE 50 [.dat (.list (.arr 3 (.int .i64))), .dat (.list (.arr 3 (.int .i64)))] (.dat .bool) fun x => g50_talikref06_SameGoods x.1 x.2.1
theorem g50_talikref06_SameGoods_l0_V : LValid 0 Tryd.prog (.loop g50_talikref06_SameGoods_l0_c) g50_talikref06_SameGoods_l0_L false := by
  have hb : ∀ s, codeR Tryd.prog g50_talikref06_SameGoods_C g50_talikref06_SameGoods_l0_c [] (g50_talikref06_SameGoods_l0_S.encE s) (g50_talikref06_SameGoods_l0_S.encB s) (kst g50_talikref06_SameGoods_l0_S [.ret, .exit 0]) = g50_talikref06_SameGoods_l0_step s := by
    intro s; kernel_rfl
  have hL : LV 0 Tryd.prog false (loopsOf g50_talikref06_SameGoods_l0_c) [] := by unfold LV; cases loopsOf g50_talikref06_SameGoods_l0_c <;> trivial
  exact loopT_valid (fuel := g50_talikref06_SameGoods_l0_fuel) mixed g50_talikref06_SameGoods_CV hL (by kernel_rfl) (by decide) rfl hb (fun s r h => h)
theorem g50_talikref06_SameGoods_LV : LV 0 Tryd.prog false (loopsOf (bodyOf Tryd.f50)) [g50_talikref06_SameGoods_l0_L] := by
  have hl : loopsOf (bodyOf Tryd.f50) = [.loop g50_talikref06_SameGoods_l0_c] := by kernel_rfl
  rw [hl]; exact ⟨g50_talikref06_SameGoods_l0_V, trivial⟩
theorem g50_talikref06_SameGoods_ent : Ent Tryd.prog 50 := ⟨by decide, enters_of Tryd.func50 (by kernel_rfl) rfl⟩
theorem g50_talikref06_SameGoods_hev : ∀ x, fnR Tryd.prog g50_talikref06_SameGoods_C [g50_talikref06_SameGoods_l0_L] Tryd.f50 (bodyOf Tryd.f50) (encs [.dat (.list (.arr 3 (.int .i64))), .dat (.list (.arr 3 (.int .i64)))] x) ⟨[], [], 0⟩ (frzF (.dat .bool)) = g50_talikref06_SameGoods x.1 x.2.1 := by
  intro x; kernel_rfl
theorem g50_talikref06_SameGoods_valid : g50_talikref06_SameGoods_E.Valid Tryd.prog :=
  pureE_valid (by kernel_rfl) (by kernel_rfl) g50_talikref06_SameGoods_ent (frz_lcall mixed Tryd.func50 rfl g50_talikref06_SameGoods_ent g50_talikref06_SameGoods_CV g50_talikref06_SameGoods_LV (by kernel_rfl) (by kernel_rfl) g50_talikref06_SameGoods_hev)

noncomputable def g20_taliklaw06_known_C : CalT := tabC [g48_taliklaw06_Store_E, g21_store_Run_E, g24_store_Fault_E, g25_store_First_E, g28_store_Best_E, g31_store_Floor_E, g49_taliklaw06_Ships_E, g39_store_Print_E, g50_talikref06_SameGoods_E]
theorem g20_taliklaw06_known_CV : CV Tryd.prog g20_taliklaw06_known_C := tabC_valid (l := [g48_taliklaw06_Store_E, g21_store_Run_E, g24_store_Fault_E, g25_store_First_E, g28_store_Best_E, g31_store_Floor_E, g49_taliklaw06_Ships_E, g39_store_Print_E, g50_talikref06_SameGoods_E]) ⟨g48_taliklaw06_Store_valid, g21_store_Run_valid, g24_store_Fault_valid, g25_store_First_valid, g28_store_Best_valid, g31_store_Floor_valid, g49_taliklaw06_Ships_valid, g39_store_Print_valid, g50_talikref06_SameGoods_valid, trivial⟩
noncomputable def g20_taliklaw06_known : Option Bool :=
  (Option.bind g48_taliklaw06_Store fun r1 =>
  (Option.bind (g21_store_Run r1 2 0 0) fun r2 =>
    (Option.bind g48_taliklaw06_Store fun r3 =>
      (Option.bind (g24_store_Fault r3 1) fun r4 =>
        (Option.bind g48_taliklaw06_Store fun r5 =>
          (Option.bind (g25_store_First r5 1) fun r6 =>
            (Option.bind g48_taliklaw06_Store fun r7 =>
              (Option.bind (g28_store_Best r7) fun r8 =>
                (Option.bind g48_taliklaw06_Store fun r9 =>
                  (Option.bind (g31_store_Floor r9 0 (0 :: (10 :: (0 :: [])))) fun r10 =>
                    (Option.bind g49_taliklaw06_Ships fun r11 =>
                      (Option.bind (g39_store_Print r11) fun r12 =>
                        (bif (r2.2.1 != 0) then
                          some false
                          else
                          (bif (r4.2.1 != 0) then
                            some false
                            else
                            (bif (r6.2.2.1 != 0) then
                              some false
                              else
                              (bif (r8.2.2.1 != 0) then
                                some false
                                else
                                (bif (r10.2.1 != 0) then
                                  some false
                                  else
                                  (bif (r12.2.1 != 0) then
                                    some false
                                    else
                                    (Option.bind (g50_talikref06_SameGoods r2.1.2.1 [(1 :: (0 :: (0 :: []))), (2 :: (1 :: (0 :: []))), (1 :: (2 :: (1 :: []))), (0 :: (1 :: (0 :: [])))]) fun r13 =>
                                      (bif r13 then
                                        (bif ((r4.1.1 == true) && ((r4.1.2.1 == 0) && ((r4.1.2.2.1 == 0) && ((r4.1.2.2.2.1 == 3) && ((r4.1.2.2.2.2.1 == 1) && true))))) then
                                          (bif (r6.1 == 1) then
                                            (bif (r6.2.1 == 1) then
                                              (bif (r8.1 == 2) then
                                                (bif (r8.2.1 == 40) then
                                                  (bif (r10.1 == 30) then
                                                    some (ByteArray.toList r12.1 == ByteArray.toList (⟨#[115, 104, 105, 112, 32, 48, 32, 48, 32, 53, 48, 32, 52, 32, 50, 32, 49, 10, 115, 104, 105, 112, 32, 49, 32, 49, 32, 52, 48, 32, 50, 32, 52, 32, 49, 10, 115, 104, 105, 112, 32, 50, 32, 48, 32, 49, 48, 48, 32, 54, 32, 54, 32, 51, 10, 101, 110, 100, 32, 51, 32, 51, 52, 10]⟩ : ByteArray))
                                                    else
                                                    some false)
                                                  else
                                                  some false)
                                                else
                                                some false)
                                              else
                                              some false)
                                            else
                                            some false)
                                          else
                                          some false)
                                        else
                                        some false))))))))))))))))))))
noncomputable def g20_taliklaw06_known_E : CEnt := pureE 20 [] (.dat .bool) fun x => g20_taliklaw06_known
theorem g20_taliklaw06_known_LV : LV 0 Tryd.prog false (loopsOf (bodyOf Tryd.f20)) [] := by unfold LV; cases loopsOf (bodyOf Tryd.f20) <;> trivial
theorem g20_taliklaw06_known_ent : Ent Tryd.prog 20 := ⟨by decide, enters_of Tryd.func20 (by kernel_rfl) rfl⟩
theorem g20_taliklaw06_known_hev : ∀ x, fnR Tryd.prog g20_taliklaw06_known_C [] Tryd.f20 (bodyOf Tryd.f20) (encs [] x) ⟨[], [], 0⟩ (frzF (.dat .bool)) = g20_taliklaw06_known := by
  intro x; kernel_rfl
theorem g20_taliklaw06_known_valid : g20_taliklaw06_known_E.Valid Tryd.prog :=
  pureE_valid (by kernel_rfl) (by kernel_rfl) g20_taliklaw06_known_ent (frz_lcall mixed Tryd.func20 rfl g20_taliklaw06_known_ent g20_taliklaw06_known_CV g20_taliklaw06_known_LV (by kernel_rfl) (by kernel_rfl) g20_taliklaw06_known_hev)

noncomputable def g46_talikref06_in_C : CalT := tabC []
theorem g46_talikref06_in_CV : CV Tryd.prog g46_talikref06_in_C := tabC_valid (l := []) trivial
noncomputable def g46_talikref06_in (a0 : Int) (a1 : Int) (a2 : Int) : Option Bool :=
  (bif (decide (a0 ≥ a1)) then
  some (decide (a0 ≤ a2))
  else
  some false)
noncomputable def g46_talikref06_in_E : CEnt := pureE 46 [.dat (.int .i64), .dat (.int .i64), .dat (.int .i64)] (.dat .bool) fun x => g46_talikref06_in x.1 x.2.1 x.2.2.1
theorem g46_talikref06_in_LV : LV 0 Tryd.prog false (loopsOf (bodyOf Tryd.f46)) [] := by unfold LV; cases loopsOf (bodyOf Tryd.f46) <;> trivial
theorem g46_talikref06_in_ent : Ent Tryd.prog 46 := ⟨by decide, enters_of Tryd.func46 (by kernel_rfl) rfl⟩
theorem g46_talikref06_in_hev : ∀ x, fnR Tryd.prog g46_talikref06_in_C [] Tryd.f46 (bodyOf Tryd.f46) (encs [.dat (.int .i64), .dat (.int .i64), .dat (.int .i64)] x) ⟨[], [], 0⟩ (frzF (.dat .bool)) = g46_talikref06_in x.1 x.2.1 x.2.2.1 := by
  intro x; kernel_rfl
theorem g46_talikref06_in_valid : g46_talikref06_in_E.Valid Tryd.prog :=
  pureE_valid (by kernel_rfl) (by kernel_rfl) g46_talikref06_in_ent (frz_lcall mixed Tryd.func46 rfl g46_talikref06_in_ent g46_talikref06_in_CV g46_talikref06_in_LV (by kernel_rfl) (by kernel_rfl) g46_talikref06_in_hev)

noncomputable def g45_talikref06_Goods_C : CalT := tabC [g46_talikref06_in_E]
theorem g45_talikref06_Goods_CV : CV Tryd.prog g45_talikref06_Goods_C := tabC_valid (l := [g46_talikref06_in_E]) ⟨g46_talikref06_in_valid, trivial⟩
noncomputable def g45_talikref06_Goods (a0 : (List Int)) : Option Bool :=
  (Option.bind (g46_talikref06_in (List.getD a0 (Int.toNat 0) 0) 0 1000) fun r1 =>
  (bif r1 then
    (Option.bind (g46_talikref06_in (List.getD a0 (Int.toNat 1) 0) 0 1000) fun r2 =>
      (bif r2 then
        (Option.bind (g46_talikref06_in (List.getD a0 (Int.toNat 2) 0) 0 1000) fun r3 =>
          some r3)
        else
        some false))
    else
    some false))
noncomputable def g45_talikref06_Goods_E : CEnt := pureE 45 [.dat (.arr 3 (.int .i64))] (.dat .bool) fun x => g45_talikref06_Goods x.1
theorem g45_talikref06_Goods_LV : LV 0 Tryd.prog false (loopsOf (bodyOf Tryd.f45)) [] := by unfold LV; cases loopsOf (bodyOf Tryd.f45) <;> trivial
theorem g45_talikref06_Goods_ent : Ent Tryd.prog 45 := ⟨by decide, enters_of Tryd.func45 (by kernel_rfl) rfl⟩
theorem g45_talikref06_Goods_hev : ∀ x, fnR Tryd.prog g45_talikref06_Goods_C [] Tryd.f45 (bodyOf Tryd.f45) (encs [.dat (.arr 3 (.int .i64))] x) ⟨[], [], 0⟩ (frzF (.dat .bool)) = g45_talikref06_Goods x.1 := by
  intro x; kernel_rfl
theorem g45_talikref06_Goods_valid : g45_talikref06_Goods_E.Valid Tryd.prog :=
  pureE_valid (by kernel_rfl) (by kernel_rfl) g45_talikref06_Goods_ent (frz_lcall mixed Tryd.func45 rfl g45_talikref06_Goods_ent g45_talikref06_Goods_CV g45_talikref06_Goods_LV (by kernel_rfl) (by kernel_rfl) g45_talikref06_Goods_hev)

noncomputable def g40_talikref06_Ships_C : CalT := tabC [g46_talikref06_in_E, g45_talikref06_Goods_E]
theorem g40_talikref06_Ships_CV : CV Tryd.prog g40_talikref06_Ships_C := tabC_valid (l := [g46_talikref06_in_E, g45_talikref06_Goods_E]) ⟨g46_talikref06_in_valid, g45_talikref06_Goods_valid, trivial⟩
noncomputable def g40_talikref06_Ships_l0_c : Code := loopAt (bodyOf Tryd.f40) 0
noncomputable def g40_talikref06_Ships_l0_S : SPat := ⟨[.dat (.list T39), .any, .dat .bool, .dat (.int .i64), .any, .any, .any, .any, .any, .any, .any, .any, .any, .any, .any, .any, .any, .any, .any, .any, .any, .any, .any, .any, .any, .any, .any, .any, .any, .any, .any, .any, .any, .any, .any], [], 0⟩
noncomputable def g40_talikref06_Ships_l0_step (s : (((List E39) × (Bool × (Int × Unit))) × Unit)) : Option (Nat × (((List E39) × (Bool × (Int × Unit))) × Unit)) :=
  (bif (decide (s.1.2.2.1 < (List.length s.1.1 : Int))) then
  (bif (decide (0 ≤ s.1.2.2.1) && decide (s.1.2.2.1 < (List.length s.1.1 : Int))) then
    (Option.bind (g46_talikref06_in ((List.getD s.1.1 (Int.toNat s.1.2.2.1) (0, ((List.replicate 3 0), (0, ())))).1) 0 7) fun r1 =>
      (bif (!r1) then
        some (1, ((s.1.1, (false, (s.1.2.2.1, ()))), ()))
        else
        (bif (decide (0 ≤ s.1.2.2.1) && decide (s.1.2.2.1 < (List.length s.1.1 : Int))) then
          (Option.bind (g45_talikref06_Goods ((List.getD s.1.1 (Int.toNat s.1.2.2.1) (0, ((List.replicate 3 0), (0, ())))).2.1)) fun r2 =>
            (bif (!r2) then
              some (1, ((s.1.1, (false, (s.1.2.2.1, ()))), ()))
              else
              (bif (decide (0 ≤ s.1.2.2.1) && decide (s.1.2.2.1 < (List.length s.1.1 : Int))) then
                (Option.bind (g46_talikref06_in ((List.getD s.1.1 (Int.toNat s.1.2.2.1) (0, ((List.replicate 3 0), (0, ())))).2.2.1) 0 1000000) fun r3 =>
                  (bif (!r3) then
                    some (1, ((s.1.1, (false, (s.1.2.2.1, ()))), ()))
                    else
                    some (0, ((s.1.1, (s.1.2.1, ((IntKind.wrap .i64 (s.1.2.2.1 + 1)), ()))), ()))))
                else
                none)))
          else
          none)))
    else
    none)
  else
  some (2, ((s.1.1, (s.1.2.1, (s.1.2.2.1, ()))), ())))
noncomputable def g40_talikref06_Ships_l0_fuel (s : (((List E39) × (Bool × (Int × Unit))) × Unit)) : Nat := Int.toNat ((List.length s.1.1 : Int) - s.1.2.2.1) + 1
noncomputable def g40_talikref06_Ships_l0_run (s : (((List E39) × (Bool × (Int × Unit))) × Unit)) : Option (Nat × (((List E39) × (Bool × (Int × Unit))) × Unit)) := iter g40_talikref06_Ships_l0_step (g40_talikref06_Ships_l0_fuel s) s
noncomputable def g40_talikref06_Ships_l0_L : LoopT := loopT g40_talikref06_Ships_l0_S [.ret, .exit 0] g40_talikref06_Ships_l0_run
noncomputable def g40_talikref06_Ships (a0 : (List E39)) : Option Bool :=
  (Option.bind (g40_talikref06_Ships_l0_run ((a0, (false, (0, ()))), ())) fun q4 =>
  (natK q4.1
    (some q4.2.1.2.1)
    (fun _ => some true)))
noncomputable def g40_talikref06_Ships_E : CEnt := pureE 40 [.dat (.list T39)] (.dat .bool) fun x => g40_talikref06_Ships x.1
theorem g40_talikref06_Ships_l0_V : LValid 0 Tryd.prog (.loop g40_talikref06_Ships_l0_c) g40_talikref06_Ships_l0_L false := by
  have hb : ∀ s, codeR Tryd.prog g40_talikref06_Ships_C g40_talikref06_Ships_l0_c [] (g40_talikref06_Ships_l0_S.encE s) (g40_talikref06_Ships_l0_S.encB s) (kst g40_talikref06_Ships_l0_S [.ret, .exit 0]) = g40_talikref06_Ships_l0_step s := by
    intro s; kernel_rfl
  have hL : LV 0 Tryd.prog false (loopsOf g40_talikref06_Ships_l0_c) [] := by unfold LV; cases loopsOf g40_talikref06_Ships_l0_c <;> trivial
  exact loopT_valid (fuel := g40_talikref06_Ships_l0_fuel) mixed g40_talikref06_Ships_CV hL (by kernel_rfl) (by decide) rfl hb (fun s r h => h)
theorem g40_talikref06_Ships_LV : LV 0 Tryd.prog false (loopsOf (bodyOf Tryd.f40)) [g40_talikref06_Ships_l0_L] := by
  have hl : loopsOf (bodyOf Tryd.f40) = [.loop g40_talikref06_Ships_l0_c] := by kernel_rfl
  rw [hl]; exact ⟨g40_talikref06_Ships_l0_V, trivial⟩
theorem g40_talikref06_Ships_ent : Ent Tryd.prog 40 := ⟨by decide, enters_of Tryd.func40 (by kernel_rfl) rfl⟩
theorem g40_talikref06_Ships_hev : ∀ x, fnR Tryd.prog g40_talikref06_Ships_C [g40_talikref06_Ships_l0_L] Tryd.f40 (bodyOf Tryd.f40) (encs [.dat (.list T39)] x) ⟨[], [], 0⟩ (frzF (.dat .bool)) = g40_talikref06_Ships x.1 := by
  intro x; kernel_rfl
theorem g40_talikref06_Ships_valid : g40_talikref06_Ships_E.Valid Tryd.prog :=
  pureE_valid (by kernel_rfl) (by kernel_rfl) g40_talikref06_Ships_ent (frz_lcall mixed Tryd.func40 rfl g40_talikref06_Ships_ent g40_talikref06_Ships_CV g40_talikref06_Ships_LV (by kernel_rfl) (by kernel_rfl) g40_talikref06_Ships_hev)

noncomputable def g16_talikref06_Store_C : CalT := tabC [g45_talikref06_Goods_E, g46_talikref06_in_E, g40_talikref06_Ships_E]
theorem g16_talikref06_Store_CV : CV Tryd.prog g16_talikref06_Store_C := tabC_valid (l := [g45_talikref06_Goods_E, g46_talikref06_in_E, g40_talikref06_Ships_E]) ⟨g45_talikref06_Goods_valid, g46_talikref06_in_valid, g40_talikref06_Ships_valid, trivial⟩
noncomputable def g16_talikref06_Store_l0_c : Code := loopAt (bodyOf Tryd.f16) 0
noncomputable def g16_talikref06_Store_l1_c : Code := loopAt (bodyOf Tryd.f16) 1
noncomputable def g16_talikref06_Store_l2_c : Code := loopAt g16_talikref06_Store_l1_c 0
noncomputable def g16_talikref06_Store_l0_S : SPat := ⟨[.any, .fix (.bptr 0 []), .dat .bool, .dat (.int .i64), .any, .any, .any, .any, .any, .any, .any, .any, .any, .any, .any, .any, .any, .any, .any, .any, .any, .any, .any, .any, .any, .any, .any, .any, .any, .any, .any, .any, .any, .any, .any, .any, .any, .any, .any, .any, .any, .any, .any, .any, .any, .any, .any, .any, .any, .any, .any, .any, .any, .any, .any, .any, .any, .any, .any, .any, .any, .any, .any, .any, .any, .any, .any, .any, .any, .any, .any, .any, .any, .any, .any, .any, .any, .any, .any, .any, .any, .any, .any, .any, .any, .any, .any, .any, .any, .any, .any, .any, .any, .any, .any, .any, .any, .any, .any, .any, .any, .any, .any, .any, .any, .any, .any, .any, .any, .any, .any, .any, .any, .any, .any, .any, .any, .any, .any, .any, .any, .any, .any, .any, .any, .any, .any, .any, .any, .any, .any, .any, .any, .any, .any, .any, .any, .any], [.dat T27], 0⟩
noncomputable def g16_talikref06_Store_l0_step (s : ((Bool × (Int × Unit)) × (E27 × Unit))) : Option (Nat × ((Bool × (Int × Unit)) × (E27 × Unit))) :=
  (bif (decide (s.1.2.1 < (List.length s.2.1.2.2.2.2.2.2.1 : Int))) then
  (bif (decide (0 ≤ s.1.2.1) && decide (s.1.2.1 < (List.length s.2.1.2.2.2.2.2.2.1 : Int))) then
    (bif ((List.length (List.getD s.2.1.2.2.2.2.2.2.1 (Int.toNat s.1.2.1) []) : Int) != s.2.1.2.2.2.2.1) then
      some (1, ((false, (s.1.2.1, ())), (s.2.1, ())))
      else
      some (0, ((s.1.1, ((IntKind.wrap .i64 (s.1.2.1 + 1)), ())), (s.2.1, ()))))
    else
    none)
  else
  some (2, ((s.1.1, (s.1.2.1, ())), (s.2.1, ()))))
noncomputable def g16_talikref06_Store_l0_fuel (s : ((Bool × (Int × Unit)) × (E27 × Unit))) : Nat := Int.toNat ((List.length s.2.1.2.2.2.2.2.2.1 : Int) - s.1.2.1) + 1
noncomputable def g16_talikref06_Store_l0_run (s : ((Bool × (Int × Unit)) × (E27 × Unit))) : Option (Nat × ((Bool × (Int × Unit)) × (E27 × Unit))) := iter g16_talikref06_Store_l0_step (g16_talikref06_Store_l0_fuel s) s
noncomputable def g16_talikref06_Store_l0_L : LoopT := loopT g16_talikref06_Store_l0_S [.ret, .exit 0] g16_talikref06_Store_l0_run
noncomputable def g16_talikref06_Store_l2_S : SPat := ⟨[.any, .fix (.bptr 0 []), .dat .bool, .any, .dat (.int .i64), .dat (.int .i64), .any, .any, .any, .any, .any, .any, .any, .any, .any, .any, .any, .any, .any, .any, .any, .any, .any, .any, .any, .any, .any, .any, .any, .any, .any, .any, .any, .any, .any, .any, .any, .any, .any, .any, .any, .any, .any, .any, .any, .any, .any, .any, .any, .any, .any, .any, .any, .any, .any, .any, .any, .any, .any, .any, .any, .any, .any, .any, .any, .any, .any, .any, .any, .any, .any, .any, .any, .any, .any, .any, .any, .any, .any, .any, .any, .any, .any, .any, .any, .any, .any, .any, .any, .any, .any, .any, .any, .any, .any, .any, .any, .any, .any, .any, .any, .any, .any, .any, .any, .any, .any, .any, .any, .any, .any, .any, .any, .any, .any, .any, .any, .any, .any, .any, .any, .any, .any, .any, .any, .any, .any, .any, .any, .any, .any, .any, .any, .any, .any, .any, .any, .any], [.dat T27], 0⟩
noncomputable def g16_talikref06_Store_l2_step (s : ((Bool × (Int × (Int × Unit))) × (E27 × Unit))) : Option (Nat × ((Bool × (Int × (Int × Unit))) × (E27 × Unit))) :=
  (bif (decide (0 ≤ s.1.2.1) && decide (s.1.2.1 < (List.length s.2.1.2.2.2.2.2.2.2.1 : Int))) then
  (bif (decide (s.1.2.2.1 < (List.length (List.getD s.2.1.2.2.2.2.2.2.2.1 (Int.toNat s.1.2.1) []) : Int))) then
    (bif (decide (0 ≤ s.1.2.1) && decide (s.1.2.1 < (List.length s.2.1.2.2.2.2.2.2.2.1 : Int))) then
      (bif (decide (0 ≤ s.1.2.2.1) && decide (s.1.2.2.1 < (List.length (List.getD s.2.1.2.2.2.2.2.2.2.1 (Int.toNat s.1.2.1) []) : Int))) then
        (Option.bind (g45_talikref06_Goods (List.getD (List.getD s.2.1.2.2.2.2.2.2.2.1 (Int.toNat s.1.2.1) []) (Int.toNat s.1.2.2.1) (List.replicate 3 0))) fun r4 =>
          (bif (!r4) then
            some (1, ((false, (s.1.2.1, (s.1.2.2.1, ()))), (s.2.1, ())))
            else
            some (0, ((s.1.1, (s.1.2.1, ((IntKind.wrap .i64 (s.1.2.2.1 + 1)), ()))), (s.2.1, ())))))
        else
        none)
      else
      none)
    else
    some (2, ((s.1.1, (s.1.2.1, (s.1.2.2.1, ()))), (s.2.1, ()))))
  else
  none)
noncomputable def g16_talikref06_Store_l2_fuel (s : ((Bool × (Int × (Int × Unit))) × (E27 × Unit))) : Nat := Int.toNat ((List.length (List.getD s.2.1.2.2.2.2.2.2.2.1 (Int.toNat s.1.2.1) []) : Int) - s.1.2.2.1) + 1
noncomputable def g16_talikref06_Store_l2_run (s : ((Bool × (Int × (Int × Unit))) × (E27 × Unit))) : Option (Nat × ((Bool × (Int × (Int × Unit))) × (E27 × Unit))) := iter g16_talikref06_Store_l2_step (g16_talikref06_Store_l2_fuel s) s
noncomputable def g16_talikref06_Store_l2_L : LoopT := loopT g16_talikref06_Store_l2_S [.ret, .exit 4] g16_talikref06_Store_l2_run
noncomputable def g16_talikref06_Store_l1_S : SPat := ⟨[.any, .fix (.bptr 0 []), .dat .bool, .any, .dat (.int .i64), .any, .any, .any, .any, .any, .any, .any, .any, .any, .any, .any, .any, .any, .any, .any, .any, .any, .any, .any, .any, .any, .any, .any, .any, .any, .any, .any, .any, .any, .any, .any, .any, .any, .any, .any, .any, .any, .any, .any, .any, .any, .any, .any, .any, .any, .any, .any, .any, .any, .any, .any, .any, .any, .any, .any, .any, .any, .any, .any, .any, .any, .any, .any, .any, .any, .any, .any, .any, .any, .any, .any, .any, .any, .any, .any, .any, .any, .any, .any, .any, .any, .any, .any, .any, .any, .any, .any, .any, .any, .any, .any, .any, .any, .any, .any, .any, .any, .any, .any, .any, .any, .any, .any, .any, .any, .any, .any, .any, .any, .any, .any, .any, .any, .any, .any, .any, .any, .any, .any, .any, .any, .any, .any, .any, .any, .any, .any, .any, .any, .any, .any, .any, .any], [.dat T27], 0⟩
noncomputable def g16_talikref06_Store_l1_step (s : ((Bool × (Int × Unit)) × (E27 × Unit))) : Option (Nat × ((Bool × (Int × Unit)) × (E27 × Unit))) :=
  (bif (decide (s.1.2.1 < (List.length s.2.1.2.2.2.2.2.2.2.1 : Int))) then
  (bif (decide (0 ≤ s.1.2.1) && decide (s.1.2.1 < (List.length s.2.1.2.2.2.2.2.2.2.1 : Int))) then
    (bif ((List.length (List.getD s.2.1.2.2.2.2.2.2.2.1 (Int.toNat s.1.2.1) []) : Int) != s.2.1.2.2.2.1) then
      some (1, ((false, (s.1.2.1, ())), (s.2.1, ())))
      else
      (Option.bind (g16_talikref06_Store_l2_run ((s.1.1, (s.1.2.1, (0, ()))), (s.2.1, ()))) fun q5 =>
        (natK q5.1
          (some (1, ((q5.2.1.1, (q5.2.1.2.1, ())), (q5.2.2.1, ()))))
          (fun _ => some (0, ((q5.2.1.1, ((IntKind.wrap .i64 (q5.2.1.2.1 + 1)), ())), (q5.2.2.1, ())))))))
    else
    none)
  else
  some (2, ((s.1.1, (s.1.2.1, ())), (s.2.1, ()))))
noncomputable def g16_talikref06_Store_l1_fuel (s : ((Bool × (Int × Unit)) × (E27 × Unit))) : Nat := Int.toNat ((List.length s.2.1.2.2.2.2.2.2.2.1 : Int) - s.1.2.1) + 1
noncomputable def g16_talikref06_Store_l1_run (s : ((Bool × (Int × Unit)) × (E27 × Unit))) : Option (Nat × ((Bool × (Int × Unit)) × (E27 × Unit))) := iter g16_talikref06_Store_l1_step (g16_talikref06_Store_l1_fuel s) s
noncomputable def g16_talikref06_Store_l1_L : LoopT := loopT g16_talikref06_Store_l1_S [.ret, .exit 2] g16_talikref06_Store_l1_run
noncomputable def g16_talikref06_Store (a0 : E27) : Option Bool :=
  (Option.bind (g45_talikref06_Goods a0.1) fun r1 =>
  (bif (!r1) then
    some false
    else
    (Option.bind (g45_talikref06_Goods a0.2.1) fun r2 =>
      (bif (!r2) then
        some false
        else
        (bif (decide ((List.getD a0.1 (Int.toNat 0) 0) > (List.getD a0.2.1 (Int.toNat 0) 0))) then
          some false
          else
          (bif (decide ((List.getD a0.1 (Int.toNat 1) 0) > (List.getD a0.2.1 (Int.toNat 1) 0))) then
            some false
            else
            (bif (decide ((List.getD a0.1 (Int.toNat 2) 0) > (List.getD a0.2.1 (Int.toNat 2) 0))) then
              some false
              else
              (Option.bind (g16_talikref06_Store_l0_run ((false, (0, ())), (a0, ()))) fun q3 =>
                (natK q3.1
                  (some q3.2.1.1)
                  (fun _ => (Option.bind (g16_talikref06_Store_l1_run ((q3.2.1.1, (0, ())), (q3.2.2.1, ()))) fun q6 =>
                    (natK q6.1
                      (some q6.2.1.1)
                      (fun _ => (Option.bind (g46_talikref06_in q6.2.2.1.2.2.1 0 3000) fun r7 =>
                        (bif r7 then
                          (Option.bind (g46_talikref06_in q6.2.2.1.2.2.2.1 1 30) fun r8 =>
                            (bif r8 then
                              (Option.bind (g46_talikref06_in q6.2.2.1.2.2.2.2.1 1 8) fun r9 =>
                                (bif r9 then
                                  (bif (decide (q6.2.2.1.2.2.2.2.1 ≤ q6.2.2.1.2.2.2.1)) then
                                    (bif (decide ((List.length q6.2.2.1.2.2.2.2.2.1 : Int) ≤ 6)) then
                                      (Option.bind (g40_talikref06_Ships q6.2.2.1.2.2.2.2.2.1) fun r10 =>
                                        (bif r10 then
                                          (Option.bind (g46_talikref06_in (List.length q6.2.2.1.2.2.2.2.2.2.1 : Int) 1 4) fun r11 =>
                                            (bif r11 then
                                              (Option.bind (g46_talikref06_in (List.length q6.2.2.1.2.2.2.2.2.2.2.1 : Int) 1 4) fun r12 =>
                                                some r12)
                                              else
                                              some false))
                                          else
                                          some false))
                                      else
                                      some false)
                                    else
                                    some false)
                                  else
                                  some false))
                              else
                              some false))
                          else
                          some false)))))))))))))))
noncomputable def g16_talikref06_Store_E : CEnt := pureE 16 [.dat T27] (.dat .bool) fun x => g16_talikref06_Store x.1
theorem g16_talikref06_Store_l0_V : LValid 0 Tryd.prog (.loop g16_talikref06_Store_l0_c) g16_talikref06_Store_l0_L false := by
  have hb : ∀ s, codeR Tryd.prog g16_talikref06_Store_C g16_talikref06_Store_l0_c [] (g16_talikref06_Store_l0_S.encE s) (g16_talikref06_Store_l0_S.encB s) (kst g16_talikref06_Store_l0_S [.ret, .exit 0]) = g16_talikref06_Store_l0_step s := by
    intro s; kernel_rfl
  have hL : LV 0 Tryd.prog false (loopsOf g16_talikref06_Store_l0_c) [] := by unfold LV; cases loopsOf g16_talikref06_Store_l0_c <;> trivial
  exact loopT_valid (fuel := g16_talikref06_Store_l0_fuel) mixed g16_talikref06_Store_CV hL (by kernel_rfl) (by decide) rfl hb (fun s r h => h)
theorem g16_talikref06_Store_l2_V : LValid 0 Tryd.prog (.loop g16_talikref06_Store_l2_c) g16_talikref06_Store_l2_L false := by
  have hb : ∀ s, codeR Tryd.prog g16_talikref06_Store_C g16_talikref06_Store_l2_c [] (g16_talikref06_Store_l2_S.encE s) (g16_talikref06_Store_l2_S.encB s) (kst g16_talikref06_Store_l2_S [.ret, .exit 4]) = g16_talikref06_Store_l2_step s := by
    intro s; kernel_rfl
  have hL : LV 0 Tryd.prog false (loopsOf g16_talikref06_Store_l2_c) [] := by unfold LV; cases loopsOf g16_talikref06_Store_l2_c <;> trivial
  exact loopT_valid (fuel := g16_talikref06_Store_l2_fuel) mixed g16_talikref06_Store_CV hL (by kernel_rfl) (by decide) rfl hb (fun s r h => h)
theorem g16_talikref06_Store_l1_V : LValid 0 Tryd.prog (.loop g16_talikref06_Store_l1_c) g16_talikref06_Store_l1_L false := by
  have hb : ∀ s, codeR Tryd.prog g16_talikref06_Store_C g16_talikref06_Store_l1_c [g16_talikref06_Store_l2_L] (g16_talikref06_Store_l1_S.encE s) (g16_talikref06_Store_l1_S.encB s) (kst g16_talikref06_Store_l1_S [.ret, .exit 2]) = g16_talikref06_Store_l1_step s := by
    intro s; kernel_rfl
  have hl : loopsOf g16_talikref06_Store_l1_c = [.loop g16_talikref06_Store_l2_c] := by kernel_rfl
  have hL : LV 0 Tryd.prog false (loopsOf g16_talikref06_Store_l1_c) [g16_talikref06_Store_l2_L] := by rw [hl]; exact ⟨g16_talikref06_Store_l2_V, trivial⟩
  exact loopT_valid (fuel := g16_talikref06_Store_l1_fuel) mixed g16_talikref06_Store_CV hL (by kernel_rfl) (by decide) rfl hb (fun s r h => h)
theorem g16_talikref06_Store_LV : LV 0 Tryd.prog false (loopsOf (bodyOf Tryd.f16)) [g16_talikref06_Store_l0_L, g16_talikref06_Store_l1_L] := by
  have hl : loopsOf (bodyOf Tryd.f16) = [.loop g16_talikref06_Store_l0_c, .loop g16_talikref06_Store_l1_c] := by kernel_rfl
  rw [hl]; exact ⟨g16_talikref06_Store_l0_V, g16_talikref06_Store_l1_V, trivial⟩
theorem g16_talikref06_Store_ent : Ent Tryd.prog 16 := ⟨by decide, enters_of Tryd.func16 (by kernel_rfl) rfl⟩
theorem g16_talikref06_Store_hev : ∀ x, fnR Tryd.prog g16_talikref06_Store_C [g16_talikref06_Store_l0_L, g16_talikref06_Store_l1_L] Tryd.f16 (bodyOf Tryd.f16) (encs [.dat T27] x) ⟨[], [], 0⟩ (frzF (.dat .bool)) = g16_talikref06_Store x.1 := by
  intro x; kernel_rfl
theorem g16_talikref06_Store_valid : g16_talikref06_Store_E.Valid Tryd.prog :=
  pureE_valid (by kernel_rfl) (by kernel_rfl) g16_talikref06_Store_ent (frz_lcall mixed Tryd.func16 rfl g16_talikref06_Store_ent g16_talikref06_Store_CV g16_talikref06_Store_LV (by kernel_rfl) (by kernel_rfl) g16_talikref06_Store_hev)

noncomputable def g47_talikref06_Plans_C : CalT := tabC []
theorem g47_talikref06_Plans_CV : CV Tryd.prog g47_talikref06_Plans_C := tabC_valid (l := []) trivial
noncomputable def g47_talikref06_Plans_l0_c : Code := loopAt (bodyOf Tryd.f47) 0
noncomputable def g47_talikref06_Plans_l0_S : SPat := ⟨[.any, .fix (.bptr 0 []), .any, .dat (.int .i64), .dat (.int .i64), .any, .any, .any, .any, .any, .any, .any, .any, .any, .any], [.dat T27], 0⟩
noncomputable def g47_talikref06_Plans_l0_step (s : ((Int × (Int × Unit)) × (E27 × Unit))) : Option (Nat × ((Int × (Int × Unit)) × (E27 × Unit))) :=
  (bif (decide (s.1.2.1 < (List.length s.2.1.2.2.2.2.2.1 : Int))) then
  some (0, (((IntKind.wrap .i64 ((2 : Int) * s.1.1)), ((IntKind.wrap .i64 (s.1.2.1 + 1)), ())), (s.2.1, ())))
  else
  some (1, ((s.1.1, (s.1.2.1, ())), (s.2.1, ()))))
noncomputable def g47_talikref06_Plans_l0_fuel (s : ((Int × (Int × Unit)) × (E27 × Unit))) : Nat := Int.toNat ((List.length s.2.1.2.2.2.2.2.1 : Int) - s.1.2.1) + 1
noncomputable def g47_talikref06_Plans_l0_run (s : ((Int × (Int × Unit)) × (E27 × Unit))) : Option (Nat × ((Int × (Int × Unit)) × (E27 × Unit))) := iter g47_talikref06_Plans_l0_step (g47_talikref06_Plans_l0_fuel s) s
noncomputable def g47_talikref06_Plans_l0_L : LoopT := loopT g47_talikref06_Plans_l0_S [.exit 0] g47_talikref06_Plans_l0_run
noncomputable def g47_talikref06_Plans (a0 : E27) : Option Int :=
  (Option.bind (g47_talikref06_Plans_l0_run ((1, (0, ())), (a0, ()))) fun q1 =>
  some q1.2.1.1)
noncomputable def g47_talikref06_Plans_E : CEnt := pureE 47 [.dat T27] (.dat (.int .i64)) fun x => g47_talikref06_Plans x.1
theorem g47_talikref06_Plans_l0_V : LValid 0 Tryd.prog (.loop g47_talikref06_Plans_l0_c) g47_talikref06_Plans_l0_L false := by
  have hb : ∀ s, codeR Tryd.prog g47_talikref06_Plans_C g47_talikref06_Plans_l0_c [] (g47_talikref06_Plans_l0_S.encE s) (g47_talikref06_Plans_l0_S.encB s) (kst g47_talikref06_Plans_l0_S [.exit 0]) = g47_talikref06_Plans_l0_step s := by
    intro s; kernel_rfl
  have hL : LV 0 Tryd.prog false (loopsOf g47_talikref06_Plans_l0_c) [] := by unfold LV; cases loopsOf g47_talikref06_Plans_l0_c <;> trivial
  exact loopT_valid (fuel := g47_talikref06_Plans_l0_fuel) mixed g47_talikref06_Plans_CV hL (by kernel_rfl) (by decide) rfl hb (fun s r h => h)
theorem g47_talikref06_Plans_LV : LV 0 Tryd.prog false (loopsOf (bodyOf Tryd.f47)) [g47_talikref06_Plans_l0_L] := by
  have hl : loopsOf (bodyOf Tryd.f47) = [.loop g47_talikref06_Plans_l0_c] := by kernel_rfl
  rw [hl]; exact ⟨g47_talikref06_Plans_l0_V, trivial⟩
theorem g47_talikref06_Plans_ent : Ent Tryd.prog 47 := ⟨by decide, enters_of Tryd.func47 (by kernel_rfl) rfl⟩
theorem g47_talikref06_Plans_hev : ∀ x, fnR Tryd.prog g47_talikref06_Plans_C [g47_talikref06_Plans_l0_L] Tryd.f47 (bodyOf Tryd.f47) (encs [.dat T27] x) ⟨[], [], 0⟩ (frzF (.dat (.int .i64))) = g47_talikref06_Plans x.1 := by
  intro x; kernel_rfl
theorem g47_talikref06_Plans_valid : g47_talikref06_Plans_E.Valid Tryd.prog :=
  pureE_valid (by kernel_rfl) (by kernel_rfl) g47_talikref06_Plans_ent (frz_lcall mixed Tryd.func47 rfl g47_talikref06_Plans_ent g47_talikref06_Plans_CV g47_talikref06_Plans_LV (by kernel_rfl) (by kernel_rfl) g47_talikref06_Plans_hev)

noncomputable def g17_talikref06_Plan_C : CalT := tabC [g47_talikref06_Plans_E, g46_talikref06_in_E]
theorem g17_talikref06_Plan_CV : CV Tryd.prog g17_talikref06_Plan_C := tabC_valid (l := [g47_talikref06_Plans_E, g46_talikref06_in_E]) ⟨g47_talikref06_Plans_valid, g46_talikref06_in_valid, trivial⟩
noncomputable def g17_talikref06_Plan (a0 : E27) (a1 : Int) : Option Bool :=
  (Option.bind (g47_talikref06_Plans a0) fun r1 =>
  (Option.bind (g46_talikref06_in a1 0 (IntKind.wrap .i64 (r1 - 1))) fun r2 =>
    some r2))
noncomputable def g17_talikref06_Plan_E : CEnt := pureE 17 [.dat T27, .dat (.int .i64)] (.dat .bool) fun x => g17_talikref06_Plan x.1 x.2.1
theorem g17_talikref06_Plan_LV : LV 0 Tryd.prog false (loopsOf (bodyOf Tryd.f17)) [] := by unfold LV; cases loopsOf (bodyOf Tryd.f17) <;> trivial
theorem g17_talikref06_Plan_ent : Ent Tryd.prog 17 := ⟨by decide, enters_of Tryd.func17 (by kernel_rfl) rfl⟩
theorem g17_talikref06_Plan_hev : ∀ x, fnR Tryd.prog g17_talikref06_Plan_C [] Tryd.f17 (bodyOf Tryd.f17) (encs [.dat T27, .dat (.int .i64)] x) ⟨[], [], 0⟩ (frzF (.dat .bool)) = g17_talikref06_Plan x.1 x.2.1 := by
  intro x; kernel_rfl
theorem g17_talikref06_Plan_valid : g17_talikref06_Plan_E.Valid Tryd.prog :=
  pureE_valid (by kernel_rfl) (by kernel_rfl) g17_talikref06_Plan_ent (frz_lcall mixed Tryd.func17 rfl g17_talikref06_Plan_ent g17_talikref06_Plan_CV g17_talikref06_Plan_LV (by kernel_rfl) (by kernel_rfl) g17_talikref06_Plan_hev)

noncomputable def g22_talikref06_Has_C : CalT := tabC []
theorem g22_talikref06_Has_CV : CV Tryd.prog g22_talikref06_Has_C := tabC_valid (l := []) trivial
noncomputable def g22_talikref06_Has_l0_c : Code := loopAt (bodyOf Tryd.f22) 0
noncomputable def g22_talikref06_Has_l0_S : SPat := ⟨[.dat (.int .i64), .dat (.int .i64), .any, .any, .any, .dat (.int .i64), .any, .any, .any, .any, .any, .any, .any, .any, .any, .any], [], 0⟩
noncomputable def g22_talikref06_Has_l0_step (s : ((Int × (Int × (Int × Unit))) × Unit)) : Option (Nat × ((Int × (Int × (Int × Unit))) × Unit)) :=
  (bif (decide (s.1.2.2.1 < s.1.2.1)) then
  some (0, (((IntKind.wrap .i64 (Int.tdiv s.1.1 2)), (s.1.2.1, ((IntKind.wrap .i64 (s.1.2.2.1 + 1)), ()))), ()))
  else
  some (1, ((s.1.1, (s.1.2.1, (s.1.2.2.1, ()))), ())))
noncomputable def g22_talikref06_Has_l0_fuel (s : ((Int × (Int × (Int × Unit))) × Unit)) : Nat := Int.toNat (s.1.2.1 - s.1.2.2.1) + 1
noncomputable def g22_talikref06_Has_l0_run (s : ((Int × (Int × (Int × Unit))) × Unit)) : Option (Nat × ((Int × (Int × (Int × Unit))) × Unit)) := iter g22_talikref06_Has_l0_step (g22_talikref06_Has_l0_fuel s) s
noncomputable def g22_talikref06_Has_l0_L : LoopT := loopT g22_talikref06_Has_l0_S [.exit 0] g22_talikref06_Has_l0_run
noncomputable def g22_talikref06_Has (a0 : Int) (a1 : Int) : Option Bool :=
  (Option.bind (g22_talikref06_Has_l0_run ((a0, (a1, (0, ()))), ())) fun q1 =>
  some ((Int.tmod q1.2.1.1 2) == 1))
noncomputable def g22_talikref06_Has_E : CEnt := pureE 22 [.dat (.int .i64), .dat (.int .i64)] (.dat .bool) fun x => g22_talikref06_Has x.1 x.2.1
theorem g22_talikref06_Has_l0_V : LValid 0 Tryd.prog (.loop g22_talikref06_Has_l0_c) g22_talikref06_Has_l0_L false := by
  have hb : ∀ s, codeR Tryd.prog g22_talikref06_Has_C g22_talikref06_Has_l0_c [] (g22_talikref06_Has_l0_S.encE s) (g22_talikref06_Has_l0_S.encB s) (kst g22_talikref06_Has_l0_S [.exit 0]) = g22_talikref06_Has_l0_step s := by
    intro s; kernel_rfl
  have hL : LV 0 Tryd.prog false (loopsOf g22_talikref06_Has_l0_c) [] := by unfold LV; cases loopsOf g22_talikref06_Has_l0_c <;> trivial
  exact loopT_valid (fuel := g22_talikref06_Has_l0_fuel) mixed g22_talikref06_Has_CV hL (by kernel_rfl) (by decide) rfl hb (fun s r h => h)
theorem g22_talikref06_Has_LV : LV 0 Tryd.prog false (loopsOf (bodyOf Tryd.f22)) [g22_talikref06_Has_l0_L] := by
  have hl : loopsOf (bodyOf Tryd.f22) = [.loop g22_talikref06_Has_l0_c] := by kernel_rfl
  rw [hl]; exact ⟨g22_talikref06_Has_l0_V, trivial⟩
theorem g22_talikref06_Has_ent : Ent Tryd.prog 22 := ⟨by decide, enters_of Tryd.func22 (by kernel_rfl) rfl⟩
theorem g22_talikref06_Has_hev : ∀ x, fnR Tryd.prog g22_talikref06_Has_C [g22_talikref06_Has_l0_L] Tryd.f22 (bodyOf Tryd.f22) (encs [.dat (.int .i64), .dat (.int .i64)] x) ⟨[], [], 0⟩ (frzF (.dat .bool)) = g22_talikref06_Has x.1 x.2.1 := by
  intro x; kernel_rfl
theorem g22_talikref06_Has_valid : g22_talikref06_Has_E.Valid Tryd.prog :=
  pureE_valid (by kernel_rfl) (by kernel_rfl) g22_talikref06_Has_ent (frz_lcall mixed Tryd.func22 rfl g22_talikref06_Has_ent g22_talikref06_Has_CV g22_talikref06_Has_LV (by kernel_rfl) (by kernel_rfl) g22_talikref06_Has_hev)

noncomputable def g23_talikref06_Arrives_C : CalT := tabC []
theorem g23_talikref06_Arrives_CV : CV Tryd.prog g23_talikref06_Arrives_C := tabC_valid (l := []) trivial
noncomputable def g23_talikref06_Arrives_l0_c : Code := loopAt (bodyOf Tryd.f23) 0
noncomputable def g23_talikref06_Arrives_l0_S : SPat := ⟨[.any, .any, .dat (.int .i64), .fix (.bptr 0 []), .any, .any, .dat (.int .i64), .dat (.int .i64), .any, .any, .any, .any, .any, .any, .any, .any, .any, .any, .any, .any, .any, .any, .any, .any, .any, .any, .any, .any, .any], [.dat T27], 0⟩
noncomputable def g23_talikref06_Arrives_l0_step (s : ((Int × (Int × (Int × Unit))) × (E27 × Unit))) : Option (Nat × ((Int × (Int × (Int × Unit))) × (E27 × Unit))) :=
  (bif (decide (s.1.2.2.1 < s.2.1.2.2.2.2.1)) then
  (bif (decide (0 ≤ s.1.1) && decide (s.1.1 < (List.length s.2.1.2.2.2.2.2.2.1 : Int))) then
    (bif (decide (0 ≤ s.1.2.2.1) && decide (s.1.2.2.1 < (List.length (List.getD s.2.1.2.2.2.2.2.2.1 (Int.toNat s.1.1) []) : Int))) then
      (bif (List.getD (List.getD s.2.1.2.2.2.2.2.2.1 (Int.toNat s.1.1) []) (Int.toNat s.1.2.2.1) false) then
        some (1, ((s.1.1, (s.1.2.2.1, (s.1.2.2.1, ()))), (s.2.1, ())))
        else
        some (0, ((s.1.1, (s.1.2.1, ((IntKind.wrap .i64 (s.1.2.2.1 + 1)), ()))), (s.2.1, ()))))
      else
      none)
    else
    none)
  else
  some (2, ((s.1.1, (s.1.2.1, (s.1.2.2.1, ()))), (s.2.1, ()))))
noncomputable def g23_talikref06_Arrives_l0_fuel (s : ((Int × (Int × (Int × Unit))) × (E27 × Unit))) : Nat := Int.toNat (s.2.1.2.2.2.2.1 - s.1.2.2.1) + 1
noncomputable def g23_talikref06_Arrives_l0_run (s : ((Int × (Int × (Int × Unit))) × (E27 × Unit))) : Option (Nat × ((Int × (Int × (Int × Unit))) × (E27 × Unit))) := iter g23_talikref06_Arrives_l0_step (g23_talikref06_Arrives_l0_fuel s) s
noncomputable def g23_talikref06_Arrives_l0_L : LoopT := loopT g23_talikref06_Arrives_l0_S [.ret, .exit 0] g23_talikref06_Arrives_l0_run
noncomputable def g23_talikref06_Arrives (a0 : E27) (a1 : Int) (a2 : Int) : Option Int :=
  (bif (decide (0 ≤ a1) && decide (a1 < (List.length a0.2.2.2.2.2.1 : Int))) then
  (Option.bind (g23_talikref06_Arrives_l0_run ((a2, (0, ((List.getD a0.2.2.2.2.2.1 (Int.toNat a1) (0, ((List.replicate 3 0), (0, ())))).1, ()))), (a0, ()))) fun q1 =>
    (natK q1.1
      (some q1.2.1.2.1)
      (fun _ => some (-1))))
  else
  none)
noncomputable def g23_talikref06_Arrives_E : CEnt := pureE 23 [.dat T27, .dat (.int .i64), .dat (.int .i64)] (.dat (.int .i64)) fun x => g23_talikref06_Arrives x.1 x.2.1 x.2.2.1
theorem g23_talikref06_Arrives_l0_V : LValid 0 Tryd.prog (.loop g23_talikref06_Arrives_l0_c) g23_talikref06_Arrives_l0_L false := by
  have hb : ∀ s, codeR Tryd.prog g23_talikref06_Arrives_C g23_talikref06_Arrives_l0_c [] (g23_talikref06_Arrives_l0_S.encE s) (g23_talikref06_Arrives_l0_S.encB s) (kst g23_talikref06_Arrives_l0_S [.ret, .exit 0]) = g23_talikref06_Arrives_l0_step s := by
    intro s; kernel_rfl
  have hL : LV 0 Tryd.prog false (loopsOf g23_talikref06_Arrives_l0_c) [] := by unfold LV; cases loopsOf g23_talikref06_Arrives_l0_c <;> trivial
  exact loopT_valid (fuel := g23_talikref06_Arrives_l0_fuel) mixed g23_talikref06_Arrives_CV hL (by kernel_rfl) (by decide) rfl hb (fun s r h => h)
theorem g23_talikref06_Arrives_LV : LV 0 Tryd.prog false (loopsOf (bodyOf Tryd.f23)) [g23_talikref06_Arrives_l0_L] := by
  have hl : loopsOf (bodyOf Tryd.f23) = [.loop g23_talikref06_Arrives_l0_c] := by kernel_rfl
  rw [hl]; exact ⟨g23_talikref06_Arrives_l0_V, trivial⟩
theorem g23_talikref06_Arrives_ent : Ent Tryd.prog 23 := ⟨by decide, enters_of Tryd.func23 (by kernel_rfl) rfl⟩
theorem g23_talikref06_Arrives_hev : ∀ x, fnR Tryd.prog g23_talikref06_Arrives_C [g23_talikref06_Arrives_l0_L] Tryd.f23 (bodyOf Tryd.f23) (encs [.dat T27, .dat (.int .i64), .dat (.int .i64)] x) ⟨[], [], 0⟩ (frzF (.dat (.int .i64))) = g23_talikref06_Arrives x.1 x.2.1 x.2.2.1 := by
  intro x; kernel_rfl
theorem g23_talikref06_Arrives_valid : g23_talikref06_Arrives_E.Valid Tryd.prog :=
  pureE_valid (by kernel_rfl) (by kernel_rfl) g23_talikref06_Arrives_ent (frz_lcall mixed Tryd.func23 rfl g23_talikref06_Arrives_ent g23_talikref06_Arrives_CV g23_talikref06_Arrives_LV (by kernel_rfl) (by kernel_rfl) g23_talikref06_Arrives_hev)

noncomputable def g64_talikref06_Queue_C : CalT := tabC [g22_talikref06_Has_E, g23_talikref06_Arrives_E]
theorem g64_talikref06_Queue_CV : CV Tryd.prog g64_talikref06_Queue_C := tabC_valid (l := [g22_talikref06_Has_E, g23_talikref06_Arrives_E]) ⟨g22_talikref06_Has_valid, g23_talikref06_Arrives_valid, trivial⟩
noncomputable def g64_talikref06_Queue_l0_c : Code := loopAt (bodyOf Tryd.f64) 0
noncomputable def g64_talikref06_Queue_l1_c : Code := loopAt g64_talikref06_Queue_l0_c 0
noncomputable def g64_talikref06_Queue_l1_S : SPat := ⟨[.any, .dat (.int .i64), .dat (.int .i64), .fix (.bptr 0 []), .any, .any, .any, .own 0 (.int .i64), .dat (.int .i64), .dat (.int .i64), .any, .any, .any, .any, .any, .any, .any, .any, .any, .any, .any, .any, .any, .any, .any, .any, .any, .any, .any, .any, .any, .any, .any, .any, .any, .any, .any, .any, .any], [.dat T27], 1⟩
abbrev TY80 : Type := (Nat × ((Int × (Int × ((List Int) × (Int × (Int × Unit))))) × (E27 × Unit)))
noncomputable def g64_talikref06_Queue_l1_step (s : ((Int × (Int × ((List Int) × (Int × (Int × Unit))))) × (E27 × Unit))) : Option TY80 :=
  (bif (decide (s.1.2.2.2.2.1 < (List.length s.2.1.2.2.2.2.2.1 : Int))) then
  (Option.bind (g22_talikref06_Has s.1.1 s.1.2.2.2.2.1) fun r1 =>
    (bif r1 then
      (Option.bind (g23_talikref06_Arrives s.2.1 s.1.2.2.2.2.1 s.1.2.1) fun r2 =>
        (bif (r2 == s.1.2.2.2.1) then
          (bif (decide (List.length s.1.2.2.1 + List.length [s.1.2.2.2.2.1] ≤ LIM)) then
            some (0, ((s.1.1, (s.1.2.1, ((s.1.2.2.1 ++ [s.1.2.2.2.2.1]), (s.1.2.2.2.1, ((IntKind.wrap .i64 (s.1.2.2.2.2.1 + 1)), ()))))), (s.2.1, ())))
            else
            none)
          else
          some (0, ((s.1.1, (s.1.2.1, (s.1.2.2.1, (s.1.2.2.2.1, ((IntKind.wrap .i64 (s.1.2.2.2.2.1 + 1)), ()))))), (s.2.1, ())))))
      else
      some (0, ((s.1.1, (s.1.2.1, (s.1.2.2.1, (s.1.2.2.2.1, ((IntKind.wrap .i64 (s.1.2.2.2.2.1 + 1)), ()))))), (s.2.1, ())))))
  else
  some (1, ((s.1.1, (s.1.2.1, (s.1.2.2.1, (s.1.2.2.2.1, (s.1.2.2.2.2.1, ()))))), (s.2.1, ()))))
noncomputable def g64_talikref06_Queue_l1_fuel (s : ((Int × (Int × ((List Int) × (Int × (Int × Unit))))) × (E27 × Unit))) : Nat := Int.toNat ((List.length s.2.1.2.2.2.2.2.1 : Int) - s.1.2.2.2.2.1) + 1
noncomputable def g64_talikref06_Queue_l1_run (s : ((Int × (Int × ((List Int) × (Int × (Int × Unit))))) × (E27 × Unit))) : Option TY80 := iter g64_talikref06_Queue_l1_step (g64_talikref06_Queue_l1_fuel s) s
noncomputable def g64_talikref06_Queue_l1_L : LoopT := loopT g64_talikref06_Queue_l1_S [.exit 2] g64_talikref06_Queue_l1_run
noncomputable def g64_talikref06_Queue_l0_S : SPat := ⟨[.any, .dat (.int .i64), .dat (.int .i64), .fix (.bptr 0 []), .any, .any, .any, .own 0 (.int .i64), .dat (.int .i64), .any, .any, .any, .any, .any, .any, .any, .any, .any, .any, .any, .any, .any, .any, .any, .any, .any, .any, .any, .any, .any, .any, .any, .any, .any, .any, .any, .any, .any, .any], [.dat T27], 1⟩
noncomputable def g64_talikref06_Queue_l0_step (s : ((Int × (Int × ((List Int) × (Int × Unit)))) × (E27 × Unit))) : Option (Nat × ((Int × (Int × ((List Int) × (Int × Unit)))) × (E27 × Unit))) :=
  (bif (decide (s.1.2.2.2.1 < s.2.1.2.2.2.2.1)) then
  (Option.bind (g64_talikref06_Queue_l1_run ((s.1.1, (s.1.2.1, (s.1.2.2.1, (s.1.2.2.2.1, (0, ()))))), (s.2.1, ()))) fun q3 =>
    some (0, ((q3.2.1.1, (q3.2.1.2.1, (q3.2.1.2.2.1, ((IntKind.wrap .i64 (q3.2.1.2.2.2.1 + 1)), ())))), (q3.2.2.1, ()))))
  else
  some (1, ((s.1.1, (s.1.2.1, (s.1.2.2.1, (s.1.2.2.2.1, ())))), (s.2.1, ()))))
noncomputable def g64_talikref06_Queue_l0_fuel (s : ((Int × (Int × ((List Int) × (Int × Unit)))) × (E27 × Unit))) : Nat := Int.toNat (s.2.1.2.2.2.2.1 - s.1.2.2.2.1) + 1
noncomputable def g64_talikref06_Queue_l0_run (s : ((Int × (Int × ((List Int) × (Int × Unit)))) × (E27 × Unit))) : Option (Nat × ((Int × (Int × ((List Int) × (Int × Unit)))) × (E27 × Unit))) := iter g64_talikref06_Queue_l0_step (g64_talikref06_Queue_l0_fuel s) s
noncomputable def g64_talikref06_Queue_l0_L : LoopT := loopT g64_talikref06_Queue_l0_S [.exit 0] g64_talikref06_Queue_l0_run
noncomputable def g64_talikref06_Queue (a0 : E27) (a1 : Int) (a2 : Int) : Option (List Int) :=
  (Option.bind (g64_talikref06_Queue_l0_run ((a1, (a2, ([], (0, ())))), (a0, ()))) fun q4 =>
  some q4.2.1.2.2.1)
noncomputable def g64_talikref06_Queue_E : CEnt := pureE 64 [.dat T27, .dat (.int .i64), .dat (.int .i64)] (.dat (.list (.int .i64))) fun x => g64_talikref06_Queue x.1 x.2.1 x.2.2.1
theorem g64_talikref06_Queue_l1_V : LValid 0 Tryd.prog (.loop g64_talikref06_Queue_l1_c) g64_talikref06_Queue_l1_L false := by
  have hb : ∀ s, codeR Tryd.prog g64_talikref06_Queue_C g64_talikref06_Queue_l1_c [] (g64_talikref06_Queue_l1_S.encE s) (g64_talikref06_Queue_l1_S.encB s) (kst g64_talikref06_Queue_l1_S [.exit 2]) = g64_talikref06_Queue_l1_step s := by
    intro s; kernel_rfl
  have hL : LV 0 Tryd.prog false (loopsOf g64_talikref06_Queue_l1_c) [] := by unfold LV; cases loopsOf g64_talikref06_Queue_l1_c <;> trivial
  exact loopT_valid (fuel := g64_talikref06_Queue_l1_fuel) mixed g64_talikref06_Queue_CV hL (by kernel_rfl) (by decide) rfl hb (fun s r h => h)
theorem g64_talikref06_Queue_l0_V : LValid 0 Tryd.prog (.loop g64_talikref06_Queue_l0_c) g64_talikref06_Queue_l0_L false := by
  have hb : ∀ s, codeR Tryd.prog g64_talikref06_Queue_C g64_talikref06_Queue_l0_c [g64_talikref06_Queue_l1_L] (g64_talikref06_Queue_l0_S.encE s) (g64_talikref06_Queue_l0_S.encB s) (kst g64_talikref06_Queue_l0_S [.exit 0]) = g64_talikref06_Queue_l0_step s := by
    intro s; kernel_rfl
  have hl : loopsOf g64_talikref06_Queue_l0_c = [.loop g64_talikref06_Queue_l1_c] := by kernel_rfl
  have hL : LV 0 Tryd.prog false (loopsOf g64_talikref06_Queue_l0_c) [g64_talikref06_Queue_l1_L] := by rw [hl]; exact ⟨g64_talikref06_Queue_l1_V, trivial⟩
  exact loopT_valid (fuel := g64_talikref06_Queue_l0_fuel) mixed g64_talikref06_Queue_CV hL (by kernel_rfl) (by decide) rfl hb (fun s r h => h)
theorem g64_talikref06_Queue_LV : LV 0 Tryd.prog false (loopsOf (bodyOf Tryd.f64)) [g64_talikref06_Queue_l0_L] := by
  have hl : loopsOf (bodyOf Tryd.f64) = [.loop g64_talikref06_Queue_l0_c] := by kernel_rfl
  rw [hl]; exact ⟨g64_talikref06_Queue_l0_V, trivial⟩
theorem g64_talikref06_Queue_ent : Ent Tryd.prog 64 := ⟨by decide, enters_of Tryd.func64 (by kernel_rfl) rfl⟩
theorem g64_talikref06_Queue_hev : ∀ x, fnR Tryd.prog g64_talikref06_Queue_C [g64_talikref06_Queue_l0_L] Tryd.f64 (bodyOf Tryd.f64) (encs [.dat T27, .dat (.int .i64), .dat (.int .i64)] x) ⟨[], [], 0⟩ (frzF (.dat (.list (.int .i64)))) = g64_talikref06_Queue x.1 x.2.1 x.2.2.1 := by
  intro x; kernel_rfl
theorem g64_talikref06_Queue_valid : g64_talikref06_Queue_E.Valid Tryd.prog :=
  pureE_valid (by kernel_rfl) (by kernel_rfl) g64_talikref06_Queue_ent (frz_lcall mixed Tryd.func64 rfl g64_talikref06_Queue_ent g64_talikref06_Queue_CV g64_talikref06_Queue_LV (by kernel_rfl) (by kernel_rfl) g64_talikref06_Queue_hev)

noncomputable def g38_talikref06_Run_C : CalT := tabC [g64_talikref06_Queue_E, g23_talikref06_Arrives_E]
theorem g38_talikref06_Run_CV : CV Tryd.prog g38_talikref06_Run_C := tabC_valid (l := [g64_talikref06_Queue_E, g23_talikref06_Arrives_E]) ⟨g64_talikref06_Queue_valid, g23_talikref06_Arrives_valid, trivial⟩
noncomputable def g38_talikref06_Run_l0_c : Code := loopAt (bodyOf Tryd.f38) 0
noncomputable def g38_talikref06_Run_l1_c : Code := loopAt g38_talikref06_Run_l0_c 0
noncomputable def g38_talikref06_Run_l2_c : Code := loopAt g38_talikref06_Run_l1_c 0
noncomputable def g38_talikref06_Run_l3_c : Code := loopAt g38_talikref06_Run_l0_c 1
noncomputable def g38_talikref06_Run_l2_S : SPat := ⟨[.any, .any, .dat (.int .i64), .dat (.int .i64), .fix (.bptr 0 []), .any, .any, .any, .fix (.bptr 1 []), .dat (.list (.int .i64)), .fix (.bptr 3 []), .fix (.bptr 4 []), .dat (.int .i64), .dat (.int .i64), .dat (.int .i64), .dat (.int .i64), .dat (.int .i64), .any, .any, .any, .any, .any, .any, .any, .any, .any, .any, .any, .any, .any, .any, .any, .any, .any, .any, .any, .any, .any, .any, .any, .any, .any, .any, .any, .any, .dat (.int .i64), .fix (.bptr 0 [.fld 4 8]), .dat (.int .i64), .dat .bool, .any, .any, .fix (.bptr 0 [.fld 6 10]), .dat (.list (.list .bool)), .dat (.int .i64), .ip (.list .bool), .dat (.list .bool), .dat (.int .i64), .ip .bool, .dat .bool, .any, .any, .any, .any, .any, .any, .any, .any, .any, .any, .any, .any, .any, .any, .any, .any, .any, .any, .any, .any, .any, .any, .any, .any, .any, .any, .any, .any, .any, .any, .any, .any, .any, .any, .any, .any, .any, .any, .any, .any, .any, .any, .any, .any, .any, .any, .any, .any, .any, .any, .any, .any, .any, .any, .any, .any, .any, .any, .any, .any, .any, .any, .any, .any, .any, .any, .any, .any, .any, .any, .any, .any, .any, .any, .any, .any, .any, .any, .any, .any, .any, .any, .any, .any, .any, .any, .any, .any, .any, .any, .any, .any, .any, .any, .any, .any, .any, .any, .any, .any, .any, .any, .any, .any, .any, .any, .any, .any, .any, .any, .any], [.dat T27, .cons (.own 0 (.arr 3 (.int .i64))) (.cons (.own 1 (.arr 3 (.int .i64))) (.cons (.own 2 (.arr 3 (.int .i64))) (.nil))), .vrow 3 (.arr 3 (.int .i64)), .cons (.vec 3 2 (.arr 3 (.int .i64))) (.cons (.own 4 (.arr 3 (.int .i64))) (.cons (.own 5 (.arr 3 (.int .i64))) (.nil))), .dat (.arr 3 (.int .i64))], 6⟩
abbrev TY81 : Type := ((Int × (Int × ((List Int) × (Int × (Int × (Int × (Int × (Int × (Int × (Int × (Bool × ((List (List Bool)) × (Int × ((List Bool) × ((List Bool) × (Int × (Bool × (Bool × Unit)))))))))))))))))) × (E27 × (((List (List Int)) × ((List (List Int)) × ((List (List Int)) × Unit))) × ((List (List Int)) × ((Nat × ((List (List Int)) × ((List (List Int)) × Unit))) × ((List Int) × Unit))))))
abbrev TY82 : Type := (Nat × ((Int × (Int × ((List Int) × (Int × (Int × (Int × (Int × (Int × (Int × (Int × (Bool × ((List (List Bool)) × (Int × ((List Bool) × ((List Bool) × (Int × (Bool × (Bool × Unit)))))))))))))))))) × (E27 × (((List (List Int)) × ((List (List Int)) × ((List (List Int)) × Unit))) × ((List (List Int)) × ((Nat × ((List (List Int)) × ((List (List Int)) × Unit))) × ((List Int) × Unit)))))))
noncomputable def g38_talikref06_Run_l2_step (s : TY81) : Option TY82 :=
  (bif (decide (s.1.2.2.2.2.2.2.2.1 < 3)) then
  (bif (decide (0 ≤ s.1.2.2.2.2.2.2.1) && decide (s.1.2.2.2.2.2.2.1 < (List.length s.2.1.2.2.2.2.2.1 : Int))) then
    (bif (decide (0 ≤ s.1.2.2.2.2.2.2.2.1) && decide (s.1.2.2.2.2.2.2.2.1 < (3 : Int))) then
      (bif (decide (0 ≤ s.1.2.2.2.2.2.2.1) && decide (s.1.2.2.2.2.2.2.1 < (s.2.2.2.2.1.1 : Int))) then
        (bif (decide (0 ≤ s.1.2.2.2.2.2.2.2.1) && decide (s.1.2.2.2.2.2.2.2.1 < (3 : Int))) then
          (bif (decide ((Int.toNat s.1.2.2.2.2.2.2.1) < List.length s.2.2.2.1)) then
            (bif (decide (0 ≤ s.1.2.2.2.2.2.2.2.1) && decide (s.1.2.2.2.2.2.2.2.1 < (3 : Int))) then
              (bif (decide (0 ≤ s.1.2.2.2.2.2.2.2.1) && decide (s.1.2.2.2.2.2.2.2.1 < (3 : Int))) then
                (bif (decide (0 ≤ s.1.2.2.2.2.2.2.1) && decide (s.1.2.2.2.2.2.2.1 < (s.2.2.2.2.1.1 : Int))) then
                  (bif (decide (0 ≤ s.1.2.2.2.2.2.2.2.1) && decide (s.1.2.2.2.2.2.2.2.1 < (3 : Int))) then
                    (bif (decide ((Int.toNat s.1.2.2.2.2.2.2.1) < List.length s.2.2.2.1)) then
                      (bif (decide (0 ≤ s.1.2.2.2.2.2.2.1) && decide (s.1.2.2.2.2.2.2.1 < (s.2.2.2.2.1.1 : Int))) then
                        (bif (decide (0 ≤ s.1.2.2.2.2.2.2.2.1) && decide (s.1.2.2.2.2.2.2.2.1 < (3 : Int))) then
                          (bif (decide ((Int.toNat s.1.2.2.2.2.2.2.1) < List.length s.2.2.2.1)) then
                            (bif (decide (0 ≤ s.1.2.2.2.2.2.2.2.1) && decide (s.1.2.2.2.2.2.2.2.1 < (3 : Int))) then
                              (bif (decide (0 ≤ s.1.2.2.2.2.2.2.2.1) && decide (s.1.2.2.2.2.2.2.2.1 < (3 : Int))) then
                                some (0, ((s.1.1, (s.1.2.1, (s.1.2.2.1, (s.1.2.2.2.1, ((IntKind.wrap .i64 (s.1.2.2.2.2.1 - (if s.1.2.2.2.2.1 < (if (IntKind.wrap .i64 ((List.getD s.2.1.2.1 (Int.toNat s.1.2.2.2.2.2.2.2.1) 0) - (List.getD s.2.2.2.2.2.1 (Int.toNat s.1.2.2.2.2.2.2.2.1) 0))) < (IntKind.wrap .i64 ((List.getD (List.getD s.2.1.2.2.2.2.2.1 (Int.toNat s.1.2.2.2.2.2.2.1) (0, ((List.replicate 3 0), (0, ())))).2.1 (Int.toNat s.1.2.2.2.2.2.2.2.1) 0) - (List.getD (List.getD s.2.2.2.1 (Int.toNat s.1.2.2.2.2.2.2.1) (List.replicate 3 0)) (Int.toNat s.1.2.2.2.2.2.2.2.1) 0))) then (IntKind.wrap .i64 ((List.getD s.2.1.2.1 (Int.toNat s.1.2.2.2.2.2.2.2.1) 0) - (List.getD s.2.2.2.2.2.1 (Int.toNat s.1.2.2.2.2.2.2.2.1) 0))) else (IntKind.wrap .i64 ((List.getD (List.getD s.2.1.2.2.2.2.2.1 (Int.toNat s.1.2.2.2.2.2.2.1) (0, ((List.replicate 3 0), (0, ())))).2.1 (Int.toNat s.1.2.2.2.2.2.2.2.1) 0) - (List.getD (List.getD s.2.2.2.1 (Int.toNat s.1.2.2.2.2.2.2.1) (List.replicate 3 0)) (Int.toNat s.1.2.2.2.2.2.2.2.1) 0)))) then s.1.2.2.2.2.1 else (if (IntKind.wrap .i64 ((List.getD s.2.1.2.1 (Int.toNat s.1.2.2.2.2.2.2.2.1) 0) - (List.getD s.2.2.2.2.2.1 (Int.toNat s.1.2.2.2.2.2.2.2.1) 0))) < (IntKind.wrap .i64 ((List.getD (List.getD s.2.1.2.2.2.2.2.1 (Int.toNat s.1.2.2.2.2.2.2.1) (0, ((List.replicate 3 0), (0, ())))).2.1 (Int.toNat s.1.2.2.2.2.2.2.2.1) 0) - (List.getD (List.getD s.2.2.2.1 (Int.toNat s.1.2.2.2.2.2.2.1) (List.replicate 3 0)) (Int.toNat s.1.2.2.2.2.2.2.2.1) 0))) then (IntKind.wrap .i64 ((List.getD s.2.1.2.1 (Int.toNat s.1.2.2.2.2.2.2.2.1) 0) - (List.getD s.2.2.2.2.2.1 (Int.toNat s.1.2.2.2.2.2.2.2.1) 0))) else (IntKind.wrap .i64 ((List.getD (List.getD s.2.1.2.2.2.2.2.1 (Int.toNat s.1.2.2.2.2.2.2.1) (0, ((List.replicate 3 0), (0, ())))).2.1 (Int.toNat s.1.2.2.2.2.2.2.2.1) 0) - (List.getD (List.getD s.2.2.2.1 (Int.toNat s.1.2.2.2.2.2.2.1) (List.replicate 3 0)) (Int.toNat s.1.2.2.2.2.2.2.2.1) 0))))))), (s.1.2.2.2.2.2.1, (s.1.2.2.2.2.2.2.1, ((IntKind.wrap .i64 (s.1.2.2.2.2.2.2.2.1 + 1)), (s.1.2.2.2.2.2.2.2.2.1, (s.1.2.2.2.2.2.2.2.2.2.1, (s.1.2.2.2.2.2.2.2.2.2.2.1, (s.1.2.2.2.2.2.2.2.2.2.2.2.1, (s.1.2.2.2.2.2.2.2.2.2.2.2.2.1, (s.1.2.2.2.2.2.2.2.2.2.2.2.2.2.1, (s.1.2.2.2.2.2.2.2.2.2.2.2.2.2.2.1, (s.1.2.2.2.2.2.2.2.2.2.2.2.2.2.2.2.1, (s.1.2.2.2.2.2.2.2.2.2.2.2.2.2.2.2.2.1, (s.1.2.2.2.2.2.2.2.2.2.2.2.2.2.2.2.2.2.1, ())))))))))))))))))), (s.2.1, (s.2.2.1, ((List.set s.2.2.2.1 (Int.toNat s.1.2.2.2.2.2.2.1) (List.set (List.getD s.2.2.2.1 (Int.toNat s.1.2.2.2.2.2.2.1) (List.replicate 3 0)) (Int.toNat s.1.2.2.2.2.2.2.2.1) (IntKind.wrap .i64 ((List.getD (List.getD s.2.2.2.1 (Int.toNat s.1.2.2.2.2.2.2.1) (List.replicate 3 0)) (Int.toNat s.1.2.2.2.2.2.2.2.1) 0) + (if s.1.2.2.2.2.1 < (if (IntKind.wrap .i64 ((List.getD s.2.1.2.1 (Int.toNat s.1.2.2.2.2.2.2.2.1) 0) - (List.getD s.2.2.2.2.2.1 (Int.toNat s.1.2.2.2.2.2.2.2.1) 0))) < (IntKind.wrap .i64 ((List.getD (List.getD s.2.1.2.2.2.2.2.1 (Int.toNat s.1.2.2.2.2.2.2.1) (0, ((List.replicate 3 0), (0, ())))).2.1 (Int.toNat s.1.2.2.2.2.2.2.2.1) 0) - (List.getD (List.getD s.2.2.2.1 (Int.toNat s.1.2.2.2.2.2.2.1) (List.replicate 3 0)) (Int.toNat s.1.2.2.2.2.2.2.2.1) 0))) then (IntKind.wrap .i64 ((List.getD s.2.1.2.1 (Int.toNat s.1.2.2.2.2.2.2.2.1) 0) - (List.getD s.2.2.2.2.2.1 (Int.toNat s.1.2.2.2.2.2.2.2.1) 0))) else (IntKind.wrap .i64 ((List.getD (List.getD s.2.1.2.2.2.2.2.1 (Int.toNat s.1.2.2.2.2.2.2.1) (0, ((List.replicate 3 0), (0, ())))).2.1 (Int.toNat s.1.2.2.2.2.2.2.2.1) 0) - (List.getD (List.getD s.2.2.2.1 (Int.toNat s.1.2.2.2.2.2.2.1) (List.replicate 3 0)) (Int.toNat s.1.2.2.2.2.2.2.2.1) 0)))) then s.1.2.2.2.2.1 else (if (IntKind.wrap .i64 ((List.getD s.2.1.2.1 (Int.toNat s.1.2.2.2.2.2.2.2.1) 0) - (List.getD s.2.2.2.2.2.1 (Int.toNat s.1.2.2.2.2.2.2.2.1) 0))) < (IntKind.wrap .i64 ((List.getD (List.getD s.2.1.2.2.2.2.2.1 (Int.toNat s.1.2.2.2.2.2.2.1) (0, ((List.replicate 3 0), (0, ())))).2.1 (Int.toNat s.1.2.2.2.2.2.2.2.1) 0) - (List.getD (List.getD s.2.2.2.1 (Int.toNat s.1.2.2.2.2.2.2.1) (List.replicate 3 0)) (Int.toNat s.1.2.2.2.2.2.2.2.1) 0))) then (IntKind.wrap .i64 ((List.getD s.2.1.2.1 (Int.toNat s.1.2.2.2.2.2.2.2.1) 0) - (List.getD s.2.2.2.2.2.1 (Int.toNat s.1.2.2.2.2.2.2.2.1) 0))) else (IntKind.wrap .i64 ((List.getD (List.getD s.2.1.2.2.2.2.2.1 (Int.toNat s.1.2.2.2.2.2.2.1) (0, ((List.replicate 3 0), (0, ())))).2.1 (Int.toNat s.1.2.2.2.2.2.2.2.1) 0) - (List.getD (List.getD s.2.2.2.1 (Int.toNat s.1.2.2.2.2.2.2.1) (List.replicate 3 0)) (Int.toNat s.1.2.2.2.2.2.2.2.1) 0))))))))), (s.2.2.2.2.1, ((List.set s.2.2.2.2.2.1 (Int.toNat s.1.2.2.2.2.2.2.2.1) (IntKind.wrap .i64 ((List.getD s.2.2.2.2.2.1 (Int.toNat s.1.2.2.2.2.2.2.2.1) 0) + (if s.1.2.2.2.2.1 < (if (IntKind.wrap .i64 ((List.getD s.2.1.2.1 (Int.toNat s.1.2.2.2.2.2.2.2.1) 0) - (List.getD s.2.2.2.2.2.1 (Int.toNat s.1.2.2.2.2.2.2.2.1) 0))) < (IntKind.wrap .i64 ((List.getD (List.getD s.2.1.2.2.2.2.2.1 (Int.toNat s.1.2.2.2.2.2.2.1) (0, ((List.replicate 3 0), (0, ())))).2.1 (Int.toNat s.1.2.2.2.2.2.2.2.1) 0) - (List.getD (List.getD s.2.2.2.1 (Int.toNat s.1.2.2.2.2.2.2.1) (List.replicate 3 0)) (Int.toNat s.1.2.2.2.2.2.2.2.1) 0))) then (IntKind.wrap .i64 ((List.getD s.2.1.2.1 (Int.toNat s.1.2.2.2.2.2.2.2.1) 0) - (List.getD s.2.2.2.2.2.1 (Int.toNat s.1.2.2.2.2.2.2.2.1) 0))) else (IntKind.wrap .i64 ((List.getD (List.getD s.2.1.2.2.2.2.2.1 (Int.toNat s.1.2.2.2.2.2.2.1) (0, ((List.replicate 3 0), (0, ())))).2.1 (Int.toNat s.1.2.2.2.2.2.2.2.1) 0) - (List.getD (List.getD s.2.2.2.1 (Int.toNat s.1.2.2.2.2.2.2.1) (List.replicate 3 0)) (Int.toNat s.1.2.2.2.2.2.2.2.1) 0)))) then s.1.2.2.2.2.1 else (if (IntKind.wrap .i64 ((List.getD s.2.1.2.1 (Int.toNat s.1.2.2.2.2.2.2.2.1) 0) - (List.getD s.2.2.2.2.2.1 (Int.toNat s.1.2.2.2.2.2.2.2.1) 0))) < (IntKind.wrap .i64 ((List.getD (List.getD s.2.1.2.2.2.2.2.1 (Int.toNat s.1.2.2.2.2.2.2.1) (0, ((List.replicate 3 0), (0, ())))).2.1 (Int.toNat s.1.2.2.2.2.2.2.2.1) 0) - (List.getD (List.getD s.2.2.2.1 (Int.toNat s.1.2.2.2.2.2.2.1) (List.replicate 3 0)) (Int.toNat s.1.2.2.2.2.2.2.2.1) 0))) then (IntKind.wrap .i64 ((List.getD s.2.1.2.1 (Int.toNat s.1.2.2.2.2.2.2.2.1) 0) - (List.getD s.2.2.2.2.2.1 (Int.toNat s.1.2.2.2.2.2.2.2.1) 0))) else (IntKind.wrap .i64 ((List.getD (List.getD s.2.1.2.2.2.2.2.1 (Int.toNat s.1.2.2.2.2.2.2.1) (0, ((List.replicate 3 0), (0, ())))).2.1 (Int.toNat s.1.2.2.2.2.2.2.2.1) 0) - (List.getD (List.getD s.2.2.2.1 (Int.toNat s.1.2.2.2.2.2.2.1) (List.replicate 3 0)) (Int.toNat s.1.2.2.2.2.2.2.2.1) 0)))))))), ())))))))
                                else
                                none)
                              else
                              none)
                            else
                            none)
                          else
                          none)
                        else
                        none)
                      else
                      none)
                    else
                    none)
                  else
                  none)
                else
                none)
              else
              none)
            else
            none)
          else
          none)
        else
        none)
      else
      none)
    else
    none)
  else
  some (1, ((s.1.1, (s.1.2.1, (s.1.2.2.1, (s.1.2.2.2.1, (s.1.2.2.2.2.1, (s.1.2.2.2.2.2.1, (s.1.2.2.2.2.2.2.1, (s.1.2.2.2.2.2.2.2.1, (s.1.2.2.2.2.2.2.2.2.1, (s.1.2.2.2.2.2.2.2.2.2.1, (s.1.2.2.2.2.2.2.2.2.2.2.1, (s.1.2.2.2.2.2.2.2.2.2.2.2.1, (s.1.2.2.2.2.2.2.2.2.2.2.2.2.1, (s.1.2.2.2.2.2.2.2.2.2.2.2.2.2.1, (s.1.2.2.2.2.2.2.2.2.2.2.2.2.2.2.1, (s.1.2.2.2.2.2.2.2.2.2.2.2.2.2.2.2.1, (s.1.2.2.2.2.2.2.2.2.2.2.2.2.2.2.2.2.1, (s.1.2.2.2.2.2.2.2.2.2.2.2.2.2.2.2.2.2.1, ())))))))))))))))))), (s.2.1, (s.2.2.1, (s.2.2.2.1, (s.2.2.2.2.1, (s.2.2.2.2.2.1, ()))))))))
noncomputable def g38_talikref06_Run_l2_fuel (s : TY81) : Nat := Int.toNat (3 - s.1.2.2.2.2.2.2.2.1) + 1
noncomputable def g38_talikref06_Run_l2_run (s : TY81) : Option TY82 := iter g38_talikref06_Run_l2_step (g38_talikref06_Run_l2_fuel s) s
noncomputable def g38_talikref06_Run_l2_L : LoopT := loopT g38_talikref06_Run_l2_S [.exit 4] g38_talikref06_Run_l2_run
noncomputable def g38_talikref06_Run_l1_S : SPat := ⟨[.any, .any, .dat (.int .i64), .dat (.int .i64), .fix (.bptr 0 []), .any, .any, .any, .fix (.bptr 1 []), .dat (.list (.int .i64)), .fix (.bptr 3 []), .fix (.bptr 4 []), .dat (.int .i64), .dat (.int .i64), .dat (.int .i64), .any, .any, .any, .any, .any, .any, .any, .any, .any, .any, .any, .any, .any, .any, .any, .any, .any, .any, .any, .any, .any, .any, .any, .any, .any, .any, .any, .any, .any, .any, .any, .any, .any, .any, .any, .any, .any, .any, .any, .any, .any, .any, .any, .any, .any, .any, .any, .any, .any, .any, .any, .any, .any, .any, .any, .any, .any, .any, .any, .any, .any, .any, .any, .any, .any, .any, .any, .any, .any, .any, .any, .any, .any, .any, .any, .any, .any, .any, .any, .any, .any, .any, .any, .any, .any, .any, .any, .any, .any, .any, .any, .any, .any, .any, .any, .any, .any, .any, .any, .any, .any, .any, .any, .any, .any, .any, .any, .any, .any, .any, .any, .any, .any, .any, .any, .any, .any, .any, .any, .any, .any, .any, .any, .any, .any, .any, .any, .any, .any, .any, .any, .any, .any, .any, .any, .any, .any, .any, .any, .any, .any, .any, .any, .any, .any, .any, .any, .any, .any, .any, .any, .any, .any, .any, .any], [.dat T27, .cons (.own 0 (.arr 3 (.int .i64))) (.cons (.own 1 (.arr 3 (.int .i64))) (.cons (.own 2 (.arr 3 (.int .i64))) (.nil))), .vrow 3 (.arr 3 (.int .i64)), .cons (.vec 3 2 (.arr 3 (.int .i64))) (.cons (.own 4 (.arr 3 (.int .i64))) (.cons (.own 5 (.arr 3 (.int .i64))) (.nil))), .dat (.arr 3 (.int .i64))], 6⟩
abbrev TY83 : Type := ((Int × (Int × ((List Int) × (Int × (Int × (Int × Unit)))))) × (E27 × (((List (List Int)) × ((List (List Int)) × ((List (List Int)) × Unit))) × ((List (List Int)) × ((Nat × ((List (List Int)) × ((List (List Int)) × Unit))) × ((List Int) × Unit))))))
abbrev TY84 : Type := (Nat × ((Int × (Int × ((List Int) × (Int × (Int × (Int × Unit)))))) × (E27 × (((List (List Int)) × ((List (List Int)) × ((List (List Int)) × Unit))) × ((List (List Int)) × ((Nat × ((List (List Int)) × ((List (List Int)) × Unit))) × ((List Int) × Unit)))))))
noncomputable def g38_talikref06_Run_l1_step (s : TY83) : Option TY84 :=
  (bif (decide (s.1.2.2.2.2.2.1 < (List.length s.1.2.2.1 : Int))) then
  (bif (decide (s.1.2.2.2.1 < s.2.1.2.2.2.2.1)) then
    (bif (decide (0 ≤ s.1.1) && decide (s.1.1 < (List.length s.2.1.2.2.2.2.2.2.1 : Int))) then
      (bif (decide (0 ≤ s.1.2.2.2.1) && decide (s.1.2.2.2.1 < (List.length (List.getD s.2.1.2.2.2.2.2.2.1 (Int.toNat s.1.1) []) : Int))) then
        (bif (List.getD (List.getD s.2.1.2.2.2.2.2.2.1 (Int.toNat s.1.1) []) (Int.toNat s.1.2.2.2.1) false) then
          (bif (decide (0 ≤ s.1.2.2.2.2.2.1) && decide (s.1.2.2.2.2.2.1 < (List.length s.1.2.2.1 : Int))) then
            (Option.bind (g23_talikref06_Arrives s.2.1 (List.getD s.1.2.2.1 (Int.toNat s.1.2.2.2.2.2.1) 0) s.1.1) fun r2 =>
              (bif (decide (r2 > s.1.2.2.2.1)) then
                some (0, ((s.1.1, (s.1.2.1, (s.1.2.2.1, (s.1.2.2.2.1, (s.1.2.2.2.2.1, ((IntKind.wrap .i64 (s.1.2.2.2.2.2.1 + 1)), ())))))), (s.2.1, (s.2.2.1, (s.2.2.2.1, (s.2.2.2.2.1, (s.2.2.2.2.2.1, ())))))))
                else
                (Option.bind (g38_talikref06_Run_l2_run ((s.1.1, (s.1.2.1, (s.1.2.2.1, (s.1.2.2.2.1, (s.1.2.2.2.2.1, (s.1.2.2.2.2.2.1, ((List.getD s.1.2.2.1 (Int.toNat s.1.2.2.2.2.2.1) 0), (0, (s.1.2.2.2.1, (s.2.1.2.2.2.2.1, ((decide (s.1.2.2.2.1 < s.2.1.2.2.2.2.1)), (s.2.1.2.2.2.2.2.2.1, (s.1.1, ((List.getD s.2.1.2.2.2.2.2.2.1 (Int.toNat s.1.1) []), ((List.getD s.2.1.2.2.2.2.2.2.1 (Int.toNat s.1.1) []), (s.1.2.2.2.1, ((List.getD (List.getD s.2.1.2.2.2.2.2.2.1 (Int.toNat s.1.1) []) (Int.toNat s.1.2.2.2.1) false), ((List.getD (List.getD s.2.1.2.2.2.2.2.2.1 (Int.toNat s.1.1) []) (Int.toNat s.1.2.2.2.1) false), ())))))))))))))))))), (s.2.1, (s.2.2.1, (s.2.2.2.1, (s.2.2.2.2.1, (s.2.2.2.2.2.1, ()))))))) fun q3 =>
                  some (0, ((q3.2.1.1, (q3.2.1.2.1, (q3.2.1.2.2.1, (q3.2.1.2.2.2.1, (q3.2.1.2.2.2.2.1, ((IntKind.wrap .i64 (q3.2.1.2.2.2.2.2.1 + 1)), ())))))), (q3.2.2.1, (q3.2.2.2.1, (q3.2.2.2.2.1, (q3.2.2.2.2.2.1, (q3.2.2.2.2.2.2.1, ()))))))))))
            else
            none)
          else
          some (1, ((s.1.1, (s.1.2.1, (s.1.2.2.1, (s.1.2.2.2.1, (s.1.2.2.2.2.1, (s.1.2.2.2.2.2.1, ())))))), (s.2.1, (s.2.2.1, (s.2.2.2.1, (s.2.2.2.2.1, (s.2.2.2.2.2.1, ()))))))))
        else
        none)
      else
      none)
    else
    some (1, ((s.1.1, (s.1.2.1, (s.1.2.2.1, (s.1.2.2.2.1, (s.1.2.2.2.2.1, (s.1.2.2.2.2.2.1, ())))))), (s.2.1, (s.2.2.1, (s.2.2.2.1, (s.2.2.2.2.1, (s.2.2.2.2.2.1, ()))))))))
  else
  some (1, ((s.1.1, (s.1.2.1, (s.1.2.2.1, (s.1.2.2.2.1, (s.1.2.2.2.2.1, (s.1.2.2.2.2.2.1, ())))))), (s.2.1, (s.2.2.1, (s.2.2.2.1, (s.2.2.2.2.1, (s.2.2.2.2.2.1, ()))))))))
noncomputable def g38_talikref06_Run_l1_fuel (s : TY83) : Nat := Int.toNat ((List.length s.1.2.2.1 : Int) - s.1.2.2.2.2.2.1) + 1
noncomputable def g38_talikref06_Run_l1_run (s : TY83) : Option TY84 := iter g38_talikref06_Run_l1_step (g38_talikref06_Run_l1_fuel s) s
noncomputable def g38_talikref06_Run_l1_L : LoopT := loopT g38_talikref06_Run_l1_S [.exit 2] g38_talikref06_Run_l1_run
noncomputable def g38_talikref06_Run_l3_S : SPat := ⟨[.any, .any, .dat (.int .i64), .dat (.int .i64), .fix (.bptr 0 []), .any, .any, .any, .fix (.bptr 1 []), .dat (.list (.int .i64)), .fix (.bptr 3 []), .fix (.bptr 4 []), .dat (.int .i64), .any, .any, .any, .any, .any, .fix (.bptr 5 []), .dat (.int .i64), .any, .any, .any, .any, .any, .any, .any, .any, .any, .any, .any, .any, .any, .any, .any, .any, .any, .any, .any, .any, .any, .any, .any, .any, .any, .any, .any, .any, .any, .any, .any, .any, .any, .any, .any, .any, .any, .any, .any, .any, .any, .any, .any, .any, .any, .any, .any, .any, .any, .any, .any, .any, .any, .any, .any, .any, .any, .any, .any, .any, .any, .any, .any, .any, .any, .any, .any, .any, .any, .any, .any, .any, .any, .any, .any, .any, .any, .any, .any, .any, .any, .any, .any, .any, .any, .any, .any, .any, .any, .any, .any, .any, .any, .any, .any, .any, .any, .any, .any, .any, .any, .any, .any, .any, .any, .any, .any, .any, .any, .any, .any, .any, .any, .any, .any, .any, .any, .any, .any, .any, .any, .any, .any, .any, .any, .any, .any, .any, .any, .any, .any, .any, .any, .any, .any, .any, .any, .any, .any, .any, .any, .any, .any, .any, .any, .any, .any, .any, .any, .any], [.dat T27, .cons (.own 0 (.arr 3 (.int .i64))) (.cons (.own 1 (.arr 3 (.int .i64))) (.cons (.own 2 (.arr 3 (.int .i64))) (.nil))), .vrow 3 (.arr 3 (.int .i64)), .cons (.vec 3 2 (.arr 3 (.int .i64))) (.cons (.own 4 (.arr 3 (.int .i64))) (.cons (.own 5 (.arr 3 (.int .i64))) (.nil))), .dat (.arr 3 (.int .i64)), .dat (.arr 3 (.int .i64))], 6⟩
abbrev TY85 : Type := ((Int × (Int × ((List Int) × (Int × (Int × Unit))))) × (E27 × (((List (List Int)) × ((List (List Int)) × ((List (List Int)) × Unit))) × ((List (List Int)) × ((Nat × ((List (List Int)) × ((List (List Int)) × Unit))) × ((List Int) × ((List Int) × Unit)))))))
abbrev TY86 : Type := (Nat × ((Int × (Int × ((List Int) × (Int × (Int × Unit))))) × (E27 × (((List (List Int)) × ((List (List Int)) × ((List (List Int)) × Unit))) × ((List (List Int)) × ((Nat × ((List (List Int)) × ((List (List Int)) × Unit))) × ((List Int) × ((List Int) × Unit))))))))
noncomputable def g38_talikref06_Run_l3_step (s : TY85) : Option TY86 :=
  (bif (decide (s.1.2.2.2.2.1 < 3)) then
  (bif (decide (0 ≤ s.1.2.1) && decide (s.1.2.1 < (List.length s.2.1.2.2.2.2.2.2.2.1 : Int))) then
    (bif (decide (0 ≤ s.1.2.2.2.1) && decide (s.1.2.2.2.1 < (List.length (List.getD s.2.1.2.2.2.2.2.2.2.1 (Int.toNat s.1.2.1) []) : Int))) then
      (bif (decide (0 ≤ s.1.2.2.2.2.1) && decide (s.1.2.2.2.2.1 < (3 : Int))) then
        (bif (decide (0 ≤ s.1.2.2.2.2.1) && decide (s.1.2.2.2.2.1 < (3 : Int))) then
          (bif (decide (0 ≤ s.1.2.2.2.2.1) && decide (s.1.2.2.2.2.1 < (3 : Int))) then
            (bif (decide (0 ≤ s.1.2.2.2.2.1) && decide (s.1.2.2.2.2.1 < (3 : Int))) then
              (bif (decide (0 ≤ s.1.2.2.2.2.1) && decide (s.1.2.2.2.2.1 < (3 : Int))) then
                some (0, ((s.1.1, (s.1.2.1, (s.1.2.2.1, (s.1.2.2.2.1, ((IntKind.wrap .i64 (s.1.2.2.2.2.1 + 1)), ()))))), (s.2.1, (s.2.2.1, (s.2.2.2.1, (s.2.2.2.2.1, ((List.set s.2.2.2.2.2.1 (Int.toNat s.1.2.2.2.2.1) (if (IntKind.wrap .i64 ((List.getD s.2.2.2.2.2.1 (Int.toNat s.1.2.2.2.2.1) 0) - (List.getD (List.getD (List.getD s.2.1.2.2.2.2.2.2.2.1 (Int.toNat s.1.2.1) []) (Int.toNat s.1.2.2.2.1) (List.replicate 3 0)) (Int.toNat s.1.2.2.2.2.1) 0))) > 0 then (IntKind.wrap .i64 ((List.getD s.2.2.2.2.2.1 (Int.toNat s.1.2.2.2.2.1) 0) - (List.getD (List.getD (List.getD s.2.1.2.2.2.2.2.2.2.1 (Int.toNat s.1.2.1) []) (Int.toNat s.1.2.2.2.1) (List.replicate 3 0)) (Int.toNat s.1.2.2.2.2.1) 0))) else 0)), ((List.set s.2.2.2.2.2.2.1 (Int.toNat s.1.2.2.2.2.1) (if (IntKind.wrap .i64 ((List.getD (List.getD (List.getD s.2.1.2.2.2.2.2.2.2.1 (Int.toNat s.1.2.1) []) (Int.toNat s.1.2.2.2.1) (List.replicate 3 0)) (Int.toNat s.1.2.2.2.2.1) 0) - (List.getD s.2.2.2.2.2.1 (Int.toNat s.1.2.2.2.2.1) 0))) > 0 then (IntKind.wrap .i64 ((List.getD (List.getD (List.getD s.2.1.2.2.2.2.2.2.2.1 (Int.toNat s.1.2.1) []) (Int.toNat s.1.2.2.2.1) (List.replicate 3 0)) (Int.toNat s.1.2.2.2.2.1) 0) - (List.getD s.2.2.2.2.2.1 (Int.toNat s.1.2.2.2.2.1) 0))) else 0)), ()))))))))
                else
                none)
              else
              none)
            else
            none)
          else
          none)
        else
        none)
      else
      none)
    else
    none)
  else
  some (1, ((s.1.1, (s.1.2.1, (s.1.2.2.1, (s.1.2.2.2.1, (s.1.2.2.2.2.1, ()))))), (s.2.1, (s.2.2.1, (s.2.2.2.1, (s.2.2.2.2.1, (s.2.2.2.2.2.1, (s.2.2.2.2.2.2.1, ())))))))))
noncomputable def g38_talikref06_Run_l3_fuel (s : TY85) : Nat := Int.toNat (3 - s.1.2.2.2.2.1) + 1
noncomputable def g38_talikref06_Run_l3_run (s : TY85) : Option TY86 := iter g38_talikref06_Run_l3_step (g38_talikref06_Run_l3_fuel s) s
noncomputable def g38_talikref06_Run_l3_L : LoopT := loopT g38_talikref06_Run_l3_S [.exit 6] g38_talikref06_Run_l3_run
noncomputable def g38_talikref06_Run_l0_S : SPat := ⟨[.any, .any, .dat (.int .i64), .dat (.int .i64), .fix (.bptr 0 []), .any, .any, .any, .fix (.bptr 1 []), .dat (.list (.int .i64)), .fix (.bptr 3 []), .fix (.bptr 4 []), .dat (.int .i64), .any, .any, .any, .any, .any, .any, .any, .any, .any, .any, .any, .any, .any, .any, .any, .any, .any, .any, .any, .any, .any, .any, .any, .any, .any, .any, .any, .any, .any, .any, .any, .any, .any, .any, .any, .any, .any, .any, .any, .any, .any, .any, .any, .any, .any, .any, .any, .any, .any, .any, .any, .any, .any, .any, .any, .any, .any, .any, .any, .any, .any, .any, .any, .any, .any, .any, .any, .any, .any, .any, .any, .any, .any, .any, .any, .any, .any, .any, .any, .any, .any, .any, .any, .any, .any, .any, .any, .any, .any, .any, .any, .any, .any, .any, .any, .any, .any, .any, .any, .any, .any, .any, .any, .any, .any, .any, .any, .any, .any, .any, .any, .any, .any, .any, .any, .any, .any, .any, .any, .any, .any, .any, .any, .any, .any, .any, .any, .any, .any, .any, .any, .any, .any, .any, .any, .any, .any, .any, .any, .any, .any, .any, .any, .any, .any, .any, .any, .any, .any, .any, .any, .any, .any, .any, .any, .any, .any], [.dat T27, .cons (.own 0 (.arr 3 (.int .i64))) (.cons (.own 1 (.arr 3 (.int .i64))) (.cons (.own 2 (.arr 3 (.int .i64))) (.nil))), .vrow 3 (.arr 3 (.int .i64)), .cons (.vec 3 2 (.arr 3 (.int .i64))) (.cons (.own 4 (.arr 3 (.int .i64))) (.cons (.own 5 (.arr 3 (.int .i64))) (.nil))), .dat (.arr 3 (.int .i64))], 6⟩
abbrev TY87 : Type := ((Int × (Int × ((List Int) × (Int × Unit)))) × (E27 × (((List (List Int)) × ((List (List Int)) × ((List (List Int)) × Unit))) × ((List (List Int)) × ((Nat × ((List (List Int)) × ((List (List Int)) × Unit))) × ((List Int) × Unit))))))
abbrev TY88 : Type := (Nat × ((Int × (Int × ((List Int) × (Int × Unit)))) × (E27 × (((List (List Int)) × ((List (List Int)) × ((List (List Int)) × Unit))) × ((List (List Int)) × ((Nat × ((List (List Int)) × ((List (List Int)) × Unit))) × ((List Int) × Unit)))))))
noncomputable def g38_talikref06_Run_l0_step (s : TY87) : Option TY88 :=
  (bif (decide (s.1.2.2.2.1 < s.2.1.2.2.2.1)) then
  (Option.bind (g38_talikref06_Run_l1_run ((s.1.1, (s.1.2.1, (s.1.2.2.1, (s.1.2.2.2.1, (s.2.1.2.2.1, (0, ())))))), (s.2.1, (s.2.2.1, (s.2.2.2.1, (s.2.2.2.2.1, (s.2.2.2.2.2.1, ()))))))) fun q4 =>
    (Option.bind (g38_talikref06_Run_l3_run ((q4.2.1.1, (q4.2.1.2.1, (q4.2.1.2.2.1, (q4.2.1.2.2.2.1, (0, ()))))), (q4.2.2.1, (q4.2.2.2.1, (q4.2.2.2.2.1, (q4.2.2.2.2.2.1, (q4.2.2.2.2.2.2.1, ((0 :: (0 :: (0 :: []))), ())))))))) fun q5 =>
      (bif (decide (List.length q5.2.2.2.2.2.1.2.1 + List.length [q5.2.2.2.2.2.2.1] ≤ LIM)) then
        (bif (decide (List.length q5.2.2.2.2.2.1.2.2.1 + List.length [q5.2.2.2.2.2.2.2.1] ≤ LIM)) then
          some (0, ((q5.2.1.1, (q5.2.1.2.1, (q5.2.1.2.2.1, ((IntKind.wrap .i64 (q5.2.1.2.2.2.1 + 1)), ())))), (q5.2.2.1, (q5.2.2.2.1, (q5.2.2.2.2.1, ((q5.2.2.2.2.2.1.1, ((q5.2.2.2.2.2.1.2.1 ++ [q5.2.2.2.2.2.2.1]), ((q5.2.2.2.2.2.1.2.2.1 ++ [q5.2.2.2.2.2.2.2.1]), q5.2.2.2.2.2.1.2.2.2))), (q5.2.2.2.2.2.2.1, ())))))))
          else
          none)
        else
        none)))
  else
  some (1, ((s.1.1, (s.1.2.1, (s.1.2.2.1, (s.1.2.2.2.1, ())))), (s.2.1, (s.2.2.1, (s.2.2.2.1, (s.2.2.2.2.1, (s.2.2.2.2.2.1, ()))))))))
noncomputable def g38_talikref06_Run_l0_fuel (s : TY87) : Nat := Int.toNat (s.2.1.2.2.2.1 - s.1.2.2.2.1) + 1
noncomputable def g38_talikref06_Run_l0_run (s : TY87) : Option TY88 := iter g38_talikref06_Run_l0_step (g38_talikref06_Run_l0_fuel s) s
noncomputable def g38_talikref06_Run_l0_L : LoopT := loopT g38_talikref06_Run_l0_S [.exit 0] g38_talikref06_Run_l0_run
noncomputable def g38_talikref06_Run (a0 : E27) (a1 : Int) (a2 : Int) (a3 : Int) : Option E33 :=
  (Option.bind (g64_talikref06_Queue a0 a1 a2) fun r1 =>
  (bif (decide ((0 : Int) ≤ (List.length a0.2.2.2.2.2.1 : Int)) && decide ((List.length a0.2.2.2.2.2.1 : Int) ≤ (LIM : Int)) && decide ((List.length a0.2.2.2.2.2.1 : Int) = (List.length a0.2.2.2.2.2.1 : Int))) then
    (Option.bind (g38_talikref06_Run_l0_run ((a2, (a3, (r1, (0, ())))), (a0, (([], ([], ([], ()))), ((List.replicate (Int.toNat (List.length a0.2.2.2.2.2.1 : Int)) (List.replicate 3 0)), (((Int.toNat (List.length a0.2.2.2.2.2.1 : Int)), ([], ([], ()))), (a0.1, ()))))))) fun q6 =>
      (bif ((decide (q6.2.2.2.2.2.1.1 ≤ List.length q6.2.2.2.2.1)) && true) then
        some ((List.take q6.2.2.2.2.2.1.1 q6.2.2.2.2.1), q6.2.2.2.2.2.1.2)
        else
        none))
    else
    none))
noncomputable def g38_talikref06_Run_E : CEnt := pureE 38 [.dat T27, .dat (.int .i64), .dat (.int .i64), .dat (.int .i64)] (.dat T33) fun x => g38_talikref06_Run x.1 x.2.1 x.2.2.1 x.2.2.2.1
theorem g38_talikref06_Run_l2_V : LValid 0 Tryd.prog (.loop g38_talikref06_Run_l2_c) g38_talikref06_Run_l2_L false := by
  have hb : ∀ s, codeR Tryd.prog g38_talikref06_Run_C g38_talikref06_Run_l2_c [] (g38_talikref06_Run_l2_S.encE s) (g38_talikref06_Run_l2_S.encB s) (kst g38_talikref06_Run_l2_S [.exit 4]) = g38_talikref06_Run_l2_step s := by
    intro s; kernel_rfl
  have hL : LV 0 Tryd.prog false (loopsOf g38_talikref06_Run_l2_c) [] := by unfold LV; cases loopsOf g38_talikref06_Run_l2_c <;> trivial
  exact loopT_valid (fuel := g38_talikref06_Run_l2_fuel) mixed g38_talikref06_Run_CV hL (by kernel_rfl) (by decide) rfl hb (fun s r h => h)
theorem g38_talikref06_Run_l1_V : LValid 0 Tryd.prog (.loop g38_talikref06_Run_l1_c) g38_talikref06_Run_l1_L false := by
  have hb : ∀ s, codeR Tryd.prog g38_talikref06_Run_C g38_talikref06_Run_l1_c [g38_talikref06_Run_l2_L] (g38_talikref06_Run_l1_S.encE s) (g38_talikref06_Run_l1_S.encB s) (kst g38_talikref06_Run_l1_S [.exit 2]) = g38_talikref06_Run_l1_step s := by
    intro s; kernel_rfl
  have hl : loopsOf g38_talikref06_Run_l1_c = [.loop g38_talikref06_Run_l2_c] := by kernel_rfl
  have hL : LV 0 Tryd.prog false (loopsOf g38_talikref06_Run_l1_c) [g38_talikref06_Run_l2_L] := by rw [hl]; exact ⟨g38_talikref06_Run_l2_V, trivial⟩
  exact loopT_valid (fuel := g38_talikref06_Run_l1_fuel) mixed g38_talikref06_Run_CV hL (by kernel_rfl) (by decide) rfl hb (fun s r h => h)
theorem g38_talikref06_Run_l3_V : LValid 0 Tryd.prog (.loop g38_talikref06_Run_l3_c) g38_talikref06_Run_l3_L false := by
  have hb : ∀ s, codeR Tryd.prog g38_talikref06_Run_C g38_talikref06_Run_l3_c [] (g38_talikref06_Run_l3_S.encE s) (g38_talikref06_Run_l3_S.encB s) (kst g38_talikref06_Run_l3_S [.exit 6]) = g38_talikref06_Run_l3_step s := by
    intro s; kernel_rfl
  have hL : LV 0 Tryd.prog false (loopsOf g38_talikref06_Run_l3_c) [] := by unfold LV; cases loopsOf g38_talikref06_Run_l3_c <;> trivial
  exact loopT_valid (fuel := g38_talikref06_Run_l3_fuel) mixed g38_talikref06_Run_CV hL (by kernel_rfl) (by decide) rfl hb (fun s r h => h)
theorem g38_talikref06_Run_l0_V : LValid 0 Tryd.prog (.loop g38_talikref06_Run_l0_c) g38_talikref06_Run_l0_L false := by
  have hb : ∀ s, codeR Tryd.prog g38_talikref06_Run_C g38_talikref06_Run_l0_c [g38_talikref06_Run_l1_L, g38_talikref06_Run_l3_L] (g38_talikref06_Run_l0_S.encE s) (g38_talikref06_Run_l0_S.encB s) (kst g38_talikref06_Run_l0_S [.exit 0]) = g38_talikref06_Run_l0_step s := by
    intro s; kernel_rfl
  have hl : loopsOf g38_talikref06_Run_l0_c = [.loop g38_talikref06_Run_l1_c, .loop g38_talikref06_Run_l3_c] := by kernel_rfl
  have hL : LV 0 Tryd.prog false (loopsOf g38_talikref06_Run_l0_c) [g38_talikref06_Run_l1_L, g38_talikref06_Run_l3_L] := by rw [hl]; exact ⟨g38_talikref06_Run_l1_V, g38_talikref06_Run_l3_V, trivial⟩
  exact loopT_valid (fuel := g38_talikref06_Run_l0_fuel) mixed g38_talikref06_Run_CV hL (by kernel_rfl) (by decide) rfl hb (fun s r h => h)
theorem g38_talikref06_Run_LV : LV 0 Tryd.prog false (loopsOf (bodyOf Tryd.f38)) [g38_talikref06_Run_l0_L] := by
  have hl : loopsOf (bodyOf Tryd.f38) = [.loop g38_talikref06_Run_l0_c] := by kernel_rfl
  rw [hl]; exact ⟨g38_talikref06_Run_l0_V, trivial⟩
theorem g38_talikref06_Run_ent : Ent Tryd.prog 38 := ⟨by decide, enters_of Tryd.func38 (by kernel_rfl) rfl⟩
theorem g38_talikref06_Run_hev : ∀ x, fnR Tryd.prog g38_talikref06_Run_C [g38_talikref06_Run_l0_L] Tryd.f38 (bodyOf Tryd.f38) (encs [.dat T27, .dat (.int .i64), .dat (.int .i64), .dat (.int .i64)] x) ⟨[], [], 0⟩ (frzV (.dat T33)) = g38_talikref06_Run x.1 x.2.1 x.2.2.1 x.2.2.2.1 := by
  intro x; kernel_rfl
theorem g38_talikref06_Run_valid : g38_talikref06_Run_E.Valid Tryd.prog :=
  pureE_valid (by kernel_rfl) (by kernel_rfl) g38_talikref06_Run_ent (frzV_lcall mixed Tryd.func38 rfl g38_talikref06_Run_ent g38_talikref06_Run_CV g38_talikref06_Run_LV (by kernel_rfl) (by kernel_rfl) g38_talikref06_Run_hev)

noncomputable def g56_talikref06_Lack_C : CalT := tabC []
theorem g56_talikref06_Lack_CV : CV Tryd.prog g56_talikref06_Lack_C := tabC_valid (l := []) trivial
noncomputable def g56_talikref06_Lack_l0_c : Code := loopAt (bodyOf Tryd.f56) 0
noncomputable def g56_talikref06_Lack_l1_c : Code := loopAt g56_talikref06_Lack_l0_c 0
noncomputable def g56_talikref06_Lack_l1_S : SPat := ⟨[.dat (.list (.arr 3 (.int .i64))), .any, .dat (.int .i64), .dat (.int .i64), .dat .bool, .dat (.int .i64), .dat (.int .i64), .any, .any, .any, .any, .any, .any, .any, .any, .any, .any, .any, .any, .any, .any, .any, .any, .any, .any, .any], [], 0⟩
abbrev TY89 : Type := (((List (List Int)) × (Int × (Int × (Bool × (Int × (Int × Unit)))))) × Unit)
abbrev TY90 : Type := (Nat × (((List (List Int)) × (Int × (Int × (Bool × (Int × (Int × Unit)))))) × Unit))
noncomputable def g56_talikref06_Lack_l1_step (s : TY89) : Option TY90 :=
  (bif (decide (s.1.2.2.2.2.2.1 < 3)) then
  (bif (decide (0 ≤ s.1.2.2.2.2.1) && decide (s.1.2.2.2.2.1 < (List.length s.1.1 : Int))) then
    (bif (decide (0 ≤ s.1.2.2.2.2.2.1) && decide (s.1.2.2.2.2.2.1 < (3 : Int))) then
      (bif (decide ((List.getD (List.getD s.1.1 (Int.toNat s.1.2.2.2.2.1) (List.replicate 3 0)) (Int.toNat s.1.2.2.2.2.2.1) 0) > 0)) then
        some (1, ((s.1.1, (s.1.2.2.2.2.1, (s.1.2.2.2.2.2.1, (true, (s.1.2.2.2.2.1, (s.1.2.2.2.2.2.1, ())))))), ()))
        else
        some (0, ((s.1.1, (s.1.2.1, (s.1.2.2.1, (s.1.2.2.2.1, (s.1.2.2.2.2.1, ((IntKind.wrap .i64 (s.1.2.2.2.2.2.1 + 1)), ())))))), ())))
      else
      none)
    else
    none)
  else
  some (2, ((s.1.1, (s.1.2.1, (s.1.2.2.1, (s.1.2.2.2.1, (s.1.2.2.2.2.1, (s.1.2.2.2.2.2.1, ())))))), ())))
noncomputable def g56_talikref06_Lack_l1_fuel (s : TY89) : Nat := Int.toNat (3 - s.1.2.2.2.2.2.1) + 1
noncomputable def g56_talikref06_Lack_l1_run (s : TY89) : Option TY90 := iter g56_talikref06_Lack_l1_step (g56_talikref06_Lack_l1_fuel s) s
noncomputable def g56_talikref06_Lack_l1_L : LoopT := loopT g56_talikref06_Lack_l1_S [.ret, .exit 2] g56_talikref06_Lack_l1_run
noncomputable def g56_talikref06_Lack_l0_S : SPat := ⟨[.dat (.list (.arr 3 (.int .i64))), .any, .dat (.int .i64), .dat (.int .i64), .dat .bool, .dat (.int .i64), .any, .any, .any, .any, .any, .any, .any, .any, .any, .any, .any, .any, .any, .any, .any, .any, .any, .any, .any, .any], [], 0⟩
abbrev TY91 : Type := (Nat × (((List (List Int)) × (Int × (Int × (Bool × (Int × Unit))))) × Unit))
noncomputable def g56_talikref06_Lack_l0_step (s : (((List (List Int)) × (Int × (Int × (Bool × (Int × Unit))))) × Unit)) : Option TY91 :=
  (bif (decide (s.1.2.2.2.2.1 < (List.length s.1.1 : Int))) then
  (Option.bind (g56_talikref06_Lack_l1_run ((s.1.1, (s.1.2.1, (s.1.2.2.1, (s.1.2.2.2.1, (s.1.2.2.2.2.1, (0, ())))))), ())) fun q1 =>
    (natK q1.1
      (some (1, ((q1.2.1.1, (q1.2.1.2.1, (q1.2.1.2.2.1, (q1.2.1.2.2.2.1, (q1.2.1.2.2.2.2.1, ()))))), ())))
      (fun _ => some (0, ((q1.2.1.1, (q1.2.1.2.1, (q1.2.1.2.2.1, (q1.2.1.2.2.2.1, ((IntKind.wrap .i64 (q1.2.1.2.2.2.2.1 + 1)), ()))))), ())))))
  else
  some (2, ((s.1.1, (s.1.2.1, (s.1.2.2.1, (s.1.2.2.2.1, (s.1.2.2.2.2.1, ()))))), ())))
noncomputable def g56_talikref06_Lack_l0_fuel (s : (((List (List Int)) × (Int × (Int × (Bool × (Int × Unit))))) × Unit)) : Nat := Int.toNat ((List.length s.1.1 : Int) - s.1.2.2.2.2.1) + 1
noncomputable def g56_talikref06_Lack_l0_run (s : (((List (List Int)) × (Int × (Int × (Bool × (Int × Unit))))) × Unit)) : Option TY91 := iter g56_talikref06_Lack_l0_step (g56_talikref06_Lack_l0_fuel s) s
noncomputable def g56_talikref06_Lack_l0_L : LoopT := loopT g56_talikref06_Lack_l0_S [.ret, .exit 0] g56_talikref06_Lack_l0_run
noncomputable def g56_talikref06_Lack (a0 : (List (List Int))) : Option (Int × (Int × (Bool × Unit))) :=
  (Option.bind (g56_talikref06_Lack_l0_run ((a0, (0, (0, (false, (0, ()))))), ())) fun q2 =>
  (natK q2.1
    (some (q2.2.1.2.1, (q2.2.1.2.2.1, (q2.2.1.2.2.2.1, ()))))
    (fun _ => some (0, (0, (false, ()))))))
noncomputable def g56_talikref06_Lack_E : CEnt := pureE 56 [.dat (.list (.arr 3 (.int .i64)))] (.tup (.cons (.dat (.int .i64)) (.cons (.dat (.int .i64)) (.cons (.dat .bool) (.nil))))) fun x => g56_talikref06_Lack x.1
theorem g56_talikref06_Lack_l1_V : LValid 0 Tryd.prog (.loop g56_talikref06_Lack_l1_c) g56_talikref06_Lack_l1_L false := by
  have hb : ∀ s, codeR Tryd.prog g56_talikref06_Lack_C g56_talikref06_Lack_l1_c [] (g56_talikref06_Lack_l1_S.encE s) (g56_talikref06_Lack_l1_S.encB s) (kst g56_talikref06_Lack_l1_S [.ret, .exit 2]) = g56_talikref06_Lack_l1_step s := by
    intro s; kernel_rfl
  have hL : LV 0 Tryd.prog false (loopsOf g56_talikref06_Lack_l1_c) [] := by unfold LV; cases loopsOf g56_talikref06_Lack_l1_c <;> trivial
  exact loopT_valid (fuel := g56_talikref06_Lack_l1_fuel) mixed g56_talikref06_Lack_CV hL (by kernel_rfl) (by decide) rfl hb (fun s r h => h)
theorem g56_talikref06_Lack_l0_V : LValid 0 Tryd.prog (.loop g56_talikref06_Lack_l0_c) g56_talikref06_Lack_l0_L false := by
  have hb : ∀ s, codeR Tryd.prog g56_talikref06_Lack_C g56_talikref06_Lack_l0_c [g56_talikref06_Lack_l1_L] (g56_talikref06_Lack_l0_S.encE s) (g56_talikref06_Lack_l0_S.encB s) (kst g56_talikref06_Lack_l0_S [.ret, .exit 0]) = g56_talikref06_Lack_l0_step s := by
    intro s; kernel_rfl
  have hl : loopsOf g56_talikref06_Lack_l0_c = [.loop g56_talikref06_Lack_l1_c] := by kernel_rfl
  have hL : LV 0 Tryd.prog false (loopsOf g56_talikref06_Lack_l0_c) [g56_talikref06_Lack_l1_L] := by rw [hl]; exact ⟨g56_talikref06_Lack_l1_V, trivial⟩
  exact loopT_valid (fuel := g56_talikref06_Lack_l0_fuel) mixed g56_talikref06_Lack_CV hL (by kernel_rfl) (by decide) rfl hb (fun s r h => h)
theorem g56_talikref06_Lack_LV : LV 0 Tryd.prog false (loopsOf (bodyOf Tryd.f56)) [g56_talikref06_Lack_l0_L] := by
  have hl : loopsOf (bodyOf Tryd.f56) = [.loop g56_talikref06_Lack_l0_c] := by kernel_rfl
  rw [hl]; exact ⟨g56_talikref06_Lack_l0_V, trivial⟩
theorem g56_talikref06_Lack_ent : Ent Tryd.prog 56 := ⟨by decide, enters_of Tryd.func56 (by kernel_rfl) rfl⟩
theorem g56_talikref06_Lack_hev : ∀ x, fnR Tryd.prog g56_talikref06_Lack_C [g56_talikref06_Lack_l0_L] Tryd.f56 (bodyOf Tryd.f56) (encs [.dat (.list (.arr 3 (.int .i64)))] x) ⟨[], [], 0⟩ (frzF (.tup (.cons (.dat (.int .i64)) (.cons (.dat (.int .i64)) (.cons (.dat .bool) (.nil)))))) = g56_talikref06_Lack x.1 := by
  intro x; kernel_rfl
theorem g56_talikref06_Lack_valid : g56_talikref06_Lack_E.Valid Tryd.prog :=
  pureE_valid (by kernel_rfl) (by kernel_rfl) g56_talikref06_Lack_ent (frz_lcall mixed Tryd.func56 rfl g56_talikref06_Lack_ent g56_talikref06_Lack_CV g56_talikref06_Lack_LV (by kernel_rfl) (by kernel_rfl) g56_talikref06_Lack_hev)

noncomputable def g26_talikref06_Fault_C : CalT := tabC [g38_talikref06_Run_E, g56_talikref06_Lack_E]
theorem g26_talikref06_Fault_CV : CV Tryd.prog g26_talikref06_Fault_C := tabC_valid (l := [g38_talikref06_Run_E, g56_talikref06_Lack_E]) ⟨g38_talikref06_Run_valid, g56_talikref06_Lack_valid, trivial⟩
noncomputable def g26_talikref06_Fault_l0_c : Code := loopAt (bodyOf Tryd.f26) 0
noncomputable def g26_talikref06_Fault_l1_c : Code := loopAt g26_talikref06_Fault_l0_c 0
noncomputable def g26_talikref06_Fault_l1_S : SPat := ⟨[.any, .dat (.int .i64), .fix (.bptr 0 []), .any, .fix (.bptr 1 []), .dat (.int .i64), .dat (.int .i64), .any, .any, .any, .any, .any, .any, .any, .any, .any, .any, .any, .any, .any, .any, .any, .any, .any, .any, .any, .any, .any, .any, .any, .any, .any, .any, .any, .any, .any, .any, .any, .any, .any, .any, .any], [.dat T27, .cons (.dat .bool) PA47], 0⟩
noncomputable def g26_talikref06_Fault_l1_step (s : TY54) : Option TY55 :=
  (bif (decide (s.1.2.2.1 < (List.length s.2.1.2.2.2.2.2.2.2.1 : Int))) then
  (Option.bind (g38_talikref06_Run s.2.1 s.1.1 s.1.2.1 s.1.2.2.1) fun r1 =>
    (Option.bind (g56_talikref06_Lack r1.2.2.1) fun r2 =>
      (bif r2.2.2.1 then
        some (1, ((s.1.1, (s.1.2.1, (s.1.2.2.1, ()))), (s.2.1, ((true, (s.1.2.1, (s.1.2.2.1, (r2.1, (r2.2.1, ()))))), ()))))
        else
        some (0, ((s.1.1, (s.1.2.1, ((IntKind.wrap .i64 (s.1.2.2.1 + 1)), ()))), (s.2.1, (s.2.2.1, ())))))))
  else
  some (2, ((s.1.1, (s.1.2.1, (s.1.2.2.1, ()))), (s.2.1, (s.2.2.1, ())))))
noncomputable def g26_talikref06_Fault_l1_fuel (s : TY54) : Nat := Int.toNat ((List.length s.2.1.2.2.2.2.2.2.2.1 : Int) - s.1.2.2.1) + 1
noncomputable def g26_talikref06_Fault_l1_run (s : TY54) : Option TY55 := iter g26_talikref06_Fault_l1_step (g26_talikref06_Fault_l1_fuel s) s
noncomputable def g26_talikref06_Fault_l1_L : LoopT := loopT g26_talikref06_Fault_l1_S [.ret, .exit 2] g26_talikref06_Fault_l1_run
noncomputable def g26_talikref06_Fault_l0_S : SPat := ⟨[.any, .dat (.int .i64), .fix (.bptr 0 []), .any, .fix (.bptr 1 []), .dat (.int .i64), .any, .any, .any, .any, .any, .any, .any, .any, .any, .any, .any, .any, .any, .any, .any, .any, .any, .any, .any, .any, .any, .any, .any, .any, .any, .any, .any, .any, .any, .any, .any, .any, .any, .any, .any, .any], [.dat T27, .cons (.dat .bool) PA47], 0⟩
abbrev TY92 : Type := ((Int × (Int × Unit)) × (E27 × ((Bool × (Int × (Int × (Int × (Int × Unit))))) × Unit)))
abbrev TY93 : Type := (Nat × ((Int × (Int × Unit)) × (E27 × ((Bool × (Int × (Int × (Int × (Int × Unit))))) × Unit))))
noncomputable def g26_talikref06_Fault_l0_step (s : TY92) : Option TY93 :=
  (bif (decide (s.1.2.1 < (List.length s.2.1.2.2.2.2.2.2.1 : Int))) then
  (Option.bind (g26_talikref06_Fault_l1_run ((s.1.1, (s.1.2.1, (0, ()))), (s.2.1, (s.2.2.1, ())))) fun q3 =>
    (natK q3.1
      (some (1, ((q3.2.1.1, (q3.2.1.2.1, ())), (q3.2.2.1, (q3.2.2.2.1, ())))))
      (fun _ => some (0, ((q3.2.1.1, ((IntKind.wrap .i64 (q3.2.1.2.1 + 1)), ())), (q3.2.2.1, (q3.2.2.2.1, ())))))))
  else
  some (2, ((s.1.1, (s.1.2.1, ())), (s.2.1, (s.2.2.1, ())))))
noncomputable def g26_talikref06_Fault_l0_fuel (s : TY92) : Nat := Int.toNat ((List.length s.2.1.2.2.2.2.2.2.1 : Int) - s.1.2.1) + 1
noncomputable def g26_talikref06_Fault_l0_run (s : TY92) : Option TY93 := iter g26_talikref06_Fault_l0_step (g26_talikref06_Fault_l0_fuel s) s
noncomputable def g26_talikref06_Fault_l0_L : LoopT := loopT g26_talikref06_Fault_l0_S [.ret, .exit 0] g26_talikref06_Fault_l0_run
noncomputable def g26_talikref06_Fault (a0 : E27) (a1 : Int) : Option E44 :=
  (Option.bind (g26_talikref06_Fault_l0_run ((a1, (0, ())), (a0, ((false, (0, (0, (0, (0, ()))))), ())))) fun q4 =>
  (natK q4.1
    (some q4.2.2.2.1)
    (fun _ => some (false, (0, (0, (0, (0, ()))))))))
noncomputable def g26_talikref06_Fault_E : CEnt := pureE 26 [.dat T27, .dat (.int .i64)] (.dat T44) fun x => g26_talikref06_Fault x.1 x.2.1
theorem g26_talikref06_Fault_l1_V : LValid 0 Tryd.prog (.loop g26_talikref06_Fault_l1_c) g26_talikref06_Fault_l1_L false := by
  have hb : ∀ s, codeR Tryd.prog g26_talikref06_Fault_C g26_talikref06_Fault_l1_c [] (g26_talikref06_Fault_l1_S.encE s) (g26_talikref06_Fault_l1_S.encB s) (kst g26_talikref06_Fault_l1_S [.ret, .exit 2]) = g26_talikref06_Fault_l1_step s := by
    intro s; kernel_rfl
  have hL : LV 0 Tryd.prog false (loopsOf g26_talikref06_Fault_l1_c) [] := by unfold LV; cases loopsOf g26_talikref06_Fault_l1_c <;> trivial
  exact loopT_valid (fuel := g26_talikref06_Fault_l1_fuel) mixed g26_talikref06_Fault_CV hL (by kernel_rfl) (by decide) rfl hb (fun s r h => h)
theorem g26_talikref06_Fault_l0_V : LValid 0 Tryd.prog (.loop g26_talikref06_Fault_l0_c) g26_talikref06_Fault_l0_L false := by
  have hb : ∀ s, codeR Tryd.prog g26_talikref06_Fault_C g26_talikref06_Fault_l0_c [g26_talikref06_Fault_l1_L] (g26_talikref06_Fault_l0_S.encE s) (g26_talikref06_Fault_l0_S.encB s) (kst g26_talikref06_Fault_l0_S [.ret, .exit 0]) = g26_talikref06_Fault_l0_step s := by
    intro s; kernel_rfl
  have hl : loopsOf g26_talikref06_Fault_l0_c = [.loop g26_talikref06_Fault_l1_c] := by kernel_rfl
  have hL : LV 0 Tryd.prog false (loopsOf g26_talikref06_Fault_l0_c) [g26_talikref06_Fault_l1_L] := by rw [hl]; exact ⟨g26_talikref06_Fault_l1_V, trivial⟩
  exact loopT_valid (fuel := g26_talikref06_Fault_l0_fuel) mixed g26_talikref06_Fault_CV hL (by kernel_rfl) (by decide) rfl hb (fun s r h => h)
theorem g26_talikref06_Fault_LV : LV 0 Tryd.prog false (loopsOf (bodyOf Tryd.f26)) [g26_talikref06_Fault_l0_L] := by
  have hl : loopsOf (bodyOf Tryd.f26) = [.loop g26_talikref06_Fault_l0_c] := by kernel_rfl
  rw [hl]; exact ⟨g26_talikref06_Fault_l0_V, trivial⟩
theorem g26_talikref06_Fault_ent : Ent Tryd.prog 26 := ⟨by decide, enters_of Tryd.func26 (by kernel_rfl) rfl⟩
theorem g26_talikref06_Fault_hev : ∀ x, fnR Tryd.prog g26_talikref06_Fault_C [g26_talikref06_Fault_l0_L] Tryd.f26 (bodyOf Tryd.f26) (encs [.dat T27, .dat (.int .i64)] x) ⟨[], [], 0⟩ (frzF (.dat T44)) = g26_talikref06_Fault x.1 x.2.1 := by
  intro x; kernel_rfl
theorem g26_talikref06_Fault_valid : g26_talikref06_Fault_E.Valid Tryd.prog :=
  pureE_valid (by kernel_rfl) (by kernel_rfl) g26_talikref06_Fault_ent (frz_lcall mixed Tryd.func26 rfl g26_talikref06_Fault_ent g26_talikref06_Fault_CV g26_talikref06_Fault_LV (by kernel_rfl) (by kernel_rfl) g26_talikref06_Fault_hev)

end Go.Proofs.YtcijddeommognaaDoor.Abs
