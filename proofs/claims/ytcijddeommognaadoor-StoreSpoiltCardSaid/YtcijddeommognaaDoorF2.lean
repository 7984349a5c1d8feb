import Derived.Test.YtcijddeommognaaDoorF1
set_option linter.unusedVariables false
set_option maxRecDepth 100000
namespace Go.Proofs.YtcijddeommognaaDoor.Abs
open Go.Shelf Go.Sort
noncomputable def G88_v2_C : CalT := tabC [G28_E]
theorem G88_v2_CV : CV Tryd.prog G88_v2_C := tabC_valid (l := _) ⟨G28_valid, trivial⟩
noncomputable def G88_v2_l0_c : Code := loopAt (bodyOf Tryd.f88) 0
abbrev PA64 : PTy := (.cons (.any) (.cons (.fix (.bptr 2 [])) (.cons (.any) (.cons (.any) (.cons (.any) (.cons (.fix (.bptr 3 [])) (.cons (.fix (.bptr 4 [])) AN43)))))))
noncomputable def G88_v2_l0_S : SPat := ⟨[.fix (.yref 0), .fix (.bptr 1 []), .any, .any, .dat (.int .i64), .any, .any, .any, .any, .any, .any, .any, .any, .any, .any, .any, .any, .any, .any], [.lp 28 0 PA64, .dat (.int .i64), .dat T27, .fix (.mref 5), .dat (.int .i64), .map (.int .i64) (.int .i64)], 0⟩
abbrev TY65 : Type := ((Int × Unit) × ((Nat × UT50) × (Int × (E27 × (Int × ((List (Int × Int)) × Unit))))))
abbrev TY66 : Type := (Nat × ((Int × Unit) × ((Nat × UT50) × (Int × (E27 × (Int × ((List (Int × Int)) × Unit)))))))
noncomputable def G88_v2_l0_step (s : TY65) : Option TY66 :=
  (bif (decide (s.1.1 < 6)) then
  (bif (!decide (s.1.1 < 0)) then
    (bif ((IntKind.wrap .i64 ((BitVec.toNat ((BitVec.ofInt (IntKind.bits .i64) (Int.fdiv s.2.2.1 (2 ^ (min (Int.toNat s.1.1) (IntKind.bits .i64))))) &&& (BitVec.ofInt (IntKind.bits .i64) 1)) : Nat) : Int)) == 1) then
      (Option.bind (G28 s.1.1 (s.2.1.1, UC50) s.2.2.2.1 s.2.2.2.2.1 s.2.2.2.2.2.1) fun r1 =>
        (bif (!r1.1) then
          some (1, ((s.1.1, ()), ((r1.2.1.1, UC50), (s.2.2.1, (r1.2.2.1, (r1.2.2.2.1, (r1.2.2.2.2.1, ())))))))
          else
          some (0, (((IntKind.wrap .i64 (s.1.1 + 1)), ()), ((r1.2.1.1, UC50), (s.2.2.1, (r1.2.2.1, (r1.2.2.2.1, (r1.2.2.2.2.1, ())))))))))
      else
      some (0, (((IntKind.wrap .i64 (s.1.1 + 1)), ()), ((s.2.1.1, UC50), (s.2.2.1, (s.2.2.2.1, (s.2.2.2.2.1, (s.2.2.2.2.2.1, ()))))))))
    else
    none)
  else
  some (2, ((s.1.1, ()), ((s.2.1.1, UC50), (s.2.2.1, (s.2.2.2.1, (s.2.2.2.2.1, (s.2.2.2.2.2.1, ()))))))))
noncomputable def G88_v2_l0_fuel (s : TY65) : Nat := Int.toNat (6 - s.1.1) + 1
noncomputable def G88_v2_l0_run (s : TY65) : Option TY66 := iter G88_v2_l0_step (G88_v2_l0_fuel s) s
noncomputable def G88_v2_l0_L : LoopT := loopT G88_v2_l0_S [.ret, .exit 0] G88_v2_l0_run
abbrev TY67 : Type := (Unit × ((Nat × UT50) × (Int × (E27 × (Int × ((List (Int × Int)) × Unit))))))
noncomputable def G88_v2 (b0 : (Nat × UT50)) (b1 : Int) (b2 : E27) (b3 : Int) (b4 : (List (Int × Int))) : Option TY67 :=
  (Option.bind (G88_v2_l0_run ((0, ()), ((b0.1, UC50), (b1, (b2, (b3, (b4, ()))))))) fun q2 =>
  (natK q2.1
    (some ((), ((q2.2.2.1.1, UC50), (q2.2.2.2.1, (q2.2.2.2.2.1, (q2.2.2.2.2.2.1, (q2.2.2.2.2.2.2.1, ())))))))
    (fun _ => some ((), ((q2.2.2.1.1, UC50), (q2.2.2.2.1, (q2.2.2.2.2.1, (q2.2.2.2.2.2.1, (q2.2.2.2.2.2.2.1, ())))))))))
abbrev G88_v2_CS : CSpec := ⟨[.fix (.yref 0), .fix (.bptr 1 [])], [.lp 28 0 (.cons (.any) (.cons (.fix (.bptr 2 [])) (.cons (.any) (.cons (.any) (.cons (.any) (.cons (.fix (.bptr 3 [])) (.cons (.fix (.bptr 4 [])) AN43))))))), .dat (.int .i64), .dat T27, .fix (.mref 5), .dat (.int .i64), .map (.int .i64) (.int .i64)], 0, [.lp 28 0 (.cons (.any) (.cons (.fix (.bptr 2 [])) (.cons (.any) (.cons (.any) (.cons (.any) (.cons (.fix (.bptr 3 [])) (.cons (.fix (.bptr 4 [])) AN43))))))), .dat (.int .i64), .dat T27, .fix (.mref 5), .dat (.int .i64), .map (.int .i64) (.int .i64)], 0, .tup (.nil)⟩
noncomputable def G88_v2_E : CEnt := boxE 88 G88_v2_CS fun x => G88_v2 x.2.1 x.2.2.1 x.2.2.2.1 x.2.2.2.2.1 x.2.2.2.2.2.1
theorem G88_v2_l0_V : LValid 6 Tryd.prog (.loop G88_v2_l0_c) G88_v2_l0_L false := by
  have hb : ∀ s, codeR Tryd.prog G88_v2_C G88_v2_l0_c [] (G88_v2_l0_S.encE s) (G88_v2_l0_S.encB s) (kst G88_v2_l0_S [.ret, .exit 0]) = G88_v2_l0_step s := by
    intro s; kernel_rfl
  have hL : LV 6 Tryd.prog false (loopsOf G88_v2_l0_c) [] := by unfold LV; cases loopsOf G88_v2_l0_c <;> trivial
  exact loopT_valid (fuel := G88_v2_l0_fuel) mixed G88_v2_CV hL (by kernel_rfl) (by decide) rfl hb (fun s r h => h)
theorem G88_v2_LV : LV 6 Tryd.prog false (loopsOf (bodyOf Tryd.f88)) [G88_v2_l0_L] := by
  have hl : loopsOf (bodyOf Tryd.f88) = [.loop G88_v2_l0_c] := by kernel_rfl
  rw [hl]; exact ⟨G88_v2_l0_V, trivial⟩
theorem G88_v2_ent : Ent Tryd.prog 88 := ⟨by decide, enters_of Tryd.func88 (by kernel_rfl) rfl⟩
theorem G88_v2_hev : ∀ x : G88_v2_CS.In, fnR Tryd.prog G88_v2_C [G88_v2_l0_L] Tryd.f88 (bodyOf Tryd.f88) (encs G88_v2_CS.A x.1) ⟨encs G88_v2_CS.I x.2, [], G88_v2_CS.nt⟩ (finK G88_v2_CS) = G88_v2 x.2.1 x.2.2.1 x.2.2.2.1 x.2.2.2.2.1 x.2.2.2.2.2.1 := by
  intro x; kernel_rfl
theorem G88_v2_valid : G88_v2_E.Valid Tryd.prog :=
  boxE_valid (S := G88_v2_CS) (by kernel_rfl) (.inr G88_v2_ent) (fn_lcall (S := G88_v2_CS) mixed Tryd.func88 rfl G88_v2_ent G88_v2_CV G88_v2_LV (by kernel_rfl) (by kernel_rfl) G88_v2_hev)
noncomputable def G59_C : CalT := tabC [G55_E]
theorem G59_CV : CV Tryd.prog G59_C := tabC_valid (l := _) ⟨G55_valid, trivial⟩
noncomputable def G59 (a0 : Int) (b1 : E27) (b2 : (List (Int × Int))) : Option ((Int × (Bool × Unit)) × (E27 × ((List (Int × Int)) × Unit))) :=
  (Option.bind (G55 b1 a0) fun r1 =>
  some (((Option.getD (findD (.int .i64) a0 b2) 0), ((!r1.1), ())), (b1, (b2, ()))))
abbrev G59_CS : CSpec := ⟨[.dat (.int .i64), .fix (.bptr 0 []), .fix (.bptr 1 [])], [.fix (.mref 2), .dat T27, .map (.int .i64) (.int .i64)], 0, [.fix (.mref 2), .dat T27, .map (.int .i64) (.int .i64)], 0, .tup (.cons (.dat (.int .i64)) (.cons (.dat .bool) (.nil)))⟩
noncomputable def G59_E : CEnt := boxE 59 G59_CS fun x => G59 x.1.1 x.2.1 x.2.2.1
theorem G59_LV : LV 3 Tryd.prog false (loopsOf (bodyOf Tryd.f59)) [] := by unfold LV; cases loopsOf (bodyOf Tryd.f59) <;> trivial
theorem G59_ent : Ent Tryd.prog 59 := ⟨by decide, enters_of Tryd.func59 (by kernel_rfl) rfl⟩
theorem G59_hev : ∀ x : G59_CS.In, fnR Tryd.prog G59_C [] Tryd.f59 (bodyOf Tryd.f59) (encs G59_CS.A x.1) ⟨encs G59_CS.I x.2, [], G59_CS.nt⟩ (finK G59_CS) = G59 x.1.1 x.2.1 x.2.2.1 := by
  intro x; kernel_rfl
theorem G59_valid : G59_E.Valid Tryd.prog :=
  boxE_valid (S := G59_CS) (by kernel_rfl) (.inr G59_ent) (fn_lcall (S := G59_CS) mixed Tryd.func59 rfl G59_ent G59_CV G59_LV (by kernel_rfl) (by kernel_rfl) G59_hev)
noncomputable def G58_C : CalT := tabC [G59_E]
theorem G58_CV : CV Tryd.prog G58_C := tabC_valid (l := _) ⟨G59_valid, trivial⟩
noncomputable def G58_l0_c : Code := loopAt (bodyOf Tryd.f58) 0
noncomputable def G58_l0_S : SPat := ⟨[.any, .fix (.func (.func 59) .nil (.cons (.bptr 0 []) (.cons (.bptr 1 []) .nil))), .any, .any, .any, .any, .any, .dat (.int .i64), .dat (.int .i64), .dat .bool, .any, .any, .any, .dat (.int .i64), .dat (.int .i64), .any, .any, .any, .any, .any, .any, .any, .any, .any, .any, .any, .any, .any, .any, .any, .any, .any, .any, .any, .any, .any, .any, .any, .any], [.fix (.mref 2), .dat T27, .map (.int .i64) (.int .i64)], 0⟩
abbrev TY68 : Type := ((Int × (Int × (Bool × (Int × (Int × Unit))))) × (E27 × ((List (Int × Int)) × Unit)))
abbrev TY69 : Type := (Nat × ((Int × (Int × (Bool × (Int × (Int × Unit))))) × (E27 × ((List (Int × Int)) × Unit))))
noncomputable def G58_l0_step (s : TY68) : Option TY69 :=
  (bif (decide (s.1.2.2.2.2.1 < s.1.2.2.2.1)) then
  (Option.bind (G59 s.1.2.2.2.2.1 s.2.1 s.2.2.1) fun r1 =>
    (bif r1.1.2.1 then
      (bif (!s.1.2.2.1) then
        some (0, ((s.1.2.2.2.2.1, (r1.1.1, (true, (s.1.2.2.2.1, ((IntKind.wrap .i64 (s.1.2.2.2.2.1 + 1)), ()))))), (r1.2.1, (r1.2.2.1, ()))))
        else
        (bif (decide (r1.1.1 < s.1.2.1)) then
          some (0, ((s.1.2.2.2.2.1, (r1.1.1, (true, (s.1.2.2.2.1, ((IntKind.wrap .i64 (s.1.2.2.2.2.1 + 1)), ()))))), (r1.2.1, (r1.2.2.1, ()))))
          else
          some (0, ((s.1.1, (s.1.2.1, (s.1.2.2.1, (s.1.2.2.2.1, ((IntKind.wrap .i64 (s.1.2.2.2.2.1 + 1)), ()))))), (r1.2.1, (r1.2.2.1, ()))))))
      else
      some (0, ((s.1.1, (s.1.2.1, (s.1.2.2.1, (s.1.2.2.2.1, ((IntKind.wrap .i64 (s.1.2.2.2.2.1 + 1)), ()))))), (r1.2.1, (r1.2.2.1, ()))))))
  else
  some (1, ((s.1.1, (s.1.2.1, (s.1.2.2.1, (s.1.2.2.2.1, (s.1.2.2.2.2.1, ()))))), (s.2.1, (s.2.2.1, ())))))
noncomputable def G58_l0_fuel (s : TY68) : Nat := Int.toNat (s.1.2.2.2.1 - s.1.2.2.2.2.1) + 1
noncomputable def G58_l0_run (s : TY68) : Option TY69 := iter G58_l0_step (G58_l0_fuel s) s
noncomputable def G58_l0_L : LoopT := loopT G58_l0_S [.exit 0] G58_l0_run
noncomputable def G58 (a0 : Int) (b1 : E27) (b2 : (List (Int × Int))) : Option ((Int × (Int × (Bool × Unit))) × (E27 × ((List (Int × Int)) × Unit))) :=
  (Option.bind (G58_l0_run ((0, (0, (false, (a0, (0, ()))))), (b1, (b2, ())))) fun q2 =>
  some ((q2.2.1.1, (q2.2.1.2.1, (q2.2.1.2.2.1, ()))), (q2.2.2.1, (q2.2.2.2.1, ()))))
abbrev G58_CS : CSpec := ⟨[.dat (.int .i64), .fix (.func (.func 59) .nil (.cons (.bptr 0 []) (.cons (.bptr 1 []) .nil)))], [.fix (.mref 2), .dat T27, .map (.int .i64) (.int .i64)], 0, [.fix (.mref 2), .dat T27, .map (.int .i64) (.int .i64)], 0, .tup (.cons (.dat (.int .i64)) (.cons (.dat (.int .i64)) (.cons (.dat .bool) (.nil))))⟩
noncomputable def G58_E : CEnt := boxE 58 G58_CS fun x => G58 x.1.1 x.2.1 x.2.2.1
theorem G58_l0_V : LValid 3 Tryd.prog (.loop G58_l0_c) G58_l0_L false := by
  have hb : ∀ s, codeR Tryd.prog G58_C G58_l0_c [] (G58_l0_S.encE s) (G58_l0_S.encB s) (kst G58_l0_S [.exit 0]) = G58_l0_step s := by
    intro s; kernel_rfl
  have hL : LV 3 Tryd.prog false (loopsOf G58_l0_c) [] := by unfold LV; cases loopsOf G58_l0_c <;> trivial
  exact loopT_valid (fuel := G58_l0_fuel) mixed G58_CV hL (by kernel_rfl) (by decide) rfl hb (fun s r h => h)
theorem G58_LV : LV 3 Tryd.prog false (loopsOf (bodyOf Tryd.f58)) [G58_l0_L] := by
  have hl : loopsOf (bodyOf Tryd.f58) = [.loop G58_l0_c] := by kernel_rfl
  rw [hl]; exact ⟨G58_l0_V, trivial⟩
theorem G58_ent : Ent Tryd.prog 58 := ⟨by decide, enters_of Tryd.func58 (by kernel_rfl) rfl⟩
theorem G58_hev : ∀ x : G58_CS.In, fnR Tryd.prog G58_C [G58_l0_L] Tryd.f58 (bodyOf Tryd.f58) (encs G58_CS.A x.1) ⟨encs G58_CS.I x.2, [], G58_CS.nt⟩ (finK G58_CS) = G58 x.1.1 x.2.1 x.2.2.1 := by
  intro x; kernel_rfl
theorem G58_valid : G58_E.Valid Tryd.prog :=
  boxE_valid (S := G58_CS) (by kernel_rfl) (.inr G58_ent) (fn_lcall (S := G58_CS) mixed Tryd.func58 rfl G58_ent G58_CV G58_LV (by kernel_rfl) (by kernel_rfl) G58_hev)
noncomputable def g28_store_Best_C : CalT := tabC [G51_E, G57_E, G88_v2_E, G58_E]
theorem g28_store_Best_CV : CV Tryd.prog g28_store_Best_C := tabC_valid (l := _) ⟨G51_valid, G57_valid, G88_v2_valid, G58_valid, trivial⟩
noncomputable def g28_store_Best_l0_c : Code := loopAt (bodyOf Tryd.f28) 0
noncomputable def g28_store_Best_f0_L : LoopT := rfT g28_store_Best_C 28 0 (.tmp 23) [.normal]
noncomputable def g28_store_Best_l0_S : SPat := ⟨[.any, .fix (.bptr 0 []), .any, .any, .any, .fix (.bptr 2 []), .any, .any, .any, .any, .any, .any, .any, .any, .any, .any, .any, .any, .dat (.int .i64), .dat (.int .i64), .any, .any, .any, .any, .any, .any, .any, .any, .any, .any, .any, .any, .any, .any, .any, .any, .any, .any, .any, .any, .any, .any, .any, .any, .any, .any, .any, .any, .any, .any], [.dat T27, .map (.int .i64) (.int .i64), .fix (.mref 1)], 0⟩
noncomputable def g28_store_Best_l0_step (s : ((Int × (Int × Unit)) × (E27 × ((List (Int × Int)) × Unit)))) : Option (Nat × ((Int × (Int × Unit)) × (E27 × ((List (Int × Int)) × Unit)))) :=
  (bif (decide (s.1.2.1 < s.1.1)) then
  (Option.bind (G57 s.1.2.1) fun r2 =>
    (Option.bind (G88_v2 (0, UC50) r2.2.1 s.2.1 s.1.2.1 s.2.2.1) fun r3 =>
      (bif (r3.2.1.1 == 0) then
        some (0, ((s.1.1, ((IntKind.wrap .i64 (s.1.2.1 + 1)), ())), (r3.2.2.2.1, (r3.2.2.2.2.2.1, ()))))
        else
        none)))
  else
  some (1, ((s.1.1, (s.1.2.1, ())), (s.2.1, (s.2.2.1, ())))))
noncomputable def g28_store_Best_l0_fuel (s : ((Int × (Int × Unit)) × (E27 × ((List (Int × Int)) × Unit)))) : Nat := Int.toNat (s.1.1 - s.1.2.1) + 1
noncomputable def g28_store_Best_l0_run (s : ((Int × (Int × Unit)) × (E27 × ((List (Int × Int)) × Unit)))) : Option (Nat × ((Int × (Int × Unit)) × (E27 × ((List (Int × Int)) × Unit)))) := iter g28_store_Best_l0_step (g28_store_Best_l0_fuel s) s
noncomputable def g28_store_Best_l0_L : LoopT := loopT g28_store_Best_l0_S [.exit 0] g28_store_Best_l0_run
noncomputable def g28_store_Best (a0 : E27) : Option (Int × (Int × (Int × Unit))) :=
  (Option.bind (G51 a0) fun r1 =>
  (bif (!r1) then
    some (0, (0, (2, ())))
    else
    (bif (!decide ((List.length a0.2.2.2.2.2.1 : Int) < 0)) then
      (Option.bind (g28_store_Best_l0_run (((IntKind.wrap .i64 (1 * 2 ^ (min (Int.toNat (List.length a0.2.2.2.2.2.1 : Int)) (IntKind.bits .i64)))), (0, ())), (a0, (([] : List (Int × Int)), ())))) fun q4 =>
        (bif (!decide ((List.length q4.2.2.1.2.2.2.2.2.1 : Int) < 0)) then
          (Option.bind (G58 (IntKind.wrap .i64 (1 * 2 ^ (min (Int.toNat (List.length q4.2.2.1.2.2.2.2.2.1 : Int)) (IntKind.bits .i64)))) q4.2.2.1 q4.2.2.2.1) fun r5 =>
            (bif (!r5.1.2.2.1) then
              some (0, (0, (5, ())))
              else
              some (r5.1.1, (r5.1.2.1, (0, ())))))
          else
          none))
      else
      none)))
noncomputable def g28_store_Best_E : CEnt := pureE 28 [.dat T27] (.tup (.cons (.dat (.int .i64)) (.cons (.dat (.int .i64)) (.cons (.dat (.int .i64)) (.nil))))) fun x => g28_store_Best x.1
theorem g28_store_Best_f0_V : LValid 0 Tryd.prog (lcode 28 0) g28_store_Best_f0_L := rfT_valid' g28_store_Best_CV (by kernel_rfl)
theorem g28_store_Best_l0_V : LValid 0 Tryd.prog (.loop g28_store_Best_l0_c) g28_store_Best_l0_L false := by
  have hb : ∀ s, codeR Tryd.prog g28_store_Best_C g28_store_Best_l0_c [g28_store_Best_f0_L] (g28_store_Best_l0_S.encE s) (g28_store_Best_l0_S.encB s) (kst g28_store_Best_l0_S [.exit 0]) = g28_store_Best_l0_step s := by
    intro s; kernel_rfl
  have hl : loopsOf g28_store_Best_l0_c = [(lcode 28 0)] := by kernel_rfl
  have hL : LV 0 Tryd.prog false (loopsOf g28_store_Best_l0_c) [g28_store_Best_f0_L] := by rw [hl]; exact ⟨g28_store_Best_f0_V, trivial⟩
  exact loopT_valid (fuel := g28_store_Best_l0_fuel) mixed g28_store_Best_CV hL (by kernel_rfl) (by decide) rfl hb (fun s r h => h)
theorem g28_store_Best_LV : LV 0 Tryd.prog false (loopsOf (bodyOf Tryd.f28)) [g28_store_Best_l0_L] := by
  have hl : loopsOf (bodyOf Tryd.f28) = [.loop g28_store_Best_l0_c] := by kernel_rfl
  rw [hl]; exact ⟨g28_store_Best_l0_V, trivial⟩
theorem g28_store_Best_ent : Ent Tryd.prog 28 := ⟨by decide, enters_of Tryd.func28 (by kernel_rfl) rfl⟩
theorem g28_store_Best_hev : ∀ x, fnR Tryd.prog g28_store_Best_C [g28_store_Best_l0_L] Tryd.f28 (bodyOf Tryd.f28) (encs [.dat T27] x) ⟨[], [], 0⟩ (frzF (.tup (.cons (.dat (.int .i64)) (.cons (.dat (.int .i64)) (.cons (.dat (.int .i64)) (.nil)))))) = g28_store_Best x.1 := by
  intro x; kernel_rfl
theorem g28_store_Best_valid : g28_store_Best_E.Valid Tryd.prog :=
  pureE_valid (by kernel_rfl) (by kernel_rfl) g28_store_Best_ent (frz_lcall mixed Tryd.func28 rfl g28_store_Best_ent g28_store_Best_CV g28_store_Best_LV (by kernel_rfl) (by kernel_rfl) g28_store_Best_hev)
noncomputable def G62_C : CalT := tabC []
theorem G62_CV : CV Tryd.prog G62_C := tabC_valid (l := _) trivial
noncomputable def G62_l0_c : Code := loopAt (bodyOf Tryd.f62) 0
noncomputable def G62_l0_S : SPat := ⟨[.any, .any, .fix (.bptr 0 []), .fix (.bptr 1 []), .any, .dat (.int .i64), .any, .dat (.int .i64), .any, .any, .any, .any, .any, .any, .any, .any, .any, .any, .any, .any, .any], [.dat (.arr 3 (.int .i64)), .dat (.arr 3 (.int .i64))], 0⟩
noncomputable def G62_l0_step (s : ((Int × (Int × Unit)) × ((List Int) × ((List Int) × Unit)))) : Option (Nat × ((Int × (Int × Unit)) × ((List Int) × ((List Int) × Unit)))) :=
  (bif (decide (s.1.2.1 < 3)) then
  (bif (decide (0 ≤ s.1.2.1) && decide (s.1.2.1 < (3 : Int))) then
    (bif (decide (0 ≤ s.1.2.1) && decide (s.1.2.1 < (3 : Int))) then
      some (0, (((IntKind.wrap .i64 (s.1.1 + (IntKind.wrap .i64 ((List.getD s.2.1 (Int.toNat s.1.2.1) 0) * (List.getD s.2.2.1 (Int.toNat s.1.2.1) 0))))), ((IntKind.wrap .i64 (s.1.2.1 + 1)), ())), (s.2.1, (s.2.2.1, ()))))
      else
      none)
    else
    none)
  else
  some (1, ((s.1.1, (s.1.2.1, ())), (s.2.1, (s.2.2.1, ())))))
noncomputable def G62_l0_fuel (s : ((Int × (Int × Unit)) × ((List Int) × ((List Int) × Unit)))) : Nat := Int.toNat (3 - s.1.2.1) + 1
noncomputable def G62_l0_run (s : ((Int × (Int × Unit)) × ((List Int) × ((List Int) × Unit)))) : Option (Nat × ((Int × (Int × Unit)) × ((List Int) × ((List Int) × Unit)))) := iter G62_l0_step (G62_l0_fuel s) s
noncomputable def G62_l0_L : LoopT := loopT G62_l0_S [.exit 0] G62_l0_run
noncomputable def G62 (a0 : (List Int)) (a1 : (List Int)) : Option Int :=
  (Option.bind (G62_l0_run ((0, (0, ())), (a0, (a1, ())))) fun q1 =>
  some q1.2.1.1)
noncomputable def G62_E : CEnt := pureE 62 [.dat (.arr 3 (.int .i64)), .dat (.arr 3 (.int .i64))] (.dat (.int .i64)) fun x => G62 x.1 x.2.1
theorem G62_l0_V : LValid 0 Tryd.prog (.loop G62_l0_c) G62_l0_L false := by
  exact loopT_valid (fuel := G62_l0_fuel) mixed G62_CV (lvNil _) (by kernel_rfl) (by decide) rfl (by intro s; kernel_rfl) (fun s r h => h)
theorem G62_LV : LV 0 Tryd.prog false (loopsOf (bodyOf Tryd.f62)) [G62_l0_L] := by
  have hl : loopsOf (bodyOf Tryd.f62) = [.loop G62_l0_c] := by kernel_rfl
  rw [hl]; exact ⟨G62_l0_V, trivial⟩
theorem G62_ent : Ent Tryd.prog 62 := ⟨by decide, enters_of Tryd.func62 (by kernel_rfl) rfl⟩
theorem G62_hev : ∀ x, fnR Tryd.prog G62_C [G62_l0_L] Tryd.f62 (bodyOf Tryd.f62) (encs [.dat (.arr 3 (.int .i64)), .dat (.arr 3 (.int .i64))] x) ⟨[], [], 0⟩ (frzF (.dat (.int .i64))) = G62 x.1 x.2.1 := by
  intro x; kernel_rfl
theorem G62_valid : G62_E.Valid Tryd.prog :=
  pureE_valid (by kernel_rfl) (by kernel_rfl) G62_ent (frz_lcall mixed Tryd.func62 rfl G62_ent G62_CV G62_LV (by kernel_rfl) (by kernel_rfl) G62_hev)
noncomputable def G61_C : CalT := tabC [G62_E]
theorem G61_CV : CV Tryd.prog G61_C := tabC_valid (l := _) ⟨G62_valid, trivial⟩
noncomputable def G61 (a0 : E39) (b1 : (List Int)) : Option (Bool × ((List Int) × Unit)) :=
  (Option.bind (G62 a0.2.1 b1) fun r1 =>
  some ((decide (r1 > a0.2.2.1)), (b1, ())))
abbrev G61_CS : CSpec := ⟨[.dat T39, .fix (.bptr 0 [])], [.dat (.arr 3 (.int .i64))], 0, [.dat (.arr 3 (.int .i64))], 0, .dat .bool⟩
noncomputable def G61_E : CEnt := boxE 61 G61_CS fun x => G61 x.1.1 x.2.1
theorem G61_LV : LV 1 Tryd.prog false (loopsOf (bodyOf Tryd.f61)) [] := by unfold LV; cases loopsOf (bodyOf Tryd.f61) <;> trivial
theorem G61_ent : Ent Tryd.prog 61 := ⟨by decide, enters_of Tryd.func61 (by kernel_rfl) rfl⟩
theorem G61_hev : ∀ x : G61_CS.In, fnR Tryd.prog G61_C [] Tryd.f61 (bodyOf Tryd.f61) (encs G61_CS.A x.1) ⟨encs G61_CS.I x.2, [], G61_CS.nt⟩ (finK G61_CS) = G61 x.1.1 x.2.1 := by
  intro x; kernel_rfl
theorem G61_valid : G61_E.Valid Tryd.prog :=
  boxE_valid (S := G61_CS) (by kernel_rfl) (.inr G61_ent) (fn_lcall (S := G61_CS) mixed Tryd.func61 rfl G61_ent G61_CV G61_LV (by kernel_rfl) (by kernel_rfl) G61_hev)
noncomputable def G89_v1_C : CalT := tabC [G61_E]
theorem G89_v1_CV : CV Tryd.prog G89_v1_C := tabC_valid (l := _) ⟨G61_valid, trivial⟩
noncomputable def G89_v1_l0_c : Code := loopAt (bodyOf Tryd.f89) 0
noncomputable def G89_v1_l0_S : SPat := ⟨[.dat (.list T39), .fix (.func (.func 61) .nil (.cons (.bptr 0 []) .nil)), .any, .any, .dat (.int .i64), .any, .any, .dat (.int .i64), .dat (.int .i64), .any, .any, .any, .any, .any, .any, .any, .any, .any, .any], [.dat (.arr 3 (.int .i64))], 0⟩
abbrev TY70 : Type := (Nat × (((List E39) × (Int × (Int × (Int × Unit)))) × ((List Int) × Unit)))
noncomputable def G89_v1_l0_step (s : (((List E39) × (Int × (Int × (Int × Unit)))) × ((List Int) × Unit))) : Option TY70 :=
  (bif (decide (s.1.2.2.2.1 < s.1.2.2.1)) then
  (bif (decide (0 ≤ s.1.2.2.2.1) && decide (s.1.2.2.2.1 < (List.length s.1.1 : Int))) then
    (Option.bind (G61 (List.getD s.1.1 (Int.toNat s.1.2.2.2.1) (0, ((List.replicate 3 0), (0, ())))) s.2.1) fun r1 =>
      (bif r1.1 then
        some (1, ((s.1.1, (s.1.2.2.2.1, (s.1.2.2.1, (s.1.2.2.2.1, ())))), (r1.2.1, ())))
        else
        some (0, ((s.1.1, (s.1.2.1, (s.1.2.2.1, ((IntKind.wrap .i64 (s.1.2.2.2.1 + 1)), ())))), (r1.2.1, ())))))
    else
    none)
  else
  some (2, ((s.1.1, (s.1.2.1, (s.1.2.2.1, (s.1.2.2.2.1, ())))), (s.2.1, ()))))
noncomputable def G89_v1_l0_fuel (s : (((List E39) × (Int × (Int × (Int × Unit)))) × ((List Int) × Unit))) : Nat := Int.toNat (s.1.2.2.1 - s.1.2.2.2.1) + 1
noncomputable def G89_v1_l0_run (s : (((List E39) × (Int × (Int × (Int × Unit)))) × ((List Int) × Unit))) : Option TY70 := iter G89_v1_l0_step (G89_v1_l0_fuel s) s
noncomputable def G89_v1_l0_L : LoopT := loopT G89_v1_l0_S [.ret, .exit 0] G89_v1_l0_run
noncomputable def G89_v1 (a0 : (List E39)) (b1 : (List Int)) : Option (Int × ((List Int) × Unit)) :=
  (Option.bind (G89_v1_l0_run ((a0, (0, ((List.length a0 : Int), (0, ())))), (b1, ()))) fun q2 =>
  (natK q2.1
    (some (q2.2.1.2.1, (q2.2.2.1, ())))
    (fun _ => some ((-1), (q2.2.2.1, ())))))
abbrev G89_v1_CS : CSpec := ⟨[.dat (.list T39), .fix (.func (.func 61) .nil (.cons (.bptr 0 []) .nil))], [.dat (.arr 3 (.int .i64))], 0, [.dat (.arr 3 (.int .i64))], 0, .dat (.int .i64)⟩
noncomputable def G89_v1_E : CEnt := boxE 89 G89_v1_CS fun x => G89_v1 x.1.1 x.2.1
theorem G89_v1_l0_V : LValid 1 Tryd.prog (.loop G89_v1_l0_c) G89_v1_l0_L false := by
  have hb : ∀ s, codeR Tryd.prog G89_v1_C G89_v1_l0_c [] (G89_v1_l0_S.encE s) (G89_v1_l0_S.encB s) (kst G89_v1_l0_S [.ret, .exit 0]) = G89_v1_l0_step s := by
    intro s; kernel_rfl
  have hL : LV 1 Tryd.prog false (loopsOf G89_v1_l0_c) [] := by unfold LV; cases loopsOf G89_v1_l0_c <;> trivial
  exact loopT_valid (fuel := G89_v1_l0_fuel) mixed G89_v1_CV hL (by kernel_rfl) (by decide) rfl hb (fun s r h => h)
theorem G89_v1_LV : LV 1 Tryd.prog false (loopsOf (bodyOf Tryd.f89)) [G89_v1_l0_L] := by
  have hl : loopsOf (bodyOf Tryd.f89) = [.loop G89_v1_l0_c] := by kernel_rfl
  rw [hl]; exact ⟨G89_v1_l0_V, trivial⟩
theorem G89_v1_ent : Ent Tryd.prog 89 := ⟨by decide, enters_of Tryd.func89 (by kernel_rfl) rfl⟩
theorem G89_v1_hev : ∀ x : G89_v1_CS.In, fnR Tryd.prog G89_v1_C [G89_v1_l0_L] Tryd.f89 (bodyOf Tryd.f89) (encs G89_v1_CS.A x.1) ⟨encs G89_v1_CS.I x.2, [], G89_v1_CS.nt⟩ (finK G89_v1_CS) = G89_v1 x.1.1 x.2.1 := by
  intro x; kernel_rfl
theorem G89_v1_valid : G89_v1_E.Valid Tryd.prog :=
  boxE_valid (S := G89_v1_CS) (by kernel_rfl) (.inr G89_v1_ent) (fn_lcall (S := G89_v1_CS) mixed Tryd.func89 rfl G89_v1_ent G89_v1_CV G89_v1_LV (by kernel_rfl) (by kernel_rfl) G89_v1_hev)
noncomputable def G60_v1_C : CalT := tabC [G89_v1_E]
theorem G60_v1_CV : CV Tryd.prog G60_v1_C := tabC_valid (l := _) ⟨G89_v1_valid, trivial⟩
noncomputable def G60_v1 (a0 : (List E39)) (b1 : (List Int)) : Option (Bool × ((List Int) × Unit)) :=
  (Option.bind (G89_v1 a0 b1) fun r1 =>
  some ((decide (r1.1 ≥ 0)), (r1.2.1, ())))
abbrev G60_v1_CS : CSpec := ⟨[.dat (.list T39), .fix (.func (.func 61) .nil (.cons (.bptr 0 []) .nil))], [.dat (.arr 3 (.int .i64))], 0, [.dat (.arr 3 (.int .i64))], 0, .dat .bool⟩
noncomputable def G60_v1_E : CEnt := boxE 60 G60_v1_CS fun x => G60_v1 x.1.1 x.2.1
theorem G60_v1_LV : LV 1 Tryd.prog false (loopsOf (bodyOf Tryd.f60)) [] := by unfold LV; cases loopsOf (bodyOf Tryd.f60) <;> trivial
theorem G60_v1_ent : Ent Tryd.prog 60 := ⟨by decide, enters_of Tryd.func60 (by kernel_rfl) rfl⟩
theorem G60_v1_hev : ∀ x : G60_v1_CS.In, fnR Tryd.prog G60_v1_C [] Tryd.f60 (bodyOf Tryd.f60) (encs G60_v1_CS.A x.1) ⟨encs G60_v1_CS.I x.2, [], G60_v1_CS.nt⟩ (finK G60_v1_CS) = G60_v1 x.1.1 x.2.1 := by
  intro x; kernel_rfl
theorem G60_v1_valid : G60_v1_E.Valid Tryd.prog :=
  boxE_valid (S := G60_v1_CS) (by kernel_rfl) (.inr G60_v1_ent) (fn_lcall (S := G60_v1_CS) mixed Tryd.func60 rfl G60_v1_ent G60_v1_CV G60_v1_LV (by kernel_rfl) (by kernel_rfl) G60_v1_hev)
noncomputable def G31_C : CalT := tabC [G51_E, G53_E, G60_v1_E, G63_E, G62_E]
theorem G31_CV : CV Tryd.prog G31_C := tabC_valid (l := _) ⟨G51_valid, G53_valid, G60_v1_valid, G63_valid, G62_valid, trivial⟩
noncomputable def G31_l0_c : Code := loopAt (bodyOf Tryd.f31) 0
noncomputable def G31_l1_c : Code := loopAt (bodyOf Tryd.f31) 1
noncomputable def G31_l0_S : SPat := ⟨[.any, .dat (.int .i64), .any, .fix (.bptr 0 []), .any, .fix (.bptr 1 []), .dat (.int .i64), .dat (.int .i64), .any, .any, .any, .any, .any, .any, .any, .any, .any, .any, .any, .any, .any, .any, .any, .dat (.int .i64), .any, .any, .any, .any, .any, .any, .any, .any, .any, .any, .any, .any, .any, .any, .any, .any, .any, .any, .any, .any, .any, .any, .any, .any, .any, .any, .any, .any, .any, .any, .any, .any, .any, .any, .any, .any], [.dat T27, .dat (.arr 3 (.int .i64))], 0⟩
abbrev TY71 : Type := (Nat × ((Int × (Int × (Int × (Int × Unit)))) × (E27 × ((List Int) × Unit))))
noncomputable def G31_l0_step (s : ((Int × (Int × (Int × (Int × Unit)))) × (E27 × ((List Int) × Unit)))) : Option TY71 :=
  (bif (decide (s.1.2.2.2.1 < 3)) then
  (bif (decide (0 ≤ s.1.2.2.2.1) && decide (s.1.2.2.2.1 < (3 : Int))) then
    (Option.bind (G53 (List.getD s.2.2.1 (Int.toNat s.1.2.2.2.1) 0) 0 1000000) fun r3 =>
      (bif (!r3) then
        some (1, ((s.1.1, (0, (2, (s.1.2.2.2.1, ())))), (s.2.1, (s.2.2.1, ()))))
        else
        some (0, ((s.1.1, (s.1.2.1, (s.1.2.2.1, ((IntKind.wrap .i64 (s.1.2.2.2.1 + 1)), ())))), (s.2.1, (s.2.2.1, ()))))))
    else
    none)
  else
  some (2, ((s.1.1, (s.1.2.1, (s.1.2.2.1, (s.1.2.2.2.1, ())))), (s.2.1, (s.2.2.1, ())))))
noncomputable def G31_l0_fuel (s : ((Int × (Int × (Int × (Int × Unit)))) × (E27 × ((List Int) × Unit)))) : Nat := Int.toNat (3 - s.1.2.2.2.1) + 1
noncomputable def G31_l0_run (s : ((Int × (Int × (Int × (Int × Unit)))) × (E27 × ((List Int) × Unit)))) : Option TY71 := iter G31_l0_step (G31_l0_fuel s) s
noncomputable def G31_l0_L : LoopT := loopT G31_l0_S [.ret, .exit 0] G31_l0_run
noncomputable def G31_l1_S : SPat := ⟨[.any, .any, .any, .fix (.bptr 0 []), .any, .fix (.bptr 1 []), .any, .any, .any, .fix (.bptr 2 []), .any, .any, .any, .any, .any, .any, .any, .any, .any, .any, .any, .any, .any, .any, .any, .any, .any, .any, .any, .any, .any, .any, .any, .any, .any, .any, .any, .any, .any, .any, .any, .any, .dat (.int .i64), .any, .any, .any, .any, .any, .any, .any, .any, .any, .any, .any, .any, .any, .any, .any, .any, .any], [.dat T27, .dat (.arr 3 (.int .i64)), .dat (.arr 3 (.int .i64))], 0⟩
noncomputable def G31_l1_step (s : ((Int × Unit) × (E27 × ((List Int) × ((List Int) × Unit))))) : Option (Nat × ((Int × Unit) × (E27 × ((List Int) × ((List Int) × Unit))))) :=
  (bif (decide (s.1.1 < 3)) then
  (bif (decide (0 ≤ s.1.1) && decide (s.1.1 < (3 : Int))) then
    (bif (decide (0 ≤ s.1.1) && decide (s.1.1 < (3 : Int))) then
      (bif (decide (0 ≤ s.1.1) && decide (s.1.1 < (3 : Int))) then
        some (0, (((IntKind.wrap .i64 (s.1.1 + 1)), ()), (s.2.1, (s.2.2.1, ((List.set s.2.2.2.1 (Int.toNat s.1.1) (if (IntKind.wrap .i64 ((List.getD s.2.2.2.1 (Int.toNat s.1.1) 0) - (List.getD s.2.1.1 (Int.toNat s.1.1) 0))) > 0 then (IntKind.wrap .i64 ((List.getD s.2.2.2.1 (Int.toNat s.1.1) 0) - (List.getD s.2.1.1 (Int.toNat s.1.1) 0))) else 0)), ())))))
        else
        none)
      else
      none)
    else
    none)
  else
  some (1, ((s.1.1, ()), (s.2.1, (s.2.2.1, (s.2.2.2.1, ()))))))
noncomputable def G31_l1_fuel (s : ((Int × Unit) × (E27 × ((List Int) × ((List Int) × Unit))))) : Nat := Int.toNat (3 - s.1.1) + 1
noncomputable def G31_l1_run (s : ((Int × Unit) × (E27 × ((List Int) × ((List Int) × Unit))))) : Option (Nat × ((Int × Unit) × (E27 × ((List Int) × ((List Int) × Unit))))) := iter G31_l1_step (G31_l1_fuel s) s
noncomputable def G31_l1_L : LoopT := loopT G31_l1_S [.exit 2] G31_l1_run
noncomputable def G31 (a0 : E27) (a1 : Int) (a2 : (List Int)) : Option (Int × (Int × Unit)) :=
  (Option.bind (G51 a0) fun r1 =>
  (bif (!r1) then
    some (0, (2, ()))
    else
    (Option.bind (G53 a1 0 (IntKind.wrap .i64 ((List.length a0.2.2.2.2.2.2.2.1 : Int) - 1))) fun r2 =>
      (bif (!r2) then
        some (0, (2, ()))
        else
        (Option.bind (G31_l0_run ((a1, (0, (0, (0, ())))), (a0, (a2, ())))) fun q4 =>
          (natK q4.1
            (some (q4.2.1.2.1, (q4.2.1.2.2.1, ())))
            (fun _ => (Option.bind (G60_v1 q4.2.2.1.2.2.2.2.2.1 q4.2.2.2.1) fun r5 =>
              (bif r5.1 then
                some (0, (7, ()))
                else
                (bif (decide (0 ≤ q4.2.1.1) && decide (q4.2.1.1 < (List.length q4.2.2.1.2.2.2.2.2.2.2.1 : Int))) then
                  (Option.bind (G63 (List.getD q4.2.2.1.2.2.2.2.2.2.2.1 (Int.toNat q4.2.1.1) [])) fun r6 =>
                    (Option.bind (G31_l1_run ((0, ()), (q4.2.2.1, (r5.2.1, (r6, ()))))) fun q7 =>
                      (Option.bind (G62 q7.2.2.2.2.1 q7.2.2.2.1) fun r8 =>
                        some (r8, (0, ())))))
                  else
                  none))))))))))
noncomputable def G31_E : CEnt := pureE 31 [.dat T27, .dat (.int .i64), .dat (.arr 3 (.int .i64))] (.tup (.cons (.dat (.int .i64)) (.cons (.dat (.int .i64)) (.nil)))) fun x => G31 x.1 x.2.1 x.2.2.1
theorem G31_l0_V : LValid 0 Tryd.prog (.loop G31_l0_c) G31_l0_L false := by
  exact loopT_valid (fuel := G31_l0_fuel) mixed G31_CV (lvNil _) (by kernel_rfl) (by decide) rfl (by intro s; kernel_rfl) (fun s r h => h)
theorem G31_l1_V : LValid 0 Tryd.prog (.loop G31_l1_c) G31_l1_L false := by
  exact loopT_valid (fuel := G31_l1_fuel) mixed G31_CV (lvNil _) (by kernel_rfl) (by decide) rfl (by intro s; kernel_rfl) (fun s r h => h)
theorem G31_LV : LV 0 Tryd.prog false (loopsOf (bodyOf Tryd.f31)) [G31_l0_L, G31_l1_L] := by
  have hl : loopsOf (bodyOf Tryd.f31) = [.loop G31_l0_c, .loop G31_l1_c] := by kernel_rfl
  rw [hl]; exact ⟨G31_l0_V, G31_l1_V, trivial⟩
theorem G31_ent : Ent Tryd.prog 31 := ⟨by decide, enters_of Tryd.func31 (by kernel_rfl) rfl⟩
theorem G31_hev : ∀ x, fnR Tryd.prog G31_C [G31_l0_L, G31_l1_L] Tryd.f31 (bodyOf Tryd.f31) (encs [.dat T27, .dat (.int .i64), .dat (.arr 3 (.int .i64))] x) ⟨[], [], 0⟩ (frzF (.tup (.cons (.dat (.int .i64)) (.cons (.dat (.int .i64)) (.nil))))) = G31 x.1 x.2.1 x.2.2.1 := by
  intro x; kernel_rfl
theorem G31_valid : G31_E.Valid Tryd.prog :=
  pureE_valid (by kernel_rfl) (by kernel_rfl) G31_ent (frz_lcall mixed Tryd.func31 rfl G31_ent G31_CV G31_LV (by kernel_rfl) (by kernel_rfl) G31_hev)
noncomputable def G90_C : CalT := tabC [G78_E]
theorem G90_CV : CV Tryd.prog G90_C := tabC_valid (l := _) ⟨G78_valid, trivial⟩
noncomputable def G90 (a0 : E39) : Option Bool :=
  (Option.bind (G78 a0) fun r1 =>
  some (!r1))
noncomputable def G90_E : CEnt := pureE 90 [.dat T39] (.dat .bool) fun x => G90 x.1
theorem G90_LV : LV 0 Tryd.prog false (loopsOf (bodyOf Tryd.f90)) [] := by unfold LV; cases loopsOf (bodyOf Tryd.f90) <;> trivial
theorem G90_ent : Ent Tryd.prog 90 := ⟨by decide, enters_of Tryd.func90 (by kernel_rfl) rfl⟩
theorem G90_hev : ∀ x, fnR Tryd.prog G90_C [] Tryd.f90 (bodyOf Tryd.f90) (encs [.dat T39] x) ⟨[], [], 0⟩ (frzF (.dat .bool)) = G90 x.1 := by
  intro x; kernel_rfl
theorem G90_valid : G90_E.Valid Tryd.prog :=
  pureE_valid (by kernel_rfl) (by kernel_rfl) G90_ent (frz_lcall mixed Tryd.func90 rfl G90_ent G90_CV G90_LV (by kernel_rfl) (by kernel_rfl) G90_hev)
noncomputable def G89_v2_C : CalT := tabC [G90_E]
theorem G89_v2_CV : CV Tryd.prog G89_v2_C := tabC_valid (l := _) ⟨G90_valid, trivial⟩
noncomputable def G89_v2_l0_c : Code := loopAt (bodyOf Tryd.f89) 0
noncomputable def G89_v2_l0_S : SPat := ⟨[.dat (.list T39), .fix (.func (.func 90) .nil .nil), .any, .any, .dat (.int .i64), .any, .any, .dat (.int .i64), .dat (.int .i64), .any, .any, .any, .any, .any, .any, .any, .any, .any, .any], [], 0⟩
noncomputable def G89_v2_l0_step (s : (((List E39) × (Int × (Int × (Int × Unit)))) × Unit)) : Option (Nat × (((List E39) × (Int × (Int × (Int × Unit)))) × Unit)) :=
  (bif (decide (s.1.2.2.2.1 < s.1.2.2.1)) then
  (bif (decide (0 ≤ s.1.2.2.2.1) && decide (s.1.2.2.2.1 < (List.length s.1.1 : Int))) then
    (Option.bind (G90 (List.getD s.1.1 (Int.toNat s.1.2.2.2.1) (0, ((List.replicate 3 0), (0, ()))))) fun r1 =>
      (bif r1 then
        some (1, ((s.1.1, (s.1.2.2.2.1, (s.1.2.2.1, (s.1.2.2.2.1, ())))), ()))
        else
        some (0, ((s.1.1, (s.1.2.1, (s.1.2.2.1, ((IntKind.wrap .i64 (s.1.2.2.2.1 + 1)), ())))), ()))))
    else
    none)
  else
  some (2, ((s.1.1, (s.1.2.1, (s.1.2.2.1, (s.1.2.2.2.1, ())))), ())))
noncomputable def G89_v2_l0_fuel (s : (((List E39) × (Int × (Int × (Int × Unit)))) × Unit)) : Nat := Int.toNat (s.1.2.2.1 - s.1.2.2.2.1) + 1
noncomputable def G89_v2_l0_run (s : (((List E39) × (Int × (Int × (Int × Unit)))) × Unit)) : Option (Nat × (((List E39) × (Int × (Int × (Int × Unit)))) × Unit)) := iter G89_v2_l0_step (G89_v2_l0_fuel s) s
noncomputable def G89_v2_l0_L : LoopT := loopT G89_v2_l0_S [.ret, .exit 0] G89_v2_l0_run
noncomputable def G89_v2 (a0 : (List E39)) : Option Int :=
  (Option.bind (G89_v2_l0_run ((a0, (0, ((List.length a0 : Int), (0, ())))), ())) fun q2 =>
  (natK q2.1
    (some q2.2.1.2.1)
    (fun _ => some (-1))))
noncomputable def G89_v2_E : CEnt := pureE 89 [.dat (.list T39), .fix (.func (.func 90) .nil .nil)] (.dat (.int .i64)) fun x => G89_v2 x.1
theorem G89_v2_l0_V : LValid 0 Tryd.prog (.loop G89_v2_l0_c) G89_v2_l0_L false := by
  exact loopT_valid (fuel := G89_v2_l0_fuel) mixed G89_v2_CV (lvNil _) (by kernel_rfl) (by decide) rfl (by intro s; kernel_rfl) (fun s r h => h)
theorem G89_v2_LV : LV 0 Tryd.prog false (loopsOf (bodyOf Tryd.f89)) [G89_v2_l0_L] := by
  have hl : loopsOf (bodyOf Tryd.f89) = [.loop G89_v2_l0_c] := by kernel_rfl
  rw [hl]; exact ⟨G89_v2_l0_V, trivial⟩
theorem G89_v2_ent : Ent Tryd.prog 89 := ⟨by decide, enters_of Tryd.func89 (by kernel_rfl) rfl⟩
theorem G89_v2_hev : ∀ x, fnR Tryd.prog G89_v2_C [G89_v2_l0_L] Tryd.f89 (bodyOf Tryd.f89) (encs [.dat (.list T39), .fix (.func (.func 90) .nil .nil)] x) ⟨[], [], 0⟩ (frzF (.dat (.int .i64))) = G89_v2 x.1 := by
  intro x; kernel_rfl
theorem G89_v2_valid : G89_v2_E.Valid Tryd.prog :=
  pureE_valid (by kernel_rfl) (by kernel_rfl) G89_v2_ent (frz_lcall mixed Tryd.func89 rfl G89_v2_ent G89_v2_CV G89_v2_LV (by kernel_rfl) (by kernel_rfl) G89_v2_hev)
noncomputable def G60_v2_C : CalT := tabC [G89_v2_E]
theorem G60_v2_CV : CV Tryd.prog G60_v2_C := tabC_valid (l := _) ⟨G89_v2_valid, trivial⟩
noncomputable def G60_v2 (a0 : (List E39)) : Option Bool :=
  (Option.bind (G89_v2 a0) fun r1 =>
  some (decide (r1 ≥ 0)))
noncomputable def G60_v2_E : CEnt := pureE 60 [.dat (.list T39), .fix (.func (.func 90) .nil .nil)] (.dat .bool) fun x => G60_v2 x.1
theorem G60_v2_LV : LV 0 Tryd.prog false (loopsOf (bodyOf Tryd.f60)) [] := by unfold LV; cases loopsOf (bodyOf Tryd.f60) <;> trivial
theorem G60_v2_ent : Ent Tryd.prog 60 := ⟨by decide, enters_of Tryd.func60 (by kernel_rfl) rfl⟩
theorem G60_v2_hev : ∀ x, fnR Tryd.prog G60_v2_C [] Tryd.f60 (bodyOf Tryd.f60) (encs [.dat (.list T39), .fix (.func (.func 90) .nil .nil)] x) ⟨[], [], 0⟩ (frzF (.dat .bool)) = G60_v2 x.1 := by
  intro x; kernel_rfl
theorem G60_v2_valid : G60_v2_E.Valid Tryd.prog :=
  pureE_valid (by kernel_rfl) (by kernel_rfl) G60_v2_ent (frz_lcall mixed Tryd.func60 rfl G60_v2_ent G60_v2_CV G60_v2_LV (by kernel_rfl) (by kernel_rfl) G60_v2_hev)
noncomputable def G65_C : CalT := tabC [G60_v2_E]
theorem G65_CV : CV Tryd.prog G65_C := tabC_valid (l := _) ⟨G60_v2_valid, trivial⟩
noncomputable def G65 (a0 : (List E39)) : Option Int :=
  (bif (decide ((List.length a0 : Int) > 6)) then
  some 3
  else
  (Option.bind (G60_v2 a0) fun r1 =>
    (bif r1 then
      some 2
      else
      some 0)))
noncomputable def G65_E : CEnt := pureE 65 [.dat (.list T39)] (.dat (.int .i64)) fun x => G65 x.1
theorem G65_LV : LV 0 Tryd.prog false (loopsOf (bodyOf Tryd.f65)) [] := by unfold LV; cases loopsOf (bodyOf Tryd.f65) <;> trivial
theorem G65_ent : Ent Tryd.prog 65 := ⟨by decide, enters_of Tryd.func65 (by kernel_rfl) rfl⟩
theorem G65_hev : ∀ x, fnR Tryd.prog G65_C [] Tryd.f65 (bodyOf Tryd.f65) (encs [.dat (.list T39)] x) ⟨[], [], 0⟩ (frzF (.dat (.int .i64))) = G65 x.1 := by
  intro x; kernel_rfl
theorem G65_valid : G65_E.Valid Tryd.prog :=
  pureE_valid (by kernel_rfl) (by kernel_rfl) G65_ent (frz_lcall mixed Tryd.func65 rfl G65_ent G65_CV G65_LV (by kernel_rfl) (by kernel_rfl) G65_hev)
noncomputable def G66_C : CalT := tabC [bchkM_E]
theorem G66_CV : CV Tryd.prog G66_C := tabC_valid (l := _) ⟨bchkM_valid, trivial⟩
noncomputable def G66 (a0 : ByteArray) (b1 : (Unit × ((List Int) × Unit))) : Option ((Int × (Unit × Unit)) × ((Unit × ((List Int) × Unit)) × Unit)) :=
  (Option.bind (bchkM ((), b1.2)) fun r1 =>
  (bif (decide (List.length r1.2.1.2.1 + List.length (bytesI a0) ≤ LIM)) then
    some (((ByteArray.size a0 : Int), ((), ())), (((), ((r1.2.1.2.1 ++ (bytesI a0)), r1.2.1.2.2)), ()))
    else
    none))
abbrev G66_CS : CSpec := ⟨[.fix (.bptr 0 []), .dat .str], [.tbox 99 (.cons (.optp 0) (.cons (.own 0 (.int .u8)) (.nil)))], 1, [.tbox 99 (.cons (.optp 0) (.cons (.own 0 (.int .u8)) (.nil)))], 1, .tup (.cons (.dat (.int .i64)) (.cons (.fix .inil) (.nil)))⟩
noncomputable def G66_E : CEnt := boxE 66 G66_CS fun x => G66 x.1.1 x.2.1
theorem G66_LV : LV 1 Tryd.prog false (loopsOf (bodyOf Tryd.f66)) [] := by unfold LV; cases loopsOf (bodyOf Tryd.f66) <;> trivial
theorem G66_ent : Ent Tryd.prog 66 := ⟨by decide, enters_of Tryd.func66 (by kernel_rfl) rfl⟩
theorem G66_hev : ∀ x : G66_CS.In, fnR Tryd.prog G66_C [] Tryd.f66 (bodyOf Tryd.f66) (encs G66_CS.A x.1) ⟨encs G66_CS.I x.2, [], G66_CS.nt⟩ (finK G66_CS) = G66 x.1.1 x.2.1 := by
  intro x; kernel_rfl
theorem G66_valid : G66_E.Valid Tryd.prog :=
  boxE_valid (S := G66_CS) (by kernel_rfl) (.inr G66_ent) (fn_lcall (S := G66_CS) mixed Tryd.func66 rfl G66_ent G66_CV G66_LV (by kernel_rfl) (by kernel_rfl) G66_hev)
noncomputable def G67_C : CalT := CalT.owns (tabC [])
theorem G67_CV : CV Tryd.prog G67_C := CV.owns (C := tabC []) (tabC_valid (l := _) trivial)
noncomputable def G67 (a0 : Int) (a1 : E39) : Option (List Int) :=
  (bif (decide (List.length [a0, a1.1, a1.2.2.1] + List.length a1.2.1 ≤ LIM)) then
  some ([a0, a1.1, a1.2.2.1] ++ a1.2.1)
  else
  none)
noncomputable def G67_E : CEnt := pureE 67 [.dat (.int .i64), .dat T39] (.dat (.list (.int .i64))) fun x => G67 x.1 x.2.1
theorem G67_LV : LV 0 Tryd.prog false (loopsOf (bodyOf Tryd.f67)) [] := by unfold LV; cases loopsOf (bodyOf Tryd.f67) <;> trivial
theorem G67_ent : Ent Tryd.prog 67 := ⟨by decide, enters_of Tryd.func67 (by kernel_rfl) rfl⟩
theorem G67_hev : ∀ x, fnR Tryd.prog G67_C [] Tryd.f67 (bodyOf Tryd.f67) (encs [.dat (.int .i64), .dat T39] x) ⟨[], [], 0⟩ (frzF (.dat (.list (.int .i64)))) = G67 x.1 x.2.1 := by
  intro x; kernel_rfl
theorem G67_valid : G67_E.Valid Tryd.prog :=
  pureE_valid (by kernel_rfl) (by kernel_rfl) G67_ent (frz_lcall mixed Tryd.func67 rfl G67_ent G67_CV G67_LV (by kernel_rfl) (by kernel_rfl) G67_hev)
noncomputable def G93_C : CalT := tabC [G67_E, itoaM_E]
theorem G93_CV : CV Tryd.prog G93_C := tabC_valid (l := _) ⟨G67_valid, itoaM_valid, trivial⟩
noncomputable def G93_l0_c : Code := loopAt (bodyOf Tryd.f93) 0
noncomputable def G93_l1_c : Code := loopAt G93_l0_c 0
noncomputable def G93_l1_S : SPat := ⟨[.any, .any, .any, .dat (.int .i64), .any, .any, .any, .any, .dat (.list T39), .dat (.int .i64), .dat (.int .i64), .any, .any, .any, .any, .any, .any, .dat (.list (.int .i64)), .dat (.int .i64), .dat (.int .i64), .any, .any, .any, .any, .any, .any, .any, .any, .any, .any, .any, .any, .any, .any, .any, .any, .any, .any, .any, .any, .any], [.dat T39], 0⟩
abbrev TY72 : Type := ((Int × ((List E39) × (Int × (Int × ((List Int) × (Int × (Int × Unit))))))) × (E39 × Unit))
abbrev TY73 : Type := (Nat × ((Int × ((List E39) × (Int × (Int × ((List Int) × (Int × (Int × Unit))))))) × (E39 × Unit)))
noncomputable def G93_l1_step (s : TY72) : Option TY73 :=
  (bif (decide (s.1.2.2.2.2.2.2.1 < s.1.2.2.2.2.2.1)) then
  (bif (decide (0 ≤ s.1.2.2.2.2.2.2.1) && decide (s.1.2.2.2.2.2.2.1 < (List.length s.1.2.2.2.2.1 : Int))) then
    some (0, (((Int.tmod (IntKind.wrap .i64 (s.1.1 + (IntKind.wrap .i64 ((Int.tmod (List.getD s.1.2.2.2.2.1 (Int.toNat s.1.2.2.2.2.2.2.1) 0) 97) * (IntKind.wrap .i64 (s.1.2.2.2.2.2.2.1 + 1)))))) 97), (s.1.2.1, (s.1.2.2.1, (s.1.2.2.2.1, (s.1.2.2.2.2.1, (s.1.2.2.2.2.2.1, ((IntKind.wrap .i64 (s.1.2.2.2.2.2.2.1 + 1)), ()))))))), (s.2.1, ())))
    else
    none)
  else
  some (1, ((s.1.1, (s.1.2.1, (s.1.2.2.1, (s.1.2.2.2.1, (s.1.2.2.2.2.1, (s.1.2.2.2.2.2.1, (s.1.2.2.2.2.2.2.1, ()))))))), (s.2.1, ()))))
noncomputable def G93_l1_fuel (s : TY72) : Nat := Int.toNat (s.1.2.2.2.2.2.1 - s.1.2.2.2.2.2.2.1) + 1
noncomputable def G93_l1_run (s : TY72) : Option TY73 := iter G93_l1_step (G93_l1_fuel s) s
noncomputable def G93_l1_L : LoopT := loopT G93_l1_S [.exit 2] G93_l1_run
noncomputable def G93_l0_S : SPat := ⟨[.any, .any, .any, .dat (.int .i64), .any, .any, .any, .any, .dat (.list T39), .dat (.int .i64), .dat (.int .i64), .any, .any, .any, .any, .any, .any, .any, .any, .any, .any, .any, .any, .any, .any, .any, .any, .any, .any, .any, .any, .any, .any, .any, .any, .any, .any, .any, .any, .any, .any], [], 0⟩
noncomputable def G93_l0_step (s : ((Int × ((List E39) × (Int × (Int × Unit)))) × Unit)) : Option (Nat × ((Int × ((List E39) × (Int × (Int × Unit)))) × Unit)) :=
  (bif (decide (s.1.2.2.2.1 < s.1.2.2.1)) then
  (bif (decide (0 ≤ s.1.2.2.2.1) && decide (s.1.2.2.2.1 < (List.length s.1.2.1 : Int))) then
    (Option.bind (G67 s.1.2.2.2.1 (List.getD s.1.2.1 (Int.toNat s.1.2.2.2.1) (0, ((List.replicate 3 0), (0, ()))))) fun r1 =>
      (Option.bind (G93_l1_run ((s.1.1, (s.1.2.1, (s.1.2.2.1, (s.1.2.2.2.1, (r1, ((List.length r1 : Int), (0, ()))))))), ((List.getD s.1.2.1 (Int.toNat s.1.2.2.2.1) (0, ((List.replicate 3 0), (0, ())))), ()))) fun q2 =>
        some (0, ((q2.2.1.1, (q2.2.1.2.1, (q2.2.1.2.2.1, ((IntKind.wrap .i64 (q2.2.1.2.2.2.1 + 1)), ())))), ()))))
    else
    none)
  else
  some (1, ((s.1.1, (s.1.2.1, (s.1.2.2.1, (s.1.2.2.2.1, ())))), ())))
noncomputable def G93_l0_fuel (s : ((Int × ((List E39) × (Int × (Int × Unit)))) × Unit)) : Nat := Int.toNat (s.1.2.2.1 - s.1.2.2.2.1) + 1
noncomputable def G93_l0_run (s : ((Int × ((List E39) × (Int × (Int × Unit)))) × Unit)) : Option (Nat × ((Int × ((List E39) × (Int × (Int × Unit)))) × Unit)) := iter G93_l0_step (G93_l0_fuel s) s
noncomputable def G93_l0_L : LoopT := loopT G93_l0_S [.exit 0] G93_l0_run
noncomputable def G93 (a0 : (List E39)) : Option ByteArray :=
  (Option.bind (G93_l0_run ((0, (a0, ((List.length a0 : Int), (0, ())))), ())) fun q3 =>
  (Option.bind (itoaM (IntKind.wrap .i64 (Int.tdiv q3.2.1.1 10))) fun r4 =>
    (Option.bind (itoaM (Int.tmod q3.2.1.1 10)) fun r5 =>
      (bif (decide (ByteArray.size r4 + ByteArray.size r5 ≤ LIM)) then
        some (ByteArray.append r4 r5)
        else
        none))))
noncomputable def G93_E : CEnt := pureE 93 [.dat (.list T39)] (.dat .str) fun x => G93 x.1
theorem G93_l1_V : LValid 0 Tryd.prog (.loop G93_l1_c) G93_l1_L false := by
  exact loopT_valid (fuel := G93_l1_fuel) mixed G93_CV (lvNil _) (by kernel_rfl) (by decide) rfl (by intro s; kernel_rfl) (fun s r h => h)
theorem G93_l0_V : LValid 0 Tryd.prog (.loop G93_l0_c) G93_l0_L false := by
  have hb : ∀ s, codeR Tryd.prog G93_C G93_l0_c [G93_l1_L] (G93_l0_S.encE s) (G93_l0_S.encB s) (kst G93_l0_S [.exit 0]) = G93_l0_step s := by
    intro s; kernel_rfl
  have hl : loopsOf G93_l0_c = [.loop G93_l1_c] := by kernel_rfl
  have hL : LV 0 Tryd.prog false (loopsOf G93_l0_c) [G93_l1_L] := by rw [hl]; exact ⟨G93_l1_V, trivial⟩
  exact loopT_valid (fuel := G93_l0_fuel) mixed G93_CV hL (by kernel_rfl) (by decide) rfl hb (fun s r h => h)
theorem G93_LV : LV 0 Tryd.prog false (loopsOf (bodyOf Tryd.f93)) [G93_l0_L] := by
  have hl : loopsOf (bodyOf Tryd.f93) = [.loop G93_l0_c] := by kernel_rfl
  rw [hl]; exact ⟨G93_l0_V, trivial⟩
theorem G93_ent : Ent Tryd.prog 93 := ⟨by decide, enters_of Tryd.func93 (by kernel_rfl) rfl⟩
theorem G93_hev : ∀ x, fnR Tryd.prog G93_C [G93_l0_L] Tryd.f93 (bodyOf Tryd.f93) (encs [.dat (.list T39)] x) ⟨[], [], 0⟩ (frzF (.dat .str)) = G93 x.1 := by
  intro x; kernel_rfl
theorem G93_valid : G93_E.Valid Tryd.prog :=
  pureE_valid (by kernel_rfl) (by kernel_rfl) G93_ent (frz_lcall mixed Tryd.func93 rfl G93_ent G93_CV G93_LV (by kernel_rfl) (by kernel_rfl) G93_hev)
noncomputable def G70_C : CalT := tabC [itoaM_E, G93_E]
theorem G70_CV : CV Tryd.prog G70_C := tabC_valid (l := _) ⟨itoaM_valid, G93_valid, trivial⟩
noncomputable def G70 (a0 : (List E39)) : Option ByteArray :=
  (Option.bind (itoaM (List.length a0 : Int)) fun r1 =>
  (bif (decide (ByteArray.size (⟨#[101, 110, 100, 32]⟩ : ByteArray) + ByteArray.size r1 ≤ LIM)) then
    (bif (decide (ByteArray.size (ByteArray.append (⟨#[101, 110, 100, 32]⟩ : ByteArray) r1) + ByteArray.size (⟨#[32]⟩ : ByteArray) ≤ LIM)) then
      (Option.bind (G93 a0) fun r2 =>
        (bif (decide (ByteArray.size (ByteArray.append (ByteArray.append (⟨#[101, 110, 100, 32]⟩ : ByteArray) r1) (⟨#[32]⟩ : ByteArray)) + ByteArray.size r2 ≤ LIM)) then
          (bif (decide (ByteArray.size (ByteArray.append (ByteArray.append (ByteArray.append (⟨#[101, 110, 100, 32]⟩ : ByteArray) r1) (⟨#[32]⟩ : ByteArray)) r2) + ByteArray.size (⟨#[10]⟩ : ByteArray) ≤ LIM)) then
            some (ByteArray.append (ByteArray.append (ByteArray.append (ByteArray.append (⟨#[101, 110, 100, 32]⟩ : ByteArray) r1) (⟨#[32]⟩ : ByteArray)) r2) (⟨#[10]⟩ : ByteArray))
            else
            none)
          else
          none))
      else
      none)
    else
    none))
noncomputable def G70_E : CEnt := pureE 70 [.dat (.list T39)] (.dat .str) fun x => G70 x.1
theorem G70_LV : LV 0 Tryd.prog false (loopsOf (bodyOf Tryd.f70)) [] := by unfold LV; cases loopsOf (bodyOf Tryd.f70) <;> trivial
theorem G70_ent : Ent Tryd.prog 70 := ⟨by decide, enters_of Tryd.func70 (by kernel_rfl) rfl⟩
theorem G70_hev : ∀ x, fnR Tryd.prog G70_C [] Tryd.f70 (bodyOf Tryd.f70) (encs [.dat (.list T39)] x) ⟨[], [], 0⟩ (frzF (.dat .str)) = G70 x.1 := by
  intro x; kernel_rfl
theorem G70_valid : G70_E.Valid Tryd.prog :=
  pureE_valid (by kernel_rfl) (by kernel_rfl) G70_ent (frz_lcall mixed Tryd.func70 rfl G70_ent G70_CV G70_LV (by kernel_rfl) (by kernel_rfl) G70_hev)
noncomputable def G39_C : CalT := tabC [G65_E, G66_E, G67_E, itoaM_E, bstrM_E, G70_E]
theorem G39_CV : CV Tryd.prog G39_C := tabC_valid (l := _) ⟨G65_valid, G66_valid, G67_valid, itoaM_valid, bstrM_valid, G70_valid, trivial⟩
noncomputable def G39_l0_c : Code := loopAt (bodyOf Tryd.f39) 0
noncomputable def G39_l1_c : Code := loopAt G39_l0_c 0
noncomputable def G39_l1_S : SPat := ⟨[.dat (.list T39), .any, .any, .any, .any, .fix (.bptr 0 []), .any, .any, .any, .any, .any, .any, .any, .any, .any, .dat (.list T39), .dat (.int .i64), .dat (.int .i64), .any, .any, .any, .any, .any, .any, .any, .dat (.list (.int .i64)), .dat (.int .i64), .dat (.int .i64), .any, .any, .any, .any, .any, .any, .any, .any, .any, .any, .any, .any, .any, .any], [.tbox 99 (.cons (.optp 0) (.cons (.own 0 (.int .u8)) (.nil))), .dat T39], 1⟩
abbrev TY74 : Type := (((List E39) × ((List E39) × (Int × (Int × ((List Int) × (Int × (Int × Unit))))))) × ((Unit × ((List Int) × Unit)) × (E39 × Unit)))
abbrev TY75 : Type := (Nat × (((List E39) × ((List E39) × (Int × (Int × ((List Int) × (Int × (Int × Unit))))))) × ((Unit × ((List Int) × Unit)) × (E39 × Unit))))
noncomputable def G39_l1_step (s : TY74) : Option TY75 :=
  (bif (decide (s.1.2.2.2.2.2.2.1 < s.1.2.2.2.2.2.1)) then
  (bif (decide (0 ≤ s.1.2.2.2.2.2.2.1) && decide (s.1.2.2.2.2.2.2.1 < (List.length s.1.2.2.2.2.1 : Int))) then
    (Option.bind (itoaM (List.getD s.1.2.2.2.2.1 (Int.toNat s.1.2.2.2.2.2.2.1) 0)) fun r4 =>
      (bif (decide (ByteArray.size (⟨#[32]⟩ : ByteArray) + ByteArray.size r4 ≤ LIM)) then
        (Option.bind (G66 (ByteArray.append (⟨#[32]⟩ : ByteArray) r4) ((), s.2.1.2)) fun r5 =>
          some (0, ((s.1.1, (s.1.2.1, (s.1.2.2.1, (s.1.2.2.2.1, (s.1.2.2.2.2.1, (s.1.2.2.2.2.2.1, ((IntKind.wrap .i64 (s.1.2.2.2.2.2.2.1 + 1)), ()))))))), (((), r5.2.1.2), (s.2.2.1, ())))))
        else
        none))
    else
    none)
  else
  some (1, ((s.1.1, (s.1.2.1, (s.1.2.2.1, (s.1.2.2.2.1, (s.1.2.2.2.2.1, (s.1.2.2.2.2.2.1, (s.1.2.2.2.2.2.2.1, ()))))))), (((), s.2.1.2), (s.2.2.1, ())))))
noncomputable def G39_l1_fuel (s : TY74) : Nat := Int.toNat (s.1.2.2.2.2.2.1 - s.1.2.2.2.2.2.2.1) + 1
noncomputable def G39_l1_run (s : TY74) : Option TY75 := iter G39_l1_step (G39_l1_fuel s) s
noncomputable def G39_l1_L : LoopT := loopT G39_l1_S [.exit 2] G39_l1_run
noncomputable def G39_l0_S : SPat := ⟨[.dat (.list T39), .any, .any, .any, .any, .fix (.bptr 0 []), .any, .any, .any, .any, .any, .any, .any, .any, .any, .dat (.list T39), .dat (.int .i64), .dat (.int .i64), .any, .any, .any, .any, .any, .any, .any, .any, .any, .any, .any, .any, .any, .any, .any, .any, .any, .any, .any, .any, .any, .any, .any, .any], [.tbox 99 (.cons (.optp 0) (.cons (.own 0 (.int .u8)) (.nil)))], 1⟩
abbrev TY76 : Type := (((List E39) × ((List E39) × (Int × (Int × Unit)))) × ((Unit × ((List Int) × Unit)) × Unit))
abbrev TY77 : Type := (Nat × (((List E39) × ((List E39) × (Int × (Int × Unit)))) × ((Unit × ((List Int) × Unit)) × Unit)))
noncomputable def G39_l0_step (s : TY76) : Option TY77 :=
  (bif (decide (s.1.2.2.2.1 < s.1.2.2.1)) then
  (bif (decide (0 ≤ s.1.2.2.2.1) && decide (s.1.2.2.2.1 < (List.length s.1.2.1 : Int))) then
    (Option.bind (G66 (⟨#[115, 104, 105, 112]⟩ : ByteArray) ((), s.2.1.2)) fun r2 =>
      (Option.bind (G67 s.1.2.2.2.1 (List.getD s.1.2.1 (Int.toNat s.1.2.2.2.1) (0, ((List.replicate 3 0), (0, ()))))) fun r3 =>
        (Option.bind (G39_l1_run ((s.1.1, (s.1.2.1, (s.1.2.2.1, (s.1.2.2.2.1, (r3, ((List.length r3 : Int), (0, ()))))))), (((), r2.2.1.2), ((List.getD s.1.2.1 (Int.toNat s.1.2.2.2.1) (0, ((List.replicate 3 0), (0, ())))), ())))) fun q6 =>
          (Option.bind (G66 (⟨#[10]⟩ : ByteArray) ((), q6.2.2.1.2)) fun r7 =>
            some (0, ((q6.2.1.1, (q6.2.1.2.1, (q6.2.1.2.2.1, ((IntKind.wrap .i64 (q6.2.1.2.2.2.1 + 1)), ())))), (((), r7.2.1.2), ())))))))
    else
    none)
  else
  some (1, ((s.1.1, (s.1.2.1, (s.1.2.2.1, (s.1.2.2.2.1, ())))), (((), s.2.1.2), ()))))
noncomputable def G39_l0_fuel (s : TY76) : Nat := Int.toNat (s.1.2.2.1 - s.1.2.2.2.1) + 1
noncomputable def G39_l0_run (s : TY76) : Option TY77 := iter G39_l0_step (G39_l0_fuel s) s
noncomputable def G39_l0_L : LoopT := loopT G39_l0_S [.exit 0] G39_l0_run
noncomputable def G39 (a0 : (List E39)) : Option (ByteArray × (Int × Unit)) :=
  (Option.bind (G65 a0) fun r1 =>
  (bif (r1 != 0) then
    some ((⟨#[]⟩ : ByteArray), (r1, ()))
    else
    (Option.bind (G39_l0_run ((a0, (a0, ((List.length a0 : Int), (0, ())))), (((), ([], ())), ()))) fun q8 =>
      (Option.bind (bstrM ((), q8.2.2.1.2)) fun r9 =>
        (Option.bind (G70 q8.2.1.1) fun r10 =>
          (bif (decide (ByteArray.size r9.1 + ByteArray.size r10 ≤ LIM)) then
            some ((ByteArray.append r9.1 r10), (0, ()))
            else
            none))))))
noncomputable def G39_E : CEnt := pureE 39 [.dat (.list T39)] (.tup (.cons (.dat .str) (.cons (.dat (.int .i64)) (.nil)))) fun x => G39 x.1
theorem G39_l1_V : LValid 0 Tryd.prog (.loop G39_l1_c) G39_l1_L false := by
  exact loopT_valid (fuel := G39_l1_fuel) mixed G39_CV (lvNil _) (by kernel_rfl) (by decide) rfl (by intro s; kernel_rfl) (fun s r h => h)
theorem G39_l0_V : LValid 0 Tryd.prog (.loop G39_l0_c) G39_l0_L false := by
  have hb : ∀ s, codeR Tryd.prog G39_C G39_l0_c [G39_l1_L] (G39_l0_S.encE s) (G39_l0_S.encB s) (kst G39_l0_S [.exit 0]) = G39_l0_step s := by
    intro s; kernel_rfl
  have hl : loopsOf G39_l0_c = [.loop G39_l1_c] := by kernel_rfl
  have hL : LV 0 Tryd.prog false (loopsOf G39_l0_c) [G39_l1_L] := by rw [hl]; exact ⟨G39_l1_V, trivial⟩
  exact loopT_valid (fuel := G39_l0_fuel) mixed G39_CV hL (by kernel_rfl) (by decide) rfl hb (fun s r h => h)
theorem G39_LV : LV 0 Tryd.prog false (loopsOf (bodyOf Tryd.f39)) [G39_l0_L] := by
  have hl : loopsOf (bodyOf Tryd.f39) = [.loop G39_l0_c] := by kernel_rfl
  rw [hl]; exact ⟨G39_l0_V, trivial⟩
theorem G39_ent : Ent Tryd.prog 39 := ⟨by decide, enters_of Tryd.func39 (by kernel_rfl) rfl⟩
theorem G39_hev : ∀ x, fnR Tryd.prog G39_C [G39_l0_L] Tryd.f39 (bodyOf Tryd.f39) (encs [.dat (.list T39)] x) ⟨[], [], 0⟩ (frzF (.tup (.cons (.dat .str) (.cons (.dat (.int .i64)) (.nil))))) = G39 x.1 := by
  intro x; kernel_rfl
theorem G39_valid : G39_E.Valid Tryd.prog :=
  pureE_valid (by kernel_rfl) (by kernel_rfl) G39_ent (frz_lcall mixed Tryd.func39 rfl G39_ent G39_CV G39_LV (by kernel_rfl) (by kernel_rfl) G39_hev)
noncomputable def G50_C : CalT := tabC []
theorem G50_CV : CV Tryd.prog G50_C := tabC_valid (l := _) trivial
noncomputable def G50_l0_c : Code := loopAt (bodyOf Tryd.f50) 0
noncomputable def G50_l0_S : SPat := ⟨[.dat (.list (.arr 3 (.int .i64))), .dat (.list (.arr 3 (.int .i64))), .any, .any, .dat .bool, .dat (.int .i64), .any, .any, .any, .any, .any, .any, .any, .any, .any, .any, .any, .any, .any, .any, .any, .any, .any, .any, .any, .any], [], 0⟩
abbrev TY78 : Type := (((List (List Int)) × ((List (List Int)) × (Bool × (Int × Unit)))) × Unit)
abbrev TY79 : Type := (Nat × (((List (List Int)) × ((List (List Int)) × (Bool × (Int × Unit)))) × Unit))
noncomputable def G50_l0_step (s : TY78) : Option TY79 :=
  (bif (decide (s.1.2.2.2.1 < (List.length s.1.1 : Int))) then
  (bif (decide (0 ≤ s.1.2.2.2.1) && decide (s.1.2.2.2.1 < (List.length s.1.1 : Int))) then
    (bif (decide (0 ≤ s.1.2.2.2.1) && decide (s.1.2.2.2.1 < (List.length s.1.2.1 : Int))) then
      (bif (!((List.range' 0 3).all (fun e0 : Nat => ((List.getD (List.getD s.1.1 (Int.toNat s.1.2.2.2.1) (List.replicate 3 0)) e0 0) == (List.getD (List.getD s.1.2.1 (Int.toNat s.1.2.2.2.1) (List.replicate 3 0)) e0 0))))) then
        some (1, ((s.1.1, (s.1.2.1, (false, (s.1.2.2.2.1, ())))), ()))
        else
        some (0, ((s.1.1, (s.1.2.1, (s.1.2.2.1, ((IntKind.wrap .i64 (s.1.2.2.2.1 + 1)), ())))), ())))
      else
      none)
    else
    none)
  else
  some (2, ((s.1.1, (s.1.2.1, (s.1.2.2.1, (s.1.2.2.2.1, ())))), ())))
noncomputable def G50_l0_fuel (s : TY78) : Nat := Int.toNat ((List.length s.1.1 : Int) - s.1.2.2.2.1) + 1
noncomputable def G50_l0_run (s : TY78) : Option TY79 := iter G50_l0_step (G50_l0_fuel s) s
noncomputable def G50_l0_L : LoopT := loopT G50_l0_S [.ret, .exit 0] G50_l0_run
noncomputable def G50 (a0 : (List (List Int))) (a1 : (List (List Int))) : Option Bool :=
  (bif ((List.length a0 : Int) != (List.length a1 : Int)) then
  some false
  else
  (Option.bind (G50_l0_run ((a0, (a1, (false, (0, ())))), ())) fun q1 =>
    (natK q1.1
      (some q1.2.1.2.2.1)
      (fun _ => some true))))
noncomputable def G50_E : CEnt := pureE 50 [.dat (.list (.arr 3 (.int .i64))), .dat (.list (.arr 3 (.int .i64)))] (.dat .bool) fun x => G50 x.1 x.2.1
theorem G50_l0_V : LValid 0 Tryd.prog (.loop G50_l0_c) G50_l0_L false := by
  exact loopT_valid (fuel := G50_l0_fuel) mixed G50_CV (lvNil _) (by kernel_rfl) (by decide) rfl (by intro s; kernel_rfl) (fun s r h => h)
theorem G50_LV : LV 0 Tryd.prog false (loopsOf (bodyOf Tryd.f50)) [G50_l0_L] := by
  have hl : loopsOf (bodyOf Tryd.f50) = [.loop G50_l0_c] := by kernel_rfl
  rw [hl]; exact ⟨G50_l0_V, trivial⟩
theorem G50_ent : Ent Tryd.prog 50 := ⟨by decide, enters_of Tryd.func50 (by kernel_rfl) rfl⟩
theorem G50_hev : ∀ x, fnR Tryd.prog G50_C [G50_l0_L] Tryd.f50 (bodyOf Tryd.f50) (encs [.dat (.list (.arr 3 (.int .i64))), .dat (.list (.arr 3 (.int .i64)))] x) ⟨[], [], 0⟩ (frzF (.dat .bool)) = G50 x.1 x.2.1 := by
  intro x; kernel_rfl
theorem G50_valid : G50_E.Valid Tryd.prog :=
  pureE_valid (by kernel_rfl) (by kernel_rfl) G50_ent (frz_lcall mixed Tryd.func50 rfl G50_ent G50_CV G50_LV (by kernel_rfl) (by kernel_rfl) G50_hev)
noncomputable def G20_C : CalT := tabC [G48_E, G21_E, G24_E, G25_E, g28_store_Best_E, G31_E, G49_E, G39_E, G50_E]
theorem G20_CV : CV Tryd.prog G20_C := tabC_valid (l := _) ⟨G48_valid, G21_valid, G24_valid, G25_valid, g28_store_Best_valid, G31_valid, G49_valid, G39_valid, G50_valid, trivial⟩
noncomputable def G20 : Option Bool :=
  (Option.bind G48 fun r1 =>
  (Option.bind (G21 r1 2 0 0) fun r2 =>
    (Option.bind G48 fun r3 =>
      (Option.bind (G24 r3 1) fun r4 =>
        (Option.bind G48 fun r5 =>
          (Option.bind (G25 r5 1) fun r6 =>
            (Option.bind G48 fun r7 =>
              (Option.bind (g28_store_Best r7) fun r8 =>
                (Option.bind G48 fun r9 =>
                  (Option.bind (G31 r9 0 (0 :: (10 :: (0 :: [])))) fun r10 =>
                    (Option.bind G49 fun r11 =>
                      (Option.bind (G39 r11) fun r12 =>
                        (bif (r2.2.1 != 0) then
                          some false
                          else
                          (bif (r4.2.1 != 0) then
                            some false
                            else
                            (bif (r6.2.2.1 != 0) then
                              some false
                              else
                              (bif (r8.2.2.1 != 0) then
                                some false
                                else
                                (bif (r10.2.1 != 0) then
                                  some false
                                  else
                                  (bif (r12.2.1 != 0) then
                                    some false
                                    else
                                    (Option.bind (G50 r2.1.2.1 [(1 :: (0 :: (0 :: []))), (2 :: (1 :: (0 :: []))), (1 :: (2 :: (1 :: []))), (0 :: (1 :: (0 :: [])))]) fun r13 =>
                                      (bif r13 then
                                        (bif ((r4.1.1 == true) && ((r4.1.2.1 == 0) && ((r4.1.2.2.1 == 0) && ((r4.1.2.2.2.1 == 3) && ((r4.1.2.2.2.2.1 == 1) && true))))) then
                                          (bif (r6.1 == 1) then
                                            (bif (r6.2.1 == 1) then
                                              (bif (r8.1 == 2) then
                                                (bif (r8.2.1 == 40) then
                                                  (bif (r10.1 == 30) then
                                                    some (ByteArray.toList r12.1 == ByteArray.toList (⟨#[115, 104, 105, 112, 32, 48, 32, 48, 32, 53, 48, 32, 52, 32, 50, 32, 49, 10, 115, 104, 105, 112, 32, 49, 32, 49, 32, 52, 48, 32, 50, 32, 52, 32, 49, 10, 115, 104, 105, 112, 32, 50, 32, 48, 32, 49, 48, 48, 32, 54, 32, 54, 32, 51, 10, 101, 110, 100, 32, 51, 32, 51, 52, 10]⟩ : ByteArray))
                                                    else
                                                    some false)
                                                  else
                                                  some false)
                                                else
                                                some false)
                                              else
                                              some false)
                                            else
                                            some false)
                                          else
                                          some false)
                                        else
                                        some false))))))))))))))))))))
noncomputable def G20_E : CEnt := pureE 20 [] (.dat .bool) fun x => G20
theorem G20_LV : LV 0 Tryd.prog false (loopsOf (bodyOf Tryd.f20)) [] := by unfold LV; cases loopsOf (bodyOf Tryd.f20) <;> trivial
theorem G20_ent : Ent Tryd.prog 20 := ⟨by decide, enters_of Tryd.func20 (by kernel_rfl) rfl⟩
theorem G20_hev : ∀ x, fnR Tryd.prog G20_C [] Tryd.f20 (bodyOf Tryd.f20) (encs [] x) ⟨[], [], 0⟩ (frzF (.dat .bool)) = G20 := by
  intro x; kernel_rfl
theorem G20_valid : G20_E.Valid Tryd.prog :=
  pureE_valid (by kernel_rfl) (by kernel_rfl) G20_ent (frz_lcall mixed Tryd.func20 rfl G20_ent G20_CV G20_LV (by kernel_rfl) (by kernel_rfl) G20_hev)
noncomputable def G109_C : CalT := tabC []
theorem G109_CV : CV Tryd.prog G109_C := tabC_valid (l := _) trivial
noncomputable def G109 (a0 : ByteArray) (a1 : ByteArray) : Option Bool :=
  (bif (decide ((ByteArray.size a0 : Int) ≥ (ByteArray.size a1 : Int))) then
  (bif (decide (0 ≤ (IntKind.wrap .i64 ((ByteArray.size a0 : Int) - (ByteArray.size a1 : Int)))) && decide ((IntKind.wrap .i64 ((ByteArray.size a0 : Int) - (ByteArray.size a1 : Int))) ≤ (ByteArray.size a0 : Int)) && decide ((ByteArray.size a0 : Int) ≤ (ByteArray.size a0 : Int))) then
    some (ByteArray.toList (ByteArray.extract a0 (Int.toNat (IntKind.wrap .i64 ((ByteArray.size a0 : Int) - (ByteArray.size a1 : Int)))) (Int.toNat (ByteArray.size a0 : Int))) == ByteArray.toList a1)
    else
    none)
  else
  some false)
noncomputable def G109_E : CEnt := pureE 109 [.dat .str, .dat .str] (.dat .bool) fun x => G109 x.1 x.2.1
theorem G109_LV : LV 0 Tryd.prog false (loopsOf (bodyOf Tryd.f109)) [] := by unfold LV; cases loopsOf (bodyOf Tryd.f109) <;> trivial
theorem G109_ent : Ent Tryd.prog 109 := ⟨by decide, enters_of Tryd.func109 (by kernel_rfl) rfl⟩
theorem G109_hev : ∀ x, fnR Tryd.prog G109_C [] Tryd.f109 (bodyOf Tryd.f109) (encs [.dat .str, .dat .str] x) ⟨[], [], 0⟩ (frzF (.dat .bool)) = G109 x.1 x.2.1 := by
  intro x; kernel_rfl
theorem G109_valid : G109_E.Valid Tryd.prog :=
  pureE_valid (by kernel_rfl) (by kernel_rfl) G109_ent (frz_lcall mixed Tryd.func109 rfl G109_ent G109_CV G109_LV (by kernel_rfl) (by kernel_rfl) G109_hev)
noncomputable def G103_C : CalT := tabC [G109_E]
theorem G103_CV : CV Tryd.prog G103_C := tabC_valid (l := _) ⟨G109_valid, trivial⟩
noncomputable def G103 (a0 : ByteArray) (a1 : ByteArray) : Option (ByteArray × (Bool × Unit)) :=
  (Option.bind (G109 a0 a1) fun r1 =>
  (bif (!r1) then
    some (a0, (false, ()))
    else
    (bif (decide (0 ≤ (0 : Int)) && decide ((0 : Int) ≤ (IntKind.wrap .i64 ((ByteArray.size a0 : Int) - (ByteArray.size a1 : Int)))) && decide ((IntKind.wrap .i64 ((ByteArray.size a0 : Int) - (ByteArray.size a1 : Int))) ≤ (ByteArray.size a0 : Int))) then
      some ((ByteArray.extract a0 (Int.toNat 0) (Int.toNat (IntKind.wrap .i64 ((ByteArray.size a0 : Int) - (ByteArray.size a1 : Int))))), (true, ()))
      else
      none)))
noncomputable def G103_E : CEnt := pureE 103 [.dat .str, .dat .str] (.tup (.cons (.dat .str) (.cons (.dat .bool) (.nil)))) fun x => G103 x.1 x.2.1
theorem G103_LV : LV 0 Tryd.prog false (loopsOf (bodyOf Tryd.f103)) [] := by unfold LV; cases loopsOf (bodyOf Tryd.f103) <;> trivial
theorem G103_ent : Ent Tryd.prog 103 := ⟨by decide, enters_of Tryd.func103 (by kernel_rfl) rfl⟩
theorem G103_hev : ∀ x, fnR Tryd.prog G103_C [] Tryd.f103 (bodyOf Tryd.f103) (encs [.dat .str, .dat .str] x) ⟨[], [], 0⟩ (frzF (.tup (.cons (.dat .str) (.cons (.dat .bool) (.nil))))) = G103 x.1 x.2.1 := by
  intro x; kernel_rfl
theorem G103_valid : G103_E.Valid Tryd.prog :=
  pureE_valid (by kernel_rfl) (by kernel_rfl) G103_ent (frz_lcall mixed Tryd.func103 rfl G103_ent G103_CV G103_LV (by kernel_rfl) (by kernel_rfl) G103_hev)
noncomputable def G94_C : CalT := tabC [G103_E]
theorem G94_CV : CV Tryd.prog G94_C := tabC_valid (l := _) ⟨G103_valid, trivial⟩
noncomputable def G94 (a0 : ByteArray) (a1 : ByteArray) : Option (ByteArray × (Bool × Unit)) :=
  (Option.bind (G103 a0 a1) fun r1 =>
  some (r1.1, (r1.2.1, ())))
noncomputable def G94_E : CEnt := pureE 94 [.dat .str, .dat .str] (.tup (.cons (.dat .str) (.cons (.dat .bool) (.nil)))) fun x => G94 x.1 x.2.1
theorem G94_LV : LV 0 Tryd.prog false (loopsOf (bodyOf Tryd.f94)) [] := by unfold LV; cases loopsOf (bodyOf Tryd.f94) <;> trivial
theorem G94_ent : Ent Tryd.prog 94 := ⟨by decide, enters_of Tryd.func94 (by kernel_rfl) rfl⟩
theorem G94_hev : ∀ x, fnR Tryd.prog G94_C [] Tryd.f94 (bodyOf Tryd.f94) (encs [.dat .str, .dat .str] x) ⟨[], [], 0⟩ (frzF (.tup (.cons (.dat .str) (.cons (.dat .bool) (.nil))))) = G94 x.1 x.2.1 := by
  intro x; kernel_rfl
theorem G94_valid : G94_E.Valid Tryd.prog :=
  pureE_valid (by kernel_rfl) (by kernel_rfl) G94_ent (frz_lcall mixed Tryd.func94 rfl G94_ent G94_CV G94_LV (by kernel_rfl) (by kernel_rfl) G94_hev)
noncomputable def G95_C : CalT := tabC [genM_E]
theorem G95_CV : CV Tryd.prog G95_C := tabC_valid (l := _) ⟨genM_valid, trivial⟩
noncomputable def G95 (a0 : ByteArray) (a1 : ByteArray) : Option (List ByteArray) :=
  (Option.bind (genM a0 a1 0 (-1)) fun r1 =>
  some r1)
noncomputable def G95_E : CEnt := pureE 95 [.dat .str, .dat .str] (.dat (.list .str)) fun x => G95 x.1 x.2.1
theorem G95_LV : LV 0 Tryd.prog false (loopsOf (bodyOf Tryd.f95)) [] := by unfold LV; cases loopsOf (bodyOf Tryd.f95) <;> trivial
theorem G95_ent : Ent Tryd.prog 95 := ⟨by decide, enters_of Tryd.func95 (by kernel_rfl) rfl⟩
theorem G95_hev : ∀ x, fnR Tryd.prog G95_C [] Tryd.f95 (bodyOf Tryd.f95) (encs [.dat .str, .dat .str] x) ⟨[], [], 0⟩ (frzF (.dat (.list .str))) = G95 x.1 x.2.1 := by
  intro x; kernel_rfl
theorem G95_valid : G95_E.Valid Tryd.prog :=
  pureE_valid (by kernel_rfl) (by kernel_rfl) G95_ent (frz_lcall mixed Tryd.func95 rfl G95_ent G95_CV G95_LV (by kernel_rfl) (by kernel_rfl) G95_hev)
noncomputable def G96_C : CalT := tabC [itoaM_E]
theorem G96_CV : CV Tryd.prog G96_C := tabC_valid (l := _) ⟨itoaM_valid, trivial⟩
noncomputable def G96_l0_c : Code := loopAt (bodyOf Tryd.f96) 0
noncomputable def G96_l0_S : SPat := ⟨[.dat .str, .any, .any, .dat (.int .i64), .any, .any, .any, .fix (.bptr 0 []), .any, .any, .any, .any, .any, .any, .any, .any, .any, .any, .any, .any, .any, .any, .any, .any, .any, .any, .any, .any, .any, .any, .any, .any, .any, .any, .any, .any, .any, .any, .any, .any, .any, .any, .any], [.siter], 0⟩
noncomputable def G96_l0_step (s : ((ByteArray × (Int × Unit)) × ((ByteArray × Nat) × Unit))) : Option (Nat × ((ByteArray × (Int × Unit)) × ((ByteArray × Nat) × Unit))) :=
  (bif (decide (s.2.1.2 < ByteArray.size s.2.1.1)) then
  (bif (decide (((Utf8.decode s.2.1.1 s.2.1.2).1 : Int) < 48)) then
    some (1, ((s.1.1, (s.1.2.1, ())), ((s.2.1.1, (s.2.1.2 + (Utf8.decode s.2.1.1 s.2.1.2).2)), ())))
    else
    (bif (decide (((Utf8.decode s.2.1.1 s.2.1.2).1 : Int) > 57)) then
      some (1, ((s.1.1, (s.1.2.1, ())), ((s.2.1.1, (s.2.1.2 + (Utf8.decode s.2.1.1 s.2.1.2).2)), ())))
      else
      (bif (decide ((ByteArray.size s.1.1 : Int) > 9)) then
        some (1, ((s.1.1, (s.1.2.1, ())), ((s.2.1.1, (s.2.1.2 + (Utf8.decode s.2.1.1 s.2.1.2).2)), ())))
        else
        some (0, ((s.1.1, ((IntKind.wrap .i64 ((IntKind.wrap .i64 ((10 : Int) * s.1.2.1)) + (IntKind.wrap .i64 (IntKind.wrap .i32 (((Utf8.decode s.2.1.1 s.2.1.2).1 : Int) - 48))))), ())), ((s.2.1.1, (s.2.1.2 + (Utf8.decode s.2.1.1 s.2.1.2).2)), ()))))))
  else
  some (2, ((s.1.1, (s.1.2.1, ())), (s.2.1, ()))))
noncomputable def G96_l0_fuel (s : ((ByteArray × (Int × Unit)) × ((ByteArray × Nat) × Unit))) : Nat := Int.toNat (ByteArray.size s.2.1.1 - s.2.1.2) + 1
noncomputable def G96_l0_run (s : ((ByteArray × (Int × Unit)) × ((ByteArray × Nat) × Unit))) : Option (Nat × ((ByteArray × (Int × Unit)) × ((ByteArray × Nat) × Unit))) := iter G96_l0_step (G96_l0_fuel s) s
noncomputable def G96_l0_L : LoopT := loopT G96_l0_S [.pan 108, .exit 0] G96_l0_run
noncomputable def G96 (a0 : ByteArray) : Option (Unit ⊕ Int) :=
  (Option.bind (G96_l0_run ((a0, (0, ())), ((a0, 0), ()))) fun q1 =>
  (natK q1.1
    (some (Sum.inl ()))
    (fun _ => (bif (ByteArray.toList q1.2.1.1 == ByteArray.toList (⟨#[]⟩ : ByteArray)) then
      some (Sum.inl ())
      else
      (Option.bind (itoaM q1.2.1.2.1) fun r2 =>
        (bif (!(ByteArray.toList r2 == ByteArray.toList q1.2.1.1)) then
          some (Sum.inl ())
          else
          some (Sum.inr q1.2.1.2.1)))))))
noncomputable def G96_E : CEnt := panE 96 [.dat .str] 108 (.dat (.int .i64)) fun x => G96 x.1
theorem G96_l0_V : LValid 0 Tryd.prog (.loop G96_l0_c) G96_l0_L false := by
  exact loopT_valid (fuel := G96_l0_fuel) mixed G96_CV (lvNil _) (by kernel_rfl) (by decide) rfl (by intro s; kernel_rfl) (fun s r h => h)
theorem G96_LV : LV 0 Tryd.prog false (loopsOf (bodyOf Tryd.f96)) [G96_l0_L] := by
  have hl : loopsOf (bodyOf Tryd.f96) = [.loop G96_l0_c] := by kernel_rfl
  rw [hl]; exact ⟨G96_l0_V, trivial⟩
theorem G96_ent : Ent Tryd.prog 96 := ⟨by decide, enters_of Tryd.func96 (by kernel_rfl) rfl⟩
theorem G96_hev : ∀ x, fnR Tryd.prog G96_C [G96_l0_L] Tryd.f96 (bodyOf Tryd.f96) (encs [.dat .str] x) ⟨[], [], 0⟩ (frzP 108 (.dat (.int .i64))) = G96 x.1 := by
  intro x; kernel_rfl
theorem G96_valid : G96_E.Valid Tryd.prog :=
  panE_valid (by kernel_rfl) (by kernel_rfl) (by kernel_rfl) G96_ent (frzP_lcall mixed Tryd.func96 rfl G96_ent G96_CV G96_LV (by kernel_rfl) (by kernel_rfl) G96_hev)
noncomputable def G72_C : CalT := tabC [G94_E, G95_E, G96_E, G70_E]
theorem G72_CV : CV Tryd.prog G72_C := tabC_valid (l := _) ⟨G94_valid, G95_valid, G96_valid, G70_valid, trivial⟩
noncomputable def G72_l0_c : Code := loopAt (bodyOf Tryd.f72) 0
noncomputable def G72_l0_S : SPat := ⟨[.any, .any, .any, .any, .any, .dat (.list .str), .dat (.int .i64), .own 0 T39, .any, .any, .any, .any, .any, .any, .any, .any, .any, .any, .any, .any, .any, .any, .any, .any, .any, .any, .any, .any, .dat (.list .str), .dat (.int .i64), .dat (.int .i64), .any, .any, .any, .any, .any, .any, .any, .any, .any, .any, .any, .any, .any, .any, .any, .any, .any, .any, .any, .any, .any, .any, .any, .any, .any, .any, .any, .any, .any, .any, .any, .any, .any, .any, .any, .any, .any, .any, .any, .any, .any, .any, .any, .any, .any, .any, .any, .any, .any, .any, .any, .any, .any, .any, .any, .any, .any, .any, .any, .any, .any, .any, .any, .any, .any, .any, .any], [], 1⟩
abbrev TY80 : Type := (((List ByteArray) × (Int × ((List E39) × ((List ByteArray) × (Int × (Int × Unit)))))) × Unit)
abbrev TY81 : Type := (Nat × (((List ByteArray) × (Int × ((List E39) × ((List ByteArray) × (Int × (Int × Unit)))))) × Unit))
noncomputable def G72_l0_step (s : TY80) : Option TY81 :=
  (bif (decide (s.1.2.2.2.2.2.1 < s.1.2.2.2.2.1)) then
  (bif (decide (0 ≤ s.1.2.2.2.2.2.1) && decide (s.1.2.2.2.2.2.1 < (List.length s.1.2.2.2.1 : Int))) then
    (Option.bind (G95 (List.getD s.1.2.2.2.1 (Int.toNat s.1.2.2.2.2.2.1) (⟨#[]⟩ : ByteArray)) (⟨#[32]⟩ : ByteArray)) fun r3 =>
      (bif ((List.length r3 : Int) != 7) then
        some (1, ((s.1.1, (s.1.2.1, (s.1.2.2.1, (s.1.2.2.2.1, (s.1.2.2.2.2.1, (s.1.2.2.2.2.2.1, ())))))), ()))
        else
        (bif (decide (0 ≤ (0 : Int)) && decide ((0 : Int) < (List.length r3 : Int))) then
          (bif (!(ByteArray.toList (List.getD r3 (Int.toNat 0) (⟨#[]⟩ : ByteArray)) == ByteArray.toList (⟨#[115, 104, 105, 112]⟩ : ByteArray))) then
            some (1, ((s.1.1, (s.1.2.1, (s.1.2.2.1, (s.1.2.2.2.1, (s.1.2.2.2.2.1, (s.1.2.2.2.2.2.1, ())))))), ()))
            else
            (bif (decide (0 ≤ (1 : Int)) && decide ((1 : Int) < (List.length r3 : Int))) then
              (Option.bind (G96 (List.getD r3 (Int.toNat 1) (⟨#[]⟩ : ByteArray))) fun r4 =>
                (altK r4
                  (fun r5 => some (1, ((s.1.1, (s.1.2.1, (s.1.2.2.1, (s.1.2.2.2.1, (s.1.2.2.2.2.1, (s.1.2.2.2.2.2.1, ())))))), ())))
                  (fun r6 => (bif (r6 != s.1.2.2.2.2.2.1) then
                    some (1, ((s.1.1, (s.1.2.1, (s.1.2.2.1, (s.1.2.2.2.1, (s.1.2.2.2.2.1, (s.1.2.2.2.2.2.1, ())))))), ()))
                    else
                    (bif (decide (0 ≤ (2 : Int)) && decide ((2 : Int) < (List.length r3 : Int))) then
                      (bif (decide (0 ≤ (3 : Int)) && decide ((3 : Int) < (List.length r3 : Int))) then
                        (bif (decide (0 ≤ (4 : Int)) && decide ((4 : Int) < (List.length r3 : Int))) then
                          (bif (decide (0 ≤ (5 : Int)) && decide ((5 : Int) < (List.length r3 : Int))) then
                            (bif (decide (0 ≤ (6 : Int)) && decide ((6 : Int) < (List.length r3 : Int))) then
                              (Option.bind (G96 (List.getD r3 (Int.toNat 2) (⟨#[]⟩ : ByteArray))) fun r7 =>
                                (altK r7
                                  (fun r8 => some (1, ((s.1.1, (s.1.2.1, (s.1.2.2.1, (s.1.2.2.2.1, (s.1.2.2.2.2.1, (s.1.2.2.2.2.2.1, ())))))), ())))
                                  (fun r9 => (bif (decide (0 ≤ (2 : Int)) && decide ((2 : Int) < (List.length r3 : Int))) then
                                    (Option.bind (G96 (List.getD r3 (Int.toNat 2) (⟨#[]⟩ : ByteArray))) fun r10 =>
                                      (altK r10
                                        (fun r11 => none)
                                        (fun r12 => (bif (decide (0 ≤ (3 : Int)) && decide ((3 : Int) < (List.length r3 : Int))) then
                                          (bif (decide (0 ≤ (4 : Int)) && decide ((4 : Int) < (List.length r3 : Int))) then
                                            (bif (decide (0 ≤ (5 : Int)) && decide ((5 : Int) < (List.length r3 : Int))) then
                                              (bif (decide (0 ≤ (6 : Int)) && decide ((6 : Int) < (List.length r3 : Int))) then
                                                (Option.bind (G96 (List.getD r3 (Int.toNat 3) (⟨#[]⟩ : ByteArray))) fun r13 =>
                                                  (altK r13
                                                    (fun r14 => some (1, ((s.1.1, (s.1.2.1, (s.1.2.2.1, (s.1.2.2.2.1, (s.1.2.2.2.2.1, (s.1.2.2.2.2.2.1, ())))))), ())))
                                                    (fun r15 => (bif (decide (0 ≤ (2 : Int)) && decide ((2 : Int) < (List.length r3 : Int))) then
                                                      (Option.bind (G96 (List.getD r3 (Int.toNat 2) (⟨#[]⟩ : ByteArray))) fun r16 =>
                                                        (altK r16
                                                          (fun r17 => none)
                                                          (fun r18 => (bif (decide (0 ≤ (3 : Int)) && decide ((3 : Int) < (List.length r3 : Int))) then
                                                            (Option.bind (G96 (List.getD r3 (Int.toNat 3) (⟨#[]⟩ : ByteArray))) fun r19 =>
                                                              (altK r19
                                                                (fun r20 => none)
                                                                (fun r21 => (bif (decide (0 ≤ (4 : Int)) && decide ((4 : Int) < (List.length r3 : Int))) then
                                                                  (bif (decide (0 ≤ (5 : Int)) && decide ((5 : Int) < (List.length r3 : Int))) then
                                                                    (bif (decide (0 ≤ (6 : Int)) && decide ((6 : Int) < (List.length r3 : Int))) then
                                                                      (Option.bind (G96 (List.getD r3 (Int.toNat 4) (⟨#[]⟩ : ByteArray))) fun r22 =>
                                                                        (altK r22
                                                                          (fun r23 => some (1, ((s.1.1, (s.1.2.1, (s.1.2.2.1, (s.1.2.2.2.1, (s.1.2.2.2.2.1, (s.1.2.2.2.2.2.1, ())))))), ())))
                                                                          (fun r24 => (bif (decide (0 ≤ (2 : Int)) && decide ((2 : Int) < (List.length r3 : Int))) then
                                                                            (Option.bind (G96 (List.getD r3 (Int.toNat 2) (⟨#[]⟩ : ByteArray))) fun r25 =>
                                                                              (altK r25
                                                                                (fun r26 => none)
                                                                                (fun r27 => (bif (decide (0 ≤ (3 : Int)) && decide ((3 : Int) < (List.length r3 : Int))) then
                                                                                  (Option.bind (G96 (List.getD r3 (Int.toNat 3) (⟨#[]⟩ : ByteArray))) fun r28 =>
                                                                                    (altK r28
                                                                                      (fun r29 => none)
                                                                                      (fun r30 => (bif (decide (0 ≤ (4 : Int)) && decide ((4 : Int) < (List.length r3 : Int))) then
                                                                                        (Option.bind (G96 (List.getD r3 (Int.toNat 4) (⟨#[]⟩ : ByteArray))) fun r31 =>
                                                                                          (altK r31
                                                                                            (fun r32 => none)
                                                                                            (fun r33 => (bif (decide (0 ≤ (5 : Int)) && decide ((5 : Int) < (List.length r3 : Int))) then
                                                                                              (bif (decide (0 ≤ (6 : Int)) && decide ((6 : Int) < (List.length r3 : Int))) then
                                                                                                (Option.bind (G96 (List.getD r3 (Int.toNat 5) (⟨#[]⟩ : ByteArray))) fun r34 =>
                                                                                                  (altK r34
                                                                                                    (fun r35 => some (1, ((s.1.1, (s.1.2.1, (s.1.2.2.1, (s.1.2.2.2.1, (s.1.2.2.2.2.1, (s.1.2.2.2.2.2.1, ())))))), ())))
                                                                                                    (fun r36 => (bif (decide (0 ≤ (2 : Int)) && decide ((2 : Int) < (List.length r3 : Int))) then
                                                                                                      (Option.bind (G96 (List.getD r3 (Int.toNat 2) (⟨#[]⟩ : ByteArray))) fun r37 =>
                                                                                                        (altK r37
                                                                                                          (fun r38 => none)
                                                                                                          (fun r39 => (bif (decide (0 ≤ (3 : Int)) && decide ((3 : Int) < (List.length r3 : Int))) then
                                                                                                            (Option.bind (G96 (List.getD r3 (Int.toNat 3) (⟨#[]⟩ : ByteArray))) fun r40 =>
                                                                                                              (altK r40
                                                                                                                (fun r41 => none)
                                                                                                                (fun r42 => (bif (decide (0 ≤ (4 : Int)) && decide ((4 : Int) < (List.length r3 : Int))) then
                                                                                                                  (Option.bind (G96 (List.getD r3 (Int.toNat 4) (⟨#[]⟩ : ByteArray))) fun r43 =>
                                                                                                                    (altK r43
                                                                                                                      (fun r44 => none)
                                                                                                                      (fun r45 => (bif (decide (0 ≤ (5 : Int)) && decide ((5 : Int) < (List.length r3 : Int))) then
                                                                                                                        (Option.bind (G96 (List.getD r3 (Int.toNat 5) (⟨#[]⟩ : ByteArray))) fun r46 =>
                                                                                                                          (altK r46
                                                                                                                            (fun r47 => none)
                                                                                                                            (fun r48 => (bif (decide (0 ≤ (6 : Int)) && decide ((6 : Int) < (List.length r3 : Int))) then
                                                                                                                              (Option.bind (G96 (List.getD r3 (Int.toNat 6) (⟨#[]⟩ : ByteArray))) fun r49 =>
                                                                                                                                (altK r49
                                                                                                                                  (fun r50 => some (1, ((s.1.1, (s.1.2.1, (s.1.2.2.1, (s.1.2.2.2.1, (s.1.2.2.2.2.1, (s.1.2.2.2.2.2.1, ())))))), ())))
                                                                                                                                  (fun r51 => (bif (decide (0 ≤ (2 : Int)) && decide ((2 : Int) < (List.length r3 : Int))) then
                                                                                                                                    (Option.bind (G96 (List.getD r3 (Int.toNat 2) (⟨#[]⟩ : ByteArray))) fun r52 =>
                                                                                                                                      (altK r52
                                                                                                                                        (fun r53 => none)
                                                                                                                                        (fun r54 => (bif (decide (0 ≤ (3 : Int)) && decide ((3 : Int) < (List.length r3 : Int))) then
                                                                                                                                          (Option.bind (G96 (List.getD r3 (Int.toNat 3) (⟨#[]⟩ : ByteArray))) fun r55 =>
                                                                                                                                            (altK r55
                                                                                                                                              (fun r56 => none)
                                                                                                                                              (fun r57 => (bif (decide (0 ≤ (4 : Int)) && decide ((4 : Int) < (List.length r3 : Int))) then
                                                                                                                                                (Option.bind (G96 (List.getD r3 (Int.toNat 4) (⟨#[]⟩ : ByteArray))) fun r58 =>
                                                                                                                                                  (altK r58
                                                                                                                                                    (fun r59 => none)
                                                                                                                                                    (fun r60 => (bif (decide (0 ≤ (5 : Int)) && decide ((5 : Int) < (List.length r3 : Int))) then
                                                                                                                                                      (Option.bind (G96 (List.getD r3 (Int.toNat 5) (⟨#[]⟩ : ByteArray))) fun r61 =>
                                                                                                                                                        (altK r61
                                                                                                                                                          (fun r62 => none)
                                                                                                                                                          (fun r63 => (bif (decide (0 ≤ (6 : Int)) && decide ((6 : Int) < (List.length r3 : Int))) then
                                                                                                                                                            (Option.bind (G96 (List.getD r3 (Int.toNat 6) (⟨#[]⟩ : ByteArray))) fun r64 =>
                                                                                                                                                              (altK r64
                                                                                                                                                                (fun r65 => none)
                                                                                                                                                                (fun r66 => (bif (decide (List.length s.1.2.2.1 + List.length [(r54, ((r60 :: (r63 :: (r66 :: []))), (r57, ())))] ≤ LIM)) then
                                                                                                                                                                  some (0, ((s.1.1, (s.1.2.1, ((s.1.2.2.1 ++ [(r54, ((r60 :: (r63 :: (r66 :: []))), (r57, ())))]), (s.1.2.2.2.1, (s.1.2.2.2.2.1, ((IntKind.wrap .i64 (s.1.2.2.2.2.2.1 + 1)), ())))))), ()))
                                                                                                                                                                  else
                                                                                                                                                                  none))))
                                                                                                                                                            else
                                                                                                                                                            none))))
                                                                                                                                                      else
                                                                                                                                                      none))))
                                                                                                                                                else
                                                                                                                                                none))))
                                                                                                                                          else
                                                                                                                                          none))))
                                                                                                                                    else
                                                                                                                                    none))))
                                                                                                                              else
                                                                                                                              none))))
                                                                                                                        else
                                                                                                                        none))))
                                                                                                                  else
                                                                                                                  none))))
                                                                                                            else
                                                                                                            none))))
                                                                                                      else
                                                                                                      none))))
                                                                                                else
                                                                                                none)
                                                                                              else
                                                                                              none))))
                                                                                        else
                                                                                        none))))
                                                                                  else
                                                                                  none))))
                                                                            else
                                                                            none))))
                                                                      else
                                                                      none)
                                                                    else
                                                                    none)
                                                                  else
                                                                  none))))
                                                            else
                                                            none))))
                                                      else
                                                      none))))
                                                else
                                                none)
                                              else
                                              none)
                                            else
                                            none)
                                          else
                                          none))))
                                    else
                                    none))))
                              else
                              none)
                            else
                            none)
                          else
                          none)
                        else
                        none)
                      else
                      none)))))
              else
              none))
          else
          none)))
    else
    none)
  else
  some (2, ((s.1.1, (s.1.2.1, (s.1.2.2.1, (s.1.2.2.2.1, (s.1.2.2.2.2.1, (s.1.2.2.2.2.2.1, ())))))), ())))
noncomputable def G72_l0_fuel (s : TY80) : Nat := Int.toNat (s.1.2.2.2.2.1 - s.1.2.2.2.2.2.1) + 1
noncomputable def G72_l0_run (s : TY80) : Option TY81 := iter G72_l0_step (G72_l0_fuel s) s
noncomputable def G72_l0_L : LoopT := loopT G72_l0_S [.pan 108, .exit 0] G72_l0_run
noncomputable def G72 (a0 : ByteArray) : Option ((Unit × Unit) ⊕ ((List E39) × Unit)) :=
  (Option.bind (G94 a0 (⟨#[10]⟩ : ByteArray)) fun r1 =>
  (bif (!r1.2.1) then
    some (Sum.inl ((), ()))
    else
    (Option.bind (G95 r1.1 (⟨#[10]⟩ : ByteArray)) fun r2 =>
      (bif (decide (0 ≤ (0 : Int)) && decide ((0 : Int) ≤ (IntKind.wrap .i64 ((List.length r2 : Int) - 1))) && decide ((IntKind.wrap .i64 ((List.length r2 : Int) - 1)) ≤ (List.length r2 : Int))) then
        (Option.bind (G72_l0_run ((r2, ((IntKind.wrap .i64 ((List.length r2 : Int) - 1)), ([], ((List.drop (Int.toNat 0) (List.take (Int.toNat (IntKind.wrap .i64 ((List.length r2 : Int) - 1))) r2)), ((List.length (List.drop (Int.toNat 0) (List.take (Int.toNat (IntKind.wrap .i64 ((List.length r2 : Int) - 1))) r2)) : Int), (0, ())))))), ())) fun q67 =>
          (natK q67.1
            (some (Sum.inl ((), ())))
            (fun _ => (bif (decide (0 ≤ q67.2.1.2.1) && decide (q67.2.1.2.1 < (List.length q67.2.1.1 : Int))) then
              (bif (decide (ByteArray.size (List.getD q67.2.1.1 (Int.toNat q67.2.1.2.1) (⟨#[]⟩ : ByteArray)) + ByteArray.size (⟨#[10]⟩ : ByteArray) ≤ LIM)) then
                (Option.bind (G70 q67.2.1.2.2.1) fun r68 =>
                  (bif (!(ByteArray.toList (ByteArray.append (List.getD q67.2.1.1 (Int.toNat q67.2.1.2.1) (⟨#[]⟩ : ByteArray)) (⟨#[10]⟩ : ByteArray)) == ByteArray.toList r68)) then
                    (bif (decide (0 ≤ q67.2.1.2.1) && decide (q67.2.1.2.1 < (List.length q67.2.1.1 : Int))) then
                      some (Sum.inl ((), ()))
                      else
                      none)
                    else
                    some (Sum.inr (q67.2.1.2.2.1, ()))))
                else
                none)
              else
              none))))
        else
        none))))
abbrev G72_CS : CSpec := ⟨[.dat .str], [], 0, [], 0, .fix (.pan 108)⟩
abbrev G72_O2 : List PTy := []
abbrev G72_R2 : PTy := .dat (.list T39)
noncomputable def G72_E : CEnt := altE 72 G72_CS G72_O2 0 G72_R2 fun x => G72 x.1.1
theorem G72_l0_V : LValid 0 Tryd.prog (.loop G72_l0_c) G72_l0_L false := by
  exact loopT_valid (fuel := G72_l0_fuel) mixed G72_CV (lvNil _) (by kernel_rfl) (by decide) rfl (by intro s; kernel_rfl) (fun s r h => h)
theorem G72_LV : LV 0 Tryd.prog false (loopsOf (bodyOf Tryd.f72)) [G72_l0_L] := by
  have hl : loopsOf (bodyOf Tryd.f72) = [.loop G72_l0_c] := by kernel_rfl
  rw [hl]; exact ⟨G72_l0_V, trivial⟩
theorem G72_ent : Ent Tryd.prog 72 := ⟨by decide, enters_of Tryd.func72 (by kernel_rfl) rfl⟩
theorem G72_hev : ∀ x : G72_CS.In, fnR Tryd.prog G72_C [G72_l0_L] Tryd.f72 (bodyOf Tryd.f72) (encs G72_CS.A x.1) ⟨encs G72_CS.I x.2, [], G72_CS.nt⟩ (finK2 G72_CS G72_O2 0 G72_R2) = G72 x.1.1 := by
  intro x; kernel_rfl
theorem G72_valid : G72_E.Valid Tryd.prog :=
  altE_valid (S := G72_CS) (by kernel_rfl) (by kernel_rfl) (.inr G72_ent) (alt_lcall (S := G72_CS) mixed Tryd.func72 rfl G72_ent G72_CV G72_LV (by kernel_rfl) (by kernel_rfl) (by kernel_rfl) (by kernel_rfl) G72_hev)
end Go.Proofs.YtcijddeommognaaDoor.Abs
set_option linter.unusedVariables false
set_option maxRecDepth 100000
namespace Go.Proofs.YtcijddeommognaaDoor.Abs
open Go.Shelf Go.Sort
noncomputable def G41_C : CalT := tabC [G72_E, G65_E]
theorem G41_CV : CV Tryd.prog G41_C := tabC_valid (l := _) ⟨G72_valid, G65_valid, trivial⟩
noncomputable def G41 (a0 : ByteArray) : Option ((List E39) × (Int × Unit)) :=
  (bif (decide ((ByteArray.size a0 : Int) > 10000)) then
  some ([], (3, ()))
  else
  (Option.bind (G72 a0) fun r1 =>
    (altK r1
      (fun r2 => some ([], (4, ())))
      (fun r3 => (Option.bind (G65 r3.1) fun r4 =>
        (bif (r4 != 0) then
          some ([], (r4, ()))
          else
          some (r3.1, (0, ()))))))))
noncomputable def G41_E : CEnt := pureE 41 [.dat .str] (.tup (.cons (.dat (.list T39)) (.cons (.dat (.int .i64)) (.nil)))) fun x => G41 x.1
theorem G41_LV : LV 2 Tryd.prog false (loopsOf (bodyOf Tryd.f41)) [] := by unfold LV; cases loopsOf (bodyOf Tryd.f41) <;> trivial
theorem G41_ent : Ent Tryd.prog 41 := ⟨by decide, enters_of Tryd.func41 (by kernel_rfl) rfl⟩
theorem G41_hev : ∀ x : Els [.dat .str], fnD Tryd.prog G41_C 2 cloOps 71 108 2 11 [] Tryd.f41 (bodyOf Tryd.f41) (encs [.dat .str] x) ⟨[], [], 0⟩ (frzV (.tup (.cons (.dat (.list T39)) (.cons (.dat (.int .i64)) (.nil))))) = G41 x.1 := by
  intro x; kernel_rfl
theorem G41_valid : G41_E.Valid Tryd.prog :=
  pureE_valid (by kernel_rfl) (by kernel_rfl) G41_ent (frzD_lcall mixed Tryd.func41 rfl G41_ent G41_CV clo_ok G41_LV (by kernel_rfl) G41_hev)
noncomputable def G46_C : CalT := tabC []
theorem G46_CV : CV Tryd.prog G46_C := tabC_valid (l := _) trivial
noncomputable def G46 (a0 : Int) (a1 : Int) (a2 : Int) : Option Bool :=
  (bif (decide (a0 ≥ a1)) then
  some (decide (a0 ≤ a2))
  else
  some false)
noncomputable def G46_E : CEnt := pureE 46 [.dat (.int .i64), .dat (.int .i64), .dat (.int .i64)] (.dat .bool) fun x => G46 x.1 x.2.1 x.2.2.1
theorem G46_LV : LV 0 Tryd.prog false (loopsOf (bodyOf Tryd.f46)) [] := by unfold LV; cases loopsOf (bodyOf Tryd.f46) <;> trivial
theorem G46_ent : Ent Tryd.prog 46 := ⟨by decide, enters_of Tryd.func46 (by kernel_rfl) rfl⟩
theorem G46_hev : ∀ x, fnR Tryd.prog G46_C [] Tryd.f46 (bodyOf Tryd.f46) (encs [.dat (.int .i64), .dat (.int .i64), .dat (.int .i64)] x) ⟨[], [], 0⟩ (frzF (.dat .bool)) = G46 x.1 x.2.1 x.2.2.1 := by
  intro x; kernel_rfl
theorem G46_valid : G46_E.Valid Tryd.prog :=
  pureE_valid (by kernel_rfl) (by kernel_rfl) G46_ent (frz_lcall mixed Tryd.func46 rfl G46_ent G46_CV G46_LV (by kernel_rfl) (by kernel_rfl) G46_hev)
noncomputable def G45_C : CalT := tabC [G46_E]
theorem G45_CV : CV Tryd.prog G45_C := tabC_valid (l := _) ⟨G46_valid, trivial⟩
noncomputable def G45 (a0 : (List Int)) : Option Bool :=
  (Option.bind (G46 (List.getD a0 (Int.toNat 0) 0) 0 1000) fun r1 =>
  (bif r1 then
    (Option.bind (G46 (List.getD a0 (Int.toNat 1) 0) 0 1000) fun r2 =>
      (bif r2 then
        (Option.bind (G46 (List.getD a0 (Int.toNat 2) 0) 0 1000) fun r3 =>
          some r3)
        else
        some false))
    else
    some false))
noncomputable def G45_E : CEnt := pureE 45 [.dat (.arr 3 (.int .i64))] (.dat .bool) fun x => G45 x.1
theorem G45_LV : LV 0 Tryd.prog false (loopsOf (bodyOf Tryd.f45)) [] := by unfold LV; cases loopsOf (bodyOf Tryd.f45) <;> trivial
theorem G45_ent : Ent Tryd.prog 45 := ⟨by decide, enters_of Tryd.func45 (by kernel_rfl) rfl⟩
theorem G45_hev : ∀ x, fnR Tryd.prog G45_C [] Tryd.f45 (bodyOf Tryd.f45) (encs [.dat (.arr 3 (.int .i64))] x) ⟨[], [], 0⟩ (frzF (.dat .bool)) = G45 x.1 := by
  intro x; kernel_rfl
theorem G45_valid : G45_E.Valid Tryd.prog :=
  pureE_valid (by kernel_rfl) (by kernel_rfl) G45_ent (frz_lcall mixed Tryd.func45 rfl G45_ent G45_CV G45_LV (by kernel_rfl) (by kernel_rfl) G45_hev)
noncomputable def G40_C : CalT := tabC [G46_E, G45_E]
theorem G40_CV : CV Tryd.prog G40_C := tabC_valid (l := _) ⟨G46_valid, G45_valid, trivial⟩
noncomputable def G40_l0_c : Code := loopAt (bodyOf Tryd.f40) 0
noncomputable def G40_l0_S : SPat := ⟨[.dat (.list T39), .any, .dat .bool, .dat (.int .i64), .any, .any, .any, .any, .any, .any, .any, .any, .any, .any, .any, .any, .any, .any, .any, .any, .any, .any, .any, .any, .any, .any, .any, .any, .any, .any, .any, .any, .any, .any, .any], [], 0⟩
noncomputable def G40_l0_step (s : (((List E39) × (Bool × (Int × Unit))) × Unit)) : Option (Nat × (((List E39) × (Bool × (Int × Unit))) × Unit)) :=
  (bif (decide (s.1.2.2.1 < (List.length s.1.1 : Int))) then
  (bif (decide (0 ≤ s.1.2.2.1) && decide (s.1.2.2.1 < (List.length s.1.1 : Int))) then
    (Option.bind (G46 ((List.getD s.1.1 (Int.toNat s.1.2.2.1) (0, ((List.replicate 3 0), (0, ())))).1) 0 7) fun r1 =>
      (bif (!r1) then
        some (1, ((s.1.1, (false, (s.1.2.2.1, ()))), ()))
        else
        (bif (decide (0 ≤ s.1.2.2.1) && decide (s.1.2.2.1 < (List.length s.1.1 : Int))) then
          (Option.bind (G45 ((List.getD s.1.1 (Int.toNat s.1.2.2.1) (0, ((List.replicate 3 0), (0, ())))).2.1)) fun r2 =>
            (bif (!r2) then
              some (1, ((s.1.1, (false, (s.1.2.2.1, ()))), ()))
              else
              (bif (decide (0 ≤ s.1.2.2.1) && decide (s.1.2.2.1 < (List.length s.1.1 : Int))) then
                (Option.bind (G46 ((List.getD s.1.1 (Int.toNat s.1.2.2.1) (0, ((List.replicate 3 0), (0, ())))).2.2.1) 0 1000000) fun r3 =>
                  (bif (!r3) then
                    some (1, ((s.1.1, (false, (s.1.2.2.1, ()))), ()))
                    else
                    some (0, ((s.1.1, (s.1.2.1, ((IntKind.wrap .i64 (s.1.2.2.1 + 1)), ()))), ()))))
                else
                none)))
          else
          none)))
    else
    none)
  else
  some (2, ((s.1.1, (s.1.2.1, (s.1.2.2.1, ()))), ())))
noncomputable def G40_l0_fuel (s : (((List E39) × (Bool × (Int × Unit))) × Unit)) : Nat := Int.toNat ((List.length s.1.1 : Int) - s.1.2.2.1) + 1
noncomputable def G40_l0_run (s : (((List E39) × (Bool × (Int × Unit))) × Unit)) : Option (Nat × (((List E39) × (Bool × (Int × Unit))) × Unit)) := iter G40_l0_step (G40_l0_fuel s) s
noncomputable def G40_l0_L : LoopT := loopT G40_l0_S [.ret, .exit 0] G40_l0_run
noncomputable def G40 (a0 : (List E39)) : Option Bool :=
  (Option.bind (G40_l0_run ((a0, (false, (0, ()))), ())) fun q4 =>
  (natK q4.1
    (some q4.2.1.2.1)
    (fun _ => some true)))
noncomputable def G40_E : CEnt := pureE 40 [.dat (.list T39)] (.dat .bool) fun x => G40 x.1
theorem G40_l0_V : LValid 0 Tryd.prog (.loop G40_l0_c) G40_l0_L false := by
  exact loopT_valid (fuel := G40_l0_fuel) mixed G40_CV (lvNil _) (by kernel_rfl) (by decide) rfl (by intro s; kernel_rfl) (fun s r h => h)
theorem G40_LV : LV 0 Tryd.prog false (loopsOf (bodyOf Tryd.f40)) [G40_l0_L] := by
  have hl : loopsOf (bodyOf Tryd.f40) = [.loop G40_l0_c] := by kernel_rfl
  rw [hl]; exact ⟨G40_l0_V, trivial⟩
theorem G40_ent : Ent Tryd.prog 40 := ⟨by decide, enters_of Tryd.func40 (by kernel_rfl) rfl⟩
theorem G40_hev : ∀ x, fnR Tryd.prog G40_C [G40_l0_L] Tryd.f40 (bodyOf Tryd.f40) (encs [.dat (.list T39)] x) ⟨[], [], 0⟩ (frzF (.dat .bool)) = G40 x.1 := by
  intro x; kernel_rfl
theorem G40_valid : G40_E.Valid Tryd.prog :=
  pureE_valid (by kernel_rfl) (by kernel_rfl) G40_ent (frz_lcall mixed Tryd.func40 rfl G40_ent G40_CV G40_LV (by kernel_rfl) (by kernel_rfl) G40_hev)
end Go.Proofs.YtcijddeommognaaDoor.Abs
