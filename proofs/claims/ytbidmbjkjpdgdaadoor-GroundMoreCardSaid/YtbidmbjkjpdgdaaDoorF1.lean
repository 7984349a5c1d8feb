import Derived.Test.YtbidmbjkjpdgdaaDoorA3
import Derived.Shelf.Abstract
import Derived.Shelf.LaysM
import Derived.Shelf.Strconv.Itoa3
import Derived.KernelRfl
/-
  Functions of the ground layer, and what they come to, as typed functions; part 0. Printed by a program of mine (gen.py).
-/
set_option linter.unusedVariables false
set_option maxRecDepth 100000
namespace Go.Proofs.YtbidmbjkjpdgdaaDoor.Abs
open Go.Shelf Go.Sort
abbrev T13 : DTy := (.cons .str (.cons (.int .u64) .nil))
abbrev E13 : Type := (ByteArray × (Int × Unit))
abbrev T23 : DTy := (.cons (.int .i64) (.cons (.int .i64) .nil))
abbrev E23 : Type := (Int × (Int × Unit))
abbrev T34 : DTy := (.cons (.int .i64) T23)
abbrev E34 : Type := (Int × E23)
abbrev T7 : DTy := (.cons (.int .i64) (.cons (.int .i64) (.cons .bool (.cons (.int .u8) .nil))))
abbrev E7 : Type := (Int × (Int × (Bool × (Int × Unit))))
abbrev T70 : DTy := (.cons (.int .i64) (.cons T23 .nil))
abbrev E70 : Type := (Int × (E23 × Unit))
abbrev T53 : DTy := (.cons T23 (.cons T23 (.cons (.int .i64) .nil)))
abbrev E53 : Type := (E23 × (E23 × (Int × Unit)))
abbrev T29 : DTy := (.cons (.list (.int .i64)) (.cons (.list (.int .i64)) (.cons (.list (.int .i64)) (.cons (.list (.int .i64)) (.cons (.list (.int .i64)) .nil)))))
abbrev E29 : Type := ((List Int) × ((List Int) × ((List Int) × ((List Int) × ((List Int) × Unit)))))
abbrev T25 : DTy := (.cons (.list T70) (.cons T23 .nil))
abbrev E25 : Type := ((List E70) × (E23 × Unit))
abbrev T72 : DTy := (.cons T23 (.cons T23 (.cons T23 .nil)))
abbrev E72 : Type := (E23 × (E23 × (E23 × Unit)))
abbrev T90 : DTy := (.cons T25 (.cons T29 (.cons (.int .i64) (.cons (.int .i64) (.cons (.int .i64) (.cons (.int .i64) (.cons (.list (.int .i64)) (.cons (.list (.int .i64)) (.cons T34 .nil)))))))))
abbrev E90 : Type := (E25 × (E29 × (Int × (Int × (Int × (Int × ((List Int) × ((List Int) × (E34 × Unit)))))))))
theorem mixed : Tryd.prog.follows .mixedOrders = true := by kernel_rfl
def Tryd.lays171_ren : Go.Shelf.Ren := ⟨fun | 171 => 84 | 243 => 95 | 246 => 97 | 283 => 98 | 284 => 99 | 285 => 100 | 286 => 101 | 129 => 103 | 317 => 102 | 318 => 104 | 319 => 105 | 320 => 106 | 337 => 107 | 338 => 108 | n => n, fun | 3 => 3 | 9 => 9 | 2 => 2 | 4 => 4 | 171 => 131 | 0 => 0 | 53 => 132 | 37 => 135 | 5 => 5 | 173 => 136 | 212 => 139 | 51 => 140 | 20 => 20 | 213 => 141 | 46 => 142 | 232 => 145 | 233 => 146 | n => n, fun | 17 => 0 | 18 => 1 | 19 => 2 | n => n⟩
theorem Tryd.lays171 : Go.Proofs.LaysM.n171 Tryd.prog Tryd.lays171_ren := {
  mixed := by kernel_rfl
  f129 := Tryd.func103.trans (congrArg some (by kernel_rfl))
  f171 := Tryd.func84.trans (congrArg some (by kernel_rfl))
  f243 := Tryd.func95.trans (congrArg some (by kernel_rfl))
  f246 := Tryd.func97.trans (congrArg some (by kernel_rfl))
  f283 := Tryd.func98.trans (congrArg some (by kernel_rfl))
  f284 := Tryd.func99.trans (congrArg some (by kernel_rfl))
  f285 := Tryd.func100.trans (congrArg some (by kernel_rfl))
  f286 := Tryd.func101.trans (congrArg some (by kernel_rfl))
  f317 := Tryd.func102.trans (congrArg some (by kernel_rfl))
  f318 := Tryd.func104.trans (congrArg some (by kernel_rfl))
  f319 := Tryd.func105.trans (congrArg some (by kernel_rfl))
  f320 := Tryd.func106.trans (congrArg some (by kernel_rfl))
  f337 := Tryd.func107.trans (congrArg some (by kernel_rfl))
  f338 := Tryd.func108.trans (congrArg some (by kernel_rfl))
  t0 := Tryd.underlying0
  a0 := Tryd.isAgg0
  z0 := Tryd.sizeOf0
  v0 := Tryd.zeroValue0
  t2 := Tryd.underlying2
  a2 := Tryd.isAgg2
  z2 := Tryd.sizeOf2
  v2 := Tryd.zeroValue2
  t3 := Tryd.underlying3
  a3 := Tryd.isAgg3
  z3 := Tryd.sizeOf3
  v3 := Tryd.zeroValue3
  t4 := Tryd.underlying4
  a4 := Tryd.isAgg4
  z4 := Tryd.sizeOf4
  v4 := Tryd.zeroValue4
  t5 := Tryd.underlying5
  a5 := Tryd.isAgg5
  z5 := Tryd.sizeOf5
  v5 := Tryd.zeroValue5
  t9 := Tryd.underlying9
  a9 := Tryd.isAgg9
  z9 := Tryd.sizeOf9
  v9 := Tryd.zeroValue9
  t20 := Tryd.underlying20
  a20 := Tryd.isAgg20
  z20 := Tryd.sizeOf20
  v20 := Tryd.zeroValue20
  t37 := Tryd.underlying135
  a37 := Tryd.isAgg135
  z37 := Tryd.sizeOf135
  v37 := Tryd.zeroValue135
  t46 := Tryd.underlying142
  a46 := Tryd.isAgg142
  z46 := Tryd.sizeOf142
  v46 := Tryd.zeroValue142
  t51 := Tryd.underlying140
  a51 := Tryd.isAgg140
  z51 := Tryd.sizeOf140
  v51 := Tryd.zeroValue140
  t53 := Tryd.underlying132
  a53 := Tryd.isAgg132
  z53 := Tryd.sizeOf132
  v53 := Tryd.zeroValue132
  t171 := Tryd.underlying131
  a171 := Tryd.isAgg131
  z171 := Tryd.sizeOf131
  v171 := Tryd.zeroValue131
  t173 := Tryd.underlying136
  a173 := Tryd.isAgg136
  z173 := Tryd.sizeOf136
  v173 := Tryd.zeroValue136
  t212 := Tryd.underlying139
  a212 := Tryd.isAgg139
  z212 := Tryd.sizeOf139
  v212 := Tryd.zeroValue139
  t213 := Tryd.underlying141
  a213 := Tryd.isAgg141
  z213 := Tryd.sizeOf141
  t232 := Tryd.underlying145
  a232 := Tryd.isAgg145
  z232 := Tryd.sizeOf145
  v232 := Tryd.zeroValue145
  t233 := Tryd.underlying146
  a233 := Tryd.isAgg146
  z233 := Tryd.sizeOf146
  v233 := Tryd.zeroValue146
  g17 := by kernel_rfl
  g18 := by kernel_rfl
  g19 := by kernel_rfl
  i0 := by kernel_rfl
  i2 := by kernel_rfl
  i3 := by kernel_rfl
  i4 := by kernel_rfl
  i5 := by kernel_rfl
  i9 := by kernel_rfl
  i20 := by kernel_rfl
  i37 := by kernel_rfl
  i46 := by kernel_rfl
  i51 := by kernel_rfl
  i53 := by kernel_rfl
  i171 := by kernel_rfl
  i173 := by kernel_rfl
  i212 := by kernel_rfl
  i232 := by kernel_rfl
  i233 := by kernel_rfl
  m17 := by kernel_rfl
  m18 := by kernel_rfl
  m19 := by kernel_rfl }
theorem tabIs_of {G : Gh} {B : Bx} {w : World} (hw : WOk G B w) : Lib.TabIs Tryd.prog w "internal/strconv.uint64pow10" .u64 Lib.pow10Tab := by
  obtain ⟨⟨e, fr, h⟩, _⟩ := hw.tab _ (List.mem_cons_self : _ ∈ TABS)
  have hg : Tryd.prog.globalNamed "internal/strconv.uint64pow10" = some 0 := by kernel_rfl
  unfold Lib.TabIs World.var?
  rw [hg]
  simp only [Option.bind_some]
  rw [h]
  rfl
def itoaM (n : Int) : Option ByteArray := bif decide (-9223372036854775808 ≤ n) && decide (n ≤ 9223372036854775807) then some ⟨(Lib.itoa n).toArray⟩ else none
def itoaM_E : CEnt := pureE 84 [.dat (.int .i64)] (.dat .str) fun x => itoaM x.1
theorem grew_grow (w : World) (k : Nat) (os : Array Obj) : Grew w (grow (w.drewN k) os) :=
  ⟨rfl, rfl, rfl, by simp [grow, World.drewN], fun b hb => by simp [grow, World.drewN, Array.getElem?_append_left hb]⟩
theorem itoaM_valid : itoaM_E.Valid Tryd.prog := by
  have hent : Ent Tryd.prog 84 := ⟨by decide, enters_of Tryd.func84 (by kernel_rfl) rfl⟩
  refine pureE_valid (by kernel_rfl) (by kernel_rfl) hent (fun x r h => ⟨.inr hent, fun G w vs hvs hw => Run.call hent.1 ?_⟩)
  unfold itoaM at h
  cases hb : decide (-9223372036854775808 ≤ x.1) && decide (x.1 ≤ 9223372036854775807) with
  | false => rw [hb] at h; cases h
  | true =>
    rw [hb] at h
    simp only [cond_true, Option.some.injEq] at h
    simp only [Bool.and_eq_true, decide_eq_true_eq] at hb
    cases hvs with
    | cons hv t =>
      cases t
      have hvv := int_form hv
      subst hvv
      have hc : Calls Tryd.prog 84 #[.int .i64 x.1] w _ := Any.strconv_Itoa Tryd.lays171 x.1 hb.1 hb.2 w (tabIs_of hw)
      refine hc.mono ?_
      rintro e w' ⟨rfl, k, os, rfl⟩
      subst h
      exact ⟨_, G, rfl, leaf_v rfl rfl, hw.grew (grew_grow w k os), (grew_grow w k os).ext G, fun i b _ hb => hb⟩

noncomputable def g13_taliklaw01_short_C : CalT := tabC []
theorem g13_taliklaw01_short_CV : CV Tryd.prog g13_taliklaw01_short_C := tabC_valid trivial
noncomputable def g13_taliklaw01_short (a0 : E25) (a1 : (List E72)) : Option Bool :=
  (bif (decide ((List.length a0.1 : Int) ≤ 12)) then
  some (decide ((List.length a1 : Int) ≤ 17))
  else
  some false)
noncomputable def g13_taliklaw01_short_E : CEnt := pureE 13 [.dat T25, .dat (.list T72)] (.dat .bool) fun x => g13_taliklaw01_short x.1 x.2.1
theorem g13_taliklaw01_short_LV : LV 0 Tryd.prog false (loopsOf (bodyOf Tryd.f13)) [] := by unfold LV; cases loopsOf (bodyOf Tryd.f13) <;> trivial
theorem g13_taliklaw01_short_ent : Ent Tryd.prog 13 := ⟨by decide, enters_of Tryd.func13 (by kernel_rfl) rfl⟩
theorem g13_taliklaw01_short_hev : ∀ x, fnR Tryd.prog g13_taliklaw01_short_C [] Tryd.f13 (bodyOf Tryd.f13) (encs [.dat T25, .dat (.list T72)] x) ⟨[], [], 0⟩ (frzF (.dat .bool)) = g13_taliklaw01_short x.1 x.2.1 := by
  intro x; kernel_rfl
theorem g13_taliklaw01_short_valid : g13_taliklaw01_short_E.Valid Tryd.prog :=
  pureE_valid (by kernel_rfl) (by kernel_rfl) g13_taliklaw01_short_ent (frz_lcall mixed Tryd.func13 rfl g13_taliklaw01_short_ent g13_taliklaw01_short_CV g13_taliklaw01_short_LV (by kernel_rfl) (by kernel_rfl) g13_taliklaw01_short_hev)

noncomputable def g33_taliklaw01_span_C : CalT := tabC []
theorem g33_taliklaw01_span_CV : CV Tryd.prog g33_taliklaw01_span_C := tabC_valid trivial
noncomputable def g33_taliklaw01_span (a0 : Int) (a1 : Int) : Option E23 :=
  some (a0, (a1, ()))
noncomputable def g33_taliklaw01_span_E : CEnt := pureE 33 [.dat (.int .i64), .dat (.int .i64)] (.dat T23) fun x => g33_taliklaw01_span x.1 x.2.1
theorem g33_taliklaw01_span_LV : LV 0 Tryd.prog false (loopsOf (bodyOf Tryd.f33)) [] := by unfold LV; cases loopsOf (bodyOf Tryd.f33) <;> trivial
theorem g33_taliklaw01_span_ent : Ent Tryd.prog 33 := ⟨by decide, enters_of Tryd.func33 (by kernel_rfl) rfl⟩
theorem g33_taliklaw01_span_hev : ∀ x, fnR Tryd.prog g33_taliklaw01_span_C [] Tryd.f33 (bodyOf Tryd.f33) (encs [.dat (.int .i64), .dat (.int .i64)] x) ⟨[], [], 0⟩ (frzF (.dat T23)) = g33_taliklaw01_span x.1 x.2.1 := by
  intro x; kernel_rfl
theorem g33_taliklaw01_span_valid : g33_taliklaw01_span_E.Valid Tryd.prog :=
  pureE_valid (by kernel_rfl) (by kernel_rfl) g33_taliklaw01_span_ent (frz_lcall mixed Tryd.func33 rfl g33_taliklaw01_span_ent g33_taliklaw01_span_CV g33_taliklaw01_span_LV (by kernel_rfl) (by kernel_rfl) g33_taliklaw01_span_hev)

noncomputable def g41_taliklaw01_P_C : CalT := tabC [g33_taliklaw01_span_E]
theorem g41_taliklaw01_P_CV : CV Tryd.prog g41_taliklaw01_P_C := tabC_valid ⟨g33_taliklaw01_span_valid, trivial⟩
noncomputable def g41_taliklaw01_P : Option E25 :=
  (Option.bind (g33_taliklaw01_span 100 120) fun r1 =>
  (Option.bind (g33_taliklaw01_span 200 300) fun r2 =>
    (Option.bind (g33_taliklaw01_span 0 2000) fun r3 =>
      some ([(500, (r1, ())), (1000, (r2, ()))], (r3, ())))))
noncomputable def g41_taliklaw01_P_E : CEnt := pureE 41 [] (.dat T25) fun x => g41_taliklaw01_P
theorem g41_taliklaw01_P_LV : LV 0 Tryd.prog false (loopsOf (bodyOf Tryd.f41)) [] := by unfold LV; cases loopsOf (bodyOf Tryd.f41) <;> trivial
theorem g41_taliklaw01_P_ent : Ent Tryd.prog 41 := ⟨by decide, enters_of Tryd.func41 (by kernel_rfl) rfl⟩
theorem g41_taliklaw01_P_hev : ∀ x, fnR Tryd.prog g41_taliklaw01_P_C [] Tryd.f41 (bodyOf Tryd.f41) (encs [] x) ⟨[], [], 0⟩ (frzF (.dat T25)) = g41_taliklaw01_P := by
  intro x; kernel_rfl
theorem g41_taliklaw01_P_valid : g41_taliklaw01_P_E.Valid Tryd.prog :=
  pureE_valid (by kernel_rfl) (by kernel_rfl) g41_taliklaw01_P_ent (frz_lcall mixed Tryd.func41 rfl g41_taliklaw01_P_ent g41_taliklaw01_P_CV g41_taliklaw01_P_LV (by kernel_rfl) (by kernel_rfl) g41_taliklaw01_P_hev)

noncomputable def g42_taliklaw01_Y_C : CalT := tabC [g33_taliklaw01_span_E]
theorem g42_taliklaw01_Y_CV : CV Tryd.prog g42_taliklaw01_Y_C := tabC_valid ⟨g33_taliklaw01_span_valid, trivial⟩
noncomputable def g42_taliklaw01_Y_l0_S : SPat := ⟨[.dat (.int .i64), .any, .any, .own 0 T72, .dat (.int .i64), .any, .any, .any, .any, .any, .any, .any, .any, .any, .any, .any, .any, .any], [], 1⟩
noncomputable def g42_taliklaw01_Y_l0_step (s : ((Int × ((List E72) × (Int × Unit))) × Unit)) : Option (Nat × ((Int × ((List E72) × (Int × Unit))) × Unit)) :=
  (bif (decide (s.1.2.2.1 < s.1.1)) then
  (Option.bind (g33_taliklaw01_span 60000 70000) fun r1 =>
    (Option.bind (g33_taliklaw01_span 50000 90000) fun r2 =>
      (Option.bind (g33_taliklaw01_span 100 300) fun r3 =>
        (bif (decide (List.length s.1.2.1 + List.length [(r1, (r2, (r3, ())))] ≤ LIM)) then
          some (0, ((s.1.1, ((s.1.2.1 ++ [(r1, (r2, (r3, ())))]), ((IntKind.wrap .i64 (s.1.2.2.1 + 1)), ()))), ()))
          else
          none))))
  else
  some (1, ((s.1.1, (s.1.2.1, (s.1.2.2.1, ()))), ())))
noncomputable def g42_taliklaw01_Y_l0_fuel (s : ((Int × ((List E72) × (Int × Unit))) × Unit)) : Nat := Int.toNat (s.1.1 - s.1.2.2.1) + 1
noncomputable def g42_taliklaw01_Y_l0_run (s : ((Int × ((List E72) × (Int × Unit))) × Unit)) : Option (Nat × ((Int × ((List E72) × (Int × Unit))) × Unit)) := iter g42_taliklaw01_Y_l0_step (g42_taliklaw01_Y_l0_fuel s) s
noncomputable def g42_taliklaw01_Y_l0_L : LoopT := loopT g42_taliklaw01_Y_l0_S [.exit 0] g42_taliklaw01_Y_l0_run
noncomputable def g42_taliklaw01_Y (a0 : Int) : Option (List E72) :=
  (Option.bind (g42_taliklaw01_Y_l0_run ((a0, ([], (0, ()))), ())) fun q4 =>
  some q4.2.1.2.1)
noncomputable def g42_taliklaw01_Y_E : CEnt := pureE 42 [.dat (.int .i64)] (.dat (.list T72)) fun x => g42_taliklaw01_Y x.1
noncomputable def g42_taliklaw01_Y_l0_c : Code := loopAt (bodyOf Tryd.f42) 0
theorem g42_taliklaw01_Y_l0_V : LValid 0 Tryd.prog (.loop g42_taliklaw01_Y_l0_c) g42_taliklaw01_Y_l0_L false := by
  have hb : ∀ s, codeR Tryd.prog g42_taliklaw01_Y_C g42_taliklaw01_Y_l0_c [] (g42_taliklaw01_Y_l0_S.encE s) (g42_taliklaw01_Y_l0_S.encB s) (kst g42_taliklaw01_Y_l0_S [.exit 0]) = g42_taliklaw01_Y_l0_step s := by
    intro s; kernel_rfl
  have hL : LV 0 Tryd.prog false (loopsOf g42_taliklaw01_Y_l0_c) [] := by unfold LV; cases loopsOf g42_taliklaw01_Y_l0_c <;> trivial
  exact loopT_valid (fuel := g42_taliklaw01_Y_l0_fuel) mixed g42_taliklaw01_Y_CV hL (by kernel_rfl) (by decide) rfl hb (fun s r h => h)
theorem g42_taliklaw01_Y_LV : LV 0 Tryd.prog false (loopsOf (bodyOf Tryd.f42)) [g42_taliklaw01_Y_l0_L] := by
  have hl : loopsOf (bodyOf Tryd.f42) = [.loop g42_taliklaw01_Y_l0_c] := by kernel_rfl
  rw [hl]; exact ⟨g42_taliklaw01_Y_l0_V, trivial⟩
theorem g42_taliklaw01_Y_ent : Ent Tryd.prog 42 := ⟨by decide, enters_of Tryd.func42 (by kernel_rfl) rfl⟩
theorem g42_taliklaw01_Y_hev : ∀ x, fnR Tryd.prog g42_taliklaw01_Y_C [g42_taliklaw01_Y_l0_L] Tryd.f42 (bodyOf Tryd.f42) (encs [.dat (.int .i64)] x) ⟨[], [], 0⟩ (frzF (.dat (.list T72))) = g42_taliklaw01_Y x.1 := by
  intro x; kernel_rfl
theorem g42_taliklaw01_Y_valid : g42_taliklaw01_Y_E.Valid Tryd.prog :=
  pureE_valid (by kernel_rfl) (by kernel_rfl) g42_taliklaw01_Y_ent (frz_lcall mixed Tryd.func42 rfl g42_taliklaw01_Y_ent g42_taliklaw01_Y_CV g42_taliklaw01_Y_LV (by kernel_rfl) (by kernel_rfl) g42_taliklaw01_Y_hev)

noncomputable def g70_ground_in_C : CalT := tabC []
theorem g70_ground_in_CV : CV Tryd.prog g70_ground_in_C := tabC_valid trivial
noncomputable def g70_ground_in (a0 : Int) (a1 : Int) (a2 : Int) : Option Bool :=
  (bif (decide (a0 ≥ a1)) then
  some (decide (a0 ≤ a2))
  else
  some false)
noncomputable def g70_ground_in_E : CEnt := pureE 70 [.dat (.int .i64), .dat (.int .i64), .dat (.int .i64)] (.dat .bool) fun x => g70_ground_in x.1 x.2.1 x.2.2.1
theorem g70_ground_in_LV : LV 0 Tryd.prog false (loopsOf (bodyOf Tryd.f70)) [] := by unfold LV; cases loopsOf (bodyOf Tryd.f70) <;> trivial
theorem g70_ground_in_ent : Ent Tryd.prog 70 := ⟨by decide, enters_of Tryd.func70 (by kernel_rfl) rfl⟩
theorem g70_ground_in_hev : ∀ x, fnR Tryd.prog g70_ground_in_C [] Tryd.f70 (bodyOf Tryd.f70) (encs [.dat (.int .i64), .dat (.int .i64), .dat (.int .i64)] x) ⟨[], [], 0⟩ (frzF (.dat .bool)) = g70_ground_in x.1 x.2.1 x.2.2.1 := by
  intro x; kernel_rfl
theorem g70_ground_in_valid : g70_ground_in_E.Valid Tryd.prog :=
  pureE_valid (by kernel_rfl) (by kernel_rfl) g70_ground_in_ent (frz_lcall mixed Tryd.func70 rfl g70_ground_in_ent g70_ground_in_CV g70_ground_in_LV (by kernel_rfl) (by kernel_rfl) g70_ground_in_hev)

noncomputable def g73_ground_span_C : CalT := tabC []
theorem g73_ground_span_CV : CV Tryd.prog g73_ground_span_C := tabC_valid trivial
noncomputable def g73_ground_span (a0 : E23) (a1 : Int) (a2 : Int) : Option Bool :=
  (bif (decide (a0.1 ≥ a1)) then
  (bif (decide (a0.1 ≤ a0.2.1)) then
    some (decide (a0.2.1 ≤ a2))
    else
    some false)
  else
  some false)
noncomputable def g73_ground_span_E : CEnt := pureE 73 [.dat T23, .dat (.int .i64), .dat (.int .i64)] (.dat .bool) fun x => g73_ground_span x.1 x.2.1 x.2.2.1
theorem g73_ground_span_LV : LV 0 Tryd.prog false (loopsOf (bodyOf Tryd.f73)) [] := by unfold LV; cases loopsOf (bodyOf Tryd.f73) <;> trivial
theorem g73_ground_span_ent : Ent Tryd.prog 73 := ⟨by decide, enters_of Tryd.func73 (by kernel_rfl) rfl⟩
theorem g73_ground_span_hev : ∀ x, fnR Tryd.prog g73_ground_span_C [] Tryd.f73 (bodyOf Tryd.f73) (encs [.dat T23, .dat (.int .i64), .dat (.int .i64)] x) ⟨[], [], 0⟩ (frzF (.dat .bool)) = g73_ground_span x.1 x.2.1 x.2.2.1 := by
  intro x; kernel_rfl
theorem g73_ground_span_valid : g73_ground_span_E.Valid Tryd.prog :=
  pureE_valid (by kernel_rfl) (by kernel_rfl) g73_ground_span_ent (frz_lcall mixed Tryd.func73 rfl g73_ground_span_ent g73_ground_span_CV g73_ground_span_LV (by kernel_rfl) (by kernel_rfl) g73_ground_span_hev)

noncomputable def g83_ground_valid_1_C : CalT := tabC [g70_ground_in_E, g73_ground_span_E]
theorem g83_ground_valid_1_CV : CV Tryd.prog g83_ground_valid_1_C := tabC_valid ⟨g70_ground_in_valid, g73_ground_span_valid, trivial⟩
noncomputable def g83_ground_valid_1 (a0 : E70) : Option Bool :=
  (Option.bind (g70_ground_in a0.1 1 20000) fun r1 =>
  (bif (!r1) then
    some true
    else
    (Option.bind (g73_ground_span a0.2.1 1 1000) fun r2 =>
      some (!r2))))
noncomputable def g83_ground_valid_1_E : CEnt := pureE 83 [.dat T70] (.dat .bool) fun x => g83_ground_valid_1 x.1
theorem g83_ground_valid_1_LV : LV 0 Tryd.prog false (loopsOf (bodyOf Tryd.f83)) [] := by unfold LV; cases loopsOf (bodyOf Tryd.f83) <;> trivial
theorem g83_ground_valid_1_ent : Ent Tryd.prog 83 := ⟨by decide, enters_of Tryd.func83 (by kernel_rfl) rfl⟩
theorem g83_ground_valid_1_hev : ∀ x, fnR Tryd.prog g83_ground_valid_1_C [] Tryd.f83 (bodyOf Tryd.f83) (encs [.dat T70] x) ⟨[], [], 0⟩ (frzF (.dat .bool)) = g83_ground_valid_1 x.1 := by
  intro x; kernel_rfl
theorem g83_ground_valid_1_valid : g83_ground_valid_1_E.Valid Tryd.prog :=
  pureE_valid (by kernel_rfl) (by kernel_rfl) g83_ground_valid_1_ent (frz_lcall mixed Tryd.func83 rfl g83_ground_valid_1_ent g83_ground_valid_1_CV g83_ground_valid_1_LV (by kernel_rfl) (by kernel_rfl) g83_ground_valid_1_hev)

noncomputable def g94_slices_IndexFunc_C : CalT := tabC [g83_ground_valid_1_E]
theorem g94_slices_IndexFunc_CV : CV Tryd.prog g94_slices_IndexFunc_C := tabC_valid ⟨g83_ground_valid_1_valid, trivial⟩
noncomputable def g94_slices_IndexFunc_l0_S : SPat := ⟨[.dat (.list T70), .fix (.func (.func 83) .nil .nil), .any, .any, .dat (.int .i64), .any, .any, .dat (.int .i64), .dat (.int .i64), .any, .any, .any, .any, .any, .any, .any, .any, .any, .any], [], 0⟩
noncomputable def g94_slices_IndexFunc_l0_step (s : (((List E70) × (Int × (Int × (Int × Unit)))) × Unit)) : Option (Nat × (((List E70) × (Int × (Int × (Int × Unit)))) × Unit)) :=
  (bif (decide (s.1.2.2.2.1 < s.1.2.2.1)) then
  (bif (decide (0 ≤ s.1.2.2.2.1) && decide (s.1.2.2.2.1 < (List.length s.1.1 : Int))) then
    (Option.bind (g83_ground_valid_1 (List.getD s.1.1 (Int.toNat s.1.2.2.2.1) (0, ((0, (0, ())), ())))) fun r1 =>
      (bif r1 then
        some (1, ((s.1.1, (s.1.2.2.2.1, (s.1.2.2.1, (s.1.2.2.2.1, ())))), ()))
        else
        some (0, ((s.1.1, (s.1.2.1, (s.1.2.2.1, ((IntKind.wrap .i64 (s.1.2.2.2.1 + 1)), ())))), ()))))
    else
    none)
  else
  some (2, ((s.1.1, (s.1.2.1, (s.1.2.2.1, (s.1.2.2.2.1, ())))), ())))
noncomputable def g94_slices_IndexFunc_l0_fuel (s : (((List E70) × (Int × (Int × (Int × Unit)))) × Unit)) : Nat := Int.toNat (s.1.2.2.1 - s.1.2.2.2.1) + 1
noncomputable def g94_slices_IndexFunc_l0_run (s : (((List E70) × (Int × (Int × (Int × Unit)))) × Unit)) : Option (Nat × (((List E70) × (Int × (Int × (Int × Unit)))) × Unit)) := iter g94_slices_IndexFunc_l0_step (g94_slices_IndexFunc_l0_fuel s) s
noncomputable def g94_slices_IndexFunc_l0_L : LoopT := loopT g94_slices_IndexFunc_l0_S [.ret, .exit 0] g94_slices_IndexFunc_l0_run
noncomputable def g94_slices_IndexFunc (a0 : (List E70)) : Option Int :=
  (Option.bind (g94_slices_IndexFunc_l0_run ((a0, (0, ((List.length a0 : Int), (0, ())))), ())) fun q2 =>
  (natK q2.1
    (some q2.2.1.2.1)
    (fun _ => some (-1))))
noncomputable def g94_slices_IndexFunc_E : CEnt := pureE 94 [.dat (.list T70), .fix (.func (.func 83) .nil .nil)] (.dat (.int .i64)) fun x => g94_slices_IndexFunc x.1
noncomputable def g94_slices_IndexFunc_l0_c : Code := loopAt (bodyOf Tryd.f94) 0
theorem g94_slices_IndexFunc_l0_V : LValid 0 Tryd.prog (.loop g94_slices_IndexFunc_l0_c) g94_slices_IndexFunc_l0_L false := by
  have hb : ∀ s, codeR Tryd.prog g94_slices_IndexFunc_C g94_slices_IndexFunc_l0_c [] (g94_slices_IndexFunc_l0_S.encE s) (g94_slices_IndexFunc_l0_S.encB s) (kst g94_slices_IndexFunc_l0_S [.ret, .exit 0]) = g94_slices_IndexFunc_l0_step s := by
    intro s; kernel_rfl
  have hL : LV 0 Tryd.prog false (loopsOf g94_slices_IndexFunc_l0_c) [] := by unfold LV; cases loopsOf g94_slices_IndexFunc_l0_c <;> trivial
  exact loopT_valid (fuel := g94_slices_IndexFunc_l0_fuel) mixed g94_slices_IndexFunc_CV hL (by kernel_rfl) (by decide) rfl hb (fun s r h => h)
theorem g94_slices_IndexFunc_LV : LV 0 Tryd.prog false (loopsOf (bodyOf Tryd.f94)) [g94_slices_IndexFunc_l0_L] := by
  have hl : loopsOf (bodyOf Tryd.f94) = [.loop g94_slices_IndexFunc_l0_c] := by kernel_rfl
  rw [hl]; exact ⟨g94_slices_IndexFunc_l0_V, trivial⟩
theorem g94_slices_IndexFunc_ent : Ent Tryd.prog 94 := ⟨by decide, enters_of Tryd.func94 (by kernel_rfl) rfl⟩
theorem g94_slices_IndexFunc_hev : ∀ x, fnR Tryd.prog g94_slices_IndexFunc_C [g94_slices_IndexFunc_l0_L] Tryd.f94 (bodyOf Tryd.f94) (encs [.dat (.list T70), .fix (.func (.func 83) .nil .nil)] x) ⟨[], [], 0⟩ (frzF (.dat (.int .i64))) = g94_slices_IndexFunc x.1 := by
  intro x; kernel_rfl
theorem g94_slices_IndexFunc_valid : g94_slices_IndexFunc_E.Valid Tryd.prog :=
  pureE_valid (by kernel_rfl) (by kernel_rfl) g94_slices_IndexFunc_ent (frz_lcall mixed Tryd.func94 rfl g94_slices_IndexFunc_ent g94_slices_IndexFunc_CV g94_slices_IndexFunc_LV (by kernel_rfl) (by kernel_rfl) g94_slices_IndexFunc_hev)

noncomputable def g82_slices_ContainsFunc_C : CalT := tabC [g94_slices_IndexFunc_E]
theorem g82_slices_ContainsFunc_CV : CV Tryd.prog g82_slices_ContainsFunc_C := tabC_valid ⟨g94_slices_IndexFunc_valid, trivial⟩
noncomputable def g82_slices_ContainsFunc (a0 : (List E70)) : Option Bool :=
  (Option.bind (g94_slices_IndexFunc a0) fun r1 =>
  some (decide (r1 ≥ 0)))
noncomputable def g82_slices_ContainsFunc_E : CEnt := pureE 82 [.dat (.list T70), .fix (.func (.func 83) .nil .nil)] (.dat .bool) fun x => g82_slices_ContainsFunc x.1
theorem g82_slices_ContainsFunc_LV : LV 0 Tryd.prog false (loopsOf (bodyOf Tryd.f82)) [] := by unfold LV; cases loopsOf (bodyOf Tryd.f82) <;> trivial
theorem g82_slices_ContainsFunc_ent : Ent Tryd.prog 82 := ⟨by decide, enters_of Tryd.func82 (by kernel_rfl) rfl⟩
theorem g82_slices_ContainsFunc_hev : ∀ x, fnR Tryd.prog g82_slices_ContainsFunc_C [] Tryd.f82 (bodyOf Tryd.f82) (encs [.dat (.list T70), .fix (.func (.func 83) .nil .nil)] x) ⟨[], [], 0⟩ (frzF (.dat .bool)) = g82_slices_ContainsFunc x.1 := by
  intro x; kernel_rfl
theorem g82_slices_ContainsFunc_valid : g82_slices_ContainsFunc_E.Valid Tryd.prog :=
  pureE_valid (by kernel_rfl) (by kernel_rfl) g82_slices_ContainsFunc_ent (frz_lcall mixed Tryd.func82 rfl g82_slices_ContainsFunc_ent g82_slices_ContainsFunc_CV g82_slices_ContainsFunc_LV (by kernel_rfl) (by kernel_rfl) g82_slices_ContainsFunc_hev)

noncomputable def g66_ground_valid_C : CalT := tabC [g70_ground_in_E, g73_ground_span_E, g82_slices_ContainsFunc_E]
theorem g66_ground_valid_CV : CV Tryd.prog g66_ground_valid_C := tabC_valid ⟨g70_ground_in_valid, g73_ground_span_valid, g82_slices_ContainsFunc_valid, trivial⟩
noncomputable def g66_ground_valid (a0 : E25) : Option Bool :=
  (Option.bind (g70_ground_in (List.length a0.1 : Int) 1 6) fun r1 =>
  (bif r1 then
    (Option.bind (g73_ground_span a0.2.1 0 1000000) fun r2 =>
      (bif r2 then
        (Option.bind (g82_slices_ContainsFunc a0.1) fun r3 =>
          some (!r3))
        else
        some false))
    else
    some false))
noncomputable def g66_ground_valid_E : CEnt := pureE 66 [.dat T25] (.dat .bool) fun x => g66_ground_valid x.1
theorem g66_ground_valid_LV : LV 0 Tryd.prog false (loopsOf (bodyOf Tryd.f66)) [] := by unfold LV; cases loopsOf (bodyOf Tryd.f66) <;> trivial
theorem g66_ground_valid_ent : Ent Tryd.prog 66 := ⟨by decide, enters_of Tryd.func66 (by kernel_rfl) rfl⟩
theorem g66_ground_valid_hev : ∀ x, fnR Tryd.prog g66_ground_valid_C [] Tryd.f66 (bodyOf Tryd.f66) (encs [.dat T25] x) ⟨[], [], 0⟩ (frzF (.dat .bool)) = g66_ground_valid x.1 := by
  intro x; kernel_rfl
theorem g66_ground_valid_valid : g66_ground_valid_E.Valid Tryd.prog :=
  pureE_valid (by kernel_rfl) (by kernel_rfl) g66_ground_valid_ent (frz_lcall mixed Tryd.func66 rfl g66_ground_valid_ent g66_ground_valid_CV g66_ground_valid_LV (by kernel_rfl) (by kernel_rfl) g66_ground_valid_hev)

noncomputable def g72_ground_given_1_C : CalT := tabC [g73_ground_span_E]
theorem g72_ground_given_1_CV : CV Tryd.prog g72_ground_given_1_C := tabC_valid ⟨g73_ground_span_valid, trivial⟩
noncomputable def g72_ground_given_1 (a0 : E72) : Option Bool :=
  (Option.bind (g73_ground_span a0.1 0 1000000) fun r1 =>
  (bif (!r1) then
    some true
    else
    (Option.bind (g73_ground_span a0.2.1 0 1000000) fun r2 =>
      (bif (!r2) then
        some true
        else
        (Option.bind (g73_ground_span a0.2.2.1 0 1000) fun r3 =>
          some (!r3))))))
noncomputable def g72_ground_given_1_E : CEnt := pureE 72 [.dat T72] (.dat .bool) fun x => g72_ground_given_1 x.1
theorem g72_ground_given_1_LV : LV 0 Tryd.prog false (loopsOf (bodyOf Tryd.f72)) [] := by unfold LV; cases loopsOf (bodyOf Tryd.f72) <;> trivial
theorem g72_ground_given_1_ent : Ent Tryd.prog 72 := ⟨by decide, enters_of Tryd.func72 (by kernel_rfl) rfl⟩
theorem g72_ground_given_1_hev : ∀ x, fnR Tryd.prog g72_ground_given_1_C [] Tryd.f72 (bodyOf Tryd.f72) (encs [.dat T72] x) ⟨[], [], 0⟩ (frzF (.dat .bool)) = g72_ground_given_1 x.1 := by
  intro x; kernel_rfl
theorem g72_ground_given_1_valid : g72_ground_given_1_E.Valid Tryd.prog :=
  pureE_valid (by kernel_rfl) (by kernel_rfl) g72_ground_given_1_ent (frz_lcall mixed Tryd.func72 rfl g72_ground_given_1_ent g72_ground_given_1_CV g72_ground_given_1_LV (by kernel_rfl) (by kernel_rfl) g72_ground_given_1_hev)

noncomputable def g85_slices_IndexFunc_C : CalT := tabC [g72_ground_given_1_E]
theorem g85_slices_IndexFunc_CV : CV Tryd.prog g85_slices_IndexFunc_C := tabC_valid ⟨g72_ground_given_1_valid, trivial⟩
noncomputable def g85_slices_IndexFunc_l0_S : SPat := ⟨[.dat (.list T72), .fix (.func (.func 72) .nil .nil), .any, .any, .dat (.int .i64), .any, .any, .dat (.int .i64), .dat (.int .i64), .any, .any, .any, .any, .any, .any, .any, .any, .any, .any], [], 0⟩
noncomputable def g85_slices_IndexFunc_l0_step (s : (((List E72) × (Int × (Int × (Int × Unit)))) × Unit)) : Option (Nat × (((List E72) × (Int × (Int × (Int × Unit)))) × Unit)) :=
  (bif (decide (s.1.2.2.2.1 < s.1.2.2.1)) then
  (bif (decide (0 ≤ s.1.2.2.2.1) && decide (s.1.2.2.2.1 < (List.length s.1.1 : Int))) then
    (Option.bind (g72_ground_given_1 (List.getD s.1.1 (Int.toNat s.1.2.2.2.1) ((0, (0, ())), ((0, (0, ())), ((0, (0, ())), ()))))) fun r1 =>
      (bif r1 then
        some (1, ((s.1.1, (s.1.2.2.2.1, (s.1.2.2.1, (s.1.2.2.2.1, ())))), ()))
        else
        some (0, ((s.1.1, (s.1.2.1, (s.1.2.2.1, ((IntKind.wrap .i64 (s.1.2.2.2.1 + 1)), ())))), ()))))
    else
    none)
  else
  some (2, ((s.1.1, (s.1.2.1, (s.1.2.2.1, (s.1.2.2.2.1, ())))), ())))
noncomputable def g85_slices_IndexFunc_l0_fuel (s : (((List E72) × (Int × (Int × (Int × Unit)))) × Unit)) : Nat := Int.toNat (s.1.2.2.1 - s.1.2.2.2.1) + 1
noncomputable def g85_slices_IndexFunc_l0_run (s : (((List E72) × (Int × (Int × (Int × Unit)))) × Unit)) : Option (Nat × (((List E72) × (Int × (Int × (Int × Unit)))) × Unit)) := iter g85_slices_IndexFunc_l0_step (g85_slices_IndexFunc_l0_fuel s) s
noncomputable def g85_slices_IndexFunc_l0_L : LoopT := loopT g85_slices_IndexFunc_l0_S [.ret, .exit 0] g85_slices_IndexFunc_l0_run
noncomputable def g85_slices_IndexFunc (a0 : (List E72)) : Option Int :=
  (Option.bind (g85_slices_IndexFunc_l0_run ((a0, (0, ((List.length a0 : Int), (0, ())))), ())) fun q2 =>
  (natK q2.1
    (some q2.2.1.2.1)
    (fun _ => some (-1))))
noncomputable def g85_slices_IndexFunc_E : CEnt := pureE 85 [.dat (.list T72), .fix (.func (.func 72) .nil .nil)] (.dat (.int .i64)) fun x => g85_slices_IndexFunc x.1
noncomputable def g85_slices_IndexFunc_l0_c : Code := loopAt (bodyOf Tryd.f85) 0
theorem g85_slices_IndexFunc_l0_V : LValid 0 Tryd.prog (.loop g85_slices_IndexFunc_l0_c) g85_slices_IndexFunc_l0_L false := by
  have hb : ∀ s, codeR Tryd.prog g85_slices_IndexFunc_C g85_slices_IndexFunc_l0_c [] (g85_slices_IndexFunc_l0_S.encE s) (g85_slices_IndexFunc_l0_S.encB s) (kst g85_slices_IndexFunc_l0_S [.ret, .exit 0]) = g85_slices_IndexFunc_l0_step s := by
    intro s; kernel_rfl
  have hL : LV 0 Tryd.prog false (loopsOf g85_slices_IndexFunc_l0_c) [] := by unfold LV; cases loopsOf g85_slices_IndexFunc_l0_c <;> trivial
  exact loopT_valid (fuel := g85_slices_IndexFunc_l0_fuel) mixed g85_slices_IndexFunc_CV hL (by kernel_rfl) (by decide) rfl hb (fun s r h => h)
theorem g85_slices_IndexFunc_LV : LV 0 Tryd.prog false (loopsOf (bodyOf Tryd.f85)) [g85_slices_IndexFunc_l0_L] := by
  have hl : loopsOf (bodyOf Tryd.f85) = [.loop g85_slices_IndexFunc_l0_c] := by kernel_rfl
  rw [hl]; exact ⟨g85_slices_IndexFunc_l0_V, trivial⟩
theorem g85_slices_IndexFunc_ent : Ent Tryd.prog 85 := ⟨by decide, enters_of Tryd.func85 (by kernel_rfl) rfl⟩
theorem g85_slices_IndexFunc_hev : ∀ x, fnR Tryd.prog g85_slices_IndexFunc_C [g85_slices_IndexFunc_l0_L] Tryd.f85 (bodyOf Tryd.f85) (encs [.dat (.list T72), .fix (.func (.func 72) .nil .nil)] x) ⟨[], [], 0⟩ (frzF (.dat (.int .i64))) = g85_slices_IndexFunc x.1 := by
  intro x; kernel_rfl
theorem g85_slices_IndexFunc_valid : g85_slices_IndexFunc_E.Valid Tryd.prog :=
  pureE_valid (by kernel_rfl) (by kernel_rfl) g85_slices_IndexFunc_ent (frz_lcall mixed Tryd.func85 rfl g85_slices_IndexFunc_ent g85_slices_IndexFunc_CV g85_slices_IndexFunc_LV (by kernel_rfl) (by kernel_rfl) g85_slices_IndexFunc_hev)

noncomputable def g71_slices_ContainsFunc_C : CalT := tabC [g85_slices_IndexFunc_E]
theorem g71_slices_ContainsFunc_CV : CV Tryd.prog g71_slices_ContainsFunc_C := tabC_valid ⟨g85_slices_IndexFunc_valid, trivial⟩
noncomputable def g71_slices_ContainsFunc (a0 : (List E72)) : Option Bool :=
  (Option.bind (g85_slices_IndexFunc a0) fun r1 =>
  some (decide (r1 ≥ 0)))
noncomputable def g71_slices_ContainsFunc_E : CEnt := pureE 71 [.dat (.list T72), .fix (.func (.func 72) .nil .nil)] (.dat .bool) fun x => g71_slices_ContainsFunc x.1
theorem g71_slices_ContainsFunc_LV : LV 0 Tryd.prog false (loopsOf (bodyOf Tryd.f71)) [] := by unfold LV; cases loopsOf (bodyOf Tryd.f71) <;> trivial
theorem g71_slices_ContainsFunc_ent : Ent Tryd.prog 71 := ⟨by decide, enters_of Tryd.func71 (by kernel_rfl) rfl⟩
theorem g71_slices_ContainsFunc_hev : ∀ x, fnR Tryd.prog g71_slices_ContainsFunc_C [] Tryd.f71 (bodyOf Tryd.f71) (encs [.dat (.list T72), .fix (.func (.func 72) .nil .nil)] x) ⟨[], [], 0⟩ (frzF (.dat .bool)) = g71_slices_ContainsFunc x.1 := by
  intro x; kernel_rfl
theorem g71_slices_ContainsFunc_valid : g71_slices_ContainsFunc_E.Valid Tryd.prog :=
  pureE_valid (by kernel_rfl) (by kernel_rfl) g71_slices_ContainsFunc_ent (frz_lcall mixed Tryd.func71 rfl g71_slices_ContainsFunc_ent g71_slices_ContainsFunc_CV g71_slices_ContainsFunc_LV (by kernel_rfl) (by kernel_rfl) g71_slices_ContainsFunc_hev)

noncomputable def g51_ground_given_C : CalT := tabC [g66_ground_valid_E, g71_slices_ContainsFunc_E]
theorem g51_ground_given_CV : CV Tryd.prog g51_ground_given_C := tabC_valid ⟨g66_ground_valid_valid, g71_slices_ContainsFunc_valid, trivial⟩
noncomputable def g51_ground_given (a0 : E25) (a1 : (List E72)) (a2 : Bool) : Option Int :=
  (bif (decide ((List.length a1 : Int) > 12)) then
  some 3
  else
  (bif (!a2) then
    some 2
    else
    (Option.bind (g66_ground_valid a0) fun r1 =>
      (bif (!r1) then
        some 2
        else
        (Option.bind (g71_slices_ContainsFunc a1) fun r2 =>
          (bif r2 then
            some 2
            else
            some 0))))))
noncomputable def g51_ground_given_E : CEnt := pureE 51 [.dat T25, .dat (.list T72), .dat .bool] (.dat (.int .i64)) fun x => g51_ground_given x.1 x.2.1 x.2.2.1
theorem g51_ground_given_LV : LV 0 Tryd.prog false (loopsOf (bodyOf Tryd.f51)) [] := by unfold LV; cases loopsOf (bodyOf Tryd.f51) <;> trivial
theorem g51_ground_given_ent : Ent Tryd.prog 51 := ⟨by decide, enters_of Tryd.func51 (by kernel_rfl) rfl⟩
theorem g51_ground_given_hev : ∀ x, fnR Tryd.prog g51_ground_given_C [] Tryd.f51 (bodyOf Tryd.f51) (encs [.dat T25, .dat (.list T72), .dat .bool] x) ⟨[], [], 0⟩ (frzF (.dat (.int .i64))) = g51_ground_given x.1 x.2.1 x.2.2.1 := by
  intro x; kernel_rfl
theorem g51_ground_given_valid : g51_ground_given_E.Valid Tryd.prog :=
  pureE_valid (by kernel_rfl) (by kernel_rfl) g51_ground_given_ent (frz_lcall mixed Tryd.func51 rfl g51_ground_given_ent g51_ground_given_CV g51_ground_given_LV (by kernel_rfl) (by kernel_rfl) g51_ground_given_hev)

noncomputable def g78_ground_high_C : CalT := tabC []
theorem g78_ground_high_CV : CV Tryd.prog g78_ground_high_C := tabC_valid trivial
noncomputable def g78_ground_high (a0 : E23) : Option Int :=
  some a0.2.1
noncomputable def g78_ground_high_E : CEnt := pureE 78 [.dat T23] (.dat (.int .i64)) fun x => g78_ground_high x.1
theorem g78_ground_high_LV : LV 0 Tryd.prog false (loopsOf (bodyOf Tryd.f78)) [] := by unfold LV; cases loopsOf (bodyOf Tryd.f78) <;> trivial
theorem g78_ground_high_ent : Ent Tryd.prog 78 := ⟨by decide, enters_of Tryd.func78 (by kernel_rfl) rfl⟩
theorem g78_ground_high_hev : ∀ x, fnR Tryd.prog g78_ground_high_C [] Tryd.f78 (bodyOf Tryd.f78) (encs [.dat T23] x) ⟨[], [], 0⟩ (frzF (.dat (.int .i64))) = g78_ground_high x.1 := by
  intro x; kernel_rfl
theorem g78_ground_high_valid : g78_ground_high_E.Valid Tryd.prog :=
  pureE_valid (by kernel_rfl) (by kernel_rfl) g78_ground_high_ent (frz_lcall mixed Tryd.func78 rfl g78_ground_high_ent g78_ground_high_CV g78_ground_high_LV (by kernel_rfl) (by kernel_rfl) g78_ground_high_hev)

noncomputable def g88_ground_end_1_C : CalT := tabC [g78_ground_high_E]
theorem g88_ground_end_1_CV : CV Tryd.prog g88_ground_end_1_C := tabC_valid ⟨g78_ground_high_valid, trivial⟩
noncomputable def g88_ground_end_1 (a0 : E70) : Option (Int × Unit) :=
  (Option.bind (g78_ground_high a0.2.1) fun r1 =>
  some (r1, ()))
abbrev g88_ground_end_1_CS : CSpec := ⟨[.dat T70, .fix (.bptr 0 [])], [.fix (.func (.func 78) .nil .nil)], 0, [.fix (.func (.func 78) .nil .nil)], 0, .dat (.int .i64)⟩
noncomputable def g88_ground_end_1_E : CEnt := boxE 88 g88_ground_end_1_CS fun x => g88_ground_end_1 x.1.1
theorem g88_ground_end_1_LV : LV 1 Tryd.prog false (loopsOf (bodyOf Tryd.f88)) [] := by unfold LV; cases loopsOf (bodyOf Tryd.f88) <;> trivial
theorem g88_ground_end_1_ent : Ent Tryd.prog 88 := ⟨by decide, enters_of Tryd.func88 (by kernel_rfl) rfl⟩
theorem g88_ground_end_1_hev : ∀ x : g88_ground_end_1_CS.In, fnR Tryd.prog g88_ground_end_1_C [] Tryd.f88 (bodyOf Tryd.f88) (encs g88_ground_end_1_CS.A x.1) ⟨encs g88_ground_end_1_CS.I x.2, [], g88_ground_end_1_CS.nt⟩ (finK g88_ground_end_1_CS) = g88_ground_end_1 x.1.1 := by
  intro x; kernel_rfl
theorem g88_ground_end_1_valid : g88_ground_end_1_E.Valid Tryd.prog :=
  boxE_valid (S := g88_ground_end_1_CS) (by kernel_rfl) (.inr g88_ground_end_1_ent) (fn_lcall (S := g88_ground_end_1_CS) mixed Tryd.func88 rfl g88_ground_end_1_ent g88_ground_end_1_CV g88_ground_end_1_LV (by kernel_rfl) (by kernel_rfl) g88_ground_end_1_hev)

noncomputable def g87_ground_ends_C : CalT := tabC [g88_ground_end_1_E]
theorem g87_ground_ends_CV : CV Tryd.prog g87_ground_ends_C := tabC_valid ⟨g88_ground_end_1_valid, trivial⟩
noncomputable def g87_ground_ends_l0_S : SPat := ⟨[.any, .fix (.func (.func 88) .nil (.cons (.bptr 0 []) .nil)), .any, .any, .any, .own 0 (.int .i64), .any, .any, .dat (.list T70), .dat (.int .i64), .dat (.int .i64), .any, .any, .any, .any, .any, .any, .any, .any, .any, .any, .any], [.fix (.func (.func 78) .nil .nil)], 1⟩
noncomputable def g87_ground_ends_l0_step (s : (((List Int) × ((List E70) × (Int × (Int × Unit)))) × Unit)) : Option (Nat × (((List Int) × ((List E70) × (Int × (Int × Unit)))) × Unit)) :=
  (bif (decide (s.1.2.2.2.1 < s.1.2.2.1)) then
  (bif (decide (0 ≤ s.1.2.2.2.1) && decide (s.1.2.2.2.1 < (List.length s.1.2.1 : Int))) then
    (Option.bind (g88_ground_end_1 (List.getD s.1.2.1 (Int.toNat s.1.2.2.2.1) (0, ((0, (0, ())), ())))) fun r1 =>
      (bif (decide (List.length s.1.1 + List.length [r1.1] ≤ LIM)) then
        some (0, (((s.1.1 ++ [r1.1]), (s.1.2.1, (s.1.2.2.1, ((IntKind.wrap .i64 (s.1.2.2.2.1 + 1)), ())))), ()))
        else
        none))
    else
    none)
  else
  some (1, ((s.1.1, (s.1.2.1, (s.1.2.2.1, (s.1.2.2.2.1, ())))), ())))
noncomputable def g87_ground_ends_l0_fuel (s : (((List Int) × ((List E70) × (Int × (Int × Unit)))) × Unit)) : Nat := Int.toNat (s.1.2.2.1 - s.1.2.2.2.1) + 1
noncomputable def g87_ground_ends_l0_run (s : (((List Int) × ((List E70) × (Int × (Int × Unit)))) × Unit)) : Option (Nat × (((List Int) × ((List E70) × (Int × (Int × Unit)))) × Unit)) := iter g87_ground_ends_l0_step (g87_ground_ends_l0_fuel s) s
noncomputable def g87_ground_ends_l0_L : LoopT := loopT g87_ground_ends_l0_S [.exit 0] g87_ground_ends_l0_run
noncomputable def g87_ground_ends (a0 : (List E70)) : Option ((List Int) × Unit) :=
  (Option.bind (g87_ground_ends_l0_run (([], (a0, ((List.length a0 : Int), (0, ())))), ())) fun q2 =>
  some (q2.2.1.1, ()))
abbrev g87_ground_ends_CS : CSpec := ⟨[.dat (.list T70), .fix (.func (.func 88) .nil (.cons (.bptr 0 []) .nil))], [.fix (.func (.func 78) .nil .nil)], 0, [.fix (.func (.func 78) .nil .nil)], 0, .dat (.list (.int .i64))⟩
noncomputable def g87_ground_ends_E : CEnt := boxE 87 g87_ground_ends_CS fun x => g87_ground_ends x.1.1
noncomputable def g87_ground_ends_l0_c : Code := loopAt (bodyOf Tryd.f87) 0
theorem g87_ground_ends_l0_V : LValid 1 Tryd.prog (.loop g87_ground_ends_l0_c) g87_ground_ends_l0_L false := by
  have hb : ∀ s, codeR Tryd.prog g87_ground_ends_C g87_ground_ends_l0_c [] (g87_ground_ends_l0_S.encE s) (g87_ground_ends_l0_S.encB s) (kst g87_ground_ends_l0_S [.exit 0]) = g87_ground_ends_l0_step s := by
    intro s; kernel_rfl
  have hL : LV 1 Tryd.prog false (loopsOf g87_ground_ends_l0_c) [] := by unfold LV; cases loopsOf g87_ground_ends_l0_c <;> trivial
  exact loopT_valid (fuel := g87_ground_ends_l0_fuel) mixed g87_ground_ends_CV hL (by kernel_rfl) (by decide) rfl hb (fun s r h => h)
theorem g87_ground_ends_LV : LV 1 Tryd.prog false (loopsOf (bodyOf Tryd.f87)) [g87_ground_ends_l0_L] := by
  have hl : loopsOf (bodyOf Tryd.f87) = [.loop g87_ground_ends_l0_c] := by kernel_rfl
  rw [hl]; exact ⟨g87_ground_ends_l0_V, trivial⟩
theorem g87_ground_ends_ent : Ent Tryd.prog 87 := ⟨by decide, enters_of Tryd.func87 (by kernel_rfl) rfl⟩
theorem g87_ground_ends_hev : ∀ x : g87_ground_ends_CS.In, fnR Tryd.prog g87_ground_ends_C [g87_ground_ends_l0_L] Tryd.f87 (bodyOf Tryd.f87) (encs g87_ground_ends_CS.A x.1) ⟨encs g87_ground_ends_CS.I x.2, [], g87_ground_ends_CS.nt⟩ (finK g87_ground_ends_CS) = g87_ground_ends x.1.1 := by
  intro x; kernel_rfl
theorem g87_ground_ends_valid : g87_ground_ends_E.Valid Tryd.prog :=
  boxE_valid (S := g87_ground_ends_CS) (by kernel_rfl) (.inr g87_ground_ends_ent) (fn_lcall (S := g87_ground_ends_CS) mixed Tryd.func87 rfl g87_ground_ends_ent g87_ground_ends_CV g87_ground_ends_LV (by kernel_rfl) (by kernel_rfl) g87_ground_ends_hev)

noncomputable def g77_ground_low_C : CalT := tabC []
theorem g77_ground_low_CV : CV Tryd.prog g77_ground_low_C := tabC_valid trivial
noncomputable def g77_ground_low (a0 : E23) : Option Int :=
  some a0.1
noncomputable def g77_ground_low_E : CEnt := pureE 77 [.dat T23] (.dat (.int .i64)) fun x => g77_ground_low x.1
theorem g77_ground_low_LV : LV 0 Tryd.prog false (loopsOf (bodyOf Tryd.f77)) [] := by unfold LV; cases loopsOf (bodyOf Tryd.f77) <;> trivial
theorem g77_ground_low_ent : Ent Tryd.prog 77 := ⟨by decide, enters_of Tryd.func77 (by kernel_rfl) rfl⟩
theorem g77_ground_low_hev : ∀ x, fnR Tryd.prog g77_ground_low_C [] Tryd.f77 (bodyOf Tryd.f77) (encs [.dat T23] x) ⟨[], [], 0⟩ (frzF (.dat (.int .i64))) = g77_ground_low x.1 := by
  intro x; kernel_rfl
theorem g77_ground_low_valid : g77_ground_low_E.Valid Tryd.prog :=
  pureE_valid (by kernel_rfl) (by kernel_rfl) g77_ground_low_ent (frz_lcall mixed Tryd.func77 rfl g77_ground_low_ent g77_ground_low_CV g77_ground_low_LV (by kernel_rfl) (by kernel_rfl) g77_ground_low_hev)

noncomputable def g90_ground_end_2_C : CalT := tabC [g77_ground_low_E]
theorem g90_ground_end_2_CV : CV Tryd.prog g90_ground_end_2_C := tabC_valid ⟨g77_ground_low_valid, trivial⟩
noncomputable def g90_ground_end_2 (a0 : E72) (b1 : E25) : Option (Int × (E25 × Unit)) :=
  (Option.bind (g77_ground_low b1.2.1) fun r1 =>
  some (r1, (b1, ())))
abbrev g90_ground_end_2_CS : CSpec := ⟨[.dat T72, .fix (.bptr 0 []), .fix (.bptr 1 [])], [.fix (.func (.func 77) .nil .nil), .dat T25], 0, [.fix (.func (.func 77) .nil .nil), .dat T25], 0, .dat (.int .i64)⟩
noncomputable def g90_ground_end_2_E : CEnt := boxE 90 g90_ground_end_2_CS fun x => g90_ground_end_2 x.1.1 x.2.1
theorem g90_ground_end_2_LV : LV 2 Tryd.prog false (loopsOf (bodyOf Tryd.f90)) [] := by unfold LV; cases loopsOf (bodyOf Tryd.f90) <;> trivial
theorem g90_ground_end_2_ent : Ent Tryd.prog 90 := ⟨by decide, enters_of Tryd.func90 (by kernel_rfl) rfl⟩
theorem g90_ground_end_2_hev : ∀ x : g90_ground_end_2_CS.In, fnR Tryd.prog g90_ground_end_2_C [] Tryd.f90 (bodyOf Tryd.f90) (encs g90_ground_end_2_CS.A x.1) ⟨encs g90_ground_end_2_CS.I x.2, [], g90_ground_end_2_CS.nt⟩ (finK g90_ground_end_2_CS) = g90_ground_end_2 x.1.1 x.2.1 := by
  intro x; kernel_rfl
theorem g90_ground_end_2_valid : g90_ground_end_2_E.Valid Tryd.prog :=
  boxE_valid (S := g90_ground_end_2_CS) (by kernel_rfl) (.inr g90_ground_end_2_ent) (fn_lcall (S := g90_ground_end_2_CS) mixed Tryd.func90 rfl g90_ground_end_2_ent g90_ground_end_2_CV g90_ground_end_2_LV (by kernel_rfl) (by kernel_rfl) g90_ground_end_2_hev)

noncomputable def g89_ground_ends_C : CalT := tabC [g90_ground_end_2_E]
theorem g89_ground_ends_CV : CV Tryd.prog g89_ground_ends_C := tabC_valid ⟨g90_ground_end_2_valid, trivial⟩
noncomputable def g89_ground_ends_l0_S : SPat := ⟨[.any, .fix (.func (.func 90) .nil (.cons (.bptr 0 []) (.cons (.bptr 1 []) .nil))), .any, .any, .any, .own 0 (.int .i64), .any, .any, .dat (.list T72), .dat (.int .i64), .dat (.int .i64), .any, .any, .any, .any, .any, .any, .any, .any, .any, .any, .any], [.fix (.func (.func 77) .nil .nil), .dat T25], 1⟩
noncomputable def g89_ground_ends_l0_step (s : (((List Int) × ((List E72) × (Int × (Int × Unit)))) × (E25 × Unit))) : Option (Nat × (((List Int) × ((List E72) × (Int × (Int × Unit)))) × (E25 × Unit))) :=
  (bif (decide (s.1.2.2.2.1 < s.1.2.2.1)) then
  (bif (decide (0 ≤ s.1.2.2.2.1) && decide (s.1.2.2.2.1 < (List.length s.1.2.1 : Int))) then
    (Option.bind (g90_ground_end_2 (List.getD s.1.2.1 (Int.toNat s.1.2.2.2.1) ((0, (0, ())), ((0, (0, ())), ((0, (0, ())), ())))) s.2.1) fun r1 =>
      (bif (decide (List.length s.1.1 + List.length [r1.1] ≤ LIM)) then
        some (0, (((s.1.1 ++ [r1.1]), (s.1.2.1, (s.1.2.2.1, ((IntKind.wrap .i64 (s.1.2.2.2.1 + 1)), ())))), (r1.2.1, ())))
        else
        none))
    else
    none)
  else
  some (1, ((s.1.1, (s.1.2.1, (s.1.2.2.1, (s.1.2.2.2.1, ())))), (s.2.1, ()))))
noncomputable def g89_ground_ends_l0_fuel (s : (((List Int) × ((List E72) × (Int × (Int × Unit)))) × (E25 × Unit))) : Nat := Int.toNat (s.1.2.2.1 - s.1.2.2.2.1) + 1
noncomputable def g89_ground_ends_l0_run (s : (((List Int) × ((List E72) × (Int × (Int × Unit)))) × (E25 × Unit))) : Option (Nat × (((List Int) × ((List E72) × (Int × (Int × Unit)))) × (E25 × Unit))) := iter g89_ground_ends_l0_step (g89_ground_ends_l0_fuel s) s
noncomputable def g89_ground_ends_l0_L : LoopT := loopT g89_ground_ends_l0_S [.exit 0] g89_ground_ends_l0_run
noncomputable def g89_ground_ends (a0 : (List E72)) (b1 : E25) : Option ((List Int) × (E25 × Unit)) :=
  (Option.bind (g89_ground_ends_l0_run (([], (a0, ((List.length a0 : Int), (0, ())))), (b1, ()))) fun q2 =>
  some (q2.2.1.1, (q2.2.2.1, ())))
abbrev g89_ground_ends_CS : CSpec := ⟨[.dat (.list T72), .fix (.func (.func 90) .nil (.cons (.bptr 0 []) (.cons (.bptr 1 []) .nil)))], [.fix (.func (.func 77) .nil .nil), .dat T25], 0, [.fix (.func (.func 77) .nil .nil), .dat T25], 0, .dat (.list (.int .i64))⟩
noncomputable def g89_ground_ends_E : CEnt := boxE 89 g89_ground_ends_CS fun x => g89_ground_ends x.1.1 x.2.1
noncomputable def g89_ground_ends_l0_c : Code := loopAt (bodyOf Tryd.f89) 0
theorem g89_ground_ends_l0_V : LValid 2 Tryd.prog (.loop g89_ground_ends_l0_c) g89_ground_ends_l0_L false := by
  have hb : ∀ s, codeR Tryd.prog g89_ground_ends_C g89_ground_ends_l0_c [] (g89_ground_ends_l0_S.encE s) (g89_ground_ends_l0_S.encB s) (kst g89_ground_ends_l0_S [.exit 0]) = g89_ground_ends_l0_step s := by
    intro s; kernel_rfl
  have hL : LV 2 Tryd.prog false (loopsOf g89_ground_ends_l0_c) [] := by unfold LV; cases loopsOf g89_ground_ends_l0_c <;> trivial
  exact loopT_valid (fuel := g89_ground_ends_l0_fuel) mixed g89_ground_ends_CV hL (by kernel_rfl) (by decide) rfl hb (fun s r h => h)
theorem g89_ground_ends_LV : LV 2 Tryd.prog false (loopsOf (bodyOf Tryd.f89)) [g89_ground_ends_l0_L] := by
  have hl : loopsOf (bodyOf Tryd.f89) = [.loop g89_ground_ends_l0_c] := by kernel_rfl
  rw [hl]; exact ⟨g89_ground_ends_l0_V, trivial⟩
theorem g89_ground_ends_ent : Ent Tryd.prog 89 := ⟨by decide, enters_of Tryd.func89 (by kernel_rfl) rfl⟩
theorem g89_ground_ends_hev : ∀ x : g89_ground_ends_CS.In, fnR Tryd.prog g89_ground_ends_C [g89_ground_ends_l0_L] Tryd.f89 (bodyOf Tryd.f89) (encs g89_ground_ends_CS.A x.1) ⟨encs g89_ground_ends_CS.I x.2, [], g89_ground_ends_CS.nt⟩ (finK g89_ground_ends_CS) = g89_ground_ends x.1.1 x.2.1 := by
  intro x; kernel_rfl
theorem g89_ground_ends_valid : g89_ground_ends_E.Valid Tryd.prog :=
  boxE_valid (S := g89_ground_ends_CS) (by kernel_rfl) (.inr g89_ground_ends_ent) (fn_lcall (S := g89_ground_ends_CS) mixed Tryd.func89 rfl g89_ground_ends_ent g89_ground_ends_CV g89_ground_ends_LV (by kernel_rfl) (by kernel_rfl) g89_ground_ends_hev)

noncomputable def g91_ground_end_3_C : CalT := tabC [g77_ground_low_E]
theorem g91_ground_end_3_CV : CV Tryd.prog g91_ground_end_3_C := tabC_valid ⟨g77_ground_low_valid, trivial⟩
noncomputable def g91_ground_end_3 (a0 : E72) : Option (Int × Unit) :=
  (Option.bind (g77_ground_low a0.1) fun r1 =>
  some (r1, ()))
abbrev g91_ground_end_3_CS : CSpec := ⟨[.dat T72, .fix (.bptr 0 [])], [.fix (.func (.func 77) .nil .nil)], 0, [.fix (.func (.func 77) .nil .nil)], 0, .dat (.int .i64)⟩
noncomputable def g91_ground_end_3_E : CEnt := boxE 91 g91_ground_end_3_CS fun x => g91_ground_end_3 x.1.1
theorem g91_ground_end_3_LV : LV 1 Tryd.prog false (loopsOf (bodyOf Tryd.f91)) [] := by unfold LV; cases loopsOf (bodyOf Tryd.f91) <;> trivial
theorem g91_ground_end_3_ent : Ent Tryd.prog 91 := ⟨by decide, enters_of Tryd.func91 (by kernel_rfl) rfl⟩
theorem g91_ground_end_3_hev : ∀ x : g91_ground_end_3_CS.In, fnR Tryd.prog g91_ground_end_3_C [] Tryd.f91 (bodyOf Tryd.f91) (encs g91_ground_end_3_CS.A x.1) ⟨encs g91_ground_end_3_CS.I x.2, [], g91_ground_end_3_CS.nt⟩ (finK g91_ground_end_3_CS) = g91_ground_end_3 x.1.1 := by
  intro x; kernel_rfl
theorem g91_ground_end_3_valid : g91_ground_end_3_E.Valid Tryd.prog :=
  boxE_valid (S := g91_ground_end_3_CS) (by kernel_rfl) (.inr g91_ground_end_3_ent) (fn_lcall (S := g91_ground_end_3_CS) mixed Tryd.func91 rfl g91_ground_end_3_ent g91_ground_end_3_CV g91_ground_end_3_LV (by kernel_rfl) (by kernel_rfl) g91_ground_end_3_hev)

noncomputable def g89_ground_ends_v1_C : CalT := tabC [g91_ground_end_3_E]
theorem g89_ground_ends_v1_CV : CV Tryd.prog g89_ground_ends_v1_C := tabC_valid ⟨g91_ground_end_3_valid, trivial⟩
noncomputable def g89_ground_ends_v1_l0_S : SPat := ⟨[.any, .fix (.func (.func 91) .nil (.cons (.bptr 0 []) .nil)), .any, .any, .any, .own 0 (.int .i64), .any, .any, .dat (.list T72), .dat (.int .i64), .dat (.int .i64), .any, .any, .any, .any, .any, .any, .any, .any, .any, .any, .any], [.fix (.func (.func 77) .nil .nil)], 1⟩
noncomputable def g89_ground_ends_v1_l0_step (s : (((List Int) × ((List E72) × (Int × (Int × Unit)))) × Unit)) : Option (Nat × (((List Int) × ((List E72) × (Int × (Int × Unit)))) × Unit)) :=
  (bif (decide (s.1.2.2.2.1 < s.1.2.2.1)) then
  (bif (decide (0 ≤ s.1.2.2.2.1) && decide (s.1.2.2.2.1 < (List.length s.1.2.1 : Int))) then
    (Option.bind (g91_ground_end_3 (List.getD s.1.2.1 (Int.toNat s.1.2.2.2.1) ((0, (0, ())), ((0, (0, ())), ((0, (0, ())), ()))))) fun r1 =>
      (bif (decide (List.length s.1.1 + List.length [r1.1] ≤ LIM)) then
        some (0, (((s.1.1 ++ [r1.1]), (s.1.2.1, (s.1.2.2.1, ((IntKind.wrap .i64 (s.1.2.2.2.1 + 1)), ())))), ()))
        else
        none))
    else
    none)
  else
  some (1, ((s.1.1, (s.1.2.1, (s.1.2.2.1, (s.1.2.2.2.1, ())))), ())))
noncomputable def g89_ground_ends_v1_l0_fuel (s : (((List Int) × ((List E72) × (Int × (Int × Unit)))) × Unit)) : Nat := Int.toNat (s.1.2.2.1 - s.1.2.2.2.1) + 1
noncomputable def g89_ground_ends_v1_l0_run (s : (((List Int) × ((List E72) × (Int × (Int × Unit)))) × Unit)) : Option (Nat × (((List Int) × ((List E72) × (Int × (Int × Unit)))) × Unit)) := iter g89_ground_ends_v1_l0_step (g89_ground_ends_v1_l0_fuel s) s
noncomputable def g89_ground_ends_v1_l0_L : LoopT := loopT g89_ground_ends_v1_l0_S [.exit 0] g89_ground_ends_v1_l0_run
noncomputable def g89_ground_ends_v1 (a0 : (List E72)) : Option ((List Int) × Unit) :=
  (Option.bind (g89_ground_ends_v1_l0_run (([], (a0, ((List.length a0 : Int), (0, ())))), ())) fun q2 =>
  some (q2.2.1.1, ()))
abbrev g89_ground_ends_v1_CS : CSpec := ⟨[.dat (.list T72), .fix (.func (.func 91) .nil (.cons (.bptr 0 []) .nil))], [.fix (.func (.func 77) .nil .nil)], 0, [.fix (.func (.func 77) .nil .nil)], 0, .dat (.list (.int .i64))⟩
noncomputable def g89_ground_ends_v1_E : CEnt := boxE 89 g89_ground_ends_v1_CS fun x => g89_ground_ends_v1 x.1.1
noncomputable def g89_ground_ends_v1_l0_c : Code := loopAt (bodyOf Tryd.f89) 0
theorem g89_ground_ends_v1_l0_V : LValid 1 Tryd.prog (.loop g89_ground_ends_v1_l0_c) g89_ground_ends_v1_l0_L false := by
  have hb : ∀ s, codeR Tryd.prog g89_ground_ends_v1_C g89_ground_ends_v1_l0_c [] (g89_ground_ends_v1_l0_S.encE s) (g89_ground_ends_v1_l0_S.encB s) (kst g89_ground_ends_v1_l0_S [.exit 0]) = g89_ground_ends_v1_l0_step s := by
    intro s; kernel_rfl
  have hL : LV 1 Tryd.prog false (loopsOf g89_ground_ends_v1_l0_c) [] := by unfold LV; cases loopsOf g89_ground_ends_v1_l0_c <;> trivial
  exact loopT_valid (fuel := g89_ground_ends_v1_l0_fuel) mixed g89_ground_ends_v1_CV hL (by kernel_rfl) (by decide) rfl hb (fun s r h => h)
theorem g89_ground_ends_v1_LV : LV 1 Tryd.prog false (loopsOf (bodyOf Tryd.f89)) [g89_ground_ends_v1_l0_L] := by
  have hl : loopsOf (bodyOf Tryd.f89) = [.loop g89_ground_ends_v1_l0_c] := by kernel_rfl
  rw [hl]; exact ⟨g89_ground_ends_v1_l0_V, trivial⟩
theorem g89_ground_ends_v1_ent : Ent Tryd.prog 89 := ⟨by decide, enters_of Tryd.func89 (by kernel_rfl) rfl⟩
theorem g89_ground_ends_v1_hev : ∀ x : g89_ground_ends_v1_CS.In, fnR Tryd.prog g89_ground_ends_v1_C [g89_ground_ends_v1_l0_L] Tryd.f89 (bodyOf Tryd.f89) (encs g89_ground_ends_v1_CS.A x.1) ⟨encs g89_ground_ends_v1_CS.I x.2, [], g89_ground_ends_v1_CS.nt⟩ (finK g89_ground_ends_v1_CS) = g89_ground_ends_v1 x.1.1 := by
  intro x; kernel_rfl
theorem g89_ground_ends_v1_valid : g89_ground_ends_v1_E.Valid Tryd.prog :=
  boxE_valid (S := g89_ground_ends_v1_CS) (by kernel_rfl) (.inr g89_ground_ends_v1_ent) (fn_lcall (S := g89_ground_ends_v1_CS) mixed Tryd.func89 rfl g89_ground_ends_v1_ent g89_ground_ends_v1_CV g89_ground_ends_v1_LV (by kernel_rfl) (by kernel_rfl) g89_ground_ends_v1_hev)

noncomputable def g92_ground_end_4_C : CalT := tabC [g78_ground_high_E]
theorem g92_ground_end_4_CV : CV Tryd.prog g92_ground_end_4_C := tabC_valid ⟨g78_ground_high_valid, trivial⟩
noncomputable def g92_ground_end_4 (a0 : E72) : Option (Int × Unit) :=
  (Option.bind (g78_ground_high a0.2.1) fun r1 =>
  some (r1, ()))
abbrev g92_ground_end_4_CS : CSpec := ⟨[.dat T72, .fix (.bptr 0 [])], [.fix (.func (.func 78) .nil .nil)], 0, [.fix (.func (.func 78) .nil .nil)], 0, .dat (.int .i64)⟩
noncomputable def g92_ground_end_4_E : CEnt := boxE 92 g92_ground_end_4_CS fun x => g92_ground_end_4 x.1.1
theorem g92_ground_end_4_LV : LV 1 Tryd.prog false (loopsOf (bodyOf Tryd.f92)) [] := by unfold LV; cases loopsOf (bodyOf Tryd.f92) <;> trivial
theorem g92_ground_end_4_ent : Ent Tryd.prog 92 := ⟨by decide, enters_of Tryd.func92 (by kernel_rfl) rfl⟩
theorem g92_ground_end_4_hev : ∀ x : g92_ground_end_4_CS.In, fnR Tryd.prog g92_ground_end_4_C [] Tryd.f92 (bodyOf Tryd.f92) (encs g92_ground_end_4_CS.A x.1) ⟨encs g92_ground_end_4_CS.I x.2, [], g92_ground_end_4_CS.nt⟩ (finK g92_ground_end_4_CS) = g92_ground_end_4 x.1.1 := by
  intro x; kernel_rfl
theorem g92_ground_end_4_valid : g92_ground_end_4_E.Valid Tryd.prog :=
  boxE_valid (S := g92_ground_end_4_CS) (by kernel_rfl) (.inr g92_ground_end_4_ent) (fn_lcall (S := g92_ground_end_4_CS) mixed Tryd.func92 rfl g92_ground_end_4_ent g92_ground_end_4_CV g92_ground_end_4_LV (by kernel_rfl) (by kernel_rfl) g92_ground_end_4_hev)

noncomputable def g89_ground_ends_v2_C : CalT := tabC [g92_ground_end_4_E]
theorem g89_ground_ends_v2_CV : CV Tryd.prog g89_ground_ends_v2_C := tabC_valid ⟨g92_ground_end_4_valid, trivial⟩
noncomputable def g89_ground_ends_v2_l0_S : SPat := ⟨[.any, .fix (.func (.func 92) .nil (.cons (.bptr 0 []) .nil)), .any, .any, .any, .own 0 (.int .i64), .any, .any, .dat (.list T72), .dat (.int .i64), .dat (.int .i64), .any, .any, .any, .any, .any, .any, .any, .any, .any, .any, .any], [.fix (.func (.func 78) .nil .nil)], 1⟩
noncomputable def g89_ground_ends_v2_l0_step (s : (((List Int) × ((List E72) × (Int × (Int × Unit)))) × Unit)) : Option (Nat × (((List Int) × ((List E72) × (Int × (Int × Unit)))) × Unit)) :=
  (bif (decide (s.1.2.2.2.1 < s.1.2.2.1)) then
  (bif (decide (0 ≤ s.1.2.2.2.1) && decide (s.1.2.2.2.1 < (List.length s.1.2.1 : Int))) then
    (Option.bind (g92_ground_end_4 (List.getD s.1.2.1 (Int.toNat s.1.2.2.2.1) ((0, (0, ())), ((0, (0, ())), ((0, (0, ())), ()))))) fun r1 =>
      (bif (decide (List.length s.1.1 + List.length [r1.1] ≤ LIM)) then
        some (0, (((s.1.1 ++ [r1.1]), (s.1.2.1, (s.1.2.2.1, ((IntKind.wrap .i64 (s.1.2.2.2.1 + 1)), ())))), ()))
        else
        none))
    else
    none)
  else
  some (1, ((s.1.1, (s.1.2.1, (s.1.2.2.1, (s.1.2.2.2.1, ())))), ())))
noncomputable def g89_ground_ends_v2_l0_fuel (s : (((List Int) × ((List E72) × (Int × (Int × Unit)))) × Unit)) : Nat := Int.toNat (s.1.2.2.1 - s.1.2.2.2.1) + 1
noncomputable def g89_ground_ends_v2_l0_run (s : (((List Int) × ((List E72) × (Int × (Int × Unit)))) × Unit)) : Option (Nat × (((List Int) × ((List E72) × (Int × (Int × Unit)))) × Unit)) := iter g89_ground_ends_v2_l0_step (g89_ground_ends_v2_l0_fuel s) s
noncomputable def g89_ground_ends_v2_l0_L : LoopT := loopT g89_ground_ends_v2_l0_S [.exit 0] g89_ground_ends_v2_l0_run
noncomputable def g89_ground_ends_v2 (a0 : (List E72)) : Option ((List Int) × Unit) :=
  (Option.bind (g89_ground_ends_v2_l0_run (([], (a0, ((List.length a0 : Int), (0, ())))), ())) fun q2 =>
  some (q2.2.1.1, ()))
abbrev g89_ground_ends_v2_CS : CSpec := ⟨[.dat (.list T72), .fix (.func (.func 92) .nil (.cons (.bptr 0 []) .nil))], [.fix (.func (.func 78) .nil .nil)], 0, [.fix (.func (.func 78) .nil .nil)], 0, .dat (.list (.int .i64))⟩
noncomputable def g89_ground_ends_v2_E : CEnt := boxE 89 g89_ground_ends_v2_CS fun x => g89_ground_ends_v2 x.1.1
noncomputable def g89_ground_ends_v2_l0_c : Code := loopAt (bodyOf Tryd.f89) 0
theorem g89_ground_ends_v2_l0_V : LValid 1 Tryd.prog (.loop g89_ground_ends_v2_l0_c) g89_ground_ends_v2_l0_L false := by
  have hb : ∀ s, codeR Tryd.prog g89_ground_ends_v2_C g89_ground_ends_v2_l0_c [] (g89_ground_ends_v2_l0_S.encE s) (g89_ground_ends_v2_l0_S.encB s) (kst g89_ground_ends_v2_l0_S [.exit 0]) = g89_ground_ends_v2_l0_step s := by
    intro s; kernel_rfl
  have hL : LV 1 Tryd.prog false (loopsOf g89_ground_ends_v2_l0_c) [] := by unfold LV; cases loopsOf g89_ground_ends_v2_l0_c <;> trivial
  exact loopT_valid (fuel := g89_ground_ends_v2_l0_fuel) mixed g89_ground_ends_v2_CV hL (by kernel_rfl) (by decide) rfl hb (fun s r h => h)
theorem g89_ground_ends_v2_LV : LV 1 Tryd.prog false (loopsOf (bodyOf Tryd.f89)) [g89_ground_ends_v2_l0_L] := by
  have hl : loopsOf (bodyOf Tryd.f89) = [.loop g89_ground_ends_v2_l0_c] := by kernel_rfl
  rw [hl]; exact ⟨g89_ground_ends_v2_l0_V, trivial⟩
theorem g89_ground_ends_v2_ent : Ent Tryd.prog 89 := ⟨by decide, enters_of Tryd.func89 (by kernel_rfl) rfl⟩
theorem g89_ground_ends_v2_hev : ∀ x : g89_ground_ends_v2_CS.In, fnR Tryd.prog g89_ground_ends_v2_C [g89_ground_ends_v2_l0_L] Tryd.f89 (bodyOf Tryd.f89) (encs g89_ground_ends_v2_CS.A x.1) ⟨encs g89_ground_ends_v2_CS.I x.2, [], g89_ground_ends_v2_CS.nt⟩ (finK g89_ground_ends_v2_CS) = g89_ground_ends_v2 x.1.1 := by
  intro x; kernel_rfl
theorem g89_ground_ends_v2_valid : g89_ground_ends_v2_E.Valid Tryd.prog :=
  boxE_valid (S := g89_ground_ends_v2_CS) (by kernel_rfl) (.inr g89_ground_ends_v2_ent) (fn_lcall (S := g89_ground_ends_v2_CS) mixed Tryd.func89 rfl g89_ground_ends_v2_ent g89_ground_ends_v2_CV g89_ground_ends_v2_LV (by kernel_rfl) (by kernel_rfl) g89_ground_ends_v2_hev)

noncomputable def g93_ground_end_5_C : CalT := tabC [g77_ground_low_E]
theorem g93_ground_end_5_CV : CV Tryd.prog g93_ground_end_5_C := tabC_valid ⟨g77_ground_low_valid, trivial⟩
noncomputable def g93_ground_end_5 (a0 : E72) : Option (Int × Unit) :=
  (Option.bind (g77_ground_low a0.2.2.1) fun r1 =>
  some (r1, ()))
abbrev g93_ground_end_5_CS : CSpec := ⟨[.dat T72, .fix (.bptr 0 [])], [.fix (.func (.func 77) .nil .nil)], 0, [.fix (.func (.func 77) .nil .nil)], 0, .dat (.int .i64)⟩
noncomputable def g93_ground_end_5_E : CEnt := boxE 93 g93_ground_end_5_CS fun x => g93_ground_end_5 x.1.1
theorem g93_ground_end_5_LV : LV 1 Tryd.prog false (loopsOf (bodyOf Tryd.f93)) [] := by unfold LV; cases loopsOf (bodyOf Tryd.f93) <;> trivial
theorem g93_ground_end_5_ent : Ent Tryd.prog 93 := ⟨by decide, enters_of Tryd.func93 (by kernel_rfl) rfl⟩
theorem g93_ground_end_5_hev : ∀ x : g93_ground_end_5_CS.In, fnR Tryd.prog g93_ground_end_5_C [] Tryd.f93 (bodyOf Tryd.f93) (encs g93_ground_end_5_CS.A x.1) ⟨encs g93_ground_end_5_CS.I x.2, [], g93_ground_end_5_CS.nt⟩ (finK g93_ground_end_5_CS) = g93_ground_end_5 x.1.1 := by
  intro x; kernel_rfl
theorem g93_ground_end_5_valid : g93_ground_end_5_E.Valid Tryd.prog :=
  boxE_valid (S := g93_ground_end_5_CS) (by kernel_rfl) (.inr g93_ground_end_5_ent) (fn_lcall (S := g93_ground_end_5_CS) mixed Tryd.func93 rfl g93_ground_end_5_ent g93_ground_end_5_CV g93_ground_end_5_LV (by kernel_rfl) (by kernel_rfl) g93_ground_end_5_hev)

noncomputable def g89_ground_ends_v3_C : CalT := tabC [g93_ground_end_5_E]
theorem g89_ground_ends_v3_CV : CV Tryd.prog g89_ground_ends_v3_C := tabC_valid ⟨g93_ground_end_5_valid, trivial⟩
noncomputable def g89_ground_ends_v3_l0_S : SPat := ⟨[.any, .fix (.func (.func 93) .nil (.cons (.bptr 0 []) .nil)), .any, .any, .any, .own 0 (.int .i64), .any, .any, .dat (.list T72), .dat (.int .i64), .dat (.int .i64), .any, .any, .any, .any, .any, .any, .any, .any, .any, .any, .any], [.fix (.func (.func 77) .nil .nil)], 1⟩
noncomputable def g89_ground_ends_v3_l0_step (s : (((List Int) × ((List E72) × (Int × (Int × Unit)))) × Unit)) : Option (Nat × (((List Int) × ((List E72) × (Int × (Int × Unit)))) × Unit)) :=
  (bif (decide (s.1.2.2.2.1 < s.1.2.2.1)) then
  (bif (decide (0 ≤ s.1.2.2.2.1) && decide (s.1.2.2.2.1 < (List.length s.1.2.1 : Int))) then
    (Option.bind (g93_ground_end_5 (List.getD s.1.2.1 (Int.toNat s.1.2.2.2.1) ((0, (0, ())), ((0, (0, ())), ((0, (0, ())), ()))))) fun r1 =>
      (bif (decide (List.length s.1.1 + List.length [r1.1] ≤ LIM)) then
        some (0, (((s.1.1 ++ [r1.1]), (s.1.2.1, (s.1.2.2.1, ((IntKind.wrap .i64 (s.1.2.2.2.1 + 1)), ())))), ()))
        else
        none))
    else
    none)
  else
  some (1, ((s.1.1, (s.1.2.1, (s.1.2.2.1, (s.1.2.2.2.1, ())))), ())))
noncomputable def g89_ground_ends_v3_l0_fuel (s : (((List Int) × ((List E72) × (Int × (Int × Unit)))) × Unit)) : Nat := Int.toNat (s.1.2.2.1 - s.1.2.2.2.1) + 1
noncomputable def g89_ground_ends_v3_l0_run (s : (((List Int) × ((List E72) × (Int × (Int × Unit)))) × Unit)) : Option (Nat × (((List Int) × ((List E72) × (Int × (Int × Unit)))) × Unit)) := iter g89_ground_ends_v3_l0_step (g89_ground_ends_v3_l0_fuel s) s
noncomputable def g89_ground_ends_v3_l0_L : LoopT := loopT g89_ground_ends_v3_l0_S [.exit 0] g89_ground_ends_v3_l0_run
noncomputable def g89_ground_ends_v3 (a0 : (List E72)) : Option ((List Int) × Unit) :=
  (Option.bind (g89_ground_ends_v3_l0_run (([], (a0, ((List.length a0 : Int), (0, ())))), ())) fun q2 =>
  some (q2.2.1.1, ()))
abbrev g89_ground_ends_v3_CS : CSpec := ⟨[.dat (.list T72), .fix (.func (.func 93) .nil (.cons (.bptr 0 []) .nil))], [.fix (.func (.func 77) .nil .nil)], 0, [.fix (.func (.func 77) .nil .nil)], 0, .dat (.list (.int .i64))⟩
noncomputable def g89_ground_ends_v3_E : CEnt := boxE 89 g89_ground_ends_v3_CS fun x => g89_ground_ends_v3 x.1.1
noncomputable def g89_ground_ends_v3_l0_c : Code := loopAt (bodyOf Tryd.f89) 0
theorem g89_ground_ends_v3_l0_V : LValid 1 Tryd.prog (.loop g89_ground_ends_v3_l0_c) g89_ground_ends_v3_l0_L false := by
  have hb : ∀ s, codeR Tryd.prog g89_ground_ends_v3_C g89_ground_ends_v3_l0_c [] (g89_ground_ends_v3_l0_S.encE s) (g89_ground_ends_v3_l0_S.encB s) (kst g89_ground_ends_v3_l0_S [.exit 0]) = g89_ground_ends_v3_l0_step s := by
    intro s; kernel_rfl
  have hL : LV 1 Tryd.prog false (loopsOf g89_ground_ends_v3_l0_c) [] := by unfold LV; cases loopsOf g89_ground_ends_v3_l0_c <;> trivial
  exact loopT_valid (fuel := g89_ground_ends_v3_l0_fuel) mixed g89_ground_ends_v3_CV hL (by kernel_rfl) (by decide) rfl hb (fun s r h => h)
theorem g89_ground_ends_v3_LV : LV 1 Tryd.prog false (loopsOf (bodyOf Tryd.f89)) [g89_ground_ends_v3_l0_L] := by
  have hl : loopsOf (bodyOf Tryd.f89) = [.loop g89_ground_ends_v3_l0_c] := by kernel_rfl
  rw [hl]; exact ⟨g89_ground_ends_v3_l0_V, trivial⟩
theorem g89_ground_ends_v3_ent : Ent Tryd.prog 89 := ⟨by decide, enters_of Tryd.func89 (by kernel_rfl) rfl⟩
theorem g89_ground_ends_v3_hev : ∀ x : g89_ground_ends_v3_CS.In, fnR Tryd.prog g89_ground_ends_v3_C [g89_ground_ends_v3_l0_L] Tryd.f89 (bodyOf Tryd.f89) (encs g89_ground_ends_v3_CS.A x.1) ⟨encs g89_ground_ends_v3_CS.I x.2, [], g89_ground_ends_v3_CS.nt⟩ (finK g89_ground_ends_v3_CS) = g89_ground_ends_v3 x.1.1 := by
  intro x; kernel_rfl
theorem g89_ground_ends_v3_valid : g89_ground_ends_v3_E.Valid Tryd.prog :=
  boxE_valid (S := g89_ground_ends_v3_CS) (by kernel_rfl) (.inr g89_ground_ends_v3_ent) (fn_lcall (S := g89_ground_ends_v3_CS) mixed Tryd.func89 rfl g89_ground_ends_v3_ent g89_ground_ends_v3_CV g89_ground_ends_v3_LV (by kernel_rfl) (by kernel_rfl) g89_ground_ends_v3_hev)

noncomputable def g86_r0_C : CalT := tabC []
theorem g86_r0_CV : CV Tryd.prog g86_r0_C := tabC_valid trivial
noncomputable def g86_r0 (a0 : Int) (a1 : Int) (b2 : (Nat × (Unit × (Unit × (Unit × (Unit × (Unit × (Unit × (Unit × (Unit × (Unit × (Unit × (Unit × (Unit × (Unit × (Unit × (Unit × (Unit × (Unit × (Unit × (Unit × (Unit × (Unit × (Unit × (Unit × (Unit × (Unit × (Unit × (Unit × (Unit × (Unit × (Unit × (Unit × (Unit × (Unit × (Unit × (Unit × (Unit × (Unit × (Unit × (Unit × (Unit × (Unit × (Unit × (Unit × (Unit × (Unit × (Unit × Unit)))))))))))))))))))))))))))))))))))))))))))))))) (b3 : E90) (b4 : Int) (b5 : Int) (b6 : Int) : Option (Bool × ((Nat × (Unit × (Unit × (Unit × (Unit × (Unit × (Unit × (Unit × (Unit × (Unit × (Unit × (Unit × (Unit × (Unit × (Unit × (Unit × (Unit × (Unit × (Unit × (Unit × (Unit × (Unit × (Unit × (Unit × (Unit × (Unit × (Unit × (Unit × (Unit × (Unit × (Unit × (Unit × (Unit × (Unit × (Unit × (Unit × (Unit × (Unit × (Unit × (Unit × (Unit × (Unit × (Unit × (Unit × (Unit × (Unit × (Unit × Unit))))))))))))))))))))))))))))))))))))))))))))))) × (E90 × (Int × (Int × (Int × Unit)))))) :=
  (natK b2.1
  ((bif (decide (a1 < 0)) then
    (bif (decide (0 ≤ a0) && decide (a0 < (List.length b3.2.1.1 : Int))) then
      (bif (!decide ((List.getD b3.2.1.1 (Int.toNat a0) 0) = 0)) then
        some (false, ((3, ((), ((), ((), ((), ((), ((), ((), ((), ((), ((), ((), ((), ((), ((), ((), ((), ((), ((), ((), ((), ((), ((), ((), ((), ((), ((), ((), ((), ((), ((), ((), ((), ((), ((), ((), ((), ((), ((), ((), ((), ((), ((), ((), ((), ((), ((), ()))))))))))))))))))))))))))))))))))))))))))))))), (b3, (b4, ((IntKind.wrap .i64 (b6 + (IntKind.wrap .i64 (Int.tdiv b4 (List.getD b3.2.1.1 (Int.toNat a0) 0))))), (b6, ()))))))
        else
        none)
      else
      none)
    else
    (bif (decide (b4 < a1)) then
      (bif (decide (0 ≤ a0) && decide (a0 < (List.length b3.2.1.1 : Int))) then
        (bif (!decide ((List.getD b3.2.1.1 (Int.toNat a0) 0) = 0)) then
          some (false, ((3, ((), ((), ((), ((), ((), ((), ((), ((), ((), ((), ((), ((), ((), ((), ((), ((), ((), ((), ((), ((), ((), ((), ((), ((), ((), ((), ((), ((), ((), ((), ((), ((), ((), ((), ((), ((), ((), ((), ((), ((), ((), ((), ((), ((), ((), ((), ()))))))))))))))))))))))))))))))))))))))))))))))), (b3, (b4, ((IntKind.wrap .i64 (b6 + (IntKind.wrap .i64 (Int.tdiv b4 (List.getD b3.2.1.1 (Int.toNat a0) 0))))), (b6, ()))))))
          else
          none)
        else
        none)
      else
      (bif (decide (0 ≤ a0) && decide (a0 < (List.length b3.1.1 : Int))) then
        some (true, ((0, ((), ((), ((), ((), ((), ((), ((), ((), ((), ((), ((), ((), ((), ((), ((), ((), ((), ((), ((), ((), ((), ((), ((), ((), ((), ((), ((), ((), ((), ((), ((), ((), ((), ((), ((), ((), ((), ((), ((), ((), ((), ((), ((), ((), ((), ((), ()))))))))))))))))))))))))))))))))))))))))))))))), (b3, ((IntKind.wrap .i64 (b4 - a1)), (b5, ((IntKind.wrap .i64 (b6 + (List.getD b3.1.1 (Int.toNat a0) (0, ((0, (0, ())), ()))).1)), ()))))))
        else
        none))))
  (fun _ => none))
abbrev g86_r0_CS : CSpec := ⟨[.fix (.yref 0), .dat (.int .i64), .dat (.int .i64)], [.lp 86 0 (.cons (.any) (.cons (.any) (.cons (.fix (.bptr 1 [])) (.cons (.fix (.bptr 2 [])) (.cons (.fix (.bptr 3 [])) (.cons (.fix (.bptr 4 [])) (.cons (.any) (.cons (.any) (.cons (.any) (.cons (.any) (.cons (.any) (.cons (.any) (.cons (.any) (.cons (.any) (.cons (.any) (.cons (.any) (.cons (.any) (.cons (.any) (.cons (.any) (.cons (.any) (.cons (.any) (.cons (.any) (.cons (.any) (.cons (.any) (.cons (.any) (.cons (.any) (.cons (.any) (.cons (.any) (.cons (.any) (.cons (.any) (.cons (.any) (.cons (.any) (.cons (.any) (.cons (.any) (.cons (.any) (.cons (.any) (.cons (.any) (.cons (.any) (.cons (.any) (.cons (.any) (.cons (.any) (.cons (.any) (.cons (.any) (.cons (.any) (.cons (.any) (.cons (.any) (.nil))))))))))))))))))))))))))))))))))))))))))))))), .ip T90, .dat (.int .i64), .dat (.int .i64), .dat (.int .i64)], 0, [.lp 86 0 (.cons (.any) (.cons (.any) (.cons (.fix (.bptr 1 [])) (.cons (.fix (.bptr 2 [])) (.cons (.fix (.bptr 3 [])) (.cons (.fix (.bptr 4 [])) (.cons (.any) (.cons (.any) (.cons (.any) (.cons (.any) (.cons (.any) (.cons (.any) (.cons (.any) (.cons (.any) (.cons (.any) (.cons (.any) (.cons (.any) (.cons (.any) (.cons (.any) (.cons (.any) (.cons (.any) (.cons (.any) (.cons (.any) (.cons (.any) (.cons (.any) (.cons (.any) (.cons (.any) (.cons (.any) (.cons (.any) (.cons (.any) (.cons (.any) (.cons (.any) (.cons (.any) (.cons (.any) (.cons (.any) (.cons (.any) (.cons (.any) (.cons (.any) (.cons (.any) (.cons (.any) (.cons (.any) (.cons (.any) (.cons (.any) (.cons (.any) (.cons (.any) (.cons (.any) (.nil))))))))))))))))))))))))))))))))))))))))))))))), .ip T90, .dat (.int .i64), .dat (.int .i64), .dat (.int .i64)], 0, .dat .bool⟩
noncomputable def g86_r0_E : CEnt := boxE YLD g86_r0_CS fun x => g86_r0 x.1.1 x.1.2.1 x.2.1 x.2.2.1 x.2.2.2.1 x.2.2.2.2.1 x.2.2.2.2.2.1
theorem g86_r0_LV : LV 5 Tryd.prog true (loopsOf (rfBody (lcode 86 0))) [] := by unfold LV; cases loopsOf (rfBody (lcode 86 0)) <;> trivial
theorem g86_r0_hev : ∀ x : g86_r0_CS.In, roundR Tryd.prog g86_r0_C [] 86 0 (encs g86_r0_CS.A x.1) ⟨encs g86_r0_CS.I x.2, [], g86_r0_CS.nt⟩ (finK g86_r0_CS) = g86_r0 x.1.1 x.1.2.1 x.2.1 x.2.2.1 x.2.2.2.1 x.2.2.2.2.1 x.2.2.2.2.2.1 := by
  intro x; kernel_rfl
theorem g86_r0_valid : g86_r0_E.Valid Tryd.prog :=
  boxE_valid (S := g86_r0_CS) (by kernel_rfl) (.inl rfl) (rd_lcall' (S := g86_r0_CS) mixed g86_r0_CV (by kernel_rfl) g86_r0_LV ⟨_, rfl⟩ (by decide) (by kernel_rfl) (by kernel_rfl) g86_r0_hev)

noncomputable def g96_ground_followed_melts_C : CalT := tabC [g86_r0_E]
theorem g96_ground_followed_melts_CV : CV Tryd.prog g96_ground_followed_melts_C := tabC_valid ⟨g86_r0_valid, trivial⟩
noncomputable def g96_ground_followed_melts_l0_S : SPat := ⟨[.ip T90, .fix (.yref 0), .any, .any, .any, .any, .any, .any, .any, .any, .any, .dat (.list T70), .dat (.int .i64), .dat (.int .i64), .any, .any, .any, .any, .any, .any, .any, .any, .any, .any, .any, .any, .any, .any, .any, .any, .any, .any, .any, .any, .any, .any, .any, .any, .any, .any, .any, .any, .any, .any], [.lp 86 0 (.cons (.any) (.cons (.any) (.cons (.fix (.bptr 1 [])) (.cons (.fix (.bptr 2 [])) (.cons (.fix (.bptr 3 [])) (.cons (.fix (.bptr 4 [])) (.cons (.any) (.cons (.any) (.cons (.any) (.cons (.any) (.cons (.any) (.cons (.any) (.cons (.any) (.cons (.any) (.cons (.any) (.cons (.any) (.cons (.any) (.cons (.any) (.cons (.any) (.cons (.any) (.cons (.any) (.cons (.any) (.cons (.any) (.cons (.any) (.cons (.any) (.cons (.any) (.cons (.any) (.cons (.any) (.cons (.any) (.cons (.any) (.cons (.any) (.cons (.any) (.cons (.any) (.cons (.any) (.cons (.any) (.cons (.any) (.cons (.any) (.cons (.any) (.cons (.any) (.cons (.any) (.cons (.any) (.cons (.any) (.cons (.any) (.cons (.any) (.cons (.any) (.cons (.any) (.nil))))))))))))))))))))))))))))))))))))))))))))))), .ip T90, .dat (.int .i64), .dat (.int .i64), .dat (.int .i64)], 0⟩
noncomputable def g96_ground_followed_melts_l0_step (s : ((E90 × ((List E70) × (Int × (Int × Unit)))) × ((Nat × (Unit × (Unit × (Unit × (Unit × (Unit × (Unit × (Unit × (Unit × (Unit × (Unit × (Unit × (Unit × (Unit × (Unit × (Unit × (Unit × (Unit × (Unit × (Unit × (Unit × (Unit × (Unit × (Unit × (Unit × (Unit × (Unit × (Unit × (Unit × (Unit × (Unit × (Unit × (Unit × (Unit × (Unit × (Unit × (Unit × (Unit × (Unit × (Unit × (Unit × (Unit × (Unit × (Unit × (Unit × (Unit × (Unit × Unit))))))))))))))))))))))))))))))))))))))))))))))) × (E90 × (Int × (Int × (Int × Unit))))))) : Option (Nat × ((E90 × ((List E70) × (Int × (Int × Unit)))) × ((Nat × (Unit × (Unit × (Unit × (Unit × (Unit × (Unit × (Unit × (Unit × (Unit × (Unit × (Unit × (Unit × (Unit × (Unit × (Unit × (Unit × (Unit × (Unit × (Unit × (Unit × (Unit × (Unit × (Unit × (Unit × (Unit × (Unit × (Unit × (Unit × (Unit × (Unit × (Unit × (Unit × (Unit × (Unit × (Unit × (Unit × (Unit × (Unit × (Unit × (Unit × (Unit × (Unit × (Unit × (Unit × (Unit × (Unit × Unit))))))))))))))))))))))))))))))))))))))))))))))) × (E90 × (Int × (Int × (Int × Unit))))))) :=
  (bif (decide (s.1.2.2.2.1 < s.1.2.2.1)) then
  (bif (decide (0 ≤ s.1.2.2.2.1) && decide (s.1.2.2.2.1 < (List.length s.1.2.1 : Int))) then
    (bif (decide (0 ≤ s.1.2.2.2.1) && decide (s.1.2.2.2.1 < (List.length s.1.1.2.1.1 : Int))) then
      (bif (s.1.2.2.2.1 == (IntKind.wrap .i64 ((List.length s.1.1.1.1 : Int) - 1))) then
        (Option.bind (g86_r0 s.1.2.2.2.1 (-1) (s.2.1.1, ((), ((), ((), ((), ((), ((), ((), ((), ((), ((), ((), ((), ((), ((), ((), ((), ((), ((), ((), ((), ((), ((), ((), ((), ((), ((), ((), ((), ((), ((), ((), ((), ((), ((), ((), ((), ((), ((), ((), ((), ((), ((), ((), ((), ((), ((), ()))))))))))))))))))))))))))))))))))))))))))))))) s.2.2.1 s.2.2.2.1 s.2.2.2.2.1 s.2.2.2.2.2.1) fun r1 =>
          (bif (!r1.1) then
            some (1, ((s.1.1, (s.1.2.1, (s.1.2.2.1, (s.1.2.2.2.1, ())))), ((r1.2.1.1, ((), ((), ((), ((), ((), ((), ((), ((), ((), ((), ((), ((), ((), ((), ((), ((), ((), ((), ((), ((), ((), ((), ((), ((), ((), ((), ((), ((), ((), ((), ((), ((), ((), ((), ((), ((), ((), ((), ((), ((), ((), ((), ((), ((), ((), ((), ()))))))))))))))))))))))))))))))))))))))))))))))), (r1.2.2.1, (r1.2.2.2.1, (r1.2.2.2.2.1, (r1.2.2.2.2.2.1, ())))))))
            else
            some (0, ((s.1.1, (s.1.2.1, (s.1.2.2.1, ((IntKind.wrap .i64 (s.1.2.2.2.1 + 1)), ())))), ((r1.2.1.1, ((), ((), ((), ((), ((), ((), ((), ((), ((), ((), ((), ((), ((), ((), ((), ((), ((), ((), ((), ((), ((), ((), ((), ((), ((), ((), ((), ((), ((), ((), ((), ((), ((), ((), ((), ((), ((), ((), ((), ((), ((), ((), ((), ((), ((), ((), ()))))))))))))))))))))))))))))))))))))))))))))))), (r1.2.2.1, (r1.2.2.2.1, (r1.2.2.2.2.1, (r1.2.2.2.2.2.1, ())))))))))
        else
        (Option.bind (g86_r0 s.1.2.2.2.1 (IntKind.wrap .i64 ((List.getD s.1.2.1 (Int.toNat s.1.2.2.2.1) (0, ((0, (0, ())), ()))).1 * (List.getD s.1.1.2.1.1 (Int.toNat s.1.2.2.2.1) 0))) (s.2.1.1, ((), ((), ((), ((), ((), ((), ((), ((), ((), ((), ((), ((), ((), ((), ((), ((), ((), ((), ((), ((), ((), ((), ((), ((), ((), ((), ((), ((), ((), ((), ((), ((), ((), ((), ((), ((), ((), ((), ((), ((), ((), ((), ((), ((), ((), ((), ()))))))))))))))))))))))))))))))))))))))))))))))) s.2.2.1 s.2.2.2.1 s.2.2.2.2.1 s.2.2.2.2.2.1) fun r2 =>
          (bif (!r2.1) then
            some (1, ((s.1.1, (s.1.2.1, (s.1.2.2.1, (s.1.2.2.2.1, ())))), ((r2.2.1.1, ((), ((), ((), ((), ((), ((), ((), ((), ((), ((), ((), ((), ((), ((), ((), ((), ((), ((), ((), ((), ((), ((), ((), ((), ((), ((), ((), ((), ((), ((), ((), ((), ((), ((), ((), ((), ((), ((), ((), ((), ((), ((), ((), ((), ((), ((), ()))))))))))))))))))))))))))))))))))))))))))))))), (r2.2.2.1, (r2.2.2.2.1, (r2.2.2.2.2.1, (r2.2.2.2.2.2.1, ())))))))
            else
            some (0, ((s.1.1, (s.1.2.1, (s.1.2.2.1, ((IntKind.wrap .i64 (s.1.2.2.2.1 + 1)), ())))), ((r2.2.1.1, ((), ((), ((), ((), ((), ((), ((), ((), ((), ((), ((), ((), ((), ((), ((), ((), ((), ((), ((), ((), ((), ((), ((), ((), ((), ((), ((), ((), ((), ((), ((), ((), ((), ((), ((), ((), ((), ((), ((), ((), ((), ((), ((), ((), ((), ((), ()))))))))))))))))))))))))))))))))))))))))))))))), (r2.2.2.1, (r2.2.2.2.1, (r2.2.2.2.2.1, (r2.2.2.2.2.2.1, ()))))))))))
      else
      none)
    else
    none)
  else
  some (2, ((s.1.1, (s.1.2.1, (s.1.2.2.1, (s.1.2.2.2.1, ())))), ((s.2.1.1, ((), ((), ((), ((), ((), ((), ((), ((), ((), ((), ((), ((), ((), ((), ((), ((), ((), ((), ((), ((), ((), ((), ((), ((), ((), ((), ((), ((), ((), ((), ((), ((), ((), ((), ((), ((), ((), ((), ((), ((), ((), ((), ((), ((), ((), ((), ()))))))))))))))))))))))))))))))))))))))))))))))), (s.2.2.1, (s.2.2.2.1, (s.2.2.2.2.1, (s.2.2.2.2.2.1, ()))))))))
noncomputable def g96_ground_followed_melts_l0_fuel (s : ((E90 × ((List E70) × (Int × (Int × Unit)))) × ((Nat × (Unit × (Unit × (Unit × (Unit × (Unit × (Unit × (Unit × (Unit × (Unit × (Unit × (Unit × (Unit × (Unit × (Unit × (Unit × (Unit × (Unit × (Unit × (Unit × (Unit × (Unit × (Unit × (Unit × (Unit × (Unit × (Unit × (Unit × (Unit × (Unit × (Unit × (Unit × (Unit × (Unit × (Unit × (Unit × (Unit × (Unit × (Unit × (Unit × (Unit × (Unit × (Unit × (Unit × (Unit × (Unit × (Unit × Unit))))))))))))))))))))))))))))))))))))))))))))))) × (E90 × (Int × (Int × (Int × Unit))))))) : Nat := Int.toNat (s.1.2.2.1 - s.1.2.2.2.1) + 1
noncomputable def g96_ground_followed_melts_l0_run (s : ((E90 × ((List E70) × (Int × (Int × Unit)))) × ((Nat × (Unit × (Unit × (Unit × (Unit × (Unit × (Unit × (Unit × (Unit × (Unit × (Unit × (Unit × (Unit × (Unit × (Unit × (Unit × (Unit × (Unit × (Unit × (Unit × (Unit × (Unit × (Unit × (Unit × (Unit × (Unit × (Unit × (Unit × (Unit × (Unit × (Unit × (Unit × (Unit × (Unit × (Unit × (Unit × (Unit × (Unit × (Unit × (Unit × (Unit × (Unit × (Unit × (Unit × (Unit × (Unit × (Unit × Unit))))))))))))))))))))))))))))))))))))))))))))))) × (E90 × (Int × (Int × (Int × Unit))))))) : Option (Nat × ((E90 × ((List E70) × (Int × (Int × Unit)))) × ((Nat × (Unit × (Unit × (Unit × (Unit × (Unit × (Unit × (Unit × (Unit × (Unit × (Unit × (Unit × (Unit × (Unit × (Unit × (Unit × (Unit × (Unit × (Unit × (Unit × (Unit × (Unit × (Unit × (Unit × (Unit × (Unit × (Unit × (Unit × (Unit × (Unit × (Unit × (Unit × (Unit × (Unit × (Unit × (Unit × (Unit × (Unit × (Unit × (Unit × (Unit × (Unit × (Unit × (Unit × (Unit × (Unit × (Unit × Unit))))))))))))))))))))))))))))))))))))))))))))))) × (E90 × (Int × (Int × (Int × Unit))))))) := iter g96_ground_followed_melts_l0_step (g96_ground_followed_melts_l0_fuel s) s
noncomputable def g96_ground_followed_melts_l0_L : LoopT := loopT g96_ground_followed_melts_l0_S [.ret, .exit 0] g96_ground_followed_melts_l0_run
noncomputable def g96_ground_followed_melts (a0 : E90) (b1 : (Nat × (Unit × (Unit × (Unit × (Unit × (Unit × (Unit × (Unit × (Unit × (Unit × (Unit × (Unit × (Unit × (Unit × (Unit × (Unit × (Unit × (Unit × (Unit × (Unit × (Unit × (Unit × (Unit × (Unit × (Unit × (Unit × (Unit × (Unit × (Unit × (Unit × (Unit × (Unit × (Unit × (Unit × (Unit × (Unit × (Unit × (Unit × (Unit × (Unit × (Unit × (Unit × (Unit × (Unit × (Unit × (Unit × (Unit × Unit)))))))))))))))))))))))))))))))))))))))))))))))) (b2 : E90) (b3 : Int) (b4 : Int) (b5 : Int) : Option (Unit × ((Nat × (Unit × (Unit × (Unit × (Unit × (Unit × (Unit × (Unit × (Unit × (Unit × (Unit × (Unit × (Unit × (Unit × (Unit × (Unit × (Unit × (Unit × (Unit × (Unit × (Unit × (Unit × (Unit × (Unit × (Unit × (Unit × (Unit × (Unit × (Unit × (Unit × (Unit × (Unit × (Unit × (Unit × (Unit × (Unit × (Unit × (Unit × (Unit × (Unit × (Unit × (Unit × (Unit × (Unit × (Unit × (Unit × (Unit × Unit))))))))))))))))))))))))))))))))))))))))))))))) × (E90 × (Int × (Int × (Int × Unit)))))) :=
  (Option.bind (g96_ground_followed_melts_l0_run ((a0, (a0.1.1, ((List.length a0.1.1 : Int), (0, ())))), ((b1.1, ((), ((), ((), ((), ((), ((), ((), ((), ((), ((), ((), ((), ((), ((), ((), ((), ((), ((), ((), ((), ((), ((), ((), ((), ((), ((), ((), ((), ((), ((), ((), ((), ((), ((), ((), ((), ((), ((), ((), ((), ((), ((), ((), ((), ((), ((), ()))))))))))))))))))))))))))))))))))))))))))))))), (b2, (b3, (b4, (b5, ()))))))) fun q3 =>
  (natK q3.1
    (some ((), ((q3.2.2.1.1, ((), ((), ((), ((), ((), ((), ((), ((), ((), ((), ((), ((), ((), ((), ((), ((), ((), ((), ((), ((), ((), ((), ((), ((), ((), ((), ((), ((), ((), ((), ((), ((), ((), ((), ((), ((), ((), ((), ((), ((), ((), ((), ((), ((), ((), ((), ()))))))))))))))))))))))))))))))))))))))))))))))), (q3.2.2.2.1, (q3.2.2.2.2.1, (q3.2.2.2.2.2.1, (q3.2.2.2.2.2.2.1, ())))))))
    (fun _ => some ((), ((q3.2.2.1.1, ((), ((), ((), ((), ((), ((), ((), ((), ((), ((), ((), ((), ((), ((), ((), ((), ((), ((), ((), ((), ((), ((), ((), ((), ((), ((), ((), ((), ((), ((), ((), ((), ((), ((), ((), ((), ((), ((), ((), ((), ((), ((), ((), ((), ((), ((), ()))))))))))))))))))))))))))))))))))))))))))))))), (q3.2.2.2.1, (q3.2.2.2.2.1, (q3.2.2.2.2.2.1, (q3.2.2.2.2.2.2.1, ())))))))))
abbrev g96_ground_followed_melts_CS : CSpec := ⟨[.ip T90, .fix (.yref 0)], [.lp 86 0 (.cons (.any) (.cons (.any) (.cons (.fix (.bptr 1 [])) (.cons (.fix (.bptr 2 [])) (.cons (.fix (.bptr 3 [])) (.cons (.fix (.bptr 4 [])) (.cons (.any) (.cons (.any) (.cons (.any) (.cons (.any) (.cons (.any) (.cons (.any) (.cons (.any) (.cons (.any) (.cons (.any) (.cons (.any) (.cons (.any) (.cons (.any) (.cons (.any) (.cons (.any) (.cons (.any) (.cons (.any) (.cons (.any) (.cons (.any) (.cons (.any) (.cons (.any) (.cons (.any) (.cons (.any) (.cons (.any) (.cons (.any) (.cons (.any) (.cons (.any) (.cons (.any) (.cons (.any) (.cons (.any) (.cons (.any) (.cons (.any) (.cons (.any) (.cons (.any) (.cons (.any) (.cons (.any) (.cons (.any) (.cons (.any) (.cons (.any) (.cons (.any) (.cons (.any) (.nil))))))))))))))))))))))))))))))))))))))))))))))), .ip T90, .dat (.int .i64), .dat (.int .i64), .dat (.int .i64)], 0, [.lp 86 0 (.cons (.any) (.cons (.any) (.cons (.fix (.bptr 1 [])) (.cons (.fix (.bptr 2 [])) (.cons (.fix (.bptr 3 [])) (.cons (.fix (.bptr 4 [])) (.cons (.any) (.cons (.any) (.cons (.any) (.cons (.any) (.cons (.any) (.cons (.any) (.cons (.any) (.cons (.any) (.cons (.any) (.cons (.any) (.cons (.any) (.cons (.any) (.cons (.any) (.cons (.any) (.cons (.any) (.cons (.any) (.cons (.any) (.cons (.any) (.cons (.any) (.cons (.any) (.cons (.any) (.cons (.any) (.cons (.any) (.cons (.any) (.cons (.any) (.cons (.any) (.cons (.any) (.cons (.any) (.cons (.any) (.cons (.any) (.cons (.any) (.cons (.any) (.cons (.any) (.cons (.any) (.cons (.any) (.cons (.any) (.cons (.any) (.cons (.any) (.cons (.any) (.cons (.any) (.nil))))))))))))))))))))))))))))))))))))))))))))))), .ip T90, .dat (.int .i64), .dat (.int .i64), .dat (.int .i64)], 0, .tup (.nil)⟩
noncomputable def g96_ground_followed_melts_E : CEnt := boxE 96 g96_ground_followed_melts_CS fun x => g96_ground_followed_melts x.1.1 x.2.1 x.2.2.1 x.2.2.2.1 x.2.2.2.2.1 x.2.2.2.2.2.1
noncomputable def g96_ground_followed_melts_l0_c : Code := loopAt (bodyOf Tryd.f96) 0
theorem g96_ground_followed_melts_l0_V : LValid 5 Tryd.prog (.loop g96_ground_followed_melts_l0_c) g96_ground_followed_melts_l0_L false := by
  have hb : ∀ s, codeR Tryd.prog g96_ground_followed_melts_C g96_ground_followed_melts_l0_c [] (g96_ground_followed_melts_l0_S.encE s) (g96_ground_followed_melts_l0_S.encB s) (kst g96_ground_followed_melts_l0_S [.ret, .exit 0]) = g96_ground_followed_melts_l0_step s := by
    intro s; kernel_rfl
  have hL : LV 5 Tryd.prog false (loopsOf g96_ground_followed_melts_l0_c) [] := by unfold LV; cases loopsOf g96_ground_followed_melts_l0_c <;> trivial
  exact loopT_valid (fuel := g96_ground_followed_melts_l0_fuel) mixed g96_ground_followed_melts_CV hL (by kernel_rfl) (by decide) rfl hb (fun s r h => h)
theorem g96_ground_followed_melts_LV : LV 5 Tryd.prog false (loopsOf (bodyOf Tryd.f96)) [g96_ground_followed_melts_l0_L] := by
  have hl : loopsOf (bodyOf Tryd.f96) = [.loop g96_ground_followed_melts_l0_c] := by kernel_rfl
  rw [hl]; exact ⟨g96_ground_followed_melts_l0_V, trivial⟩
theorem g96_ground_followed_melts_ent : Ent Tryd.prog 96 := ⟨by decide, enters_of Tryd.func96 (by kernel_rfl) rfl⟩
theorem g96_ground_followed_melts_hev : ∀ x : g96_ground_followed_melts_CS.In, fnR Tryd.prog g96_ground_followed_melts_C [g96_ground_followed_melts_l0_L] Tryd.f96 (bodyOf Tryd.f96) (encs g96_ground_followed_melts_CS.A x.1) ⟨encs g96_ground_followed_melts_CS.I x.2, [], g96_ground_followed_melts_CS.nt⟩ (finK g96_ground_followed_melts_CS) = g96_ground_followed_melts x.1.1 x.2.1 x.2.2.1 x.2.2.2.1 x.2.2.2.2.1 x.2.2.2.2.2.1 := by
  intro x; kernel_rfl
theorem g96_ground_followed_melts_valid : g96_ground_followed_melts_E.Valid Tryd.prog :=
  boxE_valid (S := g96_ground_followed_melts_CS) (by kernel_rfl) (.inr g96_ground_followed_melts_ent) (fn_lcall (S := g96_ground_followed_melts_CS) mixed Tryd.func96 rfl g96_ground_followed_melts_ent g96_ground_followed_melts_CV g96_ground_followed_melts_LV (by kernel_rfl) (by kernel_rfl) g96_ground_followed_melts_hev)

noncomputable def g86_ground_followed_depth_C : CalT := tabC [g96_ground_followed_melts_E]
theorem g86_ground_followed_depth_CV : CV Tryd.prog g86_ground_followed_depth_C := tabC_valid ⟨g96_ground_followed_melts_valid, trivial⟩
noncomputable def g86_ground_followed_depth_f0_L : LoopT := rfT g86_ground_followed_depth_C 86 0 (.tmp 9) [.normal, .ret]
noncomputable def g86_ground_followed_depth (a0 : E90) (a1 : Int) : Option Int :=
  (Option.bind (g96_ground_followed_melts a0 (0, ((), ((), ((), ((), ((), ((), ((), ((), ((), ((), ((), ((), ((), ((), ((), ((), ((), ((), ((), ((), ((), ((), ((), ((), ((), ((), ((), ((), ((), ((), ((), ((), ((), ((), ((), ((), ((), ((), ((), ((), ((), ((), ((), ((), ((), ((), ()))))))))))))))))))))))))))))))))))))))))))))))) a0 a1 0 0) fun r1 =>
  (bif (r1.2.1.1 == 0) then
    some r1.2.2.2.2.2.1
    else
    (bif (r1.2.1.1 == 3) then
      some r1.2.2.2.2.1
      else
      none)))
noncomputable def g86_ground_followed_depth_E : CEnt := viewE 86 [.ip T90, .dat (.int .i64)] (.dat (.int .i64)) fun x => g86_ground_followed_depth x.1 x.2.1
theorem g86_ground_followed_depth_f0_V : LValid 0 Tryd.prog (lcode 86 0) g86_ground_followed_depth_f0_L := rfT_valid' g86_ground_followed_depth_CV (by kernel_rfl)
theorem g86_ground_followed_depth_LV : LV 0 Tryd.prog false (loopsOf (bodyOf Tryd.f86)) [g86_ground_followed_depth_f0_L] := by
  have hl : loopsOf (bodyOf Tryd.f86) = [(lcode 86 0)] := by kernel_rfl
  rw [hl]; exact ⟨g86_ground_followed_depth_f0_V, trivial⟩
theorem g86_ground_followed_depth_ent : Ent Tryd.prog 86 := ⟨by decide, enters_of Tryd.func86 (by kernel_rfl) rfl⟩
theorem g86_ground_followed_depth_hev : ∀ x, fnR Tryd.prog g86_ground_followed_depth_C [g86_ground_followed_depth_f0_L] Tryd.f86 (bodyOf Tryd.f86) (encs [.ip T90, .dat (.int .i64)] x) ⟨[], [], 0⟩ (frzF (.dat (.int .i64))) = g86_ground_followed_depth x.1 x.2.1 := by
  intro x; kernel_rfl
theorem g86_ground_followed_depth_valid : g86_ground_followed_depth_E.Valid Tryd.prog :=
  viewE_valid (by kernel_rfl) (by kernel_rfl) g86_ground_followed_depth_ent (frz_lcall mixed Tryd.func86 rfl g86_ground_followed_depth_ent g86_ground_followed_depth_CV g86_ground_followed_depth_LV (by kernel_rfl) (by kernel_rfl) g86_ground_followed_depth_hev)

noncomputable def g74_ground_followed_summer_C : CalT := tabC [g86_ground_followed_depth_E]
theorem g74_ground_followed_summer_CV : CV Tryd.prog g74_ground_followed_summer_C := tabC_valid ⟨g86_ground_followed_depth_valid, trivial⟩
noncomputable def g74_ground_followed_summer (b0 : (E25 × (((List Int) × ((List Int) × ((List Int) × ((List Int) × ((List Int) × Unit))))) × (Int × (Int × (Int × (Int × ((List Int) × ((List Int) × ((Int × (Int × (Int × Unit))) × Unit)))))))))) : Option (Unit × ((E25 × (((List Int) × ((List Int) × ((List Int) × ((List Int) × ((List Int) × Unit))))) × (Int × (Int × (Int × (Int × ((List Int) × ((List Int) × ((Int × (Int × (Int × Unit))) × Unit))))))))) × Unit)) :=
  (bif (decide (0 ≤ b0.2.2.2.1) && decide (b0.2.2.2.1 < (List.length b0.2.1.2.1 : Int))) then
  (bif (decide (0 ≤ b0.2.2.2.1) && decide (b0.2.2.2.1 < (List.length b0.2.1.2.2.1 : Int))) then
    (Option.bind (g86_ground_followed_depth (b0.1, ((b0.2.1.1, (b0.2.1.2.1, (b0.2.1.2.2.1, (b0.2.1.2.2.2.1, (b0.2.1.2.2.2.2.1, ()))))), (b0.2.2.1, (b0.2.2.2.1, ((if (IntKind.wrap .i64 (b0.2.2.2.2.2.1 + (IntKind.wrap .i64 ((List.getD b0.2.1.2.1 (Int.toNat b0.2.2.2.1) 0) + (List.getD b0.2.1.2.2.1 (Int.toNat b0.2.2.2.1) 0))))) > b0.2.2.2.2.1 then (IntKind.wrap .i64 (b0.2.2.2.2.2.1 + (IntKind.wrap .i64 ((List.getD b0.2.1.2.1 (Int.toNat b0.2.2.2.1) 0) + (List.getD b0.2.1.2.2.1 (Int.toNat b0.2.2.2.1) 0))))) else b0.2.2.2.2.1), ((IntKind.wrap .i64 (b0.2.2.2.2.2.1 + (IntKind.wrap .i64 ((List.getD b0.2.1.2.1 (Int.toNat b0.2.2.2.1) 0) + (List.getD b0.2.1.2.2.1 (Int.toNat b0.2.2.2.1) 0))))), (b0.2.2.2.2.2.2.1, (b0.2.2.2.2.2.2.2.1, (((IntKind.wrap .i64 (b0.2.2.2.2.2.2.2.2.1.1 + (IntKind.wrap .i64 ((List.getD b0.2.1.2.1 (Int.toNat b0.2.2.2.1) 0) + (List.getD b0.2.1.2.2.1 (Int.toNat b0.2.2.2.1) 0))))), (b0.2.2.2.2.2.2.2.2.1.2.1, (b0.2.2.2.2.2.2.2.2.1.2.2.1, ()))), ()))))))))) (if (IntKind.wrap .i64 (b0.2.2.2.2.2.1 + (IntKind.wrap .i64 ((List.getD b0.2.1.2.1 (Int.toNat b0.2.2.2.1) 0) + (List.getD b0.2.1.2.2.1 (Int.toNat b0.2.2.2.1) 0))))) > b0.2.2.2.2.1 then (IntKind.wrap .i64 (b0.2.2.2.2.2.1 + (IntKind.wrap .i64 ((List.getD b0.2.1.2.1 (Int.toNat b0.2.2.2.1) 0) + (List.getD b0.2.1.2.2.1 (Int.toNat b0.2.2.2.1) 0))))) else b0.2.2.2.2.1)) fun r1 =>
      (bif (decide (List.length b0.2.2.2.2.2.2.1 + List.length [r1] ≤ LIM)) then
        some ((), ((b0.1, ((b0.2.1.1, (b0.2.1.2.1, (b0.2.1.2.2.1, (b0.2.1.2.2.2.1, (b0.2.1.2.2.2.2.1, ()))))), (b0.2.2.1, (b0.2.2.2.1, ((if (IntKind.wrap .i64 (b0.2.2.2.2.2.1 + (IntKind.wrap .i64 ((List.getD b0.2.1.2.1 (Int.toNat b0.2.2.2.1) 0) + (List.getD b0.2.1.2.2.1 (Int.toNat b0.2.2.2.1) 0))))) > b0.2.2.2.2.1 then (IntKind.wrap .i64 (b0.2.2.2.2.2.1 + (IntKind.wrap .i64 ((List.getD b0.2.1.2.1 (Int.toNat b0.2.2.2.1) 0) + (List.getD b0.2.1.2.2.1 (Int.toNat b0.2.2.2.1) 0))))) else b0.2.2.2.2.1), ((IntKind.wrap .i64 (b0.2.2.2.2.2.1 + (IntKind.wrap .i64 ((List.getD b0.2.1.2.1 (Int.toNat b0.2.2.2.1) 0) + (List.getD b0.2.1.2.2.1 (Int.toNat b0.2.2.2.1) 0))))), ((b0.2.2.2.2.2.2.1 ++ [r1]), (b0.2.2.2.2.2.2.2.1, (((IntKind.wrap .i64 (b0.2.2.2.2.2.2.2.2.1.1 + (IntKind.wrap .i64 ((List.getD b0.2.1.2.1 (Int.toNat b0.2.2.2.1) 0) + (List.getD b0.2.1.2.2.1 (Int.toNat b0.2.2.2.1) 0))))), (b0.2.2.2.2.2.2.2.2.1.2.1, (b0.2.2.2.2.2.2.2.2.1.2.2.1, ()))), ()))))))))), ()))
        else
        none))
    else
    none)
  else
  none)
abbrev g74_ground_followed_summer_CS : CSpec := ⟨[.fix (.bptr 0 [])], [.cons (.dat T25) (.cons (.cons (.dat (.list (.int .i64))) (.cons (.dat (.list (.int .i64))) (.cons (.dat (.list (.int .i64))) (.cons (.dat (.list (.int .i64))) (.cons (.dat (.list (.int .i64))) (.nil)))))) (.cons (.dat (.int .i64)) (.cons (.dat (.int .i64)) (.cons (.dat (.int .i64)) (.cons (.dat (.int .i64)) (.cons (.own 0 (.int .i64)) (.cons (.own 1 (.int .i64)) (.cons (.cons (.dat (.int .i64)) (.cons (.dat (.int .i64)) (.cons (.dat (.int .i64)) (.nil)))) (.nil)))))))))], 2, [.cons (.dat T25) (.cons (.cons (.dat (.list (.int .i64))) (.cons (.dat (.list (.int .i64))) (.cons (.dat (.list (.int .i64))) (.cons (.dat (.list (.int .i64))) (.cons (.dat (.list (.int .i64))) (.nil)))))) (.cons (.dat (.int .i64)) (.cons (.dat (.int .i64)) (.cons (.dat (.int .i64)) (.cons (.dat (.int .i64)) (.cons (.own 0 (.int .i64)) (.cons (.own 1 (.int .i64)) (.cons (.cons (.dat (.int .i64)) (.cons (.dat (.int .i64)) (.cons (.dat (.int .i64)) (.nil)))) (.nil)))))))))], 2, .tup (.nil)⟩
noncomputable def g74_ground_followed_summer_E : CEnt := boxE 74 g74_ground_followed_summer_CS fun x => g74_ground_followed_summer x.2.1
theorem g74_ground_followed_summer_LV : LV 1 Tryd.prog false (loopsOf (bodyOf Tryd.f74)) [] := by unfold LV; cases loopsOf (bodyOf Tryd.f74) <;> trivial
theorem g74_ground_followed_summer_ent : Ent Tryd.prog 74 := ⟨by decide, enters_of Tryd.func74 (by kernel_rfl) rfl⟩
theorem g74_ground_followed_summer_hev : ∀ x : g74_ground_followed_summer_CS.In, fnR Tryd.prog g74_ground_followed_summer_C [] Tryd.f74 (bodyOf Tryd.f74) (encs g74_ground_followed_summer_CS.A x.1) ⟨encs g74_ground_followed_summer_CS.I x.2, [], g74_ground_followed_summer_CS.nt⟩ (finK g74_ground_followed_summer_CS) = g74_ground_followed_summer x.2.1 := by
  intro x; kernel_rfl
theorem g74_ground_followed_summer_valid : g74_ground_followed_summer_E.Valid Tryd.prog :=
  boxE_valid (S := g74_ground_followed_summer_CS) (by kernel_rfl) (.inr g74_ground_followed_summer_ent) (fn_lcall (S := g74_ground_followed_summer_CS) mixed Tryd.func74 rfl g74_ground_followed_summer_ent g74_ground_followed_summer_CV g74_ground_followed_summer_LV (by kernel_rfl) (by kernel_rfl) g74_ground_followed_summer_hev)

noncomputable def g75_ground_followed_winter_C : CalT := tabC []
theorem g75_ground_followed_winter_CV : CV Tryd.prog g75_ground_followed_winter_C := tabC_valid trivial
noncomputable def g75_ground_followed_winter (b0 : (E25 × (((List Int) × ((List Int) × ((List Int) × ((List Int) × ((List Int) × Unit))))) × (Int × (Int × (Int × (Int × ((List Int) × ((List Int) × ((Int × (Int × (Int × Unit))) × Unit)))))))))) : Option (Unit × ((E25 × (((List Int) × ((List Int) × ((List Int) × ((List Int) × ((List Int) × Unit))))) × (Int × (Int × (Int × (Int × ((List Int) × ((List Int) × ((Int × (Int × (Int × Unit))) × Unit))))))))) × Unit)) :=
  (bif (decide (0 ≤ b0.2.2.2.1) && decide (b0.2.2.2.1 < (List.length b0.2.1.2.2.2.1 : Int))) then
  (bif (decide (0 ≤ b0.2.2.2.1) && decide (b0.2.2.2.1 < (List.length b0.2.1.2.2.2.2.1 : Int))) then
    (bif ((IntKind.wrap .i64 (b0.2.2.2.2.2.1 - (if (IntKind.wrap .i64 (b0.2.2.1 + (IntKind.wrap .i64 (Int.tdiv (IntKind.wrap .i64 ((List.getD b0.2.1.2.2.2.1 (Int.toNat b0.2.2.2.1) 0) * (IntKind.wrap .i64 ((1000 : Int) - (List.getD b0.2.1.2.2.2.2.1 (Int.toNat b0.2.2.2.1) 0))))) 1000)))) < b0.2.2.2.2.2.1 then (IntKind.wrap .i64 (b0.2.2.1 + (IntKind.wrap .i64 (Int.tdiv (IntKind.wrap .i64 ((List.getD b0.2.1.2.2.2.1 (Int.toNat b0.2.2.2.1) 0) * (IntKind.wrap .i64 ((1000 : Int) - (List.getD b0.2.1.2.2.2.2.1 (Int.toNat b0.2.2.2.1) 0))))) 1000)))) else b0.2.2.2.2.2.1))) == 0) then
      (bif (decide (List.length b0.2.2.2.2.2.2.2.1 + List.length [(IntKind.wrap .i64 (b0.2.2.2.2.2.1 - (if (IntKind.wrap .i64 (b0.2.2.1 + (IntKind.wrap .i64 (Int.tdiv (IntKind.wrap .i64 ((List.getD b0.2.1.2.2.2.1 (Int.toNat b0.2.2.2.1) 0) * (IntKind.wrap .i64 ((1000 : Int) - (List.getD b0.2.1.2.2.2.2.1 (Int.toNat b0.2.2.2.1) 0))))) 1000)))) < b0.2.2.2.2.2.1 then (IntKind.wrap .i64 (b0.2.2.1 + (IntKind.wrap .i64 (Int.tdiv (IntKind.wrap .i64 ((List.getD b0.2.1.2.2.2.1 (Int.toNat b0.2.2.2.1) 0) * (IntKind.wrap .i64 ((1000 : Int) - (List.getD b0.2.1.2.2.2.2.1 (Int.toNat b0.2.2.2.1) 0))))) 1000)))) else b0.2.2.2.2.2.1)))] ≤ LIM)) then
        some ((), ((b0.1, ((b0.2.1.1, (b0.2.1.2.1, (b0.2.1.2.2.1, (b0.2.1.2.2.2.1, (b0.2.1.2.2.2.2.1, ()))))), (b0.2.2.1, (b0.2.2.2.1, (0, ((IntKind.wrap .i64 (b0.2.2.2.2.2.1 - (if (IntKind.wrap .i64 (b0.2.2.1 + (IntKind.wrap .i64 (Int.tdiv (IntKind.wrap .i64 ((List.getD b0.2.1.2.2.2.1 (Int.toNat b0.2.2.2.1) 0) * (IntKind.wrap .i64 ((1000 : Int) - (List.getD b0.2.1.2.2.2.2.1 (Int.toNat b0.2.2.2.1) 0))))) 1000)))) < b0.2.2.2.2.2.1 then (IntKind.wrap .i64 (b0.2.2.1 + (IntKind.wrap .i64 (Int.tdiv (IntKind.wrap .i64 ((List.getD b0.2.1.2.2.2.1 (Int.toNat b0.2.2.2.1) 0) * (IntKind.wrap .i64 ((1000 : Int) - (List.getD b0.2.1.2.2.2.2.1 (Int.toNat b0.2.2.2.1) 0))))) 1000)))) else b0.2.2.2.2.2.1))), (b0.2.2.2.2.2.2.1, ((b0.2.2.2.2.2.2.2.1 ++ [(IntKind.wrap .i64 (b0.2.2.2.2.2.1 - (if (IntKind.wrap .i64 (b0.2.2.1 + (IntKind.wrap .i64 (Int.tdiv (IntKind.wrap .i64 ((List.getD b0.2.1.2.2.2.1 (Int.toNat b0.2.2.2.1) 0) * (IntKind.wrap .i64 ((1000 : Int) - (List.getD b0.2.1.2.2.2.2.1 (Int.toNat b0.2.2.2.1) 0))))) 1000)))) < b0.2.2.2.2.2.1 then (IntKind.wrap .i64 (b0.2.2.1 + (IntKind.wrap .i64 (Int.tdiv (IntKind.wrap .i64 ((List.getD b0.2.1.2.2.2.1 (Int.toNat b0.2.2.2.1) 0) * (IntKind.wrap .i64 ((1000 : Int) - (List.getD b0.2.1.2.2.2.2.1 (Int.toNat b0.2.2.2.1) 0))))) 1000)))) else b0.2.2.2.2.2.1)))]), ((b0.2.2.2.2.2.2.2.2.1.1, ((IntKind.wrap .i64 (b0.2.2.2.2.2.2.2.2.1.2.1 + (if (IntKind.wrap .i64 (b0.2.2.1 + (IntKind.wrap .i64 (Int.tdiv (IntKind.wrap .i64 ((List.getD b0.2.1.2.2.2.1 (Int.toNat b0.2.2.2.1) 0) * (IntKind.wrap .i64 ((1000 : Int) - (List.getD b0.2.1.2.2.2.2.1 (Int.toNat b0.2.2.2.1) 0))))) 1000)))) < b0.2.2.2.2.2.1 then (IntKind.wrap .i64 (b0.2.2.1 + (IntKind.wrap .i64 (Int.tdiv (IntKind.wrap .i64 ((List.getD b0.2.1.2.2.2.1 (Int.toNat b0.2.2.2.1) 0) * (IntKind.wrap .i64 ((1000 : Int) - (List.getD b0.2.1.2.2.2.2.1 (Int.toNat b0.2.2.2.1) 0))))) 1000)))) else b0.2.2.2.2.2.1))), ((IntKind.wrap .i64 (b0.2.2.2.2.2.1 - (if (IntKind.wrap .i64 (b0.2.2.1 + (IntKind.wrap .i64 (Int.tdiv (IntKind.wrap .i64 ((List.getD b0.2.1.2.2.2.1 (Int.toNat b0.2.2.2.1) 0) * (IntKind.wrap .i64 ((1000 : Int) - (List.getD b0.2.1.2.2.2.2.1 (Int.toNat b0.2.2.2.1) 0))))) 1000)))) < b0.2.2.2.2.2.1 then (IntKind.wrap .i64 (b0.2.2.1 + (IntKind.wrap .i64 (Int.tdiv (IntKind.wrap .i64 ((List.getD b0.2.1.2.2.2.1 (Int.toNat b0.2.2.2.1) 0) * (IntKind.wrap .i64 ((1000 : Int) - (List.getD b0.2.1.2.2.2.2.1 (Int.toNat b0.2.2.2.1) 0))))) 1000)))) else b0.2.2.2.2.2.1))), ()))), ()))))))))), ()))
        else
        none)
      else
      (bif (decide (List.length b0.2.2.2.2.2.2.2.1 + List.length [(IntKind.wrap .i64 (b0.2.2.2.2.2.1 - (if (IntKind.wrap .i64 (b0.2.2.1 + (IntKind.wrap .i64 (Int.tdiv (IntKind.wrap .i64 ((List.getD b0.2.1.2.2.2.1 (Int.toNat b0.2.2.2.1) 0) * (IntKind.wrap .i64 ((1000 : Int) - (List.getD b0.2.1.2.2.2.2.1 (Int.toNat b0.2.2.2.1) 0))))) 1000)))) < b0.2.2.2.2.2.1 then (IntKind.wrap .i64 (b0.2.2.1 + (IntKind.wrap .i64 (Int.tdiv (IntKind.wrap .i64 ((List.getD b0.2.1.2.2.2.1 (Int.toNat b0.2.2.2.1) 0) * (IntKind.wrap .i64 ((1000 : Int) - (List.getD b0.2.1.2.2.2.2.1 (Int.toNat b0.2.2.2.1) 0))))) 1000)))) else b0.2.2.2.2.2.1)))] ≤ LIM)) then
        some ((), ((b0.1, ((b0.2.1.1, (b0.2.1.2.1, (b0.2.1.2.2.1, (b0.2.1.2.2.2.1, (b0.2.1.2.2.2.2.1, ()))))), (b0.2.2.1, (b0.2.2.2.1, (b0.2.2.2.2.1, ((IntKind.wrap .i64 (b0.2.2.2.2.2.1 - (if (IntKind.wrap .i64 (b0.2.2.1 + (IntKind.wrap .i64 (Int.tdiv (IntKind.wrap .i64 ((List.getD b0.2.1.2.2.2.1 (Int.toNat b0.2.2.2.1) 0) * (IntKind.wrap .i64 ((1000 : Int) - (List.getD b0.2.1.2.2.2.2.1 (Int.toNat b0.2.2.2.1) 0))))) 1000)))) < b0.2.2.2.2.2.1 then (IntKind.wrap .i64 (b0.2.2.1 + (IntKind.wrap .i64 (Int.tdiv (IntKind.wrap .i64 ((List.getD b0.2.1.2.2.2.1 (Int.toNat b0.2.2.2.1) 0) * (IntKind.wrap .i64 ((1000 : Int) - (List.getD b0.2.1.2.2.2.2.1 (Int.toNat b0.2.2.2.1) 0))))) 1000)))) else b0.2.2.2.2.2.1))), (b0.2.2.2.2.2.2.1, ((b0.2.2.2.2.2.2.2.1 ++ [(IntKind.wrap .i64 (b0.2.2.2.2.2.1 - (if (IntKind.wrap .i64 (b0.2.2.1 + (IntKind.wrap .i64 (Int.tdiv (IntKind.wrap .i64 ((List.getD b0.2.1.2.2.2.1 (Int.toNat b0.2.2.2.1) 0) * (IntKind.wrap .i64 ((1000 : Int) - (List.getD b0.2.1.2.2.2.2.1 (Int.toNat b0.2.2.2.1) 0))))) 1000)))) < b0.2.2.2.2.2.1 then (IntKind.wrap .i64 (b0.2.2.1 + (IntKind.wrap .i64 (Int.tdiv (IntKind.wrap .i64 ((List.getD b0.2.1.2.2.2.1 (Int.toNat b0.2.2.2.1) 0) * (IntKind.wrap .i64 ((1000 : Int) - (List.getD b0.2.1.2.2.2.2.1 (Int.toNat b0.2.2.2.1) 0))))) 1000)))) else b0.2.2.2.2.2.1)))]), ((b0.2.2.2.2.2.2.2.2.1.1, ((IntKind.wrap .i64 (b0.2.2.2.2.2.2.2.2.1.2.1 + (if (IntKind.wrap .i64 (b0.2.2.1 + (IntKind.wrap .i64 (Int.tdiv (IntKind.wrap .i64 ((List.getD b0.2.1.2.2.2.1 (Int.toNat b0.2.2.2.1) 0) * (IntKind.wrap .i64 ((1000 : Int) - (List.getD b0.2.1.2.2.2.2.1 (Int.toNat b0.2.2.2.1) 0))))) 1000)))) < b0.2.2.2.2.2.1 then (IntKind.wrap .i64 (b0.2.2.1 + (IntKind.wrap .i64 (Int.tdiv (IntKind.wrap .i64 ((List.getD b0.2.1.2.2.2.1 (Int.toNat b0.2.2.2.1) 0) * (IntKind.wrap .i64 ((1000 : Int) - (List.getD b0.2.1.2.2.2.2.1 (Int.toNat b0.2.2.2.1) 0))))) 1000)))) else b0.2.2.2.2.2.1))), ((IntKind.wrap .i64 (b0.2.2.2.2.2.1 - (if (IntKind.wrap .i64 (b0.2.2.1 + (IntKind.wrap .i64 (Int.tdiv (IntKind.wrap .i64 ((List.getD b0.2.1.2.2.2.1 (Int.toNat b0.2.2.2.1) 0) * (IntKind.wrap .i64 ((1000 : Int) - (List.getD b0.2.1.2.2.2.2.1 (Int.toNat b0.2.2.2.1) 0))))) 1000)))) < b0.2.2.2.2.2.1 then (IntKind.wrap .i64 (b0.2.2.1 + (IntKind.wrap .i64 (Int.tdiv (IntKind.wrap .i64 ((List.getD b0.2.1.2.2.2.1 (Int.toNat b0.2.2.2.1) 0) * (IntKind.wrap .i64 ((1000 : Int) - (List.getD b0.2.1.2.2.2.2.1 (Int.toNat b0.2.2.2.1) 0))))) 1000)))) else b0.2.2.2.2.2.1))), ()))), ()))))))))), ()))
        else
        none))
    else
    none)
  else
  none)
abbrev g75_ground_followed_winter_CS : CSpec := ⟨[.fix (.bptr 0 [])], [.cons (.dat T25) (.cons (.cons (.dat (.list (.int .i64))) (.cons (.dat (.list (.int .i64))) (.cons (.dat (.list (.int .i64))) (.cons (.dat (.list (.int .i64))) (.cons (.dat (.list (.int .i64))) (.nil)))))) (.cons (.dat (.int .i64)) (.cons (.dat (.int .i64)) (.cons (.dat (.int .i64)) (.cons (.dat (.int .i64)) (.cons (.own 0 (.int .i64)) (.cons (.own 1 (.int .i64)) (.cons (.cons (.dat (.int .i64)) (.cons (.dat (.int .i64)) (.cons (.dat (.int .i64)) (.nil)))) (.nil)))))))))], 2, [.cons (.dat T25) (.cons (.cons (.dat (.list (.int .i64))) (.cons (.dat (.list (.int .i64))) (.cons (.dat (.list (.int .i64))) (.cons (.dat (.list (.int .i64))) (.cons (.dat (.list (.int .i64))) (.nil)))))) (.cons (.dat (.int .i64)) (.cons (.dat (.int .i64)) (.cons (.dat (.int .i64)) (.cons (.dat (.int .i64)) (.cons (.own 0 (.int .i64)) (.cons (.own 1 (.int .i64)) (.cons (.cons (.dat (.int .i64)) (.cons (.dat (.int .i64)) (.cons (.dat (.int .i64)) (.nil)))) (.nil)))))))))], 2, .tup (.nil)⟩
noncomputable def g75_ground_followed_winter_E : CEnt := boxE 75 g75_ground_followed_winter_CS fun x => g75_ground_followed_winter x.2.1
theorem g75_ground_followed_winter_LV : LV 1 Tryd.prog false (loopsOf (bodyOf Tryd.f75)) [] := by unfold LV; cases loopsOf (bodyOf Tryd.f75) <;> trivial
theorem g75_ground_followed_winter_ent : Ent Tryd.prog 75 := ⟨by decide, enters_of Tryd.func75 (by kernel_rfl) rfl⟩
theorem g75_ground_followed_winter_hev : ∀ x : g75_ground_followed_winter_CS.In, fnR Tryd.prog g75_ground_followed_winter_C [] Tryd.f75 (bodyOf Tryd.f75) (encs g75_ground_followed_winter_CS.A x.1) ⟨encs g75_ground_followed_winter_CS.I x.2, [], g75_ground_followed_winter_CS.nt⟩ (finK g75_ground_followed_winter_CS) = g75_ground_followed_winter x.2.1 := by
  intro x; kernel_rfl
theorem g75_ground_followed_winter_valid : g75_ground_followed_winter_E.Valid Tryd.prog :=
  boxE_valid (S := g75_ground_followed_winter_CS) (by kernel_rfl) (.inr g75_ground_followed_winter_ent) (fn_lcall (S := g75_ground_followed_winter_CS) mixed Tryd.func75 rfl g75_ground_followed_winter_ent g75_ground_followed_winter_CV g75_ground_followed_winter_LV (by kernel_rfl) (by kernel_rfl) g75_ground_followed_winter_hev)

noncomputable def g52_ground_followed_run_C : CalT := tabC [g74_ground_followed_summer_E, g75_ground_followed_winter_E]
theorem g52_ground_followed_run_CV : CV Tryd.prog g52_ground_followed_run_C := tabC_valid ⟨g74_ground_followed_summer_valid, g75_ground_followed_winter_valid, trivial⟩
noncomputable def g52_ground_followed_run_l1_S : SPat := ⟨[.fix (.bptr 0 []), .any, .any, .any, .any, .any, .any, .any, .any, .any, .dat (.int .i64), .dat (.int .i64), .any, .any, .any, .any, .any, .any, .any, .any, .any, .cons (.fix (.func (.func 74) (.cons (.bptr 0 []) .nil) .nil)) (.cons (.fix (.func (.func 75) (.cons (.bptr 0 []) .nil) .nil)) (.nil)), .dat (.int .i64), .any, .any, .any, .any, .any, .any, .any], [.cons (.dat T25) (.cons (.cons (.dat (.list (.int .i64))) (.cons (.dat (.list (.int .i64))) (.cons (.dat (.list (.int .i64))) (.cons (.dat (.list (.int .i64))) (.cons (.dat (.list (.int .i64))) (.nil)))))) (.cons (.dat (.int .i64)) (.cons (.dat (.int .i64)) (.cons (.dat (.int .i64)) (.cons (.dat (.int .i64)) (.cons (.own 0 (.int .i64)) (.cons (.own 1 (.int .i64)) (.cons (.cons (.dat (.int .i64)) (.cons (.dat (.int .i64)) (.cons (.dat (.int .i64)) (.nil)))) (.nil)))))))))], 2⟩
noncomputable def g52_ground_followed_run_l1_step (s : ((Int × (Int × ((Unit × (Unit × Unit)) × (Int × Unit)))) × ((E25 × (((List Int) × ((List Int) × ((List Int) × ((List Int) × ((List Int) × Unit))))) × (Int × (Int × (Int × (Int × ((List Int) × ((List Int) × ((Int × (Int × (Int × Unit))) × Unit))))))))) × Unit))) : Option (Nat × ((Int × (Int × ((Unit × (Unit × Unit)) × (Int × Unit)))) × ((E25 × (((List Int) × ((List Int) × ((List Int) × ((List Int) × ((List Int) × Unit))))) × (Int × (Int × (Int × (Int × ((List Int) × ((List Int) × ((Int × (Int × (Int × Unit))) × Unit))))))))) × Unit))) :=
  (bif (decide (s.1.2.2.2.1 < 2)) then
  (bif (decide (s.1.2.2.2.1 = (0 : Int))) then
    (Option.bind (g74_ground_followed_summer (s.2.1.1, ((s.2.1.2.1.1, (s.2.1.2.1.2.1, (s.2.1.2.1.2.2.1, (s.2.1.2.1.2.2.2.1, (s.2.1.2.1.2.2.2.2.1, ()))))), (s.2.1.2.2.1, (s.2.1.2.2.2.1, (s.2.1.2.2.2.2.1, (s.2.1.2.2.2.2.2.1, (s.2.1.2.2.2.2.2.2.1, (s.2.1.2.2.2.2.2.2.2.1, ((s.2.1.2.2.2.2.2.2.2.2.1.1, (s.2.1.2.2.2.2.2.2.2.2.1.2.1, (s.2.1.2.2.2.2.2.2.2.2.1.2.2.1, ()))), ())))))))))) fun r1 =>
      some (0, ((s.1.1, (s.1.2.1, (((), ((), ())), ((IntKind.wrap .i64 (s.1.2.2.2.1 + 1)), ())))), ((r1.2.1.1, ((r1.2.1.2.1.1, (r1.2.1.2.1.2.1, (r1.2.1.2.1.2.2.1, (r1.2.1.2.1.2.2.2.1, (r1.2.1.2.1.2.2.2.2.1, ()))))), (r1.2.1.2.2.1, (r1.2.1.2.2.2.1, (r1.2.1.2.2.2.2.1, (r1.2.1.2.2.2.2.2.1, (r1.2.1.2.2.2.2.2.2.1, (r1.2.1.2.2.2.2.2.2.2.1, ((r1.2.1.2.2.2.2.2.2.2.2.1.1, (r1.2.1.2.2.2.2.2.2.2.2.1.2.1, (r1.2.1.2.2.2.2.2.2.2.2.1.2.2.1, ()))), ()))))))))), ()))))
    else
    (bif (decide (s.1.2.2.2.1 = (1 : Int))) then
      (Option.bind (g75_ground_followed_winter (s.2.1.1, ((s.2.1.2.1.1, (s.2.1.2.1.2.1, (s.2.1.2.1.2.2.1, (s.2.1.2.1.2.2.2.1, (s.2.1.2.1.2.2.2.2.1, ()))))), (s.2.1.2.2.1, (s.2.1.2.2.2.1, (s.2.1.2.2.2.2.1, (s.2.1.2.2.2.2.2.1, (s.2.1.2.2.2.2.2.2.1, (s.2.1.2.2.2.2.2.2.2.1, ((s.2.1.2.2.2.2.2.2.2.2.1.1, (s.2.1.2.2.2.2.2.2.2.2.1.2.1, (s.2.1.2.2.2.2.2.2.2.2.1.2.2.1, ()))), ())))))))))) fun r2 =>
        some (0, ((s.1.1, (s.1.2.1, (((), ((), ())), ((IntKind.wrap .i64 (s.1.2.2.2.1 + 1)), ())))), ((r2.2.1.1, ((r2.2.1.2.1.1, (r2.2.1.2.1.2.1, (r2.2.1.2.1.2.2.1, (r2.2.1.2.1.2.2.2.1, (r2.2.1.2.1.2.2.2.2.1, ()))))), (r2.2.1.2.2.1, (r2.2.1.2.2.2.1, (r2.2.1.2.2.2.2.1, (r2.2.1.2.2.2.2.2.1, (r2.2.1.2.2.2.2.2.2.1, (r2.2.1.2.2.2.2.2.2.2.1, ((r2.2.1.2.2.2.2.2.2.2.2.1.1, (r2.2.1.2.2.2.2.2.2.2.2.1.2.1, (r2.2.1.2.2.2.2.2.2.2.2.1.2.2.1, ()))), ()))))))))), ()))))
      else
      none))
  else
  some (1, ((s.1.1, (s.1.2.1, (((), ((), ())), (s.1.2.2.2.1, ())))), ((s.2.1.1, ((s.2.1.2.1.1, (s.2.1.2.1.2.1, (s.2.1.2.1.2.2.1, (s.2.1.2.1.2.2.2.1, (s.2.1.2.1.2.2.2.2.1, ()))))), (s.2.1.2.2.1, (s.2.1.2.2.2.1, (s.2.1.2.2.2.2.1, (s.2.1.2.2.2.2.2.1, (s.2.1.2.2.2.2.2.2.1, (s.2.1.2.2.2.2.2.2.2.1, ((s.2.1.2.2.2.2.2.2.2.2.1.1, (s.2.1.2.2.2.2.2.2.2.2.1.2.1, (s.2.1.2.2.2.2.2.2.2.2.1.2.2.1, ()))), ()))))))))), ()))))
noncomputable def g52_ground_followed_run_l1_fuel (s : ((Int × (Int × ((Unit × (Unit × Unit)) × (Int × Unit)))) × ((E25 × (((List Int) × ((List Int) × ((List Int) × ((List Int) × ((List Int) × Unit))))) × (Int × (Int × (Int × (Int × ((List Int) × ((List Int) × ((Int × (Int × (Int × Unit))) × Unit))))))))) × Unit))) : Nat := Int.toNat (2 - s.1.2.2.2.1) + 1
noncomputable def g52_ground_followed_run_l1_run (s : ((Int × (Int × ((Unit × (Unit × Unit)) × (Int × Unit)))) × ((E25 × (((List Int) × ((List Int) × ((List Int) × ((List Int) × ((List Int) × Unit))))) × (Int × (Int × (Int × (Int × ((List Int) × ((List Int) × ((Int × (Int × (Int × Unit))) × Unit))))))))) × Unit))) : Option (Nat × ((Int × (Int × ((Unit × (Unit × Unit)) × (Int × Unit)))) × ((E25 × (((List Int) × ((List Int) × ((List Int) × ((List Int) × ((List Int) × Unit))))) × (Int × (Int × (Int × (Int × ((List Int) × ((List Int) × ((Int × (Int × (Int × Unit))) × Unit))))))))) × Unit))) := iter g52_ground_followed_run_l1_step (g52_ground_followed_run_l1_fuel s) s
noncomputable def g52_ground_followed_run_l1_L : LoopT := loopT g52_ground_followed_run_l1_S [.exit 2] g52_ground_followed_run_l1_run
noncomputable def g52_ground_followed_run_l0_S : SPat := ⟨[.fix (.bptr 0 []), .any, .any, .any, .any, .any, .any, .any, .any, .any, .dat (.int .i64), .dat (.int .i64), .any, .any, .any, .any, .any, .any, .any, .any, .any, .any, .any, .any, .any, .any, .any, .any, .any, .any], [.cons (.dat T25) (.cons (.cons (.dat (.list (.int .i64))) (.cons (.dat (.list (.int .i64))) (.cons (.dat (.list (.int .i64))) (.cons (.dat (.list (.int .i64))) (.cons (.dat (.list (.int .i64))) (.nil)))))) (.cons (.dat (.int .i64)) (.cons (.dat (.int .i64)) (.cons (.dat (.int .i64)) (.cons (.dat (.int .i64)) (.cons (.own 0 (.int .i64)) (.cons (.own 1 (.int .i64)) (.cons (.cons (.dat (.int .i64)) (.cons (.dat (.int .i64)) (.cons (.dat (.int .i64)) (.nil)))) (.nil)))))))))], 2⟩
noncomputable def g52_ground_followed_run_l0_step (s : ((Int × (Int × Unit)) × ((E25 × (((List Int) × ((List Int) × ((List Int) × ((List Int) × ((List Int) × Unit))))) × (Int × (Int × (Int × (Int × ((List Int) × ((List Int) × ((Int × (Int × (Int × Unit))) × Unit))))))))) × Unit))) : Option (Nat × ((Int × (Int × Unit)) × ((E25 × (((List Int) × ((List Int) × ((List Int) × ((List Int) × ((List Int) × Unit))))) × (Int × (Int × (Int × (Int × ((List Int) × ((List Int) × ((Int × (Int × (Int × Unit))) × Unit))))))))) × Unit))) :=
  (bif (decide (s.1.2.1 < s.1.1)) then
  (Option.bind (g52_ground_followed_run_l1_run ((s.1.1, (s.1.2.1, (((), ((), ())), (0, ())))), ((s.2.1.1, ((s.2.1.2.1.1, (s.2.1.2.1.2.1, (s.2.1.2.1.2.2.1, (s.2.1.2.1.2.2.2.1, (s.2.1.2.1.2.2.2.2.1, ()))))), (s.2.1.2.2.1, (s.1.2.1, (s.2.1.2.2.2.2.1, (s.2.1.2.2.2.2.2.1, (s.2.1.2.2.2.2.2.2.1, (s.2.1.2.2.2.2.2.2.2.1, ((s.2.1.2.2.2.2.2.2.2.2.1.1, (s.2.1.2.2.2.2.2.2.2.2.1.2.1, (s.2.1.2.2.2.2.2.2.2.2.1.2.2.1, ()))), ()))))))))), ()))) fun q3 =>
    some (0, ((q3.2.1.1, ((IntKind.wrap .i64 (q3.2.1.2.1 + 1)), ())), ((q3.2.2.1.1, ((q3.2.2.1.2.1.1, (q3.2.2.1.2.1.2.1, (q3.2.2.1.2.1.2.2.1, (q3.2.2.1.2.1.2.2.2.1, (q3.2.2.1.2.1.2.2.2.2.1, ()))))), (q3.2.2.1.2.2.1, (q3.2.2.1.2.2.2.1, (q3.2.2.1.2.2.2.2.1, (q3.2.2.1.2.2.2.2.2.1, (q3.2.2.1.2.2.2.2.2.2.1, (q3.2.2.1.2.2.2.2.2.2.2.1, ((q3.2.2.1.2.2.2.2.2.2.2.2.1.1, (q3.2.2.1.2.2.2.2.2.2.2.2.1.2.1, (q3.2.2.1.2.2.2.2.2.2.2.2.1.2.2.1, ()))), ()))))))))), ()))))
  else
  some (1, ((s.1.1, (s.1.2.1, ())), ((s.2.1.1, ((s.2.1.2.1.1, (s.2.1.2.1.2.1, (s.2.1.2.1.2.2.1, (s.2.1.2.1.2.2.2.1, (s.2.1.2.1.2.2.2.2.1, ()))))), (s.2.1.2.2.1, (s.2.1.2.2.2.1, (s.2.1.2.2.2.2.1, (s.2.1.2.2.2.2.2.1, (s.2.1.2.2.2.2.2.2.1, (s.2.1.2.2.2.2.2.2.2.1, ((s.2.1.2.2.2.2.2.2.2.2.1.1, (s.2.1.2.2.2.2.2.2.2.2.1.2.1, (s.2.1.2.2.2.2.2.2.2.2.1.2.2.1, ()))), ()))))))))), ()))))
noncomputable def g52_ground_followed_run_l0_fuel (s : ((Int × (Int × Unit)) × ((E25 × (((List Int) × ((List Int) × ((List Int) × ((List Int) × ((List Int) × Unit))))) × (Int × (Int × (Int × (Int × ((List Int) × ((List Int) × ((Int × (Int × (Int × Unit))) × Unit))))))))) × Unit))) : Nat := Int.toNat (s.1.1 - s.1.2.1) + 1
noncomputable def g52_ground_followed_run_l0_run (s : ((Int × (Int × Unit)) × ((E25 × (((List Int) × ((List Int) × ((List Int) × ((List Int) × ((List Int) × Unit))))) × (Int × (Int × (Int × (Int × ((List Int) × ((List Int) × ((Int × (Int × (Int × Unit))) × Unit))))))))) × Unit))) : Option (Nat × ((Int × (Int × Unit)) × ((E25 × (((List Int) × ((List Int) × ((List Int) × ((List Int) × ((List Int) × Unit))))) × (Int × (Int × (Int × (Int × ((List Int) × ((List Int) × ((Int × (Int × (Int × Unit))) × Unit))))))))) × Unit))) := iter g52_ground_followed_run_l0_step (g52_ground_followed_run_l0_fuel s) s
noncomputable def g52_ground_followed_run_l0_L : LoopT := loopT g52_ground_followed_run_l0_S [.exit 0] g52_ground_followed_run_l0_run
noncomputable def g52_ground_followed_run (b0 : (E25 × (((List Int) × ((List Int) × ((List Int) × ((List Int) × ((List Int) × Unit))))) × (Int × (Int × (Int × (Int × ((List Int) × ((List Int) × ((Int × (Int × (Int × Unit))) × Unit)))))))))) : Option (Unit × ((E25 × (((List Int) × ((List Int) × ((List Int) × ((List Int) × ((List Int) × Unit))))) × (Int × (Int × (Int × (Int × ((List Int) × ((List Int) × ((Int × (Int × (Int × Unit))) × Unit))))))))) × Unit)) :=
  (Option.bind (g52_ground_followed_run_l0_run (((List.length b0.2.1.2.2.1 : Int), (0, ())), ((b0.1, ((b0.2.1.1, (b0.2.1.2.1, (b0.2.1.2.2.1, (b0.2.1.2.2.2.1, (b0.2.1.2.2.2.2.1, ()))))), (b0.2.2.1, (b0.2.2.2.1, (b0.2.2.2.2.1, (b0.2.2.2.2.2.1, (b0.2.2.2.2.2.2.1, (b0.2.2.2.2.2.2.2.1, ((b0.2.2.2.2.2.2.2.2.1.1, (b0.2.2.2.2.2.2.2.2.1.2.1, (b0.2.2.2.2.2.2.2.2.1.2.2.1, ()))), ()))))))))), ()))) fun q4 =>
  some ((), ((q4.2.2.1.1, ((q4.2.2.1.2.1.1, (q4.2.2.1.2.1.2.1, (q4.2.2.1.2.1.2.2.1, (q4.2.2.1.2.1.2.2.2.1, (q4.2.2.1.2.1.2.2.2.2.1, ()))))), (q4.2.2.1.2.2.1, (q4.2.2.1.2.2.2.1, (q4.2.2.1.2.2.2.2.1, (q4.2.2.1.2.2.2.2.2.1, (q4.2.2.1.2.2.2.2.2.2.1, (q4.2.2.1.2.2.2.2.2.2.2.1, ((q4.2.2.1.2.2.2.2.2.2.2.2.1.1, (q4.2.2.1.2.2.2.2.2.2.2.2.1.2.1, (q4.2.2.1.2.2.2.2.2.2.2.2.1.2.2.1, ()))), ()))))))))), ())))
abbrev g52_ground_followed_run_CS : CSpec := ⟨[.fix (.bptr 0 [])], [.cons (.dat T25) (.cons (.cons (.dat (.list (.int .i64))) (.cons (.dat (.list (.int .i64))) (.cons (.dat (.list (.int .i64))) (.cons (.dat (.list (.int .i64))) (.cons (.dat (.list (.int .i64))) (.nil)))))) (.cons (.dat (.int .i64)) (.cons (.dat (.int .i64)) (.cons (.dat (.int .i64)) (.cons (.dat (.int .i64)) (.cons (.own 0 (.int .i64)) (.cons (.own 1 (.int .i64)) (.cons (.cons (.dat (.int .i64)) (.cons (.dat (.int .i64)) (.cons (.dat (.int .i64)) (.nil)))) (.nil)))))))))], 2, [.cons (.dat T25) (.cons (.cons (.dat (.list (.int .i64))) (.cons (.dat (.list (.int .i64))) (.cons (.dat (.list (.int .i64))) (.cons (.dat (.list (.int .i64))) (.cons (.dat (.list (.int .i64))) (.nil)))))) (.cons (.dat (.int .i64)) (.cons (.dat (.int .i64)) (.cons (.dat (.int .i64)) (.cons (.dat (.int .i64)) (.cons (.own 0 (.int .i64)) (.cons (.own 1 (.int .i64)) (.cons (.cons (.dat (.int .i64)) (.cons (.dat (.int .i64)) (.cons (.dat (.int .i64)) (.nil)))) (.nil)))))))))], 2, .fix (.bptr 0 [])⟩
noncomputable def g52_ground_followed_run_E : CEnt := boxE 52 g52_ground_followed_run_CS fun x => g52_ground_followed_run x.2.1
noncomputable def g52_ground_followed_run_l0_c : Code := loopAt (bodyOf Tryd.f52) 0
noncomputable def g52_ground_followed_run_l1_c : Code := loopAt g52_ground_followed_run_l0_c 0
theorem g52_ground_followed_run_l1_V : LValid 1 Tryd.prog (.loop g52_ground_followed_run_l1_c) g52_ground_followed_run_l1_L false := by
  have hb : ∀ s, codeR Tryd.prog g52_ground_followed_run_C g52_ground_followed_run_l1_c [] (g52_ground_followed_run_l1_S.encE s) (g52_ground_followed_run_l1_S.encB s) (kst g52_ground_followed_run_l1_S [.exit 2]) = g52_ground_followed_run_l1_step s := by
    intro s; kernel_rfl
  have hL : LV 1 Tryd.prog false (loopsOf g52_ground_followed_run_l1_c) [] := by unfold LV; cases loopsOf g52_ground_followed_run_l1_c <;> trivial
  exact loopT_valid (fuel := g52_ground_followed_run_l1_fuel) mixed g52_ground_followed_run_CV hL (by kernel_rfl) (by decide) rfl hb (fun s r h => h)
theorem g52_ground_followed_run_l0_V : LValid 1 Tryd.prog (.loop g52_ground_followed_run_l0_c) g52_ground_followed_run_l0_L false := by
  have hb : ∀ s, codeR Tryd.prog g52_ground_followed_run_C g52_ground_followed_run_l0_c [g52_ground_followed_run_l1_L] (g52_ground_followed_run_l0_S.encE s) (g52_ground_followed_run_l0_S.encB s) (kst g52_ground_followed_run_l0_S [.exit 0]) = g52_ground_followed_run_l0_step s := by
    intro s; kernel_rfl
  have hl : loopsOf g52_ground_followed_run_l0_c = [.loop g52_ground_followed_run_l1_c] := by kernel_rfl
  have hL : LV 1 Tryd.prog false (loopsOf g52_ground_followed_run_l0_c) [g52_ground_followed_run_l1_L] := by rw [hl]; exact ⟨g52_ground_followed_run_l1_V, trivial⟩
  exact loopT_valid (fuel := g52_ground_followed_run_l0_fuel) mixed g52_ground_followed_run_CV hL (by kernel_rfl) (by decide) rfl hb (fun s r h => h)
theorem g52_ground_followed_run_LV : LV 1 Tryd.prog false (loopsOf (bodyOf Tryd.f52)) [g52_ground_followed_run_l0_L] := by
  have hl : loopsOf (bodyOf Tryd.f52) = [.loop g52_ground_followed_run_l0_c] := by kernel_rfl
  rw [hl]; exact ⟨g52_ground_followed_run_l0_V, trivial⟩
theorem g52_ground_followed_run_ent : Ent Tryd.prog 52 := ⟨by decide, enters_of Tryd.func52 (by kernel_rfl) rfl⟩
theorem g52_ground_followed_run_hev : ∀ x : g52_ground_followed_run_CS.In, fnR Tryd.prog g52_ground_followed_run_C [g52_ground_followed_run_l0_L] Tryd.f52 (bodyOf Tryd.f52) (encs g52_ground_followed_run_CS.A x.1) ⟨encs g52_ground_followed_run_CS.I x.2, [], g52_ground_followed_run_CS.nt⟩ (finK g52_ground_followed_run_CS) = g52_ground_followed_run x.2.1 := by
  intro x; kernel_rfl
theorem g52_ground_followed_run_valid : g52_ground_followed_run_E.Valid Tryd.prog :=
  boxE_valid (S := g52_ground_followed_run_CS) (by kernel_rfl) (.inr g52_ground_followed_run_ent) (fn_lcall (S := g52_ground_followed_run_CS) mixed Tryd.func52 rfl g52_ground_followed_run_ent g52_ground_followed_run_CV g52_ground_followed_run_LV (by kernel_rfl) (by kernel_rfl) g52_ground_followed_run_hev)

noncomputable def g76_ground_end_C : CalT := tabC [g87_ground_ends_E, g89_ground_ends_E, g89_ground_ends_v1_E, g89_ground_ends_v2_E, g89_ground_ends_v3_E, g52_ground_followed_run_E]
theorem g76_ground_end_CV : CV Tryd.prog g76_ground_end_C := tabC_valid ⟨g87_ground_ends_valid, g89_ground_ends_valid, g89_ground_ends_v1_valid, g89_ground_ends_v2_valid, g89_ground_ends_v3_valid, g52_ground_followed_run_valid, trivial⟩
noncomputable def g76_ground_end (a0 : E25) (a1 : (List E72)) (a2 : Int) : Option E90 :=
  (Option.bind (g87_ground_ends a0.1) fun r1 =>
  (Option.bind (g89_ground_ends a1 a0) fun r2 =>
    (Option.bind (g89_ground_ends_v1 a1) fun r3 =>
      (Option.bind (g89_ground_ends_v2 a1) fun r4 =>
        (Option.bind (g89_ground_ends_v3 a1) fun r5 =>
          (Option.bind (g52_ground_followed_run (r2.2.1, ((r1.1, (r2.1, (r3.1, (r4.1, (r5.1, ()))))), (a2, (0, (0, (0, ([], ([], ((0, (0, (0, ()))), ())))))))))) fun r6 =>
            some (r6.2.1.1, ((r6.2.1.2.1.1, (r6.2.1.2.1.2.1, (r6.2.1.2.1.2.2.1, (r6.2.1.2.1.2.2.2.1, (r6.2.1.2.1.2.2.2.2.1, ()))))), (r6.2.1.2.2.1, (r6.2.1.2.2.2.1, (r6.2.1.2.2.2.2.1, (r6.2.1.2.2.2.2.2.1, (r6.2.1.2.2.2.2.2.2.1, (r6.2.1.2.2.2.2.2.2.2.1, ((r6.2.1.2.2.2.2.2.2.2.2.1.1, (r6.2.1.2.2.2.2.2.2.2.2.1.2.1, (r6.2.1.2.2.2.2.2.2.2.2.1.2.2.1, ()))), ())))))))))))))))
noncomputable def g76_ground_end_E : CEnt := pureE 76 [.dat T25, .dat (.list T72), .fix (.func (.func 77) .nil .nil), .fix (.func (.func 78) .nil .nil), .dat (.int .i64)] (.ip T90) fun x => g76_ground_end x.1 x.2.1 x.2.2.1
theorem g76_ground_end_LV : LV 0 Tryd.prog false (loopsOf (bodyOf Tryd.f76)) [] := by unfold LV; cases loopsOf (bodyOf Tryd.f76) <;> trivial
theorem g76_ground_end_ent : Ent Tryd.prog 76 := ⟨by decide, enters_of Tryd.func76 (by kernel_rfl) rfl⟩
theorem g76_ground_end_hev : ∀ x, fnR Tryd.prog g76_ground_end_C [] Tryd.f76 (bodyOf Tryd.f76) (encs [.dat T25, .dat (.list T72), .fix (.func (.func 77) .nil .nil), .fix (.func (.func 78) .nil .nil), .dat (.int .i64)] x) ⟨[], [], 0⟩ (frzF (.ip T90)) = g76_ground_end x.1 x.2.1 x.2.2.1 := by
  intro x; kernel_rfl
theorem g76_ground_end_valid : g76_ground_end_E.Valid Tryd.prog :=
  pureE_valid (by kernel_rfl) (by kernel_rfl) g76_ground_end_ent (frz_lcall mixed Tryd.func76 rfl g76_ground_end_ent g76_ground_end_CV g76_ground_end_LV (by kernel_rfl) (by kernel_rfl) g76_ground_end_hev)

noncomputable def g57_ground_least_C : CalT := tabC [g76_ground_end_E]
theorem g57_ground_least_CV : CV Tryd.prog g57_ground_least_C := tabC_valid ⟨g76_ground_end_valid, trivial⟩
noncomputable def g57_ground_least (a0 : E25) (a1 : (List E72)) : Option E90 :=
  (Option.bind (g76_ground_end a0 a1 0) fun r1 =>
  some r1)
noncomputable def g57_ground_least_E : CEnt := pureE 57 [.dat T25, .dat (.list T72)] (.ip T90) fun x => g57_ground_least x.1 x.2.1
theorem g57_ground_least_LV : LV 0 Tryd.prog false (loopsOf (bodyOf Tryd.f57)) [] := by unfold LV; cases loopsOf (bodyOf Tryd.f57) <;> trivial
theorem g57_ground_least_ent : Ent Tryd.prog 57 := ⟨by decide, enters_of Tryd.func57 (by kernel_rfl) rfl⟩
theorem g57_ground_least_hev : ∀ x, fnR Tryd.prog g57_ground_least_C [] Tryd.f57 (bodyOf Tryd.f57) (encs [.dat T25, .dat (.list T72)] x) ⟨[], [], 0⟩ (frzF (.ip T90)) = g57_ground_least x.1 x.2.1 := by
  intro x; kernel_rfl
theorem g57_ground_least_valid : g57_ground_least_E.Valid Tryd.prog :=
  pureE_valid (by kernel_rfl) (by kernel_rfl) g57_ground_least_ent (frz_lcall mixed Tryd.func57 rfl g57_ground_least_ent g57_ground_least_CV g57_ground_least_LV (by kernel_rfl) (by kernel_rfl) g57_ground_least_hev)

noncomputable def g88_ground_end_1_v1_C : CalT := tabC [g77_ground_low_E]
theorem g88_ground_end_1_v1_CV : CV Tryd.prog g88_ground_end_1_v1_C := tabC_valid ⟨g77_ground_low_valid, trivial⟩
noncomputable def g88_ground_end_1_v1 (a0 : E70) : Option (Int × Unit) :=
  (Option.bind (g77_ground_low a0.2.1) fun r1 =>
  some (r1, ()))
abbrev g88_ground_end_1_v1_CS : CSpec := ⟨[.dat T70, .fix (.bptr 0 [])], [.fix (.func (.func 77) .nil .nil)], 0, [.fix (.func (.func 77) .nil .nil)], 0, .dat (.int .i64)⟩
noncomputable def g88_ground_end_1_v1_E : CEnt := boxE 88 g88_ground_end_1_v1_CS fun x => g88_ground_end_1_v1 x.1.1
theorem g88_ground_end_1_v1_LV : LV 1 Tryd.prog false (loopsOf (bodyOf Tryd.f88)) [] := by unfold LV; cases loopsOf (bodyOf Tryd.f88) <;> trivial
theorem g88_ground_end_1_v1_ent : Ent Tryd.prog 88 := ⟨by decide, enters_of Tryd.func88 (by kernel_rfl) rfl⟩
theorem g88_ground_end_1_v1_hev : ∀ x : g88_ground_end_1_v1_CS.In, fnR Tryd.prog g88_ground_end_1_v1_C [] Tryd.f88 (bodyOf Tryd.f88) (encs g88_ground_end_1_v1_CS.A x.1) ⟨encs g88_ground_end_1_v1_CS.I x.2, [], g88_ground_end_1_v1_CS.nt⟩ (finK g88_ground_end_1_v1_CS) = g88_ground_end_1_v1 x.1.1 := by
  intro x; kernel_rfl
theorem g88_ground_end_1_v1_valid : g88_ground_end_1_v1_E.Valid Tryd.prog :=
  boxE_valid (S := g88_ground_end_1_v1_CS) (by kernel_rfl) (.inr g88_ground_end_1_v1_ent) (fn_lcall (S := g88_ground_end_1_v1_CS) mixed Tryd.func88 rfl g88_ground_end_1_v1_ent g88_ground_end_1_v1_CV g88_ground_end_1_v1_LV (by kernel_rfl) (by kernel_rfl) g88_ground_end_1_v1_hev)

noncomputable def g87_ground_ends_v1_C : CalT := tabC [g88_ground_end_1_v1_E]
theorem g87_ground_ends_v1_CV : CV Tryd.prog g87_ground_ends_v1_C := tabC_valid ⟨g88_ground_end_1_v1_valid, trivial⟩
noncomputable def g87_ground_ends_v1_l0_S : SPat := ⟨[.any, .fix (.func (.func 88) .nil (.cons (.bptr 0 []) .nil)), .any, .any, .any, .own 0 (.int .i64), .any, .any, .dat (.list T70), .dat (.int .i64), .dat (.int .i64), .any, .any, .any, .any, .any, .any, .any, .any, .any, .any, .any], [.fix (.func (.func 77) .nil .nil)], 1⟩
noncomputable def g87_ground_ends_v1_l0_step (s : (((List Int) × ((List E70) × (Int × (Int × Unit)))) × Unit)) : Option (Nat × (((List Int) × ((List E70) × (Int × (Int × Unit)))) × Unit)) :=
  (bif (decide (s.1.2.2.2.1 < s.1.2.2.1)) then
  (bif (decide (0 ≤ s.1.2.2.2.1) && decide (s.1.2.2.2.1 < (List.length s.1.2.1 : Int))) then
    (Option.bind (g88_ground_end_1_v1 (List.getD s.1.2.1 (Int.toNat s.1.2.2.2.1) (0, ((0, (0, ())), ())))) fun r1 =>
      (bif (decide (List.length s.1.1 + List.length [r1.1] ≤ LIM)) then
        some (0, (((s.1.1 ++ [r1.1]), (s.1.2.1, (s.1.2.2.1, ((IntKind.wrap .i64 (s.1.2.2.2.1 + 1)), ())))), ()))
        else
        none))
    else
    none)
  else
  some (1, ((s.1.1, (s.1.2.1, (s.1.2.2.1, (s.1.2.2.2.1, ())))), ())))
noncomputable def g87_ground_ends_v1_l0_fuel (s : (((List Int) × ((List E70) × (Int × (Int × Unit)))) × Unit)) : Nat := Int.toNat (s.1.2.2.1 - s.1.2.2.2.1) + 1
noncomputable def g87_ground_ends_v1_l0_run (s : (((List Int) × ((List E70) × (Int × (Int × Unit)))) × Unit)) : Option (Nat × (((List Int) × ((List E70) × (Int × (Int × Unit)))) × Unit)) := iter g87_ground_ends_v1_l0_step (g87_ground_ends_v1_l0_fuel s) s
noncomputable def g87_ground_ends_v1_l0_L : LoopT := loopT g87_ground_ends_v1_l0_S [.exit 0] g87_ground_ends_v1_l0_run
noncomputable def g87_ground_ends_v1 (a0 : (List E70)) : Option ((List Int) × Unit) :=
  (Option.bind (g87_ground_ends_v1_l0_run (([], (a0, ((List.length a0 : Int), (0, ())))), ())) fun q2 =>
  some (q2.2.1.1, ()))
abbrev g87_ground_ends_v1_CS : CSpec := ⟨[.dat (.list T70), .fix (.func (.func 88) .nil (.cons (.bptr 0 []) .nil))], [.fix (.func (.func 77) .nil .nil)], 0, [.fix (.func (.func 77) .nil .nil)], 0, .dat (.list (.int .i64))⟩
noncomputable def g87_ground_ends_v1_E : CEnt := boxE 87 g87_ground_ends_v1_CS fun x => g87_ground_ends_v1 x.1.1
noncomputable def g87_ground_ends_v1_l0_c : Code := loopAt (bodyOf Tryd.f87) 0
theorem g87_ground_ends_v1_l0_V : LValid 1 Tryd.prog (.loop g87_ground_ends_v1_l0_c) g87_ground_ends_v1_l0_L false := by
  have hb : ∀ s, codeR Tryd.prog g87_ground_ends_v1_C g87_ground_ends_v1_l0_c [] (g87_ground_ends_v1_l0_S.encE s) (g87_ground_ends_v1_l0_S.encB s) (kst g87_ground_ends_v1_l0_S [.exit 0]) = g87_ground_ends_v1_l0_step s := by
    intro s; kernel_rfl
  have hL : LV 1 Tryd.prog false (loopsOf g87_ground_ends_v1_l0_c) [] := by unfold LV; cases loopsOf g87_ground_ends_v1_l0_c <;> trivial
  exact loopT_valid (fuel := g87_ground_ends_v1_l0_fuel) mixed g87_ground_ends_v1_CV hL (by kernel_rfl) (by decide) rfl hb (fun s r h => h)
theorem g87_ground_ends_v1_LV : LV 1 Tryd.prog false (loopsOf (bodyOf Tryd.f87)) [g87_ground_ends_v1_l0_L] := by
  have hl : loopsOf (bodyOf Tryd.f87) = [.loop g87_ground_ends_v1_l0_c] := by kernel_rfl
  rw [hl]; exact ⟨g87_ground_ends_v1_l0_V, trivial⟩
theorem g87_ground_ends_v1_ent : Ent Tryd.prog 87 := ⟨by decide, enters_of Tryd.func87 (by kernel_rfl) rfl⟩
theorem g87_ground_ends_v1_hev : ∀ x : g87_ground_ends_v1_CS.In, fnR Tryd.prog g87_ground_ends_v1_C [g87_ground_ends_v1_l0_L] Tryd.f87 (bodyOf Tryd.f87) (encs g87_ground_ends_v1_CS.A x.1) ⟨encs g87_ground_ends_v1_CS.I x.2, [], g87_ground_ends_v1_CS.nt⟩ (finK g87_ground_ends_v1_CS) = g87_ground_ends_v1 x.1.1 := by
  intro x; kernel_rfl
theorem g87_ground_ends_v1_valid : g87_ground_ends_v1_E.Valid Tryd.prog :=
  boxE_valid (S := g87_ground_ends_v1_CS) (by kernel_rfl) (.inr g87_ground_ends_v1_ent) (fn_lcall (S := g87_ground_ends_v1_CS) mixed Tryd.func87 rfl g87_ground_ends_v1_ent g87_ground_ends_v1_CV g87_ground_ends_v1_LV (by kernel_rfl) (by kernel_rfl) g87_ground_ends_v1_hev)

noncomputable def g90_ground_end_2_v1_C : CalT := tabC [g78_ground_high_E]
theorem g90_ground_end_2_v1_CV : CV Tryd.prog g90_ground_end_2_v1_C := tabC_valid ⟨g78_ground_high_valid, trivial⟩
noncomputable def g90_ground_end_2_v1 (a0 : E72) (b1 : E25) : Option (Int × (E25 × Unit)) :=
  (Option.bind (g78_ground_high b1.2.1) fun r1 =>
  some (r1, (b1, ())))
abbrev g90_ground_end_2_v1_CS : CSpec := ⟨[.dat T72, .fix (.bptr 0 []), .fix (.bptr 1 [])], [.fix (.func (.func 78) .nil .nil), .dat T25], 0, [.fix (.func (.func 78) .nil .nil), .dat T25], 0, .dat (.int .i64)⟩
noncomputable def g90_ground_end_2_v1_E : CEnt := boxE 90 g90_ground_end_2_v1_CS fun x => g90_ground_end_2_v1 x.1.1 x.2.1
theorem g90_ground_end_2_v1_LV : LV 2 Tryd.prog false (loopsOf (bodyOf Tryd.f90)) [] := by unfold LV; cases loopsOf (bodyOf Tryd.f90) <;> trivial
theorem g90_ground_end_2_v1_ent : Ent Tryd.prog 90 := ⟨by decide, enters_of Tryd.func90 (by kernel_rfl) rfl⟩
theorem g90_ground_end_2_v1_hev : ∀ x : g90_ground_end_2_v1_CS.In, fnR Tryd.prog g90_ground_end_2_v1_C [] Tryd.f90 (bodyOf Tryd.f90) (encs g90_ground_end_2_v1_CS.A x.1) ⟨encs g90_ground_end_2_v1_CS.I x.2, [], g90_ground_end_2_v1_CS.nt⟩ (finK g90_ground_end_2_v1_CS) = g90_ground_end_2_v1 x.1.1 x.2.1 := by
  intro x; kernel_rfl
theorem g90_ground_end_2_v1_valid : g90_ground_end_2_v1_E.Valid Tryd.prog :=
  boxE_valid (S := g90_ground_end_2_v1_CS) (by kernel_rfl) (.inr g90_ground_end_2_v1_ent) (fn_lcall (S := g90_ground_end_2_v1_CS) mixed Tryd.func90 rfl g90_ground_end_2_v1_ent g90_ground_end_2_v1_CV g90_ground_end_2_v1_LV (by kernel_rfl) (by kernel_rfl) g90_ground_end_2_v1_hev)

noncomputable def g89_ground_ends_v4_C : CalT := tabC [g90_ground_end_2_v1_E]
theorem g89_ground_ends_v4_CV : CV Tryd.prog g89_ground_ends_v4_C := tabC_valid ⟨g90_ground_end_2_v1_valid, trivial⟩
noncomputable def g89_ground_ends_v4_l0_S : SPat := ⟨[.any, .fix (.func (.func 90) .nil (.cons (.bptr 0 []) (.cons (.bptr 1 []) .nil))), .any, .any, .any, .own 0 (.int .i64), .any, .any, .dat (.list T72), .dat (.int .i64), .dat (.int .i64), .any, .any, .any, .any, .any, .any, .any, .any, .any, .any, .any], [.fix (.func (.func 78) .nil .nil), .dat T25], 1⟩
noncomputable def g89_ground_ends_v4_l0_step (s : (((List Int) × ((List E72) × (Int × (Int × Unit)))) × (E25 × Unit))) : Option (Nat × (((List Int) × ((List E72) × (Int × (Int × Unit)))) × (E25 × Unit))) :=
  (bif (decide (s.1.2.2.2.1 < s.1.2.2.1)) then
  (bif (decide (0 ≤ s.1.2.2.2.1) && decide (s.1.2.2.2.1 < (List.length s.1.2.1 : Int))) then
    (Option.bind (g90_ground_end_2_v1 (List.getD s.1.2.1 (Int.toNat s.1.2.2.2.1) ((0, (0, ())), ((0, (0, ())), ((0, (0, ())), ())))) s.2.1) fun r1 =>
      (bif (decide (List.length s.1.1 + List.length [r1.1] ≤ LIM)) then
        some (0, (((s.1.1 ++ [r1.1]), (s.1.2.1, (s.1.2.2.1, ((IntKind.wrap .i64 (s.1.2.2.2.1 + 1)), ())))), (r1.2.1, ())))
        else
        none))
    else
    none)
  else
  some (1, ((s.1.1, (s.1.2.1, (s.1.2.2.1, (s.1.2.2.2.1, ())))), (s.2.1, ()))))
noncomputable def g89_ground_ends_v4_l0_fuel (s : (((List Int) × ((List E72) × (Int × (Int × Unit)))) × (E25 × Unit))) : Nat := Int.toNat (s.1.2.2.1 - s.1.2.2.2.1) + 1
noncomputable def g89_ground_ends_v4_l0_run (s : (((List Int) × ((List E72) × (Int × (Int × Unit)))) × (E25 × Unit))) : Option (Nat × (((List Int) × ((List E72) × (Int × (Int × Unit)))) × (E25 × Unit))) := iter g89_ground_ends_v4_l0_step (g89_ground_ends_v4_l0_fuel s) s
noncomputable def g89_ground_ends_v4_l0_L : LoopT := loopT g89_ground_ends_v4_l0_S [.exit 0] g89_ground_ends_v4_l0_run
noncomputable def g89_ground_ends_v4 (a0 : (List E72)) (b1 : E25) : Option ((List Int) × (E25 × Unit)) :=
  (Option.bind (g89_ground_ends_v4_l0_run (([], (a0, ((List.length a0 : Int), (0, ())))), (b1, ()))) fun q2 =>
  some (q2.2.1.1, (q2.2.2.1, ())))
abbrev g89_ground_ends_v4_CS : CSpec := ⟨[.dat (.list T72), .fix (.func (.func 90) .nil (.cons (.bptr 0 []) (.cons (.bptr 1 []) .nil)))], [.fix (.func (.func 78) .nil .nil), .dat T25], 0, [.fix (.func (.func 78) .nil .nil), .dat T25], 0, .dat (.list (.int .i64))⟩
noncomputable def g89_ground_ends_v4_E : CEnt := boxE 89 g89_ground_ends_v4_CS fun x => g89_ground_ends_v4 x.1.1 x.2.1
noncomputable def g89_ground_ends_v4_l0_c : Code := loopAt (bodyOf Tryd.f89) 0
theorem g89_ground_ends_v4_l0_V : LValid 2 Tryd.prog (.loop g89_ground_ends_v4_l0_c) g89_ground_ends_v4_l0_L false := by
  have hb : ∀ s, codeR Tryd.prog g89_ground_ends_v4_C g89_ground_ends_v4_l0_c [] (g89_ground_ends_v4_l0_S.encE s) (g89_ground_ends_v4_l0_S.encB s) (kst g89_ground_ends_v4_l0_S [.exit 0]) = g89_ground_ends_v4_l0_step s := by
    intro s; kernel_rfl
  have hL : LV 2 Tryd.prog false (loopsOf g89_ground_ends_v4_l0_c) [] := by unfold LV; cases loopsOf g89_ground_ends_v4_l0_c <;> trivial
  exact loopT_valid (fuel := g89_ground_ends_v4_l0_fuel) mixed g89_ground_ends_v4_CV hL (by kernel_rfl) (by decide) rfl hb (fun s r h => h)
theorem g89_ground_ends_v4_LV : LV 2 Tryd.prog false (loopsOf (bodyOf Tryd.f89)) [g89_ground_ends_v4_l0_L] := by
  have hl : loopsOf (bodyOf Tryd.f89) = [.loop g89_ground_ends_v4_l0_c] := by kernel_rfl
  rw [hl]; exact ⟨g89_ground_ends_v4_l0_V, trivial⟩
theorem g89_ground_ends_v4_ent : Ent Tryd.prog 89 := ⟨by decide, enters_of Tryd.func89 (by kernel_rfl) rfl⟩
theorem g89_ground_ends_v4_hev : ∀ x : g89_ground_ends_v4_CS.In, fnR Tryd.prog g89_ground_ends_v4_C [g89_ground_ends_v4_l0_L] Tryd.f89 (bodyOf Tryd.f89) (encs g89_ground_ends_v4_CS.A x.1) ⟨encs g89_ground_ends_v4_CS.I x.2, [], g89_ground_ends_v4_CS.nt⟩ (finK g89_ground_ends_v4_CS) = g89_ground_ends_v4 x.1.1 x.2.1 := by
  intro x; kernel_rfl
theorem g89_ground_ends_v4_valid : g89_ground_ends_v4_E.Valid Tryd.prog :=
  boxE_valid (S := g89_ground_ends_v4_CS) (by kernel_rfl) (.inr g89_ground_ends_v4_ent) (fn_lcall (S := g89_ground_ends_v4_CS) mixed Tryd.func89 rfl g89_ground_ends_v4_ent g89_ground_ends_v4_CV g89_ground_ends_v4_LV (by kernel_rfl) (by kernel_rfl) g89_ground_ends_v4_hev)

noncomputable def g91_ground_end_3_v1_C : CalT := tabC [g78_ground_high_E]
theorem g91_ground_end_3_v1_CV : CV Tryd.prog g91_ground_end_3_v1_C := tabC_valid ⟨g78_ground_high_valid, trivial⟩
noncomputable def g91_ground_end_3_v1 (a0 : E72) : Option (Int × Unit) :=
  (Option.bind (g78_ground_high a0.1) fun r1 =>
  some (r1, ()))
abbrev g91_ground_end_3_v1_CS : CSpec := ⟨[.dat T72, .fix (.bptr 0 [])], [.fix (.func (.func 78) .nil .nil)], 0, [.fix (.func (.func 78) .nil .nil)], 0, .dat (.int .i64)⟩
noncomputable def g91_ground_end_3_v1_E : CEnt := boxE 91 g91_ground_end_3_v1_CS fun x => g91_ground_end_3_v1 x.1.1
theorem g91_ground_end_3_v1_LV : LV 1 Tryd.prog false (loopsOf (bodyOf Tryd.f91)) [] := by unfold LV; cases loopsOf (bodyOf Tryd.f91) <;> trivial
theorem g91_ground_end_3_v1_ent : Ent Tryd.prog 91 := ⟨by decide, enters_of Tryd.func91 (by kernel_rfl) rfl⟩
theorem g91_ground_end_3_v1_hev : ∀ x : g91_ground_end_3_v1_CS.In, fnR Tryd.prog g91_ground_end_3_v1_C [] Tryd.f91 (bodyOf Tryd.f91) (encs g91_ground_end_3_v1_CS.A x.1) ⟨encs g91_ground_end_3_v1_CS.I x.2, [], g91_ground_end_3_v1_CS.nt⟩ (finK g91_ground_end_3_v1_CS) = g91_ground_end_3_v1 x.1.1 := by
  intro x; kernel_rfl
theorem g91_ground_end_3_v1_valid : g91_ground_end_3_v1_E.Valid Tryd.prog :=
  boxE_valid (S := g91_ground_end_3_v1_CS) (by kernel_rfl) (.inr g91_ground_end_3_v1_ent) (fn_lcall (S := g91_ground_end_3_v1_CS) mixed Tryd.func91 rfl g91_ground_end_3_v1_ent g91_ground_end_3_v1_CV g91_ground_end_3_v1_LV (by kernel_rfl) (by kernel_rfl) g91_ground_end_3_v1_hev)

noncomputable def g89_ground_ends_v5_C : CalT := tabC [g91_ground_end_3_v1_E]
theorem g89_ground_ends_v5_CV : CV Tryd.prog g89_ground_ends_v5_C := tabC_valid ⟨g91_ground_end_3_v1_valid, trivial⟩
noncomputable def g89_ground_ends_v5_l0_S : SPat := ⟨[.any, .fix (.func (.func 91) .nil (.cons (.bptr 0 []) .nil)), .any, .any, .any, .own 0 (.int .i64), .any, .any, .dat (.list T72), .dat (.int .i64), .dat (.int .i64), .any, .any, .any, .any, .any, .any, .any, .any, .any, .any, .any], [.fix (.func (.func 78) .nil .nil)], 1⟩
noncomputable def g89_ground_ends_v5_l0_step (s : (((List Int) × ((List E72) × (Int × (Int × Unit)))) × Unit)) : Option (Nat × (((List Int) × ((List E72) × (Int × (Int × Unit)))) × Unit)) :=
  (bif (decide (s.1.2.2.2.1 < s.1.2.2.1)) then
  (bif (decide (0 ≤ s.1.2.2.2.1) && decide (s.1.2.2.2.1 < (List.length s.1.2.1 : Int))) then
    (Option.bind (g91_ground_end_3_v1 (List.getD s.1.2.1 (Int.toNat s.1.2.2.2.1) ((0, (0, ())), ((0, (0, ())), ((0, (0, ())), ()))))) fun r1 =>
      (bif (decide (List.length s.1.1 + List.length [r1.1] ≤ LIM)) then
        some (0, (((s.1.1 ++ [r1.1]), (s.1.2.1, (s.1.2.2.1, ((IntKind.wrap .i64 (s.1.2.2.2.1 + 1)), ())))), ()))
        else
        none))
    else
    none)
  else
  some (1, ((s.1.1, (s.1.2.1, (s.1.2.2.1, (s.1.2.2.2.1, ())))), ())))
noncomputable def g89_ground_ends_v5_l0_fuel (s : (((List Int) × ((List E72) × (Int × (Int × Unit)))) × Unit)) : Nat := Int.toNat (s.1.2.2.1 - s.1.2.2.2.1) + 1
noncomputable def g89_ground_ends_v5_l0_run (s : (((List Int) × ((List E72) × (Int × (Int × Unit)))) × Unit)) : Option (Nat × (((List Int) × ((List E72) × (Int × (Int × Unit)))) × Unit)) := iter g89_ground_ends_v5_l0_step (g89_ground_ends_v5_l0_fuel s) s
noncomputable def g89_ground_ends_v5_l0_L : LoopT := loopT g89_ground_ends_v5_l0_S [.exit 0] g89_ground_ends_v5_l0_run
noncomputable def g89_ground_ends_v5 (a0 : (List E72)) : Option ((List Int) × Unit) :=
  (Option.bind (g89_ground_ends_v5_l0_run (([], (a0, ((List.length a0 : Int), (0, ())))), ())) fun q2 =>
  some (q2.2.1.1, ()))
abbrev g89_ground_ends_v5_CS : CSpec := ⟨[.dat (.list T72), .fix (.func (.func 91) .nil (.cons (.bptr 0 []) .nil))], [.fix (.func (.func 78) .nil .nil)], 0, [.fix (.func (.func 78) .nil .nil)], 0, .dat (.list (.int .i64))⟩
noncomputable def g89_ground_ends_v5_E : CEnt := boxE 89 g89_ground_ends_v5_CS fun x => g89_ground_ends_v5 x.1.1
noncomputable def g89_ground_ends_v5_l0_c : Code := loopAt (bodyOf Tryd.f89) 0
theorem g89_ground_ends_v5_l0_V : LValid 1 Tryd.prog (.loop g89_ground_ends_v5_l0_c) g89_ground_ends_v5_l0_L false := by
  have hb : ∀ s, codeR Tryd.prog g89_ground_ends_v5_C g89_ground_ends_v5_l0_c [] (g89_ground_ends_v5_l0_S.encE s) (g89_ground_ends_v5_l0_S.encB s) (kst g89_ground_ends_v5_l0_S [.exit 0]) = g89_ground_ends_v5_l0_step s := by
    intro s; kernel_rfl
  have hL : LV 1 Tryd.prog false (loopsOf g89_ground_ends_v5_l0_c) [] := by unfold LV; cases loopsOf g89_ground_ends_v5_l0_c <;> trivial
  exact loopT_valid (fuel := g89_ground_ends_v5_l0_fuel) mixed g89_ground_ends_v5_CV hL (by kernel_rfl) (by decide) rfl hb (fun s r h => h)
theorem g89_ground_ends_v5_LV : LV 1 Tryd.prog false (loopsOf (bodyOf Tryd.f89)) [g89_ground_ends_v5_l0_L] := by
  have hl : loopsOf (bodyOf Tryd.f89) = [.loop g89_ground_ends_v5_l0_c] := by kernel_rfl
  rw [hl]; exact ⟨g89_ground_ends_v5_l0_V, trivial⟩
theorem g89_ground_ends_v5_ent : Ent Tryd.prog 89 := ⟨by decide, enters_of Tryd.func89 (by kernel_rfl) rfl⟩
theorem g89_ground_ends_v5_hev : ∀ x : g89_ground_ends_v5_CS.In, fnR Tryd.prog g89_ground_ends_v5_C [g89_ground_ends_v5_l0_L] Tryd.f89 (bodyOf Tryd.f89) (encs g89_ground_ends_v5_CS.A x.1) ⟨encs g89_ground_ends_v5_CS.I x.2, [], g89_ground_ends_v5_CS.nt⟩ (finK g89_ground_ends_v5_CS) = g89_ground_ends_v5 x.1.1 := by
  intro x; kernel_rfl
theorem g89_ground_ends_v5_valid : g89_ground_ends_v5_E.Valid Tryd.prog :=
  boxE_valid (S := g89_ground_ends_v5_CS) (by kernel_rfl) (.inr g89_ground_ends_v5_ent) (fn_lcall (S := g89_ground_ends_v5_CS) mixed Tryd.func89 rfl g89_ground_ends_v5_ent g89_ground_ends_v5_CV g89_ground_ends_v5_LV (by kernel_rfl) (by kernel_rfl) g89_ground_ends_v5_hev)

noncomputable def g92_ground_end_4_v1_C : CalT := tabC [g77_ground_low_E]
theorem g92_ground_end_4_v1_CV : CV Tryd.prog g92_ground_end_4_v1_C := tabC_valid ⟨g77_ground_low_valid, trivial⟩
noncomputable def g92_ground_end_4_v1 (a0 : E72) : Option (Int × Unit) :=
  (Option.bind (g77_ground_low a0.2.1) fun r1 =>
  some (r1, ()))
abbrev g92_ground_end_4_v1_CS : CSpec := ⟨[.dat T72, .fix (.bptr 0 [])], [.fix (.func (.func 77) .nil .nil)], 0, [.fix (.func (.func 77) .nil .nil)], 0, .dat (.int .i64)⟩
noncomputable def g92_ground_end_4_v1_E : CEnt := boxE 92 g92_ground_end_4_v1_CS fun x => g92_ground_end_4_v1 x.1.1
theorem g92_ground_end_4_v1_LV : LV 1 Tryd.prog false (loopsOf (bodyOf Tryd.f92)) [] := by unfold LV; cases loopsOf (bodyOf Tryd.f92) <;> trivial
theorem g92_ground_end_4_v1_ent : Ent Tryd.prog 92 := ⟨by decide, enters_of Tryd.func92 (by kernel_rfl) rfl⟩
theorem g92_ground_end_4_v1_hev : ∀ x : g92_ground_end_4_v1_CS.In, fnR Tryd.prog g92_ground_end_4_v1_C [] Tryd.f92 (bodyOf Tryd.f92) (encs g92_ground_end_4_v1_CS.A x.1) ⟨encs g92_ground_end_4_v1_CS.I x.2, [], g92_ground_end_4_v1_CS.nt⟩ (finK g92_ground_end_4_v1_CS) = g92_ground_end_4_v1 x.1.1 := by
  intro x; kernel_rfl
theorem g92_ground_end_4_v1_valid : g92_ground_end_4_v1_E.Valid Tryd.prog :=
  boxE_valid (S := g92_ground_end_4_v1_CS) (by kernel_rfl) (.inr g92_ground_end_4_v1_ent) (fn_lcall (S := g92_ground_end_4_v1_CS) mixed Tryd.func92 rfl g92_ground_end_4_v1_ent g92_ground_end_4_v1_CV g92_ground_end_4_v1_LV (by kernel_rfl) (by kernel_rfl) g92_ground_end_4_v1_hev)

noncomputable def g89_ground_ends_v6_C : CalT := tabC [g92_ground_end_4_v1_E]
theorem g89_ground_ends_v6_CV : CV Tryd.prog g89_ground_ends_v6_C := tabC_valid ⟨g92_ground_end_4_v1_valid, trivial⟩
noncomputable def g89_ground_ends_v6_l0_S : SPat := ⟨[.any, .fix (.func (.func 92) .nil (.cons (.bptr 0 []) .nil)), .any, .any, .any, .own 0 (.int .i64), .any, .any, .dat (.list T72), .dat (.int .i64), .dat (.int .i64), .any, .any, .any, .any, .any, .any, .any, .any, .any, .any, .any], [.fix (.func (.func 77) .nil .nil)], 1⟩
noncomputable def g89_ground_ends_v6_l0_step (s : (((List Int) × ((List E72) × (Int × (Int × Unit)))) × Unit)) : Option (Nat × (((List Int) × ((List E72) × (Int × (Int × Unit)))) × Unit)) :=
  (bif (decide (s.1.2.2.2.1 < s.1.2.2.1)) then
  (bif (decide (0 ≤ s.1.2.2.2.1) && decide (s.1.2.2.2.1 < (List.length s.1.2.1 : Int))) then
    (Option.bind (g92_ground_end_4_v1 (List.getD s.1.2.1 (Int.toNat s.1.2.2.2.1) ((0, (0, ())), ((0, (0, ())), ((0, (0, ())), ()))))) fun r1 =>
      (bif (decide (List.length s.1.1 + List.length [r1.1] ≤ LIM)) then
        some (0, (((s.1.1 ++ [r1.1]), (s.1.2.1, (s.1.2.2.1, ((IntKind.wrap .i64 (s.1.2.2.2.1 + 1)), ())))), ()))
        else
        none))
    else
    none)
  else
  some (1, ((s.1.1, (s.1.2.1, (s.1.2.2.1, (s.1.2.2.2.1, ())))), ())))
noncomputable def g89_ground_ends_v6_l0_fuel (s : (((List Int) × ((List E72) × (Int × (Int × Unit)))) × Unit)) : Nat := Int.toNat (s.1.2.2.1 - s.1.2.2.2.1) + 1
noncomputable def g89_ground_ends_v6_l0_run (s : (((List Int) × ((List E72) × (Int × (Int × Unit)))) × Unit)) : Option (Nat × (((List Int) × ((List E72) × (Int × (Int × Unit)))) × Unit)) := iter g89_ground_ends_v6_l0_step (g89_ground_ends_v6_l0_fuel s) s
noncomputable def g89_ground_ends_v6_l0_L : LoopT := loopT g89_ground_ends_v6_l0_S [.exit 0] g89_ground_ends_v6_l0_run
noncomputable def g89_ground_ends_v6 (a0 : (List E72)) : Option ((List Int) × Unit) :=
  (Option.bind (g89_ground_ends_v6_l0_run (([], (a0, ((List.length a0 : Int), (0, ())))), ())) fun q2 =>
  some (q2.2.1.1, ()))
abbrev g89_ground_ends_v6_CS : CSpec := ⟨[.dat (.list T72), .fix (.func (.func 92) .nil (.cons (.bptr 0 []) .nil))], [.fix (.func (.func 77) .nil .nil)], 0, [.fix (.func (.func 77) .nil .nil)], 0, .dat (.list (.int .i64))⟩
noncomputable def g89_ground_ends_v6_E : CEnt := boxE 89 g89_ground_ends_v6_CS fun x => g89_ground_ends_v6 x.1.1
noncomputable def g89_ground_ends_v6_l0_c : Code := loopAt (bodyOf Tryd.f89) 0
theorem g89_ground_ends_v6_l0_V : LValid 1 Tryd.prog (.loop g89_ground_ends_v6_l0_c) g89_ground_ends_v6_l0_L false := by
  have hb : ∀ s, codeR Tryd.prog g89_ground_ends_v6_C g89_ground_ends_v6_l0_c [] (g89_ground_ends_v6_l0_S.encE s) (g89_ground_ends_v6_l0_S.encB s) (kst g89_ground_ends_v6_l0_S [.exit 0]) = g89_ground_ends_v6_l0_step s := by
    intro s; kernel_rfl
  have hL : LV 1 Tryd.prog false (loopsOf g89_ground_ends_v6_l0_c) [] := by unfold LV; cases loopsOf g89_ground_ends_v6_l0_c <;> trivial
  exact loopT_valid (fuel := g89_ground_ends_v6_l0_fuel) mixed g89_ground_ends_v6_CV hL (by kernel_rfl) (by decide) rfl hb (fun s r h => h)
theorem g89_ground_ends_v6_LV : LV 1 Tryd.prog false (loopsOf (bodyOf Tryd.f89)) [g89_ground_ends_v6_l0_L] := by
  have hl : loopsOf (bodyOf Tryd.f89) = [.loop g89_ground_ends_v6_l0_c] := by kernel_rfl
  rw [hl]; exact ⟨g89_ground_ends_v6_l0_V, trivial⟩
theorem g89_ground_ends_v6_ent : Ent Tryd.prog 89 := ⟨by decide, enters_of Tryd.func89 (by kernel_rfl) rfl⟩
theorem g89_ground_ends_v6_hev : ∀ x : g89_ground_ends_v6_CS.In, fnR Tryd.prog g89_ground_ends_v6_C [g89_ground_ends_v6_l0_L] Tryd.f89 (bodyOf Tryd.f89) (encs g89_ground_ends_v6_CS.A x.1) ⟨encs g89_ground_ends_v6_CS.I x.2, [], g89_ground_ends_v6_CS.nt⟩ (finK g89_ground_ends_v6_CS) = g89_ground_ends_v6 x.1.1 := by
  intro x; kernel_rfl
theorem g89_ground_ends_v6_valid : g89_ground_ends_v6_E.Valid Tryd.prog :=
  boxE_valid (S := g89_ground_ends_v6_CS) (by kernel_rfl) (.inr g89_ground_ends_v6_ent) (fn_lcall (S := g89_ground_ends_v6_CS) mixed Tryd.func89 rfl g89_ground_ends_v6_ent g89_ground_ends_v6_CV g89_ground_ends_v6_LV (by kernel_rfl) (by kernel_rfl) g89_ground_ends_v6_hev)

noncomputable def g93_ground_end_5_v1_C : CalT := tabC [g78_ground_high_E]
theorem g93_ground_end_5_v1_CV : CV Tryd.prog g93_ground_end_5_v1_C := tabC_valid ⟨g78_ground_high_valid, trivial⟩
noncomputable def g93_ground_end_5_v1 (a0 : E72) : Option (Int × Unit) :=
  (Option.bind (g78_ground_high a0.2.2.1) fun r1 =>
  some (r1, ()))
abbrev g93_ground_end_5_v1_CS : CSpec := ⟨[.dat T72, .fix (.bptr 0 [])], [.fix (.func (.func 78) .nil .nil)], 0, [.fix (.func (.func 78) .nil .nil)], 0, .dat (.int .i64)⟩
noncomputable def g93_ground_end_5_v1_E : CEnt := boxE 93 g93_ground_end_5_v1_CS fun x => g93_ground_end_5_v1 x.1.1
theorem g93_ground_end_5_v1_LV : LV 1 Tryd.prog false (loopsOf (bodyOf Tryd.f93)) [] := by unfold LV; cases loopsOf (bodyOf Tryd.f93) <;> trivial
theorem g93_ground_end_5_v1_ent : Ent Tryd.prog 93 := ⟨by decide, enters_of Tryd.func93 (by kernel_rfl) rfl⟩
theorem g93_ground_end_5_v1_hev : ∀ x : g93_ground_end_5_v1_CS.In, fnR Tryd.prog g93_ground_end_5_v1_C [] Tryd.f93 (bodyOf Tryd.f93) (encs g93_ground_end_5_v1_CS.A x.1) ⟨encs g93_ground_end_5_v1_CS.I x.2, [], g93_ground_end_5_v1_CS.nt⟩ (finK g93_ground_end_5_v1_CS) = g93_ground_end_5_v1 x.1.1 := by
  intro x; kernel_rfl
theorem g93_ground_end_5_v1_valid : g93_ground_end_5_v1_E.Valid Tryd.prog :=
  boxE_valid (S := g93_ground_end_5_v1_CS) (by kernel_rfl) (.inr g93_ground_end_5_v1_ent) (fn_lcall (S := g93_ground_end_5_v1_CS) mixed Tryd.func93 rfl g93_ground_end_5_v1_ent g93_ground_end_5_v1_CV g93_ground_end_5_v1_LV (by kernel_rfl) (by kernel_rfl) g93_ground_end_5_v1_hev)

noncomputable def g89_ground_ends_v7_C : CalT := tabC [g93_ground_end_5_v1_E]
theorem g89_ground_ends_v7_CV : CV Tryd.prog g89_ground_ends_v7_C := tabC_valid ⟨g93_ground_end_5_v1_valid, trivial⟩
noncomputable def g89_ground_ends_v7_l0_S : SPat := ⟨[.any, .fix (.func (.func 93) .nil (.cons (.bptr 0 []) .nil)), .any, .any, .any, .own 0 (.int .i64), .any, .any, .dat (.list T72), .dat (.int .i64), .dat (.int .i64), .any, .any, .any, .any, .any, .any, .any, .any, .any, .any, .any], [.fix (.func (.func 78) .nil .nil)], 1⟩
noncomputable def g89_ground_ends_v7_l0_step (s : (((List Int) × ((List E72) × (Int × (Int × Unit)))) × Unit)) : Option (Nat × (((List Int) × ((List E72) × (Int × (Int × Unit)))) × Unit)) :=
  (bif (decide (s.1.2.2.2.1 < s.1.2.2.1)) then
  (bif (decide (0 ≤ s.1.2.2.2.1) && decide (s.1.2.2.2.1 < (List.length s.1.2.1 : Int))) then
    (Option.bind (g93_ground_end_5_v1 (List.getD s.1.2.1 (Int.toNat s.1.2.2.2.1) ((0, (0, ())), ((0, (0, ())), ((0, (0, ())), ()))))) fun r1 =>
      (bif (decide (List.length s.1.1 + List.length [r1.1] ≤ LIM)) then
        some (0, (((s.1.1 ++ [r1.1]), (s.1.2.1, (s.1.2.2.1, ((IntKind.wrap .i64 (s.1.2.2.2.1 + 1)), ())))), ()))
        else
        none))
    else
    none)
  else
  some (1, ((s.1.1, (s.1.2.1, (s.1.2.2.1, (s.1.2.2.2.1, ())))), ())))
noncomputable def g89_ground_ends_v7_l0_fuel (s : (((List Int) × ((List E72) × (Int × (Int × Unit)))) × Unit)) : Nat := Int.toNat (s.1.2.2.1 - s.1.2.2.2.1) + 1
noncomputable def g89_ground_ends_v7_l0_run (s : (((List Int) × ((List E72) × (Int × (Int × Unit)))) × Unit)) : Option (Nat × (((List Int) × ((List E72) × (Int × (Int × Unit)))) × Unit)) := iter g89_ground_ends_v7_l0_step (g89_ground_ends_v7_l0_fuel s) s
noncomputable def g89_ground_ends_v7_l0_L : LoopT := loopT g89_ground_ends_v7_l0_S [.exit 0] g89_ground_ends_v7_l0_run
noncomputable def g89_ground_ends_v7 (a0 : (List E72)) : Option ((List Int) × Unit) :=
  (Option.bind (g89_ground_ends_v7_l0_run (([], (a0, ((List.length a0 : Int), (0, ())))), ())) fun q2 =>
  some (q2.2.1.1, ()))
abbrev g89_ground_ends_v7_CS : CSpec := ⟨[.dat (.list T72), .fix (.func (.func 93) .nil (.cons (.bptr 0 []) .nil))], [.fix (.func (.func 78) .nil .nil)], 0, [.fix (.func (.func 78) .nil .nil)], 0, .dat (.list (.int .i64))⟩
noncomputable def g89_ground_ends_v7_E : CEnt := boxE 89 g89_ground_ends_v7_CS fun x => g89_ground_ends_v7 x.1.1
noncomputable def g89_ground_ends_v7_l0_c : Code := loopAt (bodyOf Tryd.f89) 0
theorem g89_ground_ends_v7_l0_V : LValid 1 Tryd.prog (.loop g89_ground_ends_v7_l0_c) g89_ground_ends_v7_l0_L false := by
  have hb : ∀ s, codeR Tryd.prog g89_ground_ends_v7_C g89_ground_ends_v7_l0_c [] (g89_ground_ends_v7_l0_S.encE s) (g89_ground_ends_v7_l0_S.encB s) (kst g89_ground_ends_v7_l0_S [.exit 0]) = g89_ground_ends_v7_l0_step s := by
    intro s; kernel_rfl
  have hL : LV 1 Tryd.prog false (loopsOf g89_ground_ends_v7_l0_c) [] := by unfold LV; cases loopsOf g89_ground_ends_v7_l0_c <;> trivial
  exact loopT_valid (fuel := g89_ground_ends_v7_l0_fuel) mixed g89_ground_ends_v7_CV hL (by kernel_rfl) (by decide) rfl hb (fun s r h => h)
theorem g89_ground_ends_v7_LV : LV 1 Tryd.prog false (loopsOf (bodyOf Tryd.f89)) [g89_ground_ends_v7_l0_L] := by
  have hl : loopsOf (bodyOf Tryd.f89) = [.loop g89_ground_ends_v7_l0_c] := by kernel_rfl
  rw [hl]; exact ⟨g89_ground_ends_v7_l0_V, trivial⟩
theorem g89_ground_ends_v7_ent : Ent Tryd.prog 89 := ⟨by decide, enters_of Tryd.func89 (by kernel_rfl) rfl⟩
theorem g89_ground_ends_v7_hev : ∀ x : g89_ground_ends_v7_CS.In, fnR Tryd.prog g89_ground_ends_v7_C [g89_ground_ends_v7_l0_L] Tryd.f89 (bodyOf Tryd.f89) (encs g89_ground_ends_v7_CS.A x.1) ⟨encs g89_ground_ends_v7_CS.I x.2, [], g89_ground_ends_v7_CS.nt⟩ (finK g89_ground_ends_v7_CS) = g89_ground_ends_v7 x.1.1 := by
  intro x; kernel_rfl
theorem g89_ground_ends_v7_valid : g89_ground_ends_v7_E.Valid Tryd.prog :=
  boxE_valid (S := g89_ground_ends_v7_CS) (by kernel_rfl) (.inr g89_ground_ends_v7_ent) (fn_lcall (S := g89_ground_ends_v7_CS) mixed Tryd.func89 rfl g89_ground_ends_v7_ent g89_ground_ends_v7_CV g89_ground_ends_v7_LV (by kernel_rfl) (by kernel_rfl) g89_ground_ends_v7_hev)

noncomputable def g76_ground_end_v1_C : CalT := tabC [g87_ground_ends_v1_E, g89_ground_ends_v4_E, g89_ground_ends_v5_E, g89_ground_ends_v6_E, g89_ground_ends_v7_E, g52_ground_followed_run_E]
theorem g76_ground_end_v1_CV : CV Tryd.prog g76_ground_end_v1_C := tabC_valid ⟨g87_ground_ends_v1_valid, g89_ground_ends_v4_valid, g89_ground_ends_v5_valid, g89_ground_ends_v6_valid, g89_ground_ends_v7_valid, g52_ground_followed_run_valid, trivial⟩
noncomputable def g76_ground_end_v1 (a0 : E25) (a1 : (List E72)) (a2 : Int) : Option E90 :=
  (Option.bind (g87_ground_ends_v1 a0.1) fun r1 =>
  (Option.bind (g89_ground_ends_v4 a1 a0) fun r2 =>
    (Option.bind (g89_ground_ends_v5 a1) fun r3 =>
      (Option.bind (g89_ground_ends_v6 a1) fun r4 =>
        (Option.bind (g89_ground_ends_v7 a1) fun r5 =>
          (Option.bind (g52_ground_followed_run (r2.2.1, ((r1.1, (r2.1, (r3.1, (r4.1, (r5.1, ()))))), (a2, (0, (0, (0, ([], ([], ((0, (0, (0, ()))), ())))))))))) fun r6 =>
            some (r6.2.1.1, ((r6.2.1.2.1.1, (r6.2.1.2.1.2.1, (r6.2.1.2.1.2.2.1, (r6.2.1.2.1.2.2.2.1, (r6.2.1.2.1.2.2.2.2.1, ()))))), (r6.2.1.2.2.1, (r6.2.1.2.2.2.1, (r6.2.1.2.2.2.2.1, (r6.2.1.2.2.2.2.2.1, (r6.2.1.2.2.2.2.2.2.1, (r6.2.1.2.2.2.2.2.2.2.1, ((r6.2.1.2.2.2.2.2.2.2.2.1.1, (r6.2.1.2.2.2.2.2.2.2.2.1.2.1, (r6.2.1.2.2.2.2.2.2.2.2.1.2.2.1, ()))), ())))))))))))))))
noncomputable def g76_ground_end_v1_E : CEnt := pureE 76 [.dat T25, .dat (.list T72), .fix (.func (.func 78) .nil .nil), .fix (.func (.func 77) .nil .nil), .dat (.int .i64)] (.ip T90) fun x => g76_ground_end_v1 x.1 x.2.1 x.2.2.1
theorem g76_ground_end_v1_LV : LV 0 Tryd.prog false (loopsOf (bodyOf Tryd.f76)) [] := by unfold LV; cases loopsOf (bodyOf Tryd.f76) <;> trivial
theorem g76_ground_end_v1_ent : Ent Tryd.prog 76 := ⟨by decide, enters_of Tryd.func76 (by kernel_rfl) rfl⟩
theorem g76_ground_end_v1_hev : ∀ x, fnR Tryd.prog g76_ground_end_v1_C [] Tryd.f76 (bodyOf Tryd.f76) (encs [.dat T25, .dat (.list T72), .fix (.func (.func 78) .nil .nil), .fix (.func (.func 77) .nil .nil), .dat (.int .i64)] x) ⟨[], [], 0⟩ (frzF (.ip T90)) = g76_ground_end_v1 x.1 x.2.1 x.2.2.1 := by
  intro x; kernel_rfl
theorem g76_ground_end_v1_valid : g76_ground_end_v1_E.Valid Tryd.prog :=
  pureE_valid (by kernel_rfl) (by kernel_rfl) g76_ground_end_v1_ent (frz_lcall mixed Tryd.func76 rfl g76_ground_end_v1_ent g76_ground_end_v1_CV g76_ground_end_v1_LV (by kernel_rfl) (by kernel_rfl) g76_ground_end_v1_hev)

end Go.Proofs.YtbidmbjkjpdgdaaDoor.Abs
