import Derived.Test.YtibmgbalfhfcdaaDoorA3
import Derived.Shelf.Strings.OnBuilder
import Derived.Shelf.Strconv.Itoa3
import Derived.Shelf.LaysM
import Derived.Shelf.Abstract
import Derived.Shelf.RegionOpenPlain
import Derived.KernelRfl
set_option linter.unusedVariables false
set_option linter.unusedSimpArgs false
namespace Go.Proofs
open Go.Shelf
def Tryd.lays156_ren : Go.Shelf.Ren := ⟨fun | 156 => 100 | 165 => 109 | 166 => 110 | 169 => 111 | 240 => 113 | 241 => 114 | 276 => 119 | 277 => 120 | n => n, fun | 31 => 140 | 9 => 9 | 3 => 3 | 4 => 4 | 0 => 0 | 20 => 20 | 72 => 152 | 76 => 156 | 70 => 149 | 37 => 150 | 75 => 155 | 127 => 160 | 164 => 167 | 5 => 5 | 80 => 158 | n => n, fun | n => n⟩
theorem Tryd.lays156 : Go.Proofs.Lays.n156 Tryd.prog Tryd.lays156_ren := {
  mixed := by kernel_rfl
  f156 := Tryd.func100.trans (congrArg some (by kernel_rfl))
  f165 := Tryd.func109.trans (congrArg some (by kernel_rfl))
  f166 := Tryd.func110.trans (congrArg some (by kernel_rfl))
  f169 := Tryd.func111.trans (congrArg some (by kernel_rfl))
  f240 := Tryd.func113.trans (congrArg some (by kernel_rfl))
  f241 := Tryd.func114.trans (congrArg some (by kernel_rfl))
  f276 := Tryd.func119.trans (congrArg some (by kernel_rfl))
  f277 := Tryd.func120.trans (congrArg some (by kernel_rfl))
  t0 := Tryd.underlying0
  a0 := Tryd.isAgg0
  z0 := Tryd.sizeOf0
  v0 := Tryd.zeroValue0
  t3 := Tryd.underlying3
  a3 := Tryd.isAgg3
  z3 := Tryd.sizeOf3
  v3 := Tryd.zeroValue3
  t4 := Tryd.underlying4
  a4 := Tryd.isAgg4
  z4 := Tryd.sizeOf4
  v4 := Tryd.zeroValue4
  t9 := Tryd.underlying9
  a9 := Tryd.isAgg9
  z9 := Tryd.sizeOf9
  v9 := Tryd.zeroValue9
  t20 := Tryd.underlying20
  a20 := Tryd.isAgg20
  z20 := Tryd.sizeOf20
  v20 := Tryd.zeroValue20
  t31 := Tryd.underlying140
  a31 := Tryd.isAgg140
  z31 := Tryd.sizeOf140
  v31 := Tryd.zeroValue140
  t37 := Tryd.underlying150
  a37 := Tryd.isAgg150
  z37 := Tryd.sizeOf150
  v37 := Tryd.zeroValue150
  t70 := Tryd.underlying149
  a70 := Tryd.isAgg149
  z70 := Tryd.sizeOf149
  v70 := Tryd.zeroValue149
  t72 := Tryd.underlying152
  a72 := Tryd.isAgg152
  z72 := Tryd.sizeOf152
  v72 := Tryd.zeroValue152
  t75 := Tryd.underlying155
  a75 := Tryd.isAgg155
  z75 := Tryd.sizeOf155
  v75 := Tryd.zeroValue155
  t76 := Tryd.underlying156
  a76 := Tryd.isAgg156
  z76 := Tryd.sizeOf156
  v76 := Tryd.zeroValue156
  t127 := Tryd.underlying160
  a127 := Tryd.isAgg160
  z127 := Tryd.sizeOf160
  v127 := Tryd.zeroValue160
  t164 := Tryd.underlying167
  a164 := Tryd.isAgg167
  z164 := Tryd.sizeOf167
  v164 := Tryd.zeroValue167 }
theorem Tryd.Builder_Extra_156 : Builder.Extra Tryd.prog Tryd.lays156_ren := {
  sizeBuilder := by kernel_rfl
  liesBuilder := by kernel_rfl
  t5 := Tryd.underlying5
  a5 := Tryd.isAgg5
  z5 := Tryd.sizeOf5
  v5 := Tryd.zeroValue5
  infoByte := by kernel_rfl
  cellsByte := by kernel_rfl
  sizeByte := by kernel_rfl
  neB5 := by decide }
def Tryd.laysM171_ren : Go.Shelf.Ren := ⟨fun | 171 => 99 | 243 => 108 | 246 => 112 | 283 => 115 | 284 => 116 | 285 => 117 | 286 => 118 | 129 => 122 | 317 => 121 | 318 => 123 | 319 => 124 | 320 => 125 | 337 => 126 | 338 => 127 | n => n, fun | 3 => 3 | 9 => 9 | 2 => 2 | 4 => 4 | 171 => 161 | 0 => 0 | 53 => 162 | 37 => 150 | 5 => 5 | 173 => 165 | 212 => 171 | 51 => 172 | 20 => 20 | 213 => 173 | 46 => 174 | 232 => 177 | 233 => 178 | n => n, fun | 17 => 0 | 18 => 2 | 19 => 3 | n => n⟩
theorem Tryd.laysM171 : Go.Proofs.LaysM.n171 Tryd.prog Tryd.laysM171_ren := {
  mixed := by kernel_rfl
  f129 := Tryd.func122.trans (congrArg some (by kernel_rfl))
  f171 := Tryd.func99.trans (congrArg some (by kernel_rfl))
  f243 := Tryd.func108.trans (congrArg some (by kernel_rfl))
  f246 := Tryd.func112.trans (congrArg some (by kernel_rfl))
  f283 := Tryd.func115.trans (congrArg some (by kernel_rfl))
  f284 := Tryd.func116.trans (congrArg some (by kernel_rfl))
  f285 := Tryd.func117.trans (congrArg some (by kernel_rfl))
  f286 := Tryd.func118.trans (congrArg some (by kernel_rfl))
  f317 := Tryd.func121.trans (congrArg some (by kernel_rfl))
  f318 := Tryd.func123.trans (congrArg some (by kernel_rfl))
  f319 := Tryd.func124.trans (congrArg some (by kernel_rfl))
  f320 := Tryd.func125.trans (congrArg some (by kernel_rfl))
  f337 := Tryd.func126.trans (congrArg some (by kernel_rfl))
  f338 := Tryd.func127.trans (congrArg some (by kernel_rfl))
  t0 := Tryd.underlying0
  a0 := Tryd.isAgg0
  z0 := Tryd.sizeOf0
  v0 := Tryd.zeroValue0
  t2 := Tryd.underlying2
  a2 := Tryd.isAgg2
  z2 := Tryd.sizeOf2
  v2 := Tryd.zeroValue2
  t3 := Tryd.underlying3
  a3 := Tryd.isAgg3
  z3 := Tryd.sizeOf3
  v3 := Tryd.zeroValue3
  t4 := Tryd.underlying4
  a4 := Tryd.isAgg4
  z4 := Tryd.sizeOf4
  v4 := Tryd.zeroValue4
  t5 := Tryd.underlying5
  a5 := Tryd.isAgg5
  z5 := Tryd.sizeOf5
  v5 := Tryd.zeroValue5
  t9 := Tryd.underlying9
  a9 := Tryd.isAgg9
  z9 := Tryd.sizeOf9
  v9 := Tryd.zeroValue9
  t20 := Tryd.underlying20
  a20 := Tryd.isAgg20
  z20 := Tryd.sizeOf20
  v20 := Tryd.zeroValue20
  t37 := Tryd.underlying150
  a37 := Tryd.isAgg150
  z37 := Tryd.sizeOf150
  v37 := Tryd.zeroValue150
  t46 := Tryd.underlying174
  a46 := Tryd.isAgg174
  z46 := Tryd.sizeOf174
  v46 := Tryd.zeroValue174
  t51 := Tryd.underlying172
  a51 := Tryd.isAgg172
  z51 := Tryd.sizeOf172
  v51 := Tryd.zeroValue172
  t53 := Tryd.underlying162
  a53 := Tryd.isAgg162
  z53 := Tryd.sizeOf162
  v53 := Tryd.zeroValue162
  t171 := Tryd.underlying161
  a171 := Tryd.isAgg161
  z171 := Tryd.sizeOf161
  v171 := Tryd.zeroValue161
  t173 := Tryd.underlying165
  a173 := Tryd.isAgg165
  z173 := Tryd.sizeOf165
  v173 := Tryd.zeroValue165
  t212 := Tryd.underlying171
  a212 := Tryd.isAgg171
  z212 := Tryd.sizeOf171
  v212 := Tryd.zeroValue171
  t213 := Tryd.underlying173
  a213 := Tryd.isAgg173
  z213 := Tryd.sizeOf173
  t232 := Tryd.underlying177
  a232 := Tryd.isAgg177
  z232 := Tryd.sizeOf177
  v232 := Tryd.zeroValue177
  t233 := Tryd.underlying178
  a233 := Tryd.isAgg178
  z233 := Tryd.sizeOf178
  v233 := Tryd.zeroValue178
  g17 := by kernel_rfl
  g18 := by kernel_rfl
  g19 := by kernel_rfl
  i0 := by kernel_rfl
  i2 := by kernel_rfl
  i3 := by kernel_rfl
  i4 := by kernel_rfl
  i5 := by kernel_rfl
  i9 := by kernel_rfl
  i20 := by kernel_rfl
  i37 := by kernel_rfl
  i46 := by kernel_rfl
  i51 := by kernel_rfl
  i53 := by kernel_rfl
  i171 := by kernel_rfl
  i173 := by kernel_rfl
  i212 := by kernel_rfl
  i232 := by kernel_rfl
  i233 := by kernel_rfl
  m17 := by kernel_rfl
  m18 := by kernel_rfl
  m19 := by kernel_rfl }
end Go.Proofs
set_option maxRecDepth 100000
namespace Go.Proofs.YtibmgbalfhfcdaaDoor.Abs
open Go.Shelf Go.RowKit Go.Sort
theorem mixed : Tryd.prog.follows .mixedOrders = true := by kernel_rfl
theorem tabIs_of {G : Gh} {B : Bx} {w : World} (hw : WOk G B w) : Lib.TabIs Tryd.prog w "internal/strconv.uint64pow10" .u64 Lib.pow10Tab := by
  obtain ⟨⟨e, fr, h⟩, _⟩ := hw.tab _ (List.mem_cons_self : _ ∈ TABS)
  have hg : Tryd.prog.globalNamed "internal/strconv.uint64pow10" = some 0 := by kernel_rfl
  unfold Lib.TabIs World.var?
  rw [hg]
  simp only [Option.bind_some]
  rw [h]
  rfl
def itoaM (n : Int) : Option ByteArray := bif decide (-9223372036854775808 ≤ n) && decide (n ≤ 9223372036854775807) then some ⟨(Lib.itoa n).toArray⟩ else none
def itoaM_E : CEnt := pureE 99 [.dat (.int .i64)] (.dat .str) fun x => itoaM x.1
theorem grew_grow (w : World) (k : Nat) (os : Array Obj) : Grew w (grow (w.drewN k) os) :=
  ⟨rfl, rfl, rfl, by simp [grow, World.drewN], fun b hb => by simp [grow, World.drewN, Array.getElem?_append_left hb]⟩
theorem itoaM_valid : itoaM_E.Valid Tryd.prog := by
  have hent : Ent Tryd.prog 99 := ⟨by decide, enters_of Tryd.func99 (by kernel_rfl) rfl⟩
  refine pureE_valid (by kernel_rfl) (by kernel_rfl) hent (fun x r h => ⟨.inr hent, fun G w vs hvs hw => Run.call hent.1 ?_⟩)
  unfold itoaM at h
  cases hb : decide (-9223372036854775808 ≤ x.1) && decide (x.1 ≤ 9223372036854775807) with
  | false => rw [hb] at h; cases h
  | true =>
    rw [hb] at h
    simp only [cond_true, Option.some.injEq] at h
    simp only [Bool.and_eq_true, decide_eq_true_eq] at hb
    cases hvs with
    | cons hv t =>
      cases t
      have hvv := int_form hv
      subst hvv
      have hc : Calls Tryd.prog 99 #[.int .i64 x.1] w _ := Any.strconv_Itoa Tryd.laysM171 x.1 hb.1 hb.2 w (tabIs_of hw)
      refine hc.mono ?_
      rintro e w' ⟨rfl, k, os, rfl⟩
      subst h
      exact ⟨_, G, rfl, leaf_v rfl rfl, hw.grew (grew_grow w k os), (grew_grow w k os).ext G, fun i b _ hb => hb⟩
theorem grew_below {w w' : World} (h : Below w.heap.size w w') : Grew w w' := ⟨h.os, h.tape, h.output, h.size, fun b hb => h.block b hb⟩
def joinM (xs : List ByteArray) (sep : ByteArray) : Option ByteArray :=
  bif decide (xs.length ≤ LIM) && decide ((Lib.join (xs.map (·.data.toList)) sep.data.toList).length ≤ LIM) then some ⟨(Lib.join (xs.map (·.data.toList)) sep.data.toList).toArray⟩ else none
def joinM_E : CEnt := pureE 100 [.dat (.list .str), .dat .str] (.dat .str) fun x => joinM x.1 x.2.1
theorem joinM_valid : joinM_E.Valid Tryd.prog := by
  have hent : Ent Tryd.prog 100 := ⟨by decide, enters_of Tryd.func100 (by kernel_rfl) rfl⟩
  refine pureE_valid (by kernel_rfl) (by kernel_rfl) hent (fun x r h => ⟨.inr hent, fun G w vs hvs hw => Run.call hent.1 ?_⟩)
  obtain ⟨xs, sep, u⟩ := x
  unfold joinM at h
  cases hb : decide ((xs : List ByteArray).length ≤ LIM) && decide ((Lib.join (List.map (fun x : ByteArray => x.data.toList) xs) (ByteArray.data sep).toList).length ≤ LIM) with
  | false => rw [hb] at h; cases h
  | true =>
    rw [hb] at h
    simp only [cond_true, Option.some.injEq] at h
    simp only [Bool.and_eq_true, decide_eq_true_eq] at hb
    have b1 : (xs : List ByteArray).length ≤ 2 ^ 36 := hb.1
    have b2 : (Lib.join (List.map (fun x : ByteArray => x.data.toList) xs) (ByteArray.data sep).toList).length ≤ 2 ^ 36 := hb.2
    cases hvs with
    | cons hv t =>
      cases t with
      | cons hs t =>
        cases t
        have hs' := str_form hs
        subst hs'
        obtain ⟨A, cap, rfl, hr⟩ := list_form hv
        obtain ⟨A', cap', e1, hcap, hq⟩ := hr
        simp only [List.cons.injEq, Value.slice.injEq, and_true, true_and] at e1
        obtain ⟨rfl, rfl⟩ := e1
        have fin : ∀ e w', e = .returned (.string ⟨(Lib.join (List.map (fun x : ByteArray => x.data.toList) xs) (ByteArray.data sep).toList).toArray⟩) → Grew w w' → ∃ cv G', e = Ending.returned cv ∧ Rv G' [] (.d .str r) cv ∧ WOk G' ⟨[], [], 0⟩ w' ∧ Ext G w G' w' ∧ ∀ i b, i < 0 → G.addr[i]? = some b → G'.addr[i]? = some b := fun e w' he hg => by
          subst h
          exact ⟨_, G, he, leaf_v rfl rfl, hw.grew hg, hg.ext G, fun i b _ hb => hb⟩
        by_cases hne : xs = []
        · subst hne
          refine (Any.strings_Join_none (P := Tryd.prog) Tryd.lays156 Tryd.Builder_Extra_156 A cap sep w).mono ?_
          rintro e w' ⟨rfl, rfl⟩
          exact fin _ _ rfl (Grew.refl _)
        · obtain ⟨b, off, row, rfl, k1, k2, k3⟩ := hq hne
          obtain ⟨cells, et, fr, k4, k5⟩ := hw.imm b row k1
          refine (Any.strings_Join (P := Tryd.prog) Tryd.lays156 Tryd.Builder_Extra_156 b off cap xs sep w (fun j x hj => ?_) (heap_lt k4) (by omega) hcap (by omega)).mono ?_
          · have h1 := k3 j x hj
            have h2 : (row.drop (off + j * 1)).take 1 = [.string x] := h1
            have hjl : j < List.length xs := (List.getElem?_eq_some_iff.1 hj).1
            have k2' : off + List.length xs * 1 ≤ row.length := k2
            have hlt : off + j < row.length := by omega
            have h3 : row[off + j]? = some (.string x) := by
              have : ((row.drop (off + j * 1)).take 1)[0]? = some (.string x) := by rw [h2]; rfl
              rw [List.getElem?_take_of_lt (by decide), List.getElem?_drop] at this
              simpa using this
            rw [cell_of_heap k4, ← Array.getElem?_toList]
            exact prefix_getElem? k5 h3
          · rintro e w' ⟨rfl, hb⟩
            exact fin _ _ rfl (grew_below hb)
abbrev lRow : Array Value := #[.int .i64 0, .int .i64 0, .int .i64 2700, .int .i64 0, .int .i64 10, .int .i64 2720, .int .i64 1, .int .i64 0, .int .i64 2701, .int .i64 1, .int .i64 10, .int .i64 2702, .int .i64 2, .int .i64 0, .int .i64 2650, .int .i64 2, .int .i64 10, .int .i64 2651]
abbrev mRow : Array Value := #[.int .i64 0, .int .i64 0, .int .i64 2700, .int .i64 0, .int .i64 10, .int .i64 2720, .int .i64 1, .int .i64 0, .int .i64 2701, .int .i64 2, .int .i64 0, .int .i64 2650, .int .i64 2, .int .i64 10, .int .i64 2651, .int .i64 2, .int .i64 10, .int .i64 2651]
set_option maxHeartbeats 4000000 in
theorem M_calls (w : World) : Calls Tryd.prog 47 #[] w fun e w' => e = .returned (.slice (some ⟨w.heap.size, 0, none⟩) 5 6) ∧ w' = ((w.alloc (.cells mRow 73)).alloc (.cells lRow 73)).drew := by
  have mixed : Tryd.prog.follows .mixedOrders = true := by kernel_rfl
  have t25 := Tryd.underlying25; have a25 := Tryd.isAgg25; have z25 := Tryd.sizeOf25; have u25 := run_underlying Tryd.underlying25; have v25 := Tryd.zeroValue25
  have t73 := Tryd.underlying73; have a73 := Tryd.isAgg73; have z73 := Tryd.sizeOf73; have u73 := run_underlying Tryd.underlying73; have v73 := Tryd.zeroValue73
  have t3 := Tryd.underlying3; have a3 := Tryd.isAgg3; have z3 := Tryd.sizeOf3; have u3 := run_underlying Tryd.underlying3; have v3 := Tryd.zeroValue3
  go_enter Tryd.func47, Tryd.ntmps47
  go_wp2
  go_region_calls
  all_goals (go_wp2; go_ret; exact ⟨rfl, rfl⟩)
abbrev RDT : DTy := .cons (.int .i64) (.cons (.int .i64) (.cons (.int .i64) .nil))
def mList : List RDT.El := [(0, 0, 2700, ()), (0, 10, 2720, ()), (1, 0, 2701, ()), (2, 0, 2650, ()), (2, 10, 2651, ())]
def mM : Option (List RDT.El) := some mList
def mM_E : CEnt := pureE 47 [] (.dat (.list RDT)) fun _ => mM
theorem mM_valid : mM_E.Valid Tryd.prog := by
  have hent : Ent Tryd.prog 47 := ⟨by decide, enters_of Tryd.func47 (by kernel_rfl) rfl⟩
  refine pureE_valid (by kernel_rfl) (by kernel_rfl) hent (fun x r h => ⟨.inr hent, fun G w vs hvs hw => Run.call hent.1 ?_⟩)
  cases hvs
  refine (M_calls w).mono ?_
  rintro e w' ⟨rfl, rfl⟩
  have hr : r = mList := by simpa [mM] using h.symm
  subst hr
  obtain ⟨G', g1, g2, g3, g4⟩ := new_rowD (T := RDT) (xs := mList) (row := mRow.toList.take 15) (cells := mRow) (e := 73) hw (List.take_prefix _ _) rfl (fun i x hi => by
    match i, hi with
    | 0, hi =>
      obtain rfl : (((0 : Int), (0 : Int), (2700 : Int), ()) : RDT.El) = x := Option.some.inj hi
      exact ⟨_, _, rfl, rfl, _, _, rfl, rfl, _, _, rfl, rfl, rfl⟩
    | 1, hi =>
      obtain rfl : (((0 : Int), (10 : Int), (2720 : Int), ()) : RDT.El) = x := Option.some.inj hi
      exact ⟨_, _, rfl, rfl, _, _, rfl, rfl, _, _, rfl, rfl, rfl⟩
    | 2, hi =>
      obtain rfl : (((1 : Int), (0 : Int), (2701 : Int), ()) : RDT.El) = x := Option.some.inj hi
      exact ⟨_, _, rfl, rfl, _, _, rfl, rfl, _, _, rfl, rfl, rfl⟩
    | 3, hi =>
      obtain rfl : (((2 : Int), (0 : Int), (2650 : Int), ()) : RDT.El) = x := Option.some.inj hi
      exact ⟨_, _, rfl, rfl, _, _, rfl, rfl, _, _, rfl, rfl, rfl⟩
    | 4, hi =>
      obtain rfl : (((2 : Int), (10 : Int), (2651 : Int), ()) : RDT.El) = x := Option.some.inj hi
      exact ⟨_, _, rfl, rfl, _, _, rfl, rfl, _, _, rfl, rfl, rfl⟩
    | n + 5, hi => simp [mList] at hi)
  have hgr : Grew (w.alloc (.cells mRow 73)) ((w.alloc (.cells mRow 73)).alloc (.cells lRow 73)).drew := by
    refine ⟨rfl, rfl, rfl, by simp [World.drew], fun b hb => ?_⟩
    exact heap_push_lt hb
  obtain ⟨A, cap, e1, A', cap', e2, k1, k2⟩ := list_form g1
  simp only [Value.slice.injEq, List.cons.injEq, and_true, true_and] at e1 e2
  obtain ⟨rfl, _⟩ := e1
  obtain ⟨rfl, rfl⟩ := e2
  refine ⟨_, G', rfl, leaf_v rfl ⟨_, 6, rfl, by decide, k2⟩, g2.grew hgr, g4.trans (hgr.ext G'), fun i b hi _ => absurd hi (by omega)⟩
theorem lvNil (c : Code) : LV 0 Tryd.prog false (loopsOf c) [] := by unfold LV; cases loopsOf c <;> trivial
end Go.Proofs.YtibmgbalfhfcdaaDoor.Abs
set_option linter.unusedVariables false
set_option maxRecDepth 100000
namespace Go.Proofs.YtibmgbalfhfcdaaDoor.Abs
open Go.Shelf Go.Sort
abbrev T56 : DTy := (.cons (.int .i64) (.cons (.int .i64) .nil))
abbrev E56 : Type := (Int × (Int × Unit))
abbrev T26 : DTy := (.cons (.list (.int .i64)) (.cons (.list (.int .i64)) .nil))
abbrev E26 : Type := ((List Int) × ((List Int) × Unit))
abbrev T72 : DTy := (.cons (.int .i64) T56)
abbrev E72 : Type := (Int × E56)
abbrev T30 : DTy := (.cons (.list (.int .i64)) T26)
abbrev E30 : Type := ((List Int) × E26)
abbrev T94 : DTy := (.cons (.arr 41 T56) (.cons .bool .nil))
abbrev E94 : Type := ((List E56) × (Bool × Unit))
abbrev T23 : DTy := (.cons (.int .i64) (.cons (.int .i64) (.cons (.int .i64) (.cons (.int .i64) (.cons (.list (.int .i64)) .nil)))))
abbrev E23 : Type := (Int × (Int × (Int × (Int × ((List Int) × Unit)))))
abbrev T123 : DTy := (.cons T23 (.cons (.list T72) (.cons .mapr .nil)))
abbrev E123 : Type := (E23 × ((List E72) × (Unit × Unit)))
noncomputable def G11_C : CalT := tabC []
theorem G11_CV : CV Tryd.prog G11_C := tabC_valid (l := _) trivial
noncomputable def G11 (a0 : E23) (a1 : (List E72)) : Option Bool :=
  (bif (decide ((List.length a0.2.2.2.2.1 : Int) ≤ 12)) then
  some (decide ((List.length a1 : Int) ≤ 29))
  else
  some false)
noncomputable def G11_E : CEnt := pureE 11 [.dat T23, .dat (.list T72)] (.dat .bool) fun x => G11 x.1 x.2.1
theorem G11_LV : LV 0 Tryd.prog false (loopsOf (bodyOf Tryd.f11)) [] := by unfold LV; cases loopsOf (bodyOf Tryd.f11) <;> trivial
theorem G11_ent : Ent Tryd.prog 11 := ⟨by decide, enters_of Tryd.func11 (by kernel_rfl) rfl⟩
theorem G11_hev : ∀ x, fnR Tryd.prog G11_C [] Tryd.f11 (bodyOf Tryd.f11) (encs [.dat T23, .dat (.list T72)] x) ⟨[], [], 0⟩ (frzF (.dat .bool)) = G11 x.1 x.2.1 := by
  intro x; kernel_rfl
theorem G11_valid : G11_E.Valid Tryd.prog :=
  pureE_valid (by kernel_rfl) (by kernel_rfl) G11_ent (frz_lcall mixed Tryd.func11 rfl G11_ent G11_CV G11_LV (by kernel_rfl) (by kernel_rfl) G11_hev)
noncomputable def G45_C : CalT := tabC []
theorem G45_CV : CV Tryd.prog G45_C := tabC_valid (l := _) trivial
noncomputable def G45 : Option E23 :=
  some (2, (3, (2, (2, ([0, 0, 1], ())))))
noncomputable def G45_E : CEnt := pureE 45 [] (.dat T23) fun x => G45
theorem G45_LV : LV 0 Tryd.prog false (loopsOf (bodyOf Tryd.f45)) [] := by unfold LV; cases loopsOf (bodyOf Tryd.f45) <;> trivial
theorem G45_ent : Ent Tryd.prog 45 := ⟨by decide, enters_of Tryd.func45 (by kernel_rfl) rfl⟩
theorem G45_hev : ∀ x, fnR Tryd.prog G45_C [] Tryd.f45 (bodyOf Tryd.f45) (encs [] x) ⟨[], [], 0⟩ (frzF (.dat T23)) = G45 := by
  intro x; kernel_rfl
theorem G45_valid : G45_E.Valid Tryd.prog :=
  pureE_valid (by kernel_rfl) (by kernel_rfl) G45_ent (frz_lcall mixed Tryd.func45 rfl G45_ent G45_CV G45_LV (by kernel_rfl) (by kernel_rfl) G45_hev)
noncomputable def G46_C : CalT := tabC []
theorem G46_CV : CV Tryd.prog G46_C := tabC_valid (l := _) trivial
noncomputable def G46 : Option (List E72) :=
  some ([(0, (0, (2700, ()))), (0, (10, (2720, ()))), (1, (0, (2701, ()))), (1, (10, (2702, ()))), (2, (0, (2650, ()))), (2, (10, (2651, ())))])
noncomputable def G46_E : CEnt := pureE 46 [] (.dat (.list T72)) fun x => G46
theorem G46_LV : LV 0 Tryd.prog false (loopsOf (bodyOf Tryd.f46)) [] := by unfold LV; cases loopsOf (bodyOf Tryd.f46) <;> trivial
theorem G46_ent : Ent Tryd.prog 46 := ⟨by decide, enters_of Tryd.func46 (by kernel_rfl) rfl⟩
theorem G46_hev : ∀ x, fnR Tryd.prog G46_C [] Tryd.f46 (bodyOf Tryd.f46) (encs [] x) ⟨[], [], 0⟩ (frzF (.dat (.list T72))) = G46 := by
  intro x; kernel_rfl
theorem G46_valid : G46_E.Valid Tryd.prog :=
  pureE_valid (by kernel_rfl) (by kernel_rfl) G46_ent (frz_lcall mixed Tryd.func46 rfl G46_ent G46_CV G46_LV (by kernel_rfl) (by kernel_rfl) G46_hev)
noncomputable def G68_C : CalT := tabC []
theorem G68_CV : CV Tryd.prog G68_C := tabC_valid (l := _) trivial
noncomputable def G68 (a0 : Int) (a1 : Int) (a2 : Int) : Option Bool :=
  (bif (decide (a0 ≥ a1)) then
  some (decide (a0 ≤ a2))
  else
  some false)
noncomputable def G68_E : CEnt := pureE 68 [.dat (.int .i64), .dat (.int .i64), .dat (.int .i64)] (.dat .bool) fun x => G68 x.1 x.2.1 x.2.2.1
theorem G68_LV : LV 0 Tryd.prog false (loopsOf (bodyOf Tryd.f68)) [] := by unfold LV; cases loopsOf (bodyOf Tryd.f68) <;> trivial
theorem G68_ent : Ent Tryd.prog 68 := ⟨by decide, enters_of Tryd.func68 (by kernel_rfl) rfl⟩
theorem G68_hev : ∀ x, fnR Tryd.prog G68_C [] Tryd.f68 (bodyOf Tryd.f68) (encs [.dat (.int .i64), .dat (.int .i64), .dat (.int .i64)] x) ⟨[], [], 0⟩ (frzF (.dat .bool)) = G68 x.1 x.2.1 x.2.2.1 := by
  intro x; kernel_rfl
theorem G68_valid : G68_E.Valid Tryd.prog :=
  pureE_valid (by kernel_rfl) (by kernel_rfl) G68_ent (frz_lcall mixed Tryd.func68 rfl G68_ent G68_CV G68_LV (by kernel_rfl) (by kernel_rfl) G68_hev)
noncomputable def G98_C : CalT := tabC [G68_E]
theorem G98_CV : CV Tryd.prog G98_C := tabC_valid (l := _) ⟨G68_valid, trivial⟩
noncomputable def G98 (a0 : Int) (b1 : E23) : Option (Bool × (E23 × Unit)) :=
  (Option.bind (G68 a0 0 (IntKind.wrap .i64 (b1.2.2.2.1 - 1))) fun r1 =>
  some ((!r1), (b1, ())))
abbrev G98_CS : CSpec := ⟨[.dat (.int .i64), .fix (.bptr 0 [])], [.dat T23], 0, [.dat T23], 0, .dat .bool⟩
noncomputable def G98_E : CEnt := boxE 98 G98_CS fun x => G98 x.1.1 x.2.1
theorem G98_LV : LV 1 Tryd.prog false (loopsOf (bodyOf Tryd.f98)) [] := by unfold LV; cases loopsOf (bodyOf Tryd.f98) <;> trivial
theorem G98_ent : Ent Tryd.prog 98 := ⟨by decide, enters_of Tryd.func98 (by kernel_rfl) rfl⟩
theorem G98_hev : ∀ x : G98_CS.In, fnR Tryd.prog G98_C [] Tryd.f98 (bodyOf Tryd.f98) (encs G98_CS.A x.1) ⟨encs G98_CS.I x.2, [], G98_CS.nt⟩ (finK G98_CS) = G98 x.1.1 x.2.1 := by
  intro x; kernel_rfl
theorem G98_valid : G98_E.Valid Tryd.prog :=
  boxE_valid (S := G98_CS) (by kernel_rfl) (.inr G98_ent) (fn_lcall (S := G98_CS) mixed Tryd.func98 rfl G98_ent G98_CV G98_LV (by kernel_rfl) (by kernel_rfl) G98_hev)
noncomputable def G95_C : CalT := tabC [G98_E]
theorem G95_CV : CV Tryd.prog G95_C := tabC_valid (l := _) ⟨G98_valid, trivial⟩
noncomputable def G95_l0_c : Code := loopAt (bodyOf Tryd.f95) 0
noncomputable def G95_l0_S : SPat := ⟨[.dat (.list (.int .i64)), .fix (.func (.func 98) .nil (.cons (.bptr 0 []) .nil)), .any, .any, .dat (.int .i64), .any, .any, .dat (.int .i64), .dat (.int .i64), .any, .any, .any, .any, .any, .any, .any, .any, .any, .any], [.dat T23], 0⟩
noncomputable def G95_l0_step (s : (((List Int) × (Int × (Int × (Int × Unit)))) × (E23 × Unit))) : Option (Nat × (((List Int) × (Int × (Int × (Int × Unit)))) × (E23 × Unit))) :=
  (bif (decide (s.1.2.2.2.1 < s.1.2.2.1)) then
  (bif (decide (0 ≤ s.1.2.2.2.1) && decide (s.1.2.2.2.1 < (List.length s.1.1 : Int))) then
    (Option.bind (G98 (List.getD s.1.1 (Int.toNat s.1.2.2.2.1) 0) s.2.1) fun r1 =>
      (bif r1.1 then
        some (1, ((s.1.1, (s.1.2.2.2.1, (s.1.2.2.1, (s.1.2.2.2.1, ())))), (r1.2.1, ())))
        else
        some (0, ((s.1.1, (s.1.2.1, (s.1.2.2.1, ((IntKind.wrap .i64 (s.1.2.2.2.1 + 1)), ())))), (r1.2.1, ())))))
    else
    none)
  else
  some (2, ((s.1.1, (s.1.2.1, (s.1.2.2.1, (s.1.2.2.2.1, ())))), (s.2.1, ()))))
noncomputable def G95_l0_fuel (s : (((List Int) × (Int × (Int × (Int × Unit)))) × (E23 × Unit))) : Nat := Int.toNat (s.1.2.2.1 - s.1.2.2.2.1) + 1
noncomputable def G95_l0_run (s : (((List Int) × (Int × (Int × (Int × Unit)))) × (E23 × Unit))) : Option (Nat × (((List Int) × (Int × (Int × (Int × Unit)))) × (E23 × Unit))) := iter G95_l0_step (G95_l0_fuel s) s
noncomputable def G95_l0_L : LoopT := loopT G95_l0_S [.ret, .exit 0] G95_l0_run
noncomputable def G95 (a0 : (List Int)) (b1 : E23) : Option (Int × (E23 × Unit)) :=
  (Option.bind (G95_l0_run ((a0, (0, ((List.length a0 : Int), (0, ())))), (b1, ()))) fun q2 =>
  (natK q2.1
    (some (q2.2.1.2.1, (q2.2.2.1, ())))
    (fun _ => some ((-1), (q2.2.2.1, ())))))
abbrev G95_CS : CSpec := ⟨[.dat (.list (.int .i64)), .fix (.func (.func 98) .nil (.cons (.bptr 0 []) .nil))], [.dat T23], 0, [.dat T23], 0, .dat (.int .i64)⟩
noncomputable def G95_E : CEnt := boxE 95 G95_CS fun x => G95 x.1.1 x.2.1
theorem G95_l0_V : LValid 1 Tryd.prog (.loop G95_l0_c) G95_l0_L false := by
  have hb : ∀ s, codeR Tryd.prog G95_C G95_l0_c [] (G95_l0_S.encE s) (G95_l0_S.encB s) (kst G95_l0_S [.ret, .exit 0]) = G95_l0_step s := by
    intro s; kernel_rfl
  have hL : LV 1 Tryd.prog false (loopsOf G95_l0_c) [] := by unfold LV; cases loopsOf G95_l0_c <;> trivial
  exact loopT_valid (fuel := G95_l0_fuel) mixed G95_CV hL (by kernel_rfl) (by decide) rfl hb (fun s r h => h)
theorem G95_LV : LV 1 Tryd.prog false (loopsOf (bodyOf Tryd.f95)) [G95_l0_L] := by
  have hl : loopsOf (bodyOf Tryd.f95) = [.loop G95_l0_c] := by kernel_rfl
  rw [hl]; exact ⟨G95_l0_V, trivial⟩
theorem G95_ent : Ent Tryd.prog 95 := ⟨by decide, enters_of Tryd.func95 (by kernel_rfl) rfl⟩
theorem G95_hev : ∀ x : G95_CS.In, fnR Tryd.prog G95_C [G95_l0_L] Tryd.f95 (bodyOf Tryd.f95) (encs G95_CS.A x.1) ⟨encs G95_CS.I x.2, [], G95_CS.nt⟩ (finK G95_CS) = G95 x.1.1 x.2.1 := by
  intro x; kernel_rfl
theorem G95_valid : G95_E.Valid Tryd.prog :=
  boxE_valid (S := G95_CS) (by kernel_rfl) (.inr G95_ent) (fn_lcall (S := G95_CS) mixed Tryd.func95 rfl G95_ent G95_CV G95_LV (by kernel_rfl) (by kernel_rfl) G95_hev)
noncomputable def G78_C : CalT := tabC [G95_E]
theorem G78_CV : CV Tryd.prog G78_C := tabC_valid (l := _) ⟨G95_valid, trivial⟩
noncomputable def G78 (a0 : (List Int)) (b1 : E23) : Option (Bool × (E23 × Unit)) :=
  (Option.bind (G95 a0 b1) fun r1 =>
  some ((decide (r1.1 ≥ 0)), (r1.2.1, ())))
abbrev G78_CS : CSpec := ⟨[.dat (.list (.int .i64)), .fix (.func (.func 98) .nil (.cons (.bptr 0 []) .nil))], [.dat T23], 0, [.dat T23], 0, .dat .bool⟩
noncomputable def G78_E : CEnt := boxE 78 G78_CS fun x => G78 x.1.1 x.2.1
theorem G78_LV : LV 1 Tryd.prog false (loopsOf (bodyOf Tryd.f78)) [] := by unfold LV; cases loopsOf (bodyOf Tryd.f78) <;> trivial
theorem G78_ent : Ent Tryd.prog 78 := ⟨by decide, enters_of Tryd.func78 (by kernel_rfl) rfl⟩
theorem G78_hev : ∀ x : G78_CS.In, fnR Tryd.prog G78_C [] Tryd.f78 (bodyOf Tryd.f78) (encs G78_CS.A x.1) ⟨encs G78_CS.I x.2, [], G78_CS.nt⟩ (finK G78_CS) = G78 x.1.1 x.2.1 := by
  intro x; kernel_rfl
theorem G78_valid : G78_E.Valid Tryd.prog :=
  boxE_valid (S := G78_CS) (by kernel_rfl) (.inr G78_ent) (fn_lcall (S := G78_CS) mixed Tryd.func78 rfl G78_ent G78_CV G78_LV (by kernel_rfl) (by kernel_rfl) G78_hev)
noncomputable def G83_C : CalT := tabC [G68_E, G78_E]
theorem G83_CV : CV Tryd.prog G83_C := tabC_valid (l := _) ⟨G68_valid, G78_valid, trivial⟩
noncomputable def G83 (a0 : E23) : Option Bool :=
  (Option.bind (G68 a0.1 0 100) fun r1 =>
  (bif r1 then
    (Option.bind (G68 a0.2.1 0 20) fun r2 =>
      (bif r2 then
        (Option.bind (G68 a0.2.2.1 0 20) fun r3 =>
          (bif r3 then
            (Option.bind (G68 a0.2.2.2.1 1 4) fun r4 =>
              (bif r4 then
                (Option.bind (G68 (List.length a0.2.2.2.2.1 : Int) 1 6) fun r5 =>
                  (bif r5 then
                    (Option.bind (G78 a0.2.2.2.2.1 a0) fun r6 =>
                      some (!r6.1))
                    else
                    some false))
                else
                some false))
            else
            some false))
        else
        some false))
    else
    some false))
noncomputable def G83_E : CEnt := pureE 83 [.dat T23] (.dat .bool) fun x => G83 x.1
theorem G83_LV : LV 0 Tryd.prog false (loopsOf (bodyOf Tryd.f83)) [] := by unfold LV; cases loopsOf (bodyOf Tryd.f83) <;> trivial
theorem G83_ent : Ent Tryd.prog 83 := ⟨by decide, enters_of Tryd.func83 (by kernel_rfl) rfl⟩
theorem G83_hev : ∀ x, fnR Tryd.prog G83_C [] Tryd.f83 (bodyOf Tryd.f83) (encs [.dat T23] x) ⟨[], [], 0⟩ (frzF (.dat .bool)) = G83 x.1 := by
  intro x; kernel_rfl
theorem G83_valid : G83_E.Valid Tryd.prog :=
  pureE_valid (by kernel_rfl) (by kernel_rfl) G83_ent (frz_lcall mixed Tryd.func83 rfl G83_ent G83_CV G83_LV (by kernel_rfl) (by kernel_rfl) G83_hev)
noncomputable def G87_C : CalT := tabC [G68_E]
theorem G87_CV : CV Tryd.prog G87_C := tabC_valid (l := _) ⟨G68_valid, trivial⟩
noncomputable def G87 (a0 : E72) (b1 : E23) : Option (Bool × (E23 × Unit)) :=
  (Option.bind (G68 a0.1 0 (IntKind.wrap .i64 ((List.length b1.2.2.2.2.1 : Int) - 1))) fun r1 =>
  (bif (!r1) then
    some (true, (b1, ()))
    else
    (Option.bind (G68 a0.2.1 0 200) fun r2 =>
      (bif (!r2) then
        some (true, (b1, ()))
        else
        (Option.bind (G68 a0.2.2.1 0 6400) fun r3 =>
          some ((!r3), (b1, ())))))))
abbrev G87_CS : CSpec := ⟨[.dat T72, .fix (.bptr 0 [])], [.dat T23], 0, [.dat T23], 0, .dat .bool⟩
noncomputable def G87_E : CEnt := boxE 87 G87_CS fun x => G87 x.1.1 x.2.1
theorem G87_LV : LV 1 Tryd.prog false (loopsOf (bodyOf Tryd.f87)) [] := by unfold LV; cases loopsOf (bodyOf Tryd.f87) <;> trivial
theorem G87_ent : Ent Tryd.prog 87 := ⟨by decide, enters_of Tryd.func87 (by kernel_rfl) rfl⟩
theorem G87_hev : ∀ x : G87_CS.In, fnR Tryd.prog G87_C [] Tryd.f87 (bodyOf Tryd.f87) (encs G87_CS.A x.1) ⟨encs G87_CS.I x.2, [], G87_CS.nt⟩ (finK G87_CS) = G87 x.1.1 x.2.1 := by
  intro x; kernel_rfl
theorem G87_valid : G87_E.Valid Tryd.prog :=
  boxE_valid (S := G87_CS) (by kernel_rfl) (.inr G87_ent) (fn_lcall (S := G87_CS) mixed Tryd.func87 rfl G87_ent G87_CV G87_LV (by kernel_rfl) (by kernel_rfl) G87_hev)
noncomputable def G97_C : CalT := tabC [G87_E]
theorem G97_CV : CV Tryd.prog G97_C := tabC_valid (l := _) ⟨G87_valid, trivial⟩
noncomputable def G97_l0_c : Code := loopAt (bodyOf Tryd.f97) 0
noncomputable def G97_l0_S : SPat := ⟨[.dat (.list T72), .fix (.func (.func 87) .nil (.cons (.bptr 0 []) .nil)), .any, .any, .dat (.int .i64), .any, .any, .dat (.int .i64), .dat (.int .i64), .any, .any, .any, .any, .any, .any, .any, .any, .any, .any], [.dat T23], 0⟩
noncomputable def G97_l0_step (s : (((List E72) × (Int × (Int × (Int × Unit)))) × (E23 × Unit))) : Option (Nat × (((List E72) × (Int × (Int × (Int × Unit)))) × (E23 × Unit))) :=
  (bif (decide (s.1.2.2.2.1 < s.1.2.2.1)) then
  (bif (decide (0 ≤ s.1.2.2.2.1) && decide (s.1.2.2.2.1 < (List.length s.1.1 : Int))) then
    (Option.bind (G87 (List.getD s.1.1 (Int.toNat s.1.2.2.2.1) (0, (0, (0, ())))) s.2.1) fun r1 =>
      (bif r1.1 then
        some (1, ((s.1.1, (s.1.2.2.2.1, (s.1.2.2.1, (s.1.2.2.2.1, ())))), (r1.2.1, ())))
        else
        some (0, ((s.1.1, (s.1.2.1, (s.1.2.2.1, ((IntKind.wrap .i64 (s.1.2.2.2.1 + 1)), ())))), (r1.2.1, ())))))
    else
    none)
  else
  some (2, ((s.1.1, (s.1.2.1, (s.1.2.2.1, (s.1.2.2.2.1, ())))), (s.2.1, ()))))
noncomputable def G97_l0_fuel (s : (((List E72) × (Int × (Int × (Int × Unit)))) × (E23 × Unit))) : Nat := Int.toNat (s.1.2.2.1 - s.1.2.2.2.1) + 1
noncomputable def G97_l0_run (s : (((List E72) × (Int × (Int × (Int × Unit)))) × (E23 × Unit))) : Option (Nat × (((List E72) × (Int × (Int × (Int × Unit)))) × (E23 × Unit))) := iter G97_l0_step (G97_l0_fuel s) s
noncomputable def G97_l0_L : LoopT := loopT G97_l0_S [.ret, .exit 0] G97_l0_run
noncomputable def G97 (a0 : (List E72)) (b1 : E23) : Option (Int × (E23 × Unit)) :=
  (Option.bind (G97_l0_run ((a0, (0, ((List.length a0 : Int), (0, ())))), (b1, ()))) fun q2 =>
  (natK q2.1
    (some (q2.2.1.2.1, (q2.2.2.1, ())))
    (fun _ => some ((-1), (q2.2.2.1, ())))))
abbrev G97_CS : CSpec := ⟨[.dat (.list T72), .fix (.func (.func 87) .nil (.cons (.bptr 0 []) .nil))], [.dat T23], 0, [.dat T23], 0, .dat (.int .i64)⟩
noncomputable def G97_E : CEnt := boxE 97 G97_CS fun x => G97 x.1.1 x.2.1
theorem G97_l0_V : LValid 1 Tryd.prog (.loop G97_l0_c) G97_l0_L false := by
  have hb : ∀ s, codeR Tryd.prog G97_C G97_l0_c [] (G97_l0_S.encE s) (G97_l0_S.encB s) (kst G97_l0_S [.ret, .exit 0]) = G97_l0_step s := by
    intro s; kernel_rfl
  have hL : LV 1 Tryd.prog false (loopsOf G97_l0_c) [] := by unfold LV; cases loopsOf G97_l0_c <;> trivial
  exact loopT_valid (fuel := G97_l0_fuel) mixed G97_CV hL (by kernel_rfl) (by decide) rfl hb (fun s r h => h)
theorem G97_LV : LV 1 Tryd.prog false (loopsOf (bodyOf Tryd.f97)) [G97_l0_L] := by
  have hl : loopsOf (bodyOf Tryd.f97) = [.loop G97_l0_c] := by kernel_rfl
  rw [hl]; exact ⟨G97_l0_V, trivial⟩
theorem G97_ent : Ent Tryd.prog 97 := ⟨by decide, enters_of Tryd.func97 (by kernel_rfl) rfl⟩
theorem G97_hev : ∀ x : G97_CS.In, fnR Tryd.prog G97_C [G97_l0_L] Tryd.f97 (bodyOf Tryd.f97) (encs G97_CS.A x.1) ⟨encs G97_CS.I x.2, [], G97_CS.nt⟩ (finK G97_CS) = G97 x.1.1 x.2.1 := by
  intro x; kernel_rfl
theorem G97_valid : G97_E.Valid Tryd.prog :=
  boxE_valid (S := G97_CS) (by kernel_rfl) (.inr G97_ent) (fn_lcall (S := G97_CS) mixed Tryd.func97 rfl G97_ent G97_CV G97_LV (by kernel_rfl) (by kernel_rfl) G97_hev)
noncomputable def G81_C : CalT := tabC [G97_E]
theorem G81_CV : CV Tryd.prog G81_C := tabC_valid (l := _) ⟨G97_valid, trivial⟩
noncomputable def G81 (a0 : (List E72)) (b1 : E23) : Option (Bool × (E23 × Unit)) :=
  (Option.bind (G97 a0 b1) fun r1 =>
  some ((decide (r1.1 ≥ 0)), (r1.2.1, ())))
abbrev G81_CS : CSpec := ⟨[.dat (.list T72), .fix (.func (.func 87) .nil (.cons (.bptr 0 []) .nil))], [.dat T23], 0, [.dat T23], 0, .dat .bool⟩
noncomputable def G81_E : CEnt := boxE 81 G81_CS fun x => G81 x.1.1 x.2.1
theorem G81_LV : LV 1 Tryd.prog false (loopsOf (bodyOf Tryd.f81)) [] := by unfold LV; cases loopsOf (bodyOf Tryd.f81) <;> trivial
theorem G81_ent : Ent Tryd.prog 81 := ⟨by decide, enters_of Tryd.func81 (by kernel_rfl) rfl⟩
theorem G81_hev : ∀ x : G81_CS.In, fnR Tryd.prog G81_C [] Tryd.f81 (bodyOf Tryd.f81) (encs G81_CS.A x.1) ⟨encs G81_CS.I x.2, [], G81_CS.nt⟩ (finK G81_CS) = G81 x.1.1 x.2.1 := by
  intro x; kernel_rfl
theorem G81_valid : G81_E.Valid Tryd.prog :=
  boxE_valid (S := G81_CS) (by kernel_rfl) (.inr G81_ent) (fn_lcall (S := G81_CS) mixed Tryd.func81 rfl G81_ent G81_CV G81_LV (by kernel_rfl) (by kernel_rfl) G81_hev)
noncomputable def G51_C : CalT := tabC [G68_E]
theorem G51_CV : CV Tryd.prog G51_C := tabC_valid (l := _) ⟨G68_valid, trivial⟩
noncomputable def G51_l0_c : Code := loopAt (bodyOf Tryd.f51) 0
noncomputable def G51_l1_c : Code := loopAt G51_l0_c 0
noncomputable def G51_l1_S : SPat := ⟨[.ip T123, .any, .any, .any, .dat (.int .i64), .dat .bool, .dat (.int .i64), .any, .dat (.list (.int .i64)), .dat (.int .i64), .dat (.int .i64), .any, .any, .any, .any, .any, .any, .cons (.dat (.list (.int .i64))) (.cons (.dat (.list (.int .i64))) (.nil)), .dat (.int .i64), .any, .any, .any, .any, .any, .any, .any, .any, .any, .any, .any, .any, .any, .any, .any, .any, .any, .any, .any, .any, .any, .any, .dat (.list (.int .i64)), .dat (.int .i64), .dat (.int .i64), .any, .any, .any, .any, .any, .any, .any, .any, .any, .any, .any, .any, .any, .any, .any, .any, .any, .any, .any, .any, .any, .any, .any, .any, .any, .any, .any, .any, .any, .any, .any], [.dat T26], 0⟩
abbrev TY0 : Type := (E123 × (Int × (Bool × (Int × ((List Int) × (Int × (Int × (((List Int) × ((List Int) × Unit)) × (Int × ((List Int) × (Int × (Int × Unit))))))))))))
abbrev TY1 : Type := (Nat × ((E123 × (Int × (Bool × (Int × ((List Int) × (Int × (Int × (((List Int) × ((List Int) × Unit)) × (Int × ((List Int) × (Int × (Int × Unit)))))))))))) × (E26 × Unit)))
noncomputable def G51_l1_step (s : (TY0 × (E26 × Unit))) : Option TY1 :=
  (bif (decide (s.1.2.2.2.2.2.2.2.2.2.2.2.1 < s.1.2.2.2.2.2.2.2.2.2.2.1)) then
  (bif (decide (0 ≤ s.1.2.2.2.2.2.2.2.2.2.2.2.1) && decide (s.1.2.2.2.2.2.2.2.2.2.2.2.1 < (List.length s.1.2.2.2.2.2.2.2.2.2.1 : Int))) then
    (Option.bind (G68 (List.getD s.1.2.2.2.2.2.2.2.2.2.1 (Int.toNat s.1.2.2.2.2.2.2.2.2.2.2.2.1) 0) 0 (IntKind.wrap .i64 (s.1.2.2.2.2.2.1 - 1))) fun r1 =>
      (bif (!r1) then
        some (1, ((s.1.1, (0, (false, (s.1.2.2.2.1, (s.1.2.2.2.2.1, (s.1.2.2.2.2.2.1, (s.1.2.2.2.2.2.2.1, (s.1.2.2.2.2.2.2.2.1, (s.1.2.2.2.2.2.2.2.2.1, (s.1.2.2.2.2.2.2.2.2.2.1, (s.1.2.2.2.2.2.2.2.2.2.2.1, (s.1.2.2.2.2.2.2.2.2.2.2.2.1, ())))))))))))), (s.2.1, ())))
        else
        (bif (decide (s.1.2.2.2.2.2.2.2.2.2.2.2.1 > 0)) then
          (bif (decide (0 ≤ (IntKind.wrap .i64 (s.1.2.2.2.2.2.2.2.2.2.2.2.1 - 1))) && decide ((IntKind.wrap .i64 (s.1.2.2.2.2.2.2.2.2.2.2.2.1 - 1)) < (List.length s.1.2.2.2.2.1 : Int))) then
            (bif (decide ((List.getD s.1.2.2.2.2.2.2.2.2.2.1 (Int.toNat s.1.2.2.2.2.2.2.2.2.2.2.2.1) 0) ≤ (List.getD s.1.2.2.2.2.1 (Int.toNat (IntKind.wrap .i64 (s.1.2.2.2.2.2.2.2.2.2.2.2.1 - 1))) 0))) then
              some (1, ((s.1.1, (0, (false, (s.1.2.2.2.1, (s.1.2.2.2.2.1, (s.1.2.2.2.2.2.1, (s.1.2.2.2.2.2.2.1, (s.1.2.2.2.2.2.2.2.1, (s.1.2.2.2.2.2.2.2.2.1, (s.1.2.2.2.2.2.2.2.2.2.1, (s.1.2.2.2.2.2.2.2.2.2.2.1, (s.1.2.2.2.2.2.2.2.2.2.2.2.1, ())))))))))))), (s.2.1, ())))
              else
              (bif (!decide ((IntKind.wrap .i64 (s.1.2.2.2.2.2.2.1 + (List.getD s.1.2.2.2.2.2.2.2.2.2.1 (Int.toNat s.1.2.2.2.2.2.2.2.2.2.2.2.1) 0))) < 0)) then
                some (0, ((s.1.1, (s.1.2.1, (s.1.2.2.1, ((IntKind.wrap .i64 ((BitVec.toNat ((BitVec.ofInt (IntKind.bits .i64) s.1.2.2.2.1) ||| (BitVec.ofInt (IntKind.bits .i64) (IntKind.wrap .i64 (1 * 2 ^ (min (Int.toNat (IntKind.wrap .i64 (s.1.2.2.2.2.2.2.1 + (List.getD s.1.2.2.2.2.2.2.2.2.2.1 (Int.toNat s.1.2.2.2.2.2.2.2.2.2.2.2.1) 0)))) (IntKind.bits .i64)))))) : Nat) : Int)), (s.1.2.2.2.2.1, (s.1.2.2.2.2.2.1, (s.1.2.2.2.2.2.2.1, (s.1.2.2.2.2.2.2.2.1, (s.1.2.2.2.2.2.2.2.2.1, (s.1.2.2.2.2.2.2.2.2.2.1, (s.1.2.2.2.2.2.2.2.2.2.2.1, ((IntKind.wrap .i64 (s.1.2.2.2.2.2.2.2.2.2.2.2.1 + 1)), ())))))))))))), (s.2.1, ())))
                else
                none))
            else
            none)
          else
          (bif (!decide ((IntKind.wrap .i64 (s.1.2.2.2.2.2.2.1 + (List.getD s.1.2.2.2.2.2.2.2.2.2.1 (Int.toNat s.1.2.2.2.2.2.2.2.2.2.2.2.1) 0))) < 0)) then
            some (0, ((s.1.1, (s.1.2.1, (s.1.2.2.1, ((IntKind.wrap .i64 ((BitVec.toNat ((BitVec.ofInt (IntKind.bits .i64) s.1.2.2.2.1) ||| (BitVec.ofInt (IntKind.bits .i64) (IntKind.wrap .i64 (1 * 2 ^ (min (Int.toNat (IntKind.wrap .i64 (s.1.2.2.2.2.2.2.1 + (List.getD s.1.2.2.2.2.2.2.2.2.2.1 (Int.toNat s.1.2.2.2.2.2.2.2.2.2.2.2.1) 0)))) (IntKind.bits .i64)))))) : Nat) : Int)), (s.1.2.2.2.2.1, (s.1.2.2.2.2.2.1, (s.1.2.2.2.2.2.2.1, (s.1.2.2.2.2.2.2.2.1, (s.1.2.2.2.2.2.2.2.2.1, (s.1.2.2.2.2.2.2.2.2.2.1, (s.1.2.2.2.2.2.2.2.2.2.2.1, ((IntKind.wrap .i64 (s.1.2.2.2.2.2.2.2.2.2.2.2.1 + 1)), ())))))))))))), (s.2.1, ())))
            else
            none))))
    else
    none)
  else
  some (2, ((s.1.1, (s.1.2.1, (s.1.2.2.1, (s.1.2.2.2.1, (s.1.2.2.2.2.1, (s.1.2.2.2.2.2.1, (s.1.2.2.2.2.2.2.1, (s.1.2.2.2.2.2.2.2.1, (s.1.2.2.2.2.2.2.2.2.1, (s.1.2.2.2.2.2.2.2.2.2.1, (s.1.2.2.2.2.2.2.2.2.2.2.1, (s.1.2.2.2.2.2.2.2.2.2.2.2.1, ())))))))))))), (s.2.1, ()))))
noncomputable def G51_l1_fuel (s : (TY0 × (E26 × Unit))) : Nat := Int.toNat (s.1.2.2.2.2.2.2.2.2.2.2.1 - s.1.2.2.2.2.2.2.2.2.2.2.2.1) + 1
noncomputable def G51_l1_run (s : (TY0 × (E26 × Unit))) : Option TY1 := iter G51_l1_step (G51_l1_fuel s) s
noncomputable def G51_l1_L : LoopT := loopT G51_l1_S [.ret, .exit 2] G51_l1_run
noncomputable def G51_l0_S : SPat := ⟨[.ip T123, .any, .any, .any, .dat (.int .i64), .dat .bool, .dat (.int .i64), .any, .any, .any, .any, .any, .any, .any, .any, .any, .any, .cons (.dat (.list (.int .i64))) (.cons (.dat (.list (.int .i64))) (.nil)), .dat (.int .i64), .any, .any, .any, .any, .any, .any, .any, .any, .any, .any, .any, .any, .any, .any, .any, .any, .any, .any, .any, .any, .any, .any, .any, .any, .any, .any, .any, .any, .any, .any, .any, .any, .any, .any, .any, .any, .any, .any, .any, .any, .any, .any, .any, .any, .any, .any, .any, .any, .any, .any, .any, .any, .any, .any, .any, .any], [.dat T26], 0⟩
abbrev TY2 : Type := (E123 × (Int × (Bool × (Int × (((List Int) × ((List Int) × Unit)) × (Int × Unit))))))
abbrev TY3 : Type := (Nat × ((E123 × (Int × (Bool × (Int × (((List Int) × ((List Int) × Unit)) × (Int × Unit)))))) × (E26 × Unit)))
noncomputable def G51_l0_step (s : (TY2 × (E26 × Unit))) : Option TY3 :=
  (bif (decide (s.1.2.2.2.2.2.1 < 2)) then
  (bif (decide (s.1.2.2.2.2.2.1 = (0 : Int))) then
    (bif (s.1.2.2.2.2.2.1 == 1) then
      (Option.bind (G51_l1_run ((s.1.1, (s.1.2.1, (s.1.2.2.1, (s.1.2.2.2.1, (s.1.2.2.2.2.1.1, (s.1.1.1.2.2.2.1, ((List.length s.1.1.1.2.2.2.2.1 : Int), (s.1.2.2.2.2.1, (s.1.2.2.2.2.2.1, (s.1.2.2.2.2.1.1, ((List.length s.1.2.2.2.2.1.1 : Int), (0, ())))))))))))), (s.2.1, ()))) fun q2 =>
        (natK q2.1
          (some (1, ((q2.2.1.1, (q2.2.1.2.1, (q2.2.1.2.2.1, (q2.2.1.2.2.2.1, (q2.2.1.2.2.2.2.2.2.2.1, (q2.2.1.2.2.2.2.2.2.2.2.1, ())))))), (q2.2.2.1, ()))))
          (fun _ => some (0, ((q2.2.1.1, (q2.2.1.2.1, (q2.2.1.2.2.1, (q2.2.1.2.2.2.1, (q2.2.1.2.2.2.2.2.2.2.1, ((IntKind.wrap .i64 (q2.2.1.2.2.2.2.2.2.2.2.1 + 1)), ())))))), (q2.2.2.1, ()))))))
      else
      (Option.bind (G51_l1_run ((s.1.1, (s.1.2.1, (s.1.2.2.1, (s.1.2.2.2.1, (s.1.2.2.2.2.1.1, ((List.length s.1.1.1.2.2.2.2.1 : Int), (0, (s.1.2.2.2.2.1, (s.1.2.2.2.2.2.1, (s.1.2.2.2.2.1.1, ((List.length s.1.2.2.2.2.1.1 : Int), (0, ())))))))))))), (s.2.1, ()))) fun q3 =>
        (natK q3.1
          (some (1, ((q3.2.1.1, (q3.2.1.2.1, (q3.2.1.2.2.1, (q3.2.1.2.2.2.1, (q3.2.1.2.2.2.2.2.2.2.1, (q3.2.1.2.2.2.2.2.2.2.2.1, ())))))), (q3.2.2.1, ()))))
          (fun _ => some (0, ((q3.2.1.1, (q3.2.1.2.1, (q3.2.1.2.2.1, (q3.2.1.2.2.2.1, (q3.2.1.2.2.2.2.2.2.2.1, ((IntKind.wrap .i64 (q3.2.1.2.2.2.2.2.2.2.2.1 + 1)), ())))))), (q3.2.2.1, ())))))))
    else
    (bif (decide (s.1.2.2.2.2.2.1 = (1 : Int))) then
      (bif (s.1.2.2.2.2.2.1 == 1) then
        (Option.bind (G51_l1_run ((s.1.1, (s.1.2.1, (s.1.2.2.1, (s.1.2.2.2.1, (s.1.2.2.2.2.1.2.1, (s.1.1.1.2.2.2.1, ((List.length s.1.1.1.2.2.2.2.1 : Int), (s.1.2.2.2.2.1, (s.1.2.2.2.2.2.1, (s.1.2.2.2.2.1.2.1, ((List.length s.1.2.2.2.2.1.2.1 : Int), (0, ())))))))))))), (s.2.1, ()))) fun q4 =>
          (natK q4.1
            (some (1, ((q4.2.1.1, (q4.2.1.2.1, (q4.2.1.2.2.1, (q4.2.1.2.2.2.1, (q4.2.1.2.2.2.2.2.2.2.1, (q4.2.1.2.2.2.2.2.2.2.2.1, ())))))), (q4.2.2.1, ()))))
            (fun _ => some (0, ((q4.2.1.1, (q4.2.1.2.1, (q4.2.1.2.2.1, (q4.2.1.2.2.2.1, (q4.2.1.2.2.2.2.2.2.2.1, ((IntKind.wrap .i64 (q4.2.1.2.2.2.2.2.2.2.2.1 + 1)), ())))))), (q4.2.2.1, ()))))))
        else
        (Option.bind (G51_l1_run ((s.1.1, (s.1.2.1, (s.1.2.2.1, (s.1.2.2.2.1, (s.1.2.2.2.2.1.2.1, ((List.length s.1.1.1.2.2.2.2.1 : Int), (0, (s.1.2.2.2.2.1, (s.1.2.2.2.2.2.1, (s.1.2.2.2.2.1.2.1, ((List.length s.1.2.2.2.2.1.2.1 : Int), (0, ())))))))))))), (s.2.1, ()))) fun q5 =>
          (natK q5.1
            (some (1, ((q5.2.1.1, (q5.2.1.2.1, (q5.2.1.2.2.1, (q5.2.1.2.2.2.1, (q5.2.1.2.2.2.2.2.2.2.1, (q5.2.1.2.2.2.2.2.2.2.2.1, ())))))), (q5.2.2.1, ()))))
            (fun _ => some (0, ((q5.2.1.1, (q5.2.1.2.1, (q5.2.1.2.2.1, (q5.2.1.2.2.2.1, (q5.2.1.2.2.2.2.2.2.2.1, ((IntKind.wrap .i64 (q5.2.1.2.2.2.2.2.2.2.2.1 + 1)), ())))))), (q5.2.2.1, ())))))))
      else
      none))
  else
  some (2, ((s.1.1, (s.1.2.1, (s.1.2.2.1, (s.1.2.2.2.1, (s.1.2.2.2.2.1, (s.1.2.2.2.2.2.1, ())))))), (s.2.1, ()))))
noncomputable def G51_l0_fuel (s : (TY2 × (E26 × Unit))) : Nat := Int.toNat (2 - s.1.2.2.2.2.2.1) + 1
noncomputable def G51_l0_run (s : (TY2 × (E26 × Unit))) : Option TY3 := iter G51_l0_step (G51_l0_fuel s) s
noncomputable def G51_l0_L : LoopT := loopT G51_l0_S [.ret, .exit 0] G51_l0_run
noncomputable def G51 (a0 : E123) (a1 : E26) : Option (Int × (Bool × Unit)) :=
  (Option.bind (G51_l0_run ((a0, (0, (false, (0, ((a1.1, (a1.2.1, ())), (0, ())))))), (a1, ()))) fun q6 =>
  (natK q6.1
    (some (q6.2.1.2.1, (q6.2.1.2.2.1, ())))
    (fun _ => some (q6.2.1.2.2.2.1, (true, ())))))
noncomputable def G51_E : CEnt := viewE 51 [.ip T123, .dat T26] (.tup (.cons (.dat (.int .i64)) (.cons (.dat .bool) (.nil)))) fun x => G51 x.1 x.2.1
theorem G51_l1_V : LValid 0 Tryd.prog (.loop G51_l1_c) G51_l1_L false := by
  exact loopT_valid (fuel := G51_l1_fuel) mixed G51_CV (lvNil _) (by kernel_rfl) (by decide) rfl (by intro s; kernel_rfl) (fun s r h => h)
theorem G51_l0_V : LValid 0 Tryd.prog (.loop G51_l0_c) G51_l0_L false := by
  have hb : ∀ s, codeR Tryd.prog G51_C G51_l0_c [G51_l1_L] (G51_l0_S.encE s) (G51_l0_S.encB s) (kst G51_l0_S [.ret, .exit 0]) = G51_l0_step s := by
    intro s; kernel_rfl
  have hl : loopsOf G51_l0_c = [.loop G51_l1_c] := by kernel_rfl
  have hL : LV 0 Tryd.prog false (loopsOf G51_l0_c) [G51_l1_L] := by rw [hl]; exact ⟨G51_l1_V, trivial⟩
  exact loopT_valid (fuel := G51_l0_fuel) mixed G51_CV hL (by kernel_rfl) (by decide) rfl hb (fun s r h => h)
theorem G51_LV : LV 0 Tryd.prog false (loopsOf (bodyOf Tryd.f51)) [G51_l0_L] := by
  have hl : loopsOf (bodyOf Tryd.f51) = [.loop G51_l0_c] := by kernel_rfl
  rw [hl]; exact ⟨G51_l0_V, trivial⟩
theorem G51_ent : Ent Tryd.prog 51 := ⟨by decide, enters_of Tryd.func51 (by kernel_rfl) rfl⟩
theorem G51_hev : ∀ x, fnR Tryd.prog G51_C [G51_l0_L] Tryd.f51 (bodyOf Tryd.f51) (encs [.ip T123, .dat T26] x) ⟨[], [], 0⟩ (frzF (.tup (.cons (.dat (.int .i64)) (.cons (.dat .bool) (.nil))))) = G51 x.1 x.2.1 := by
  intro x; kernel_rfl
theorem G51_valid : G51_E.Valid Tryd.prog :=
  viewE_valid (by kernel_rfl) (by kernel_rfl) G51_ent (frz_lcall mixed Tryd.func51 rfl G51_ent G51_CV G51_LV (by kernel_rfl) (by kernel_rfl) G51_hev)
noncomputable def G50_C : CalT := tabC [G51_E]
theorem G50_CV : CV Tryd.prog G50_C := tabC_valid (l := _) ⟨G51_valid, trivial⟩
noncomputable def G50 (b0 : (E23 × ((List E72) × (Unit × Unit)))) (b1 : E26) (b2 : (List (E56 × E94))) : Option (Bool × ((E23 × ((List E72) × (Unit × Unit))) × (E26 × ((List (E56 × E94)) × Unit)))) :=
  (Option.bind (G51 (b0.1, (b0.2.1, ((), b0.2.2.2))) b1) fun r1 =>
  some (r1.2.1, ((b0.1, (b0.2.1, ((), b0.2.2.2))), (b1, (b2, ())))))
abbrev G50_CS : CSpec := ⟨[.fix (.bptr 0 []), .fix (.bptr 1 [])], [.cons (.dat T23) (.cons (.dat (.list T72)) (.cons (.fix (.mref 2)) (.nil))), .dat T26, .map T56 T94], 0, [.cons (.dat T23) (.cons (.dat (.list T72)) (.cons (.fix (.mref 2)) (.nil))), .dat T26, .map T56 T94], 0, .dat .bool⟩
noncomputable def G50_E : CEnt := boxE 50 G50_CS fun x => G50 x.2.1 x.2.2.1 x.2.2.2.1
theorem G50_LV : LV 3 Tryd.prog false (loopsOf (bodyOf Tryd.f50)) [] := by unfold LV; cases loopsOf (bodyOf Tryd.f50) <;> trivial
theorem G50_ent : Ent Tryd.prog 50 := ⟨by decide, enters_of Tryd.func50 (by kernel_rfl) rfl⟩
theorem G50_hev : ∀ x : G50_CS.In, fnR Tryd.prog G50_C [] Tryd.f50 (bodyOf Tryd.f50) (encs G50_CS.A x.1) ⟨encs G50_CS.I x.2, [], G50_CS.nt⟩ (finK G50_CS) = G50 x.2.1 x.2.2.1 x.2.2.2.1 := by
  intro x; kernel_rfl
theorem G50_valid : G50_E.Valid Tryd.prog :=
  boxE_valid (S := G50_CS) (by kernel_rfl) (.inr G50_ent) (fn_lcall (S := G50_CS) mixed Tryd.func50 rfl G50_ent G50_CV G50_LV (by kernel_rfl) (by kernel_rfl) G50_hev)
noncomputable def G49_C : CalT := tabC [G83_E, G81_E, G50_E]
theorem G49_CV : CV Tryd.prog G49_C := tabC_valid (l := _) ⟨G83_valid, G81_valid, G50_valid, trivial⟩
abbrev TY4 : Type := (E26 × (E23 × ((List (E56 × E94)) × ((E23 × ((List E72) × (Unit × Unit))) × Unit))))
noncomputable def G49 (a0 : E23) (a1 : (List E72)) (b2 : E26) : Option (((Unit × (Int × Unit)) × (E26 × Unit)) ⊕ ((Unit × (Int × Unit)) × TY4)) :=
  (bif (decide ((List.length a1 : Int) > 24)) then
  some (Sum.inl (((), (3, ())), (b2, ())))
  else
  (Option.bind (G83 a0) fun r1 =>
    (bif (!r1) then
      some (Sum.inl (((), (2, ())), (b2, ())))
      else
      (Option.bind (G81 a1 a0) fun r2 =>
        (bif r2.1 then
          some (Sum.inl (((), (2, ())), (b2, ())))
          else
          (Option.bind (G50 (a0, (a1, ((), ()))) b2 ([] : List (E56 × E94))) fun r3 =>
            (bif (!r3.1) then
              some (Sum.inl (((), (2, ())), (r3.2.2.1, ())))
              else
              some (Sum.inr (((), (0, ())), (r3.2.2.1, (r2.2.1, (r3.2.2.2.1, ((r3.2.1.1, (r3.2.1.2.1, ((), r3.2.1.2.2.2))), ())))))))))))))
abbrev G49_CS : CSpec := ⟨[.dat T23, .dat (.list T72), .fix (.func (.func 50) .nil (.cons (.bptr 0 []) .nil))], [.dat T26], 0, [.dat T26], 0, .tup (.cons (.fix .pnil) (.cons (.dat (.int .i64)) (.nil)))⟩
abbrev G49_O2 : List PTy := [.dat T26, .dat T23, .map T56 T94, .cons (.dat T23) (.cons (.dat (.list T72)) (.cons (.fix (.mref 2)) (.nil)))]
abbrev G49_R2 : PTy := .tup (.cons (.fix (.bptr 3 [])) (.cons (.dat (.int .i64)) (.nil)))
noncomputable def G49_E : CEnt := altE 49 G49_CS G49_O2 0 G49_R2 fun x => G49 x.1.1 x.1.2.1 x.2.1
theorem G49_LV : LV 1 Tryd.prog false (loopsOf (bodyOf Tryd.f49)) [] := by unfold LV; cases loopsOf (bodyOf Tryd.f49) <;> trivial
theorem G49_ent : Ent Tryd.prog 49 := ⟨by decide, enters_of Tryd.func49 (by kernel_rfl) rfl⟩
theorem G49_hev : ∀ x : G49_CS.In, fnR Tryd.prog G49_C [] Tryd.f49 (bodyOf Tryd.f49) (encs G49_CS.A x.1) ⟨encs G49_CS.I x.2, [], G49_CS.nt⟩ (finK2 G49_CS G49_O2 0 G49_R2) = G49 x.1.1 x.1.2.1 x.2.1 := by
  intro x; kernel_rfl
theorem G49_valid : G49_E.Valid Tryd.prog :=
  altE_valid (S := G49_CS) (by kernel_rfl) (by kernel_rfl) (.inr G49_ent) (alt_lcall (S := G49_CS) mixed Tryd.func49 rfl G49_ent G49_CV G49_LV (by kernel_rfl) (by kernel_rfl) (by kernel_rfl) (by kernel_rfl) G49_hev)
noncomputable def G51_v1_C : CalT := tabC []
theorem G51_v1_CV : CV Tryd.prog G51_v1_C := tabC_valid (l := _) trivial
noncomputable def G51_v1_l0_c : Code := loopAt (bodyOf Tryd.f51) 0
noncomputable def G51_v1_l0_S : SPat := ⟨[.fix .pnil, .any, .any, .any, .dat (.int .i64), .dat .bool, .dat (.int .i64), .any, .any, .any, .any, .any, .any, .any, .any, .any, .any, .cons (.dat (.list (.int .i64))) (.cons (.dat (.list (.int .i64))) (.nil)), .dat (.int .i64), .any, .any, .any, .any, .any, .any, .any, .any, .any, .any, .any, .any, .any, .any, .any, .any, .any, .any, .any, .any, .any, .any, .any, .any, .any, .any, .any, .any, .any, .any, .any, .any, .any, .any, .any, .any, .any, .any, .any, .any, .any, .any, .any, .any, .any, .any, .any, .any, .any, .any, .any, .any, .any, .any, .any, .any], [.dat T26], 0⟩
abbrev TY5 : Type := ((Int × (Bool × (Int × (((List Int) × ((List Int) × Unit)) × (Int × Unit))))) × (E26 × Unit))
abbrev TY6 : Type := (Nat × ((Int × (Bool × (Int × (((List Int) × ((List Int) × Unit)) × (Int × Unit))))) × (E26 × Unit)))
noncomputable def G51_v1_l0_step (s : TY5) : Option TY6 :=
  (bif (decide (s.1.2.2.2.2.1 < 2)) then
  (bif (decide (s.1.2.2.2.2.1 = (0 : Int))) then
    none
    else
    (bif (decide (s.1.2.2.2.2.1 = (1 : Int))) then
      none
      else
      none))
  else
  some (1, ((s.1.1, (s.1.2.1, (s.1.2.2.1, (s.1.2.2.2.1, (s.1.2.2.2.2.1, ()))))), (s.2.1, ()))))
noncomputable def G51_v1_l0_fuel (s : TY5) : Nat := Int.toNat (2 - s.1.2.2.2.2.1) + 1
noncomputable def G51_v1_l0_run (s : TY5) : Option TY6 := iter G51_v1_l0_step (G51_v1_l0_fuel s) s
noncomputable def G51_v1_l0_L : LoopT := loopT G51_v1_l0_S [.exit 0] G51_v1_l0_run
noncomputable def G51_v1 (a0 : E26) : Option (Int × (Bool × Unit)) :=
  (Option.bind (G51_v1_l0_run ((0, (false, (0, ((a0.1, (a0.2.1, ())), (0, ()))))), (a0, ()))) fun q1 =>
  some (q1.2.1.2.2.1, (true, ())))
noncomputable def G51_v1_E : CEnt := viewE 51 [.fix .pnil, .dat T26] (.tup (.cons (.dat (.int .i64)) (.cons (.dat .bool) (.nil)))) fun x => G51_v1 x.1
theorem G51_v1_l0_V : LValid 0 Tryd.prog (.loop G51_v1_l0_c) G51_v1_l0_L false := by
  have hb : ∀ s, codeR Tryd.prog G51_v1_C G51_v1_l0_c [noL] (G51_v1_l0_S.encE s) (G51_v1_l0_S.encB s) (kst G51_v1_l0_S [.exit 0]) = G51_v1_l0_step s := by
    intro s; kernel_rfl
  have hl : loopsOf G51_v1_l0_c = [.loop (loopAt G51_v1_l0_c 0)] := by kernel_rfl
  have hL : LV 0 Tryd.prog false (loopsOf G51_v1_l0_c) [noL] := by rw [hl]; exact ⟨noL_valid, trivial⟩
  exact loopT_valid (fuel := G51_v1_l0_fuel) mixed G51_v1_CV hL (by kernel_rfl) (by decide) rfl hb (fun s r h => h)
theorem G51_v1_LV : LV 0 Tryd.prog false (loopsOf (bodyOf Tryd.f51)) [G51_v1_l0_L] := by
  have hl : loopsOf (bodyOf Tryd.f51) = [.loop G51_v1_l0_c] := by kernel_rfl
  rw [hl]; exact ⟨G51_v1_l0_V, trivial⟩
theorem G51_v1_ent : Ent Tryd.prog 51 := ⟨by decide, enters_of Tryd.func51 (by kernel_rfl) rfl⟩
theorem G51_v1_hev : ∀ x, fnR Tryd.prog G51_v1_C [G51_v1_l0_L] Tryd.f51 (bodyOf Tryd.f51) (encs [.fix .pnil, .dat T26] x) ⟨[], [], 0⟩ (frzF (.tup (.cons (.dat (.int .i64)) (.cons (.dat .bool) (.nil))))) = G51_v1 x.1 := by
  intro x; kernel_rfl
theorem G51_v1_valid : G51_v1_E.Valid Tryd.prog :=
  viewE_valid (by kernel_rfl) (by kernel_rfl) G51_v1_ent (frz_lcall mixed Tryd.func51 rfl G51_v1_ent G51_v1_CV G51_v1_LV (by kernel_rfl) (by kernel_rfl) G51_v1_hev)
noncomputable def G88_C : CalT := tabC []
theorem G88_CV : CV Tryd.prog G88_C := tabC_valid (l := _) trivial
noncomputable def G88_l0_c : Code := loopAt (bodyOf Tryd.f88) 0
noncomputable def G88_l0_S : SPat := ⟨[.any, .dat (.int .i64), .dat (.int .i64), .any, .any, .any, .any, .dat (.int .i64), .any, .any, .any, .any, .any, .any, .any, .any, .any, .any, .any, .any, .any, .any, .any, .any, .any, .dat (.list (.int .i64)), .dat (.int .i64), .dat (.int .i64), .any, .any, .any, .any, .any, .any, .any, .any, .any, .any, .any, .any, .any, .any, .any], [], 0⟩
abbrev TY7 : Type := (Nat × ((Int × (Int × (Int × ((List Int) × (Int × (Int × Unit)))))) × Unit))
noncomputable def G88_l0_step (s : ((Int × (Int × (Int × ((List Int) × (Int × (Int × Unit)))))) × Unit)) : Option TY7 :=
  (bif (decide (s.1.2.2.2.2.2.1 < s.1.2.2.2.2.1)) then
  (bif (decide (0 ≤ s.1.2.2.2.2.2.1) && decide (s.1.2.2.2.2.2.1 < (List.length s.1.2.2.2.1 : Int))) then
    (bif ((List.getD s.1.2.2.2.1 (Int.toNat s.1.2.2.2.2.2.1) 0) == s.1.1) then
      (bif (!decide (s.1.2.2.2.2.2.1 < 0)) then
        some (0, ((s.1.1, (s.1.2.1, ((IntKind.wrap .i64 ((BitVec.toNat ((BitVec.ofInt (IntKind.bits .i64) s.1.2.2.1) ||| (BitVec.ofInt (IntKind.bits .i64) (IntKind.wrap .i64 ((BitVec.toNat ((BitVec.ofInt (IntKind.bits .i64) s.1.2.1) &&& (BitVec.ofInt (IntKind.bits .i64) (IntKind.wrap .i64 (1 * 2 ^ (min (Int.toNat s.1.2.2.2.2.2.1) (IntKind.bits .i64)))))) : Nat) : Int)))) : Nat) : Int)), (s.1.2.2.2.1, (s.1.2.2.2.2.1, ((IntKind.wrap .i64 (s.1.2.2.2.2.2.1 + 1)), ())))))), ()))
        else
        none)
      else
      some (0, ((s.1.1, (s.1.2.1, (s.1.2.2.1, (s.1.2.2.2.1, (s.1.2.2.2.2.1, ((IntKind.wrap .i64 (s.1.2.2.2.2.2.1 + 1)), ())))))), ())))
    else
    none)
  else
  some (1, ((s.1.1, (s.1.2.1, (s.1.2.2.1, (s.1.2.2.2.1, (s.1.2.2.2.2.1, (s.1.2.2.2.2.2.1, ())))))), ())))
noncomputable def G88_l0_fuel (s : ((Int × (Int × (Int × ((List Int) × (Int × (Int × Unit)))))) × Unit)) : Nat := Int.toNat (s.1.2.2.2.2.1 - s.1.2.2.2.2.2.1) + 1
noncomputable def G88_l0_run (s : ((Int × (Int × (Int × ((List Int) × (Int × (Int × Unit)))))) × Unit)) : Option TY7 := iter G88_l0_step (G88_l0_fuel s) s
noncomputable def G88_l0_L : LoopT := loopT G88_l0_S [.exit 0] G88_l0_run
noncomputable def G88 (a0 : E123) (a1 : Int) (a2 : Int) : Option Int :=
  (bif (!decide ((IntKind.wrap .i64 ((List.length a0.1.2.2.2.2.1 : Int) + a1)) < 0)) then
  (Option.bind (G88_l0_run ((a1, (a2, ((IntKind.wrap .i64 ((BitVec.toNat ((BitVec.ofInt (IntKind.bits .i64) a2) &&& (BitVec.ofInt (IntKind.bits .i64) (IntKind.wrap .i64 (1 * 2 ^ (min (Int.toNat (IntKind.wrap .i64 ((List.length a0.1.2.2.2.2.1 : Int) + a1))) (IntKind.bits .i64)))))) : Nat) : Int)), (a0.1.2.2.2.2.1, ((List.length a0.1.2.2.2.2.1 : Int), (0, ())))))), ())) fun q1 =>
    some q1.2.1.2.2.1)
  else
  none)
noncomputable def G88_E : CEnt := viewE 88 [.ip T123, .dat (.int .i64), .dat (.int .i64)] (.dat (.int .i64)) fun x => G88 x.1 x.2.1 x.2.2.1
theorem G88_l0_V : LValid 0 Tryd.prog (.loop G88_l0_c) G88_l0_L false := by
  exact loopT_valid (fuel := G88_l0_fuel) mixed G88_CV (lvNil _) (by kernel_rfl) (by decide) rfl (by intro s; kernel_rfl) (fun s r h => h)
theorem G88_LV : LV 0 Tryd.prog false (loopsOf (bodyOf Tryd.f88)) [G88_l0_L] := by
  have hl : loopsOf (bodyOf Tryd.f88) = [.loop G88_l0_c] := by kernel_rfl
  rw [hl]; exact ⟨G88_l0_V, trivial⟩
theorem G88_ent : Ent Tryd.prog 88 := ⟨by decide, enters_of Tryd.func88 (by kernel_rfl) rfl⟩
theorem G88_hev : ∀ x, fnR Tryd.prog G88_C [G88_l0_L] Tryd.f88 (bodyOf Tryd.f88) (encs [.ip T123, .dat (.int .i64), .dat (.int .i64)] x) ⟨[], [], 0⟩ (frzF (.dat (.int .i64))) = G88 x.1 x.2.1 x.2.2.1 := by
  intro x; kernel_rfl
theorem G88_valid : G88_E.Valid Tryd.prog :=
  viewE_valid (by kernel_rfl) (by kernel_rfl) G88_ent (frz_lcall mixed Tryd.func88 rfl G88_ent G88_CV G88_LV (by kernel_rfl) (by kernel_rfl) G88_hev)
noncomputable def G89_C : CalT := tabC []
theorem G89_CV : CV Tryd.prog G89_C := tabC_valid (l := _) trivial
noncomputable def G89 (a0 : Int) (a1 : Int) (a2 : Int) : Option Int :=
  (bif (!decide (a1 < 0)) then
  (bif ((IntKind.wrap .i64 ((BitVec.toNat ((BitVec.ofInt (IntKind.bits .i64) (Int.fdiv a0 (2 ^ (min (Int.toNat a1) (IntKind.bits .i64))))) &&& (BitVec.ofInt (IntKind.bits .i64) 1)) : Nat) : Int)) == 1) then
    some a2
    else
    some 0)
  else
  none)
noncomputable def G89_E : CEnt := pureE 89 [.dat (.int .i64), .dat (.int .i64), .dat (.int .i64)] (.dat (.int .i64)) fun x => G89 x.1 x.2.1 x.2.2.1
theorem G89_LV : LV 0 Tryd.prog false (loopsOf (bodyOf Tryd.f89)) [] := by unfold LV; cases loopsOf (bodyOf Tryd.f89) <;> trivial
theorem G89_ent : Ent Tryd.prog 89 := ⟨by decide, enters_of Tryd.func89 (by kernel_rfl) rfl⟩
theorem G89_hev : ∀ x, fnR Tryd.prog G89_C [] Tryd.f89 (bodyOf Tryd.f89) (encs [.dat (.int .i64), .dat (.int .i64), .dat (.int .i64)] x) ⟨[], [], 0⟩ (frzF (.dat (.int .i64))) = G89 x.1 x.2.1 x.2.2.1 := by
  intro x; kernel_rfl
theorem G89_valid : G89_E.Valid Tryd.prog :=
  pureE_valid (by kernel_rfl) (by kernel_rfl) G89_ent (frz_lcall mixed Tryd.func89 rfl G89_ent G89_CV G89_LV (by kernel_rfl) (by kernel_rfl) G89_hev)
noncomputable def G107_C : CalT := tabC []
theorem G107_CV : CV Tryd.prog G107_C := tabC_valid (l := _) trivial
noncomputable def G107_l0_c : Code := loopAt (bodyOf Tryd.f107) 0
noncomputable def G107_l0_S : SPat := ⟨[.any, .any, .fix (.bptr 0 []), .fix (.bptr 1 []), .any, .any, .any, .dat (.list T56), .dat (.int .i64), .dat (.int .i64), .any, .any, .any, .any, .any, .any, .any, .any, .any, .any, .any, .any, .any, .any, .any, .any], [.cons (.dat (.int .i64)) (.cons (.dat (.int .i64)) (.nil)), .cons (.dat (.int .i64)) (.cons (.dat (.int .i64)) (.nil))], 0⟩
abbrev TY8 : Type := (((List E56) × (Int × (Int × Unit))) × ((Int × (Int × Unit)) × ((Int × (Int × Unit)) × Unit)))
abbrev TY9 : Type := (Nat × (((List E56) × (Int × (Int × Unit))) × ((Int × (Int × Unit)) × ((Int × (Int × Unit)) × Unit))))
noncomputable def G107_l0_step (s : TY8) : Option TY9 :=
  (bif (decide (s.1.2.2.1 < s.1.2.1)) then
  (bif (decide (0 ≤ s.1.2.2.1) && decide (s.1.2.2.1 < (List.length s.1.1 : Int))) then
    some (0, ((s.1.1, (s.1.2.1, ((IntKind.wrap .i64 (s.1.2.2.1 + 1)), ()))), (s.2.1, (((if (List.getD s.1.1 (Int.toNat s.1.2.2.1) (0, (0, ()))).1 > s.2.2.1.1 then (List.getD s.1.1 (Int.toNat s.1.2.2.1) (0, (0, ()))).1 else s.2.2.1.1), ((if (List.getD s.1.1 (Int.toNat s.1.2.2.1) (0, (0, ()))).2.1 < s.2.2.1.2.1 then (List.getD s.1.1 (Int.toNat s.1.2.2.1) (0, (0, ()))).2.1 else s.2.2.1.2.1), ())), ()))))
    else
    none)
  else
  some (1, ((s.1.1, (s.1.2.1, (s.1.2.2.1, ()))), (s.2.1, (s.2.2.1, ())))))
noncomputable def G107_l0_fuel (s : TY8) : Nat := Int.toNat (s.1.2.1 - s.1.2.2.1) + 1
noncomputable def G107_l0_run (s : TY8) : Option TY9 := iter G107_l0_step (G107_l0_fuel s) s
noncomputable def G107_l0_L : LoopT := loopT G107_l0_S [.exit 0] G107_l0_run
noncomputable def G107 (a0 : (List E56)) : Option E56 :=
  (Option.bind (G107_l0_run ((a0, ((List.length a0 : Int), (0, ()))), ((0, (0, ())), ((2000, (3200, ())), ())))) fun q1 =>
  some q1.2.2.2.1)
noncomputable def G107_E : CEnt := pureE 107 [.dat (.list T56)] (.dat T56) fun x => G107 x.1
theorem G107_l0_V : LValid 0 Tryd.prog (.loop G107_l0_c) G107_l0_L false := by
  exact loopT_valid (fuel := G107_l0_fuel) mixed G107_CV (lvNil _) (by kernel_rfl) (by decide) rfl (by intro s; kernel_rfl) (fun s r h => h)
theorem G107_LV : LV 0 Tryd.prog false (loopsOf (bodyOf Tryd.f107)) [G107_l0_L] := by
  have hl : loopsOf (bodyOf Tryd.f107) = [.loop G107_l0_c] := by kernel_rfl
  rw [hl]; exact ⟨G107_l0_V, trivial⟩
theorem G107_ent : Ent Tryd.prog 107 := ⟨by decide, enters_of Tryd.func107 (by kernel_rfl) rfl⟩
theorem G107_hev : ∀ x, fnR Tryd.prog G107_C [G107_l0_L] Tryd.f107 (bodyOf Tryd.f107) (encs [.dat (.list T56)] x) ⟨[], [], 0⟩ (frzF (.dat T56)) = G107 x.1 := by
  intro x; kernel_rfl
theorem G107_valid : G107_E.Valid Tryd.prog :=
  pureE_valid (by kernel_rfl) (by kernel_rfl) G107_ent (frz_lcall mixed Tryd.func107 rfl G107_ent G107_CV G107_LV (by kernel_rfl) (by kernel_rfl) G107_hev)
noncomputable def G91_C : CalT := tabC [G107_E]
theorem G91_CV : CV Tryd.prog G91_C := tabC_valid (l := _) ⟨G107_valid, trivial⟩
noncomputable def G91_l0_c : Code := loopAt (bodyOf Tryd.f91) 0
noncomputable def G91_l0_S : SPat := ⟨[.ip T123, .dat (.int .i64), .dat (.int .i64), .any, .any, .any, .fix (.bptr 0 []), .own 0 T56, .any, .any, .any, .any, .any, .any, .dat (.list T72), .dat (.int .i64), .dat (.int .i64), .any, .any, .any, .any, .any, .any, .any, .any, .any, .any, .any, .any, .any, .any, .any, .any, .any, .any, .any, .any, .any, .any, .any, .any, .any, .any, .any, .any, .any, .any, .any, .any, .any, .any, .any], [.cons (.dat (.int .i64)) (.cons (.dat (.int .i64)) (.nil))], 1⟩
abbrev TY10 : Type := (E123 × (Int × (Int × ((List E56) × ((List E72) × (Int × (Int × Unit)))))))
abbrev TY11 : Type := (Nat × ((E123 × (Int × (Int × ((List E56) × ((List E72) × (Int × (Int × Unit))))))) × ((Int × (Int × Unit)) × Unit)))
noncomputable def G91_l0_step (s : (TY10 × ((Int × (Int × Unit)) × Unit))) : Option TY11 :=
  (bif (decide (s.1.2.2.2.2.2.2.1 < s.1.2.2.2.2.2.1)) then
  (bif (decide (0 ≤ s.1.2.2.2.2.2.2.1) && decide (s.1.2.2.2.2.2.2.1 < (List.length s.1.2.2.2.2.1 : Int))) then
    (bif ((List.getD s.1.2.2.2.2.1 (Int.toNat s.1.2.2.2.2.2.2.1) (0, (0, (0, ())))).1 == s.1.2.1) then
      (bif (decide (List.length s.1.2.2.2.1 + List.length [((IntKind.wrap .i64 ((IntKind.wrap .i64 ((List.getD s.1.2.2.2.2.1 (Int.toNat s.1.2.2.2.2.2.2.1) (0, (0, (0, ())))).2.2.1 - (IntKind.wrap .i64 (s.1.2.2.1 * (List.getD s.1.2.2.2.2.1 (Int.toNat s.1.2.2.2.2.2.2.1) (0, (0, (0, ())))).2.1)))) - s.1.1.1.1)), ((IntKind.wrap .i64 ((IntKind.wrap .i64 ((List.getD s.1.2.2.2.2.1 (Int.toNat s.1.2.2.2.2.2.2.1) (0, (0, (0, ())))).2.2.1 - (IntKind.wrap .i64 (s.1.2.2.1 * (List.getD s.1.2.2.2.2.1 (Int.toNat s.1.2.2.2.2.2.2.1) (0, (0, (0, ())))).2.1)))) + s.1.1.1.1)), ()))] ≤ LIM)) then
        some (0, ((s.1.1, (s.1.2.1, (s.1.2.2.1, ((s.1.2.2.2.1 ++ [((IntKind.wrap .i64 ((IntKind.wrap .i64 ((List.getD s.1.2.2.2.2.1 (Int.toNat s.1.2.2.2.2.2.2.1) (0, (0, (0, ())))).2.2.1 - (IntKind.wrap .i64 (s.1.2.2.1 * (List.getD s.1.2.2.2.2.1 (Int.toNat s.1.2.2.2.2.2.2.1) (0, (0, (0, ())))).2.1)))) - s.1.1.1.1)), ((IntKind.wrap .i64 ((IntKind.wrap .i64 ((List.getD s.1.2.2.2.2.1 (Int.toNat s.1.2.2.2.2.2.2.1) (0, (0, (0, ())))).2.2.1 - (IntKind.wrap .i64 (s.1.2.2.1 * (List.getD s.1.2.2.2.2.1 (Int.toNat s.1.2.2.2.2.2.2.1) (0, (0, (0, ())))).2.1)))) + s.1.1.1.1)), ()))]), (s.1.2.2.2.2.1, (s.1.2.2.2.2.2.1, ((IntKind.wrap .i64 (s.1.2.2.2.2.2.2.1 + 1)), ()))))))), (s.2.1, ())))
        else
        none)
      else
      some (0, ((s.1.1, (s.1.2.1, (s.1.2.2.1, (s.1.2.2.2.1, (s.1.2.2.2.2.1, (s.1.2.2.2.2.2.1, ((IntKind.wrap .i64 (s.1.2.2.2.2.2.2.1 + 1)), ()))))))), (s.2.1, ()))))
    else
    none)
  else
  some (1, ((s.1.1, (s.1.2.1, (s.1.2.2.1, (s.1.2.2.2.1, (s.1.2.2.2.2.1, (s.1.2.2.2.2.2.1, (s.1.2.2.2.2.2.2.1, ()))))))), (s.2.1, ()))))
noncomputable def G91_l0_fuel (s : (TY10 × ((Int × (Int × Unit)) × Unit))) : Nat := Int.toNat (s.1.2.2.2.2.2.1 - s.1.2.2.2.2.2.2.1) + 1
noncomputable def G91_l0_run (s : (TY10 × ((Int × (Int × Unit)) × Unit))) : Option TY11 := iter G91_l0_step (G91_l0_fuel s) s
noncomputable def G91_l0_L : LoopT := loopT G91_l0_S [.exit 0] G91_l0_run
noncomputable def G91 (a0 : E123) (a1 : Int) (a2 : Int) : Option E56 :=
  (Option.bind (G91_l0_run ((a0, (a1, (a2, ([], (a0.2.1, ((List.length a0.2.1 : Int), (0, ()))))))), ((0, (0, ())), ()))) fun q1 =>
  (Option.bind (G107 q1.2.1.2.2.2.1) fun r2 =>
    some r2))
noncomputable def G91_E : CEnt := viewE 91 [.ip T123, .dat (.int .i64), .dat (.int .i64)] (.dat T56) fun x => G91 x.1 x.2.1 x.2.2.1
theorem G91_l0_V : LValid 0 Tryd.prog (.loop G91_l0_c) G91_l0_L false := by
  exact loopT_valid (fuel := G91_l0_fuel) mixed G91_CV (lvNil _) (by kernel_rfl) (by decide) rfl (by intro s; kernel_rfl) (fun s r h => h)
theorem G91_LV : LV 0 Tryd.prog false (loopsOf (bodyOf Tryd.f91)) [G91_l0_L] := by
  have hl : loopsOf (bodyOf Tryd.f91) = [.loop G91_l0_c] := by kernel_rfl
  rw [hl]; exact ⟨G91_l0_V, trivial⟩
theorem G91_ent : Ent Tryd.prog 91 := ⟨by decide, enters_of Tryd.func91 (by kernel_rfl) rfl⟩
theorem G91_hev : ∀ x, fnR Tryd.prog G91_C [G91_l0_L] Tryd.f91 (bodyOf Tryd.f91) (encs [.ip T123, .dat (.int .i64), .dat (.int .i64)] x) ⟨[], [], 0⟩ (frzF (.dat T56)) = G91 x.1 x.2.1 x.2.2.1 := by
  intro x; kernel_rfl
theorem G91_valid : G91_E.Valid Tryd.prog :=
  viewE_valid (by kernel_rfl) (by kernel_rfl) G91_ent (frz_lcall mixed Tryd.func91 rfl G91_ent G91_CV G91_LV (by kernel_rfl) (by kernel_rfl) G91_hev)
noncomputable def G55_C : CalT := tabC [G89_E, G91_E, G68_E]
theorem G55_CV : CV Tryd.prog G55_C := tabC_valid (l := _) ⟨G89_valid, G91_valid, G68_valid, trivial⟩
noncomputable def G55_l0_c : Code := loopAt (bodyOf Tryd.f55) 0
noncomputable def G55_l0_S : SPat := ⟨[.ip T123, .dat (.int .i64), .any, .dat (.int .i64), .dat (.int .i64), .any, .any, .any, .any, .any, .dat (.int .i64), .dat .bool, .dat (.int .i64), .dat (.int .i64), .any, .any, .any, .any, .any, .any, .any, .any, .any, .any, .any, .any, .any, .any, .any, .any, .any, .any, .any, .any, .any, .any, .any, .any, .any, .any, .any, .any, .any], [], 0⟩
abbrev TY12 : Type := (E123 × (Int × (Int × (Int × (Int × (Bool × (Int × (Int × Unit))))))))
abbrev TY13 : Type := (Nat × ((E123 × (Int × (Int × (Int × (Int × (Bool × (Int × (Int × Unit)))))))) × Unit))
noncomputable def G55_l0_step (s : (TY12 × Unit)) : Option TY13 :=
  (bif (decide (s.1.2.2.2.2.2.2.2.1 ≤ s.1.2.2.2.2.2.2.1)) then
  (Option.bind (G91 s.1.1 s.1.2.1 (IntKind.wrap .i64 (s.1.2.2.2.1 + s.1.2.2.2.2.2.2.2.1))) fun r2 =>
    (Option.bind (G68 s.1.2.2.1 r2.1 r2.2.1) fun r3 =>
      (bif r3 then
        some (1, ((s.1.1, (s.1.2.1, (s.1.2.2.1, (s.1.2.2.2.1, (s.1.2.2.2.2.2.2.2.1, (true, (s.1.2.2.2.2.2.2.1, (s.1.2.2.2.2.2.2.2.1, ())))))))), ()))
        else
        some (0, ((s.1.1, (s.1.2.1, (s.1.2.2.1, (s.1.2.2.2.1, (s.1.2.2.2.2.1, (s.1.2.2.2.2.2.1, (s.1.2.2.2.2.2.2.1, ((IntKind.wrap .i64 (s.1.2.2.2.2.2.2.2.1 + 1)), ())))))))), ())))))
  else
  some (2, ((s.1.1, (s.1.2.1, (s.1.2.2.1, (s.1.2.2.2.1, (s.1.2.2.2.2.1, (s.1.2.2.2.2.2.1, (s.1.2.2.2.2.2.2.1, (s.1.2.2.2.2.2.2.2.1, ())))))))), ())))
noncomputable def G55_l0_fuel (s : (TY12 × Unit)) : Nat := 100000
noncomputable def G55_l0_run (s : (TY12 × Unit)) : Option TY13 := iter G55_l0_step (G55_l0_fuel s) s
noncomputable def G55_l0_L : LoopT := loopT G55_l0_S [.ret, .exit 0] G55_l0_run
noncomputable def G55 (a0 : E123) (a1 : Int) (a2 : Int) (a3 : Int) (a4 : Int) : Option (Int × (Bool × Unit)) :=
  (Option.bind (G89 a2 a1 a0.1.2.1) fun r1 =>
  (Option.bind (G55_l0_run ((a0, (a1, (a3, (a4, (0, (false, (r1, ((IntKind.wrap .i64 (0 - r1)), ())))))))), ())) fun q4 =>
    (natK q4.1
      (some (q4.2.1.2.2.2.2.1, (q4.2.1.2.2.2.2.2.1, ())))
      (fun _ => some (0, (false, ()))))))
noncomputable def G55_E : CEnt := viewE 55 [.ip T123, .dat (.int .i64), .dat (.int .i64), .dat (.int .i64), .dat (.int .i64)] (.tup (.cons (.dat (.int .i64)) (.cons (.dat .bool) (.nil)))) fun x => G55 x.1 x.2.1 x.2.2.1 x.2.2.2.1 x.2.2.2.2.1
theorem G55_l0_V : LValid 0 Tryd.prog (.loop G55_l0_c) G55_l0_L false := by
  exact loopT_valid (fuel := G55_l0_fuel) mixed G55_CV (lvNil _) (by kernel_rfl) (by decide) rfl (by intro s; kernel_rfl) (fun s r h => h)
theorem G55_LV : LV 0 Tryd.prog false (loopsOf (bodyOf Tryd.f55)) [G55_l0_L] := by
  have hl : loopsOf (bodyOf Tryd.f55) = [.loop G55_l0_c] := by kernel_rfl
  rw [hl]; exact ⟨G55_l0_V, trivial⟩
theorem G55_ent : Ent Tryd.prog 55 := ⟨by decide, enters_of Tryd.func55 (by kernel_rfl) rfl⟩
theorem G55_hev : ∀ x, fnR Tryd.prog G55_C [G55_l0_L] Tryd.f55 (bodyOf Tryd.f55) (encs [.ip T123, .dat (.int .i64), .dat (.int .i64), .dat (.int .i64), .dat (.int .i64)] x) ⟨[], [], 0⟩ (frzF (.tup (.cons (.dat (.int .i64)) (.cons (.dat .bool) (.nil))))) = G55 x.1 x.2.1 x.2.2.1 x.2.2.2.1 x.2.2.2.2.1 := by
  intro x; kernel_rfl
theorem G55_valid : G55_E.Valid Tryd.prog :=
  viewE_valid (by kernel_rfl) (by kernel_rfl) G55_ent (frz_lcall mixed Tryd.func55 rfl G55_ent G55_CV G55_LV (by kernel_rfl) (by kernel_rfl) G55_hev)
noncomputable def G103_C : CalT := tabC [G55_E]
theorem G103_CV : CV Tryd.prog G103_C := tabC_valid (l := _) ⟨G55_valid, trivial⟩
noncomputable def G103_l0_c : Code := loopAt (bodyOf Tryd.f103) 0
noncomputable def G103_l0_S : SPat := ⟨[.ip T123, .dat (.int .i64), .dat (.int .i64), .dat (.int .i64), .dat (.int .i64), .any, .any, .any, .any, .any, .dat .bool, .any, .any, .any, .any, .any, .any, .any, .any, .dat (.list (.int .i64)), .dat (.int .i64), .dat (.int .i64), .any, .any, .any, .any, .any, .any, .any, .any, .any, .any, .any, .any, .any, .any, .any, .any, .any, .any, .any], [], 0⟩
abbrev TY14 : Type := (E123 × (Int × (Int × (Int × (Int × (Bool × ((List Int) × (Int × (Int × Unit)))))))))
abbrev TY15 : Type := (Nat × ((E123 × (Int × (Int × (Int × (Int × (Bool × ((List Int) × (Int × (Int × Unit))))))))) × Unit))
noncomputable def G103_l0_step (s : (TY14 × Unit)) : Option TY15 :=
  (bif (decide (s.1.2.2.2.2.2.2.2.2.1 < s.1.2.2.2.2.2.2.2.1)) then
  (bif (decide (0 ≤ s.1.2.2.2.2.2.2.2.2.1) && decide (s.1.2.2.2.2.2.2.2.2.1 < (List.length s.1.2.2.2.2.2.2.1 : Int))) then
    (bif ((List.getD s.1.2.2.2.2.2.2.1 (Int.toNat s.1.2.2.2.2.2.2.2.2.1) 0) != s.1.2.1) then
      some (0, ((s.1.1, (s.1.2.1, (s.1.2.2.1, (s.1.2.2.2.1, (s.1.2.2.2.2.1, (s.1.2.2.2.2.2.1, (s.1.2.2.2.2.2.2.1, (s.1.2.2.2.2.2.2.2.1, ((IntKind.wrap .i64 (s.1.2.2.2.2.2.2.2.2.1 + 1)), ()))))))))), ()))
      else
      (Option.bind (G55 s.1.1 s.1.2.2.2.2.2.2.2.2.1 s.1.2.2.1 s.1.2.2.2.1 s.1.2.2.2.2.1) fun r1 =>
        (bif (!r1.2.1) then
          some (1, ((s.1.1, (s.1.2.1, (s.1.2.2.1, (s.1.2.2.2.1, (s.1.2.2.2.2.1, (false, (s.1.2.2.2.2.2.2.1, (s.1.2.2.2.2.2.2.2.1, (s.1.2.2.2.2.2.2.2.2.1, ()))))))))), ()))
          else
          some (0, ((s.1.1, (s.1.2.1, (s.1.2.2.1, (s.1.2.2.2.1, (s.1.2.2.2.2.1, (s.1.2.2.2.2.2.1, (s.1.2.2.2.2.2.2.1, (s.1.2.2.2.2.2.2.2.1, ((IntKind.wrap .i64 (s.1.2.2.2.2.2.2.2.2.1 + 1)), ()))))))))), ())))))
    else
    none)
  else
  some (2, ((s.1.1, (s.1.2.1, (s.1.2.2.1, (s.1.2.2.2.1, (s.1.2.2.2.2.1, (s.1.2.2.2.2.2.1, (s.1.2.2.2.2.2.2.1, (s.1.2.2.2.2.2.2.2.1, (s.1.2.2.2.2.2.2.2.2.1, ()))))))))), ())))
noncomputable def G103_l0_fuel (s : (TY14 × Unit)) : Nat := Int.toNat (s.1.2.2.2.2.2.2.2.1 - s.1.2.2.2.2.2.2.2.2.1) + 1
noncomputable def G103_l0_run (s : (TY14 × Unit)) : Option TY15 := iter G103_l0_step (G103_l0_fuel s) s
noncomputable def G103_l0_L : LoopT := loopT G103_l0_S [.ret, .exit 0] G103_l0_run
noncomputable def G103 (a0 : E123) (a1 : Int) (a2 : Int) (a3 : Int) (a4 : Int) : Option Bool :=
  (Option.bind (G103_l0_run ((a0, (a1, (a2, (a3, (a4, (false, (a0.1.2.2.2.2.1, ((List.length a0.1.2.2.2.2.1 : Int), (0, ()))))))))), ())) fun q2 =>
  (natK q2.1
    (some q2.2.1.2.2.2.2.2.1)
    (fun _ => some true)))
noncomputable def G103_E : CEnt := viewE 103 [.ip T123, .dat (.int .i64), .dat (.int .i64), .dat (.int .i64), .dat (.int .i64)] (.dat .bool) fun x => G103 x.1 x.2.1 x.2.2.1 x.2.2.2.1 x.2.2.2.2.1
theorem G103_l0_V : LValid 0 Tryd.prog (.loop G103_l0_c) G103_l0_L false := by
  exact loopT_valid (fuel := G103_l0_fuel) mixed G103_CV (lvNil _) (by kernel_rfl) (by decide) rfl (by intro s; kernel_rfl) (fun s r h => h)
theorem G103_LV : LV 0 Tryd.prog false (loopsOf (bodyOf Tryd.f103)) [G103_l0_L] := by
  have hl : loopsOf (bodyOf Tryd.f103) = [.loop G103_l0_c] := by kernel_rfl
  rw [hl]; exact ⟨G103_l0_V, trivial⟩
theorem G103_ent : Ent Tryd.prog 103 := ⟨by decide, enters_of Tryd.func103 (by kernel_rfl) rfl⟩
theorem G103_hev : ∀ x, fnR Tryd.prog G103_C [G103_l0_L] Tryd.f103 (bodyOf Tryd.f103) (encs [.ip T123, .dat (.int .i64), .dat (.int .i64), .dat (.int .i64), .dat (.int .i64)] x) ⟨[], [], 0⟩ (frzF (.dat .bool)) = G103 x.1 x.2.1 x.2.2.1 x.2.2.2.1 x.2.2.2.2.1 := by
  intro x; kernel_rfl
theorem G103_valid : G103_E.Valid Tryd.prog :=
  viewE_valid (by kernel_rfl) (by kernel_rfl) G103_ent (frz_lcall mixed Tryd.func103 rfl G103_ent G103_CV G103_LV (by kernel_rfl) (by kernel_rfl) G103_hev)
noncomputable def G102_C : CalT := tabC [G68_E, G103_E]
theorem G102_CV : CV Tryd.prog G102_C := tabC_valid (l := _) ⟨G68_valid, G103_valid, trivial⟩
noncomputable def G102 (a0 : Int) (b1 : E123) (b2 : Int) (b3 : Int) (b4 : Int) : Option (Bool × (E123 × (Int × (Int × (Int × Unit))))) :=
  (Option.bind (G68 a0 2000 3200) fun r1 =>
  (bif r1 then
    (Option.bind (G103 b1 b2 b3 a0 b4) fun r2 =>
      some (r2, (b1, (b2, (b3, (b4, ()))))))
    else
    some (false, (b1, (b2, (b3, (b4, ())))))))
abbrev G102_CS : CSpec := ⟨[.dat (.int .i64), .fix (.bptr 0 []), .fix (.bptr 1 []), .fix (.bptr 2 []), .fix (.bptr 3 [])], [.ip T123, .dat (.int .i64), .dat (.int .i64), .dat (.int .i64)], 0, [.ip T123, .dat (.int .i64), .dat (.int .i64), .dat (.int .i64)], 0, .dat .bool⟩
noncomputable def G102_E : CEnt := boxE 102 G102_CS fun x => G102 x.1.1 x.2.1 x.2.2.1 x.2.2.2.1 x.2.2.2.2.1
theorem G102_LV : LV 4 Tryd.prog false (loopsOf (bodyOf Tryd.f102)) [] := by unfold LV; cases loopsOf (bodyOf Tryd.f102) <;> trivial
theorem G102_ent : Ent Tryd.prog 102 := ⟨by decide, enters_of Tryd.func102 (by kernel_rfl) rfl⟩
theorem G102_hev : ∀ x : G102_CS.In, fnR Tryd.prog G102_C [] Tryd.f102 (bodyOf Tryd.f102) (encs G102_CS.A x.1) ⟨encs G102_CS.I x.2, [], G102_CS.nt⟩ (finK G102_CS) = G102 x.1.1 x.2.1 x.2.2.1 x.2.2.2.1 x.2.2.2.2.1 := by
  intro x; kernel_rfl
theorem G102_valid : G102_E.Valid Tryd.prog :=
  boxE_valid (S := G102_CS) (by kernel_rfl) (.inr G102_ent) (fn_lcall (S := G102_CS) mixed Tryd.func102 rfl G102_ent G102_CV G102_LV (by kernel_rfl) (by kernel_rfl) G102_hev)
noncomputable def G105_C : CalT := tabC []
theorem G105_CV : CV Tryd.prog G105_C := tabC_valid (l := _) trivial
noncomputable def G105 (a0 : Int) (a1 : Int) : Option Bool :=
  some (decide (a0 < a1))
noncomputable def G105_E : CEnt := pureE 105 [.dat (.int .i64), .dat (.int .i64)] (.dat .bool) fun x => G105 x.1 x.2.1
theorem G105_LV : LV 0 Tryd.prog false (loopsOf (bodyOf Tryd.f105)) [] := by unfold LV; cases loopsOf (bodyOf Tryd.f105) <;> trivial
theorem G105_ent : Ent Tryd.prog 105 := ⟨by decide, enters_of Tryd.func105 (by kernel_rfl) rfl⟩
theorem G105_hev : ∀ x, fnR Tryd.prog G105_C [] Tryd.f105 (bodyOf Tryd.f105) (encs [.dat (.int .i64), .dat (.int .i64)] x) ⟨[], [], 0⟩ (frzF (.dat .bool)) = G105 x.1 x.2.1 := by
  intro x; kernel_rfl
theorem G105_valid : G105_E.Valid Tryd.prog :=
  pureE_valid (by kernel_rfl) (by kernel_rfl) G105_ent (frz_lcall mixed Tryd.func105 rfl G105_ent G105_CV G105_LV (by kernel_rfl) (by kernel_rfl) G105_hev)
noncomputable def G104_C : CalT := tabC [G102_E, G105_E]
theorem G104_CV : CV Tryd.prog G104_C := tabC_valid (l := _) ⟨G102_valid, G105_valid, trivial⟩
noncomputable def G104_l0_c : Code := loopAt (bodyOf Tryd.f104) 0
noncomputable def G104_l0_S : SPat := ⟨[.any, .fix (.func (.func 102) .nil (.cons (.bptr 0 []) (.cons (.bptr 1 []) (.cons (.bptr 2 []) (.cons (.bptr 3 []) .nil))))), .fix (.func (.func 105) .nil .nil), .any, .any, .any, .any, .any, .dat (.int .i64), .dat .bool, .any, .any, .dat (.list (.int .i64)), .dat (.int .i64), .dat (.int .i64), .any, .any, .any, .any, .any, .any, .any, .any, .any, .any, .any, .any, .any, .any, .any, .any, .any, .any, .any, .any], [.ip T123, .dat (.int .i64), .dat (.int .i64), .dat (.int .i64)], 0⟩
abbrev TY16 : Type := ((Int × (Bool × ((List Int) × (Int × (Int × Unit))))) × (E123 × (Int × (Int × (Int × Unit)))))
abbrev TY17 : Type := (Nat × ((Int × (Bool × ((List Int) × (Int × (Int × Unit))))) × (E123 × (Int × (Int × (Int × Unit))))))
noncomputable def G104_l0_step (s : TY16) : Option TY17 :=
  (bif (decide (s.1.2.2.2.2.1 < s.1.2.2.2.1)) then
  (bif (decide (0 ≤ s.1.2.2.2.2.1) && decide (s.1.2.2.2.2.1 < (List.length s.1.2.2.1 : Int))) then
    (bif (!s.1.2.1) then
      (Option.bind (G102 (List.getD s.1.2.2.1 (Int.toNat s.1.2.2.2.2.1) 0) s.2.1 s.2.2.1 s.2.2.2.1 s.2.2.2.2.1) fun r1 =>
        (bif r1.1 then
          some (0, (((List.getD s.1.2.2.1 (Int.toNat s.1.2.2.2.2.1) 0), (true, (s.1.2.2.1, (s.1.2.2.2.1, ((IntKind.wrap .i64 (s.1.2.2.2.2.1 + 1)), ()))))), (r1.2.1, (r1.2.2.1, (r1.2.2.2.1, (r1.2.2.2.2.1, ()))))))
          else
          some (0, ((s.1.1, (s.1.2.1, (s.1.2.2.1, (s.1.2.2.2.1, ((IntKind.wrap .i64 (s.1.2.2.2.2.1 + 1)), ()))))), (r1.2.1, (r1.2.2.1, (r1.2.2.2.1, (r1.2.2.2.2.1, ()))))))))
      else
      (Option.bind (G105 (List.getD s.1.2.2.1 (Int.toNat s.1.2.2.2.2.1) 0) s.1.1) fun r2 =>
        (bif r2 then
          (Option.bind (G102 (List.getD s.1.2.2.1 (Int.toNat s.1.2.2.2.2.1) 0) s.2.1 s.2.2.1 s.2.2.2.1 s.2.2.2.2.1) fun r3 =>
            (bif r3.1 then
              some (0, (((List.getD s.1.2.2.1 (Int.toNat s.1.2.2.2.2.1) 0), (true, (s.1.2.2.1, (s.1.2.2.2.1, ((IntKind.wrap .i64 (s.1.2.2.2.2.1 + 1)), ()))))), (r3.2.1, (r3.2.2.1, (r3.2.2.2.1, (r3.2.2.2.2.1, ()))))))
              else
              some (0, ((s.1.1, (s.1.2.1, (s.1.2.2.1, (s.1.2.2.2.1, ((IntKind.wrap .i64 (s.1.2.2.2.2.1 + 1)), ()))))), (r3.2.1, (r3.2.2.1, (r3.2.2.2.1, (r3.2.2.2.2.1, ()))))))))
          else
          some (0, ((s.1.1, (s.1.2.1, (s.1.2.2.1, (s.1.2.2.2.1, ((IntKind.wrap .i64 (s.1.2.2.2.2.1 + 1)), ()))))), (s.2.1, (s.2.2.1, (s.2.2.2.1, (s.2.2.2.2.1, ())))))))))
    else
    none)
  else
  some (1, ((s.1.1, (s.1.2.1, (s.1.2.2.1, (s.1.2.2.2.1, (s.1.2.2.2.2.1, ()))))), (s.2.1, (s.2.2.1, (s.2.2.2.1, (s.2.2.2.2.1, ())))))))
noncomputable def G104_l0_fuel (s : TY16) : Nat := Int.toNat (s.1.2.2.2.1 - s.1.2.2.2.2.1) + 1
noncomputable def G104_l0_run (s : TY16) : Option TY17 := iter G104_l0_step (G104_l0_fuel s) s
noncomputable def G104_l0_L : LoopT := loopT G104_l0_S [.exit 0] G104_l0_run
noncomputable def G104 (a0 : (List Int)) (b1 : E123) (b2 : Int) (b3 : Int) (b4 : Int) : Option ((Int × (Bool × Unit)) × (E123 × (Int × (Int × (Int × Unit))))) :=
  (Option.bind (G104_l0_run ((0, (false, (a0, ((List.length a0 : Int), (0, ()))))), (b1, (b2, (b3, (b4, ())))))) fun q4 =>
  some ((q4.2.1.1, (q4.2.1.2.1, ())), (q4.2.2.1, (q4.2.2.2.1, (q4.2.2.2.2.1, (q4.2.2.2.2.2.1, ()))))))
abbrev G104_CS : CSpec := ⟨[.dat (.list (.int .i64)), .fix (.func (.func 102) .nil (.cons (.bptr 0 []) (.cons (.bptr 1 []) (.cons (.bptr 2 []) (.cons (.bptr 3 []) .nil))))), .fix (.func (.func 105) .nil .nil)], [.ip T123, .dat (.int .i64), .dat (.int .i64), .dat (.int .i64)], 0, [.ip T123, .dat (.int .i64), .dat (.int .i64), .dat (.int .i64)], 0, .tup (.cons (.dat (.int .i64)) (.cons (.dat .bool) (.nil)))⟩
noncomputable def G104_E : CEnt := boxE 104 G104_CS fun x => G104 x.1.1 x.2.1 x.2.2.1 x.2.2.2.1 x.2.2.2.2.1
theorem G104_l0_V : LValid 4 Tryd.prog (.loop G104_l0_c) G104_l0_L false := by
  have hb : ∀ s, codeR Tryd.prog G104_C G104_l0_c [] (G104_l0_S.encE s) (G104_l0_S.encB s) (kst G104_l0_S [.exit 0]) = G104_l0_step s := by
    intro s; kernel_rfl
  have hL : LV 4 Tryd.prog false (loopsOf G104_l0_c) [] := by unfold LV; cases loopsOf G104_l0_c <;> trivial
  exact loopT_valid (fuel := G104_l0_fuel) mixed G104_CV hL (by kernel_rfl) (by decide) rfl hb (fun s r h => h)
theorem G104_LV : LV 4 Tryd.prog false (loopsOf (bodyOf Tryd.f104)) [G104_l0_L] := by
  have hl : loopsOf (bodyOf Tryd.f104) = [.loop G104_l0_c] := by kernel_rfl
  rw [hl]; exact ⟨G104_l0_V, trivial⟩
theorem G104_ent : Ent Tryd.prog 104 := ⟨by decide, enters_of Tryd.func104 (by kernel_rfl) rfl⟩
theorem G104_hev : ∀ x : G104_CS.In, fnR Tryd.prog G104_C [G104_l0_L] Tryd.f104 (bodyOf Tryd.f104) (encs G104_CS.A x.1) ⟨encs G104_CS.I x.2, [], G104_CS.nt⟩ (finK G104_CS) = G104 x.1.1 x.2.1 x.2.2.1 x.2.2.2.1 x.2.2.2.2.1 := by
  intro x; kernel_rfl
theorem G104_valid : G104_E.Valid Tryd.prog :=
  boxE_valid (S := G104_CS) (by kernel_rfl) (.inr G104_ent) (fn_lcall (S := G104_CS) mixed Tryd.func104 rfl G104_ent G104_CV G104_LV (by kernel_rfl) (by kernel_rfl) G104_hev)
noncomputable def G106_C : CalT := tabC []
theorem G106_CV : CV Tryd.prog G106_C := tabC_valid (l := _) trivial
noncomputable def G106 (a0 : Int) (a1 : Int) : Option Bool :=
  some (decide (a0 > a1))
noncomputable def G106_E : CEnt := pureE 106 [.dat (.int .i64), .dat (.int .i64)] (.dat .bool) fun x => G106 x.1 x.2.1
theorem G106_LV : LV 0 Tryd.prog false (loopsOf (bodyOf Tryd.f106)) [] := by unfold LV; cases loopsOf (bodyOf Tryd.f106) <;> trivial
theorem G106_ent : Ent Tryd.prog 106 := ⟨by decide, enters_of Tryd.func106 (by kernel_rfl) rfl⟩
theorem G106_hev : ∀ x, fnR Tryd.prog G106_C [] Tryd.f106 (bodyOf Tryd.f106) (encs [.dat (.int .i64), .dat (.int .i64)] x) ⟨[], [], 0⟩ (frzF (.dat .bool)) = G106 x.1 x.2.1 := by
  intro x; kernel_rfl
theorem G106_valid : G106_E.Valid Tryd.prog :=
  pureE_valid (by kernel_rfl) (by kernel_rfl) G106_ent (frz_lcall mixed Tryd.func106 rfl G106_ent G106_CV G106_LV (by kernel_rfl) (by kernel_rfl) G106_hev)
noncomputable def G104_v1_C : CalT := tabC [G102_E, G106_E]
theorem G104_v1_CV : CV Tryd.prog G104_v1_C := tabC_valid (l := _) ⟨G102_valid, G106_valid, trivial⟩
noncomputable def G104_v1_l0_c : Code := loopAt (bodyOf Tryd.f104) 0
noncomputable def G104_v1_l0_S : SPat := ⟨[.any, .fix (.func (.func 102) .nil (.cons (.bptr 0 []) (.cons (.bptr 1 []) (.cons (.bptr 2 []) (.cons (.bptr 3 []) .nil))))), .fix (.func (.func 106) .nil .nil), .any, .any, .any, .any, .any, .dat (.int .i64), .dat .bool, .any, .any, .dat (.list (.int .i64)), .dat (.int .i64), .dat (.int .i64), .any, .any, .any, .any, .any, .any, .any, .any, .any, .any, .any, .any, .any, .any, .any, .any, .any, .any, .any, .any], [.ip T123, .dat (.int .i64), .dat (.int .i64), .dat (.int .i64)], 0⟩
noncomputable def G104_v1_l0_step (s : TY16) : Option TY17 :=
  (bif (decide (s.1.2.2.2.2.1 < s.1.2.2.2.1)) then
  (bif (decide (0 ≤ s.1.2.2.2.2.1) && decide (s.1.2.2.2.2.1 < (List.length s.1.2.2.1 : Int))) then
    (bif (!s.1.2.1) then
      (Option.bind (G102 (List.getD s.1.2.2.1 (Int.toNat s.1.2.2.2.2.1) 0) s.2.1 s.2.2.1 s.2.2.2.1 s.2.2.2.2.1) fun r1 =>
        (bif r1.1 then
          some (0, (((List.getD s.1.2.2.1 (Int.toNat s.1.2.2.2.2.1) 0), (true, (s.1.2.2.1, (s.1.2.2.2.1, ((IntKind.wrap .i64 (s.1.2.2.2.2.1 + 1)), ()))))), (r1.2.1, (r1.2.2.1, (r1.2.2.2.1, (r1.2.2.2.2.1, ()))))))
          else
          some (0, ((s.1.1, (s.1.2.1, (s.1.2.2.1, (s.1.2.2.2.1, ((IntKind.wrap .i64 (s.1.2.2.2.2.1 + 1)), ()))))), (r1.2.1, (r1.2.2.1, (r1.2.2.2.1, (r1.2.2.2.2.1, ()))))))))
      else
      (Option.bind (G106 (List.getD s.1.2.2.1 (Int.toNat s.1.2.2.2.2.1) 0) s.1.1) fun r2 =>
        (bif r2 then
          (Option.bind (G102 (List.getD s.1.2.2.1 (Int.toNat s.1.2.2.2.2.1) 0) s.2.1 s.2.2.1 s.2.2.2.1 s.2.2.2.2.1) fun r3 =>
            (bif r3.1 then
              some (0, (((List.getD s.1.2.2.1 (Int.toNat s.1.2.2.2.2.1) 0), (true, (s.1.2.2.1, (s.1.2.2.2.1, ((IntKind.wrap .i64 (s.1.2.2.2.2.1 + 1)), ()))))), (r3.2.1, (r3.2.2.1, (r3.2.2.2.1, (r3.2.2.2.2.1, ()))))))
              else
              some (0, ((s.1.1, (s.1.2.1, (s.1.2.2.1, (s.1.2.2.2.1, ((IntKind.wrap .i64 (s.1.2.2.2.2.1 + 1)), ()))))), (r3.2.1, (r3.2.2.1, (r3.2.2.2.1, (r3.2.2.2.2.1, ()))))))))
          else
          some (0, ((s.1.1, (s.1.2.1, (s.1.2.2.1, (s.1.2.2.2.1, ((IntKind.wrap .i64 (s.1.2.2.2.2.1 + 1)), ()))))), (s.2.1, (s.2.2.1, (s.2.2.2.1, (s.2.2.2.2.1, ())))))))))
    else
    none)
  else
  some (1, ((s.1.1, (s.1.2.1, (s.1.2.2.1, (s.1.2.2.2.1, (s.1.2.2.2.2.1, ()))))), (s.2.1, (s.2.2.1, (s.2.2.2.1, (s.2.2.2.2.1, ())))))))
noncomputable def G104_v1_l0_fuel (s : TY16) : Nat := Int.toNat (s.1.2.2.2.1 - s.1.2.2.2.2.1) + 1
noncomputable def G104_v1_l0_run (s : TY16) : Option TY17 := iter G104_v1_l0_step (G104_v1_l0_fuel s) s
noncomputable def G104_v1_l0_L : LoopT := loopT G104_v1_l0_S [.exit 0] G104_v1_l0_run
noncomputable def G104_v1 (a0 : (List Int)) (b1 : E123) (b2 : Int) (b3 : Int) (b4 : Int) : Option ((Int × (Bool × Unit)) × (E123 × (Int × (Int × (Int × Unit))))) :=
  (Option.bind (G104_v1_l0_run ((0, (false, (a0, ((List.length a0 : Int), (0, ()))))), (b1, (b2, (b3, (b4, ())))))) fun q4 =>
  some ((q4.2.1.1, (q4.2.1.2.1, ())), (q4.2.2.1, (q4.2.2.2.1, (q4.2.2.2.2.1, (q4.2.2.2.2.2.1, ()))))))
abbrev G104_v1_CS : CSpec := ⟨[.dat (.list (.int .i64)), .fix (.func (.func 102) .nil (.cons (.bptr 0 []) (.cons (.bptr 1 []) (.cons (.bptr 2 []) (.cons (.bptr 3 []) .nil))))), .fix (.func (.func 106) .nil .nil)], [.ip T123, .dat (.int .i64), .dat (.int .i64), .dat (.int .i64)], 0, [.ip T123, .dat (.int .i64), .dat (.int .i64), .dat (.int .i64)], 0, .tup (.cons (.dat (.int .i64)) (.cons (.dat .bool) (.nil)))⟩
noncomputable def G104_v1_E : CEnt := boxE 104 G104_v1_CS fun x => G104_v1 x.1.1 x.2.1 x.2.2.1 x.2.2.2.1 x.2.2.2.2.1
theorem G104_v1_l0_V : LValid 4 Tryd.prog (.loop G104_v1_l0_c) G104_v1_l0_L false := by
  have hb : ∀ s, codeR Tryd.prog G104_v1_C G104_v1_l0_c [] (G104_v1_l0_S.encE s) (G104_v1_l0_S.encB s) (kst G104_v1_l0_S [.exit 0]) = G104_v1_l0_step s := by
    intro s; kernel_rfl
  have hL : LV 4 Tryd.prog false (loopsOf G104_v1_l0_c) [] := by unfold LV; cases loopsOf G104_v1_l0_c <;> trivial
  exact loopT_valid (fuel := G104_v1_l0_fuel) mixed G104_v1_CV hL (by kernel_rfl) (by decide) rfl hb (fun s r h => h)
theorem G104_v1_LV : LV 4 Tryd.prog false (loopsOf (bodyOf Tryd.f104)) [G104_v1_l0_L] := by
  have hl : loopsOf (bodyOf Tryd.f104) = [.loop G104_v1_l0_c] := by kernel_rfl
  rw [hl]; exact ⟨G104_v1_l0_V, trivial⟩
theorem G104_v1_ent : Ent Tryd.prog 104 := ⟨by decide, enters_of Tryd.func104 (by kernel_rfl) rfl⟩
theorem G104_v1_hev : ∀ x : G104_v1_CS.In, fnR Tryd.prog G104_v1_C [G104_v1_l0_L] Tryd.f104 (bodyOf Tryd.f104) (encs G104_v1_CS.A x.1) ⟨encs G104_v1_CS.I x.2, [], G104_v1_CS.nt⟩ (finK G104_v1_CS) = G104_v1 x.1.1 x.2.1 x.2.2.1 x.2.2.2.1 x.2.2.2.2.1 := by
  intro x; kernel_rfl
theorem G104_v1_valid : G104_v1_E.Valid Tryd.prog :=
  boxE_valid (S := G104_v1_CS) (by kernel_rfl) (.inr G104_v1_ent) (fn_lcall (S := G104_v1_CS) mixed Tryd.func104 rfl G104_v1_ent G104_v1_CV G104_v1_LV (by kernel_rfl) (by kernel_rfl) G104_v1_hev)
noncomputable def G90_C : CalT := tabC [G89_E, G91_E, G104_E, G104_v1_E]
theorem G90_CV : CV Tryd.prog G90_C := tabC_valid (l := _) ⟨G89_valid, G91_valid, G104_valid, G104_v1_valid, trivial⟩
noncomputable def G90_l0_c : Code := loopAt (bodyOf Tryd.f90) 0
noncomputable def G90_l1_c : Code := loopAt G90_l0_c 0
noncomputable def G90_l1_S : SPat := ⟨[.any, .any, .any, .any, .fix (.bptr 0 []), .fix (.bptr 1 []), .fix (.bptr 2 []), .fix (.bptr 3 []), .fix (.bptr 4 []), .any, .own 0 (.int .i64), .own 1 (.int .i64), .dat (.int .i64), .any, .dat (.int .i64), .dat (.int .i64), .any, .any, .any, .any, .any, .any, .any, .any, .any, .any, .any, .any, .dat (.list (.int .i64)), .dat (.int .i64), .dat (.int .i64), .any, .any, .any, .any, .any, .any, .any, .any, .any, .any, .any, .any, .any, .any, .any, .any, .any, .any, .any, .any, .any, .any, .any, .any, .any, .any, .any, .any, .any, .any, .any, .any, .any, .any, .any, .any, .any, .any, .any, .any, .any, .any, .any, .any, .any, .any, .any, .any, .any, .any, .any, .any, .any, .any, .any, .any], [.ip T123, .dat (.int .i64), .dat (.int .i64), .dat (.int .i64), .cons (.dat (.int .i64)) (.cons (.dat (.int .i64)) (.nil))], 2⟩
abbrev TY18 : Type := (((List Int) × ((List Int) × (Int × (Int × (Int × ((List Int) × (Int × (Int × Unit)))))))) × (E123 × (Int × (Int × (Int × ((Int × (Int × Unit)) × Unit))))))
abbrev TY19 : Type := (Nat × (((List Int) × ((List Int) × (Int × (Int × (Int × ((List Int) × (Int × (Int × Unit)))))))) × (E123 × (Int × (Int × (Int × ((Int × (Int × Unit)) × Unit)))))))
noncomputable def G90_l1_step (s : TY18) : Option TY19 :=
  (bif (decide (s.1.2.2.2.2.1 ≤ s.1.2.2.2.1)) then
  (Option.bind (G91 s.2.1 s.1.2.2.1 (IntKind.wrap .i64 (s.2.2.2.2.1 + s.1.2.2.2.2.1))) fun r2 =>
    (bif (decide (List.length s.1.1 + List.length [r2.1] ≤ LIM)) then
      (bif (decide (List.length s.1.2.1 + List.length [r2.2.1] ≤ LIM)) then
        some (0, (((s.1.1 ++ [r2.1]), ((s.1.2.1 ++ [r2.2.1]), (s.1.2.2.1, (s.1.2.2.2.1, ((IntKind.wrap .i64 (s.1.2.2.2.2.1 + 1)), (s.1.2.2.2.2.2.1, (s.1.2.2.2.2.2.2.1, (s.1.2.2.2.2.2.2.2.1, ())))))))), (s.2.1, (s.2.2.1, (s.2.2.2.1, (s.2.2.2.2.1, (s.2.2.2.2.2.1, ())))))))
        else
        none)
      else
      none))
  else
  some (1, ((s.1.1, (s.1.2.1, (s.1.2.2.1, (s.1.2.2.2.1, (s.1.2.2.2.2.1, (s.1.2.2.2.2.2.1, (s.1.2.2.2.2.2.2.1, (s.1.2.2.2.2.2.2.2.1, ())))))))), (s.2.1, (s.2.2.1, (s.2.2.2.1, (s.2.2.2.2.1, (s.2.2.2.2.2.1, ()))))))))
noncomputable def G90_l1_fuel (s : TY18) : Nat := 100000
noncomputable def G90_l1_run (s : TY18) : Option TY19 := iter G90_l1_step (G90_l1_fuel s) s
noncomputable def G90_l1_L : LoopT := loopT G90_l1_S [.exit 2] G90_l1_run
noncomputable def G90_l0_S : SPat := ⟨[.any, .any, .any, .any, .fix (.bptr 0 []), .fix (.bptr 1 []), .fix (.bptr 2 []), .fix (.bptr 3 []), .fix (.bptr 4 []), .any, .own 0 (.int .i64), .own 1 (.int .i64), .any, .any, .any, .any, .any, .any, .any, .any, .any, .any, .any, .any, .any, .any, .any, .any, .dat (.list (.int .i64)), .dat (.int .i64), .dat (.int .i64), .any, .any, .any, .any, .any, .any, .any, .any, .any, .any, .any, .any, .any, .any, .any, .any, .any, .any, .any, .any, .any, .any, .any, .any, .any, .any, .any, .any, .any, .any, .any, .any, .any, .any, .any, .any, .any, .any, .any, .any, .any, .any, .any, .any, .any, .any, .any, .any, .any, .any, .any, .any, .any, .any, .any, .any], [.ip T123, .dat (.int .i64), .dat (.int .i64), .dat (.int .i64), .cons (.dat (.int .i64)) (.cons (.dat (.int .i64)) (.nil))], 2⟩
abbrev TY20 : Type := (((List Int) × ((List Int) × ((List Int) × (Int × (Int × Unit))))) × (E123 × (Int × (Int × (Int × ((Int × (Int × Unit)) × Unit))))))
abbrev TY21 : Type := (Nat × (((List Int) × ((List Int) × ((List Int) × (Int × (Int × Unit))))) × (E123 × (Int × (Int × (Int × ((Int × (Int × Unit)) × Unit)))))))
noncomputable def G90_l0_step (s : TY20) : Option TY21 :=
  (bif (decide (s.1.2.2.2.2.1 < s.1.2.2.2.1)) then
  (bif (decide (0 ≤ s.1.2.2.2.2.1) && decide (s.1.2.2.2.2.1 < (List.length s.1.2.2.1 : Int))) then
    (bif ((List.getD s.1.2.2.1 (Int.toNat s.1.2.2.2.2.1) 0) != s.2.2.1) then
      some (0, ((s.1.1, (s.1.2.1, (s.1.2.2.1, (s.1.2.2.2.1, ((IntKind.wrap .i64 (s.1.2.2.2.2.1 + 1)), ()))))), (s.2.1, (s.2.2.1, (s.2.2.2.1, (s.2.2.2.2.1, (s.2.2.2.2.2.1, ())))))))
      else
      (Option.bind (G89 s.2.2.2.1 s.1.2.2.2.2.1 s.2.1.1.2.1) fun r1 =>
        (Option.bind (G90_l1_run ((s.1.1, (s.1.2.1, (s.1.2.2.2.2.1, (r1, ((IntKind.wrap .i64 (0 - r1)), (s.1.2.2.1, (s.1.2.2.2.1, (s.1.2.2.2.2.1, ())))))))), (s.2.1, (s.2.2.1, (s.2.2.2.1, (s.2.2.2.2.1, (s.2.2.2.2.2.1, ()))))))) fun q3 =>
          some (0, ((q3.2.1.1, (q3.2.1.2.1, (q3.2.1.2.2.2.2.2.1, (q3.2.1.2.2.2.2.2.2.1, ((IntKind.wrap .i64 (q3.2.1.2.2.2.2.2.2.2.1 + 1)), ()))))), (q3.2.2.1, (q3.2.2.2.1, (q3.2.2.2.2.1, (q3.2.2.2.2.2.1, (q3.2.2.2.2.2.2.1, ()))))))))))
    else
    none)
  else
  some (1, ((s.1.1, (s.1.2.1, (s.1.2.2.1, (s.1.2.2.2.1, (s.1.2.2.2.2.1, ()))))), (s.2.1, (s.2.2.1, (s.2.2.2.1, (s.2.2.2.2.1, (s.2.2.2.2.2.1, ()))))))))
noncomputable def G90_l0_fuel (s : TY20) : Nat := Int.toNat (s.1.2.2.2.1 - s.1.2.2.2.2.1) + 1
noncomputable def G90_l0_run (s : TY20) : Option TY21 := iter G90_l0_step (G90_l0_fuel s) s
noncomputable def G90_l0_L : LoopT := loopT G90_l0_S [.exit 0] G90_l0_run
noncomputable def G90 (a0 : E123) (a1 : Int) (a2 : Int) (a3 : Int) : Option (E56 × (Bool × Unit)) :=
  (Option.bind (G90_l0_run (([2000], ([3200], (a0.1.2.2.2.2.1, ((List.length a0.1.2.2.2.2.1 : Int), (0, ()))))), (a0, (a1, (a2, (a3, ((0, (0, ())), ()))))))) fun q4 =>
  (Option.bind (G104 q4.2.1.1 q4.2.2.1 q4.2.2.2.1 q4.2.2.2.2.1 q4.2.2.2.2.2.1) fun r5 =>
    (Option.bind (G104_v1 q4.2.1.2.1 r5.2.1 r5.2.2.1 r5.2.2.2.1 r5.2.2.2.2.1) fun r6 =>
      some ((r5.1.1, (r6.1.1, ())), (r5.1.2.1, ())))))
noncomputable def G90_E : CEnt := viewE 90 [.ip T123, .dat (.int .i64), .dat (.int .i64), .dat (.int .i64)] (.tup (.cons (.dat T56) (.cons (.dat .bool) (.nil)))) fun x => G90 x.1 x.2.1 x.2.2.1 x.2.2.2.1
theorem G90_l1_V : LValid 0 Tryd.prog (.loop G90_l1_c) G90_l1_L false := by
  exact loopT_valid (fuel := G90_l1_fuel) mixed G90_CV (lvNil _) (by kernel_rfl) (by decide) rfl (by intro s; kernel_rfl) (fun s r h => h)
theorem G90_l0_V : LValid 0 Tryd.prog (.loop G90_l0_c) G90_l0_L false := by
  have hb : ∀ s, codeR Tryd.prog G90_C G90_l0_c [G90_l1_L] (G90_l0_S.encE s) (G90_l0_S.encB s) (kst G90_l0_S [.exit 0]) = G90_l0_step s := by
    intro s; kernel_rfl
  have hl : loopsOf G90_l0_c = [.loop G90_l1_c] := by kernel_rfl
  have hL : LV 0 Tryd.prog false (loopsOf G90_l0_c) [G90_l1_L] := by rw [hl]; exact ⟨G90_l1_V, trivial⟩
  exact loopT_valid (fuel := G90_l0_fuel) mixed G90_CV hL (by kernel_rfl) (by decide) rfl hb (fun s r h => h)
theorem G90_LV : LV 0 Tryd.prog false (loopsOf (bodyOf Tryd.f90)) [G90_l0_L] := by
  have hl : loopsOf (bodyOf Tryd.f90) = [.loop G90_l0_c] := by kernel_rfl
  rw [hl]; exact ⟨G90_l0_V, trivial⟩
theorem G90_ent : Ent Tryd.prog 90 := ⟨by decide, enters_of Tryd.func90 (by kernel_rfl) rfl⟩
theorem G90_hev : ∀ x, fnR Tryd.prog G90_C [G90_l0_L] Tryd.f90 (bodyOf Tryd.f90) (encs [.ip T123, .dat (.int .i64), .dat (.int .i64), .dat (.int .i64)] x) ⟨[], [], 0⟩ (frzF (.tup (.cons (.dat T56) (.cons (.dat .bool) (.nil))))) = G90 x.1 x.2.1 x.2.2.1 x.2.2.2.1 := by
  intro x; kernel_rfl
theorem G90_valid : G90_E.Valid Tryd.prog :=
  viewE_valid (by kernel_rfl) (by kernel_rfl) G90_ent (frz_lcall mixed Tryd.func90 rfl G90_ent G90_CV G90_LV (by kernel_rfl) (by kernel_rfl) G90_hev)
noncomputable def G54_C : CalT := tabC [G88_E, G89_E, G68_E, G90_E]
theorem G54_CV : CV Tryd.prog G54_C := tabC_valid (l := _) ⟨G88_valid, G89_valid, G68_valid, G90_valid, trivial⟩
noncomputable def G54_l0_c : Code := loopAt (bodyOf Tryd.f54) 0
noncomputable def G54_l0_S : SPat := ⟨[.fix (.bptr 0 []), .dat (.int .i64), .dat (.int .i64), .any, .any, .any, .fix (.bptr 2 []), .fix (.bptr 3 []), .any, .any, .fix (.bptr 5 []), .dat (.int .i64), .any, .any, .any, .any, .any, .any, .any, .any, .any, .any, .any, .any, .any, .any, .any, .any, .any, .any, .any, .any, .any, .any, .any, .any, .any, .any, .any, .any, .any, .any, .any, .any, .any, .any, .any, .any, .dat (.int .i64), .any, .any, .any, .any, .any, .any, .any, .any, .any, .any, .any, .any, .any, .any, .any, .any, .any, .any, .any, .any, .any, .any, .any, .any, .any, .any, .any, .any, .any, .any, .any, .any, .any, .any, .any], [.cons (.dat T23) (.cons (.dat (.list T72)) (.cons (.fix (.mref 1)) (.nil))), .map T56 T94, .dat T94, .cons (.dat (.int .i64)) (.cons (.dat (.int .i64)) (.nil)), .dat T94, .dat T94], 0⟩
abbrev TY22 : Type := ((Int × (Int × (Int × (Int × Unit)))) × ((E23 × ((List E72) × (Unit × Unit))) × ((List (E56 × E94)) × (E94 × ((Int × (Int × Unit)) × (E94 × (E94 × Unit)))))))
abbrev TY23 : Type := (Nat × ((Int × (Int × (Int × (Int × Unit)))) × ((E23 × ((List E72) × (Unit × Unit))) × ((List (E56 × E94)) × (E94 × ((Int × (Int × Unit)) × (E94 × (E94 × Unit))))))))
noncomputable def G54_l0_step (s : TY22) : Option TY23 :=
  (bif (decide (s.1.2.2.2.1 < 41)) then
  (bif (decide (0 ≤ s.1.2.2.2.1) && decide (s.1.2.2.2.1 < (41 : Int))) then
    (Option.bind (G68 (IntKind.wrap .i64 (s.1.2.2.2.1 - 20)) (IntKind.wrap .i64 (0 - s.1.2.2.1)) s.1.2.2.1) fun r3 =>
      (bif r3 then
        (Option.bind (G90 (s.2.1.1, (s.2.1.2.1, ((), s.2.1.2.2.2))) s.1.1 s.1.2.1 (IntKind.wrap .i64 (s.1.2.2.2.1 - 20))) fun r4 =>
          (bif r4.2.1 then
            (bif (decide (0 ≤ s.1.2.2.2.1) && decide (s.1.2.2.2.1 < (41 : Int))) then
              some (0, ((s.1.1, (s.1.2.1, (s.1.2.2.1, ((IntKind.wrap .i64 (s.1.2.2.2.1 + 1)), ())))), ((s.2.1.1, (s.2.1.2.1, ((), s.2.1.2.2.2))), (s.2.2.1, (s.2.2.2.1, (s.2.2.2.2.1, (s.2.2.2.2.2.1, (((List.set (List.set s.2.2.2.2.2.2.1.1 (Int.toNat s.1.2.2.2.1) ((-1), ((-1), ()))) (Int.toNat s.1.2.2.2.1) r4.1), (true, s.2.2.2.2.2.2.1.2.2)), ()))))))))
              else
              none)
            else
            some (0, ((s.1.1, (s.1.2.1, (s.1.2.2.1, ((IntKind.wrap .i64 (s.1.2.2.2.1 + 1)), ())))), ((s.2.1.1, (s.2.1.2.1, ((), s.2.1.2.2.2))), (s.2.2.1, (s.2.2.2.1, (s.2.2.2.2.1, (s.2.2.2.2.2.1, (((List.set s.2.2.2.2.2.2.1.1 (Int.toNat s.1.2.2.2.1) ((-1), ((-1), ()))), s.2.2.2.2.2.2.1.2), ()))))))))))
        else
        some (0, ((s.1.1, (s.1.2.1, (s.1.2.2.1, ((IntKind.wrap .i64 (s.1.2.2.2.1 + 1)), ())))), ((s.2.1.1, (s.2.1.2.1, ((), s.2.1.2.2.2))), (s.2.2.1, (s.2.2.2.1, (s.2.2.2.2.1, (s.2.2.2.2.2.1, (((List.set s.2.2.2.2.2.2.1.1 (Int.toNat s.1.2.2.2.1) ((-1), ((-1), ()))), s.2.2.2.2.2.2.1.2), ()))))))))))
    else
    none)
  else
  some (1, ((s.1.1, (s.1.2.1, (s.1.2.2.1, (s.1.2.2.2.1, ())))), ((s.2.1.1, (s.2.1.2.1, ((), s.2.1.2.2.2))), (s.2.2.1, (s.2.2.2.1, (s.2.2.2.2.1, (s.2.2.2.2.2.1, (s.2.2.2.2.2.2.1, ())))))))))
noncomputable def G54_l0_fuel (s : TY22) : Nat := Int.toNat (41 - s.1.2.2.2.1) + 1
noncomputable def G54_l0_run (s : TY22) : Option TY23 := iter G54_l0_step (G54_l0_fuel s) s
noncomputable def G54_l0_L : LoopT := loopT G54_l0_S [.exit 0] G54_l0_run
abbrev TY24 : Type := (E94 × ((E23 × ((List E72) × (Unit × Unit))) × ((List (E56 × E94)) × Unit)))
noncomputable def G54 (a0 : Int) (a1 : Int) (b2 : (E23 × ((List E72) × (Unit × Unit)))) (b3 : (List (E56 × E94))) : Option TY24 :=
  (Option.bind (G88 (b2.1, (b2.2.1, ((), b2.2.2.2))) a0 a1) fun r1 =>
  (bif (Option.isSome (findD T56 (a0, (r1, ())) b3)) then
    some ((Option.getD (findD T56 (a0, (r1, ())) b3) (((0, (0, ())) :: ((0, (0, ())) :: ((0, (0, ())) :: ((0, (0, ())) :: ((0, (0, ())) :: ((0, (0, ())) :: ((0, (0, ())) :: ((0, (0, ())) :: ((0, (0, ())) :: ((0, (0, ())) :: ((0, (0, ())) :: ((0, (0, ())) :: ((0, (0, ())) :: ((0, (0, ())) :: ((0, (0, ())) :: ((0, (0, ())) :: ((0, (0, ())) :: ((0, (0, ())) :: ((0, (0, ())) :: ((0, (0, ())) :: ((0, (0, ())) :: ((0, (0, ())) :: ((0, (0, ())) :: ((0, (0, ())) :: ((0, (0, ())) :: ((0, (0, ())) :: ((0, (0, ())) :: ((0, (0, ())) :: ((0, (0, ())) :: ((0, (0, ())) :: ((0, (0, ())) :: ((0, (0, ())) :: ((0, (0, ())) :: ((0, (0, ())) :: ((0, (0, ())) :: ((0, (0, ())) :: ((0, (0, ())) :: ((0, (0, ())) :: ((0, (0, ())) :: ((0, (0, ())) :: ((0, (0, ())) :: []))))))))))))))))))))))))))))))))))))))))), (false, ()))), ((b2.1, (b2.2.1, ((), b2.2.2.2))), (b3, ())))
    else
    (Option.bind (G89 a1 (IntKind.wrap .i64 ((List.length b2.1.2.2.2.2.1 : Int) + a0)) b2.1.2.2.1) fun r2 =>
      (Option.bind (G54_l0_run ((a0, (a1, (r2, (0, ())))), ((b2.1, (b2.2.1, ((), b2.2.2.2))), (b3, ((((0, (0, ())) :: ((0, (0, ())) :: ((0, (0, ())) :: ((0, (0, ())) :: ((0, (0, ())) :: ((0, (0, ())) :: ((0, (0, ())) :: ((0, (0, ())) :: ((0, (0, ())) :: ((0, (0, ())) :: ((0, (0, ())) :: ((0, (0, ())) :: ((0, (0, ())) :: ((0, (0, ())) :: ((0, (0, ())) :: ((0, (0, ())) :: ((0, (0, ())) :: ((0, (0, ())) :: ((0, (0, ())) :: ((0, (0, ())) :: ((0, (0, ())) :: ((0, (0, ())) :: ((0, (0, ())) :: ((0, (0, ())) :: ((0, (0, ())) :: ((0, (0, ())) :: ((0, (0, ())) :: ((0, (0, ())) :: ((0, (0, ())) :: ((0, (0, ())) :: ((0, (0, ())) :: ((0, (0, ())) :: ((0, (0, ())) :: ((0, (0, ())) :: ((0, (0, ())) :: ((0, (0, ())) :: ((0, (0, ())) :: ((0, (0, ())) :: ((0, (0, ())) :: ((0, (0, ())) :: ((0, (0, ())) :: []))))))))))))))))))))))))))))))))))))))))), (false, ())), ((a0, (r1, ())), ((Option.getD (findD T56 (a0, (r1, ())) b3) (((0, (0, ())) :: ((0, (0, ())) :: ((0, (0, ())) :: ((0, (0, ())) :: ((0, (0, ())) :: ((0, (0, ())) :: ((0, (0, ())) :: ((0, (0, ())) :: ((0, (0, ())) :: ((0, (0, ())) :: ((0, (0, ())) :: ((0, (0, ())) :: ((0, (0, ())) :: ((0, (0, ())) :: ((0, (0, ())) :: ((0, (0, ())) :: ((0, (0, ())) :: ((0, (0, ())) :: ((0, (0, ())) :: ((0, (0, ())) :: ((0, (0, ())) :: ((0, (0, ())) :: ((0, (0, ())) :: ((0, (0, ())) :: ((0, (0, ())) :: ((0, (0, ())) :: ((0, (0, ())) :: ((0, (0, ())) :: ((0, (0, ())) :: ((0, (0, ())) :: ((0, (0, ())) :: ((0, (0, ())) :: ((0, (0, ())) :: ((0, (0, ())) :: ((0, (0, ())) :: ((0, (0, ())) :: ((0, (0, ())) :: ((0, (0, ())) :: ((0, (0, ())) :: ((0, (0, ())) :: ((0, (0, ())) :: []))))))))))))))))))))))))))))))))))))))))), (false, ()))), ((((0, (0, ())) :: ((0, (0, ())) :: ((0, (0, ())) :: ((0, (0, ())) :: ((0, (0, ())) :: ((0, (0, ())) :: ((0, (0, ())) :: ((0, (0, ())) :: ((0, (0, ())) :: ((0, (0, ())) :: ((0, (0, ())) :: ((0, (0, ())) :: ((0, (0, ())) :: ((0, (0, ())) :: ((0, (0, ())) :: ((0, (0, ())) :: ((0, (0, ())) :: ((0, (0, ())) :: ((0, (0, ())) :: ((0, (0, ())) :: ((0, (0, ())) :: ((0, (0, ())) :: ((0, (0, ())) :: ((0, (0, ())) :: ((0, (0, ())) :: ((0, (0, ())) :: ((0, (0, ())) :: ((0, (0, ())) :: ((0, (0, ())) :: ((0, (0, ())) :: ((0, (0, ())) :: ((0, (0, ())) :: ((0, (0, ())) :: ((0, (0, ())) :: ((0, (0, ())) :: ((0, (0, ())) :: ((0, (0, ())) :: ((0, (0, ())) :: ((0, (0, ())) :: ((0, (0, ())) :: ((0, (0, ())) :: []))))))))))))))))))))))))))))))))))))))))), (false, ())), ())))))))) fun q5 =>
        some (q5.2.2.2.2.2.2.2.1, ((q5.2.2.1.1, (q5.2.2.1.2.1, ((), q5.2.2.1.2.2.2))), ((putD T56 q5.2.2.2.2.2.1 q5.2.2.2.2.2.2.2.1 q5.2.2.2.1), ())))))))
abbrev G54_CS : CSpec := ⟨[.fix (.bptr 0 []), .dat (.int .i64), .dat (.int .i64)], [.cons (.dat T23) (.cons (.dat (.list T72)) (.cons (.fix (.mref 1)) (.nil))), .map T56 T94], 0, [.cons (.dat T23) (.cons (.dat (.list T72)) (.cons (.fix (.mref 1)) (.nil))), .map T56 T94], 0, .dat T94⟩
noncomputable def G54_E : CEnt := boxE 54 G54_CS fun x => G54 x.1.1 x.1.2.1 x.2.1 x.2.2.1
theorem G54_l0_V : LValid 2 Tryd.prog (.loop G54_l0_c) G54_l0_L false := by
  have hb : ∀ s, codeR Tryd.prog G54_C G54_l0_c [] (G54_l0_S.encE s) (G54_l0_S.encB s) (kst G54_l0_S [.exit 0]) = G54_l0_step s := by
    intro s; kernel_rfl
  have hL : LV 2 Tryd.prog false (loopsOf G54_l0_c) [] := by unfold LV; cases loopsOf G54_l0_c <;> trivial
  exact loopT_valid (fuel := G54_l0_fuel) mixed G54_CV hL (by kernel_rfl) (by decide) rfl hb (fun s r h => h)
theorem G54_LV : LV 2 Tryd.prog false (loopsOf (bodyOf Tryd.f54)) [G54_l0_L] := by
  have hl : loopsOf (bodyOf Tryd.f54) = [.loop G54_l0_c] := by kernel_rfl
  rw [hl]; exact ⟨G54_l0_V, trivial⟩
theorem G54_ent : Ent Tryd.prog 54 := ⟨by decide, enters_of Tryd.func54 (by kernel_rfl) rfl⟩
theorem G54_hev : ∀ x : G54_CS.In, fnR Tryd.prog G54_C [G54_l0_L] Tryd.f54 (bodyOf Tryd.f54) (encs G54_CS.A x.1) ⟨encs G54_CS.I x.2, [], G54_CS.nt⟩ (finK G54_CS) = G54 x.1.1 x.1.2.1 x.2.1 x.2.2.1 := by
  intro x; kernel_rfl
theorem G54_valid : G54_E.Valid Tryd.prog :=
  boxE_valid (S := G54_CS) (by kernel_rfl) (.inr G54_ent) (fn_lcall (S := G54_CS) mixed Tryd.func54 rfl G54_ent G54_CV G54_LV (by kernel_rfl) (by kernel_rfl) G54_hev)
noncomputable def G52_C : CalT := tabC [G54_E]
theorem G52_CV : CV Tryd.prog G52_C := tabC_valid (l := _) ⟨G54_valid, trivial⟩
noncomputable def G52_l0_c : Code := loopAt (bodyOf Tryd.f52) 0
noncomputable def G52_l0_S : SPat := ⟨[.fix (.bptr 0 []), .dat (.int .i64), .any, .any, .dat .bool, .any, .any, .any, .any, .any, .dat (.int .i64), .dat (.int .i64), .any, .any, .any, .any, .any, .any, .any, .any, .any], [.cons (.dat T23) (.cons (.dat (.list T72)) (.cons (.fix (.mref 1)) (.nil))), .map T56 T94], 0⟩
abbrev TY25 : Type := ((Int × (Bool × (Int × (Int × Unit)))) × ((E23 × ((List E72) × (Unit × Unit))) × ((List (E56 × E94)) × Unit)))
abbrev TY26 : Type := (Nat × ((Int × (Bool × (Int × (Int × Unit)))) × ((E23 × ((List E72) × (Unit × Unit))) × ((List (E56 × E94)) × Unit))))
noncomputable def G52_l0_step (s : TY25) : Option TY26 :=
  (bif (decide (s.1.2.2.2.1 < s.1.2.2.1)) then
  (Option.bind (G54 s.1.2.2.2.1 s.1.1 (s.2.1.1, (s.2.1.2.1, ((), s.2.1.2.2.2))) s.2.2.1) fun r1 =>
    (bif (!r1.1.2.1) then
      some (1, ((s.1.1, (false, (s.1.2.2.1, (s.1.2.2.2.1, ())))), ((r1.2.1.1, (r1.2.1.2.1, ((), r1.2.1.2.2.2))), (r1.2.2.1, ()))))
      else
      some (0, ((s.1.1, (s.1.2.1, (s.1.2.2.1, ((IntKind.wrap .i64 (s.1.2.2.2.1 + 1)), ())))), ((r1.2.1.1, (r1.2.1.2.1, ((), r1.2.1.2.2.2))), (r1.2.2.1, ()))))))
  else
  some (2, ((s.1.1, (s.1.2.1, (s.1.2.2.1, (s.1.2.2.2.1, ())))), ((s.2.1.1, (s.2.1.2.1, ((), s.2.1.2.2.2))), (s.2.2.1, ())))))
noncomputable def G52_l0_fuel (s : TY25) : Nat := Int.toNat (s.1.2.2.1 - s.1.2.2.2.1) + 1
noncomputable def G52_l0_run (s : TY25) : Option TY26 := iter G52_l0_step (G52_l0_fuel s) s
noncomputable def G52_l0_L : LoopT := loopT G52_l0_S [.ret, .exit 0] G52_l0_run
noncomputable def G52 (a0 : Int) (b1 : (E23 × ((List E72) × (Unit × Unit)))) (b2 : (List (E56 × E94))) : Option (Bool × ((E23 × ((List E72) × (Unit × Unit))) × ((List (E56 × E94)) × Unit))) :=
  (Option.bind (G52_l0_run ((a0, (false, (b1.1.2.2.2.1, (0, ())))), ((b1.1, (b1.2.1, ((), b1.2.2.2))), (b2, ())))) fun q2 =>
  (natK q2.1
    (some (q2.2.1.2.1, ((q2.2.2.1.1, (q2.2.2.1.2.1, ((), q2.2.2.1.2.2.2))), (q2.2.2.2.1, ()))))
    (fun _ => some (true, ((q2.2.2.1.1, (q2.2.2.1.2.1, ((), q2.2.2.1.2.2.2))), (q2.2.2.2.1, ()))))))
abbrev G52_CS : CSpec := ⟨[.fix (.bptr 0 []), .dat (.int .i64)], [.cons (.dat T23) (.cons (.dat (.list T72)) (.cons (.fix (.mref 1)) (.nil))), .map T56 T94], 0, [.cons (.dat T23) (.cons (.dat (.list T72)) (.cons (.fix (.mref 1)) (.nil))), .map T56 T94], 0, .dat .bool⟩
noncomputable def G52_E : CEnt := boxE 52 G52_CS fun x => G52 x.1.1 x.2.1 x.2.2.1
theorem G52_l0_V : LValid 2 Tryd.prog (.loop G52_l0_c) G52_l0_L false := by
  have hb : ∀ s, codeR Tryd.prog G52_C G52_l0_c [] (G52_l0_S.encE s) (G52_l0_S.encB s) (kst G52_l0_S [.ret, .exit 0]) = G52_l0_step s := by
    intro s; kernel_rfl
  have hL : LV 2 Tryd.prog false (loopsOf G52_l0_c) [] := by unfold LV; cases loopsOf G52_l0_c <;> trivial
  exact loopT_valid (fuel := G52_l0_fuel) mixed G52_CV hL (by kernel_rfl) (by decide) rfl hb (fun s r h => h)
theorem G52_LV : LV 2 Tryd.prog false (loopsOf (bodyOf Tryd.f52)) [G52_l0_L] := by
  have hl : loopsOf (bodyOf Tryd.f52) = [.loop G52_l0_c] := by kernel_rfl
  rw [hl]; exact ⟨G52_l0_V, trivial⟩
theorem G52_ent : Ent Tryd.prog 52 := ⟨by decide, enters_of Tryd.func52 (by kernel_rfl) rfl⟩
theorem G52_hev : ∀ x : G52_CS.In, fnR Tryd.prog G52_C [G52_l0_L] Tryd.f52 (bodyOf Tryd.f52) (encs G52_CS.A x.1) ⟨encs G52_CS.I x.2, [], G52_CS.nt⟩ (finK G52_CS) = G52 x.1.1 x.2.1 x.2.2.1 := by
  intro x; kernel_rfl
theorem G52_valid : G52_E.Valid Tryd.prog :=
  boxE_valid (S := G52_CS) (by kernel_rfl) (.inr G52_ent) (fn_lcall (S := G52_CS) mixed Tryd.func52 rfl G52_ent G52_CV G52_LV (by kernel_rfl) (by kernel_rfl) G52_hev)
noncomputable def G16_C : CalT := tabC [G49_E, G51_v1_E, G51_E, G52_E]
theorem G16_CV : CV Tryd.prog G16_C := tabC_valid (l := _) ⟨G49_valid, G51_v1_valid, G51_valid, G52_valid, trivial⟩
noncomputable def G16 (a0 : E23) (a1 : (List E72)) (a2 : E26) : Option (Bool × (Int × Unit)) :=
  (Option.bind (G49 a0 a1 a2) fun r1 =>
  (altK r1
    (fun r2 => (bif (r2.1.2.1 != 0) then
      some (false, (r2.1.2.1, ()))
      else
      (Option.bind (G51_v1 r2.2.1) fun r4 =>
        none)))
    (fun r3 => (bif (r3.1.2.1 != 0) then
      some (false, (r3.1.2.1, ()))
      else
      (Option.bind (G51 (r3.2.2.2.2.1.1, (r3.2.2.2.2.1.2.1, ((), r3.2.2.2.2.1.2.2.2))) r3.2.1) fun r5 =>
        (Option.bind (G52 r5.1 (r3.2.2.2.2.1.1, (r3.2.2.2.2.1.2.1, ((), r3.2.2.2.2.1.2.2.2))) r3.2.2.2.1) fun r6 =>
          some (r6.1, (0, ()))))))))
noncomputable def G16_E : CEnt := pureE 16 [.dat T23, .dat (.list T72), .dat T26] (.tup (.cons (.dat .bool) (.cons (.dat (.int .i64)) (.nil)))) fun x => G16 x.1 x.2.1 x.2.2.1
theorem G16_LV : LV 0 Tryd.prog false (loopsOf (bodyOf Tryd.f16)) [] := by unfold LV; cases loopsOf (bodyOf Tryd.f16) <;> trivial
theorem G16_ent : Ent Tryd.prog 16 := ⟨by decide, enters_of Tryd.func16 (by kernel_rfl) rfl⟩
theorem G16_hev : ∀ x, fnR Tryd.prog G16_C [] Tryd.f16 (bodyOf Tryd.f16) (encs [.dat T23, .dat (.list T72), .dat T26] x) ⟨[], [], 0⟩ (frzF (.tup (.cons (.dat .bool) (.cons (.dat (.int .i64)) (.nil))))) = G16 x.1 x.2.1 x.2.2.1 := by
  intro x; kernel_rfl
theorem G16_valid : G16_E.Valid Tryd.prog :=
  pureE_valid (by kernel_rfl) (by kernel_rfl) G16_ent (frz_lcall mixed Tryd.func16 rfl G16_ent G16_CV G16_LV (by kernel_rfl) (by kernel_rfl) G16_hev)
noncomputable def G53_C : CalT := tabC [G51_E]
theorem G53_CV : CV Tryd.prog G53_C := tabC_valid (l := _) ⟨G51_valid, trivial⟩
noncomputable def G53 (b0 : (E23 × ((List E72) × (Unit × Unit)))) (b1 : E26) (b2 : (List (E56 × E94))) : Option (Bool × ((E23 × ((List E72) × (Unit × Unit))) × (E26 × ((List (E56 × E94)) × Unit)))) :=
  (Option.bind (G51 (b0.1, (b0.2.1, ((), b0.2.2.2))) b1) fun r1 =>
  some (r1.2.1, ((b0.1, (b0.2.1, ((), b0.2.2.2))), (b1, (b2, ())))))
abbrev G53_CS : CSpec := ⟨[.fix (.bptr 0 []), .fix (.bptr 1 [])], [.cons (.dat T23) (.cons (.dat (.list T72)) (.cons (.fix (.mref 2)) (.nil))), .dat T26, .map T56 T94], 0, [.cons (.dat T23) (.cons (.dat (.list T72)) (.cons (.fix (.mref 2)) (.nil))), .dat T26, .map T56 T94], 0, .dat .bool⟩
noncomputable def G53_E : CEnt := boxE 53 G53_CS fun x => G53 x.2.1 x.2.2.1 x.2.2.2.1
theorem G53_LV : LV 3 Tryd.prog false (loopsOf (bodyOf Tryd.f53)) [] := by unfold LV; cases loopsOf (bodyOf Tryd.f53) <;> trivial
theorem G53_ent : Ent Tryd.prog 53 := ⟨by decide, enters_of Tryd.func53 (by kernel_rfl) rfl⟩
theorem G53_hev : ∀ x : G53_CS.In, fnR Tryd.prog G53_C [] Tryd.f53 (bodyOf Tryd.f53) (encs G53_CS.A x.1) ⟨encs G53_CS.I x.2, [], G53_CS.nt⟩ (finK G53_CS) = G53 x.2.1 x.2.2.1 x.2.2.2.1 := by
  intro x; kernel_rfl
theorem G53_valid : G53_E.Valid Tryd.prog :=
  boxE_valid (S := G53_CS) (by kernel_rfl) (.inr G53_ent) (fn_lcall (S := G53_CS) mixed Tryd.func53 rfl G53_ent G53_CV G53_LV (by kernel_rfl) (by kernel_rfl) G53_hev)
noncomputable def G49_v1_C : CalT := tabC [G83_E, G81_E, G53_E]
theorem G49_v1_CV : CV Tryd.prog G49_v1_C := tabC_valid (l := _) ⟨G83_valid, G81_valid, G53_valid, trivial⟩
noncomputable def G49_v1 (a0 : E23) (a1 : (List E72)) (b2 : E26) : Option (((Unit × (Int × Unit)) × (E26 × Unit)) ⊕ ((Unit × (Int × Unit)) × TY4)) :=
  (bif (decide ((List.length a1 : Int) > 24)) then
  some (Sum.inl (((), (3, ())), (b2, ())))
  else
  (Option.bind (G83 a0) fun r1 =>
    (bif (!r1) then
      some (Sum.inl (((), (2, ())), (b2, ())))
      else
      (Option.bind (G81 a1 a0) fun r2 =>
        (bif r2.1 then
          some (Sum.inl (((), (2, ())), (b2, ())))
          else
          (Option.bind (G53 (a0, (a1, ((), ()))) b2 ([] : List (E56 × E94))) fun r3 =>
            (bif (!r3.1) then
              some (Sum.inl (((), (2, ())), (r3.2.2.1, ())))
              else
              some (Sum.inr (((), (0, ())), (r3.2.2.1, (r2.2.1, (r3.2.2.2.1, ((r3.2.1.1, (r3.2.1.2.1, ((), r3.2.1.2.2.2))), ())))))))))))))
abbrev G49_v1_CS : CSpec := ⟨[.dat T23, .dat (.list T72), .fix (.func (.func 53) .nil (.cons (.bptr 0 []) .nil))], [.dat T26], 0, [.dat T26], 0, .tup (.cons (.fix .pnil) (.cons (.dat (.int .i64)) (.nil)))⟩
abbrev G49_v1_O2 : List PTy := [.dat T26, .dat T23, .map T56 T94, .cons (.dat T23) (.cons (.dat (.list T72)) (.cons (.fix (.mref 2)) (.nil)))]
abbrev G49_v1_R2 : PTy := .tup (.cons (.fix (.bptr 3 [])) (.cons (.dat (.int .i64)) (.nil)))
noncomputable def G49_v1_E : CEnt := altE 49 G49_v1_CS G49_v1_O2 0 G49_v1_R2 fun x => G49_v1 x.1.1 x.1.2.1 x.2.1
theorem G49_v1_LV : LV 1 Tryd.prog false (loopsOf (bodyOf Tryd.f49)) [] := by unfold LV; cases loopsOf (bodyOf Tryd.f49) <;> trivial
theorem G49_v1_ent : Ent Tryd.prog 49 := ⟨by decide, enters_of Tryd.func49 (by kernel_rfl) rfl⟩
theorem G49_v1_hev : ∀ x : G49_v1_CS.In, fnR Tryd.prog G49_v1_C [] Tryd.f49 (bodyOf Tryd.f49) (encs G49_v1_CS.A x.1) ⟨encs G49_v1_CS.I x.2, [], G49_v1_CS.nt⟩ (finK2 G49_v1_CS G49_v1_O2 0 G49_v1_R2) = G49_v1 x.1.1 x.1.2.1 x.2.1 := by
  intro x; kernel_rfl
theorem G49_v1_valid : G49_v1_E.Valid Tryd.prog :=
  altE_valid (S := G49_v1_CS) (by kernel_rfl) (by kernel_rfl) (.inr G49_v1_ent) (alt_lcall (S := G49_v1_CS) mixed Tryd.func49 rfl G49_v1_ent G49_v1_CV G49_v1_LV (by kernel_rfl) (by kernel_rfl) (by kernel_rfl) (by kernel_rfl) G49_v1_hev)
end Go.Proofs.YtibmgbalfhfcdaaDoor.Abs
