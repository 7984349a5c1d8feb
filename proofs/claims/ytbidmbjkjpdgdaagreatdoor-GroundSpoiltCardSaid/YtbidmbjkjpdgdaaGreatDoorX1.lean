import Derived.Test.YtbidmbjkjpdgdaaGreatDoorA4
import Derived.Shelf.Strings.OnBuilder
import Derived.Shelf.Strconv.Itoa3
import Derived.Shelf.Strings.Count
import Derived.Shelf.Strings.Search2
import Derived.Shelf.Strings.Search3
import Derived.Shelf.Strings.Split
import Derived.Shelf.LaysM
import Derived.Shelf.Abstract
import Derived.Shelf.RegionOpenPlain
import Derived.KernelRfl
import Derived.TacticsInMore
import Derived.RegionIn
import Derived.LoopNIn
import Derived.RecoverIn
import Derived.Laws.IdiomStrings
set_option linter.unusedVariables false
set_option linter.unusedSimpArgs false
namespace Go.Proofs
open Go.Shelf
def Tryz.laysM171_ren : Go.Shelf.Ren := ⟨fun | 171 => 57 | 243 => 73 | 246 => 87 | 283 => 91 | 284 => 92 | 285 => 93 | 286 => 94 | 129 => 100 | 317 => 99 | 318 => 101 | 319 => 102 | 320 => 103 | 337 => 111 | 338 => 112 | n => n, fun | 3 => 3 | 9 => 9 | 2 => 2 | 4 => 4 | 171 => 130 | 0 => 0 | 53 => 131 | 37 => 39 | 5 => 5 | 173 => 134 | 212 => 140 | 51 => 141 | 20 => 20 | 213 => 142 | 46 => 143 | 232 => 151 | 233 => 152 | n => n, fun | 17 => 0 | 18 => 2 | 19 => 3 | n => n⟩
theorem Tryz.laysM171 : Go.Proofs.LaysM.n171 Tryz.prog Tryz.laysM171_ren := {
  mixed := by kernel_rfl
  f129 := Tryz.func100.trans (congrArg some (by kernel_rfl))
  f171 := Tryz.func57.trans (congrArg some (by kernel_rfl))
  f243 := Tryz.func73.trans (congrArg some (by kernel_rfl))
  f246 := Tryz.func87.trans (congrArg some (by kernel_rfl))
  f283 := Tryz.func91.trans (congrArg some (by kernel_rfl))
  f284 := Tryz.func92.trans (congrArg some (by kernel_rfl))
  f285 := Tryz.func93.trans (congrArg some (by kernel_rfl))
  f286 := Tryz.func94.trans (congrArg some (by kernel_rfl))
  f317 := Tryz.func99.trans (congrArg some (by kernel_rfl))
  f318 := Tryz.func101.trans (congrArg some (by kernel_rfl))
  f319 := Tryz.func102.trans (congrArg some (by kernel_rfl))
  f320 := Tryz.func103.trans (congrArg some (by kernel_rfl))
  f337 := Tryz.func111.trans (congrArg some (by kernel_rfl))
  f338 := Tryz.func112.trans (congrArg some (by kernel_rfl))
  t0 := Tryz.underlying0
  a0 := Tryz.isAgg0
  z0 := Tryz.sizeOf0
  v0 := Tryz.zeroValue0
  t2 := Tryz.underlying2
  a2 := Tryz.isAgg2
  z2 := Tryz.sizeOf2
  v2 := Tryz.zeroValue2
  t3 := Tryz.underlying3
  a3 := Tryz.isAgg3
  z3 := Tryz.sizeOf3
  v3 := Tryz.zeroValue3
  t4 := Tryz.underlying4
  a4 := Tryz.isAgg4
  z4 := Tryz.sizeOf4
  v4 := Tryz.zeroValue4
  t5 := Tryz.underlying5
  a5 := Tryz.isAgg5
  z5 := Tryz.sizeOf5
  v5 := Tryz.zeroValue5
  t9 := Tryz.underlying9
  a9 := Tryz.isAgg9
  z9 := Tryz.sizeOf9
  v9 := Tryz.zeroValue9
  t20 := Tryz.underlying20
  a20 := Tryz.isAgg20
  z20 := Tryz.sizeOf20
  v20 := Tryz.zeroValue20
  t37 := Tryz.underlying39
  a37 := Tryz.isAgg39
  z37 := Tryz.sizeOf39
  v37 := Tryz.zeroValue39
  t46 := Tryz.underlying143
  a46 := Tryz.isAgg143
  z46 := Tryz.sizeOf143
  v46 := Tryz.zeroValue143
  t51 := Tryz.underlying141
  a51 := Tryz.isAgg141
  z51 := Tryz.sizeOf141
  v51 := Tryz.zeroValue141
  t53 := Tryz.underlying131
  a53 := Tryz.isAgg131
  z53 := Tryz.sizeOf131
  v53 := Tryz.zeroValue131
  t171 := Tryz.underlying130
  a171 := Tryz.isAgg130
  z171 := Tryz.sizeOf130
  v171 := Tryz.zeroValue130
  t173 := Tryz.underlying134
  a173 := Tryz.isAgg134
  z173 := Tryz.sizeOf134
  v173 := Tryz.zeroValue134
  t212 := Tryz.underlying140
  a212 := Tryz.isAgg140
  z212 := Tryz.sizeOf140
  v212 := Tryz.zeroValue140
  t213 := Tryz.underlying142
  a213 := Tryz.isAgg142
  z213 := Tryz.sizeOf142
  t232 := Tryz.underlying151
  a232 := Tryz.isAgg151
  z232 := Tryz.sizeOf151
  v232 := Tryz.zeroValue151
  t233 := Tryz.underlying152
  a233 := Tryz.isAgg152
  z233 := Tryz.sizeOf152
  v233 := Tryz.zeroValue152
  g17 := by kernel_rfl
  g18 := by kernel_rfl
  g19 := by kernel_rfl
  i0 := by kernel_rfl
  i2 := by kernel_rfl
  i3 := by kernel_rfl
  i4 := by kernel_rfl
  i5 := by kernel_rfl
  i9 := by kernel_rfl
  i20 := by kernel_rfl
  i37 := by kernel_rfl
  i46 := by kernel_rfl
  i51 := by kernel_rfl
  i53 := by kernel_rfl
  i171 := by kernel_rfl
  i173 := by kernel_rfl
  i212 := by kernel_rfl
  i232 := by kernel_rfl
  i233 := by kernel_rfl
  m17 := by kernel_rfl
  m18 := by kernel_rfl
  m19 := by kernel_rfl }
def Tryz.lays219_ren : Go.Shelf.Ren := ⟨fun | 219 => 95 | 217 => 104 | 225 => 105 | 224 => 106 | 267 => 107 | 266 => 113 | 314 => 114 | n => n, fun | 9 => 9 | 3 => 3 | 4 => 4 | 5 => 5 | 46 => 143 | 146 => 149 | 51 => 141 | n => n, fun | 1 => 1 | n => n⟩
theorem Tryz.lays219 : Go.Proofs.Lays.n219 Tryz.prog Tryz.lays219_ren := {
  mixed := by kernel_rfl
  f217 := Tryz.func104.trans (congrArg some (by kernel_rfl))
  f219 := Tryz.func95.trans (congrArg some (by kernel_rfl))
  f224 := Tryz.func106.trans (congrArg some (by kernel_rfl))
  f225 := Tryz.func105.trans (congrArg some (by kernel_rfl))
  f266 := Tryz.func113.trans (congrArg some (by kernel_rfl))
  f267 := Tryz.func107.trans (congrArg some (by kernel_rfl))
  f314 := Tryz.func114.trans (congrArg some (by kernel_rfl))
  t3 := Tryz.underlying3
  a3 := Tryz.isAgg3
  z3 := Tryz.sizeOf3
  v3 := Tryz.zeroValue3
  t4 := Tryz.underlying4
  a4 := Tryz.isAgg4
  z4 := Tryz.sizeOf4
  v4 := Tryz.zeroValue4
  t5 := Tryz.underlying5
  a5 := Tryz.isAgg5
  z5 := Tryz.sizeOf5
  v5 := Tryz.zeroValue5
  t9 := Tryz.underlying9
  a9 := Tryz.isAgg9
  z9 := Tryz.sizeOf9
  v9 := Tryz.zeroValue9
  t46 := Tryz.underlying143
  a46 := Tryz.isAgg143
  z46 := Tryz.sizeOf143
  v46 := Tryz.zeroValue143
  t51 := Tryz.underlying141
  a51 := Tryz.isAgg141
  z51 := Tryz.sizeOf141
  v51 := Tryz.zeroValue141
  t146 := Tryz.underlying149
  a146 := Tryz.isAgg149
  z146 := Tryz.sizeOf149
  v146 := Tryz.zeroValue149
  g1 := by kernel_rfl }
def Tryz.lays221_ren : Go.Shelf.Ren := ⟨fun | 221 => 89 | 268 => 96 | 138 => 97 | 143 => 98 | 195 => 108 | 197 => 109 | 218 => 110 | 219 => 95 | 260 => 115 | 217 => 104 | 225 => 105 | 224 => 106 | 267 => 107 | 266 => 113 | 314 => 114 | n => n, fun | 9 => 9 | 3 => 3 | 31 => 79 | 4 => 4 | 0 => 0 | 105 => 146 | 21 => 21 | 5 => 5 | 46 => 143 | 119 => 153 | 139 => 156 | 138 => 155 | 146 => 149 | 51 => 141 | n => n, fun | 1 => 1 | 3 => 4 | 4 => 5 | n => n⟩
theorem Tryz.lays221 : Go.Proofs.Lays.n221 Tryz.prog Tryz.lays221_ren := {
  mixed := by kernel_rfl
  f138 := Tryz.func97.trans (congrArg some (by kernel_rfl))
  f143 := Tryz.func98.trans (congrArg some (by kernel_rfl))
  f195 := Tryz.func108.trans (congrArg some (by kernel_rfl))
  f197 := Tryz.func109.trans (congrArg some (by kernel_rfl))
  f217 := Tryz.func104.trans (congrArg some (by kernel_rfl))
  f218 := Tryz.func110.trans (congrArg some (by kernel_rfl))
  f219 := Tryz.func95.trans (congrArg some (by kernel_rfl))
  f221 := Tryz.func89.trans (congrArg some (by kernel_rfl))
  f224 := Tryz.func106.trans (congrArg some (by kernel_rfl))
  f225 := Tryz.func105.trans (congrArg some (by kernel_rfl))
  f260 := Tryz.func115.trans (congrArg some (by kernel_rfl))
  f266 := Tryz.func113.trans (congrArg some (by kernel_rfl))
  f267 := Tryz.func107.trans (congrArg some (by kernel_rfl))
  f268 := Tryz.func96.trans (congrArg some (by kernel_rfl))
  f314 := Tryz.func114.trans (congrArg some (by kernel_rfl))
  t0 := Tryz.underlying0
  a0 := Tryz.isAgg0
  z0 := Tryz.sizeOf0
  v0 := Tryz.zeroValue0
  t3 := Tryz.underlying3
  a3 := Tryz.isAgg3
  z3 := Tryz.sizeOf3
  v3 := Tryz.zeroValue3
  t4 := Tryz.underlying4
  a4 := Tryz.isAgg4
  z4 := Tryz.sizeOf4
  v4 := Tryz.zeroValue4
  t5 := Tryz.underlying5
  a5 := Tryz.isAgg5
  z5 := Tryz.sizeOf5
  v5 := Tryz.zeroValue5
  t9 := Tryz.underlying9
  a9 := Tryz.isAgg9
  z9 := Tryz.sizeOf9
  v9 := Tryz.zeroValue9
  t21 := Tryz.underlying21
  a21 := Tryz.isAgg21
  z21 := Tryz.sizeOf21
  v21 := Tryz.zeroValue21
  t31 := Tryz.underlying79
  a31 := Tryz.isAgg79
  z31 := Tryz.sizeOf79
  v31 := Tryz.zeroValue79
  t46 := Tryz.underlying143
  a46 := Tryz.isAgg143
  z46 := Tryz.sizeOf143
  v46 := Tryz.zeroValue143
  t51 := Tryz.underlying141
  a51 := Tryz.isAgg141
  z51 := Tryz.sizeOf141
  v51 := Tryz.zeroValue141
  t105 := Tryz.underlying146
  a105 := Tryz.isAgg146
  z105 := Tryz.sizeOf146
  v105 := Tryz.zeroValue146
  t119 := Tryz.underlying153
  a119 := Tryz.isAgg153
  z119 := Tryz.sizeOf153
  t138 := Tryz.underlying155
  a138 := Tryz.isAgg155
  z138 := Tryz.sizeOf155
  v138 := Tryz.zeroValue155
  t139 := Tryz.underlying156
  a139 := Tryz.isAgg156
  z139 := Tryz.sizeOf156
  v139 := Tryz.zeroValue156
  t146 := Tryz.underlying149
  a146 := Tryz.isAgg149
  z146 := Tryz.sizeOf149
  v146 := Tryz.zeroValue149
  g1 := by kernel_rfl
  g3 := by kernel_rfl
  g4 := by kernel_rfl }
end Go.Proofs
set_option maxRecDepth 100000
namespace Go.Proofs.YtbidmbjkjpdgdaaGreatDoor.Abs
open Go.Shelf Go.RowKit Go.Sort
theorem mixed : Tryz.prog.follows .mixedOrders = true := by kernel_rfl
theorem tabIs_of {G : Gh} {B : Bx} {w : World} (hw : WOk G B w) : Lib.TabIs Tryz.prog w "internal/strconv.uint64pow10" .u64 Lib.pow10Tab := by
  obtain ⟨⟨e, fr, h⟩, _⟩ := hw.tab _ (List.mem_cons_self : _ ∈ TABS)
  have hg : Tryz.prog.globalNamed "internal/strconv.uint64pow10" = some 0 := by kernel_rfl
  unfold Lib.TabIs World.var?
  rw [hg]
  simp only [Option.bind_some]
  rw [h]
  rfl
def itoaM (n : Int) : Option ByteArray := bif decide (-9223372036854775808 ≤ n) && decide (n ≤ 9223372036854775807) then some ⟨(Lib.itoa n).toArray⟩ else none
def itoaM_E : CEnt := pureE 57 [.dat (.int .i64)] (.dat .str) fun x => itoaM x.1
theorem grew_grow (w : World) (k : Nat) (os : Array Obj) : Grew w (grow (w.drewN k) os) :=
  ⟨rfl, rfl, rfl, by simp [grow, World.drewN], fun b hb => by simp [grow, World.drewN, Array.getElem?_append_left hb]⟩
theorem itoaM_valid : itoaM_E.Valid Tryz.prog := by
  have hent : Ent Tryz.prog 57 := ⟨by decide, enters_of Tryz.func57 (by kernel_rfl) rfl⟩
  refine pureE_valid (by kernel_rfl) (by kernel_rfl) hent (fun x r h => ⟨.inr hent, fun G w vs hvs hw => Run.call hent.1 ?_⟩)
  unfold itoaM at h
  cases hb : decide (-9223372036854775808 ≤ x.1) && decide (x.1 ≤ 9223372036854775807) with
  | false => rw [hb] at h; cases h
  | true =>
    rw [hb] at h
    simp only [cond_true, Option.some.injEq] at h
    simp only [Bool.and_eq_true, decide_eq_true_eq] at hb
    cases hvs with
    | cons hv t =>
      cases t
      have hvv := int_form hv
      subst hvv
      have hc : Calls Tryz.prog 57 #[.int .i64 x.1] w _ := Any.strconv_Itoa Tryz.laysM171 x.1 hb.1 hb.2 w (tabIs_of hw)
      refine hc.mono ?_
      rintro e w' ⟨rfl, k, os, rfl⟩
      subst h
      exact ⟨_, G, rfl, leaf_v rfl rfl, hw.grew (grew_grow w k os), (grew_grow w k os).ext G, fun i b _ hb => hb⟩
def idxM (s sub : ByteArray) : Option Int := match sub.data.toList with
  | [c] => some (Lib.indexByte s.data.toList c)
  | _ => none
def idxM_E : CEnt := pureE 95 [.dat .str, .dat .str] (.dat (.int .i64)) fun x => idxM x.1 x.2.1
theorem idxM_valid : idxM_E.Valid Tryz.prog := by
  have hent : Ent Tryz.prog 95 := ⟨by decide, enters_of Tryz.func95 (by kernel_rfl) rfl⟩
  refine pureE_valid (by kernel_rfl) (by kernel_rfl) hent (fun x r h => ⟨.inr hent, fun G w vs hvs hw => Run.call hent.1 ?_⟩)
  obtain ⟨s, sub, u⟩ := x
  unfold idxM at h
  split at h
  · rename_i c hc
    simp only [Option.some.injEq] at h
    cases hvs with
    | cons hv t =>
      cases t with
      | cons hs t =>
        cases t
        have hs' := str_form hs
        subst hs'
        have hv' := str_form hv
        subst hv'
        have hsub : sub = ⟨#[c]⟩ := by
          obtain ⟨⟨l⟩⟩ := sub
          simp only at hc
          rw [hc]
        subst hsub
        have hcl : Calls Tryz.prog 95 #[.string s, .string ⟨#[c]⟩] w _ := Any.stringslite_Index_one (P := Tryz.prog) Tryz.lays219 s c w
        refine hcl.mono ?_
        rintro e w' ⟨rfl, rfl⟩
        subst h
        exact ⟨_, G, rfl, leaf_v rfl rfl, hw, Ext.refl G _, fun i b _ hb => hb⟩
  · cases h
theorem index_one (l : List UInt8) (c : UInt8) : Lib.index l [c] = Lib.indexByte l c := by
  induction l with
  | nil => rfl
  | cons b l ih =>
    unfold Lib.index Lib.indexByte
    rw [ih]
    have e : List.isPrefixOf [c] (b :: l) = (b == c) := by
      simp only [List.isPrefixOf, Bool.and_true]
      exact Bool.eq_iff_iff.2 ⟨fun h => by simpa using (by simpa using h : c = b).symm, fun h => by simpa using (by simpa using h : b = c).symm⟩
    rw [e]
def genM (s sep : ByteArray) (sv n : Int) : Option (List ByteArray) := match sep.data.toList with
  | [c] => bif decide (s.size < 4294967281) && decide (sv = 0) && decide (n = -1) then some (Lib.splitB ⟨#[c]⟩ 0 (Lib.countB s ⟨#[c]⟩) s) else none
  | _ => none
def genM_E : CEnt := pureE 89 [.dat .str, .dat .str, .dat (.int .i64), .dat (.int .i64)] (.dat (.list .str)) fun x => genM x.1 x.2.1 x.2.2.1 x.2.2.2.1
theorem genM_valid : genM_E.Valid Tryz.prog := by
  have hent : Ent Tryz.prog 89 := ⟨by decide, enters_of Tryz.func89 (by kernel_rfl) rfl⟩
  refine pureE_valid (by kernel_rfl) (by kernel_rfl) hent (fun x r h => ⟨.inr hent, fun G w vs hvs hw => Run.call hent.1 ?_⟩)
  obtain ⟨s, sep, sv, n, u⟩ := x
  unfold genM at h
  split at h
  · rename_i c hc
    simp only at h
    cases hb : decide (ByteArray.size s < 4294967281) && decide (sv = (0 : Int)) && decide (n = (-1 : Int)) with
    | false => rw [hb] at h; cases h
    | true =>
      rw [hb] at h
      simp only [cond_true, Option.some.injEq] at h
      simp only [Bool.and_eq_true, decide_eq_true_eq] at hb
      obtain ⟨⟨hs, rfl⟩, rfl⟩ := hb
      cases hvs with
      | cons hv t =>
        cases t with
        | cons hse t =>
          cases t with
          | cons h3 t =>
            cases t with
            | cons h4 t =>
              cases t
              have e1 := str_form hv
              have e2 := str_form hse
              have e3 := int_form h3
              have e4 := int_form h4
              subst e1; subst e2; subst e3; subst e4
              have hsep : sep = ⟨#[c]⟩ := by
                obtain ⟨⟨l⟩⟩ := sep
                simp only at hc
                rw [hc]
              subst hsep
              have h1 : 1 ≤ ByteArray.size ⟨#[c]⟩ := Nat.le_refl _
              have hix : ∀ x : ByteArray, Lib.indexByte x.data.toList c = Lib.indexB x ⟨#[c]⟩ := fun x => (index_one _ _).symm
              have hcn : (Lib.countByte s.data.toList c : Int) = Lib.countB s ⟨#[c]⟩ := by
                show _ = ((Lib.count s.data.toList [c] : Nat) : Int)
                rw [Lib.count_one]
                rfl
              have hle := Lib.countB_le ⟨#[c]⟩ h1 (ByteArray.size s) s (Nat.le_refl _)
              have hlen := Lib.splitB_all ⟨#[c]⟩ h1 0 _ s rfl
              have hcl := Any.strings_genSplit_core (P := Tryz.prog) Tryz.lays221 (by kernel_rfl) s ⟨#[c]⟩ 0 (-1) (Lib.countB s ⟨#[c]⟩ + 1) w hs h1 (Nat.zero_le _)
                (fun x cs hx => (Any.strings_Index_one (P := Tryz.prog) { Tryz.lays221 with } x c _).mono fun e w' ⟨he, hw'⟩ => ⟨by rw [he, hix], hw'⟩)
                ((Any.strings_Count_one (P := Tryz.prog) { Tryz.lays221 with } s c w).mono fun e w' ⟨he, hw'⟩ => ⟨by rw [he, hcn], hw'⟩)
                (by decide) (by decide) (by rw [if_pos (by decide)]; omega)
              rw [Nat.add_sub_cancel, hlen] at hcl
              have hcl' : Calls Tryz.prog 89 #[.string s, .string ⟨#[c]⟩, .int .i64 0, .int .i64 (-1)] w _ := hcl
              refine hcl'.mono ?_
              rintro e w' ⟨rfl, rfl⟩
              subst h
              obtain ⟨G', g1, g2, g3, g4⟩ := new_rowD (T := .str) (xs := Lib.splitB ⟨#[c]⟩ 0 (Lib.countB s ⟨#[c]⟩) s) (row := (Lib.splitB ⟨#[c]⟩ 0 (Lib.countB s ⟨#[c]⟩) s).map Value.string) (cells := Lib.cellsOf (Lib.splitB ⟨#[c]⟩ 0 (Lib.countB s ⟨#[c]⟩) s) (Lib.countB s ⟨#[c]⟩ + 1)) (e := Tryz.lays221_ren.t 9) hw (by unfold Lib.cellsOf; exact List.prefix_append _ _) (by simp [DTy.sz]) (fun i x hi => by
                have hl := (List.getElem?_eq_some_iff.1 hi)
                obtain ⟨hl, hx⟩ := hl
                show ((List.map Value.string _).drop (i * 1)).take 1 = [.string x]
                rw [Nat.mul_one, List.drop_eq_getElem_cons (by simpa using hl)]
                simp [hx])
              rw [hlen] at g1
              exact ⟨_, G', rfl, g1, g2, g4, fun i b hi _ => absurd hi (by omega)⟩
  · cases h
end Go.Proofs.YtbidmbjkjpdgdaaGreatDoor.Abs
set_option linter.unusedVariables false
set_option linter.unusedSimpArgs false
set_option maxRecDepth 100000
namespace Go.Proofs.YtbidmbjkjpdgdaaGreatDoor.Abs
open Go.Shelf Go.RowKit
theorem clo_idle (a0 a1 : Value) (w : World) : CallsDIn Fence.wide 0 Tryz.prog 28 #[a0, a1] .returning w fun e u' w' => (∃ v, e = .returned v) ∧ u' = .returning ∧ w' = w := by
  have mixed : Tryz.prog.follows .mixedOrders = true := by kernel_rfl
  have t20 := Tryz.underlying20; have a20 := Tryz.isAgg20; have z20 := Tryz.sizeOf20; have u20 := run_underlying Tryz.underlying20
  refine callsDIn_of_wpSIn Tryz.func28 rfl trivial fun c₀ cs hu => ?_
  apply wpSIn_seq
  apply wpSIn_region
  simp [wpOpsSIn, go_sem, recoverD, hu, Tryz.ntmps28, Exit.thenS]
  refine wpSIn_of_wpIn rfl ?_
  gi_wp2
  cases c₀
  simp_all [bodyPostS, results, Tryz.results28]
noncomputable def cloR : Code := seqR (conL (seqR (conR (seqR (blkC (seqR (bodyOf Tryz.f28)))))))
set_option maxHeartbeats 1000000 in
theorem clo_pan (s : ByteArray) (a0 a1 : Value) (w : World) (R : World → Prop)
    (hR : ∀ (tm : Array Value) (w1 : World), tm.size = 12 → tm[0]? = some a0 → tm[1]? = some a1 → w1 = w.alloc (.cells #[.string s] 71) → cloR.wpIn Fence.wide 0 Tryz.prog (fun e a' w' => e = .normal ∧ a'.defers = [] ∧ R w') { tmps := tm, defers := [] } w1) :
    CallsDIn Fence.wide 0 Tryz.prog 28 #[a0, a1] (.panicking [{ v := .iface 71 (wrongV s), recovered := false }]) w fun e u' w' => (∃ v, e = .returned v) ∧ u' = .panicking [{ v := .iface 71 (wrongV s), recovered := true }] ∧ R w' := by
  have mixed : Tryz.prog.follows .mixedOrders = true := by kernel_rfl
  have t20 := Tryz.underlying20; have a20 := Tryz.isAgg20; have z20 := Tryz.sizeOf20; have u20 := run_underlying Tryz.underlying20
  have t71 := Tryz.underlying71; have a71 := Tryz.isAgg71; have z71 := Tryz.sizeOf71; have u71 := run_underlying Tryz.underlying71; have v71 := Tryz.zeroValue71
  refine callsDIn_of_wpSIn Tryz.func28 rfl trivial fun c₀ cs hu => ?_
  apply wpSIn_seq
  apply wpSIn_region
  simp [wpOpsSIn, go_sem, recoverD, hu, Tryz.ntmps28, Exit.thenS]
  refine wpSIn_of_wpIn rfl ?_
  conv in (Code.region 7 _ _) => change cloR
  generalize cloR = r7 at hR ⊢
  unfold wrongV
  have ta : ∀ v w, (Instr.typeAssert (.iface 71 v) 20 71 true).run Tryz.prog w = .ok (.tuple #[v, .bool true]) w := by
    intro v w
    unfold Instr.typeAssert
    simp [Sem.run_bind, u71]
  gi_wp2
  refine wpIn_mono (hR _ _ ?_ ?_ ?_ rfl) ?_
  · simp
  · simp
  · simp
  rintro e a' w' ⟨rfl, hd, hR'⟩
  refine ⟨hd, _, rfl, .tuple #[], ?_, ⟨_, rfl⟩, rfl, hR'⟩
  simp [results, Tryz.results28]
noncomputable def cloOps : Array Oper := match cloR with
  | .region _ ops _ => ops
  | _ => #[]
theorem cloR_is : cloR = .region 7 cloOps false := by kernel_rfl
theorem clo_ok : CloOk Tryz.prog 28 (.region 7 cloOps false) 71 2 12 := by
  have three : ∀ vs : Array Value, vs.size = 2 → ∃ a0 a1, vs = #[a0, a1] := fun vs h => by
    obtain ⟨l⟩ := vs
    match l, h with
    | [a0, a1], _ => exact ⟨a0, a1, rfl⟩
  refine ⟨⟨by decide, enters_of Tryz.func28 (by kernel_rfl) rfl⟩, fun vs w hs => ?_, fun s vs w R hs hR => ?_⟩
  · obtain ⟨a0, a1, rfl⟩ := three vs hs
    exact clo_idle a0 a1 w
  · obtain ⟨a0, a1, rfl⟩ := three vs hs
    refine clo_pan s a0 a1 w R fun tm w1 h1 h2 h3 h5 => ?_
    rw [cloR_is]
    refine hR tm w1 h1 (fun i hi => ?_) ⟨_, _, h5⟩
    match i, hi with
    | 0, _ => exact h2
    | 1, _ => exact h3
end Go.Proofs.YtbidmbjkjpdgdaaGreatDoor.Abs
set_option linter.unusedVariables false
set_option linter.unusedSimpArgs false
set_option maxRecDepth 100000
namespace Go.Proofs.YtbidmbjkjpdgdaaGreatDoor.Abs
open Go.Shelf Go.RowKit
theorem wpIn_at {F : Fence} {n : Nat} {P : Program} {Q : Exit → Act → World → Prop} {a : Act} {w : World} {c c' : Code} (h : c = c') (hw : c'.wpIn F n P Q a w) : c.wpIn F n P Q a w := h ▸ hw
theorem gd_set {tm : Array Value} {t : Nat} {v : Value} (h : t < tm.size) (u : Nat) : (tm.setIfInBounds t v).getD u undef = if u = t then v else tm.getD u undef := by
  simp only [Array.getD_eq_getD_getElem?, Array.getElem?_setIfInBounds]
  by_cases hu : t = u
  · subst hu; simp [h]
  · rw [if_neg hu, if_neg (Ne.symm hu)]
theorem ev_tmp (tm : Array Value) (ds : List Deferred) (t : Nat) : Act.eval ⟨tm, ds⟩ (.tmp t) = tm.getD t undef := rfl
theorem ev_const (tm : Array Value) (ds : List Deferred) (v : Value) : Act.eval ⟨tm, ds⟩ (.const v) = v := rfl
theorem put_some (tm : Array Value) (ds : List Deferred) (t : Nat) (v : Value) : Act.put ⟨tm, ds⟩ (some t) v = ⟨tm.setIfInBounds t v, ds⟩ := rfl
theorem put_none (tm : Array Value) (ds : List Deferred) (v : Value) : Act.put ⟨tm, ds⟩ none v = ⟨tm, ds⟩ := rfl
theorem run_storeF {P : Program} {w : World} {t : TypeId} {ti : TypeInfo} {b o : Nat} {cells : Array Value} {e : TypeId} {fr : Nat × Nat} {v : Int} (hti : P.info? t = some ti) (hsz : ti.size = 1) (h : w.heap[b]? = some (.cells cells e fr)) (ho : o < cells.size) (hfr : cells.size ≤ fr.1) :
    ∃ w', (Instr.storeAt t (.pointer (some ⟨b, o, none⟩)) (.int .u8 v)).run P w = .ok () w' ∧ w'.heap = w.heap.setIfInBounds b (.cells (cells.setIfInBounds o (.int .u8 v)) e fr) ∧ w'.os = w.os ∧ w'.tape = w.tape ∧ w'.output = w.output := by
  have hc : w.cell? ⟨b, o, none⟩ = some cells[o] := by rw [cell_of_heap h]; exact Array.getElem?_eq_getElem ho
  have hf : w.frozen? ⟨b, o, none⟩ = false := by simp [World.frozen?, h]; omega
  have hlt := heap_lt h
  refine ⟨w.setCell ⟨b, o, none⟩ (.int .u8 v), ?_, ?_, rfl, rfl, rfl⟩
  · unfold Instr.storeAt
    simp only [Instr.sureAddr, Sem.run_bind, Sem.run_pure, Result.andThen_ok]
    unfold storeVar
    simp only [Sem.run_bind, run_sizeOf' hti, Result.andThen_ok, hsz]
    simp [Value.cells, storeCells, Sem.run_bind, addr_add, store, Sem.run, hc, hf]
  · unfold World.setCell
    simp only [Option.isSome_none, Bool.false_eq_true, if_false]
    apply Array.ext
    · simp
    · intro i h1 h2
      simp only [Array.getElem_modify, Array.getElem_setIfInBounds]
      by_cases hi : b = i
      · subst hi
        have := (Array.getElem?_eq_some_iff.1 h).2
        simp [this]
      · rw [if_neg hi]
        exact (Array.getElem_setIfInBounds_ne (by simpa using h1) hi).symm
theorem bytesRow_set (s : ByteArray) (cap : Nat) (i : Nat) (v : Int) (hi : i < s.size) (hcap : s.size ≤ cap) : ((bytesI s).set i v).map (Value.int .u8) <+: ((bytesRow s cap).setIfInBounds i (.int .u8 v)).toList := by
  have e1 : (bytesRow s cap).toList = (bytesI s).map (Value.int .u8) ++ List.replicate (cap - s.size) (.int .u8 0) := by
    unfold bytesRow bytesI
    simp [List.map_map]
  rw [Array.toList_setIfInBounds, e1, List.set_append_left _ _ (by simpa [bytesI_len] using hi), List.map_set]
  exact List.prefix_append _ _
def spoilB (d : Int) : Int := IntKind.wrap .u8 d
set_option maxHeartbeats 1000000 in
theorem spoil_ok : SpoilOk Tryz.prog (seq1 (tailC 5 (bodyOf Tryz.f5))) (seq1 (seq2 (tailC 5 (bodyOf Tryz.f5)))) 60 7 1 2 9 [54, 55, 56, 57, 58, 59, 60] spoilB := by
  intro a w s i d c Q hsz h1 h2 h3 h0 hi hQ
  obtain ⟨tm, ds⟩ := a
  simp only at h1 h2 h3 hQ
  replace hsz : (60 : Nat) < tm.size := hsz
  have z9 : 9 < tm.size := by omega
  have z54 : 54 < tm.size := by omega
  have z55 : 55 < tm.size := by omega
  have z56 : 56 < tm.size := by omega
  have z57 : 57 < tm.size := by omega
  have z58 : 58 < tm.size := by omega
  have z59 : 59 < tm.size := by omega
  have z60 : 60 < tm.size := by omega
  have hcap := grownCap_ge w s.size 0 5
  obtain ⟨cap, ecap⟩ : ∃ cap, cap = grownCap w s.size 0 5 := ⟨_, rfl⟩
  have hrow : (bytesRow s cap).size = cap := by rw [ecap]; unfold bytesRow; simp; omega
  refine wpIn_at (c' := .seq (.region _ _ _) (.seq (.region _ _ _) c)) rfl ?_
  refine wpIn_seq (wpIn_region_list ?_)
  refine spoil_step (v := .string s) (w' := w) rfl (by simp only [execOp, ev_tmp, h1]; rfl) ?_
  simp only [put_some]
  refine spoil_step (v := .slice (some ⟨w.heap.size, 0, none⟩) s.size cap) (w' := w.drew.alloc (.cells (bytesRow s cap) 5 (cap, cap + 1))) rfl (by
    simp only [execOp, ev_tmp, gd_set z54, if_true]
    rw [Sem.run_bind, run_bytes_of_string (P := Tryz.prog) w 9 39 5 s Tryz.underlying9 Tryz.underlying39 Tryz.underlying5, ← ecap, hrow]
    rfl) ?_
  simp only [put_some]
  refine spoil_step (v := .slice (some ⟨w.heap.size, 0, none⟩) s.size cap) rfl (by simp [execOp, ev_tmp, gd_set, z54, z55]; rfl) ?_
  simp only [put_some]
  unfold wpListIn
  simp only [Exit.then]
  generalize hw1 : w.drew.alloc (.cells (bytesRow s cap) 5 (cap, cap + 1)) = w1
  refine wpIn_seq (wpIn_region_list ?_)
  have h2' : tm[1]?.getD undef = Value.int .i64 i := by rw [← h2, Array.getD_eq_getD_getElem?]
  have h3' : tm[2]?.getD undef = Value.int .i64 d := by rw [← h3, Array.getD_eq_getD_getElem?]
  refine spoil_step (v := .slice (some ⟨w.heap.size, 0, none⟩) s.size cap) (w' := w1) rfl (by simp [execOp, ev_tmp, gd_set, z9, z54, z55, z56, z57, z58, z59, z60]) ?_
  simp only [put_some]
  refine spoil_step (v := .int .i64 i) (w' := w1) rfl (by simp [execOp, ev_tmp, gd_set, z9, z54, z55, z56, z57, z58, z59, z60, h2']) ?_
  simp only [put_some]
  refine spoil_step (v := .int .i64 d) (w' := w1) rfl (by simp [execOp, ev_tmp, gd_set, z9, z54, z55, z56, z57, z58, z59, z60, h3']) ?_
  simp only [put_some]
  refine spoil_step (v := .int .u8 (spoilB d)) (w' := w1) rfl (by simp [execOp, ev_tmp, ev_const, gd_set, z9, z54, z55, z56, z57, z58, z59, z60]; rfl) ?_
  simp only [put_some]
  refine spoil_step (v := .pointer (some ⟨w.heap.size, i.toNat, none⟩)) (w' := w1) rfl (by
    simp only [execOp, ev_tmp, gd_set, z9, z54, z55, z56, z57, z58, z59, z60, Array.size_setIfInBounds, if_true, reduceIte]
    simp only [show ¬ ((56 : Nat) = 57) by decide, show ¬ ((56 : Nat) = 58) by decide, show ¬ ((56 : Nat) = 59) by decide, show ¬ ((57 : Nat) = 58) by decide, show ¬ ((57 : Nat) = 59) by decide, if_false]
    obtain ⟨ti, hti, hsz⟩ : ∃ ti, Tryz.prog.info? 5 = some ti ∧ ti.size = 1 := ⟨_, rfl, rfl⟩
    rw [Sem.run_bind, Abs.run_indexAt_slice Tryz.underlying39 hti h0 hi, hsz]
    simp) ?_
  simp only [put_some]
  have hh : w1.heap = w.heap.push (.cells (bytesRow s cap) 5 (cap, cap + 1)) := by rw [← hw1]; rfl
  have hat : w1.heap[w.heap.size]? = some (.cells (bytesRow s cap) 5 (cap, cap + 1)) := by rw [hh]; simp
  have hin : i.toNat < s.size := by omega
  have hcap' : s.size ≤ cap := by omega
  obtain ⟨ti, hti, htsz⟩ : ∃ ti, Tryz.prog.info? 5 = some ti ∧ ti.size = 1 := ⟨_, rfl, rfl⟩
  obtain ⟨w2, hrun, e1, e2, e3, e4⟩ := run_storeF (P := Tryz.prog) (w := w1) (t := 5) (o := i.toNat) (v := spoilB d) hti htsz hat (by rw [hrow]; omega) (by rw [hrow]; exact Nat.le_refl _)
  refine spoil_skip (w' := w2) rfl ?_ ?_
  · simp only [execOp, ev_tmp, gd_set, z9, z54, z55, z56, z57, z58, z59, z60, Array.size_setIfInBounds, if_true, reduceIte]
    simp only [show ¬ ((59 : Nat) = 60) by decide, if_false]
    rw [Sem.run_bind, hrun]
    rfl
  · simp only [put_none]
    unfold wpListIn
    simp only [Exit.then]
    refine hQ _ w2 _ 5 (cap, cap + 1) cap rfl (by simp) (fun t ht => ?_) (fun _ => ?_) hcap' ?_ ?_ ?_ ?_ (bytesRow_set s cap i.toNat (spoilB d) hin hcap')
    · simp only [List.mem_cons, List.not_mem_nil, or_false, not_or] at ht
      obtain ⟨a0, a1, a2, a3, a4, a5, a6, a7⟩ := ht
      simp only [gd_set, z9, z54, z55, z56, z57, z58, z59, z60, Array.size_setIfInBounds, a0, a1, a2, a3, a4, a5, a6, a7, if_false]
    · simp [gd_set, z9, z54, z55, z56, z57, z58, z59, z60]
    · rw [e1, hh]
      apply Array.ext'
      simp
    · rw [e2, ← hw1]; rfl
    · rw [e3, ← hw1]; rfl
    · rw [e4, ← hw1]; rfl
end Go.Proofs.YtbidmbjkjpdgdaaGreatDoor.Abs
