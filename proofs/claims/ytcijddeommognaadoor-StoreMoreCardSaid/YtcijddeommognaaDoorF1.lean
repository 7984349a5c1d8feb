import Derived.Test.YtcijddeommognaaDoorA3
import Derived.Shelf.Strings.Builder1
import Derived.Shelf.Strconv.Itoa3
import Derived.Shelf.LaysM
import Derived.Shelf.Abstract
import Derived.KernelRfl
/-
  What the store's functions use of the library: texts of numbers, and the builder of texts, told over the abstract semantics. (The first part, the shelf's layings in plain words, was printed by the kit's own tools.)
-/
set_option linter.unusedVariables false
set_option linter.unusedSimpArgs false
namespace Go.Proofs
open Go.Shelf
def Tryd.lays169_ren : Go.Shelf.Ren := ⟨fun | 169 => 69 | n => n, fun | 70 => 97 | 9 => 9 | 0 => 0 | 72 => 99 | 37 => 78 | 127 => 128 | 3 => 3 | 5 => 5 | n => n, fun | n => n⟩
theorem Tryd.lays169 : Go.Proofs.Lays.n169 Tryd.prog Tryd.lays169_ren := {
  mixed := by kernel_rfl
  f169 := Tryd.func69.trans (congrArg some (by kernel_rfl))
  t0 := Tryd.underlying0
  a0 := Tryd.isAgg0
  z0 := Tryd.sizeOf0
  v0 := Tryd.zeroValue0
  t3 := Tryd.underlying3
  a3 := Tryd.isAgg3
  z3 := Tryd.sizeOf3
  v3 := Tryd.zeroValue3
  t9 := Tryd.underlying9
  a9 := Tryd.isAgg9
  z9 := Tryd.sizeOf9
  v9 := Tryd.zeroValue9
  t37 := Tryd.underlying78
  a37 := Tryd.isAgg78
  z37 := Tryd.sizeOf78
  v37 := Tryd.zeroValue78
  t70 := Tryd.underlying97
  a70 := Tryd.isAgg97
  z70 := Tryd.sizeOf97
  v70 := Tryd.zeroValue97
  t72 := Tryd.underlying99
  a72 := Tryd.isAgg99
  z72 := Tryd.sizeOf99
  v72 := Tryd.zeroValue99
  t127 := Tryd.underlying128
  a127 := Tryd.isAgg128
  z127 := Tryd.sizeOf128
  v127 := Tryd.zeroValue128 }
theorem Tryd.Builder_Extra_169 : Builder.Extra Tryd.prog Tryd.lays169_ren := {
  sizeBuilder := by kernel_rfl
  liesBuilder := by kernel_rfl
  t5 := Tryd.underlying5
  a5 := Tryd.isAgg5
  z5 := Tryd.sizeOf5
  v5 := Tryd.zeroValue5
  infoByte := by kernel_rfl
  cellsByte := by kernel_rfl
  sizeByte := by kernel_rfl
  neB5 := by decide }
def Tryd.laysM171_ren : Go.Shelf.Ren := ⟨fun | 171 => 68 | 243 => 92 | 246 => 102 | 283 => 105 | 284 => 106 | 285 => 107 | 286 => 108 | 129 => 114 | 317 => 113 | 318 => 115 | 319 => 116 | 320 => 117 | 337 => 122 | 338 => 123 | n => n, fun | 3 => 3 | 9 => 9 | 2 => 2 | 4 => 4 | 171 => 142 | 0 => 0 | 53 => 143 | 37 => 78 | 5 => 5 | 173 => 146 | 212 => 153 | 51 => 154 | 20 => 20 | 213 => 155 | 46 => 156 | 232 => 162 | 233 => 163 | n => n, fun | 17 => 0 | 18 => 2 | 19 => 3 | n => n⟩
theorem Tryd.laysM171 : Go.Proofs.LaysM.n171 Tryd.prog Tryd.laysM171_ren := {
  mixed := by kernel_rfl
  f129 := Tryd.func114.trans (congrArg some (by kernel_rfl))
  f171 := Tryd.func68.trans (congrArg some (by kernel_rfl))
  f243 := Tryd.func92.trans (congrArg some (by kernel_rfl))
  f246 := Tryd.func102.trans (congrArg some (by kernel_rfl))
  f283 := Tryd.func105.trans (congrArg some (by kernel_rfl))
  f284 := Tryd.func106.trans (congrArg some (by kernel_rfl))
  f285 := Tryd.func107.trans (congrArg some (by kernel_rfl))
  f286 := Tryd.func108.trans (congrArg some (by kernel_rfl))
  f317 := Tryd.func113.trans (congrArg some (by kernel_rfl))
  f318 := Tryd.func115.trans (congrArg some (by kernel_rfl))
  f319 := Tryd.func116.trans (congrArg some (by kernel_rfl))
  f320 := Tryd.func117.trans (congrArg some (by kernel_rfl))
  f337 := Tryd.func122.trans (congrArg some (by kernel_rfl))
  f338 := Tryd.func123.trans (congrArg some (by kernel_rfl))
  t0 := Tryd.underlying0
  a0 := Tryd.isAgg0
  z0 := Tryd.sizeOf0
  v0 := Tryd.zeroValue0
  t2 := Tryd.underlying2
  a2 := Tryd.isAgg2
  z2 := Tryd.sizeOf2
  v2 := Tryd.zeroValue2
  t3 := Tryd.underlying3
  a3 := Tryd.isAgg3
  z3 := Tryd.sizeOf3
  v3 := Tryd.zeroValue3
  t4 := Tryd.underlying4
  a4 := Tryd.isAgg4
  z4 := Tryd.sizeOf4
  v4 := Tryd.zeroValue4
  t5 := Tryd.underlying5
  a5 := Tryd.isAgg5
  z5 := Tryd.sizeOf5
  v5 := Tryd.zeroValue5
  t9 := Tryd.underlying9
  a9 := Tryd.isAgg9
  z9 := Tryd.sizeOf9
  v9 := Tryd.zeroValue9
  t20 := Tryd.underlying20
  a20 := Tryd.isAgg20
  z20 := Tryd.sizeOf20
  v20 := Tryd.zeroValue20
  t37 := Tryd.underlying78
  a37 := Tryd.isAgg78
  z37 := Tryd.sizeOf78
  v37 := Tryd.zeroValue78
  t46 := Tryd.underlying156
  a46 := Tryd.isAgg156
  z46 := Tryd.sizeOf156
  v46 := Tryd.zeroValue156
  t51 := Tryd.underlying154
  a51 := Tryd.isAgg154
  z51 := Tryd.sizeOf154
  v51 := Tryd.zeroValue154
  t53 := Tryd.underlying143
  a53 := Tryd.isAgg143
  z53 := Tryd.sizeOf143
  v53 := Tryd.zeroValue143
  t171 := Tryd.underlying142
  a171 := Tryd.isAgg142
  z171 := Tryd.sizeOf142
  v171 := Tryd.zeroValue142
  t173 := Tryd.underlying146
  a173 := Tryd.isAgg146
  z173 := Tryd.sizeOf146
  v173 := Tryd.zeroValue146
  t212 := Tryd.underlying153
  a212 := Tryd.isAgg153
  z212 := Tryd.sizeOf153
  v212 := Tryd.zeroValue153
  t213 := Tryd.underlying155
  a213 := Tryd.isAgg155
  z213 := Tryd.sizeOf155
  t232 := Tryd.underlying162
  a232 := Tryd.isAgg162
  z232 := Tryd.sizeOf162
  v232 := Tryd.zeroValue162
  t233 := Tryd.underlying163
  a233 := Tryd.isAgg163
  z233 := Tryd.sizeOf163
  v233 := Tryd.zeroValue163
  g17 := by kernel_rfl
  g18 := by kernel_rfl
  g19 := by kernel_rfl
  i0 := by kernel_rfl
  i2 := by kernel_rfl
  i3 := by kernel_rfl
  i4 := by kernel_rfl
  i5 := by kernel_rfl
  i9 := by kernel_rfl
  i20 := by kernel_rfl
  i37 := by kernel_rfl
  i46 := by kernel_rfl
  i51 := by kernel_rfl
  i53 := by kernel_rfl
  i171 := by kernel_rfl
  i173 := by kernel_rfl
  i212 := by kernel_rfl
  i232 := by kernel_rfl
  i233 := by kernel_rfl
  m17 := by kernel_rfl
  m18 := by kernel_rfl
  m19 := by kernel_rfl }
end Go.Proofs
set_option maxRecDepth 100000
namespace Go.Proofs.YtcijddeommognaaDoor.Abs
open Go.Shelf Go.RowKit Go.Sort
theorem mixed : Tryd.prog.follows .mixedOrders = true := by kernel_rfl
section
set_option maxHeartbeats 1000000 in
theorem bchk_used (b : Nat) (w : World) (h0 : w.cell? ⟨b, 0, none⟩ = some (.pointer (some ⟨b, 0, none⟩))) :
    Calls Tryd.prog 91 #[.pointer (some ⟨b, 0, none⟩)] w fun e w' => e = .returned (.tuple #[]) ∧ w' = w := by
  obtain ⟨j, hj, _⟩ := Option.map_eq_some_iff.1 (show (Tryd.prog.info? 99).map (fun i => i.size) = some 2 by kernel_rfl)
  have t72 := Tryd.underlying99; have a72 := Tryd.isAgg99; have z72 := Tryd.sizeOf99; have u72 := run_underlying Tryd.underlying99
  have t70 := Tryd.underlying97; have a70 := Tryd.isAgg97; have z70 := Tryd.sizeOf97; have u70 := run_underlying Tryd.underlying97
  have t164 := Tryd.underlying137; have a164 := Tryd.isAgg137; have z164 := Tryd.sizeOf137; have u164 := run_underlying Tryd.underlying137
  go_enter Tryd.func91, Tryd.ntmps91
  go_wp2
  rw [Lib.run_neq_ptr_same w _ Tryd.underlying97 hj]
  go_wp2
  go_end0
  exact ⟨rfl, rfl⟩
set_option maxHeartbeats 1000000 in
theorem bchk_fresh (b : Nat) (w : World) (h0 : w.cell? ⟨b, 0, none⟩ = some (.pointer none)) (hsh : w.shape? b = some (99, 2)) (hfz : w.frozen? ⟨b, 0, none⟩ = false) :
    Calls Tryd.prog 91 #[.pointer (some ⟨b, 0, none⟩)] w fun e w' => e = .returned (.tuple #[]) ∧ w' = w.setCell ⟨b, 0, none⟩ (.pointer (some ⟨b, 0, none⟩)) := by
  obtain ⟨j, hj, hjs⟩ := Option.map_eq_some_iff.1 (show (Tryd.prog.info? 99).map (fun i => i.size) = some 2 by kernel_rfl)
  have hl : liesAt Tryd.prog Tryd.prog.depth 99 (2 / Tryd.prog.cellsOf 99) 0 99 1 = true := by kernel_rfl
  have t72 := Tryd.underlying99; have a72 := Tryd.isAgg99; have z72 := Tryd.sizeOf99; have u72 := run_underlying Tryd.underlying99
  have t70 := Tryd.underlying97; have a70 := Tryd.isAgg97; have z70 := Tryd.sizeOf97; have u70 := run_underlying Tryd.underlying97
  have t164 := Tryd.underlying137; have a164 := Tryd.isAgg137; have z164 := Tryd.sizeOf137; have u164 := run_underlying Tryd.underlying137
  go_enter Tryd.func91, Tryd.ntmps91
  go_wp2
  rw [Lib.run_to_unsafe w ⟨b, 0, none⟩ Tryd.underlying97 Tryd.underlying137 hj (by rw [hjs]; decide) hsh (Nat.zero_lt_succ 1)]
  simp only [Result.andThen]
  rw [Oper.upon_value]
  go_wp2
  rw [run_callFunc_extern Tryd.func101 (by kernel_rfl) (by kernel_rfl) (by kernel_rfl) (e := Extern.AbiNoEscape.same) (by kernel_rfl)]
  rw [Lib.run_noEscape]
  simp only [Result.andThen]
  rw [Oper.upon_value]
  go_wp2
  rw [Lib.run_from_unsafe w ⟨b, 0, none⟩ Tryd.underlying137 Tryd.underlying97 hj hsh hl]
  simp only [Result.andThen]
  rw [Oper.upon_value]
  go_wp2
  go_end0
  exact ⟨rfl, rfl⟩
variable {P : Program} {ρ : Ren}
set_option maxHeartbeats 1000000 in
theorem bstr_some (L : Lays.n169 P ρ) (X : Builder.Extra P ρ) (b g cap : Nat) (p : Value) (cur : Array Value) (l : List UInt8) (w : World) (h0 : l ≠ []) (hbk : w.heap[b]? = some (.cells #[p, .slice (some ⟨g, 0, none⟩) l.length cap] (ρ.t 72) (0, 0))) (hg : w.heap[g]? = some (.cells cur (ρ.t 5) (0, 0)))
    (hcap : l.length ≤ cap) (hcs : cur.size = cap) (hl : l.length ≤ 2 ^ 40) (htake : ∀ (j : Nat) (x : UInt8), l[j]? = some x → cur[j]? = some (.int .u8 x.toNat)) :
    Calls P (ρ.f 169) #[.pointer (some ⟨b, 0, none⟩)] w fun e w' => e = .returned (.string ⟨l.toArray⟩) ∧ w' = w.drew.freeze ⟨g, 0, none⟩ l.length := by
  have hl0 : l.length ≠ 0 := by simpa using h0
  have c1 : w.drew.cell? ⟨b, 1, none⟩ = some (.slice (some ⟨g, 0, none⟩) l.length cap) := by
    have : w.drew.heap[b]? = some (.cells #[p, .slice (some ⟨g, 0, none⟩) l.length cap] (ρ.t 72) (0, 0)) := hbk
    rw [Lib.cell_of_heap this]; rfl
  have hSD : (Builtin.unsafeSliceData_ #[(ρ.t 37)] (ρ.t 127) #[.slice (some ⟨g, 0, none⟩) l.length cap]).run P w.drew = .ok (.pointer (some ⟨g, 0, none⟩)) w.drew :=
    Lib.run_unsafeSliceData_row _ _ _ _ _ _ (by omega)
  have hg' : w.drew.heap[g]? = some (.cells cur (ρ.t 5) (0, 0)) := hg
  have hUS : (Builtin.unsafeString_ #[(ρ.t 127), (ρ.t 3)] (ρ.t 9) #[.pointer (some ⟨g, 0, none⟩), .int .i64 l.length]).run P w.drew = .ok (.string ⟨l.toArray⟩) (w.drew.freeze ⟨g, 0, none⟩ l.length) := by
    refine Lib.run_unsafeString_row w.drew (ρ.t 127) (ρ.t 3) (ρ.t 9) (ρ.t 5) L.t127 X.cellsByte g cur.size (by simp [World.shape?, hg']) l h0 (by omega) (by omega) ?_
    intro j x hx
    have := htake j x hx
    rw [addr_add, Nat.zero_add, Lib.cell_of_heap hg']
    exact this
  have mixed := L.mixed
  have t72 := L.t72; have a72 := L.a72; have z72 := L.z72; have v72 := L.v72; have u72 := run_underlying L.t72
  have t70 := L.t70; have a70 := L.a70; have z70 := L.z70; have v70 := L.v70; have u70 := run_underlying L.t70
  have t37 := L.t37; have a37 := L.a37; have z37 := L.z37; have v37 := L.v37; have u37 := run_underlying L.t37
  have t127 := L.t127; have a127 := L.a127; have z127 := L.z127; have v127 := L.v127; have u127 := run_underlying L.t127
  have t3 := L.t3; have a3 := L.a3; have z3 := L.z3; have v3 := L.v3; have u3 := run_underlying L.t3
  have t9 := L.t9; have a9 := L.a9; have z9 := L.z9; have v9 := L.v9; have u9 := run_underlying L.t9
  have t5 := X.t5; have a5 := X.a5; have z5 := X.z5; have v5 := X.v5; have u5 := run_underlying X.t5
  go_enter L.f169, Body.n169_ntmps ρ
  go_wp2
  go_region_o
  all_goals (go_wp2; go_ret; exact ⟨rfl, rfl⟩)
set_option maxHeartbeats 1000000 in
theorem bstr_noroom (L : Lays.n169 P ρ) (X : Builder.Extra P ρ) (b g : Nat) (p : Value) (cur : Array Value) (et : TypeId) (w : World) (hbk : w.heap[b]? = some (.cells #[p, .slice (some ⟨g, 0, none⟩) 0 0] (ρ.t 72) (0, 0))) (hg : w.heap[g]? = some (.cells cur et (0, 0))) :
    Calls P (ρ.f 169) #[.pointer (some ⟨b, 0, none⟩)] w fun e w' => e = .returned (.string ⟨#[]⟩) ∧ Below w.heap.size w w' := by
  have hUS := Any.unsafeString_none L X
  have hlt : b < w.heap.size := by
    rcases Nat.lt_or_ge b w.heap.size with h' | h'
    · exact h'
    · simp [Array.getElem?_eq_none h'] at hbk
  have c1 : w.drew.cell? ⟨b, 1, none⟩ = some (.slice (some ⟨g, 0, none⟩) 0 0) := by
    have : w.drew.heap[b]? = some (.cells #[p, .slice (some ⟨g, 0, none⟩) 0 0] (ρ.t 72) (0, 0)) := hbk
    rw [Lib.cell_of_heap this]; rfl
  have hSD : (Builtin.unsafeSliceData_ #[(ρ.t 37)] (ρ.t 127) #[.slice (some ⟨g, 0, none⟩) 0 0]).run P w.drew = .ok (.pointer (some ⟨w.drew.heap.size, 0, none⟩)) (w.drew.alloc (.view ⟨g, 0, none⟩ (ρ.t 5))) :=
    Lib.run_unsafeSliceData_zero w.drew _ _ (ρ.t 5) L.t127 ⟨g, 0, none⟩ 0 (et, cur.size) (by have hg' : w.drew.heap[g]? = some (.cells cur et (0, 0)) := hg; simp [World.shape?, hg'])
  have c2 : (w.drew.alloc (.view ⟨g, 0, none⟩ (ρ.t 5))).cell? ⟨b, 1, none⟩ = some (.slice (some ⟨g, 0, none⟩) 0 0) := by
    have : (w.drew.alloc (.view ⟨g, 0, none⟩ (ρ.t 5))).heap[b]? = _ := (Lib.alloc_old w.drew _ b hlt).trans hbk
    rw [Lib.cell_of_heap this]; rfl
  -- (the same fact as the how-to's newer walk spells the world; and of w itself, to which the elder walk comes down)
  have c3 : (w.alloc (.view ⟨g, 0, none⟩ (ρ.t 5))).drew.cell? ⟨b, 1, none⟩ = some (.slice (some ⟨g, 0, none⟩) 0 0) := c2
  have c0 : w.cell? ⟨b, 1, none⟩ = some (.slice (some ⟨g, 0, none⟩) 0 0) := c1
  have mixed := L.mixed
  have t72 := L.t72; have a72 := L.a72; have z72 := L.z72; have v72 := L.v72; have u72 := run_underlying L.t72
  have t70 := L.t70; have a70 := L.a70; have z70 := L.z70; have v70 := L.v70; have u70 := run_underlying L.t70
  have t37 := L.t37; have a37 := L.a37; have z37 := L.z37; have v37 := L.v37; have u37 := run_underlying L.t37
  have t127 := L.t127; have a127 := L.a127; have z127 := L.z127; have v127 := L.v127; have u127 := run_underlying L.t127
  have t3 := L.t3; have a3 := L.a3; have z3 := L.z3; have v3 := L.v3; have u3 := run_underlying L.t3
  have t9 := L.t9; have a9 := L.a9; have z9 := L.z9; have v9 := L.v9; have u9 := run_underlying L.t9
  have t5 := X.t5; have a5 := X.a5; have z5 := X.z5; have v5 := X.v5; have u5 := run_underlying X.t5
  go_enter L.f169, Body.n169_ntmps ρ
  go_wp2
  go_region_o
  all_goals (go_wp2; go_ret; exact ⟨rfl, (Below.drew (Below.refl w.heap.size w)).alloc (Nat.le_refl _) _⟩)
end
theorem putO_self {w : World} {b : Nat} {o : Obj} (h : w.heap[b]? = some o) : putO w b o = w := by
  have : w.heap.setIfInBounds b o = w.heap := by
    apply Array.ext_getElem?
    intro i
    rw [Array.getElem?_setIfInBounds]
    split
    · rename_i hi
      subst hi
      split
      · exact h.symm
      · rename_i hn
        rw [Array.getElem?_eq_none (by omega)]
    · rfl
  unfold putO
  rw [this]
/-- What a builder's box holds. -/
theorem bld_form {G : Gh} {w : World} {xs : List Int} {vs : List Value} {n : Nat} {A : List AVal} (hvs : Vals G [] (.bptr 0 [] :: A) vs) (hw : WOk G ⟨[.tbox 99 (.cons (.optp 0) (.cons (.own 0 (.int .u8) xs) .nil))], [], n⟩ w) :
    ∃ blk p A' cap vs', vs = .pointer (some ⟨blk, 0, none⟩) :: vs' ∧ Vals G [] A vs' ∧ G.addr[0]? = some blk ∧ w.heap[blk]? = some (.cells #[p, .slice A' xs.length cap] 99 (0, 0)) ∧ (p = .pointer none ∨ p = .pointer (some ⟨blk, 0, none⟩)) ∧
      RD G.imm (.list (.int .u8)) xs [.slice A' xs.length cap] ∧ ((xs = [] ∧ A' = none ∧ cap = 0) ∨ ∃ g row, A' = some ⟨g, 0, none⟩ ∧ G.own 0 = some (g, cap * 1) ∧ G.imm g = some row ∧ row.length = xs.length * 1 ∧ (xs = [] → cap = 0)) := by
  cases hvs with
  | cons hv t =>
    rename_i v vs'
    obtain ⟨blk, hblk, _, rfl⟩ := ptr_form hv
    obtain ⟨o, cs, hh, ⟨cells, rfl, rfl⟩, hc⟩ := hw.boxes 0 blk _ hblk rfl
    obtain ⟨c1, c2, e1, h1, c3, c4, rfl, h2, h3⟩ := hc
    obtain ⟨hr, A', cap, rfl, hor⟩ := h2
    have h3 : c4 = [] := h3
    subst h3
    have hp : ∃ p, c1 = [p] ∧ (p = .pointer none ∨ p = .pointer (some ⟨blk, 0, none⟩)) := by
      rcases h1 with rfl | ⟨blk', hb', rfl⟩
      · exact ⟨_, rfl, .inl rfl⟩
      · rw [hblk] at hb'
        cases hb'
        exact ⟨_, rfl, .inr rfl⟩
    obtain ⟨p, rfl, hp⟩ := hp
    refine ⟨blk, p, A', cap, vs', rfl, t, hblk, ?_, hp, hr, ?_⟩
    · have : cells = #[p, .slice A' xs.length cap] := by apply Array.ext'; simpa using e1
      rw [← this]; exact hh
    · rcases hor with hor | hor | hor
      · cases hor
      · exact .inl hor
      · exact .inr hor
/-- The pattern of a builder. -/
abbrev BP : PTy := .tbox 99 (.cons (.optp 0) (.cons (.own 0 (.int .u8)) .nil))
abbrev BQ : PTy := .tbox 99 (.cons (.fix (.bptr 0 [])) (.cons (.own 0 (.int .u8)) .nil))
abbrev BR : PTy := .tbox 99 (.cons (.optp 0) (.cons (.dat (.list (.int .u8))) .nil))
abbrev bchk_CS : CSpec := ⟨[.fix (.bptr 0 [])], [BP], 1, [BQ], 1, .tup .nil⟩
def bchkM (b : Unit × (List Int × Unit)) : Option (Unit × ((Unit × (List Int × Unit)) × Unit)) := some ((), (((), (b.2.1, ())), ()))
noncomputable def bchkM_E : CEnt := boxE 91 bchk_CS fun x => bchkM x.2.1
theorem bchk_ent : Ent Tryd.prog 91 := ⟨by decide, enters_of Tryd.func91 (by kernel_rfl) rfl⟩
theorem bchkM_valid : bchkM_E.Valid Tryd.prog := by
  refine boxE_valid (S := bchk_CS) (by kernel_rfl) (.inr bchk_ent) fun x r h => ⟨.inr bchk_ent, fun G w vs hvs hw => Run.call bchk_ent.1 ?_⟩
  obtain ⟨xa, ⟨⟨u, xs, u'⟩, u2⟩⟩ := x
  simp only [bchkM, Option.some.injEq] at h
  subst h
  have hw : WOk G ⟨[.tbox 99 (.cons (.optp 0) (.cons (.own 0 (.int .u8) xs) .nil))], [], 1⟩ w := hw
  have hvs : Vals G [] [.bptr 0 []] vs := hvs
  obtain ⟨blk, p, A, cap, vs', rfl, hvs', hblk, hh, hp, hr, hor⟩ := bld_form hvs hw
  cases hvs'
  have hbox : Rc G [] (.tbox 99 (.cons (.bptr 0 []) (.cons (.own 0 (.int .u8) xs) .nil))) [.pointer (some ⟨blk, 0, none⟩), .slice A xs.length cap] :=
    ⟨[.pointer (some ⟨blk, 0, none⟩)], [.slice A xs.length cap], rfl, ⟨blk, hblk, trivial, rfl⟩, [.slice A xs.length cap], [], rfl, ⟨hr, A, cap, rfl, .inr hor⟩, rfl⟩
  have upd := upd_obj (c' := .tbox 99 (.cons (.bptr 0 []) (.cons (.own 0 (.int .u8) xs) .nil))) (o' := .cells #[.pointer (some ⟨blk, 0, none⟩), .slice A xs.length cap] 99 (0, 0)) (cs := [.pointer (some ⟨blk, 0, none⟩), .slice A xs.length cap]) hw hblk rfl rfl rfl hh ⟨_, rfl, rfl⟩ hbox
  have fin : ∀ e w', e = .returned (.tuple #[]) → w' = putO w blk (.cells #[.pointer (some ⟨blk, 0, none⟩), .slice A xs.length cap] 99 (0, 0)) →
      ∃ cv G', e = Ending.returned cv ∧ Rv G' [] (.tuple .nil) cv ∧ WOk G' ⟨[.tbox 99 (.cons (.bptr 0 []) (.cons (.own 0 (.int .u8) xs) .nil))], [], 1⟩ w' ∧ Ext G w G' w' ∧ ∀ i b, i < 1 → G.addr[i]? = some b → G'.addr[i]? = some b := fun e w' he hw' => by
    subst he hw'
    exact ⟨_, G, rfl, leaf_v rfl ⟨[], rfl, rfl⟩, upd.1, upd.2, fun i b _ h => h⟩
  have hlt := heap_lt hh
  rcases hp with rfl | rfl
  · refine (bchk_fresh blk w (by rw [cell_of_heap hh]; rfl) (by simp [World.shape?, hh]) (by simp [World.frozen?, hh])).mono ?_
    rintro e w' ⟨rfl, rfl⟩
    refine fin _ _ rfl ?_
    rw [setCell_putRow hh]
    rfl
  · refine (bchk_used blk w (by rw [cell_of_heap hh]; rfl)).mono ?_
    rintro e w' ⟨rfl, rfl⟩
    refine fin _ _ rfl ?_
    exact (putO_self hh).symm
/-- The builder is read out: its row is written no more. -/
theorem bld_drop {G : Gh} {w w' : World} {xs : List Int} {blk : Nat} {p : Value} {A : Option Addr} {cap : Nat} (hw : WOk G ⟨[.tbox 99 (.cons (.optp 0) (.cons (.own 0 (.int .u8) xs) .nil))], [], 1⟩ w) (hblk : G.addr[0]? = some blk) (hh : w.heap[blk]? = some (.cells #[p, .slice A xs.length cap] 99 (0, 0)))
    (hp : p = .pointer none ∨ p = .pointer (some ⟨blk, 0, none⟩)) (hr : RD G.imm (.list (.int .u8)) xs [.slice A xs.length cap]) (h1 : w'.os = w.os) (h2 : w'.tape = w.tape) (h3 : w'.output = w.output) (h4 : w.heap.size ≤ w'.heap.size)
    (hs : ∀ b, b < w.heap.size → w'.heap[b]? = w.heap[b]? ∨ ∃ cur e fr fr' n, w.heap[b]? = some (.cells cur e fr) ∧ w'.heap[b]? = some (.cells cur e fr') ∧ G.own 0 = some (b, n)) :
    WOk { G with own := fun _ => none } ⟨[.tbox 99 (.cons (.optp 0) (.cons (.d (.list (.int .u8)) xs) .nil))], [], 0⟩ w' ∧ Ext G w { G with own := fun _ => none } w' := by
  have hext : Ext G w { G with own := fun _ => none } w' := ⟨h1, h2, h3, h4, fun b hb _ ho => by
    rcases hs b hb with h | ⟨cur, e, fr, fr', n, _, _, h⟩
    · exact h
    · exact absurd h (ho 0 n), ImmLe.refl _, fun _ _ _ => rfl, fun b hb => .inl hb, fun t b n h => by cases h⟩
  have hlen : G.addr.length = 1 := hw.len
  have hno : ∀ t n, G.own t ≠ some (blk, n) := fun t n h => by
    rcases (hw.own t blk n h).2.1 with ⟨row, hi⟩ | ⟨_, hi⟩
    · have := hw.disj blk (List.mem_of_getElem? hblk)
      rw [this] at hi; cases hi
    · have := hi 0 _ hblk rfl
      simp [AVal.isT] at this
  refine ⟨⟨hlen, hw.nodup, fun i b c hb hc => ?_, fun b row hb => ?_, hw.disj, (fun t b n h => by cases h), (fun t t' b n n' h => by cases h), hw.tab.ext hext, fun i t T ys hx => ?_⟩, hext⟩
  · have hi : i = 0 := by have := (List.getElem?_eq_some_iff.1 hb).1; have : i < G.addr.length := this; omega
    subst hi
    have : b = blk := by have hb' : G.addr[0]? = some b := hb; rw [hblk] at hb'; cases hb'; rfl
    subst this
    have : c = .tbox 99 (.cons (.optp 0) (.cons (.d (.list (.int .u8)) xs) .nil)) := by simpa using hc.symm
    subst this
    refine ⟨_, [p, .slice A xs.length cap], ?_, ⟨#[p, .slice A xs.length cap], rfl, rfl⟩, ?_⟩
    · rcases hs b (heap_lt hh) with h | ⟨cur, e, fr, fr', n, _, _, h⟩
      · rw [h]; exact hh
      · exact absurd h (hno 0 n)
    · refine ⟨[p], [.slice A xs.length cap], rfl, ?_, [.slice A xs.length cap], [], rfl, hr, rfl⟩
      rcases hp with rfl | rfl
      · exact .inl rfl
      · exact .inr ⟨b, hblk, rfl⟩
  · obtain ⟨cells, e, fr, k1, k2⟩ := hw.imm b row hb
    rcases hs b (heap_lt k1) with h | ⟨cur, e', fr1, fr', n, h5, h6, _⟩
    · exact ⟨cells, e, fr, by rw [h]; exact k1, k2⟩
    · rw [k1] at h5
      simp only [Option.some.injEq, Obj.cells.injEq] at h5
      obtain ⟨rfl, rfl, rfl⟩ := h5
      exact ⟨cells, e, fr', h6, k2⟩
  · cases i with
    | zero => simp at hx
    | succ i => simp at hx
abbrev bstr_CS : CSpec := ⟨[.fix (.bptr 0 [])], [BP], 1, [BR], 0, .dat .str⟩
def isBytes (xs : List Int) : Bool := xs.all fun n => decide (0 ≤ n) && decide (n < 256)
def bstrM (b : Unit × (List Int × Unit)) : Option (ByteArray × ((Unit × (List Int × Unit)) × Unit)) := bif isBytes b.2.1 && decide (b.2.1.length ≤ LIM) then some (strI b.2.1, (((), (b.2.1, ())), ())) else none
noncomputable def bstrM_E : CEnt := boxE 69 bstr_CS fun x => bstrM x.2.1
theorem bstr_ent : Ent Tryd.prog 69 := ⟨by decide, enters_of Tryd.func69 (by kernel_rfl) rfl⟩
theorem bstrM_valid : bstrM_E.Valid Tryd.prog := by
  refine boxE_valid (S := bstr_CS) (by kernel_rfl) (.inr bstr_ent) fun x r h => ⟨.inr bstr_ent, fun G w vs hvs hw => Run.call bstr_ent.1 ?_⟩
  obtain ⟨xa, ⟨⟨u, xs, u'⟩, u2⟩⟩ := x
  unfold bstrM at h
  cases hb : isBytes xs && decide (xs.length ≤ LIM) with
  | false => simp only [hb, cond_false] at h; cases h
  | true =>
  simp only [hb, cond_true, Option.some.injEq] at h
  subst h
  simp only [Bool.and_eq_true, decide_eq_true_eq] at hb
  have hby : ∀ n ∈ xs, 0 ≤ n ∧ n < 256 := fun n hn => by simpa using List.all_eq_true.1 hb.1 n hn
  have hlim : xs.length ≤ 2 ^ 36 := hb.2
  have hw : WOk G ⟨[.tbox 99 (.cons (.optp 0) (.cons (.own 0 (.int .u8) xs) .nil))], [], 1⟩ w := hw
  have hvs : Vals G [] [.bptr 0 []] vs := hvs
  obtain ⟨blk, p, A, cap, vs', rfl, hvs', hblk, hh, hp, hr, hor⟩ := bld_form hvs hw
  cases hvs'
  have fin : ∀ e w', e = .returned (.string (strI xs)) → w'.os = w.os → w'.tape = w.tape → w'.output = w.output → w.heap.size ≤ w'.heap.size →
      (∀ b, b < w.heap.size → w'.heap[b]? = w.heap[b]? ∨ ∃ cur e fr fr' n, w.heap[b]? = some (.cells cur e fr) ∧ w'.heap[b]? = some (.cells cur e fr') ∧ G.own 0 = some (b, n)) →
      ∃ cv G', e = Ending.returned cv ∧ Rv G' [] (.d .str (strI xs)) cv ∧ WOk G' ⟨[.tbox 99 (.cons (.optp 0) (.cons (.d (.list (.int .u8)) xs) .nil))], [], 0⟩ w' ∧ Ext G w G' w' ∧ ∀ i b, i < 1 → G.addr[i]? = some b → G'.addr[i]? = some b := fun e w' he k1 k2 k3 k4 k5 => by
    subst he
    obtain ⟨q1, q2⟩ := bld_drop hw hblk hh hp hr k1 k2 k3 k4 k5
    exact ⟨_, _, rfl, leaf_v rfl rfl, q1, q2, fun i b _ h => h⟩
  have below : ∀ e w', e = .returned (.string (strI xs)) → Below w.heap.size w w' → ∃ cv G', e = Ending.returned cv ∧ Rv G' [] (.d .str (strI xs)) cv ∧ WOk G' ⟨[.tbox 99 (.cons (.optp 0) (.cons (.d (.list (.int .u8)) xs) .nil))], [], 0⟩ w' ∧ Ext G w G' w' ∧ ∀ i b, i < 1 → G.addr[i]? = some b → G'.addr[i]? = some b := fun e w' he hb =>
    fin e w' he hb.os hb.tape hb.output hb.size fun b h => .inl (hb.block b h)
  rcases hor with ⟨rfl, rfl, rfl⟩ | ⟨g, row, rfl, ho, hi, hrl, hne⟩
  · refine (Any.Builder_String_nil Tryd.lays169 Tryd.Builder_Extra_169 w.heap.size blk p w hh).mono ?_
    rintro e w' ⟨rfl, hb⟩
    exact below _ _ rfl hb
  · obtain ⟨_, _, cur, e, hg, hcs, hbr⟩ := hw.own 0 g _ ho
    by_cases hx : xs = []
    · subst hx
      have := hne rfl
      subst this
      obtain ⟨x2, e2⟩ : ∃ x2 e2, w.heap[g]? = some (.cells x2 e2 (0, 0)) := ⟨cur, e, hg⟩
      refine (bstr_noroom Tryd.lays169 Tryd.Builder_Extra_169 blk g p cur e w hh hg).mono ?_
      rintro e w' ⟨rfl, hb⟩
      exact below _ _ rfl hb
    · obtain ⟨A', cap', e1, hcap, hq⟩ := hr
      obtain ⟨b', off, row', e2, k1, k2, k3⟩ := hq hx
      simp only [List.cons.injEq, Value.slice.injEq, and_true, true_and] at e1
      obtain ⟨rfl, rfl⟩ := e1
      simp only [Option.some.injEq, Addr.mk.injEq] at e2
      obtain ⟨rfl, rfl, _⟩ := e2
      rw [hi] at k1
      cases k1
      obtain ⟨cells2, e2, fr, k4, k5⟩ := hw.imm g row hi
      rw [hg] at k4
      simp only [Option.some.injEq, Obj.cells.injEq] at k4
      obtain ⟨rfl, rfl, rfl⟩ := k4
      have hrow : row = xs.map (Value.int .u8) := bytes_cells xs row hrl (fun i x hix => by simpa [DTy.sz] using k3 i x hix)
      have hE : e = 5 := by
        cases xs with
        | nil => exact absurd rfl hx
        | cons x xs => exact hbr row x hi (by rw [hrow]; rfl)
      subst hE
      let l : List UInt8 := xs.map fun n => UInt8.ofNat n.toNat
      have hll : l.length = xs.length := by simp [l]
      have key := bstr_some Tryd.lays169 Tryd.Builder_Extra_169 blk g cap p cur l w (by simpa [l] using hx) (by rw [hll]; exact hh) hg (by rw [hll]; exact hcap) (by simpa using hcs) (by rw [hll]; omega) (fun j x hj => by
        have hj' : (xs.map fun n => UInt8.ofNat n.toNat)[j]? = some x := hj
        simp only [List.getElem?_map, Option.map_eq_some_iff] at hj'
        obtain ⟨n, hn, rfl⟩ := hj'
        have hn2 := hby n (List.mem_of_getElem? hn)
        have hrj : row[j]? = some (.int .u8 n) := by rw [hrow]; simp [hn]
        have : cur.toList[j]? = some (.int .u8 n) := prefix_getElem? k5 hrj
        rw [Array.getElem?_toList] at this
        rw [this]
        have : ((UInt8.ofNat n.toNat).toNat : Int) = n := by
          obtain ⟨m, rfl⟩ := Int.eq_ofNat_of_zero_le hn2.1
          have hm : m < 256 := by have h3 : ((m : Nat) : Int) < 256 := hn2.2; omega
          rw [UInt8.toNat_ofNat']
          show ((m % 2 ^ 8 : Nat) : Int) = m
          rw [Nat.mod_eq_of_lt hm]
        rw [this])
      refine key.mono ?_
      rintro e w' ⟨rfl, rfl⟩
      refine fin _ _ ?_ ?_ ?_ ?_ ?_ fun b hb => ?_
      · rfl
      · unfold World.freeze; split <;> rfl
      · unfold World.freeze; split <;> rfl
      · unfold World.freeze; split <;> rfl
      · unfold World.freeze; split
        · exact Nat.le_refl _
        · simp
      · by_cases hbg : b = g
        · subst hbg
          refine .inr ⟨cur, 5, (0, 0), (0, 0 + l.length), _, hg, ?_, ho⟩
          have hl0 : l.length ≠ 0 := by rw [hll]; simpa using hx
          unfold World.freeze
          rw [if_neg hl0]
          have hgl := heap_lt hg
          have hgd : w.drew.heap[b]? = some (.cells cur 5 (0, 0)) := hg
          simp only [Array.getElem?_modify, hgd]
          simp
        · left
          unfold World.freeze
          split
          · rfl
          · simp only [Array.getElem?_modify, if_neg (Ne.symm hbg)]
            rfl
theorem tabIs_of {G : Gh} {B : Bx} {w : World} (hw : WOk G B w) : Lib.TabIs Tryd.prog w "internal/strconv.uint64pow10" .u64 Lib.pow10Tab := by
  obtain ⟨⟨e, fr, h⟩, _⟩ := hw.tab _ (List.mem_cons_self : _ ∈ TABS)
  have hg : Tryd.prog.globalNamed "internal/strconv.uint64pow10" = some 0 := by kernel_rfl
  unfold Lib.TabIs World.var?
  rw [hg]
  simp only [Option.bind_some]
  rw [h]
  rfl
def itoaM (n : Int) : Option ByteArray := bif decide (-9223372036854775808 ≤ n) && decide (n ≤ 9223372036854775807) then some ⟨(Lib.itoa n).toArray⟩ else none
def itoaM_E : CEnt := pureE 68 [.dat (.int .i64)] (.dat .str) fun x => itoaM x.1
theorem grew_grow (w : World) (k : Nat) (os : Array Obj) : Grew w (grow (w.drewN k) os) :=
  ⟨rfl, rfl, rfl, by simp [grow, World.drewN], fun b hb => by simp [grow, World.drewN, Array.getElem?_append_left hb]⟩
theorem itoaM_valid : itoaM_E.Valid Tryd.prog := by
  have hent : Ent Tryd.prog 68 := ⟨by decide, enters_of Tryd.func68 (by kernel_rfl) rfl⟩
  refine pureE_valid (by kernel_rfl) (by kernel_rfl) hent (fun x r h => ⟨.inr hent, fun G w vs hvs hw => Run.call hent.1 ?_⟩)
  unfold itoaM at h
  cases hb : decide (-9223372036854775808 ≤ x.1) && decide (x.1 ≤ 9223372036854775807) with
  | false => rw [hb] at h; cases h
  | true =>
    rw [hb] at h
    simp only [cond_true, Option.some.injEq] at h
    simp only [Bool.and_eq_true, decide_eq_true_eq] at hb
    cases hvs with
    | cons hv t =>
      cases t
      have hvv := int_form hv
      subst hvv
      have hc : Calls Tryd.prog 68 #[.int .i64 x.1] w _ := Any.strconv_Itoa Tryd.laysM171 x.1 hb.1 hb.2 w (tabIs_of hw)
      refine hc.mono ?_
      rintro e w' ⟨rfl, k, os, rfl⟩
      subst h
      exact ⟨_, G, rfl, leaf_v rfl rfl, hw.grew (grew_grow w k os), (grew_grow w k os).ext G, fun i b _ hb => hb⟩
end Go.Proofs.YtcijddeommognaaDoor.Abs

/-
  Functions of the store layer, and what they come to, as typed functions; part 0. Printed by a program of mine (gen.py).
-/
set_option linter.unusedVariables false
set_option maxRecDepth 100000
namespace Go.Proofs.YtcijddeommognaaDoor.Abs
open Go.Shelf Go.Sort
abbrev T107 : DTy := (.cons .str .nil)
abbrev E107 : Type := (ByteArray × Unit)
abbrev T121 : DTy := (.cons (.list (.int .i64)) .nil)
abbrev E121 : Type := ((List Int) × Unit)
abbrev T13 : DTy := (.cons .str (.cons (.int .u64) .nil))
abbrev E13 : Type := (ByteArray × (Int × Unit))
abbrev T165 : DTy := (.cons (.int .u8) (.cons (.int .u8) .nil))
abbrev E165 : Type := (Int × (Int × Unit))
abbrev T39 : DTy := (.cons (.int .i64) (.cons (.arr 3 (.int .i64)) (.cons (.int .i64) .nil)))
abbrev E39 : Type := (Int × ((List Int) × (Int × Unit)))
abbrev T7 : DTy := (.cons (.int .i64) (.cons (.int .i64) (.cons .bool (.cons (.int .u8) .nil))))
abbrev E7 : Type := (Int × (Int × (Bool × (Int × Unit))))
abbrev T44 : DTy := (.cons .bool (.cons (.int .i64) (.cons (.int .i64) (.cons (.int .i64) (.cons (.int .i64) .nil)))))
abbrev E44 : Type := (Bool × (Int × (Int × (Int × (Int × Unit)))))
abbrev T33 : DTy := (.cons (.list (.arr 3 (.int .i64))) (.cons (.list (.arr 3 (.int .i64))) (.cons (.list (.arr 3 (.int .i64))) .nil)))
abbrev E33 : Type := ((List (List Int)) × ((List (List Int)) × ((List (List Int)) × Unit)))
abbrev T27 : DTy := (.cons (.arr 3 (.int .i64)) (.cons (.arr 3 (.int .i64)) (.cons (.int .i64) (.cons (.int .i64) (.cons (.int .i64) (.cons (.list T39) (.cons (.list (.list .bool)) (.cons (.list (.list (.arr 3 (.int .i64)))) .nil))))))))
abbrev E27 : Type := ((List Int) × ((List Int) × (Int × (Int × (Int × ((List E39) × ((List (List Bool)) × ((List (List (List Int))) × Unit))))))))
abbrev T123 : DTy := (.cons T27 (.cons (.list .bool) (.cons (.list (.arr 3 (.int .i64))) (.cons (.int .i64) (.cons (.int .i64) (.cons (.arr 3 (.int .i64)) (.cons (.list (.arr 3 (.int .i64))) (.cons T121 (.cons (.list .bool) (.cons T33 .nil))))))))))
abbrev E123 : Type := (E27 × ((List Bool) × ((List (List Int)) × (Int × (Int × ((List Int) × ((List (List Int)) × (E121 × ((List Bool) × (E33 × Unit))))))))))
noncomputable def g15_taliklaw06_short_C : CalT := tabC []
theorem g15_taliklaw06_short_CV : CV Tryd.prog g15_taliklaw06_short_C := tabC_valid (l := []) trivial
noncomputable def g15_taliklaw06_short_l0_c : Code := loopAt (bodyOf Tryd.f15) 0
noncomputable def g15_taliklaw06_short_l1_c : Code := loopAt (bodyOf Tryd.f15) 1
noncomputable def g15_taliklaw06_short_l0_S : SPat := ⟨[.any, .fix (.bptr 0 []), .dat .bool, .dat (.int .i64), .any, .any, .any, .any, .any, .any, .any, .any, .any, .any, .any, .any, .any, .any, .any, .any, .any, .any, .any, .any, .any, .any, .any, .any, .any, .any, .any, .any, .any, .any, .any, .any, .any, .any, .any, .any, .any, .any, .any, .any, .any, .any, .any, .any, .any, .any, .any, .any, .any, .any, .any, .any, .any], [.dat T27], 0⟩
noncomputable def g15_taliklaw06_short_l0_step (s : ((Bool × (Int × Unit)) × (E27 × Unit))) : Option (Nat × ((Bool × (Int × Unit)) × (E27 × Unit))) :=
  (bif (decide (s.1.2.1 < (List.length s.2.1.2.2.2.2.2.2.1 : Int))) then
  (bif (decide (s.1.2.1 < 10)) then
    (bif (decide (0 ≤ s.1.2.1) && decide (s.1.2.1 < (List.length s.2.1.2.2.2.2.2.2.1 : Int))) then
      (bif (decide ((List.length (List.getD s.2.1.2.2.2.2.2.2.1 (Int.toNat s.1.2.1) []) : Int) > 15)) then
        some (1, ((false, (s.1.2.1, ())), (s.2.1, ())))
        else
        some (0, ((s.1.1, ((IntKind.wrap .i64 (s.1.2.1 + 1)), ())), (s.2.1, ()))))
      else
      none)
    else
    some (2, ((s.1.1, (s.1.2.1, ())), (s.2.1, ()))))
  else
  some (2, ((s.1.1, (s.1.2.1, ())), (s.2.1, ()))))
noncomputable def g15_taliklaw06_short_l0_fuel (s : ((Bool × (Int × Unit)) × (E27 × Unit))) : Nat := Int.toNat ((List.length s.2.1.2.2.2.2.2.2.1 : Int) - s.1.2.1) + 1
noncomputable def g15_taliklaw06_short_l0_run (s : ((Bool × (Int × Unit)) × (E27 × Unit))) : Option (Nat × ((Bool × (Int × Unit)) × (E27 × Unit))) := iter g15_taliklaw06_short_l0_step (g15_taliklaw06_short_l0_fuel s) s
noncomputable def g15_taliklaw06_short_l0_L : LoopT := loopT g15_taliklaw06_short_l0_S [.ret, .exit 0] g15_taliklaw06_short_l0_run
noncomputable def g15_taliklaw06_short_l1_S : SPat := ⟨[.any, .fix (.bptr 0 []), .dat .bool, .any, .dat (.int .i64), .any, .any, .any, .any, .any, .any, .any, .any, .any, .any, .any, .any, .any, .any, .any, .any, .any, .any, .any, .any, .any, .any, .any, .any, .any, .any, .any, .any, .any, .any, .any, .any, .any, .any, .any, .any, .any, .any, .any, .any, .any, .any, .any, .any, .any, .any, .any, .any, .any, .any, .any, .any], [.dat T27], 0⟩
noncomputable def g15_taliklaw06_short_l1_step (s : ((Bool × (Int × Unit)) × (E27 × Unit))) : Option (Nat × ((Bool × (Int × Unit)) × (E27 × Unit))) :=
  (bif (decide (s.1.2.1 < (List.length s.2.1.2.2.2.2.2.2.2.1 : Int))) then
  (bif (decide (s.1.2.1 < 10)) then
    (bif (decide (0 ≤ s.1.2.1) && decide (s.1.2.1 < (List.length s.2.1.2.2.2.2.2.2.2.1 : Int))) then
      (bif (decide ((List.length (List.getD s.2.1.2.2.2.2.2.2.2.1 (Int.toNat s.1.2.1) []) : Int) > 40)) then
        some (1, ((false, (s.1.2.1, ())), (s.2.1, ())))
        else
        some (0, ((s.1.1, ((IntKind.wrap .i64 (s.1.2.1 + 1)), ())), (s.2.1, ()))))
      else
      none)
    else
    some (2, ((s.1.1, (s.1.2.1, ())), (s.2.1, ()))))
  else
  some (2, ((s.1.1, (s.1.2.1, ())), (s.2.1, ()))))
noncomputable def g15_taliklaw06_short_l1_fuel (s : ((Bool × (Int × Unit)) × (E27 × Unit))) : Nat := Int.toNat ((List.length s.2.1.2.2.2.2.2.2.2.1 : Int) - s.1.2.1) + 1
noncomputable def g15_taliklaw06_short_l1_run (s : ((Bool × (Int × Unit)) × (E27 × Unit))) : Option (Nat × ((Bool × (Int × Unit)) × (E27 × Unit))) := iter g15_taliklaw06_short_l1_step (g15_taliklaw06_short_l1_fuel s) s
noncomputable def g15_taliklaw06_short_l1_L : LoopT := loopT g15_taliklaw06_short_l1_S [.ret, .exit 2] g15_taliklaw06_short_l1_run
noncomputable def g15_taliklaw06_short (a0 : E27) : Option Bool :=
  (Option.bind (g15_taliklaw06_short_l0_run ((false, (0, ())), (a0, ()))) fun q1 =>
  (natK q1.1
    (some q1.2.1.1)
    (fun _ => (Option.bind (g15_taliklaw06_short_l1_run ((q1.2.1.1, (0, ())), (q1.2.2.1, ()))) fun q2 =>
      (natK q2.1
        (some q2.2.1.1)
        (fun _ => (bif (decide ((List.length q2.2.2.1.2.2.2.2.2.1 : Int) ≤ 10)) then
          (bif (decide ((List.length q2.2.2.1.2.2.2.2.2.2.1 : Int) ≤ 8)) then
            some (decide ((List.length q2.2.2.1.2.2.2.2.2.2.2.1 : Int) ≤ 8))
            else
            some false)
          else
          some false)))))))
noncomputable def g15_taliklaw06_short_E : CEnt := pureE 15 [.dat T27] (.dat .bool) fun x => g15_taliklaw06_short x.1
theorem g15_taliklaw06_short_l0_V : LValid 0 Tryd.prog (.loop g15_taliklaw06_short_l0_c) g15_taliklaw06_short_l0_L false := by
  have hb : ∀ s, codeR Tryd.prog g15_taliklaw06_short_C g15_taliklaw06_short_l0_c [] (g15_taliklaw06_short_l0_S.encE s) (g15_taliklaw06_short_l0_S.encB s) (kst g15_taliklaw06_short_l0_S [.ret, .exit 0]) = g15_taliklaw06_short_l0_step s := by
    intro s; kernel_rfl
  have hL : LV 0 Tryd.prog false (loopsOf g15_taliklaw06_short_l0_c) [] := by unfold LV; cases loopsOf g15_taliklaw06_short_l0_c <;> trivial
  exact loopT_valid (fuel := g15_taliklaw06_short_l0_fuel) mixed g15_taliklaw06_short_CV hL (by kernel_rfl) (by decide) rfl hb (fun s r h => h)
theorem g15_taliklaw06_short_l1_V : LValid 0 Tryd.prog (.loop g15_taliklaw06_short_l1_c) g15_taliklaw06_short_l1_L false := by
  have hb : ∀ s, codeR Tryd.prog g15_taliklaw06_short_C g15_taliklaw06_short_l1_c [] (g15_taliklaw06_short_l1_S.encE s) (g15_taliklaw06_short_l1_S.encB s) (kst g15_taliklaw06_short_l1_S [.ret, .exit 2]) = g15_taliklaw06_short_l1_step s := by
    intro s; kernel_rfl
  have hL : LV 0 Tryd.prog false (loopsOf g15_taliklaw06_short_l1_c) [] := by unfold LV; cases loopsOf g15_taliklaw06_short_l1_c <;> trivial
  exact loopT_valid (fuel := g15_taliklaw06_short_l1_fuel) mixed g15_taliklaw06_short_CV hL (by kernel_rfl) (by decide) rfl hb (fun s r h => h)
theorem g15_taliklaw06_short_LV : LV 0 Tryd.prog false (loopsOf (bodyOf Tryd.f15)) [g15_taliklaw06_short_l0_L, g15_taliklaw06_short_l1_L] := by
  have hl : loopsOf (bodyOf Tryd.f15) = [.loop g15_taliklaw06_short_l0_c, .loop g15_taliklaw06_short_l1_c] := by kernel_rfl
  rw [hl]; exact ⟨g15_taliklaw06_short_l0_V, g15_taliklaw06_short_l1_V, trivial⟩
theorem g15_taliklaw06_short_ent : Ent Tryd.prog 15 := ⟨by decide, enters_of Tryd.func15 (by kernel_rfl) rfl⟩
theorem g15_taliklaw06_short_hev : ∀ x, fnR Tryd.prog g15_taliklaw06_short_C [g15_taliklaw06_short_l0_L, g15_taliklaw06_short_l1_L] Tryd.f15 (bodyOf Tryd.f15) (encs [.dat T27] x) ⟨[], [], 0⟩ (frzF (.dat .bool)) = g15_taliklaw06_short x.1 := by
  intro x; kernel_rfl
theorem g15_taliklaw06_short_valid : g15_taliklaw06_short_E.Valid Tryd.prog :=
  pureE_valid (by kernel_rfl) (by kernel_rfl) g15_taliklaw06_short_ent (frz_lcall mixed Tryd.func15 rfl g15_taliklaw06_short_ent g15_taliklaw06_short_CV g15_taliklaw06_short_LV (by kernel_rfl) (by kernel_rfl) g15_taliklaw06_short_hev)

noncomputable def g49_taliklaw06_Ships_C : CalT := tabC []
theorem g49_taliklaw06_Ships_CV : CV Tryd.prog g49_taliklaw06_Ships_C := tabC_valid (l := []) trivial
noncomputable def g49_taliklaw06_Ships : Option (List E39) :=
  some ([(0, ((4 :: (2 :: (1 :: []))), (50, ()))), (1, ((2 :: (4 :: (1 :: []))), (40, ()))), (0, ((6 :: (6 :: (3 :: []))), (100, ())))])
noncomputable def g49_taliklaw06_Ships_E : CEnt := pureE 49 [] (.dat (.list T39)) fun x => g49_taliklaw06_Ships
theorem g49_taliklaw06_Ships_LV : LV 0 Tryd.prog false (loopsOf (bodyOf Tryd.f49)) [] := by unfold LV; cases loopsOf (bodyOf Tryd.f49) <;> trivial
theorem g49_taliklaw06_Ships_ent : Ent Tryd.prog 49 := ⟨by decide, enters_of Tryd.func49 (by kernel_rfl) rfl⟩
theorem g49_taliklaw06_Ships_hev : ∀ x, fnR Tryd.prog g49_taliklaw06_Ships_C [] Tryd.f49 (bodyOf Tryd.f49) (encs [] x) ⟨[], [], 0⟩ (frzF (.dat (.list T39))) = g49_taliklaw06_Ships := by
  intro x; kernel_rfl
theorem g49_taliklaw06_Ships_valid : g49_taliklaw06_Ships_E.Valid Tryd.prog :=
  pureE_valid (by kernel_rfl) (by kernel_rfl) g49_taliklaw06_Ships_ent (frz_lcall mixed Tryd.func49 rfl g49_taliklaw06_Ships_ent g49_taliklaw06_Ships_CV g49_taliklaw06_Ships_LV (by kernel_rfl) (by kernel_rfl) g49_taliklaw06_Ships_hev)

noncomputable def g48_taliklaw06_Store_C : CalT := tabC [g49_taliklaw06_Ships_E]
theorem g48_taliklaw06_Store_CV : CV Tryd.prog g48_taliklaw06_Store_C := tabC_valid (l := [g49_taliklaw06_Ships_E]) ⟨g49_taliklaw06_Ships_valid, trivial⟩
noncomputable def g48_taliklaw06_Store : Option E27 :=
  (Option.bind g49_taliklaw06_Ships fun r1 =>
  some ((2 :: (1 :: (0 :: []))), ((10 :: (8 :: (5 :: []))), (4, (4, (3, (r1, ([[true, true, true], [false, true, true]], ([[(1 :: (1 :: (0 :: []))), (1 :: (1 :: (0 :: []))), (1 :: (1 :: (0 :: []))), (1 :: (1 :: (1 :: [])))]], ())))))))))
noncomputable def g48_taliklaw06_Store_E : CEnt := pureE 48 [] (.dat T27) fun x => g48_taliklaw06_Store
theorem g48_taliklaw06_Store_LV : LV 0 Tryd.prog false (loopsOf (bodyOf Tryd.f48)) [] := by unfold LV; cases loopsOf (bodyOf Tryd.f48) <;> trivial
theorem g48_taliklaw06_Store_ent : Ent Tryd.prog 48 := ⟨by decide, enters_of Tryd.func48 (by kernel_rfl) rfl⟩
theorem g48_taliklaw06_Store_hev : ∀ x, fnR Tryd.prog g48_taliklaw06_Store_C [] Tryd.f48 (bodyOf Tryd.f48) (encs [] x) ⟨[], [], 0⟩ (frzF (.dat T27)) = g48_taliklaw06_Store := by
  intro x; kernel_rfl
theorem g48_taliklaw06_Store_valid : g48_taliklaw06_Store_E.Valid Tryd.prog :=
  pureE_valid (by kernel_rfl) (by kernel_rfl) g48_taliklaw06_Store_ent (frz_lcall mixed Tryd.func48 rfl g48_taliklaw06_Store_ent g48_taliklaw06_Store_CV g48_taliklaw06_Store_LV (by kernel_rfl) (by kernel_rfl) g48_taliklaw06_Store_hev)

noncomputable def g53_store_in_C : CalT := tabC []
theorem g53_store_in_CV : CV Tryd.prog g53_store_in_C := tabC_valid (l := []) trivial
noncomputable def g53_store_in (a0 : Int) (a1 : Int) (a2 : Int) : Option Bool :=
  (bif (decide (a0 ≥ a1)) then
  some (decide (a0 ≤ a2))
  else
  some false)
noncomputable def g53_store_in_E : CEnt := pureE 53 [.dat (.int .i64), .dat (.int .i64), .dat (.int .i64)] (.dat .bool) fun x => g53_store_in x.1 x.2.1 x.2.2.1
theorem g53_store_in_LV : LV 0 Tryd.prog false (loopsOf (bodyOf Tryd.f53)) [] := by unfold LV; cases loopsOf (bodyOf Tryd.f53) <;> trivial
theorem g53_store_in_ent : Ent Tryd.prog 53 := ⟨by decide, enters_of Tryd.func53 (by kernel_rfl) rfl⟩
theorem g53_store_in_hev : ∀ x, fnR Tryd.prog g53_store_in_C [] Tryd.f53 (bodyOf Tryd.f53) (encs [.dat (.int .i64), .dat (.int .i64), .dat (.int .i64)] x) ⟨[], [], 0⟩ (frzF (.dat .bool)) = g53_store_in x.1 x.2.1 x.2.2.1 := by
  intro x; kernel_rfl
theorem g53_store_in_valid : g53_store_in_E.Valid Tryd.prog :=
  pureE_valid (by kernel_rfl) (by kernel_rfl) g53_store_in_ent (frz_lcall mixed Tryd.func53 rfl g53_store_in_ent g53_store_in_CV g53_store_in_LV (by kernel_rfl) (by kernel_rfl) g53_store_in_hev)

noncomputable def g76_store_amount_C : CalT := tabC [g53_store_in_E]
theorem g76_store_amount_CV : CV Tryd.prog g76_store_amount_C := tabC_valid (l := [g53_store_in_E]) ⟨g53_store_in_valid, trivial⟩
noncomputable def g76_store_amount_l0_c : Code := loopAt (bodyOf Tryd.f76) 0
noncomputable def g76_store_amount_l0_S : SPat := ⟨[.any, .fix (.bptr 0 []), .dat .bool, .any, .dat (.int .i64), .any, .any, .any, .any, .any, .any, .any, .any], [.dat (.arr 3 (.int .i64))], 0⟩
noncomputable def g76_store_amount_l0_step (s : ((Bool × (Int × Unit)) × ((List Int) × Unit))) : Option (Nat × ((Bool × (Int × Unit)) × ((List Int) × Unit))) :=
  (bif (decide (s.1.2.1 < 3)) then
  (bif (decide (0 ≤ s.1.2.1) && decide (s.1.2.1 < (3 : Int))) then
    (Option.bind (g53_store_in (List.getD s.2.1 (Int.toNat s.1.2.1) 0) 0 1000) fun r1 =>
      (bif (!r1) then
        some (1, ((false, (s.1.2.1, ())), (s.2.1, ())))
        else
        some (0, ((s.1.1, ((IntKind.wrap .i64 (s.1.2.1 + 1)), ())), (s.2.1, ())))))
    else
    none)
  else
  some (2, ((s.1.1, (s.1.2.1, ())), (s.2.1, ()))))
noncomputable def g76_store_amount_l0_fuel (s : ((Bool × (Int × Unit)) × ((List Int) × Unit))) : Nat := Int.toNat (3 - s.1.2.1) + 1
noncomputable def g76_store_amount_l0_run (s : ((Bool × (Int × Unit)) × ((List Int) × Unit))) : Option (Nat × ((Bool × (Int × Unit)) × ((List Int) × Unit))) := iter g76_store_amount_l0_step (g76_store_amount_l0_fuel s) s
noncomputable def g76_store_amount_l0_L : LoopT := loopT g76_store_amount_l0_S [.ret, .exit 0] g76_store_amount_l0_run
noncomputable def g76_store_amount (a0 : (List Int)) : Option Bool :=
  (Option.bind (g76_store_amount_l0_run ((false, (0, ())), (a0, ()))) fun q2 =>
  (natK q2.1
    (some q2.2.1.1)
    (fun _ => some true)))
noncomputable def g76_store_amount_E : CEnt := pureE 76 [.dat (.arr 3 (.int .i64))] (.dat .bool) fun x => g76_store_amount x.1
theorem g76_store_amount_l0_V : LValid 0 Tryd.prog (.loop g76_store_amount_l0_c) g76_store_amount_l0_L false := by
  have hb : ∀ s, codeR Tryd.prog g76_store_amount_C g76_store_amount_l0_c [] (g76_store_amount_l0_S.encE s) (g76_store_amount_l0_S.encB s) (kst g76_store_amount_l0_S [.ret, .exit 0]) = g76_store_amount_l0_step s := by
    intro s; kernel_rfl
  have hL : LV 0 Tryd.prog false (loopsOf g76_store_amount_l0_c) [] := by unfold LV; cases loopsOf g76_store_amount_l0_c <;> trivial
  exact loopT_valid (fuel := g76_store_amount_l0_fuel) mixed g76_store_amount_CV hL (by kernel_rfl) (by decide) rfl hb (fun s r h => h)
theorem g76_store_amount_LV : LV 0 Tryd.prog false (loopsOf (bodyOf Tryd.f76)) [g76_store_amount_l0_L] := by
  have hl : loopsOf (bodyOf Tryd.f76) = [.loop g76_store_amount_l0_c] := by kernel_rfl
  rw [hl]; exact ⟨g76_store_amount_l0_V, trivial⟩
theorem g76_store_amount_ent : Ent Tryd.prog 76 := ⟨by decide, enters_of Tryd.func76 (by kernel_rfl) rfl⟩
theorem g76_store_amount_hev : ∀ x, fnR Tryd.prog g76_store_amount_C [g76_store_amount_l0_L] Tryd.f76 (bodyOf Tryd.f76) (encs [.dat (.arr 3 (.int .i64))] x) ⟨[], [], 0⟩ (frzF (.dat .bool)) = g76_store_amount x.1 := by
  intro x; kernel_rfl
theorem g76_store_amount_valid : g76_store_amount_E.Valid Tryd.prog :=
  pureE_valid (by kernel_rfl) (by kernel_rfl) g76_store_amount_ent (frz_lcall mixed Tryd.func76 rfl g76_store_amount_ent g76_store_amount_CV g76_store_amount_LV (by kernel_rfl) (by kernel_rfl) g76_store_amount_hev)

noncomputable def g78_store_ship_C : CalT := tabC [g53_store_in_E, g76_store_amount_E]
theorem g78_store_ship_CV : CV Tryd.prog g78_store_ship_C := tabC_valid (l := [g53_store_in_E, g76_store_amount_E]) ⟨g53_store_in_valid, g76_store_amount_valid, trivial⟩
noncomputable def g78_store_ship (a0 : E39) : Option Bool :=
  (Option.bind (g53_store_in a0.1 0 7) fun r1 =>
  (bif r1 then
    (Option.bind (g76_store_amount a0.2.1) fun r2 =>
      (bif r2 then
        (Option.bind (g53_store_in a0.2.2.1 0 1000000) fun r3 =>
          some r3)
        else
        some false))
    else
    some false))
noncomputable def g78_store_ship_E : CEnt := pureE 78 [.dat T39] (.dat .bool) fun x => g78_store_ship x.1
theorem g78_store_ship_LV : LV 0 Tryd.prog false (loopsOf (bodyOf Tryd.f78)) [] := by unfold LV; cases loopsOf (bodyOf Tryd.f78) <;> trivial
theorem g78_store_ship_ent : Ent Tryd.prog 78 := ⟨by decide, enters_of Tryd.func78 (by kernel_rfl) rfl⟩
theorem g78_store_ship_hev : ∀ x, fnR Tryd.prog g78_store_ship_C [] Tryd.f78 (bodyOf Tryd.f78) (encs [.dat T39] x) ⟨[], [], 0⟩ (frzF (.dat .bool)) = g78_store_ship x.1 := by
  intro x; kernel_rfl
theorem g78_store_ship_valid : g78_store_ship_E.Valid Tryd.prog :=
  pureE_valid (by kernel_rfl) (by kernel_rfl) g78_store_ship_ent (frz_lcall mixed Tryd.func78 rfl g78_store_ship_ent g78_store_ship_CV g78_store_ship_LV (by kernel_rfl) (by kernel_rfl) g78_store_ship_hev)

noncomputable def g77_store_valid_1_C : CalT := tabC [g78_store_ship_E]
theorem g77_store_valid_1_CV : CV Tryd.prog g77_store_valid_1_C := tabC_valid (l := [g78_store_ship_E]) ⟨g78_store_ship_valid, trivial⟩
noncomputable def g77_store_valid_1 (a0 : E39) : Option Bool :=
  (Option.bind (g78_store_ship a0) fun r1 =>
  some (!r1))
noncomputable def g77_store_valid_1_E : CEnt := pureE 77 [.dat T39] (.dat .bool) fun x => g77_store_valid_1 x.1
theorem g77_store_valid_1_LV : LV 0 Tryd.prog false (loopsOf (bodyOf Tryd.f77)) [] := by unfold LV; cases loopsOf (bodyOf Tryd.f77) <;> trivial
theorem g77_store_valid_1_ent : Ent Tryd.prog 77 := ⟨by decide, enters_of Tryd.func77 (by kernel_rfl) rfl⟩
theorem g77_store_valid_1_hev : ∀ x, fnR Tryd.prog g77_store_valid_1_C [] Tryd.f77 (bodyOf Tryd.f77) (encs [.dat T39] x) ⟨[], [], 0⟩ (frzF (.dat .bool)) = g77_store_valid_1 x.1 := by
  intro x; kernel_rfl
theorem g77_store_valid_1_valid : g77_store_valid_1_E.Valid Tryd.prog :=
  pureE_valid (by kernel_rfl) (by kernel_rfl) g77_store_valid_1_ent (frz_lcall mixed Tryd.func77 rfl g77_store_valid_1_ent g77_store_valid_1_CV g77_store_valid_1_LV (by kernel_rfl) (by kernel_rfl) g77_store_valid_1_hev)

noncomputable def g89_slices_IndexFunc_C : CalT := tabC [g77_store_valid_1_E]
theorem g89_slices_IndexFunc_CV : CV Tryd.prog g89_slices_IndexFunc_C := tabC_valid (l := [g77_store_valid_1_E]) ⟨g77_store_valid_1_valid, trivial⟩
noncomputable def g89_slices_IndexFunc_l0_c : Code := loopAt (bodyOf Tryd.f89) 0
noncomputable def g89_slices_IndexFunc_l0_S : SPat := ⟨[.dat (.list T39), .fix (.func (.func 77) .nil .nil), .any, .any, .dat (.int .i64), .any, .any, .dat (.int .i64), .dat (.int .i64), .any, .any, .any, .any, .any, .any, .any, .any, .any, .any], [], 0⟩
noncomputable def g89_slices_IndexFunc_l0_step (s : (((List E39) × (Int × (Int × (Int × Unit)))) × Unit)) : Option (Nat × (((List E39) × (Int × (Int × (Int × Unit)))) × Unit)) :=
  (bif (decide (s.1.2.2.2.1 < s.1.2.2.1)) then
  (bif (decide (0 ≤ s.1.2.2.2.1) && decide (s.1.2.2.2.1 < (List.length s.1.1 : Int))) then
    (Option.bind (g77_store_valid_1 (List.getD s.1.1 (Int.toNat s.1.2.2.2.1) (0, ((List.replicate 3 0), (0, ()))))) fun r1 =>
      (bif r1 then
        some (1, ((s.1.1, (s.1.2.2.2.1, (s.1.2.2.1, (s.1.2.2.2.1, ())))), ()))
        else
        some (0, ((s.1.1, (s.1.2.1, (s.1.2.2.1, ((IntKind.wrap .i64 (s.1.2.2.2.1 + 1)), ())))), ()))))
    else
    none)
  else
  some (2, ((s.1.1, (s.1.2.1, (s.1.2.2.1, (s.1.2.2.2.1, ())))), ())))
noncomputable def g89_slices_IndexFunc_l0_fuel (s : (((List E39) × (Int × (Int × (Int × Unit)))) × Unit)) : Nat := Int.toNat (s.1.2.2.1 - s.1.2.2.2.1) + 1
noncomputable def g89_slices_IndexFunc_l0_run (s : (((List E39) × (Int × (Int × (Int × Unit)))) × Unit)) : Option (Nat × (((List E39) × (Int × (Int × (Int × Unit)))) × Unit)) := iter g89_slices_IndexFunc_l0_step (g89_slices_IndexFunc_l0_fuel s) s
noncomputable def g89_slices_IndexFunc_l0_L : LoopT := loopT g89_slices_IndexFunc_l0_S [.ret, .exit 0] g89_slices_IndexFunc_l0_run
noncomputable def g89_slices_IndexFunc (a0 : (List E39)) : Option Int :=
  (Option.bind (g89_slices_IndexFunc_l0_run ((a0, (0, ((List.length a0 : Int), (0, ())))), ())) fun q2 =>
  (natK q2.1
    (some q2.2.1.2.1)
    (fun _ => some (-1))))
noncomputable def g89_slices_IndexFunc_E : CEnt := pureE 89 [.dat (.list T39), .fix (.func (.func 77) .nil .nil)] (.dat (.int .i64)) fun x => g89_slices_IndexFunc x.1
theorem g89_slices_IndexFunc_l0_V : LValid 0 Tryd.prog (.loop g89_slices_IndexFunc_l0_c) g89_slices_IndexFunc_l0_L false := by
  have hb : ∀ s, codeR Tryd.prog g89_slices_IndexFunc_C g89_slices_IndexFunc_l0_c [] (g89_slices_IndexFunc_l0_S.encE s) (g89_slices_IndexFunc_l0_S.encB s) (kst g89_slices_IndexFunc_l0_S [.ret, .exit 0]) = g89_slices_IndexFunc_l0_step s := by
    intro s; kernel_rfl
  have hL : LV 0 Tryd.prog false (loopsOf g89_slices_IndexFunc_l0_c) [] := by unfold LV; cases loopsOf g89_slices_IndexFunc_l0_c <;> trivial
  exact loopT_valid (fuel := g89_slices_IndexFunc_l0_fuel) mixed g89_slices_IndexFunc_CV hL (by kernel_rfl) (by decide) rfl hb (fun s r h => h)
theorem g89_slices_IndexFunc_LV : LV 0 Tryd.prog false (loopsOf (bodyOf Tryd.f89)) [g89_slices_IndexFunc_l0_L] := by
  have hl : loopsOf (bodyOf Tryd.f89) = [.loop g89_slices_IndexFunc_l0_c] := by kernel_rfl
  rw [hl]; exact ⟨g89_slices_IndexFunc_l0_V, trivial⟩
theorem g89_slices_IndexFunc_ent : Ent Tryd.prog 89 := ⟨by decide, enters_of Tryd.func89 (by kernel_rfl) rfl⟩
theorem g89_slices_IndexFunc_hev : ∀ x, fnR Tryd.prog g89_slices_IndexFunc_C [g89_slices_IndexFunc_l0_L] Tryd.f89 (bodyOf Tryd.f89) (encs [.dat (.list T39), .fix (.func (.func 77) .nil .nil)] x) ⟨[], [], 0⟩ (frzF (.dat (.int .i64))) = g89_slices_IndexFunc x.1 := by
  intro x; kernel_rfl
theorem g89_slices_IndexFunc_valid : g89_slices_IndexFunc_E.Valid Tryd.prog :=
  pureE_valid (by kernel_rfl) (by kernel_rfl) g89_slices_IndexFunc_ent (frz_lcall mixed Tryd.func89 rfl g89_slices_IndexFunc_ent g89_slices_IndexFunc_CV g89_slices_IndexFunc_LV (by kernel_rfl) (by kernel_rfl) g89_slices_IndexFunc_hev)

noncomputable def g60_slices_ContainsFunc_C : CalT := tabC [g89_slices_IndexFunc_E]
theorem g60_slices_ContainsFunc_CV : CV Tryd.prog g60_slices_ContainsFunc_C := tabC_valid (l := [g89_slices_IndexFunc_E]) ⟨g89_slices_IndexFunc_valid, trivial⟩
noncomputable def g60_slices_ContainsFunc (a0 : (List E39)) : Option Bool :=
  (Option.bind (g89_slices_IndexFunc a0) fun r1 =>
  some (decide (r1 ≥ 0)))
noncomputable def g60_slices_ContainsFunc_E : CEnt := pureE 60 [.dat (.list T39), .fix (.func (.func 77) .nil .nil)] (.dat .bool) fun x => g60_slices_ContainsFunc x.1
theorem g60_slices_ContainsFunc_LV : LV 0 Tryd.prog false (loopsOf (bodyOf Tryd.f60)) [] := by unfold LV; cases loopsOf (bodyOf Tryd.f60) <;> trivial
theorem g60_slices_ContainsFunc_ent : Ent Tryd.prog 60 := ⟨by decide, enters_of Tryd.func60 (by kernel_rfl) rfl⟩
theorem g60_slices_ContainsFunc_hev : ∀ x, fnR Tryd.prog g60_slices_ContainsFunc_C [] Tryd.f60 (bodyOf Tryd.f60) (encs [.dat (.list T39), .fix (.func (.func 77) .nil .nil)] x) ⟨[], [], 0⟩ (frzF (.dat .bool)) = g60_slices_ContainsFunc x.1 := by
  intro x; kernel_rfl
theorem g60_slices_ContainsFunc_valid : g60_slices_ContainsFunc_E.Valid Tryd.prog :=
  pureE_valid (by kernel_rfl) (by kernel_rfl) g60_slices_ContainsFunc_ent (frz_lcall mixed Tryd.func60 rfl g60_slices_ContainsFunc_ent g60_slices_ContainsFunc_CV g60_slices_ContainsFunc_LV (by kernel_rfl) (by kernel_rfl) g60_slices_ContainsFunc_hev)

noncomputable def g80_store_valid_2_C : CalT := tabC []
theorem g80_store_valid_2_CV : CV Tryd.prog g80_store_valid_2_C := tabC_valid (l := []) trivial
noncomputable def g80_store_valid_2 (a0 : (List Bool)) (b1 : E27) : Option (Bool × (E27 × Unit)) :=
  some (((List.length a0 : Int) != b1.2.2.2.2.1), (b1, ()))
abbrev g80_store_valid_2_CS : CSpec := ⟨[.dat (.list .bool), .fix (.bptr 0 [])], [.dat T27], 0, [.dat T27], 0, .dat .bool⟩
noncomputable def g80_store_valid_2_E : CEnt := boxE 80 g80_store_valid_2_CS fun x => g80_store_valid_2 x.1.1 x.2.1
theorem g80_store_valid_2_LV : LV 1 Tryd.prog false (loopsOf (bodyOf Tryd.f80)) [] := by unfold LV; cases loopsOf (bodyOf Tryd.f80) <;> trivial
theorem g80_store_valid_2_ent : Ent Tryd.prog 80 := ⟨by decide, enters_of Tryd.func80 (by kernel_rfl) rfl⟩
theorem g80_store_valid_2_hev : ∀ x : g80_store_valid_2_CS.In, fnR Tryd.prog g80_store_valid_2_C [] Tryd.f80 (bodyOf Tryd.f80) (encs g80_store_valid_2_CS.A x.1) ⟨encs g80_store_valid_2_CS.I x.2, [], g80_store_valid_2_CS.nt⟩ (finK g80_store_valid_2_CS) = g80_store_valid_2 x.1.1 x.2.1 := by
  intro x; kernel_rfl
theorem g80_store_valid_2_valid : g80_store_valid_2_E.Valid Tryd.prog :=
  boxE_valid (S := g80_store_valid_2_CS) (by kernel_rfl) (.inr g80_store_valid_2_ent) (fn_lcall (S := g80_store_valid_2_CS) mixed Tryd.func80 rfl g80_store_valid_2_ent g80_store_valid_2_CV g80_store_valid_2_LV (by kernel_rfl) (by kernel_rfl) g80_store_valid_2_hev)

noncomputable def g97_slices_IndexFunc_C : CalT := tabC [g80_store_valid_2_E]
theorem g97_slices_IndexFunc_CV : CV Tryd.prog g97_slices_IndexFunc_C := tabC_valid (l := [g80_store_valid_2_E]) ⟨g80_store_valid_2_valid, trivial⟩
noncomputable def g97_slices_IndexFunc_l0_c : Code := loopAt (bodyOf Tryd.f97) 0
noncomputable def g97_slices_IndexFunc_l0_S : SPat := ⟨[.dat (.list (.list .bool)), .fix (.func (.func 80) .nil (.cons (.bptr 0 []) .nil)), .any, .any, .dat (.int .i64), .any, .any, .dat (.int .i64), .dat (.int .i64), .any, .any, .any, .any, .any, .any, .any, .any, .any, .any], [.dat T27], 0⟩
abbrev TY0 : Type := (Nat × (((List (List Bool)) × (Int × (Int × (Int × Unit)))) × (E27 × Unit)))
noncomputable def g97_slices_IndexFunc_l0_step (s : (((List (List Bool)) × (Int × (Int × (Int × Unit)))) × (E27 × Unit))) : Option TY0 :=
  (bif (decide (s.1.2.2.2.1 < s.1.2.2.1)) then
  (bif (decide (0 ≤ s.1.2.2.2.1) && decide (s.1.2.2.2.1 < (List.length s.1.1 : Int))) then
    (Option.bind (g80_store_valid_2 (List.getD s.1.1 (Int.toNat s.1.2.2.2.1) []) s.2.1) fun r1 =>
      (bif r1.1 then
        some (1, ((s.1.1, (s.1.2.2.2.1, (s.1.2.2.1, (s.1.2.2.2.1, ())))), (r1.2.1, ())))
        else
        some (0, ((s.1.1, (s.1.2.1, (s.1.2.2.1, ((IntKind.wrap .i64 (s.1.2.2.2.1 + 1)), ())))), (r1.2.1, ())))))
    else
    none)
  else
  some (2, ((s.1.1, (s.1.2.1, (s.1.2.2.1, (s.1.2.2.2.1, ())))), (s.2.1, ()))))
noncomputable def g97_slices_IndexFunc_l0_fuel (s : (((List (List Bool)) × (Int × (Int × (Int × Unit)))) × (E27 × Unit))) : Nat := Int.toNat (s.1.2.2.1 - s.1.2.2.2.1) + 1
noncomputable def g97_slices_IndexFunc_l0_run (s : (((List (List Bool)) × (Int × (Int × (Int × Unit)))) × (E27 × Unit))) : Option TY0 := iter g97_slices_IndexFunc_l0_step (g97_slices_IndexFunc_l0_fuel s) s
noncomputable def g97_slices_IndexFunc_l0_L : LoopT := loopT g97_slices_IndexFunc_l0_S [.ret, .exit 0] g97_slices_IndexFunc_l0_run
noncomputable def g97_slices_IndexFunc (a0 : (List (List Bool))) (b1 : E27) : Option (Int × (E27 × Unit)) :=
  (Option.bind (g97_slices_IndexFunc_l0_run ((a0, (0, ((List.length a0 : Int), (0, ())))), (b1, ()))) fun q2 =>
  (natK q2.1
    (some (q2.2.1.2.1, (q2.2.2.1, ())))
    (fun _ => some ((-1), (q2.2.2.1, ())))))
abbrev g97_slices_IndexFunc_CS : CSpec := ⟨[.dat (.list (.list .bool)), .fix (.func (.func 80) .nil (.cons (.bptr 0 []) .nil))], [.dat T27], 0, [.dat T27], 0, .dat (.int .i64)⟩
noncomputable def g97_slices_IndexFunc_E : CEnt := boxE 97 g97_slices_IndexFunc_CS fun x => g97_slices_IndexFunc x.1.1 x.2.1
theorem g97_slices_IndexFunc_l0_V : LValid 1 Tryd.prog (.loop g97_slices_IndexFunc_l0_c) g97_slices_IndexFunc_l0_L false := by
  have hb : ∀ s, codeR Tryd.prog g97_slices_IndexFunc_C g97_slices_IndexFunc_l0_c [] (g97_slices_IndexFunc_l0_S.encE s) (g97_slices_IndexFunc_l0_S.encB s) (kst g97_slices_IndexFunc_l0_S [.ret, .exit 0]) = g97_slices_IndexFunc_l0_step s := by
    intro s; kernel_rfl
  have hL : LV 1 Tryd.prog false (loopsOf g97_slices_IndexFunc_l0_c) [] := by unfold LV; cases loopsOf g97_slices_IndexFunc_l0_c <;> trivial
  exact loopT_valid (fuel := g97_slices_IndexFunc_l0_fuel) mixed g97_slices_IndexFunc_CV hL (by kernel_rfl) (by decide) rfl hb (fun s r h => h)
theorem g97_slices_IndexFunc_LV : LV 1 Tryd.prog false (loopsOf (bodyOf Tryd.f97)) [g97_slices_IndexFunc_l0_L] := by
  have hl : loopsOf (bodyOf Tryd.f97) = [.loop g97_slices_IndexFunc_l0_c] := by kernel_rfl
  rw [hl]; exact ⟨g97_slices_IndexFunc_l0_V, trivial⟩
theorem g97_slices_IndexFunc_ent : Ent Tryd.prog 97 := ⟨by decide, enters_of Tryd.func97 (by kernel_rfl) rfl⟩
theorem g97_slices_IndexFunc_hev : ∀ x : g97_slices_IndexFunc_CS.In, fnR Tryd.prog g97_slices_IndexFunc_C [g97_slices_IndexFunc_l0_L] Tryd.f97 (bodyOf Tryd.f97) (encs g97_slices_IndexFunc_CS.A x.1) ⟨encs g97_slices_IndexFunc_CS.I x.2, [], g97_slices_IndexFunc_CS.nt⟩ (finK g97_slices_IndexFunc_CS) = g97_slices_IndexFunc x.1.1 x.2.1 := by
  intro x; kernel_rfl
theorem g97_slices_IndexFunc_valid : g97_slices_IndexFunc_E.Valid Tryd.prog :=
  boxE_valid (S := g97_slices_IndexFunc_CS) (by kernel_rfl) (.inr g97_slices_IndexFunc_ent) (fn_lcall (S := g97_slices_IndexFunc_CS) mixed Tryd.func97 rfl g97_slices_IndexFunc_ent g97_slices_IndexFunc_CV g97_slices_IndexFunc_LV (by kernel_rfl) (by kernel_rfl) g97_slices_IndexFunc_hev)

noncomputable def g79_slices_ContainsFunc_C : CalT := tabC [g97_slices_IndexFunc_E]
theorem g79_slices_ContainsFunc_CV : CV Tryd.prog g79_slices_ContainsFunc_C := tabC_valid (l := [g97_slices_IndexFunc_E]) ⟨g97_slices_IndexFunc_valid, trivial⟩
noncomputable def g79_slices_ContainsFunc (a0 : (List (List Bool))) (b1 : E27) : Option (Bool × (E27 × Unit)) :=
  (Option.bind (g97_slices_IndexFunc a0 b1) fun r1 =>
  some ((decide (r1.1 ≥ 0)), (r1.2.1, ())))
abbrev g79_slices_ContainsFunc_CS : CSpec := ⟨[.dat (.list (.list .bool)), .fix (.func (.func 80) .nil (.cons (.bptr 0 []) .nil))], [.dat T27], 0, [.dat T27], 0, .dat .bool⟩
noncomputable def g79_slices_ContainsFunc_E : CEnt := boxE 79 g79_slices_ContainsFunc_CS fun x => g79_slices_ContainsFunc x.1.1 x.2.1
theorem g79_slices_ContainsFunc_LV : LV 1 Tryd.prog false (loopsOf (bodyOf Tryd.f79)) [] := by unfold LV; cases loopsOf (bodyOf Tryd.f79) <;> trivial
theorem g79_slices_ContainsFunc_ent : Ent Tryd.prog 79 := ⟨by decide, enters_of Tryd.func79 (by kernel_rfl) rfl⟩
theorem g79_slices_ContainsFunc_hev : ∀ x : g79_slices_ContainsFunc_CS.In, fnR Tryd.prog g79_slices_ContainsFunc_C [] Tryd.f79 (bodyOf Tryd.f79) (encs g79_slices_ContainsFunc_CS.A x.1) ⟨encs g79_slices_ContainsFunc_CS.I x.2, [], g79_slices_ContainsFunc_CS.nt⟩ (finK g79_slices_ContainsFunc_CS) = g79_slices_ContainsFunc x.1.1 x.2.1 := by
  intro x; kernel_rfl
theorem g79_slices_ContainsFunc_valid : g79_slices_ContainsFunc_E.Valid Tryd.prog :=
  boxE_valid (S := g79_slices_ContainsFunc_CS) (by kernel_rfl) (.inr g79_slices_ContainsFunc_ent) (fn_lcall (S := g79_slices_ContainsFunc_CS) mixed Tryd.func79 rfl g79_slices_ContainsFunc_ent g79_slices_ContainsFunc_CV g79_slices_ContainsFunc_LV (by kernel_rfl) (by kernel_rfl) g79_slices_ContainsFunc_hev)

noncomputable def g84_store_valid_3_1_C : CalT := tabC [g76_store_amount_E]
theorem g84_store_valid_3_1_CV : CV Tryd.prog g84_store_valid_3_1_C := tabC_valid (l := [g76_store_amount_E]) ⟨g76_store_amount_valid, trivial⟩
noncomputable def g84_store_valid_3_1 (a0 : (List Int)) : Option Bool :=
  (Option.bind (g76_store_amount a0) fun r1 =>
  some (!r1))
noncomputable def g84_store_valid_3_1_E : CEnt := pureE 84 [.dat (.arr 3 (.int .i64))] (.dat .bool) fun x => g84_store_valid_3_1 x.1
theorem g84_store_valid_3_1_LV : LV 0 Tryd.prog false (loopsOf (bodyOf Tryd.f84)) [] := by unfold LV; cases loopsOf (bodyOf Tryd.f84) <;> trivial
theorem g84_store_valid_3_1_ent : Ent Tryd.prog 84 := ⟨by decide, enters_of Tryd.func84 (by kernel_rfl) rfl⟩
theorem g84_store_valid_3_1_hev : ∀ x, fnR Tryd.prog g84_store_valid_3_1_C [] Tryd.f84 (bodyOf Tryd.f84) (encs [.dat (.arr 3 (.int .i64))] x) ⟨[], [], 0⟩ (frzF (.dat .bool)) = g84_store_valid_3_1 x.1 := by
  intro x; kernel_rfl
theorem g84_store_valid_3_1_valid : g84_store_valid_3_1_E.Valid Tryd.prog :=
  pureE_valid (by kernel_rfl) (by kernel_rfl) g84_store_valid_3_1_ent (frz_lcall mixed Tryd.func84 rfl g84_store_valid_3_1_ent g84_store_valid_3_1_CV g84_store_valid_3_1_LV (by kernel_rfl) (by kernel_rfl) g84_store_valid_3_1_hev)

noncomputable def g99_slices_IndexFunc_C : CalT := tabC [g84_store_valid_3_1_E]
theorem g99_slices_IndexFunc_CV : CV Tryd.prog g99_slices_IndexFunc_C := tabC_valid (l := [g84_store_valid_3_1_E]) ⟨g84_store_valid_3_1_valid, trivial⟩
noncomputable def g99_slices_IndexFunc_l0_c : Code := loopAt (bodyOf Tryd.f99) 0
noncomputable def g99_slices_IndexFunc_l0_S : SPat := ⟨[.dat (.list (.arr 3 (.int .i64))), .fix (.func (.func 84) .nil .nil), .any, .any, .dat (.int .i64), .any, .any, .dat (.int .i64), .dat (.int .i64), .any, .any, .any, .any, .any, .any, .any, .any, .any, .any], [], 0⟩
noncomputable def g99_slices_IndexFunc_l0_step (s : (((List (List Int)) × (Int × (Int × (Int × Unit)))) × Unit)) : Option (Nat × (((List (List Int)) × (Int × (Int × (Int × Unit)))) × Unit)) :=
  (bif (decide (s.1.2.2.2.1 < s.1.2.2.1)) then
  (bif (decide (0 ≤ s.1.2.2.2.1) && decide (s.1.2.2.2.1 < (List.length s.1.1 : Int))) then
    (Option.bind (g84_store_valid_3_1 (List.getD s.1.1 (Int.toNat s.1.2.2.2.1) (List.replicate 3 0))) fun r1 =>
      (bif r1 then
        some (1, ((s.1.1, (s.1.2.2.2.1, (s.1.2.2.1, (s.1.2.2.2.1, ())))), ()))
        else
        some (0, ((s.1.1, (s.1.2.1, (s.1.2.2.1, ((IntKind.wrap .i64 (s.1.2.2.2.1 + 1)), ())))), ()))))
    else
    none)
  else
  some (2, ((s.1.1, (s.1.2.1, (s.1.2.2.1, (s.1.2.2.2.1, ())))), ())))
noncomputable def g99_slices_IndexFunc_l0_fuel (s : (((List (List Int)) × (Int × (Int × (Int × Unit)))) × Unit)) : Nat := Int.toNat (s.1.2.2.1 - s.1.2.2.2.1) + 1
noncomputable def g99_slices_IndexFunc_l0_run (s : (((List (List Int)) × (Int × (Int × (Int × Unit)))) × Unit)) : Option (Nat × (((List (List Int)) × (Int × (Int × (Int × Unit)))) × Unit)) := iter g99_slices_IndexFunc_l0_step (g99_slices_IndexFunc_l0_fuel s) s
noncomputable def g99_slices_IndexFunc_l0_L : LoopT := loopT g99_slices_IndexFunc_l0_S [.ret, .exit 0] g99_slices_IndexFunc_l0_run
noncomputable def g99_slices_IndexFunc (a0 : (List (List Int))) : Option Int :=
  (Option.bind (g99_slices_IndexFunc_l0_run ((a0, (0, ((List.length a0 : Int), (0, ())))), ())) fun q2 =>
  (natK q2.1
    (some q2.2.1.2.1)
    (fun _ => some (-1))))
noncomputable def g99_slices_IndexFunc_E : CEnt := pureE 99 [.dat (.list (.arr 3 (.int .i64))), .fix (.func (.func 84) .nil .nil)] (.dat (.int .i64)) fun x => g99_slices_IndexFunc x.1
theorem g99_slices_IndexFunc_l0_V : LValid 0 Tryd.prog (.loop g99_slices_IndexFunc_l0_c) g99_slices_IndexFunc_l0_L false := by
  have hb : ∀ s, codeR Tryd.prog g99_slices_IndexFunc_C g99_slices_IndexFunc_l0_c [] (g99_slices_IndexFunc_l0_S.encE s) (g99_slices_IndexFunc_l0_S.encB s) (kst g99_slices_IndexFunc_l0_S [.ret, .exit 0]) = g99_slices_IndexFunc_l0_step s := by
    intro s; kernel_rfl
  have hL : LV 0 Tryd.prog false (loopsOf g99_slices_IndexFunc_l0_c) [] := by unfold LV; cases loopsOf g99_slices_IndexFunc_l0_c <;> trivial
  exact loopT_valid (fuel := g99_slices_IndexFunc_l0_fuel) mixed g99_slices_IndexFunc_CV hL (by kernel_rfl) (by decide) rfl hb (fun s r h => h)
theorem g99_slices_IndexFunc_LV : LV 0 Tryd.prog false (loopsOf (bodyOf Tryd.f99)) [g99_slices_IndexFunc_l0_L] := by
  have hl : loopsOf (bodyOf Tryd.f99) = [.loop g99_slices_IndexFunc_l0_c] := by kernel_rfl
  rw [hl]; exact ⟨g99_slices_IndexFunc_l0_V, trivial⟩
theorem g99_slices_IndexFunc_ent : Ent Tryd.prog 99 := ⟨by decide, enters_of Tryd.func99 (by kernel_rfl) rfl⟩
theorem g99_slices_IndexFunc_hev : ∀ x, fnR Tryd.prog g99_slices_IndexFunc_C [g99_slices_IndexFunc_l0_L] Tryd.f99 (bodyOf Tryd.f99) (encs [.dat (.list (.arr 3 (.int .i64))), .fix (.func (.func 84) .nil .nil)] x) ⟨[], [], 0⟩ (frzF (.dat (.int .i64))) = g99_slices_IndexFunc x.1 := by
  intro x; kernel_rfl
theorem g99_slices_IndexFunc_valid : g99_slices_IndexFunc_E.Valid Tryd.prog :=
  pureE_valid (by kernel_rfl) (by kernel_rfl) g99_slices_IndexFunc_ent (frz_lcall mixed Tryd.func99 rfl g99_slices_IndexFunc_ent g99_slices_IndexFunc_CV g99_slices_IndexFunc_LV (by kernel_rfl) (by kernel_rfl) g99_slices_IndexFunc_hev)

noncomputable def g83_slices_ContainsFunc_C : CalT := tabC [g99_slices_IndexFunc_E]
theorem g83_slices_ContainsFunc_CV : CV Tryd.prog g83_slices_ContainsFunc_C := tabC_valid (l := [g99_slices_IndexFunc_E]) ⟨g99_slices_IndexFunc_valid, trivial⟩
noncomputable def g83_slices_ContainsFunc (a0 : (List (List Int))) : Option Bool :=
  (Option.bind (g99_slices_IndexFunc a0) fun r1 =>
  some (decide (r1 ≥ 0)))
noncomputable def g83_slices_ContainsFunc_E : CEnt := pureE 83 [.dat (.list (.arr 3 (.int .i64))), .fix (.func (.func 84) .nil .nil)] (.dat .bool) fun x => g83_slices_ContainsFunc x.1
theorem g83_slices_ContainsFunc_LV : LV 0 Tryd.prog false (loopsOf (bodyOf Tryd.f83)) [] := by unfold LV; cases loopsOf (bodyOf Tryd.f83) <;> trivial
theorem g83_slices_ContainsFunc_ent : Ent Tryd.prog 83 := ⟨by decide, enters_of Tryd.func83 (by kernel_rfl) rfl⟩
theorem g83_slices_ContainsFunc_hev : ∀ x, fnR Tryd.prog g83_slices_ContainsFunc_C [] Tryd.f83 (bodyOf Tryd.f83) (encs [.dat (.list (.arr 3 (.int .i64))), .fix (.func (.func 84) .nil .nil)] x) ⟨[], [], 0⟩ (frzF (.dat .bool)) = g83_slices_ContainsFunc x.1 := by
  intro x; kernel_rfl
theorem g83_slices_ContainsFunc_valid : g83_slices_ContainsFunc_E.Valid Tryd.prog :=
  pureE_valid (by kernel_rfl) (by kernel_rfl) g83_slices_ContainsFunc_ent (frz_lcall mixed Tryd.func83 rfl g83_slices_ContainsFunc_ent g83_slices_ContainsFunc_CV g83_slices_ContainsFunc_LV (by kernel_rfl) (by kernel_rfl) g83_slices_ContainsFunc_hev)

noncomputable def g82_store_valid_3_C : CalT := tabC [g83_slices_ContainsFunc_E]
theorem g82_store_valid_3_CV : CV Tryd.prog g82_store_valid_3_C := tabC_valid (l := [g83_slices_ContainsFunc_E]) ⟨g83_slices_ContainsFunc_valid, trivial⟩
noncomputable def g82_store_valid_3 (a0 : (List (List Int))) (b1 : E27) : Option (Bool × (E27 × Unit)) :=
  (bif ((List.length a0 : Int) != b1.2.2.2.1) then
  some (true, (b1, ()))
  else
  (Option.bind (g83_slices_ContainsFunc a0) fun r1 =>
    some (r1, (b1, ()))))
abbrev g82_store_valid_3_CS : CSpec := ⟨[.dat (.list (.arr 3 (.int .i64))), .fix (.bptr 0 [])], [.dat T27], 0, [.dat T27], 0, .dat .bool⟩
noncomputable def g82_store_valid_3_E : CEnt := boxE 82 g82_store_valid_3_CS fun x => g82_store_valid_3 x.1.1 x.2.1
theorem g82_store_valid_3_LV : LV 1 Tryd.prog false (loopsOf (bodyOf Tryd.f82)) [] := by unfold LV; cases loopsOf (bodyOf Tryd.f82) <;> trivial
theorem g82_store_valid_3_ent : Ent Tryd.prog 82 := ⟨by decide, enters_of Tryd.func82 (by kernel_rfl) rfl⟩
theorem g82_store_valid_3_hev : ∀ x : g82_store_valid_3_CS.In, fnR Tryd.prog g82_store_valid_3_C [] Tryd.f82 (bodyOf Tryd.f82) (encs g82_store_valid_3_CS.A x.1) ⟨encs g82_store_valid_3_CS.I x.2, [], g82_store_valid_3_CS.nt⟩ (finK g82_store_valid_3_CS) = g82_store_valid_3 x.1.1 x.2.1 := by
  intro x; kernel_rfl
theorem g82_store_valid_3_valid : g82_store_valid_3_E.Valid Tryd.prog :=
  boxE_valid (S := g82_store_valid_3_CS) (by kernel_rfl) (.inr g82_store_valid_3_ent) (fn_lcall (S := g82_store_valid_3_CS) mixed Tryd.func82 rfl g82_store_valid_3_ent g82_store_valid_3_CV g82_store_valid_3_LV (by kernel_rfl) (by kernel_rfl) g82_store_valid_3_hev)

noncomputable def g98_slices_IndexFunc_C : CalT := tabC [g82_store_valid_3_E]
theorem g98_slices_IndexFunc_CV : CV Tryd.prog g98_slices_IndexFunc_C := tabC_valid (l := [g82_store_valid_3_E]) ⟨g82_store_valid_3_valid, trivial⟩
noncomputable def g98_slices_IndexFunc_l0_c : Code := loopAt (bodyOf Tryd.f98) 0
noncomputable def g98_slices_IndexFunc_l0_S : SPat := ⟨[.dat (.list (.list (.arr 3 (.int .i64)))), .fix (.func (.func 82) .nil (.cons (.bptr 0 []) .nil)), .any, .any, .dat (.int .i64), .any, .any, .dat (.int .i64), .dat (.int .i64), .any, .any, .any, .any, .any, .any, .any, .any, .any, .any], [.dat T27], 0⟩
abbrev TY1 : Type := (((List (List (List Int))) × (Int × (Int × (Int × Unit)))) × (E27 × Unit))
abbrev TY2 : Type := (Nat × (((List (List (List Int))) × (Int × (Int × (Int × Unit)))) × (E27 × Unit)))
noncomputable def g98_slices_IndexFunc_l0_step (s : TY1) : Option TY2 :=
  (bif (decide (s.1.2.2.2.1 < s.1.2.2.1)) then
  (bif (decide (0 ≤ s.1.2.2.2.1) && decide (s.1.2.2.2.1 < (List.length s.1.1 : Int))) then
    (Option.bind (g82_store_valid_3 (List.getD s.1.1 (Int.toNat s.1.2.2.2.1) []) s.2.1) fun r1 =>
      (bif r1.1 then
        some (1, ((s.1.1, (s.1.2.2.2.1, (s.1.2.2.1, (s.1.2.2.2.1, ())))), (r1.2.1, ())))
        else
        some (0, ((s.1.1, (s.1.2.1, (s.1.2.2.1, ((IntKind.wrap .i64 (s.1.2.2.2.1 + 1)), ())))), (r1.2.1, ())))))
    else
    none)
  else
  some (2, ((s.1.1, (s.1.2.1, (s.1.2.2.1, (s.1.2.2.2.1, ())))), (s.2.1, ()))))
noncomputable def g98_slices_IndexFunc_l0_fuel (s : TY1) : Nat := Int.toNat (s.1.2.2.1 - s.1.2.2.2.1) + 1
noncomputable def g98_slices_IndexFunc_l0_run (s : TY1) : Option TY2 := iter g98_slices_IndexFunc_l0_step (g98_slices_IndexFunc_l0_fuel s) s
noncomputable def g98_slices_IndexFunc_l0_L : LoopT := loopT g98_slices_IndexFunc_l0_S [.ret, .exit 0] g98_slices_IndexFunc_l0_run
noncomputable def g98_slices_IndexFunc (a0 : (List (List (List Int)))) (b1 : E27) : Option (Int × (E27 × Unit)) :=
  (Option.bind (g98_slices_IndexFunc_l0_run ((a0, (0, ((List.length a0 : Int), (0, ())))), (b1, ()))) fun q2 =>
  (natK q2.1
    (some (q2.2.1.2.1, (q2.2.2.1, ())))
    (fun _ => some ((-1), (q2.2.2.1, ())))))
abbrev g98_slices_IndexFunc_CS : CSpec := ⟨[.dat (.list (.list (.arr 3 (.int .i64)))), .fix (.func (.func 82) .nil (.cons (.bptr 0 []) .nil))], [.dat T27], 0, [.dat T27], 0, .dat (.int .i64)⟩
noncomputable def g98_slices_IndexFunc_E : CEnt := boxE 98 g98_slices_IndexFunc_CS fun x => g98_slices_IndexFunc x.1.1 x.2.1
theorem g98_slices_IndexFunc_l0_V : LValid 1 Tryd.prog (.loop g98_slices_IndexFunc_l0_c) g98_slices_IndexFunc_l0_L false := by
  have hb : ∀ s, codeR Tryd.prog g98_slices_IndexFunc_C g98_slices_IndexFunc_l0_c [] (g98_slices_IndexFunc_l0_S.encE s) (g98_slices_IndexFunc_l0_S.encB s) (kst g98_slices_IndexFunc_l0_S [.ret, .exit 0]) = g98_slices_IndexFunc_l0_step s := by
    intro s; kernel_rfl
  have hL : LV 1 Tryd.prog false (loopsOf g98_slices_IndexFunc_l0_c) [] := by unfold LV; cases loopsOf g98_slices_IndexFunc_l0_c <;> trivial
  exact loopT_valid (fuel := g98_slices_IndexFunc_l0_fuel) mixed g98_slices_IndexFunc_CV hL (by kernel_rfl) (by decide) rfl hb (fun s r h => h)
theorem g98_slices_IndexFunc_LV : LV 1 Tryd.prog false (loopsOf (bodyOf Tryd.f98)) [g98_slices_IndexFunc_l0_L] := by
  have hl : loopsOf (bodyOf Tryd.f98) = [.loop g98_slices_IndexFunc_l0_c] := by kernel_rfl
  rw [hl]; exact ⟨g98_slices_IndexFunc_l0_V, trivial⟩
theorem g98_slices_IndexFunc_ent : Ent Tryd.prog 98 := ⟨by decide, enters_of Tryd.func98 (by kernel_rfl) rfl⟩
theorem g98_slices_IndexFunc_hev : ∀ x : g98_slices_IndexFunc_CS.In, fnR Tryd.prog g98_slices_IndexFunc_C [g98_slices_IndexFunc_l0_L] Tryd.f98 (bodyOf Tryd.f98) (encs g98_slices_IndexFunc_CS.A x.1) ⟨encs g98_slices_IndexFunc_CS.I x.2, [], g98_slices_IndexFunc_CS.nt⟩ (finK g98_slices_IndexFunc_CS) = g98_slices_IndexFunc x.1.1 x.2.1 := by
  intro x; kernel_rfl
theorem g98_slices_IndexFunc_valid : g98_slices_IndexFunc_E.Valid Tryd.prog :=
  boxE_valid (S := g98_slices_IndexFunc_CS) (by kernel_rfl) (.inr g98_slices_IndexFunc_ent) (fn_lcall (S := g98_slices_IndexFunc_CS) mixed Tryd.func98 rfl g98_slices_IndexFunc_ent g98_slices_IndexFunc_CV g98_slices_IndexFunc_LV (by kernel_rfl) (by kernel_rfl) g98_slices_IndexFunc_hev)

noncomputable def g81_slices_ContainsFunc_C : CalT := tabC [g98_slices_IndexFunc_E]
theorem g81_slices_ContainsFunc_CV : CV Tryd.prog g81_slices_ContainsFunc_C := tabC_valid (l := [g98_slices_IndexFunc_E]) ⟨g98_slices_IndexFunc_valid, trivial⟩
noncomputable def g81_slices_ContainsFunc (a0 : (List (List (List Int)))) (b1 : E27) : Option (Bool × (E27 × Unit)) :=
  (Option.bind (g98_slices_IndexFunc a0 b1) fun r1 =>
  some ((decide (r1.1 ≥ 0)), (r1.2.1, ())))
abbrev g81_slices_ContainsFunc_CS : CSpec := ⟨[.dat (.list (.list (.arr 3 (.int .i64)))), .fix (.func (.func 82) .nil (.cons (.bptr 0 []) .nil))], [.dat T27], 0, [.dat T27], 0, .dat .bool⟩
noncomputable def g81_slices_ContainsFunc_E : CEnt := boxE 81 g81_slices_ContainsFunc_CS fun x => g81_slices_ContainsFunc x.1.1 x.2.1
theorem g81_slices_ContainsFunc_LV : LV 1 Tryd.prog false (loopsOf (bodyOf Tryd.f81)) [] := by unfold LV; cases loopsOf (bodyOf Tryd.f81) <;> trivial
theorem g81_slices_ContainsFunc_ent : Ent Tryd.prog 81 := ⟨by decide, enters_of Tryd.func81 (by kernel_rfl) rfl⟩
theorem g81_slices_ContainsFunc_hev : ∀ x : g81_slices_ContainsFunc_CS.In, fnR Tryd.prog g81_slices_ContainsFunc_C [] Tryd.f81 (bodyOf Tryd.f81) (encs g81_slices_ContainsFunc_CS.A x.1) ⟨encs g81_slices_ContainsFunc_CS.I x.2, [], g81_slices_ContainsFunc_CS.nt⟩ (finK g81_slices_ContainsFunc_CS) = g81_slices_ContainsFunc x.1.1 x.2.1 := by
  intro x; kernel_rfl
theorem g81_slices_ContainsFunc_valid : g81_slices_ContainsFunc_E.Valid Tryd.prog :=
  boxE_valid (S := g81_slices_ContainsFunc_CS) (by kernel_rfl) (.inr g81_slices_ContainsFunc_ent) (fn_lcall (S := g81_slices_ContainsFunc_CS) mixed Tryd.func81 rfl g81_slices_ContainsFunc_ent g81_slices_ContainsFunc_CV g81_slices_ContainsFunc_LV (by kernel_rfl) (by kernel_rfl) g81_slices_ContainsFunc_hev)

noncomputable def g51_store_valid_C : CalT := tabC [g76_store_amount_E, g53_store_in_E, g60_slices_ContainsFunc_E, g79_slices_ContainsFunc_E, g81_slices_ContainsFunc_E]
theorem g51_store_valid_CV : CV Tryd.prog g51_store_valid_C := tabC_valid (l := [g76_store_amount_E, g53_store_in_E, g60_slices_ContainsFunc_E, g79_slices_ContainsFunc_E, g81_slices_ContainsFunc_E]) ⟨g76_store_amount_valid, g53_store_in_valid, g60_slices_ContainsFunc_valid, g79_slices_ContainsFunc_valid, g81_slices_ContainsFunc_valid, trivial⟩
noncomputable def g51_store_valid_l0_c : Code := loopAt (bodyOf Tryd.f51) 0
noncomputable def g51_store_valid_l0_S : SPat := ⟨[.any, .fix (.bptr 0 []), .dat .bool, .any, .any, .any, .any, .any, .any, .any, .any, .any, .any, .any, .any, .any, .any, .any, .any, .any, .any, .any, .any, .any, .any, .any, .any, .any, .any, .any, .any, .any, .any, .any, .any, .any, .any, .any, .any, .any, .any, .any, .any, .any, .any, .dat (.int .i64), .any, .any, .any, .any, .any, .any, .any, .any, .any, .any, .any, .any, .any, .any, .any, .any, .any, .any, .any, .any, .any, .any, .any, .any, .any, .any, .any, .any, .any, .any, .any, .any, .any, .any, .any, .any, .any, .any, .any, .any, .any, .any], [.dat T27], 0⟩
noncomputable def g51_store_valid_l0_step (s : ((Bool × (Int × Unit)) × (E27 × Unit))) : Option (Nat × ((Bool × (Int × Unit)) × (E27 × Unit))) :=
  (bif (decide (s.1.2.1 < 3)) then
  (bif (decide (0 ≤ s.1.2.1) && decide (s.1.2.1 < (3 : Int))) then
    (bif (decide (0 ≤ s.1.2.1) && decide (s.1.2.1 < (3 : Int))) then
      (bif (decide ((List.getD s.2.1.1 (Int.toNat s.1.2.1) 0) > (List.getD s.2.1.2.1 (Int.toNat s.1.2.1) 0))) then
        some (1, ((false, (s.1.2.1, ())), (s.2.1, ())))
        else
        some (0, ((s.1.1, ((IntKind.wrap .i64 (s.1.2.1 + 1)), ())), (s.2.1, ()))))
      else
      none)
    else
    none)
  else
  some (2, ((s.1.1, (s.1.2.1, ())), (s.2.1, ()))))
noncomputable def g51_store_valid_l0_fuel (s : ((Bool × (Int × Unit)) × (E27 × Unit))) : Nat := Int.toNat (3 - s.1.2.1) + 1
noncomputable def g51_store_valid_l0_run (s : ((Bool × (Int × Unit)) × (E27 × Unit))) : Option (Nat × ((Bool × (Int × Unit)) × (E27 × Unit))) := iter g51_store_valid_l0_step (g51_store_valid_l0_fuel s) s
noncomputable def g51_store_valid_l0_L : LoopT := loopT g51_store_valid_l0_S [.ret, .exit 0] g51_store_valid_l0_run
noncomputable def g51_store_valid (a0 : E27) : Option Bool :=
  (Option.bind (g76_store_amount a0.1) fun r1 =>
  (bif (!r1) then
    some false
    else
    (Option.bind (g76_store_amount a0.2.1) fun r2 =>
      (bif (!r2) then
        some false
        else
        (Option.bind (g53_store_in a0.2.2.1 0 3000) fun r3 =>
          (bif (!r3) then
            some false
            else
            (Option.bind (g53_store_in a0.2.2.2.1 1 30) fun r4 =>
              (bif (!r4) then
                some false
                else
                (Option.bind (g53_store_in a0.2.2.2.2.1 1 8) fun r5 =>
                  (bif (!r5) then
                    some false
                    else
                    (bif (decide (a0.2.2.2.2.1 > a0.2.2.2.1)) then
                      some false
                      else
                      (bif (decide ((List.length a0.2.2.2.2.2.1 : Int) > 6)) then
                        some false
                        else
                        (Option.bind (g51_store_valid_l0_run ((false, (0, ())), (a0, ()))) fun q6 =>
                          (natK q6.1
                            (some q6.2.1.1)
                            (fun _ => (Option.bind (g53_store_in (List.length q6.2.2.1.2.2.2.2.2.2.1 : Int) 1 4) fun r7 =>
                              (bif r7 then
                                (Option.bind (g53_store_in (List.length q6.2.2.1.2.2.2.2.2.2.2.1 : Int) 1 4) fun r8 =>
                                  (bif r8 then
                                    (Option.bind (g60_slices_ContainsFunc q6.2.2.1.2.2.2.2.2.1) fun r9 =>
                                      (bif (!r9) then
                                        (Option.bind (g79_slices_ContainsFunc q6.2.2.1.2.2.2.2.2.2.1 q6.2.2.1) fun r10 =>
                                          (bif (!r10.1) then
                                            (Option.bind (g81_slices_ContainsFunc r10.2.1.2.2.2.2.2.2.2.1 r10.2.1) fun r11 =>
                                              some (!r11.1))
                                            else
                                            some false))
                                        else
                                        some false))
                                    else
                                    some false))
                                else
                                some false)))))))))))))))))
noncomputable def g51_store_valid_E : CEnt := pureE 51 [.dat T27] (.dat .bool) fun x => g51_store_valid x.1
theorem g51_store_valid_l0_V : LValid 0 Tryd.prog (.loop g51_store_valid_l0_c) g51_store_valid_l0_L false := by
  have hb : ∀ s, codeR Tryd.prog g51_store_valid_C g51_store_valid_l0_c [] (g51_store_valid_l0_S.encE s) (g51_store_valid_l0_S.encB s) (kst g51_store_valid_l0_S [.ret, .exit 0]) = g51_store_valid_l0_step s := by
    intro s; kernel_rfl
  have hL : LV 0 Tryd.prog false (loopsOf g51_store_valid_l0_c) [] := by unfold LV; cases loopsOf g51_store_valid_l0_c <;> trivial
  exact loopT_valid (fuel := g51_store_valid_l0_fuel) mixed g51_store_valid_CV hL (by kernel_rfl) (by decide) rfl hb (fun s r h => h)
theorem g51_store_valid_LV : LV 0 Tryd.prog false (loopsOf (bodyOf Tryd.f51)) [g51_store_valid_l0_L] := by
  have hl : loopsOf (bodyOf Tryd.f51) = [.loop g51_store_valid_l0_c] := by kernel_rfl
  rw [hl]; exact ⟨g51_store_valid_l0_V, trivial⟩
theorem g51_store_valid_ent : Ent Tryd.prog 51 := ⟨by decide, enters_of Tryd.func51 (by kernel_rfl) rfl⟩
theorem g51_store_valid_hev : ∀ x, fnR Tryd.prog g51_store_valid_C [g51_store_valid_l0_L] Tryd.f51 (bodyOf Tryd.f51) (encs [.dat T27] x) ⟨[], [], 0⟩ (frzF (.dat .bool)) = g51_store_valid x.1 := by
  intro x; kernel_rfl
theorem g51_store_valid_valid : g51_store_valid_E.Valid Tryd.prog :=
  pureE_valid (by kernel_rfl) (by kernel_rfl) g51_store_valid_ent (frz_lcall mixed Tryd.func51 rfl g51_store_valid_ent g51_store_valid_CV g51_store_valid_LV (by kernel_rfl) (by kernel_rfl) g51_store_valid_hev)

noncomputable def g52_store_planned_C : CalT := tabC [g53_store_in_E]
theorem g52_store_planned_CV : CV Tryd.prog g52_store_planned_C := tabC_valid (l := [g53_store_in_E]) ⟨g53_store_in_valid, trivial⟩
noncomputable def g52_store_planned (a0 : E27) (a1 : Int) : Option Bool :=
  (bif (!decide ((List.length a0.2.2.2.2.2.1 : Int) < 0)) then
  (Option.bind (g53_store_in a1 0 (IntKind.wrap .i64 ((IntKind.wrap .i64 (1 * 2 ^ (min (Int.toNat (List.length a0.2.2.2.2.2.1 : Int)) (IntKind.bits .i64)))) - 1))) fun r1 =>
    some r1)
  else
  none)
noncomputable def g52_store_planned_E : CEnt := pureE 52 [.dat T27, .dat (.int .i64)] (.dat .bool) fun x => g52_store_planned x.1 x.2.1
theorem g52_store_planned_LV : LV 0 Tryd.prog false (loopsOf (bodyOf Tryd.f52)) [] := by unfold LV; cases loopsOf (bodyOf Tryd.f52) <;> trivial
theorem g52_store_planned_ent : Ent Tryd.prog 52 := ⟨by decide, enters_of Tryd.func52 (by kernel_rfl) rfl⟩
theorem g52_store_planned_hev : ∀ x, fnR Tryd.prog g52_store_planned_C [] Tryd.f52 (bodyOf Tryd.f52) (encs [.dat T27, .dat (.int .i64)] x) ⟨[], [], 0⟩ (frzF (.dat .bool)) = g52_store_planned x.1 x.2.1 := by
  intro x; kernel_rfl
theorem g52_store_planned_valid : g52_store_planned_E.Valid Tryd.prog :=
  pureE_valid (by kernel_rfl) (by kernel_rfl) g52_store_planned_ent (frz_lcall mixed Tryd.func52 rfl g52_store_planned_ent g52_store_planned_CV g52_store_planned_LV (by kernel_rfl) (by kernel_rfl) g52_store_planned_hev)

noncomputable def g57_store_ships_C : CalT := tabC []
theorem g57_store_ships_CV : CV Tryd.prog g57_store_ships_C := tabC_valid (l := []) trivial
noncomputable def g57_store_ships (a0 : Int) : Option (Unit × (Int × Unit)) :=
  some ((), (a0, ()))
abbrev g57_store_ships_CS : CSpec := ⟨[.dat (.int .i64)], [], 0, [.dat (.int .i64)], 0, .fix (.func (.func 88) .nil (.cons (.bptr 0 []) .nil))⟩
noncomputable def g57_store_ships_E : CEnt := boxE 57 g57_store_ships_CS fun x => g57_store_ships x.1.1
theorem g57_store_ships_LV : LV 0 Tryd.prog false (loopsOf (bodyOf Tryd.f57)) [] := by unfold LV; cases loopsOf (bodyOf Tryd.f57) <;> trivial
theorem g57_store_ships_ent : Ent Tryd.prog 57 := ⟨by decide, enters_of Tryd.func57 (by kernel_rfl) rfl⟩
theorem g57_store_ships_hev : ∀ x : g57_store_ships_CS.In, fnR Tryd.prog g57_store_ships_C [] Tryd.f57 (bodyOf Tryd.f57) (encs g57_store_ships_CS.A x.1) ⟨encs g57_store_ships_CS.I x.2, [], g57_store_ships_CS.nt⟩ (finK g57_store_ships_CS) = g57_store_ships x.1.1 := by
  intro x; kernel_rfl
theorem g57_store_ships_valid : g57_store_ships_E.Valid Tryd.prog :=
  boxE_valid (S := g57_store_ships_CS) (by kernel_rfl) (.inr g57_store_ships_ent) (fn_lcall (S := g57_store_ships_CS) mixed Tryd.func57 rfl g57_store_ships_ent g57_store_ships_CV g57_store_ships_LV (by kernel_rfl) (by kernel_rfl) g57_store_ships_hev)

noncomputable def g100_store_queue_put_C : CalT := tabC []
theorem g100_store_queue_put_CV : CV Tryd.prog g100_store_queue_put_C := tabC_valid (l := []) trivial
abbrev TY3 : Type := (E27 × ((List Bool) × ((List (List Int)) × (Int × (Int × ((List Int) × (Nat × (((List Int) × Unit) × (Nat × ((Nat × ((List (List Int)) × ((List (List Int)) × Unit))) × Unit))))))))))
abbrev TY4 : Type := (Unit × ((E27 × ((List Bool) × ((List (List Int)) × (Int × (Int × ((List Int) × (Nat × (((List Int) × Unit) × (Nat × ((Nat × ((List (List Int)) × ((List (List Int)) × Unit))) × Unit)))))))))) × ((List (List Int)) × ((List Bool) × ((List (List Int)) × Unit)))))
noncomputable def g100_store_queue_put (a0 : Int) (b1 : TY3) (b2 : (List (List Int))) (b3 : (List Bool)) (b4 : (List (List Int))) : Option TY4 :=
  (bif (decide (List.length b1.2.2.2.2.2.2.2.1.1 + List.length [a0] ≤ LIM)) then
  some ((), ((b1.1, (b1.2.1, (b1.2.2.1, (b1.2.2.2.1, (b1.2.2.2.2.1, (b1.2.2.2.2.2.1, (b1.2.2.2.2.2.2.1, (((b1.2.2.2.2.2.2.2.1.1 ++ [a0]), b1.2.2.2.2.2.2.2.1.2), b1.2.2.2.2.2.2.2.2)))))))), (b2, (b3, (b4, ())))))
  else
  none)
abbrev g100_store_queue_put_CS : CSpec := ⟨[.fix (.bptr 0 [.fld 7 20]), .dat (.int .i64)], [.cons (.dat T27) (.cons (.dat (.list .bool)) (.cons (.dat (.list (.arr 3 (.int .i64)))) (.cons (.dat (.int .i64)) (.cons (.dat (.int .i64)) (.cons (.dat (.arr 3 (.int .i64))) (.cons (.vec 0 1 (.arr 3 (.int .i64))) (.cons (.cons (.own 1 (.int .i64)) (.nil)) (.cons (.vec 2 2 .bool) (.cons (.cons (.vec 3 3 (.arr 3 (.int .i64))) (.cons (.own 4 (.arr 3 (.int .i64))) (.cons (.own 5 (.arr 3 (.int .i64))) (.nil)))) (.nil)))))))))), .vrow 0 (.arr 3 (.int .i64)), .vrow 2 .bool, .vrow 3 (.arr 3 (.int .i64))], 6, [.cons (.dat T27) (.cons (.dat (.list .bool)) (.cons (.dat (.list (.arr 3 (.int .i64)))) (.cons (.dat (.int .i64)) (.cons (.dat (.int .i64)) (.cons (.dat (.arr 3 (.int .i64))) (.cons (.vec 0 1 (.arr 3 (.int .i64))) (.cons (.cons (.own 1 (.int .i64)) (.nil)) (.cons (.vec 2 2 .bool) (.cons (.cons (.vec 3 3 (.arr 3 (.int .i64))) (.cons (.own 4 (.arr 3 (.int .i64))) (.cons (.own 5 (.arr 3 (.int .i64))) (.nil)))) (.nil)))))))))), .vrow 0 (.arr 3 (.int .i64)), .vrow 2 .bool, .vrow 3 (.arr 3 (.int .i64))], 6, .tup (.nil)⟩
noncomputable def g100_store_queue_put_E : CEnt := boxE 100 g100_store_queue_put_CS fun x => g100_store_queue_put x.1.1 x.2.1 x.2.2.1 x.2.2.2.1 x.2.2.2.2.1
theorem g100_store_queue_put_LV : LV 4 Tryd.prog false (loopsOf (bodyOf Tryd.f100)) [] := by unfold LV; cases loopsOf (bodyOf Tryd.f100) <;> trivial
theorem g100_store_queue_put_ent : Ent Tryd.prog 100 := ⟨by decide, enters_of Tryd.func100 (by kernel_rfl) rfl⟩
theorem g100_store_queue_put_hev : ∀ x : g100_store_queue_put_CS.In, fnR Tryd.prog g100_store_queue_put_C [] Tryd.f100 (bodyOf Tryd.f100) (encs g100_store_queue_put_CS.A x.1) ⟨encs g100_store_queue_put_CS.I x.2, [], g100_store_queue_put_CS.nt⟩ (finK g100_store_queue_put_CS) = g100_store_queue_put x.1.1 x.2.1 x.2.2.1 x.2.2.2.1 x.2.2.2.2.1 := by
  intro x; kernel_rfl
theorem g100_store_queue_put_valid : g100_store_queue_put_E.Valid Tryd.prog :=
  boxE_valid (S := g100_store_queue_put_CS) (by kernel_rfl) (.inr g100_store_queue_put_ent) (fn_lcall (S := g100_store_queue_put_CS) mixed Tryd.func100 rfl g100_store_queue_put_ent g100_store_queue_put_CV g100_store_queue_put_LV (by kernel_rfl) (by kernel_rfl) g100_store_queue_put_hev)

noncomputable def g85_r0_C : CalT := tabC [g100_store_queue_put_E]
theorem g85_r0_CV : CV Tryd.prog g85_r0_C := tabC_valid (l := [g100_store_queue_put_E]) ⟨g100_store_queue_put_valid, trivial⟩
abbrev UT67 : Type := (Unit × (Unit × (Unit × (Unit × (Unit × (Unit × (Unit × (Unit × (Unit × (Unit × (Unit × (Unit × (Unit × (Unit × (Unit × (Unit × (Unit × (Unit × (Unit × (Unit × (Unit × (Unit × (Unit × (Unit × (Unit × (Unit × (Unit × (Unit × (Unit × (Unit × (Unit × (Unit × (Unit × (Unit × (Unit × (Unit × (Unit × (Unit × (Unit × (Unit × (Unit × (Unit × (Unit × (Unit × (Unit × (Unit × (Unit × (Unit × (Unit × (Unit × (Unit × (Unit × (Unit × (Unit × (Unit × (Unit × (Unit × (Unit × (Unit × (Unit × (Unit × (Unit × (Unit × (Unit × (Unit × (Unit × (Unit × Unit)))))))))))))))))))))))))))))))))))))))))))))))))))))))))))))))))))
abbrev UC67 : (Unit × (Unit × (Unit × (Unit × (Unit × (Unit × (Unit × (Unit × (Unit × (Unit × (Unit × (Unit × (Unit × (Unit × (Unit × (Unit × (Unit × (Unit × (Unit × (Unit × (Unit × (Unit × (Unit × (Unit × (Unit × (Unit × (Unit × (Unit × (Unit × (Unit × (Unit × (Unit × (Unit × (Unit × (Unit × (Unit × (Unit × (Unit × (Unit × (Unit × (Unit × (Unit × (Unit × (Unit × (Unit × (Unit × (Unit × (Unit × (Unit × (Unit × (Unit × (Unit × (Unit × (Unit × (Unit × (Unit × (Unit × (Unit × (Unit × (Unit × (Unit × (Unit × (Unit × (Unit × (Unit × (Unit × (Unit × Unit))))))))))))))))))))))))))))))))))))))))))))))))))))))))))))))))))) := ((), ((), ((), ((), ((), ((), ((), ((), ((), ((), ((), ((), ((), ((), ((), ((), ((), ((), ((), ((), ((), ((), ((), ((), ((), ((), ((), ((), ((), ((), ((), ((), ((), ((), ((), ((), ((), ((), ((), ((), ((), ((), ((), ((), ((), ((), ((), ((), ((), ((), ((), ((), ((), ((), ((), ((), ((), ((), ((), ((), ((), ((), ((), ((), ((), ((), ((), ())))))))))))))))))))))))))))))))))))))))))))))))))))))))))))))))))))
abbrev TY5 : Type := ((Nat × UT67) × ((E27 × ((List Bool) × ((List (List Int)) × (Int × (Int × ((List Int) × (Nat × (((List Int) × Unit) × (Nat × ((Nat × ((List (List Int)) × ((List (List Int)) × Unit))) × Unit)))))))))) × ((List (List Int)) × ((List Bool) × ((List (List Int)) × Unit)))))
noncomputable def g85_r0 (a0 : Int) (b1 : (Nat × UT67)) (b2 : TY3) (b3 : (List (List Int))) (b4 : (List Bool)) (b5 : (List (List Int))) : Option (Bool × TY5) :=
  (natK b1.1
  ((bif (decide (0 ≤ a0) && decide (a0 < (b2.2.2.2.2.2.2.2.2.1 : Int))) then
    (bif (decide ((Int.toNat a0) < List.length b4)) then
      (bif (!(List.getD b4 (Int.toNat a0) false)) then
        (bif (decide (0 ≤ a0) && decide (a0 < (List.length b2.1.2.2.2.2.2.1 : Int))) then
          (bif (decide ((List.getD b2.1.2.2.2.2.2.1 (Int.toNat a0) (0, ((List.replicate 3 0), (0, ())))).1 ≤ b2.2.2.2.2.1)) then
            (bif (decide (0 ≤ a0) && decide (a0 < (b2.2.2.2.2.2.2.2.2.1 : Int))) then
              (bif (decide ((Int.toNat a0) < List.length b4)) then
                (Option.bind (g100_store_queue_put a0 b2 b3 (List.set b4 (Int.toNat a0) true) b5) fun r1 =>
                  some (true, ((0, UC67), (r1.2.1, (r1.2.2.1, (r1.2.2.2.1, (r1.2.2.2.2.1, ())))))))
                else
                none)
              else
              none)
            else
            some (true, ((0, UC67), (b2, (b3, (b4, (b5, ())))))))
          else
          none)
        else
        some (true, ((0, UC67), (b2, (b3, (b4, (b5, ())))))))
      else
      none)
    else
    none))
  (fun _ => none))
abbrev AN65 : PTy := (.cons (.any) (.cons (.any) (.cons (.any) (.cons (.any) (.cons (.any) (.cons (.any) (.cons (.any) (.cons (.any) (.cons (.any) (.cons (.any) (.cons (.any) (.cons (.any) (.cons (.any) (.cons (.any) (.cons (.any) (.cons (.any) (.cons (.any) (.cons (.any) (.cons (.any) (.cons (.any) (.cons (.any) (.cons (.any) (.cons (.any) (.cons (.any) (.cons (.any) (.cons (.any) (.cons (.any) (.cons (.any) (.cons (.any) (.cons (.any) (.cons (.any) (.cons (.any) (.cons (.any) (.cons (.any) (.cons (.any) (.cons (.any) (.cons (.any) (.cons (.any) (.cons (.any) (.cons (.any) (.cons (.any) (.cons (.any) (.cons (.any) (.cons (.any) (.cons (.any) (.cons (.any) (.cons (.any) (.cons (.any) (.cons (.any) (.cons (.any) (.cons (.any) (.cons (.any) (.cons (.any) (.cons (.any) (.cons (.any) (.cons (.any) (.cons (.any) (.cons (.any) (.cons (.any) (.cons (.any) (.cons (.any) (.cons (.any) (.cons (.any) (.cons (.any) (.cons (.any) (.nil))))))))))))))))))))))))))))))))))))))))))))))))))))))))))))))))))
abbrev g85_r0_CS : CSpec := ⟨[.fix (.yref 0), .dat (.int .i64)], [.lp 85 0 (.cons (.any) (.cons (.fix (.bptr 1 [])) AN65)), .fix (.bptr 2 []), .cons (.dat T27) (.cons (.dat (.list .bool)) (.cons (.dat (.list (.arr 3 (.int .i64)))) (.cons (.dat (.int .i64)) (.cons (.dat (.int .i64)) (.cons (.dat (.arr 3 (.int .i64))) (.cons (.vec 0 3 (.arr 3 (.int .i64))) (.cons (.cons (.own 1 (.int .i64)) (.nil)) (.cons (.vec 2 4 .bool) (.cons (.cons (.vec 3 5 (.arr 3 (.int .i64))) (.cons (.own 4 (.arr 3 (.int .i64))) (.cons (.own 5 (.arr 3 (.int .i64))) (.nil)))) (.nil)))))))))), .vrow 0 (.arr 3 (.int .i64)), .vrow 2 .bool, .vrow 3 (.arr 3 (.int .i64))], 6, [.lp 85 0 (.cons (.any) (.cons (.fix (.bptr 1 [])) AN65)), .fix (.bptr 2 []), .cons (.dat T27) (.cons (.dat (.list .bool)) (.cons (.dat (.list (.arr 3 (.int .i64)))) (.cons (.dat (.int .i64)) (.cons (.dat (.int .i64)) (.cons (.dat (.arr 3 (.int .i64))) (.cons (.vec 0 3 (.arr 3 (.int .i64))) (.cons (.cons (.own 1 (.int .i64)) (.nil)) (.cons (.vec 2 4 .bool) (.cons (.cons (.vec 3 5 (.arr 3 (.int .i64))) (.cons (.own 4 (.arr 3 (.int .i64))) (.cons (.own 5 (.arr 3 (.int .i64))) (.nil)))) (.nil)))))))))), .vrow 0 (.arr 3 (.int .i64)), .vrow 2 .bool, .vrow 3 (.arr 3 (.int .i64))], 6, .dat .bool⟩
noncomputable def g85_r0_E : CEnt := boxE YLD g85_r0_CS fun x => g85_r0 x.1.1 x.2.1 x.2.2.1 x.2.2.2.1 x.2.2.2.2.1 x.2.2.2.2.2.1
theorem g85_r0_LV : LV 6 Tryd.prog true (loopsOf (rfBody (lcode 85 0))) [] := by unfold LV; cases loopsOf (rfBody (lcode 85 0)) <;> trivial
theorem g85_r0_hev : ∀ x : g85_r0_CS.In, roundR Tryd.prog g85_r0_C [] 85 0 (encs g85_r0_CS.A x.1) ⟨encs g85_r0_CS.I x.2, [], g85_r0_CS.nt⟩ (finK g85_r0_CS) = g85_r0 x.1.1 x.2.1 x.2.2.1 x.2.2.2.1 x.2.2.2.2.1 x.2.2.2.2.2.1 := by
  intro x; kernel_rfl
theorem g85_r0_valid : g85_r0_E.Valid Tryd.prog :=
  boxE_valid (S := g85_r0_CS) (by kernel_rfl) (.inl rfl) (rd_lcall' (S := g85_r0_CS) mixed g85_r0_CV (by kernel_rfl) g85_r0_LV ⟨_, rfl⟩ (by decide) (by kernel_rfl) (by kernel_rfl) g85_r0_hev)

noncomputable def g88_store_ships_1_C : CalT := tabC [g85_r0_E]
theorem g88_store_ships_1_CV : CV Tryd.prog g88_store_ships_1_C := tabC_valid (l := [g85_r0_E]) ⟨g85_r0_valid, trivial⟩
noncomputable def g88_store_ships_1_l0_c : Code := loopAt (bodyOf Tryd.f88) 0
abbrev PA6 : PTy := (.cons (.dat (.list .bool)) (.cons (.dat (.list (.arr 3 (.int .i64)))) (.cons (.dat (.int .i64)) (.cons (.dat (.int .i64)) (.cons (.dat (.arr 3 (.int .i64))) (.cons (.vec 0 4 (.arr 3 (.int .i64))) (.cons (.cons (.own 1 (.int .i64)) (.nil)) (.cons (.vec 2 5 .bool) (.cons (.cons (.vec 3 6 (.arr 3 (.int .i64))) (.cons (.own 4 (.arr 3 (.int .i64))) (.cons (.own 5 (.arr 3 (.int .i64))) (.nil)))) (.nil))))))))))
noncomputable def g88_store_ships_1_l0_S : SPat := ⟨[.fix (.yref 0), .fix (.bptr 1 []), .any, .any, .dat (.int .i64), .any, .any, .any, .any, .any, .any, .any, .any, .any, .any, .any, .any, .any, .any], [.lp 85 0 (.cons (.any) (.cons (.fix (.bptr 2 [])) AN65)), .dat (.int .i64), .fix (.bptr 3 []), .cons (.dat T27) PA6, .vrow 0 (.arr 3 (.int .i64)), .vrow 2 .bool, .vrow 3 (.arr 3 (.int .i64))], 6⟩
abbrev TY7 : Type := ((Int × Unit) × ((Nat × UT67) × (Int × ((E27 × ((List Bool) × ((List (List Int)) × (Int × (Int × ((List Int) × (Nat × (((List Int) × Unit) × (Nat × ((Nat × ((List (List Int)) × ((List (List Int)) × Unit))) × Unit)))))))))) × ((List (List Int)) × ((List Bool) × ((List (List Int)) × Unit)))))))
abbrev TY8 : Type := (Nat × ((Int × Unit) × ((Nat × UT67) × (Int × ((E27 × ((List Bool) × ((List (List Int)) × (Int × (Int × ((List Int) × (Nat × (((List Int) × Unit) × (Nat × ((Nat × ((List (List Int)) × ((List (List Int)) × Unit))) × Unit)))))))))) × ((List (List Int)) × ((List Bool) × ((List (List Int)) × Unit))))))))
noncomputable def g88_store_ships_1_l0_step (s : TY7) : Option TY8 :=
  (bif (decide (s.1.1 < 6)) then
  (bif (!decide (s.1.1 < 0)) then
    (bif ((IntKind.wrap .i64 ((BitVec.toNat ((BitVec.ofInt (IntKind.bits .i64) (Int.fdiv s.2.2.1 (2 ^ (min (Int.toNat s.1.1) (IntKind.bits .i64))))) &&& (BitVec.ofInt (IntKind.bits .i64) 1)) : Nat) : Int)) == 1) then
      (Option.bind (g85_r0 s.1.1 (s.2.1.1, UC67) s.2.2.2.1 s.2.2.2.2.1 s.2.2.2.2.2.1 s.2.2.2.2.2.2.1) fun r1 =>
        (bif (!r1.1) then
          some (1, ((s.1.1, ()), ((r1.2.1.1, UC67), (s.2.2.1, (r1.2.2.1, (r1.2.2.2.1, (r1.2.2.2.2.1, (r1.2.2.2.2.2.1, ()))))))))
          else
          some (0, (((IntKind.wrap .i64 (s.1.1 + 1)), ()), ((r1.2.1.1, UC67), (s.2.2.1, (r1.2.2.1, (r1.2.2.2.1, (r1.2.2.2.2.1, (r1.2.2.2.2.2.1, ()))))))))))
      else
      some (0, (((IntKind.wrap .i64 (s.1.1 + 1)), ()), ((s.2.1.1, UC67), (s.2.2.1, (s.2.2.2.1, (s.2.2.2.2.1, (s.2.2.2.2.2.1, (s.2.2.2.2.2.2.1, ())))))))))
    else
    none)
  else
  some (2, ((s.1.1, ()), ((s.2.1.1, UC67), (s.2.2.1, (s.2.2.2.1, (s.2.2.2.2.1, (s.2.2.2.2.2.1, (s.2.2.2.2.2.2.1, ())))))))))
noncomputable def g88_store_ships_1_l0_fuel (s : TY7) : Nat := Int.toNat (6 - s.1.1) + 1
noncomputable def g88_store_ships_1_l0_run (s : TY7) : Option TY8 := iter g88_store_ships_1_l0_step (g88_store_ships_1_l0_fuel s) s
noncomputable def g88_store_ships_1_l0_L : LoopT := loopT g88_store_ships_1_l0_S [.ret, .exit 0] g88_store_ships_1_l0_run
abbrev TY9 : Type := (Unit × ((Nat × UT67) × (Int × ((E27 × ((List Bool) × ((List (List Int)) × (Int × (Int × ((List Int) × (Nat × (((List Int) × Unit) × (Nat × ((Nat × ((List (List Int)) × ((List (List Int)) × Unit))) × Unit)))))))))) × ((List (List Int)) × ((List Bool) × ((List (List Int)) × Unit)))))))
noncomputable def g88_store_ships_1 (b0 : (Nat × UT67)) (b1 : Int) (b2 : TY3) (b3 : (List (List Int))) (b4 : (List Bool)) (b5 : (List (List Int))) : Option TY9 :=
  (Option.bind (g88_store_ships_1_l0_run ((0, ()), ((b0.1, UC67), (b1, (b2, (b3, (b4, (b5, ())))))))) fun q2 =>
  (natK q2.1
    (some ((), ((q2.2.2.1.1, UC67), (q2.2.2.2.1, (q2.2.2.2.2.1, (q2.2.2.2.2.2.1, (q2.2.2.2.2.2.2.1, (q2.2.2.2.2.2.2.2.1, ()))))))))
    (fun _ => some ((), ((q2.2.2.1.1, UC67), (q2.2.2.2.1, (q2.2.2.2.2.1, (q2.2.2.2.2.2.1, (q2.2.2.2.2.2.2.1, (q2.2.2.2.2.2.2.2.1, ()))))))))))
abbrev g88_store_ships_1_CS : CSpec := ⟨[.fix (.yref 0), .fix (.bptr 1 [])], [.lp 85 0 (.cons (.any) (.cons (.fix (.bptr 2 [])) AN65)), .dat (.int .i64), .fix (.bptr 3 []), .cons (.dat T27) (.cons (.dat (.list .bool)) (.cons (.dat (.list (.arr 3 (.int .i64)))) (.cons (.dat (.int .i64)) (.cons (.dat (.int .i64)) (.cons (.dat (.arr 3 (.int .i64))) (.cons (.vec 0 4 (.arr 3 (.int .i64))) (.cons (.cons (.own 1 (.int .i64)) (.nil)) (.cons (.vec 2 5 .bool) (.cons (.cons (.vec 3 6 (.arr 3 (.int .i64))) (.cons (.own 4 (.arr 3 (.int .i64))) (.cons (.own 5 (.arr 3 (.int .i64))) (.nil)))) (.nil)))))))))), .vrow 0 (.arr 3 (.int .i64)), .vrow 2 .bool, .vrow 3 (.arr 3 (.int .i64))], 6, [.lp 85 0 (.cons (.any) (.cons (.fix (.bptr 2 [])) AN65)), .dat (.int .i64), .fix (.bptr 3 []), .cons (.dat T27) (.cons (.dat (.list .bool)) (.cons (.dat (.list (.arr 3 (.int .i64)))) (.cons (.dat (.int .i64)) (.cons (.dat (.int .i64)) (.cons (.dat (.arr 3 (.int .i64))) (.cons (.vec 0 4 (.arr 3 (.int .i64))) (.cons (.cons (.own 1 (.int .i64)) (.nil)) (.cons (.vec 2 5 .bool) (.cons (.cons (.vec 3 6 (.arr 3 (.int .i64))) (.cons (.own 4 (.arr 3 (.int .i64))) (.cons (.own 5 (.arr 3 (.int .i64))) (.nil)))) (.nil)))))))))), .vrow 0 (.arr 3 (.int .i64)), .vrow 2 .bool, .vrow 3 (.arr 3 (.int .i64))], 6, .tup (.nil)⟩
noncomputable def g88_store_ships_1_E : CEnt := boxE 88 g88_store_ships_1_CS fun x => g88_store_ships_1 x.2.1 x.2.2.1 x.2.2.2.1 x.2.2.2.2.1 x.2.2.2.2.2.1 x.2.2.2.2.2.2.1
theorem g88_store_ships_1_l0_V : LValid 7 Tryd.prog (.loop g88_store_ships_1_l0_c) g88_store_ships_1_l0_L false := by
  have hb : ∀ s, codeR Tryd.prog g88_store_ships_1_C g88_store_ships_1_l0_c [] (g88_store_ships_1_l0_S.encE s) (g88_store_ships_1_l0_S.encB s) (kst g88_store_ships_1_l0_S [.ret, .exit 0]) = g88_store_ships_1_l0_step s := by
    intro s; kernel_rfl
  have hL : LV 7 Tryd.prog false (loopsOf g88_store_ships_1_l0_c) [] := by unfold LV; cases loopsOf g88_store_ships_1_l0_c <;> trivial
  exact loopT_valid (fuel := g88_store_ships_1_l0_fuel) mixed g88_store_ships_1_CV hL (by kernel_rfl) (by decide) rfl hb (fun s r h => h)
theorem g88_store_ships_1_LV : LV 7 Tryd.prog false (loopsOf (bodyOf Tryd.f88)) [g88_store_ships_1_l0_L] := by
  have hl : loopsOf (bodyOf Tryd.f88) = [.loop g88_store_ships_1_l0_c] := by kernel_rfl
  rw [hl]; exact ⟨g88_store_ships_1_l0_V, trivial⟩
theorem g88_store_ships_1_ent : Ent Tryd.prog 88 := ⟨by decide, enters_of Tryd.func88 (by kernel_rfl) rfl⟩
theorem g88_store_ships_1_hev : ∀ x : g88_store_ships_1_CS.In, fnR Tryd.prog g88_store_ships_1_C [g88_store_ships_1_l0_L] Tryd.f88 (bodyOf Tryd.f88) (encs g88_store_ships_1_CS.A x.1) ⟨encs g88_store_ships_1_CS.I x.2, [], g88_store_ships_1_CS.nt⟩ (finK g88_store_ships_1_CS) = g88_store_ships_1 x.2.1 x.2.2.1 x.2.2.2.1 x.2.2.2.2.1 x.2.2.2.2.2.1 x.2.2.2.2.2.2.1 := by
  intro x; kernel_rfl
theorem g88_store_ships_1_valid : g88_store_ships_1_E.Valid Tryd.prog :=
  boxE_valid (S := g88_store_ships_1_CS) (by kernel_rfl) (.inr g88_store_ships_1_ent) (fn_lcall (S := g88_store_ships_1_CS) mixed Tryd.func88 rfl g88_store_ships_1_ent g88_store_ships_1_CV g88_store_ships_1_LV (by kernel_rfl) (by kernel_rfl) g88_store_ships_1_hev)

noncomputable def g85_store_run_arrive_C : CalT := tabC [g57_store_ships_E, g88_store_ships_1_E]
theorem g85_store_run_arrive_CV : CV Tryd.prog g85_store_run_arrive_C := tabC_valid (l := [g57_store_ships_E, g88_store_ships_1_E]) ⟨g57_store_ships_valid, g88_store_ships_1_valid, trivial⟩
noncomputable def g85_store_run_arrive_f0_L : LoopT := rfT g85_store_run_arrive_C 85 0 (.tmp 30) [.normal]
noncomputable def g85_store_run_arrive (b0 : TY3) (b1 : (List (List Int))) (b2 : (List Bool)) (b3 : (List (List Int))) : Option TY4 :=
  (bif (decide (b0.2.2.2.2.1 ≥ b0.1.2.2.2.2.1)) then
  some ((), (b0, (b1, (b2, (b3, ())))))
  else
  (bif (decide (0 ≤ b0.2.2.2.2.1) && decide (b0.2.2.2.2.1 < (List.length b0.2.1 : Int))) then
    (bif (!(List.getD b0.2.1 (Int.toNat b0.2.2.2.2.1) false)) then
      some ((), (b0, (b1, (b2, (b3, ())))))
      else
      (Option.bind (g57_store_ships b0.2.2.2.1) fun r1 =>
        (Option.bind (g88_store_ships_1 (0, UC67) r1.2.1 b0 b1 b2 b3) fun r2 =>
          (bif (r2.2.1.1 == 0) then
            some ((), (r2.2.2.2.1, (r2.2.2.2.2.1, (r2.2.2.2.2.2.1, (r2.2.2.2.2.2.2.1, ())))))
            else
            none))))
    else
    none))
abbrev g85_store_run_arrive_CS : CSpec := ⟨[.fix (.bptr 0 [])], [.cons (.dat T27) (.cons (.dat (.list .bool)) (.cons (.dat (.list (.arr 3 (.int .i64)))) (.cons (.dat (.int .i64)) (.cons (.dat (.int .i64)) (.cons (.dat (.arr 3 (.int .i64))) (.cons (.vec 0 1 (.arr 3 (.int .i64))) (.cons (.cons (.own 1 (.int .i64)) (.nil)) (.cons (.vec 2 2 .bool) (.cons (.cons (.vec 3 3 (.arr 3 (.int .i64))) (.cons (.own 4 (.arr 3 (.int .i64))) (.cons (.own 5 (.arr 3 (.int .i64))) (.nil)))) (.nil)))))))))), .vrow 0 (.arr 3 (.int .i64)), .vrow 2 .bool, .vrow 3 (.arr 3 (.int .i64))], 6, [.cons (.dat T27) (.cons (.dat (.list .bool)) (.cons (.dat (.list (.arr 3 (.int .i64)))) (.cons (.dat (.int .i64)) (.cons (.dat (.int .i64)) (.cons (.dat (.arr 3 (.int .i64))) (.cons (.vec 0 1 (.arr 3 (.int .i64))) (.cons (.cons (.own 1 (.int .i64)) (.nil)) (.cons (.vec 2 2 .bool) (.cons (.cons (.vec 3 3 (.arr 3 (.int .i64))) (.cons (.own 4 (.arr 3 (.int .i64))) (.cons (.own 5 (.arr 3 (.int .i64))) (.nil)))) (.nil)))))))))), .vrow 0 (.arr 3 (.int .i64)), .vrow 2 .bool, .vrow 3 (.arr 3 (.int .i64))], 6, .tup (.nil)⟩
noncomputable def g85_store_run_arrive_E : CEnt := boxE 85 g85_store_run_arrive_CS fun x => g85_store_run_arrive x.2.1 x.2.2.1 x.2.2.2.1 x.2.2.2.2.1
theorem g85_store_run_arrive_f0_V : LValid 4 Tryd.prog (lcode 85 0) g85_store_run_arrive_f0_L := rfT_valid' g85_store_run_arrive_CV (by kernel_rfl)
theorem g85_store_run_arrive_LV : LV 4 Tryd.prog false (loopsOf (bodyOf Tryd.f85)) [g85_store_run_arrive_f0_L] := by
  have hl : loopsOf (bodyOf Tryd.f85) = [(lcode 85 0)] := by kernel_rfl
  rw [hl]; exact ⟨g85_store_run_arrive_f0_V, trivial⟩
theorem g85_store_run_arrive_ent : Ent Tryd.prog 85 := ⟨by decide, enters_of Tryd.func85 (by kernel_rfl) rfl⟩
theorem g85_store_run_arrive_hev : ∀ x : g85_store_run_arrive_CS.In, fnR Tryd.prog g85_store_run_arrive_C [g85_store_run_arrive_f0_L] Tryd.f85 (bodyOf Tryd.f85) (encs g85_store_run_arrive_CS.A x.1) ⟨encs g85_store_run_arrive_CS.I x.2, [], g85_store_run_arrive_CS.nt⟩ (finK g85_store_run_arrive_CS) = g85_store_run_arrive x.2.1 x.2.2.1 x.2.2.2.1 x.2.2.2.2.1 := by
  intro x; kernel_rfl
theorem g85_store_run_arrive_valid : g85_store_run_arrive_E.Valid Tryd.prog :=
  boxE_valid (S := g85_store_run_arrive_CS) (by kernel_rfl) (.inr g85_store_run_arrive_ent) (fn_lcall (S := g85_store_run_arrive_CS) mixed Tryd.func85 rfl g85_store_run_arrive_ent g85_store_run_arrive_CV g85_store_run_arrive_LV (by kernel_rfl) (by kernel_rfl) g85_store_run_arrive_hev)

noncomputable def g63_store_added_C : CalT := tabC []
theorem g63_store_added_CV : CV Tryd.prog g63_store_added_C := tabC_valid (l := []) trivial
noncomputable def g63_store_added_l0_c : Code := loopAt (bodyOf Tryd.f63) 0
noncomputable def g63_store_added_l1_c : Code := loopAt g63_store_added_l0_c 0
noncomputable def g63_store_added_l1_S : SPat := ⟨[.any, .any, .fix (.bptr 0 []), .fix (.bptr 1 []), .any, .fix (.bptr 2 []), .any, .dat (.list (.arr 3 (.int .i64))), .dat (.int .i64), .dat (.int .i64), .any, .any, .any, .dat (.int .i64), .any, .any, .any, .any, .any, .any, .any, .any, .any, .any, .any, .any, .any], [.dat (.arr 3 (.int .i64)), .dat (.arr 3 (.int .i64)), .dat (.arr 3 (.int .i64))], 0⟩
abbrev TY10 : Type := (((List (List Int)) × (Int × (Int × (Int × Unit)))) × ((List Int) × ((List Int) × ((List Int) × Unit))))
abbrev TY11 : Type := (Nat × (((List (List Int)) × (Int × (Int × (Int × Unit)))) × ((List Int) × ((List Int) × ((List Int) × Unit)))))
noncomputable def g63_store_added_l1_step (s : TY10) : Option TY11 :=
  (bif (decide (s.1.2.2.2.1 < 3)) then
  (bif (decide (0 ≤ s.1.2.2.2.1) && decide (s.1.2.2.2.1 < (3 : Int))) then
    (bif (decide (0 ≤ s.1.2.2.2.1) && decide (s.1.2.2.2.1 < (3 : Int))) then
      (bif (decide (0 ≤ s.1.2.2.2.1) && decide (s.1.2.2.2.1 < (3 : Int))) then
        some (0, ((s.1.1, (s.1.2.1, (s.1.2.2.1, ((IntKind.wrap .i64 (s.1.2.2.2.1 + 1)), ())))), (s.2.1, ((List.set s.2.2.1 (Int.toNat s.1.2.2.2.1) (IntKind.wrap .i64 ((List.getD s.2.2.1 (Int.toNat s.1.2.2.2.1) 0) + (List.getD s.2.2.2.1 (Int.toNat s.1.2.2.2.1) 0)))), (s.2.2.2.1, ())))))
        else
        none)
      else
      none)
    else
    none)
  else
  some (1, ((s.1.1, (s.1.2.1, (s.1.2.2.1, (s.1.2.2.2.1, ())))), (s.2.1, (s.2.2.1, (s.2.2.2.1, ()))))))
noncomputable def g63_store_added_l1_fuel (s : TY10) : Nat := Int.toNat (3 - s.1.2.2.2.1) + 1
noncomputable def g63_store_added_l1_run (s : TY10) : Option TY11 := iter g63_store_added_l1_step (g63_store_added_l1_fuel s) s
noncomputable def g63_store_added_l1_L : LoopT := loopT g63_store_added_l1_S [.exit 2] g63_store_added_l1_run
noncomputable def g63_store_added_l0_S : SPat := ⟨[.any, .any, .fix (.bptr 0 []), .fix (.bptr 1 []), .any, .any, .any, .dat (.list (.arr 3 (.int .i64))), .dat (.int .i64), .dat (.int .i64), .any, .any, .any, .any, .any, .any, .any, .any, .any, .any, .any, .any, .any, .any, .any, .any, .any], [.dat (.arr 3 (.int .i64)), .dat (.arr 3 (.int .i64))], 0⟩
abbrev TY12 : Type := (((List (List Int)) × (Int × (Int × Unit))) × ((List Int) × ((List Int) × Unit)))
abbrev TY13 : Type := (Nat × (((List (List Int)) × (Int × (Int × Unit))) × ((List Int) × ((List Int) × Unit))))
noncomputable def g63_store_added_l0_step (s : TY12) : Option TY13 :=
  (bif (decide (s.1.2.2.1 < s.1.2.1)) then
  (bif (decide (0 ≤ s.1.2.2.1) && decide (s.1.2.2.1 < (List.length s.1.1 : Int))) then
    (Option.bind (g63_store_added_l1_run ((s.1.1, (s.1.2.1, (s.1.2.2.1, (0, ())))), (s.2.1, (s.2.2.1, ((List.getD s.1.1 (Int.toNat s.1.2.2.1) (List.replicate 3 0)), ()))))) fun q1 =>
      some (0, ((q1.2.1.1, (q1.2.1.2.1, ((IntKind.wrap .i64 (q1.2.1.2.2.1 + 1)), ()))), (q1.2.2.1, (q1.2.2.2.1, ())))))
    else
    none)
  else
  some (1, ((s.1.1, (s.1.2.1, (s.1.2.2.1, ()))), (s.2.1, (s.2.2.1, ())))))
noncomputable def g63_store_added_l0_fuel (s : TY12) : Nat := Int.toNat (s.1.2.1 - s.1.2.2.1) + 1
noncomputable def g63_store_added_l0_run (s : TY12) : Option TY13 := iter g63_store_added_l0_step (g63_store_added_l0_fuel s) s
noncomputable def g63_store_added_l0_L : LoopT := loopT g63_store_added_l0_S [.exit 0] g63_store_added_l0_run
noncomputable def g63_store_added (a0 : (List (List Int))) : Option (List Int) :=
  (Option.bind (g63_store_added_l0_run ((a0, ((List.length a0 : Int), (0, ()))), ((0 :: (0 :: (0 :: []))), ((0 :: (0 :: (0 :: []))), ())))) fun q2 =>
  some q2.2.2.2.1)
noncomputable def g63_store_added_E : CEnt := pureE 63 [.dat (.list (.arr 3 (.int .i64)))] (.dat (.arr 3 (.int .i64))) fun x => g63_store_added x.1
theorem g63_store_added_l1_V : LValid 0 Tryd.prog (.loop g63_store_added_l1_c) g63_store_added_l1_L false := by
  have hb : ∀ s, codeR Tryd.prog g63_store_added_C g63_store_added_l1_c [] (g63_store_added_l1_S.encE s) (g63_store_added_l1_S.encB s) (kst g63_store_added_l1_S [.exit 2]) = g63_store_added_l1_step s := by
    intro s; kernel_rfl
  have hL : LV 0 Tryd.prog false (loopsOf g63_store_added_l1_c) [] := by unfold LV; cases loopsOf g63_store_added_l1_c <;> trivial
  exact loopT_valid (fuel := g63_store_added_l1_fuel) mixed g63_store_added_CV hL (by kernel_rfl) (by decide) rfl hb (fun s r h => h)
theorem g63_store_added_l0_V : LValid 0 Tryd.prog (.loop g63_store_added_l0_c) g63_store_added_l0_L false := by
  have hb : ∀ s, codeR Tryd.prog g63_store_added_C g63_store_added_l0_c [g63_store_added_l1_L] (g63_store_added_l0_S.encE s) (g63_store_added_l0_S.encB s) (kst g63_store_added_l0_S [.exit 0]) = g63_store_added_l0_step s := by
    intro s; kernel_rfl
  have hl : loopsOf g63_store_added_l0_c = [.loop g63_store_added_l1_c] := by kernel_rfl
  have hL : LV 0 Tryd.prog false (loopsOf g63_store_added_l0_c) [g63_store_added_l1_L] := by rw [hl]; exact ⟨g63_store_added_l1_V, trivial⟩
  exact loopT_valid (fuel := g63_store_added_l0_fuel) mixed g63_store_added_CV hL (by kernel_rfl) (by decide) rfl hb (fun s r h => h)
theorem g63_store_added_LV : LV 0 Tryd.prog false (loopsOf (bodyOf Tryd.f63)) [g63_store_added_l0_L] := by
  have hl : loopsOf (bodyOf Tryd.f63) = [.loop g63_store_added_l0_c] := by kernel_rfl
  rw [hl]; exact ⟨g63_store_added_l0_V, trivial⟩
theorem g63_store_added_ent : Ent Tryd.prog 63 := ⟨by decide, enters_of Tryd.func63 (by kernel_rfl) rfl⟩
theorem g63_store_added_hev : ∀ x, fnR Tryd.prog g63_store_added_C [g63_store_added_l0_L] Tryd.f63 (bodyOf Tryd.f63) (encs [.dat (.list (.arr 3 (.int .i64)))] x) ⟨[], [], 0⟩ (frzF (.dat (.arr 3 (.int .i64)))) = g63_store_added x.1 := by
  intro x; kernel_rfl
theorem g63_store_added_valid : g63_store_added_E.Valid Tryd.prog :=
  pureE_valid (by kernel_rfl) (by kernel_rfl) g63_store_added_ent (frz_lcall mixed Tryd.func63 rfl g63_store_added_ent g63_store_added_CV g63_store_added_LV (by kernel_rfl) (by kernel_rfl) g63_store_added_hev)

noncomputable def g86_store_run_land_C : CalT := tabC [g63_store_added_E]
theorem g86_store_run_land_CV : CV Tryd.prog g86_store_run_land_C := tabC_valid (l := [g63_store_added_E]) ⟨g63_store_added_valid, trivial⟩
noncomputable def g86_store_run_land_l0_c : Code := loopAt (bodyOf Tryd.f86) 0
noncomputable def g86_store_run_land_l1_c : Code := loopAt g86_store_run_land_l0_c 0
abbrev PA14 : PTy := (.cons (.dat (.list .bool)) (.cons (.dat (.list (.arr 3 (.int .i64)))) (.cons (.dat (.int .i64)) (.cons (.dat (.int .i64)) (.cons (.dat (.arr 3 (.int .i64))) (.cons (.vec 0 1 (.arr 3 (.int .i64))) (.cons (.cons (.own 1 (.int .i64)) (.nil)) (.cons (.vec 2 2 .bool) (.cons (.cons (.vec 3 3 (.arr 3 (.int .i64))) (.cons (.own 4 (.arr 3 (.int .i64))) (.cons (.own 5 (.arr 3 (.int .i64))) (.nil)))) (.nil))))))))))
noncomputable def g86_store_run_land_l1_S : SPat := ⟨[.fix (.bptr 0 []), .any, .dat (.int .i64), .any, .dat (.int .i64), .fix (.bptr 4 []), .any, .any, .any, .any, .any, .any, .any, .any, .any, .any, .any, .any, .any, .any, .any, .any, .any, .any, .any, .any, .any, .any, .any, .any, .any, .any, .any, .any, .any, .any, .any, .any, .any, .dat (.list (.int .i64)), .dat (.int .i64), .dat (.int .i64), .any, .any, .any, .dat (.int .i64), .any, .any, .any, .any, .any, .any, .any, .any, .any, .any, .any, .any, .any, .any, .any, .any, .any, .any, .any, .any, .any, .any, .any, .any, .any, .any, .any, .any, .any, .any, .any, .any, .any, .any, .any, .any, .any, .any, .any, .any, .any, .any, .any, .any, .any, .any, .any, .any, .any, .any, .any, .any, .any, .any, .any, .any, .any, .any, .any, .any, .any, .any, .any, .any, .any, .any, .any, .any, .any, .any, .any, .any, .any, .any, .any, .any, .any, .any, .any, .any, .any, .any], [.cons (.dat T27) PA14, .vrow 0 (.arr 3 (.int .i64)), .vrow 2 .bool, .vrow 3 (.arr 3 (.int .i64)), .dat (.arr 3 (.int .i64))], 6⟩
abbrev TY15 : Type := ((Int × (Int × ((List Int) × (Int × (Int × (Int × Unit)))))) × ((E27 × ((List Bool) × ((List (List Int)) × (Int × (Int × ((List Int) × (Nat × (((List Int) × Unit) × (Nat × ((Nat × ((List (List Int)) × ((List (List Int)) × Unit))) × Unit)))))))))) × ((List (List Int)) × ((List Bool) × ((List (List Int)) × ((List Int) × Unit))))))
abbrev TY16 : Type := (Nat × ((Int × (Int × ((List Int) × (Int × (Int × (Int × Unit)))))) × ((E27 × ((List Bool) × ((List (List Int)) × (Int × (Int × ((List Int) × (Nat × (((List Int) × Unit) × (Nat × ((Nat × ((List (List Int)) × ((List (List Int)) × Unit))) × Unit)))))))))) × ((List (List Int)) × ((List Bool) × ((List (List Int)) × ((List Int) × Unit)))))))
noncomputable def g86_store_run_land_l1_step (s : TY15) : Option TY16 :=
  (bif (decide (s.1.2.2.2.2.2.1 < 3)) then
  (bif (decide (0 ≤ s.1.2.1) && decide (s.1.2.1 < (s.2.1.2.2.2.2.2.2.1 : Int))) then
    (bif (decide (0 ≤ s.1.2.2.2.2.2.1) && decide (s.1.2.2.2.2.2.1 < (3 : Int))) then
      (bif (decide ((Int.toNat s.1.2.1) < List.length s.2.2.1)) then
        (bif (decide (0 ≤ s.1.2.2.2.2.2.1) && decide (s.1.2.2.2.2.2.1 < (3 : Int))) then
          (bif (decide (0 ≤ s.1.2.2.2.2.2.1) && decide (s.1.2.2.2.2.2.1 < (3 : Int))) then
            (bif (decide (0 ≤ s.1.2.2.2.2.2.1) && decide (s.1.2.2.2.2.2.1 < (3 : Int))) then
              (bif (decide (0 ≤ s.1.2.2.2.2.2.1) && decide (s.1.2.2.2.2.2.1 < (3 : Int))) then
                (bif (decide (0 ≤ s.1.2.1) && decide (s.1.2.1 < (s.2.1.2.2.2.2.2.2.1 : Int))) then
                  (bif (decide (0 ≤ s.1.2.2.2.2.2.1) && decide (s.1.2.2.2.2.2.1 < (3 : Int))) then
                    (bif (decide ((Int.toNat s.1.2.1) < List.length s.2.2.1)) then
                      (bif (decide (0 ≤ s.1.2.2.2.2.2.1) && decide (s.1.2.2.2.2.2.1 < (3 : Int))) then
                        (bif (decide (0 ≤ s.1.2.1) && decide (s.1.2.1 < (s.2.1.2.2.2.2.2.2.1 : Int))) then
                          (bif (decide (0 ≤ s.1.2.2.2.2.2.1) && decide (s.1.2.2.2.2.2.1 < (3 : Int))) then
                            (bif (decide ((Int.toNat s.1.2.1) < List.length s.2.2.1)) then
                              (bif (decide (0 ≤ s.1.2.2.2.2.2.1) && decide (s.1.2.2.2.2.2.1 < (3 : Int))) then
                                (bif (decide (0 ≤ s.1.2.2.2.2.2.1) && decide (s.1.2.2.2.2.2.1 < (3 : Int))) then
                                  (bif (decide (0 ≤ s.1.2.2.2.2.2.1) && decide (s.1.2.2.2.2.2.1 < (3 : Int))) then
                                    some (0, (((IntKind.wrap .i64 (s.1.1 - (List.getD (List.set s.2.2.2.2.2.1 (Int.toNat s.1.2.2.2.2.2.1) (if s.1.1 < (if (IntKind.wrap .i64 ((List.getD s.2.1.1.2.1 (Int.toNat s.1.2.2.2.2.2.1) 0) - (List.getD s.2.1.2.2.2.2.2.1 (Int.toNat s.1.2.2.2.2.2.1) 0))) < (List.getD (List.getD s.2.2.1 (Int.toNat s.1.2.1) (List.replicate 3 0)) (Int.toNat s.1.2.2.2.2.2.1) 0) then (IntKind.wrap .i64 ((List.getD s.2.1.1.2.1 (Int.toNat s.1.2.2.2.2.2.1) 0) - (List.getD s.2.1.2.2.2.2.2.1 (Int.toNat s.1.2.2.2.2.2.1) 0))) else (List.getD (List.getD s.2.2.1 (Int.toNat s.1.2.1) (List.replicate 3 0)) (Int.toNat s.1.2.2.2.2.2.1) 0)) then s.1.1 else (if (IntKind.wrap .i64 ((List.getD s.2.1.1.2.1 (Int.toNat s.1.2.2.2.2.2.1) 0) - (List.getD s.2.1.2.2.2.2.2.1 (Int.toNat s.1.2.2.2.2.2.1) 0))) < (List.getD (List.getD s.2.2.1 (Int.toNat s.1.2.1) (List.replicate 3 0)) (Int.toNat s.1.2.2.2.2.2.1) 0) then (IntKind.wrap .i64 ((List.getD s.2.1.1.2.1 (Int.toNat s.1.2.2.2.2.2.1) 0) - (List.getD s.2.1.2.2.2.2.2.1 (Int.toNat s.1.2.2.2.2.2.1) 0))) else (List.getD (List.getD s.2.2.1 (Int.toNat s.1.2.1) (List.replicate 3 0)) (Int.toNat s.1.2.2.2.2.2.1) 0)))) (Int.toNat s.1.2.2.2.2.2.1) 0))), (s.1.2.1, (s.1.2.2.1, (s.1.2.2.2.1, (s.1.2.2.2.2.1, ((IntKind.wrap .i64 (s.1.2.2.2.2.2.1 + 1)), ())))))), ((s.2.1.1, (s.2.1.2.1, (s.2.1.2.2.1, (s.2.1.2.2.2.1, (s.2.1.2.2.2.2.1, ((List.set s.2.1.2.2.2.2.2.1 (Int.toNat s.1.2.2.2.2.2.1) (IntKind.wrap .i64 ((List.getD s.2.1.2.2.2.2.2.1 (Int.toNat s.1.2.2.2.2.2.1) 0) + (List.getD (List.set s.2.2.2.2.2.1 (Int.toNat s.1.2.2.2.2.2.1) (if s.1.1 < (if (IntKind.wrap .i64 ((List.getD s.2.1.1.2.1 (Int.toNat s.1.2.2.2.2.2.1) 0) - (List.getD s.2.1.2.2.2.2.2.1 (Int.toNat s.1.2.2.2.2.2.1) 0))) < (List.getD (List.getD s.2.2.1 (Int.toNat s.1.2.1) (List.replicate 3 0)) (Int.toNat s.1.2.2.2.2.2.1) 0) then (IntKind.wrap .i64 ((List.getD s.2.1.1.2.1 (Int.toNat s.1.2.2.2.2.2.1) 0) - (List.getD s.2.1.2.2.2.2.2.1 (Int.toNat s.1.2.2.2.2.2.1) 0))) else (List.getD (List.getD s.2.2.1 (Int.toNat s.1.2.1) (List.replicate 3 0)) (Int.toNat s.1.2.2.2.2.2.1) 0)) then s.1.1 else (if (IntKind.wrap .i64 ((List.getD s.2.1.1.2.1 (Int.toNat s.1.2.2.2.2.2.1) 0) - (List.getD s.2.1.2.2.2.2.2.1 (Int.toNat s.1.2.2.2.2.2.1) 0))) < (List.getD (List.getD s.2.2.1 (Int.toNat s.1.2.1) (List.replicate 3 0)) (Int.toNat s.1.2.2.2.2.2.1) 0) then (IntKind.wrap .i64 ((List.getD s.2.1.1.2.1 (Int.toNat s.1.2.2.2.2.2.1) 0) - (List.getD s.2.1.2.2.2.2.2.1 (Int.toNat s.1.2.2.2.2.2.1) 0))) else (List.getD (List.getD s.2.2.1 (Int.toNat s.1.2.1) (List.replicate 3 0)) (Int.toNat s.1.2.2.2.2.2.1) 0)))) (Int.toNat s.1.2.2.2.2.2.1) 0)))), s.2.1.2.2.2.2.2.2)))))), ((List.set s.2.2.1 (Int.toNat s.1.2.1) (List.set (List.getD s.2.2.1 (Int.toNat s.1.2.1) (List.replicate 3 0)) (Int.toNat s.1.2.2.2.2.2.1) (IntKind.wrap .i64 ((List.getD (List.getD s.2.2.1 (Int.toNat s.1.2.1) (List.replicate 3 0)) (Int.toNat s.1.2.2.2.2.2.1) 0) - (List.getD (List.set s.2.2.2.2.2.1 (Int.toNat s.1.2.2.2.2.2.1) (if s.1.1 < (if (IntKind.wrap .i64 ((List.getD s.2.1.1.2.1 (Int.toNat s.1.2.2.2.2.2.1) 0) - (List.getD s.2.1.2.2.2.2.2.1 (Int.toNat s.1.2.2.2.2.2.1) 0))) < (List.getD (List.getD s.2.2.1 (Int.toNat s.1.2.1) (List.replicate 3 0)) (Int.toNat s.1.2.2.2.2.2.1) 0) then (IntKind.wrap .i64 ((List.getD s.2.1.1.2.1 (Int.toNat s.1.2.2.2.2.2.1) 0) - (List.getD s.2.1.2.2.2.2.2.1 (Int.toNat s.1.2.2.2.2.2.1) 0))) else (List.getD (List.getD s.2.2.1 (Int.toNat s.1.2.1) (List.replicate 3 0)) (Int.toNat s.1.2.2.2.2.2.1) 0)) then s.1.1 else (if (IntKind.wrap .i64 ((List.getD s.2.1.1.2.1 (Int.toNat s.1.2.2.2.2.2.1) 0) - (List.getD s.2.1.2.2.2.2.2.1 (Int.toNat s.1.2.2.2.2.2.1) 0))) < (List.getD (List.getD s.2.2.1 (Int.toNat s.1.2.1) (List.replicate 3 0)) (Int.toNat s.1.2.2.2.2.2.1) 0) then (IntKind.wrap .i64 ((List.getD s.2.1.1.2.1 (Int.toNat s.1.2.2.2.2.2.1) 0) - (List.getD s.2.1.2.2.2.2.2.1 (Int.toNat s.1.2.2.2.2.2.1) 0))) else (List.getD (List.getD s.2.2.1 (Int.toNat s.1.2.1) (List.replicate 3 0)) (Int.toNat s.1.2.2.2.2.2.1) 0)))) (Int.toNat s.1.2.2.2.2.2.1) 0))))), (s.2.2.2.1, (s.2.2.2.2.1, ((List.set s.2.2.2.2.2.1 (Int.toNat s.1.2.2.2.2.2.1) (if s.1.1 < (if (IntKind.wrap .i64 ((List.getD s.2.1.1.2.1 (Int.toNat s.1.2.2.2.2.2.1) 0) - (List.getD s.2.1.2.2.2.2.2.1 (Int.toNat s.1.2.2.2.2.2.1) 0))) < (List.getD (List.getD s.2.2.1 (Int.toNat s.1.2.1) (List.replicate 3 0)) (Int.toNat s.1.2.2.2.2.2.1) 0) then (IntKind.wrap .i64 ((List.getD s.2.1.1.2.1 (Int.toNat s.1.2.2.2.2.2.1) 0) - (List.getD s.2.1.2.2.2.2.2.1 (Int.toNat s.1.2.2.2.2.2.1) 0))) else (List.getD (List.getD s.2.2.1 (Int.toNat s.1.2.1) (List.replicate 3 0)) (Int.toNat s.1.2.2.2.2.2.1) 0)) then s.1.1 else (if (IntKind.wrap .i64 ((List.getD s.2.1.1.2.1 (Int.toNat s.1.2.2.2.2.2.1) 0) - (List.getD s.2.1.2.2.2.2.2.1 (Int.toNat s.1.2.2.2.2.2.1) 0))) < (List.getD (List.getD s.2.2.1 (Int.toNat s.1.2.1) (List.replicate 3 0)) (Int.toNat s.1.2.2.2.2.2.1) 0) then (IntKind.wrap .i64 ((List.getD s.2.1.1.2.1 (Int.toNat s.1.2.2.2.2.2.1) 0) - (List.getD s.2.1.2.2.2.2.2.1 (Int.toNat s.1.2.2.2.2.2.1) 0))) else (List.getD (List.getD s.2.2.1 (Int.toNat s.1.2.1) (List.replicate 3 0)) (Int.toNat s.1.2.2.2.2.2.1) 0)))), ())))))))
                                    else
                                    none)
                                  else
                                  none)
                                else
                                none)
                              else
                              none)
                            else
                            none)
                          else
                          none)
                        else
                        none)
                      else
                      none)
                    else
                    none)
                  else
                  none)
                else
                none)
              else
              none)
            else
            none)
          else
          none)
        else
        none)
      else
      none)
    else
    none)
  else
  some (1, ((s.1.1, (s.1.2.1, (s.1.2.2.1, (s.1.2.2.2.1, (s.1.2.2.2.2.1, (s.1.2.2.2.2.2.1, ())))))), (s.2.1, (s.2.2.1, (s.2.2.2.1, (s.2.2.2.2.1, (s.2.2.2.2.2.1, ()))))))))
noncomputable def g86_store_run_land_l1_fuel (s : TY15) : Nat := Int.toNat (3 - s.1.2.2.2.2.2.1) + 1
noncomputable def g86_store_run_land_l1_run (s : TY15) : Option TY16 := iter g86_store_run_land_l1_step (g86_store_run_land_l1_fuel s) s
noncomputable def g86_store_run_land_l1_L : LoopT := loopT g86_store_run_land_l1_S [.exit 2] g86_store_run_land_l1_run
noncomputable def g86_store_run_land_l0_S : SPat := ⟨[.fix (.bptr 0 []), .any, .dat (.int .i64), .any, .any, .any, .any, .any, .any, .any, .any, .any, .any, .any, .any, .any, .any, .any, .any, .any, .any, .any, .any, .any, .any, .any, .any, .any, .any, .any, .any, .any, .any, .any, .any, .any, .any, .any, .any, .dat (.list (.int .i64)), .dat (.int .i64), .dat (.int .i64), .any, .any, .any, .any, .any, .any, .any, .any, .any, .any, .any, .any, .any, .any, .any, .any, .any, .any, .any, .any, .any, .any, .any, .any, .any, .any, .any, .any, .any, .any, .any, .any, .any, .any, .any, .any, .any, .any, .any, .any, .any, .any, .any, .any, .any, .any, .any, .any, .any, .any, .any, .any, .any, .any, .any, .any, .any, .any, .any, .any, .any, .any, .any, .any, .any, .any, .any, .any, .any, .any, .any, .any, .any, .any, .any, .any, .any, .any, .any, .any, .any, .any, .any, .any, .any, .any], [.cons (.dat T27) PA14, .vrow 0 (.arr 3 (.int .i64)), .vrow 2 .bool, .vrow 3 (.arr 3 (.int .i64))], 6⟩
abbrev TY17 : Type := ((Int × ((List Int) × (Int × (Int × Unit)))) × ((E27 × ((List Bool) × ((List (List Int)) × (Int × (Int × ((List Int) × (Nat × (((List Int) × Unit) × (Nat × ((Nat × ((List (List Int)) × ((List (List Int)) × Unit))) × Unit)))))))))) × ((List (List Int)) × ((List Bool) × ((List (List Int)) × Unit)))))
abbrev TY18 : Type := (Nat × ((Int × ((List Int) × (Int × (Int × Unit)))) × ((E27 × ((List Bool) × ((List (List Int)) × (Int × (Int × ((List Int) × (Nat × (((List Int) × Unit) × (Nat × ((Nat × ((List (List Int)) × ((List (List Int)) × Unit))) × Unit)))))))))) × ((List (List Int)) × ((List Bool) × ((List (List Int)) × Unit))))))
noncomputable def g86_store_run_land_l0_step (s : TY17) : Option TY18 :=
  (bif (decide (s.1.2.2.2.1 < s.1.2.2.1)) then
  (bif (decide (0 ≤ s.1.2.2.2.1) && decide (s.1.2.2.2.1 < (List.length s.1.2.1 : Int))) then
    (Option.bind (g86_store_run_land_l1_run ((s.1.1, ((List.getD s.1.2.1 (Int.toNat s.1.2.2.2.1) 0), (s.1.2.1, (s.1.2.2.1, (s.1.2.2.2.1, (0, ())))))), (s.2.1, (s.2.2.1, (s.2.2.2.1, (s.2.2.2.2.1, ((0 :: (0 :: (0 :: []))), ()))))))) fun q1 =>
      (bif (decide (0 ≤ q1.2.1.2.1) && decide (q1.2.1.2.1 < (q1.2.2.1.2.2.2.2.2.2.2.2.2.1.1 : Int))) then
        (bif (decide ((Int.toNat q1.2.1.2.1) < List.length q1.2.2.2.2.2.1)) then
          (Option.bind (g63_store_added [(List.getD q1.2.2.2.2.2.1 (Int.toNat q1.2.1.2.1) (List.replicate 3 0)), q1.2.2.2.2.2.2.1]) fun r2 =>
            (bif (decide (0 ≤ q1.2.1.2.1) && decide (q1.2.1.2.1 < (q1.2.2.1.2.2.2.2.2.2.2.2.2.1.1 : Int))) then
              (bif (decide ((Int.toNat q1.2.1.2.1) < List.length q1.2.2.2.2.2.1)) then
                some (0, ((q1.2.1.1, (q1.2.1.2.2.1, (q1.2.1.2.2.2.1, ((IntKind.wrap .i64 (q1.2.1.2.2.2.2.1 + 1)), ())))), (q1.2.2.1, (q1.2.2.2.1, (q1.2.2.2.2.1, ((List.set q1.2.2.2.2.2.1 (Int.toNat q1.2.1.2.1) r2), ()))))))
                else
                none)
              else
              none))
          else
          none)
        else
        none))
    else
    none)
  else
  some (1, ((s.1.1, (s.1.2.1, (s.1.2.2.1, (s.1.2.2.2.1, ())))), (s.2.1, (s.2.2.1, (s.2.2.2.1, (s.2.2.2.2.1, ())))))))
noncomputable def g86_store_run_land_l0_fuel (s : TY17) : Nat := Int.toNat (s.1.2.2.1 - s.1.2.2.2.1) + 1
noncomputable def g86_store_run_land_l0_run (s : TY17) : Option TY18 := iter g86_store_run_land_l0_step (g86_store_run_land_l0_fuel s) s
noncomputable def g86_store_run_land_l0_L : LoopT := loopT g86_store_run_land_l0_S [.exit 0] g86_store_run_land_l0_run
noncomputable def g86_store_run_land (b0 : TY3) (b1 : (List (List Int))) (b2 : (List Bool)) (b3 : (List (List Int))) : Option TY4 :=
  (bif (decide (b0.2.2.2.2.1 ≥ b0.1.2.2.2.2.1)) then
  some ((), (b0, (b1, (b2, (b3, ())))))
  else
  (bif (decide (0 ≤ b0.2.2.2.2.1) && decide (b0.2.2.2.2.1 < (List.length b0.2.1 : Int))) then
    (bif (!(List.getD b0.2.1 (Int.toNat b0.2.2.2.2.1) false)) then
      some ((), (b0, (b1, (b2, (b3, ())))))
      else
      (Option.bind (g86_store_run_land_l0_run ((b0.1.2.2.1, (b0.2.2.2.2.2.2.2.1.1, ((List.length b0.2.2.2.2.2.2.2.1.1 : Int), (0, ())))), (b0, (b1, (b2, (b3, ())))))) fun q3 =>
        some ((), (q3.2.2.1, (q3.2.2.2.1, (q3.2.2.2.2.1, (q3.2.2.2.2.2.1, ())))))))
    else
    none))
abbrev g86_store_run_land_CS : CSpec := ⟨[.fix (.bptr 0 [])], [.cons (.dat T27) (.cons (.dat (.list .bool)) (.cons (.dat (.list (.arr 3 (.int .i64)))) (.cons (.dat (.int .i64)) (.cons (.dat (.int .i64)) (.cons (.dat (.arr 3 (.int .i64))) (.cons (.vec 0 1 (.arr 3 (.int .i64))) (.cons (.cons (.own 1 (.int .i64)) (.nil)) (.cons (.vec 2 2 .bool) (.cons (.cons (.vec 3 3 (.arr 3 (.int .i64))) (.cons (.own 4 (.arr 3 (.int .i64))) (.cons (.own 5 (.arr 3 (.int .i64))) (.nil)))) (.nil)))))))))), .vrow 0 (.arr 3 (.int .i64)), .vrow 2 .bool, .vrow 3 (.arr 3 (.int .i64))], 6, [.cons (.dat T27) (.cons (.dat (.list .bool)) (.cons (.dat (.list (.arr 3 (.int .i64)))) (.cons (.dat (.int .i64)) (.cons (.dat (.int .i64)) (.cons (.dat (.arr 3 (.int .i64))) (.cons (.vec 0 1 (.arr 3 (.int .i64))) (.cons (.cons (.own 1 (.int .i64)) (.nil)) (.cons (.vec 2 2 .bool) (.cons (.cons (.vec 3 3 (.arr 3 (.int .i64))) (.cons (.own 4 (.arr 3 (.int .i64))) (.cons (.own 5 (.arr 3 (.int .i64))) (.nil)))) (.nil)))))))))), .vrow 0 (.arr 3 (.int .i64)), .vrow 2 .bool, .vrow 3 (.arr 3 (.int .i64))], 6, .tup (.nil)⟩
noncomputable def g86_store_run_land_E : CEnt := boxE 86 g86_store_run_land_CS fun x => g86_store_run_land x.2.1 x.2.2.1 x.2.2.2.1 x.2.2.2.2.1
theorem g86_store_run_land_l1_V : LValid 4 Tryd.prog (.loop g86_store_run_land_l1_c) g86_store_run_land_l1_L false := by
  have hb : ∀ s, codeR Tryd.prog g86_store_run_land_C g86_store_run_land_l1_c [] (g86_store_run_land_l1_S.encE s) (g86_store_run_land_l1_S.encB s) (kst g86_store_run_land_l1_S [.exit 2]) = g86_store_run_land_l1_step s := by
    intro s; kernel_rfl
  have hL : LV 4 Tryd.prog false (loopsOf g86_store_run_land_l1_c) [] := by unfold LV; cases loopsOf g86_store_run_land_l1_c <;> trivial
  exact loopT_valid (fuel := g86_store_run_land_l1_fuel) mixed g86_store_run_land_CV hL (by kernel_rfl) (by decide) rfl hb (fun s r h => h)
theorem g86_store_run_land_l0_V : LValid 4 Tryd.prog (.loop g86_store_run_land_l0_c) g86_store_run_land_l0_L false := by
  have hb : ∀ s, codeR Tryd.prog g86_store_run_land_C g86_store_run_land_l0_c [g86_store_run_land_l1_L] (g86_store_run_land_l0_S.encE s) (g86_store_run_land_l0_S.encB s) (kst g86_store_run_land_l0_S [.exit 0]) = g86_store_run_land_l0_step s := by
    intro s; kernel_rfl
  have hl : loopsOf g86_store_run_land_l0_c = [.loop g86_store_run_land_l1_c] := by kernel_rfl
  have hL : LV 4 Tryd.prog false (loopsOf g86_store_run_land_l0_c) [g86_store_run_land_l1_L] := by rw [hl]; exact ⟨g86_store_run_land_l1_V, trivial⟩
  exact loopT_valid (fuel := g86_store_run_land_l0_fuel) mixed g86_store_run_land_CV hL (by kernel_rfl) (by decide) rfl hb (fun s r h => h)
theorem g86_store_run_land_LV : LV 4 Tryd.prog false (loopsOf (bodyOf Tryd.f86)) [g86_store_run_land_l0_L] := by
  have hl : loopsOf (bodyOf Tryd.f86) = [.loop g86_store_run_land_l0_c] := by kernel_rfl
  rw [hl]; exact ⟨g86_store_run_land_l0_V, trivial⟩
theorem g86_store_run_land_ent : Ent Tryd.prog 86 := ⟨by decide, enters_of Tryd.func86 (by kernel_rfl) rfl⟩
theorem g86_store_run_land_hev : ∀ x : g86_store_run_land_CS.In, fnR Tryd.prog g86_store_run_land_C [g86_store_run_land_l0_L] Tryd.f86 (bodyOf Tryd.f86) (encs g86_store_run_land_CS.A x.1) ⟨encs g86_store_run_land_CS.I x.2, [], g86_store_run_land_CS.nt⟩ (finK g86_store_run_land_CS) = g86_store_run_land x.2.1 x.2.2.1 x.2.2.2.1 x.2.2.2.2.1 := by
  intro x; kernel_rfl
theorem g86_store_run_land_valid : g86_store_run_land_E.Valid Tryd.prog :=
  boxE_valid (S := g86_store_run_land_CS) (by kernel_rfl) (.inr g86_store_run_land_ent) (fn_lcall (S := g86_store_run_land_CS) mixed Tryd.func86 rfl g86_store_run_land_ent g86_store_run_land_CV g86_store_run_land_LV (by kernel_rfl) (by kernel_rfl) g86_store_run_land_hev)

noncomputable def g87_store_run_need_C : CalT := tabC []
theorem g87_store_run_need_CV : CV Tryd.prog g87_store_run_need_C := tabC_valid (l := []) trivial
noncomputable def g87_store_run_need_l0_c : Code := loopAt (bodyOf Tryd.f87) 0
noncomputable def g87_store_run_need_l0_S : SPat := ⟨[.fix (.bptr 0 []), .any, .fix (.bptr 4 []), .any, .any, .dat (.int .i64), .any, .any, .any, .any, .any, .any, .any, .any, .any, .any, .any, .any, .any, .any, .any, .any, .any, .any, .any, .any, .any, .any, .any, .any, .any, .any, .any, .any, .any, .any, .any, .any, .any, .any, .any, .any, .any, .any, .any, .any, .any, .any, .any, .any, .any, .any, .any, .any, .any, .any, .any, .any, .any, .any, .any, .any, .any, .any, .any, .any, .any, .any, .any, .any, .any, .any, .any], [.cons (.dat T27) PA14, .vrow 0 (.arr 3 (.int .i64)), .vrow 2 .bool, .vrow 3 (.arr 3 (.int .i64)), .dat (.arr 3 (.int .i64))], 6⟩
abbrev TY19 : Type := ((Int × Unit) × ((E27 × ((List Bool) × ((List (List Int)) × (Int × (Int × ((List Int) × (Nat × (((List Int) × Unit) × (Nat × ((Nat × ((List (List Int)) × ((List (List Int)) × Unit))) × Unit)))))))))) × ((List (List Int)) × ((List Bool) × ((List (List Int)) × ((List Int) × Unit))))))
abbrev TY20 : Type := (Nat × ((Int × Unit) × ((E27 × ((List Bool) × ((List (List Int)) × (Int × (Int × ((List Int) × (Nat × (((List Int) × Unit) × (Nat × ((Nat × ((List (List Int)) × ((List (List Int)) × Unit))) × Unit)))))))))) × ((List (List Int)) × ((List Bool) × ((List (List Int)) × ((List Int) × Unit)))))))
noncomputable def g87_store_run_need_l0_step (s : TY19) : Option TY20 :=
  (bif (decide (s.1.1 < 3)) then
  (bif (decide (0 ≤ s.2.1.2.2.2.2.1) && decide (s.2.1.2.2.2.2.1 < (List.length s.2.1.2.2.1 : Int))) then
    (bif (decide (0 ≤ s.1.1) && decide (s.1.1 < (3 : Int))) then
      (bif (decide (0 ≤ s.1.1) && decide (s.1.1 < (3 : Int))) then
        (bif (decide (0 ≤ s.1.1) && decide (s.1.1 < (3 : Int))) then
          (bif (decide (0 ≤ s.1.1) && decide (s.1.1 < (3 : Int))) then
            (bif (decide (0 ≤ s.1.1) && decide (s.1.1 < (3 : Int))) then
              some (0, (((IntKind.wrap .i64 (s.1.1 + 1)), ()), ((s.2.1.1, (s.2.1.2.1, (s.2.1.2.2.1, (s.2.1.2.2.2.1, (s.2.1.2.2.2.2.1, ((List.set s.2.1.2.2.2.2.2.1 (Int.toNat s.1.1) (if (IntKind.wrap .i64 ((List.getD s.2.1.2.2.2.2.2.1 (Int.toNat s.1.1) 0) - (List.getD (List.getD s.2.1.2.2.1 (Int.toNat s.2.1.2.2.2.2.1) (List.replicate 3 0)) (Int.toNat s.1.1) 0))) > 0 then (IntKind.wrap .i64 ((List.getD s.2.1.2.2.2.2.2.1 (Int.toNat s.1.1) 0) - (List.getD (List.getD s.2.1.2.2.1 (Int.toNat s.2.1.2.2.2.2.1) (List.replicate 3 0)) (Int.toNat s.1.1) 0))) else 0)), s.2.1.2.2.2.2.2.2)))))), (s.2.2.1, (s.2.2.2.1, (s.2.2.2.2.1, ((List.set s.2.2.2.2.2.1 (Int.toNat s.1.1) (if (IntKind.wrap .i64 ((List.getD (List.getD s.2.1.2.2.1 (Int.toNat s.2.1.2.2.2.2.1) (List.replicate 3 0)) (Int.toNat s.1.1) 0) - (List.getD s.2.1.2.2.2.2.2.1 (Int.toNat s.1.1) 0))) > 0 then (IntKind.wrap .i64 ((List.getD (List.getD s.2.1.2.2.1 (Int.toNat s.2.1.2.2.2.2.1) (List.replicate 3 0)) (Int.toNat s.1.1) 0) - (List.getD s.2.1.2.2.2.2.2.1 (Int.toNat s.1.1) 0))) else 0)), ())))))))
              else
              none)
            else
            none)
          else
          none)
        else
        none)
      else
      none)
    else
    none)
  else
  some (1, ((s.1.1, ()), (s.2.1, (s.2.2.1, (s.2.2.2.1, (s.2.2.2.2.1, (s.2.2.2.2.2.1, ()))))))))
noncomputable def g87_store_run_need_l0_fuel (s : TY19) : Nat := Int.toNat (3 - s.1.1) + 1
noncomputable def g87_store_run_need_l0_run (s : TY19) : Option TY20 := iter g87_store_run_need_l0_step (g87_store_run_need_l0_fuel s) s
noncomputable def g87_store_run_need_l0_L : LoopT := loopT g87_store_run_need_l0_S [.exit 0] g87_store_run_need_l0_run
noncomputable def g87_store_run_need (b0 : TY3) (b1 : (List (List Int))) (b2 : (List Bool)) (b3 : (List (List Int))) : Option TY4 :=
  (Option.bind (g87_store_run_need_l0_run ((0, ()), (b0, (b1, (b2, (b3, ((0 :: (0 :: (0 :: []))), ()))))))) fun q1 =>
  (bif (decide (List.length q1.2.2.1.2.2.2.2.2.2.2.2.2.1.2.2.1 + List.length [q1.2.2.2.2.2.2.1] ≤ LIM)) then
    (bif (decide (List.length q1.2.2.1.2.2.2.2.2.2.2.2.2.1.2.1 + List.length [q1.2.2.1.2.2.2.2.2.1] ≤ LIM)) then
      some ((), ((q1.2.2.1.1, (q1.2.2.1.2.1, (q1.2.2.1.2.2.1, (q1.2.2.1.2.2.2.1, (q1.2.2.1.2.2.2.2.1, (q1.2.2.1.2.2.2.2.2.1, (q1.2.2.1.2.2.2.2.2.2.1, (q1.2.2.1.2.2.2.2.2.2.2.1, (q1.2.2.1.2.2.2.2.2.2.2.2.1, ((q1.2.2.1.2.2.2.2.2.2.2.2.2.1.1, ((q1.2.2.1.2.2.2.2.2.2.2.2.2.1.2.1 ++ [q1.2.2.1.2.2.2.2.2.1]), ((q1.2.2.1.2.2.2.2.2.2.2.2.2.1.2.2.1 ++ [q1.2.2.2.2.2.2.1]), q1.2.2.1.2.2.2.2.2.2.2.2.2.1.2.2.2))), q1.2.2.1.2.2.2.2.2.2.2.2.2.2)))))))))), (q1.2.2.2.1, (q1.2.2.2.2.1, (q1.2.2.2.2.2.1, ())))))
      else
      none)
    else
    none))
abbrev g87_store_run_need_CS : CSpec := ⟨[.fix (.bptr 0 [])], [.cons (.dat T27) (.cons (.dat (.list .bool)) (.cons (.dat (.list (.arr 3 (.int .i64)))) (.cons (.dat (.int .i64)) (.cons (.dat (.int .i64)) (.cons (.dat (.arr 3 (.int .i64))) (.cons (.vec 0 1 (.arr 3 (.int .i64))) (.cons (.cons (.own 1 (.int .i64)) (.nil)) (.cons (.vec 2 2 .bool) (.cons (.cons (.vec 3 3 (.arr 3 (.int .i64))) (.cons (.own 4 (.arr 3 (.int .i64))) (.cons (.own 5 (.arr 3 (.int .i64))) (.nil)))) (.nil)))))))))), .vrow 0 (.arr 3 (.int .i64)), .vrow 2 .bool, .vrow 3 (.arr 3 (.int .i64))], 6, [.cons (.dat T27) (.cons (.dat (.list .bool)) (.cons (.dat (.list (.arr 3 (.int .i64)))) (.cons (.dat (.int .i64)) (.cons (.dat (.int .i64)) (.cons (.dat (.arr 3 (.int .i64))) (.cons (.vec 0 1 (.arr 3 (.int .i64))) (.cons (.cons (.own 1 (.int .i64)) (.nil)) (.cons (.vec 2 2 .bool) (.cons (.cons (.vec 3 3 (.arr 3 (.int .i64))) (.cons (.own 4 (.arr 3 (.int .i64))) (.cons (.own 5 (.arr 3 (.int .i64))) (.nil)))) (.nil)))))))))), .vrow 0 (.arr 3 (.int .i64)), .vrow 2 .bool, .vrow 3 (.arr 3 (.int .i64))], 6, .tup (.nil)⟩
noncomputable def g87_store_run_need_E : CEnt := boxE 87 g87_store_run_need_CS fun x => g87_store_run_need x.2.1 x.2.2.1 x.2.2.2.1 x.2.2.2.2.1
theorem g87_store_run_need_l0_V : LValid 4 Tryd.prog (.loop g87_store_run_need_l0_c) g87_store_run_need_l0_L false := by
  have hb : ∀ s, codeR Tryd.prog g87_store_run_need_C g87_store_run_need_l0_c [] (g87_store_run_need_l0_S.encE s) (g87_store_run_need_l0_S.encB s) (kst g87_store_run_need_l0_S [.exit 0]) = g87_store_run_need_l0_step s := by
    intro s; kernel_rfl
  have hL : LV 4 Tryd.prog false (loopsOf g87_store_run_need_l0_c) [] := by unfold LV; cases loopsOf g87_store_run_need_l0_c <;> trivial
  exact loopT_valid (fuel := g87_store_run_need_l0_fuel) mixed g87_store_run_need_CV hL (by kernel_rfl) (by decide) rfl hb (fun s r h => h)
theorem g87_store_run_need_LV : LV 4 Tryd.prog false (loopsOf (bodyOf Tryd.f87)) [g87_store_run_need_l0_L] := by
  have hl : loopsOf (bodyOf Tryd.f87) = [.loop g87_store_run_need_l0_c] := by kernel_rfl
  rw [hl]; exact ⟨g87_store_run_need_l0_V, trivial⟩
theorem g87_store_run_need_ent : Ent Tryd.prog 87 := ⟨by decide, enters_of Tryd.func87 (by kernel_rfl) rfl⟩
theorem g87_store_run_need_hev : ∀ x : g87_store_run_need_CS.In, fnR Tryd.prog g87_store_run_need_C [g87_store_run_need_l0_L] Tryd.f87 (bodyOf Tryd.f87) (encs g87_store_run_need_CS.A x.1) ⟨encs g87_store_run_need_CS.I x.2, [], g87_store_run_need_CS.nt⟩ (finK g87_store_run_need_CS) = g87_store_run_need x.2.1 x.2.2.1 x.2.2.2.1 x.2.2.2.2.1 := by
  intro x; kernel_rfl
theorem g87_store_run_need_valid : g87_store_run_need_E.Valid Tryd.prog :=
  boxE_valid (S := g87_store_run_need_CS) (by kernel_rfl) (.inr g87_store_run_need_ent) (fn_lcall (S := g87_store_run_need_CS) mixed Tryd.func87 rfl g87_store_run_need_ent g87_store_run_need_CV g87_store_run_need_LV (by kernel_rfl) (by kernel_rfl) g87_store_run_need_hev)

noncomputable def g100_store_queue_put_v1_C : CalT := tabC []
theorem g100_store_queue_put_v1_CV : CV Tryd.prog g100_store_queue_put_v1_C := tabC_valid (l := []) trivial
abbrev TY21 : Type := (E27 × ((List Bool) × ((List (List Int)) × (Int × (Int × ((List Int) × ((List (List Int)) × (((List Int) × Unit) × (Nat × (((List (List Int)) × ((List (List Int)) × ((List (List Int)) × Unit))) × Unit))))))))))
abbrev TY22 : Type := (Unit × ((E27 × ((List Bool) × ((List (List Int)) × (Int × (Int × ((List Int) × ((List (List Int)) × (((List Int) × Unit) × (Nat × (((List (List Int)) × ((List (List Int)) × ((List (List Int)) × Unit))) × Unit)))))))))) × ((List Bool) × Unit)))
noncomputable def g100_store_queue_put_v1 (a0 : Int) (b1 : TY21) (b2 : (List Bool)) : Option TY22 :=
  (bif (decide (List.length b1.2.2.2.2.2.2.2.1.1 + List.length [a0] ≤ LIM)) then
  some ((), ((b1.1, (b1.2.1, (b1.2.2.1, (b1.2.2.2.1, (b1.2.2.2.2.1, (b1.2.2.2.2.2.1, (b1.2.2.2.2.2.2.1, (((b1.2.2.2.2.2.2.2.1.1 ++ [a0]), b1.2.2.2.2.2.2.2.1.2), b1.2.2.2.2.2.2.2.2)))))))), (b2, ())))
  else
  none)
abbrev g100_store_queue_put_v1_CS : CSpec := ⟨[.fix (.bptr 0 [.fld 7 20]), .dat (.int .i64)], [.cons (.dat T27) (.cons (.dat (.list .bool)) (.cons (.dat (.list (.arr 3 (.int .i64)))) (.cons (.dat (.int .i64)) (.cons (.dat (.int .i64)) (.cons (.dat (.arr 3 (.int .i64))) (.cons (.own 0 (.arr 3 (.int .i64))) (.cons (.cons (.own 1 (.int .i64)) (.nil)) (.cons (.vec 2 1 .bool) (.cons (.cons (.own 3 (.arr 3 (.int .i64))) (.cons (.own 4 (.arr 3 (.int .i64))) (.cons (.own 5 (.arr 3 (.int .i64))) (.nil)))) (.nil)))))))))), .vrow 2 .bool], 6, [.cons (.dat T27) (.cons (.dat (.list .bool)) (.cons (.dat (.list (.arr 3 (.int .i64)))) (.cons (.dat (.int .i64)) (.cons (.dat (.int .i64)) (.cons (.dat (.arr 3 (.int .i64))) (.cons (.own 0 (.arr 3 (.int .i64))) (.cons (.cons (.own 1 (.int .i64)) (.nil)) (.cons (.vec 2 1 .bool) (.cons (.cons (.own 3 (.arr 3 (.int .i64))) (.cons (.own 4 (.arr 3 (.int .i64))) (.cons (.own 5 (.arr 3 (.int .i64))) (.nil)))) (.nil)))))))))), .vrow 2 .bool], 6, .tup (.nil)⟩
noncomputable def g100_store_queue_put_v1_E : CEnt := boxE 100 g100_store_queue_put_v1_CS fun x => g100_store_queue_put_v1 x.1.1 x.2.1 x.2.2.1
theorem g100_store_queue_put_v1_LV : LV 2 Tryd.prog false (loopsOf (bodyOf Tryd.f100)) [] := by unfold LV; cases loopsOf (bodyOf Tryd.f100) <;> trivial
theorem g100_store_queue_put_v1_ent : Ent Tryd.prog 100 := ⟨by decide, enters_of Tryd.func100 (by kernel_rfl) rfl⟩
theorem g100_store_queue_put_v1_hev : ∀ x : g100_store_queue_put_v1_CS.In, fnR Tryd.prog g100_store_queue_put_v1_C [] Tryd.f100 (bodyOf Tryd.f100) (encs g100_store_queue_put_v1_CS.A x.1) ⟨encs g100_store_queue_put_v1_CS.I x.2, [], g100_store_queue_put_v1_CS.nt⟩ (finK g100_store_queue_put_v1_CS) = g100_store_queue_put_v1 x.1.1 x.2.1 x.2.2.1 := by
  intro x; kernel_rfl
theorem g100_store_queue_put_v1_valid : g100_store_queue_put_v1_E.Valid Tryd.prog :=
  boxE_valid (S := g100_store_queue_put_v1_CS) (by kernel_rfl) (.inr g100_store_queue_put_v1_ent) (fn_lcall (S := g100_store_queue_put_v1_CS) mixed Tryd.func100 rfl g100_store_queue_put_v1_ent g100_store_queue_put_v1_CV g100_store_queue_put_v1_LV (by kernel_rfl) (by kernel_rfl) g100_store_queue_put_v1_hev)

noncomputable def g85_r0_v1_C : CalT := tabC [g100_store_queue_put_v1_E]
theorem g85_r0_v1_CV : CV Tryd.prog g85_r0_v1_C := tabC_valid (l := [g100_store_queue_put_v1_E]) ⟨g100_store_queue_put_v1_valid, trivial⟩
abbrev TY23 : Type := ((Nat × UT67) × ((E27 × ((List Bool) × ((List (List Int)) × (Int × (Int × ((List Int) × ((List (List Int)) × (((List Int) × Unit) × (Nat × (((List (List Int)) × ((List (List Int)) × ((List (List Int)) × Unit))) × Unit)))))))))) × ((List Bool) × Unit)))
noncomputable def g85_r0_v1 (a0 : Int) (b1 : (Nat × UT67)) (b2 : TY21) (b3 : (List Bool)) : Option (Bool × TY23) :=
  (natK b1.1
  ((bif (decide (0 ≤ a0) && decide (a0 < (b2.2.2.2.2.2.2.2.2.1 : Int))) then
    (bif (decide ((Int.toNat a0) < List.length b3)) then
      (bif (!(List.getD b3 (Int.toNat a0) false)) then
        (bif (decide (0 ≤ a0) && decide (a0 < (List.length b2.1.2.2.2.2.2.1 : Int))) then
          (bif (decide ((List.getD b2.1.2.2.2.2.2.1 (Int.toNat a0) (0, ((List.replicate 3 0), (0, ())))).1 ≤ b2.2.2.2.2.1)) then
            (bif (decide (0 ≤ a0) && decide (a0 < (b2.2.2.2.2.2.2.2.2.1 : Int))) then
              (bif (decide ((Int.toNat a0) < List.length b3)) then
                (Option.bind (g100_store_queue_put_v1 a0 b2 (List.set b3 (Int.toNat a0) true)) fun r1 =>
                  some (true, ((0, UC67), (r1.2.1, (r1.2.2.1, ())))))
                else
                none)
              else
              none)
            else
            some (true, ((0, UC67), (b2, (b3, ())))))
          else
          none)
        else
        some (true, ((0, UC67), (b2, (b3, ())))))
      else
      none)
    else
    none))
  (fun _ => none))
abbrev g85_r0_v1_CS : CSpec := ⟨[.fix (.yref 0), .dat (.int .i64)], [.lp 85 0 (.cons (.any) (.cons (.fix (.bptr 1 [])) AN65)), .fix (.bptr 2 []), .cons (.dat T27) (.cons (.dat (.list .bool)) (.cons (.dat (.list (.arr 3 (.int .i64)))) (.cons (.dat (.int .i64)) (.cons (.dat (.int .i64)) (.cons (.dat (.arr 3 (.int .i64))) (.cons (.own 0 (.arr 3 (.int .i64))) (.cons (.cons (.own 1 (.int .i64)) (.nil)) (.cons (.vec 2 3 .bool) (.cons (.cons (.own 3 (.arr 3 (.int .i64))) (.cons (.own 4 (.arr 3 (.int .i64))) (.cons (.own 5 (.arr 3 (.int .i64))) (.nil)))) (.nil)))))))))), .vrow 2 .bool], 6, [.lp 85 0 (.cons (.any) (.cons (.fix (.bptr 1 [])) AN65)), .fix (.bptr 2 []), .cons (.dat T27) (.cons (.dat (.list .bool)) (.cons (.dat (.list (.arr 3 (.int .i64)))) (.cons (.dat (.int .i64)) (.cons (.dat (.int .i64)) (.cons (.dat (.arr 3 (.int .i64))) (.cons (.own 0 (.arr 3 (.int .i64))) (.cons (.cons (.own 1 (.int .i64)) (.nil)) (.cons (.vec 2 3 .bool) (.cons (.cons (.own 3 (.arr 3 (.int .i64))) (.cons (.own 4 (.arr 3 (.int .i64))) (.cons (.own 5 (.arr 3 (.int .i64))) (.nil)))) (.nil)))))))))), .vrow 2 .bool], 6, .dat .bool⟩
noncomputable def g85_r0_v1_E : CEnt := boxE YLD g85_r0_v1_CS fun x => g85_r0_v1 x.1.1 x.2.1 x.2.2.1 x.2.2.2.1
theorem g85_r0_v1_LV : LV 4 Tryd.prog true (loopsOf (rfBody (lcode 85 0))) [] := by unfold LV; cases loopsOf (rfBody (lcode 85 0)) <;> trivial
theorem g85_r0_v1_hev : ∀ x : g85_r0_v1_CS.In, roundR Tryd.prog g85_r0_v1_C [] 85 0 (encs g85_r0_v1_CS.A x.1) ⟨encs g85_r0_v1_CS.I x.2, [], g85_r0_v1_CS.nt⟩ (finK g85_r0_v1_CS) = g85_r0_v1 x.1.1 x.2.1 x.2.2.1 x.2.2.2.1 := by
  intro x; kernel_rfl
theorem g85_r0_v1_valid : g85_r0_v1_E.Valid Tryd.prog :=
  boxE_valid (S := g85_r0_v1_CS) (by kernel_rfl) (.inl rfl) (rd_lcall' (S := g85_r0_v1_CS) mixed g85_r0_v1_CV (by kernel_rfl) g85_r0_v1_LV ⟨_, rfl⟩ (by decide) (by kernel_rfl) (by kernel_rfl) g85_r0_v1_hev)

noncomputable def g88_store_ships_1_v1_C : CalT := tabC [g85_r0_v1_E]
theorem g88_store_ships_1_v1_CV : CV Tryd.prog g88_store_ships_1_v1_C := tabC_valid (l := [g85_r0_v1_E]) ⟨g85_r0_v1_valid, trivial⟩
noncomputable def g88_store_ships_1_v1_l0_c : Code := loopAt (bodyOf Tryd.f88) 0
abbrev PA24 : PTy := (.cons (.dat (.list .bool)) (.cons (.dat (.list (.arr 3 (.int .i64)))) (.cons (.dat (.int .i64)) (.cons (.dat (.int .i64)) (.cons (.dat (.arr 3 (.int .i64))) (.cons (.own 0 (.arr 3 (.int .i64))) (.cons (.cons (.own 1 (.int .i64)) (.nil)) (.cons (.vec 2 4 .bool) (.cons (.cons (.own 3 (.arr 3 (.int .i64))) (.cons (.own 4 (.arr 3 (.int .i64))) (.cons (.own 5 (.arr 3 (.int .i64))) (.nil)))) (.nil))))))))))
noncomputable def g88_store_ships_1_v1_l0_S : SPat := ⟨[.fix (.yref 0), .fix (.bptr 1 []), .any, .any, .dat (.int .i64), .any, .any, .any, .any, .any, .any, .any, .any, .any, .any, .any, .any, .any, .any], [.lp 85 0 (.cons (.any) (.cons (.fix (.bptr 2 [])) AN65)), .dat (.int .i64), .fix (.bptr 3 []), .cons (.dat T27) PA24, .vrow 2 .bool], 6⟩
abbrev TY25 : Type := ((Int × Unit) × ((Nat × UT67) × (Int × ((E27 × ((List Bool) × ((List (List Int)) × (Int × (Int × ((List Int) × ((List (List Int)) × (((List Int) × Unit) × (Nat × (((List (List Int)) × ((List (List Int)) × ((List (List Int)) × Unit))) × Unit)))))))))) × ((List Bool) × Unit)))))
abbrev TY26 : Type := (Nat × ((Int × Unit) × ((Nat × UT67) × (Int × ((E27 × ((List Bool) × ((List (List Int)) × (Int × (Int × ((List Int) × ((List (List Int)) × (((List Int) × Unit) × (Nat × (((List (List Int)) × ((List (List Int)) × ((List (List Int)) × Unit))) × Unit)))))))))) × ((List Bool) × Unit))))))
noncomputable def g88_store_ships_1_v1_l0_step (s : TY25) : Option TY26 :=
  (bif (decide (s.1.1 < 6)) then
  (bif (!decide (s.1.1 < 0)) then
    (bif ((IntKind.wrap .i64 ((BitVec.toNat ((BitVec.ofInt (IntKind.bits .i64) (Int.fdiv s.2.2.1 (2 ^ (min (Int.toNat s.1.1) (IntKind.bits .i64))))) &&& (BitVec.ofInt (IntKind.bits .i64) 1)) : Nat) : Int)) == 1) then
      (Option.bind (g85_r0_v1 s.1.1 (s.2.1.1, UC67) s.2.2.2.1 s.2.2.2.2.1) fun r1 =>
        (bif (!r1.1) then
          some (1, ((s.1.1, ()), ((r1.2.1.1, UC67), (s.2.2.1, (r1.2.2.1, (r1.2.2.2.1, ()))))))
          else
          some (0, (((IntKind.wrap .i64 (s.1.1 + 1)), ()), ((r1.2.1.1, UC67), (s.2.2.1, (r1.2.2.1, (r1.2.2.2.1, ()))))))))
      else
      some (0, (((IntKind.wrap .i64 (s.1.1 + 1)), ()), ((s.2.1.1, UC67), (s.2.2.1, (s.2.2.2.1, (s.2.2.2.2.1, ())))))))
    else
    none)
  else
  some (2, ((s.1.1, ()), ((s.2.1.1, UC67), (s.2.2.1, (s.2.2.2.1, (s.2.2.2.2.1, ())))))))
noncomputable def g88_store_ships_1_v1_l0_fuel (s : TY25) : Nat := Int.toNat (6 - s.1.1) + 1
noncomputable def g88_store_ships_1_v1_l0_run (s : TY25) : Option TY26 := iter g88_store_ships_1_v1_l0_step (g88_store_ships_1_v1_l0_fuel s) s
noncomputable def g88_store_ships_1_v1_l0_L : LoopT := loopT g88_store_ships_1_v1_l0_S [.ret, .exit 0] g88_store_ships_1_v1_l0_run
abbrev TY27 : Type := (Unit × ((Nat × UT67) × (Int × ((E27 × ((List Bool) × ((List (List Int)) × (Int × (Int × ((List Int) × ((List (List Int)) × (((List Int) × Unit) × (Nat × (((List (List Int)) × ((List (List Int)) × ((List (List Int)) × Unit))) × Unit)))))))))) × ((List Bool) × Unit)))))
noncomputable def g88_store_ships_1_v1 (b0 : (Nat × UT67)) (b1 : Int) (b2 : TY21) (b3 : (List Bool)) : Option TY27 :=
  (Option.bind (g88_store_ships_1_v1_l0_run ((0, ()), ((b0.1, UC67), (b1, (b2, (b3, ())))))) fun q2 =>
  (natK q2.1
    (some ((), ((q2.2.2.1.1, UC67), (q2.2.2.2.1, (q2.2.2.2.2.1, (q2.2.2.2.2.2.1, ()))))))
    (fun _ => some ((), ((q2.2.2.1.1, UC67), (q2.2.2.2.1, (q2.2.2.2.2.1, (q2.2.2.2.2.2.1, ()))))))))
abbrev g88_store_ships_1_v1_CS : CSpec := ⟨[.fix (.yref 0), .fix (.bptr 1 [])], [.lp 85 0 (.cons (.any) (.cons (.fix (.bptr 2 [])) AN65)), .dat (.int .i64), .fix (.bptr 3 []), .cons (.dat T27) (.cons (.dat (.list .bool)) (.cons (.dat (.list (.arr 3 (.int .i64)))) (.cons (.dat (.int .i64)) (.cons (.dat (.int .i64)) (.cons (.dat (.arr 3 (.int .i64))) (.cons (.own 0 (.arr 3 (.int .i64))) (.cons (.cons (.own 1 (.int .i64)) (.nil)) (.cons (.vec 2 4 .bool) (.cons (.cons (.own 3 (.arr 3 (.int .i64))) (.cons (.own 4 (.arr 3 (.int .i64))) (.cons (.own 5 (.arr 3 (.int .i64))) (.nil)))) (.nil)))))))))), .vrow 2 .bool], 6, [.lp 85 0 (.cons (.any) (.cons (.fix (.bptr 2 [])) AN65)), .dat (.int .i64), .fix (.bptr 3 []), .cons (.dat T27) (.cons (.dat (.list .bool)) (.cons (.dat (.list (.arr 3 (.int .i64)))) (.cons (.dat (.int .i64)) (.cons (.dat (.int .i64)) (.cons (.dat (.arr 3 (.int .i64))) (.cons (.own 0 (.arr 3 (.int .i64))) (.cons (.cons (.own 1 (.int .i64)) (.nil)) (.cons (.vec 2 4 .bool) (.cons (.cons (.own 3 (.arr 3 (.int .i64))) (.cons (.own 4 (.arr 3 (.int .i64))) (.cons (.own 5 (.arr 3 (.int .i64))) (.nil)))) (.nil)))))))))), .vrow 2 .bool], 6, .tup (.nil)⟩
noncomputable def g88_store_ships_1_v1_E : CEnt := boxE 88 g88_store_ships_1_v1_CS fun x => g88_store_ships_1_v1 x.2.1 x.2.2.1 x.2.2.2.1 x.2.2.2.2.1
theorem g88_store_ships_1_v1_l0_V : LValid 5 Tryd.prog (.loop g88_store_ships_1_v1_l0_c) g88_store_ships_1_v1_l0_L false := by
  have hb : ∀ s, codeR Tryd.prog g88_store_ships_1_v1_C g88_store_ships_1_v1_l0_c [] (g88_store_ships_1_v1_l0_S.encE s) (g88_store_ships_1_v1_l0_S.encB s) (kst g88_store_ships_1_v1_l0_S [.ret, .exit 0]) = g88_store_ships_1_v1_l0_step s := by
    intro s; kernel_rfl
  have hL : LV 5 Tryd.prog false (loopsOf g88_store_ships_1_v1_l0_c) [] := by unfold LV; cases loopsOf g88_store_ships_1_v1_l0_c <;> trivial
  exact loopT_valid (fuel := g88_store_ships_1_v1_l0_fuel) mixed g88_store_ships_1_v1_CV hL (by kernel_rfl) (by decide) rfl hb (fun s r h => h)
theorem g88_store_ships_1_v1_LV : LV 5 Tryd.prog false (loopsOf (bodyOf Tryd.f88)) [g88_store_ships_1_v1_l0_L] := by
  have hl : loopsOf (bodyOf Tryd.f88) = [.loop g88_store_ships_1_v1_l0_c] := by kernel_rfl
  rw [hl]; exact ⟨g88_store_ships_1_v1_l0_V, trivial⟩
theorem g88_store_ships_1_v1_ent : Ent Tryd.prog 88 := ⟨by decide, enters_of Tryd.func88 (by kernel_rfl) rfl⟩
theorem g88_store_ships_1_v1_hev : ∀ x : g88_store_ships_1_v1_CS.In, fnR Tryd.prog g88_store_ships_1_v1_C [g88_store_ships_1_v1_l0_L] Tryd.f88 (bodyOf Tryd.f88) (encs g88_store_ships_1_v1_CS.A x.1) ⟨encs g88_store_ships_1_v1_CS.I x.2, [], g88_store_ships_1_v1_CS.nt⟩ (finK g88_store_ships_1_v1_CS) = g88_store_ships_1_v1 x.2.1 x.2.2.1 x.2.2.2.1 x.2.2.2.2.1 := by
  intro x; kernel_rfl
theorem g88_store_ships_1_v1_valid : g88_store_ships_1_v1_E.Valid Tryd.prog :=
  boxE_valid (S := g88_store_ships_1_v1_CS) (by kernel_rfl) (.inr g88_store_ships_1_v1_ent) (fn_lcall (S := g88_store_ships_1_v1_CS) mixed Tryd.func88 rfl g88_store_ships_1_v1_ent g88_store_ships_1_v1_CV g88_store_ships_1_v1_LV (by kernel_rfl) (by kernel_rfl) g88_store_ships_1_v1_hev)

end Go.Proofs.YtcijddeommognaaDoor.Abs
