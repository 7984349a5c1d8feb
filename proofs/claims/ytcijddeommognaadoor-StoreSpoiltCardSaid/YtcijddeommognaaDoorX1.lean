import Derived.Test.YtcijddeommognaaDoorA4
import Derived.Shelf.Strings.Builder1
import Derived.Shelf.Strconv.Itoa3
import Derived.Shelf.LaysM
import Derived.Shelf.Abstract
import Derived.KernelRfl
import Derived.Shelf.Strings.OnBuilder
import Derived.Shelf.Strings.Count
import Derived.Shelf.Strings.Search2
import Derived.Shelf.Strings.Search3
import Derived.Shelf.Strings.Split
import Derived.Shelf.RegionOpenPlain
import Derived.TacticsInMore
import Derived.RegionIn
import Derived.LoopNIn
import Derived.RecoverIn
import Derived.Laws.IdiomStrings
set_option linter.unusedVariables false
set_option linter.unusedSimpArgs false
namespace Go.Proofs
open Go.Shelf
def Tryd.lays221_ren : Go.Shelf.Ren := ⟨fun | 221 => 104 | 268 => 110 | 138 => 111 | 143 => 112 | 195 => 118 | 197 => 119 | 218 => 120 | 219 => 121 | 260 => 124 | 217 => 125 | 225 => 126 | 224 => 127 | 267 => 128 | 266 => 129 | 314 => 130 | n => n, fun | 9 => 9 | 3 => 3 | 31 => 110 | 4 => 4 | 0 => 0 | 105 => 158 | 21 => 21 | 5 => 5 | 46 => 156 | 119 => 164 | 139 => 167 | 138 => 166 | 146 => 168 | 51 => 154 | n => n, fun | 1 => 1 | 3 => 4 | 4 => 5 | n => n⟩
theorem Tryd.lays221 : Go.Proofs.Lays.n221 Tryd.prog Tryd.lays221_ren := {
  mixed := by kernel_rfl
  f138 := Tryd.func111.trans (congrArg some (by kernel_rfl))
  f143 := Tryd.func112.trans (congrArg some (by kernel_rfl))
  f195 := Tryd.func118.trans (congrArg some (by kernel_rfl))
  f197 := Tryd.func119.trans (congrArg some (by kernel_rfl))
  f217 := Tryd.func125.trans (congrArg some (by kernel_rfl))
  f218 := Tryd.func120.trans (congrArg some (by kernel_rfl))
  f219 := Tryd.func121.trans (congrArg some (by kernel_rfl))
  f221 := Tryd.func104.trans (congrArg some (by kernel_rfl))
  f224 := Tryd.func127.trans (congrArg some (by kernel_rfl))
  f225 := Tryd.func126.trans (congrArg some (by kernel_rfl))
  f260 := Tryd.func124.trans (congrArg some (by kernel_rfl))
  f266 := Tryd.func129.trans (congrArg some (by kernel_rfl))
  f267 := Tryd.func128.trans (congrArg some (by kernel_rfl))
  f268 := Tryd.func110.trans (congrArg some (by kernel_rfl))
  f314 := Tryd.func130.trans (congrArg some (by kernel_rfl))
  t0 := Tryd.underlying0
  a0 := Tryd.isAgg0
  z0 := Tryd.sizeOf0
  v0 := Tryd.zeroValue0
  t3 := Tryd.underlying3
  a3 := Tryd.isAgg3
  z3 := Tryd.sizeOf3
  v3 := Tryd.zeroValue3
  t4 := Tryd.underlying4
  a4 := Tryd.isAgg4
  z4 := Tryd.sizeOf4
  v4 := Tryd.zeroValue4
  t5 := Tryd.underlying5
  a5 := Tryd.isAgg5
  z5 := Tryd.sizeOf5
  v5 := Tryd.zeroValue5
  t9 := Tryd.underlying9
  a9 := Tryd.isAgg9
  z9 := Tryd.sizeOf9
  v9 := Tryd.zeroValue9
  t21 := Tryd.underlying21
  a21 := Tryd.isAgg21
  z21 := Tryd.sizeOf21
  v21 := Tryd.zeroValue21
  t31 := Tryd.underlying110
  a31 := Tryd.isAgg110
  z31 := Tryd.sizeOf110
  v31 := Tryd.zeroValue110
  t46 := Tryd.underlying156
  a46 := Tryd.isAgg156
  z46 := Tryd.sizeOf156
  v46 := Tryd.zeroValue156
  t51 := Tryd.underlying154
  a51 := Tryd.isAgg154
  z51 := Tryd.sizeOf154
  v51 := Tryd.zeroValue154
  t105 := Tryd.underlying158
  a105 := Tryd.isAgg158
  z105 := Tryd.sizeOf158
  v105 := Tryd.zeroValue158
  t119 := Tryd.underlying164
  a119 := Tryd.isAgg164
  z119 := Tryd.sizeOf164
  t138 := Tryd.underlying166
  a138 := Tryd.isAgg166
  z138 := Tryd.sizeOf166
  v138 := Tryd.zeroValue166
  t139 := Tryd.underlying167
  a139 := Tryd.isAgg167
  z139 := Tryd.sizeOf167
  v139 := Tryd.zeroValue167
  t146 := Tryd.underlying168
  a146 := Tryd.isAgg168
  z146 := Tryd.sizeOf168
  v146 := Tryd.zeroValue168
  g1 := by kernel_rfl
  g3 := by kernel_rfl
  g4 := by kernel_rfl }
end Go.Proofs
set_option linter.unusedVariables false
set_option linter.unusedSimpArgs false
namespace Go.Proofs
open Go.Shelf
def Tryd.lays169_ren : Go.Shelf.Ren := ⟨fun | 169 => 69 | n => n, fun | 70 => 97 | 9 => 9 | 0 => 0 | 72 => 99 | 37 => 78 | 127 => 128 | 3 => 3 | 5 => 5 | n => n, fun | n => n⟩
theorem Tryd.lays169 : Go.Proofs.Lays.n169 Tryd.prog Tryd.lays169_ren := {
  mixed := by kernel_rfl
  f169 := Tryd.func69.trans (congrArg some (by kernel_rfl))
  t0 := Tryd.underlying0
  a0 := Tryd.isAgg0
  z0 := Tryd.sizeOf0
  v0 := Tryd.zeroValue0
  t3 := Tryd.underlying3
  a3 := Tryd.isAgg3
  z3 := Tryd.sizeOf3
  v3 := Tryd.zeroValue3
  t9 := Tryd.underlying9
  a9 := Tryd.isAgg9
  z9 := Tryd.sizeOf9
  v9 := Tryd.zeroValue9
  t37 := Tryd.underlying78
  a37 := Tryd.isAgg78
  z37 := Tryd.sizeOf78
  v37 := Tryd.zeroValue78
  t70 := Tryd.underlying97
  a70 := Tryd.isAgg97
  z70 := Tryd.sizeOf97
  v70 := Tryd.zeroValue97
  t72 := Tryd.underlying99
  a72 := Tryd.isAgg99
  z72 := Tryd.sizeOf99
  v72 := Tryd.zeroValue99
  t127 := Tryd.underlying128
  a127 := Tryd.isAgg128
  z127 := Tryd.sizeOf128
  v127 := Tryd.zeroValue128 }
theorem Tryd.Builder_Extra_169 : Builder.Extra Tryd.prog Tryd.lays169_ren := {
  sizeBuilder := by kernel_rfl
  liesBuilder := by kernel_rfl
  t5 := Tryd.underlying5
  a5 := Tryd.isAgg5
  z5 := Tryd.sizeOf5
  v5 := Tryd.zeroValue5
  infoByte := by kernel_rfl
  cellsByte := by kernel_rfl
  sizeByte := by kernel_rfl
  neB5 := by decide }
def Tryd.laysM171_ren : Go.Shelf.Ren := ⟨fun | 171 => 68 | 243 => 92 | 246 => 102 | 283 => 105 | 284 => 106 | 285 => 107 | 286 => 108 | 129 => 114 | 317 => 113 | 318 => 115 | 319 => 116 | 320 => 117 | 337 => 122 | 338 => 123 | n => n, fun | 3 => 3 | 9 => 9 | 2 => 2 | 4 => 4 | 171 => 142 | 0 => 0 | 53 => 143 | 37 => 78 | 5 => 5 | 173 => 146 | 212 => 153 | 51 => 154 | 20 => 20 | 213 => 155 | 46 => 156 | 232 => 162 | 233 => 163 | n => n, fun | 17 => 0 | 18 => 2 | 19 => 3 | n => n⟩
theorem Tryd.laysM171 : Go.Proofs.LaysM.n171 Tryd.prog Tryd.laysM171_ren := {
  mixed := by kernel_rfl
  f129 := Tryd.func114.trans (congrArg some (by kernel_rfl))
  f171 := Tryd.func68.trans (congrArg some (by kernel_rfl))
  f243 := Tryd.func92.trans (congrArg some (by kernel_rfl))
  f246 := Tryd.func102.trans (congrArg some (by kernel_rfl))
  f283 := Tryd.func105.trans (congrArg some (by kernel_rfl))
  f284 := Tryd.func106.trans (congrArg some (by kernel_rfl))
  f285 := Tryd.func107.trans (congrArg some (by kernel_rfl))
  f286 := Tryd.func108.trans (congrArg some (by kernel_rfl))
  f317 := Tryd.func113.trans (congrArg some (by kernel_rfl))
  f318 := Tryd.func115.trans (congrArg some (by kernel_rfl))
  f319 := Tryd.func116.trans (congrArg some (by kernel_rfl))
  f320 := Tryd.func117.trans (congrArg some (by kernel_rfl))
  f337 := Tryd.func122.trans (congrArg some (by kernel_rfl))
  f338 := Tryd.func123.trans (congrArg some (by kernel_rfl))
  t0 := Tryd.underlying0
  a0 := Tryd.isAgg0
  z0 := Tryd.sizeOf0
  v0 := Tryd.zeroValue0
  t2 := Tryd.underlying2
  a2 := Tryd.isAgg2
  z2 := Tryd.sizeOf2
  v2 := Tryd.zeroValue2
  t3 := Tryd.underlying3
  a3 := Tryd.isAgg3
  z3 := Tryd.sizeOf3
  v3 := Tryd.zeroValue3
  t4 := Tryd.underlying4
  a4 := Tryd.isAgg4
  z4 := Tryd.sizeOf4
  v4 := Tryd.zeroValue4
  t5 := Tryd.underlying5
  a5 := Tryd.isAgg5
  z5 := Tryd.sizeOf5
  v5 := Tryd.zeroValue5
  t9 := Tryd.underlying9
  a9 := Tryd.isAgg9
  z9 := Tryd.sizeOf9
  v9 := Tryd.zeroValue9
  t20 := Tryd.underlying20
  a20 := Tryd.isAgg20
  z20 := Tryd.sizeOf20
  v20 := Tryd.zeroValue20
  t37 := Tryd.underlying78
  a37 := Tryd.isAgg78
  z37 := Tryd.sizeOf78
  v37 := Tryd.zeroValue78
  t46 := Tryd.underlying156
  a46 := Tryd.isAgg156
  z46 := Tryd.sizeOf156
  v46 := Tryd.zeroValue156
  t51 := Tryd.underlying154
  a51 := Tryd.isAgg154
  z51 := Tryd.sizeOf154
  v51 := Tryd.zeroValue154
  t53 := Tryd.underlying143
  a53 := Tryd.isAgg143
  z53 := Tryd.sizeOf143
  v53 := Tryd.zeroValue143
  t171 := Tryd.underlying142
  a171 := Tryd.isAgg142
  z171 := Tryd.sizeOf142
  v171 := Tryd.zeroValue142
  t173 := Tryd.underlying146
  a173 := Tryd.isAgg146
  z173 := Tryd.sizeOf146
  v173 := Tryd.zeroValue146
  t212 := Tryd.underlying153
  a212 := Tryd.isAgg153
  z212 := Tryd.sizeOf153
  v212 := Tryd.zeroValue153
  t213 := Tryd.underlying155
  a213 := Tryd.isAgg155
  z213 := Tryd.sizeOf155
  t232 := Tryd.underlying162
  a232 := Tryd.isAgg162
  z232 := Tryd.sizeOf162
  v232 := Tryd.zeroValue162
  t233 := Tryd.underlying163
  a233 := Tryd.isAgg163
  z233 := Tryd.sizeOf163
  v233 := Tryd.zeroValue163
  g17 := by kernel_rfl
  g18 := by kernel_rfl
  g19 := by kernel_rfl
  i0 := by kernel_rfl
  i2 := by kernel_rfl
  i3 := by kernel_rfl
  i4 := by kernel_rfl
  i5 := by kernel_rfl
  i9 := by kernel_rfl
  i20 := by kernel_rfl
  i37 := by kernel_rfl
  i46 := by kernel_rfl
  i51 := by kernel_rfl
  i53 := by kernel_rfl
  i171 := by kernel_rfl
  i173 := by kernel_rfl
  i212 := by kernel_rfl
  i232 := by kernel_rfl
  i233 := by kernel_rfl
  m17 := by kernel_rfl
  m18 := by kernel_rfl
  m19 := by kernel_rfl }
end Go.Proofs
set_option maxRecDepth 100000
namespace Go.Proofs.YtcijddeommognaaDoor.Abs
open Go.Shelf Go.RowKit Go.Sort
theorem mixed : Tryd.prog.follows .mixedOrders = true := by kernel_rfl
section
set_option maxHeartbeats 1000000 in
theorem bchk_used (b : Nat) (w : World) (h0 : w.cell? ⟨b, 0, none⟩ = some (.pointer (some ⟨b, 0, none⟩))) :
    Calls Tryd.prog 91 #[.pointer (some ⟨b, 0, none⟩)] w fun e w' => e = .returned (.tuple #[]) ∧ w' = w := by
  obtain ⟨j, hj, _⟩ := Option.map_eq_some_iff.1 (show (Tryd.prog.info? 99).map (fun i => i.size) = some 2 by kernel_rfl)
  have t72 := Tryd.underlying99; have a72 := Tryd.isAgg99; have z72 := Tryd.sizeOf99; have u72 := run_underlying Tryd.underlying99
  have t70 := Tryd.underlying97; have a70 := Tryd.isAgg97; have z70 := Tryd.sizeOf97; have u70 := run_underlying Tryd.underlying97
  have t164 := Tryd.underlying137; have a164 := Tryd.isAgg137; have z164 := Tryd.sizeOf137; have u164 := run_underlying Tryd.underlying137
  go_enter Tryd.func91, Tryd.ntmps91
  go_wp2
  rw [Lib.run_neq_ptr_same w _ Tryd.underlying97 hj]
  go_wp2
  go_end0
  exact ⟨rfl, rfl⟩
set_option maxHeartbeats 1000000 in
theorem bchk_fresh (b : Nat) (w : World) (h0 : w.cell? ⟨b, 0, none⟩ = some (.pointer none)) (hsh : w.shape? b = some (99, 2)) (hfz : w.frozen? ⟨b, 0, none⟩ = false) :
    Calls Tryd.prog 91 #[.pointer (some ⟨b, 0, none⟩)] w fun e w' => e = .returned (.tuple #[]) ∧ w' = w.setCell ⟨b, 0, none⟩ (.pointer (some ⟨b, 0, none⟩)) := by
  obtain ⟨j, hj, hjs⟩ := Option.map_eq_some_iff.1 (show (Tryd.prog.info? 99).map (fun i => i.size) = some 2 by kernel_rfl)
  have hl : liesAt Tryd.prog Tryd.prog.depth 99 (2 / Tryd.prog.cellsOf 99) 0 99 1 = true := by kernel_rfl
  have t72 := Tryd.underlying99; have a72 := Tryd.isAgg99; have z72 := Tryd.sizeOf99; have u72 := run_underlying Tryd.underlying99
  have t70 := Tryd.underlying97; have a70 := Tryd.isAgg97; have z70 := Tryd.sizeOf97; have u70 := run_underlying Tryd.underlying97
  have t164 := Tryd.underlying137; have a164 := Tryd.isAgg137; have z164 := Tryd.sizeOf137; have u164 := run_underlying Tryd.underlying137
  go_enter Tryd.func91, Tryd.ntmps91
  go_wp2
  rw [Lib.run_to_unsafe w ⟨b, 0, none⟩ Tryd.underlying97 Tryd.underlying137 hj (by rw [hjs]; decide) hsh (Nat.zero_lt_succ 1)]
  simp only [Result.andThen]
  rw [Oper.upon_value]
  go_wp2
  rw [run_callFunc_extern Tryd.func101 (by kernel_rfl) (by kernel_rfl) (by kernel_rfl) (e := Extern.AbiNoEscape.same) (by kernel_rfl)]
  rw [Lib.run_noEscape]
  simp only [Result.andThen]
  rw [Oper.upon_value]
  go_wp2
  rw [Lib.run_from_unsafe w ⟨b, 0, none⟩ Tryd.underlying137 Tryd.underlying97 hj hsh hl]
  simp only [Result.andThen]
  rw [Oper.upon_value]
  go_wp2
  go_end0
  exact ⟨rfl, rfl⟩
variable {P : Program} {ρ : Ren}
set_option maxHeartbeats 1000000 in
theorem bstr_some (L : Lays.n169 P ρ) (X : Builder.Extra P ρ) (b g cap : Nat) (p : Value) (cur : Array Value) (l : List UInt8) (w : World) (h0 : l ≠ []) (hbk : w.heap[b]? = some (.cells #[p, .slice (some ⟨g, 0, none⟩) l.length cap] (ρ.t 72) (0, 0))) (hg : w.heap[g]? = some (.cells cur (ρ.t 5) (0, 0)))
    (hcap : l.length ≤ cap) (hcs : cur.size = cap) (hl : l.length ≤ 2 ^ 40) (htake : ∀ (j : Nat) (x : UInt8), l[j]? = some x → cur[j]? = some (.int .u8 x.toNat)) :
    Calls P (ρ.f 169) #[.pointer (some ⟨b, 0, none⟩)] w fun e w' => e = .returned (.string ⟨l.toArray⟩) ∧ w' = w.drew.freeze ⟨g, 0, none⟩ l.length := by
  have hl0 : l.length ≠ 0 := by simpa using h0
  have c1 : w.drew.cell? ⟨b, 1, none⟩ = some (.slice (some ⟨g, 0, none⟩) l.length cap) := by
    have : w.drew.heap[b]? = some (.cells #[p, .slice (some ⟨g, 0, none⟩) l.length cap] (ρ.t 72) (0, 0)) := hbk
    rw [Lib.cell_of_heap this]; rfl
  have hSD : (Builtin.unsafeSliceData_ #[(ρ.t 37)] (ρ.t 127) #[.slice (some ⟨g, 0, none⟩) l.length cap]).run P w.drew = .ok (.pointer (some ⟨g, 0, none⟩)) w.drew :=
    Lib.run_unsafeSliceData_row _ _ _ _ _ _ (by omega)
  have hg' : w.drew.heap[g]? = some (.cells cur (ρ.t 5) (0, 0)) := hg
  have hUS : (Builtin.unsafeString_ #[(ρ.t 127), (ρ.t 3)] (ρ.t 9) #[.pointer (some ⟨g, 0, none⟩), .int .i64 l.length]).run P w.drew = .ok (.string ⟨l.toArray⟩) (w.drew.freeze ⟨g, 0, none⟩ l.length) := by
    refine Lib.run_unsafeString_row w.drew (ρ.t 127) (ρ.t 3) (ρ.t 9) (ρ.t 5) L.t127 X.cellsByte g cur.size (by simp [World.shape?, hg']) l h0 (by omega) (by omega) ?_
    intro j x hx
    have := htake j x hx
    rw [addr_add, Nat.zero_add, Lib.cell_of_heap hg']
    exact this
  have mixed := L.mixed
  have t72 := L.t72; have a72 := L.a72; have z72 := L.z72; have v72 := L.v72; have u72 := run_underlying L.t72
  have t70 := L.t70; have a70 := L.a70; have z70 := L.z70; have v70 := L.v70; have u70 := run_underlying L.t70
  have t37 := L.t37; have a37 := L.a37; have z37 := L.z37; have v37 := L.v37; have u37 := run_underlying L.t37
  have t127 := L.t127; have a127 := L.a127; have z127 := L.z127; have v127 := L.v127; have u127 := run_underlying L.t127
  have t3 := L.t3; have a3 := L.a3; have z3 := L.z3; have v3 := L.v3; have u3 := run_underlying L.t3
  have t9 := L.t9; have a9 := L.a9; have z9 := L.z9; have v9 := L.v9; have u9 := run_underlying L.t9
  have t5 := X.t5; have a5 := X.a5; have z5 := X.z5; have v5 := X.v5; have u5 := run_underlying X.t5
  go_enter L.f169, Body.n169_ntmps ρ
  go_wp2
  go_region_o
  all_goals (go_wp2; go_ret; exact ⟨rfl, rfl⟩)
set_option maxHeartbeats 1000000 in
theorem bstr_noroom (L : Lays.n169 P ρ) (X : Builder.Extra P ρ) (b g : Nat) (p : Value) (cur : Array Value) (et : TypeId) (w : World) (hbk : w.heap[b]? = some (.cells #[p, .slice (some ⟨g, 0, none⟩) 0 0] (ρ.t 72) (0, 0))) (hg : w.heap[g]? = some (.cells cur et (0, 0))) :
    Calls P (ρ.f 169) #[.pointer (some ⟨b, 0, none⟩)] w fun e w' => e = .returned (.string ⟨#[]⟩) ∧ Below w.heap.size w w' := by
  have hUS := Any.unsafeString_none L X
  have hlt : b < w.heap.size := by
    rcases Nat.lt_or_ge b w.heap.size with h' | h'
    · exact h'
    · simp [Array.getElem?_eq_none h'] at hbk
  have c1 : w.drew.cell? ⟨b, 1, none⟩ = some (.slice (some ⟨g, 0, none⟩) 0 0) := by
    have : w.drew.heap[b]? = some (.cells #[p, .slice (some ⟨g, 0, none⟩) 0 0] (ρ.t 72) (0, 0)) := hbk
    rw [Lib.cell_of_heap this]; rfl
  have hSD : (Builtin.unsafeSliceData_ #[(ρ.t 37)] (ρ.t 127) #[.slice (some ⟨g, 0, none⟩) 0 0]).run P w.drew = .ok (.pointer (some ⟨w.drew.heap.size, 0, none⟩)) (w.drew.alloc (.view ⟨g, 0, none⟩ (ρ.t 5))) :=
    Lib.run_unsafeSliceData_zero w.drew _ _ (ρ.t 5) L.t127 ⟨g, 0, none⟩ 0 (et, cur.size) (by have hg' : w.drew.heap[g]? = some (.cells cur et (0, 0)) := hg; simp [World.shape?, hg'])
  have c2 : (w.drew.alloc (.view ⟨g, 0, none⟩ (ρ.t 5))).cell? ⟨b, 1, none⟩ = some (.slice (some ⟨g, 0, none⟩) 0 0) := by
    have : (w.drew.alloc (.view ⟨g, 0, none⟩ (ρ.t 5))).heap[b]? = _ := (Lib.alloc_old w.drew _ b hlt).trans hbk
    rw [Lib.cell_of_heap this]; rfl
  have c3 : (w.alloc (.view ⟨g, 0, none⟩ (ρ.t 5))).drew.cell? ⟨b, 1, none⟩ = some (.slice (some ⟨g, 0, none⟩) 0 0) := c2
  have c0 : w.cell? ⟨b, 1, none⟩ = some (.slice (some ⟨g, 0, none⟩) 0 0) := c1
  have mixed := L.mixed
  have t72 := L.t72; have a72 := L.a72; have z72 := L.z72; have v72 := L.v72; have u72 := run_underlying L.t72
  have t70 := L.t70; have a70 := L.a70; have z70 := L.z70; have v70 := L.v70; have u70 := run_underlying L.t70
  have t37 := L.t37; have a37 := L.a37; have z37 := L.z37; have v37 := L.v37; have u37 := run_underlying L.t37
  have t127 := L.t127; have a127 := L.a127; have z127 := L.z127; have v127 := L.v127; have u127 := run_underlying L.t127
  have t3 := L.t3; have a3 := L.a3; have z3 := L.z3; have v3 := L.v3; have u3 := run_underlying L.t3
  have t9 := L.t9; have a9 := L.a9; have z9 := L.z9; have v9 := L.v9; have u9 := run_underlying L.t9
  have t5 := X.t5; have a5 := X.a5; have z5 := X.z5; have v5 := X.v5; have u5 := run_underlying X.t5
  go_enter L.f169, Body.n169_ntmps ρ
  go_wp2
  go_region_o
  all_goals (go_wp2; go_ret; exact ⟨rfl, (Below.drew (Below.refl w.heap.size w)).alloc (Nat.le_refl _) _⟩)
end
theorem putO_self {w : World} {b : Nat} {o : Obj} (h : w.heap[b]? = some o) : putO w b o = w := by
  have : w.heap.setIfInBounds b o = w.heap := by
    apply Array.ext_getElem?
    intro i
    rw [Array.getElem?_setIfInBounds]
    split
    · rename_i hi
      subst hi
      split
      · exact h.symm
      · rename_i hn
        rw [Array.getElem?_eq_none (by omega)]
    · rfl
  unfold putO
  rw [this]
theorem bld_form {G : Gh} {w : World} {xs : List Int} {vs : List Value} {n : Nat} {A : List AVal} (hvs : Vals G [] (.bptr 0 [] :: A) vs) (hw : WOk G ⟨[.tbox 99 (.cons (.optp 0) (.cons (.own 0 (.int .u8) xs) .nil))], [], n⟩ w) :
    ∃ blk p A' cap vs', vs = .pointer (some ⟨blk, 0, none⟩) :: vs' ∧ Vals G [] A vs' ∧ G.addr[0]? = some blk ∧ w.heap[blk]? = some (.cells #[p, .slice A' xs.length cap] 99 (0, 0)) ∧ (p = .pointer none ∨ p = .pointer (some ⟨blk, 0, none⟩)) ∧
      RD G.imm (.list (.int .u8)) xs [.slice A' xs.length cap] ∧ ((xs = [] ∧ A' = none ∧ cap = 0) ∨ ∃ g row, A' = some ⟨g, 0, none⟩ ∧ G.own 0 = some (g, cap * 1) ∧ G.imm g = some row ∧ row.length = xs.length * 1 ∧ (xs = [] → cap = 0)) := by
  cases hvs with
  | cons hv t =>
    rename_i v vs'
    obtain ⟨blk, hblk, _, rfl⟩ := ptr_form hv
    obtain ⟨o, cs, hh, ⟨cells, rfl, rfl⟩, hc⟩ := hw.boxes 0 blk _ hblk rfl
    obtain ⟨c1, c2, e1, h1, c3, c4, rfl, h2, h3⟩ := hc
    obtain ⟨hr, A', cap, rfl, hor⟩ := h2
    have h3 : c4 = [] := h3
    subst h3
    have hp : ∃ p, c1 = [p] ∧ (p = .pointer none ∨ p = .pointer (some ⟨blk, 0, none⟩)) := by
      rcases h1 with rfl | ⟨blk', hb', rfl⟩
      · exact ⟨_, rfl, .inl rfl⟩
      · rw [hblk] at hb'
        cases hb'
        exact ⟨_, rfl, .inr rfl⟩
    obtain ⟨p, rfl, hp⟩ := hp
    refine ⟨blk, p, A', cap, vs', rfl, t, hblk, ?_, hp, hr, ?_⟩
    · have : cells = #[p, .slice A' xs.length cap] := by apply Array.ext'; simpa using e1
      rw [← this]; exact hh
    · rcases hor with hor | hor | hor
      · cases hor
      · exact .inl hor
      · exact .inr hor
abbrev BP : PTy := .tbox 99 (.cons (.optp 0) (.cons (.own 0 (.int .u8)) .nil))
abbrev BQ : PTy := .tbox 99 (.cons (.fix (.bptr 0 [])) (.cons (.own 0 (.int .u8)) .nil))
abbrev BR : PTy := .tbox 99 (.cons (.optp 0) (.cons (.dat (.list (.int .u8))) .nil))
abbrev bchk_CS : CSpec := ⟨[.fix (.bptr 0 [])], [BP], 1, [BQ], 1, .tup .nil⟩
def bchkM (b : Unit × (List Int × Unit)) : Option (Unit × ((Unit × (List Int × Unit)) × Unit)) := some ((), (((), (b.2.1, ())), ()))
noncomputable def bchkM_E : CEnt := boxE 91 bchk_CS fun x => bchkM x.2.1
theorem bchk_ent : Ent Tryd.prog 91 := ⟨by decide, enters_of Tryd.func91 (by kernel_rfl) rfl⟩
theorem bchkM_valid : bchkM_E.Valid Tryd.prog := by
  refine boxE_valid (S := bchk_CS) (by kernel_rfl) (.inr bchk_ent) fun x r h => ⟨.inr bchk_ent, fun G w vs hvs hw => Run.call bchk_ent.1 ?_⟩
  obtain ⟨xa, ⟨⟨u, xs, u'⟩, u2⟩⟩ := x
  simp only [bchkM, Option.some.injEq] at h
  subst h
  have hw : WOk G ⟨[.tbox 99 (.cons (.optp 0) (.cons (.own 0 (.int .u8) xs) .nil))], [], 1⟩ w := hw
  have hvs : Vals G [] [.bptr 0 []] vs := hvs
  obtain ⟨blk, p, A, cap, vs', rfl, hvs', hblk, hh, hp, hr, hor⟩ := bld_form hvs hw
  cases hvs'
  have hbox : Rc G [] (.tbox 99 (.cons (.bptr 0 []) (.cons (.own 0 (.int .u8) xs) .nil))) [.pointer (some ⟨blk, 0, none⟩), .slice A xs.length cap] :=
    ⟨[.pointer (some ⟨blk, 0, none⟩)], [.slice A xs.length cap], rfl, ⟨blk, hblk, trivial, rfl⟩, [.slice A xs.length cap], [], rfl, ⟨hr, A, cap, rfl, .inr hor⟩, rfl⟩
  have upd := upd_obj (c' := .tbox 99 (.cons (.bptr 0 []) (.cons (.own 0 (.int .u8) xs) .nil))) (o' := .cells #[.pointer (some ⟨blk, 0, none⟩), .slice A xs.length cap] 99 (0, 0)) (cs := [.pointer (some ⟨blk, 0, none⟩), .slice A xs.length cap]) hw hblk rfl rfl rfl hh ⟨_, rfl, rfl⟩ hbox
  have fin : ∀ e w', e = .returned (.tuple #[]) → w' = putO w blk (.cells #[.pointer (some ⟨blk, 0, none⟩), .slice A xs.length cap] 99 (0, 0)) →
      ∃ cv G', e = Ending.returned cv ∧ Rv G' [] (.tuple .nil) cv ∧ WOk G' ⟨[.tbox 99 (.cons (.bptr 0 []) (.cons (.own 0 (.int .u8) xs) .nil))], [], 1⟩ w' ∧ Ext G w G' w' ∧ ∀ i b, i < 1 → G.addr[i]? = some b → G'.addr[i]? = some b := fun e w' he hw' => by
    subst he hw'
    exact ⟨_, G, rfl, leaf_v rfl ⟨[], rfl, rfl⟩, upd.1, upd.2, fun i b _ h => h⟩
  have hlt := heap_lt hh
  rcases hp with rfl | rfl
  · refine (bchk_fresh blk w (by rw [cell_of_heap hh]; rfl) (by simp [World.shape?, hh]) (by simp [World.frozen?, hh])).mono ?_
    rintro e w' ⟨rfl, rfl⟩
    refine fin _ _ rfl ?_
    rw [setCell_putRow hh]
    rfl
  · refine (bchk_used blk w (by rw [cell_of_heap hh]; rfl)).mono ?_
    rintro e w' ⟨rfl, rfl⟩
    refine fin _ _ rfl ?_
    exact (putO_self hh).symm
theorem bld_drop {G : Gh} {w w' : World} {xs : List Int} {blk : Nat} {p : Value} {A : Option Addr} {cap : Nat} (hw : WOk G ⟨[.tbox 99 (.cons (.optp 0) (.cons (.own 0 (.int .u8) xs) .nil))], [], 1⟩ w) (hblk : G.addr[0]? = some blk) (hh : w.heap[blk]? = some (.cells #[p, .slice A xs.length cap] 99 (0, 0)))
    (hp : p = .pointer none ∨ p = .pointer (some ⟨blk, 0, none⟩)) (hr : RD G.imm (.list (.int .u8)) xs [.slice A xs.length cap]) (h1 : w'.os = w.os) (h2 : w'.tape = w.tape) (h3 : w'.output = w.output) (h4 : w.heap.size ≤ w'.heap.size)
    (hs : ∀ b, b < w.heap.size → w'.heap[b]? = w.heap[b]? ∨ ∃ cur e fr fr' n, w.heap[b]? = some (.cells cur e fr) ∧ w'.heap[b]? = some (.cells cur e fr') ∧ G.own 0 = some (b, n)) :
    WOk { G with own := fun _ => none } ⟨[.tbox 99 (.cons (.optp 0) (.cons (.d (.list (.int .u8)) xs) .nil))], [], 0⟩ w' ∧ Ext G w { G with own := fun _ => none } w' := by
  have hext : Ext G w { G with own := fun _ => none } w' := ⟨h1, h2, h3, h4, fun b hb _ ho => by
    rcases hs b hb with h | ⟨cur, e, fr, fr', n, _, _, h⟩
    · exact h
    · exact absurd h (ho 0 n), ImmLe.refl _, fun _ _ _ => rfl, fun b hb => .inl hb, fun t b n h => by cases h⟩
  have hlen : G.addr.length = 1 := hw.len
  have hno : ∀ t n, G.own t ≠ some (blk, n) := fun t n h => by
    rcases (hw.own t blk n h).2.1 with ⟨row, hi⟩ | ⟨_, hi⟩
    · have := hw.disj blk (List.mem_of_getElem? hblk)
      rw [this] at hi; cases hi
    · have := hi 0 _ hblk rfl
      simp [AVal.isT] at this
  refine ⟨⟨hlen, hw.nodup, fun i b c hb hc => ?_, fun b row hb => ?_, hw.disj, (fun t b n h => by cases h), (fun t t' b n n' h => by cases h), hw.tab.ext hext, fun i t T ys hx => ?_⟩, hext⟩
  · have hi : i = 0 := by have := (List.getElem?_eq_some_iff.1 hb).1; have : i < G.addr.length := this; omega
    subst hi
    have : b = blk := by have hb' : G.addr[0]? = some b := hb; rw [hblk] at hb'; cases hb'; rfl
    subst this
    have : c = .tbox 99 (.cons (.optp 0) (.cons (.d (.list (.int .u8)) xs) .nil)) := by simpa using hc.symm
    subst this
    refine ⟨_, [p, .slice A xs.length cap], ?_, ⟨#[p, .slice A xs.length cap], rfl, rfl⟩, ?_⟩
    · rcases hs b (heap_lt hh) with h | ⟨cur, e, fr, fr', n, _, _, h⟩
      · rw [h]; exact hh
      · exact absurd h (hno 0 n)
    · refine ⟨[p], [.slice A xs.length cap], rfl, ?_, [.slice A xs.length cap], [], rfl, hr, rfl⟩
      rcases hp with rfl | rfl
      · exact .inl rfl
      · exact .inr ⟨b, hblk, rfl⟩
  · obtain ⟨cells, e, fr, k1, k2⟩ := hw.imm b row hb
    rcases hs b (heap_lt k1) with h | ⟨cur, e', fr1, fr', n, h5, h6, _⟩
    · exact ⟨cells, e, fr, by rw [h]; exact k1, k2⟩
    · rw [k1] at h5
      simp only [Option.some.injEq, Obj.cells.injEq] at h5
      obtain ⟨rfl, rfl, rfl⟩ := h5
      exact ⟨cells, e, fr', h6, k2⟩
  · cases i with
    | zero => simp at hx
    | succ i => simp at hx
abbrev bstr_CS : CSpec := ⟨[.fix (.bptr 0 [])], [BP], 1, [BR], 0, .dat .str⟩
def isBytes (xs : List Int) : Bool := xs.all fun n => decide (0 ≤ n) && decide (n < 256)
def bstrM (b : Unit × (List Int × Unit)) : Option (ByteArray × ((Unit × (List Int × Unit)) × Unit)) := bif isBytes b.2.1 && decide (b.2.1.length ≤ LIM) then some (strI b.2.1, (((), (b.2.1, ())), ())) else none
noncomputable def bstrM_E : CEnt := boxE 69 bstr_CS fun x => bstrM x.2.1
theorem bstr_ent : Ent Tryd.prog 69 := ⟨by decide, enters_of Tryd.func69 (by kernel_rfl) rfl⟩
theorem bstrM_valid : bstrM_E.Valid Tryd.prog := by
  refine boxE_valid (S := bstr_CS) (by kernel_rfl) (.inr bstr_ent) fun x r h => ⟨.inr bstr_ent, fun G w vs hvs hw => Run.call bstr_ent.1 ?_⟩
  obtain ⟨xa, ⟨⟨u, xs, u'⟩, u2⟩⟩ := x
  unfold bstrM at h
  cases hb : isBytes xs && decide (xs.length ≤ LIM) with
  | false => simp only [hb, cond_false] at h; cases h
  | true =>
  simp only [hb, cond_true, Option.some.injEq] at h
  subst h
  simp only [Bool.and_eq_true, decide_eq_true_eq] at hb
  have hby : ∀ n ∈ xs, 0 ≤ n ∧ n < 256 := fun n hn => by simpa using List.all_eq_true.1 hb.1 n hn
  have hlim : xs.length ≤ 2 ^ 36 := hb.2
  have hw : WOk G ⟨[.tbox 99 (.cons (.optp 0) (.cons (.own 0 (.int .u8) xs) .nil))], [], 1⟩ w := hw
  have hvs : Vals G [] [.bptr 0 []] vs := hvs
  obtain ⟨blk, p, A, cap, vs', rfl, hvs', hblk, hh, hp, hr, hor⟩ := bld_form hvs hw
  cases hvs'
  have fin : ∀ e w', e = .returned (.string (strI xs)) → w'.os = w.os → w'.tape = w.tape → w'.output = w.output → w.heap.size ≤ w'.heap.size →
      (∀ b, b < w.heap.size → w'.heap[b]? = w.heap[b]? ∨ ∃ cur e fr fr' n, w.heap[b]? = some (.cells cur e fr) ∧ w'.heap[b]? = some (.cells cur e fr') ∧ G.own 0 = some (b, n)) →
      ∃ cv G', e = Ending.returned cv ∧ Rv G' [] (.d .str (strI xs)) cv ∧ WOk G' ⟨[.tbox 99 (.cons (.optp 0) (.cons (.d (.list (.int .u8)) xs) .nil))], [], 0⟩ w' ∧ Ext G w G' w' ∧ ∀ i b, i < 1 → G.addr[i]? = some b → G'.addr[i]? = some b := fun e w' he k1 k2 k3 k4 k5 => by
    subst he
    obtain ⟨q1, q2⟩ := bld_drop hw hblk hh hp hr k1 k2 k3 k4 k5
    exact ⟨_, _, rfl, leaf_v rfl rfl, q1, q2, fun i b _ h => h⟩
  have below : ∀ e w', e = .returned (.string (strI xs)) → Below w.heap.size w w' → ∃ cv G', e = Ending.returned cv ∧ Rv G' [] (.d .str (strI xs)) cv ∧ WOk G' ⟨[.tbox 99 (.cons (.optp 0) (.cons (.d (.list (.int .u8)) xs) .nil))], [], 0⟩ w' ∧ Ext G w G' w' ∧ ∀ i b, i < 1 → G.addr[i]? = some b → G'.addr[i]? = some b := fun e w' he hb =>
    fin e w' he hb.os hb.tape hb.output hb.size fun b h => .inl (hb.block b h)
  rcases hor with ⟨rfl, rfl, rfl⟩ | ⟨g, row, rfl, ho, hi, hrl, hne⟩
  · refine (Any.Builder_String_nil Tryd.lays169 Tryd.Builder_Extra_169 w.heap.size blk p w hh).mono ?_
    rintro e w' ⟨rfl, hb⟩
    exact below _ _ rfl hb
  · obtain ⟨_, _, cur, e, hg, hcs, hbr⟩ := hw.own 0 g _ ho
    by_cases hx : xs = []
    · subst hx
      have := hne rfl
      subst this
      obtain ⟨x2, e2⟩ : ∃ x2 e2, w.heap[g]? = some (.cells x2 e2 (0, 0)) := ⟨cur, e, hg⟩
      refine (bstr_noroom Tryd.lays169 Tryd.Builder_Extra_169 blk g p cur e w hh hg).mono ?_
      rintro e w' ⟨rfl, hb⟩
      exact below _ _ rfl hb
    · obtain ⟨A', cap', e1, hcap, hq⟩ := hr
      obtain ⟨b', off, row', e2, k1, k2, k3⟩ := hq hx
      simp only [List.cons.injEq, Value.slice.injEq, and_true, true_and] at e1
      obtain ⟨rfl, rfl⟩ := e1
      simp only [Option.some.injEq, Addr.mk.injEq] at e2
      obtain ⟨rfl, rfl, _⟩ := e2
      rw [hi] at k1
      cases k1
      obtain ⟨cells2, e2, fr, k4, k5⟩ := hw.imm g row hi
      rw [hg] at k4
      simp only [Option.some.injEq, Obj.cells.injEq] at k4
      obtain ⟨rfl, rfl, rfl⟩ := k4
      have hrow : row = xs.map (Value.int .u8) := bytes_cells xs row hrl (fun i x hix => by simpa [DTy.sz] using k3 i x hix)
      have hE : e = 5 := by
        cases xs with
        | nil => exact absurd rfl hx
        | cons x xs => exact hbr row x hi (by rw [hrow]; rfl)
      subst hE
      let l : List UInt8 := xs.map fun n => UInt8.ofNat n.toNat
      have hll : l.length = xs.length := by simp [l]
      have key := bstr_some Tryd.lays169 Tryd.Builder_Extra_169 blk g cap p cur l w (by simpa [l] using hx) (by rw [hll]; exact hh) hg (by rw [hll]; exact hcap) (by simpa using hcs) (by rw [hll]; omega) (fun j x hj => by
        have hj' : (xs.map fun n => UInt8.ofNat n.toNat)[j]? = some x := hj
        simp only [List.getElem?_map, Option.map_eq_some_iff] at hj'
        obtain ⟨n, hn, rfl⟩ := hj'
        have hn2 := hby n (List.mem_of_getElem? hn)
        have hrj : row[j]? = some (.int .u8 n) := by rw [hrow]; simp [hn]
        have : cur.toList[j]? = some (.int .u8 n) := prefix_getElem? k5 hrj
        rw [Array.getElem?_toList] at this
        rw [this]
        have : ((UInt8.ofNat n.toNat).toNat : Int) = n := by
          obtain ⟨m, rfl⟩ := Int.eq_ofNat_of_zero_le hn2.1
          have hm : m < 256 := by have h3 : ((m : Nat) : Int) < 256 := hn2.2; omega
          rw [UInt8.toNat_ofNat']
          show ((m % 2 ^ 8 : Nat) : Int) = m
          rw [Nat.mod_eq_of_lt hm]
        rw [this])
      refine key.mono ?_
      rintro e w' ⟨rfl, rfl⟩
      refine fin _ _ ?_ ?_ ?_ ?_ ?_ fun b hb => ?_
      · rfl
      · unfold World.freeze; split <;> rfl
      · unfold World.freeze; split <;> rfl
      · unfold World.freeze; split <;> rfl
      · unfold World.freeze; split
        · exact Nat.le_refl _
        · simp
      · by_cases hbg : b = g
        · subst hbg
          refine .inr ⟨cur, 5, (0, 0), (0, 0 + l.length), _, hg, ?_, ho⟩
          have hl0 : l.length ≠ 0 := by rw [hll]; simpa using hx
          unfold World.freeze
          rw [if_neg hl0]
          have hgl := heap_lt hg
          have hgd : w.drew.heap[b]? = some (.cells cur 5 (0, 0)) := hg
          simp only [Array.getElem?_modify, hgd]
          simp
        · left
          unfold World.freeze
          split
          · rfl
          · simp only [Array.getElem?_modify, if_neg (Ne.symm hbg)]
            rfl
theorem tabIs_of {G : Gh} {B : Bx} {w : World} (hw : WOk G B w) : Lib.TabIs Tryd.prog w "internal/strconv.uint64pow10" .u64 Lib.pow10Tab := by
  obtain ⟨⟨e, fr, h⟩, _⟩ := hw.tab _ (List.mem_cons_self : _ ∈ TABS)
  have hg : Tryd.prog.globalNamed "internal/strconv.uint64pow10" = some 0 := by kernel_rfl
  unfold Lib.TabIs World.var?
  rw [hg]
  simp only [Option.bind_some]
  rw [h]
  rfl
def itoaM (n : Int) : Option ByteArray := bif decide (-9223372036854775808 ≤ n) && decide (n ≤ 9223372036854775807) then some ⟨(Lib.itoa n).toArray⟩ else none
def itoaM_E : CEnt := pureE 68 [.dat (.int .i64)] (.dat .str) fun x => itoaM x.1
theorem grew_grow (w : World) (k : Nat) (os : Array Obj) : Grew w (grow (w.drewN k) os) :=
  ⟨rfl, rfl, rfl, by simp [grow, World.drewN], fun b hb => by simp [grow, World.drewN, Array.getElem?_append_left hb]⟩
theorem itoaM_valid : itoaM_E.Valid Tryd.prog := by
  have hent : Ent Tryd.prog 68 := ⟨by decide, enters_of Tryd.func68 (by kernel_rfl) rfl⟩
  refine pureE_valid (by kernel_rfl) (by kernel_rfl) hent (fun x r h => ⟨.inr hent, fun G w vs hvs hw => Run.call hent.1 ?_⟩)
  unfold itoaM at h
  cases hb : decide (-9223372036854775808 ≤ x.1) && decide (x.1 ≤ 9223372036854775807) with
  | false => rw [hb] at h; cases h
  | true =>
    rw [hb] at h
    simp only [cond_true, Option.some.injEq] at h
    simp only [Bool.and_eq_true, decide_eq_true_eq] at hb
    cases hvs with
    | cons hv t =>
      cases t
      have hvv := int_form hv
      subst hvv
      have hc : Calls Tryd.prog 68 #[.int .i64 x.1] w _ := Any.strconv_Itoa Tryd.laysM171 x.1 hb.1 hb.2 w (tabIs_of hw)
      refine hc.mono ?_
      rintro e w' ⟨rfl, k, os, rfl⟩
      subst h
      exact ⟨_, G, rfl, leaf_v rfl rfl, hw.grew (grew_grow w k os), (grew_grow w k os).ext G, fun i b _ hb => hb⟩
theorem index_one (l : List UInt8) (c : UInt8) : Lib.index l [c] = Lib.indexByte l c := by
  induction l with
  | nil => rfl
  | cons b l ih =>
    unfold Lib.index Lib.indexByte
    rw [ih]
    have e : List.isPrefixOf [c] (b :: l) = (b == c) := by
      simp only [List.isPrefixOf, Bool.and_true]
      exact Bool.eq_iff_iff.2 ⟨fun h => by simpa using (by simpa using h : c = b).symm, fun h => by simpa using (by simpa using h : b = c).symm⟩
    rw [e]
def genM (s sep : ByteArray) (sv n : Int) : Option (List ByteArray) := match sep.data.toList with
  | [c] => bif decide (s.size < 4294967281) && decide (sv = 0) && decide (n = -1) then some (Lib.splitB ⟨#[c]⟩ 0 (Lib.countB s ⟨#[c]⟩) s) else none
  | _ => none
def genM_E : CEnt := pureE 104 [.dat .str, .dat .str, .dat (.int .i64), .dat (.int .i64)] (.dat (.list .str)) fun x => genM x.1 x.2.1 x.2.2.1 x.2.2.2.1
theorem genM_valid : genM_E.Valid Tryd.prog := by
  have hent : Ent Tryd.prog 104 := ⟨by decide, enters_of Tryd.func104 (by kernel_rfl) rfl⟩
  refine pureE_valid (by kernel_rfl) (by kernel_rfl) hent (fun x r h => ⟨.inr hent, fun G w vs hvs hw => Run.call hent.1 ?_⟩)
  obtain ⟨s, sep, sv, n, u⟩ := x
  unfold genM at h
  split at h
  · rename_i c hc
    simp only at h
    cases hb : decide (ByteArray.size s < 4294967281) && decide (sv = (0 : Int)) && decide (n = (-1 : Int)) with
    | false => rw [hb] at h; cases h
    | true =>
      rw [hb] at h
      simp only [cond_true, Option.some.injEq] at h
      simp only [Bool.and_eq_true, decide_eq_true_eq] at hb
      obtain ⟨⟨hs, rfl⟩, rfl⟩ := hb
      cases hvs with
      | cons hv t =>
        cases t with
        | cons hse t =>
          cases t with
          | cons h3 t =>
            cases t with
            | cons h4 t =>
              cases t
              have e1 := str_form hv
              have e2 := str_form hse
              have e3 := int_form h3
              have e4 := int_form h4
              subst e1; subst e2; subst e3; subst e4
              have hsep : sep = ⟨#[c]⟩ := by
                obtain ⟨⟨l⟩⟩ := sep
                simp only at hc
                rw [hc]
              subst hsep
              have h1 : 1 ≤ ByteArray.size ⟨#[c]⟩ := Nat.le_refl _
              have hix : ∀ x : ByteArray, Lib.indexByte x.data.toList c = Lib.indexB x ⟨#[c]⟩ := fun x => (index_one _ _).symm
              have hcn : (Lib.countByte s.data.toList c : Int) = Lib.countB s ⟨#[c]⟩ := by
                show _ = ((Lib.count s.data.toList [c] : Nat) : Int)
                rw [Lib.count_one]
                rfl
              have hle := Lib.countB_le ⟨#[c]⟩ h1 (ByteArray.size s) s (Nat.le_refl _)
              have hlen := Lib.splitB_all ⟨#[c]⟩ h1 0 _ s rfl
              have hcl := Any.strings_genSplit_core (P := Tryd.prog) Tryd.lays221 (by kernel_rfl) s ⟨#[c]⟩ 0 (-1) (Lib.countB s ⟨#[c]⟩ + 1) w hs h1 (Nat.zero_le _)
                (fun x cs hx => (Any.strings_Index_one (P := Tryd.prog) { Tryd.lays221 with } x c _).mono fun e w' ⟨he, hw'⟩ => ⟨by rw [he, hix], hw'⟩)
                ((Any.strings_Count_one (P := Tryd.prog) { Tryd.lays221 with } s c w).mono fun e w' ⟨he, hw'⟩ => ⟨by rw [he, hcn], hw'⟩)
                (by decide) (by decide) (by rw [if_pos (by decide)]; omega)
              rw [Nat.add_sub_cancel, hlen] at hcl
              have hcl' : Calls Tryd.prog 104 #[.string s, .string ⟨#[c]⟩, .int .i64 0, .int .i64 (-1)] w _ := hcl
              refine hcl'.mono ?_
              rintro e w' ⟨rfl, rfl⟩
              subst h
              obtain ⟨G', g1, g2, g3, g4⟩ := new_rowD (T := .str) (xs := Lib.splitB ⟨#[c]⟩ 0 (Lib.countB s ⟨#[c]⟩) s) (row := (Lib.splitB ⟨#[c]⟩ 0 (Lib.countB s ⟨#[c]⟩) s).map Value.string) (cells := Lib.cellsOf (Lib.splitB ⟨#[c]⟩ 0 (Lib.countB s ⟨#[c]⟩) s) (Lib.countB s ⟨#[c]⟩ + 1)) (e := Tryd.lays221_ren.t 9) hw (by unfold Lib.cellsOf; exact List.prefix_append _ _) (by simp [DTy.sz]) (fun i x hi => by
                have hl := (List.getElem?_eq_some_iff.1 hi)
                obtain ⟨hl, hx⟩ := hl
                show ((List.map Value.string _).drop (i * 1)).take 1 = [.string x]
                rw [Nat.mul_one, List.drop_eq_getElem_cons (by simpa using hl)]
                simp [hx])
              rw [hlen] at g1
              exact ⟨_, G', rfl, g1, g2, g4, fun i b hi _ => absurd hi (by omega)⟩
  · cases h
theorem lvNil (c : Code) : LV 0 Tryd.prog false (loopsOf c) [] := by unfold LV; cases loopsOf c <;> trivial
end Go.Proofs.YtcijddeommognaaDoor.Abs
set_option linter.unusedVariables false
set_option linter.unusedSimpArgs false
set_option maxRecDepth 100000
namespace Go.Proofs.YtcijddeommognaaDoor.Abs
open Go.Shelf Go.RowKit
theorem clo_idle (a0 a1 : Value) (w : World) : CallsDIn Fence.wide 0 Tryd.prog 71 #[a0, a1] .returning w fun e u' w' => (∃ v, e = .returned v) ∧ u' = .returning ∧ w' = w := by
  have mixed : Tryd.prog.follows .mixedOrders = true := by kernel_rfl
  have t20 := Tryd.underlying20; have a20 := Tryd.isAgg20; have z20 := Tryd.sizeOf20; have u20 := run_underlying Tryd.underlying20
  refine callsDIn_of_wpSIn Tryd.func71 rfl trivial fun c₀ cs hu => ?_
  apply wpSIn_seq
  apply wpSIn_region
  simp [wpOpsSIn, go_sem, recoverD, hu, Tryd.ntmps71, Exit.thenS]
  refine wpSIn_of_wpIn rfl ?_
  gi_wp2
  cases c₀
  simp_all [bodyPostS, results, Tryd.results71]
noncomputable def cloR : Code := seqR (conL (seqR (conR (seqR (blkC (seqR (bodyOf Tryd.f71)))))))
set_option maxHeartbeats 1000000 in
theorem clo_pan (s : ByteArray) (a0 a1 : Value) (w : World) (R : World → Prop)
    (hR : ∀ (tm : Array Value) (w1 : World), tm.size = 11 → tm[0]? = some a0 → tm[1]? = some a1 → w1 = w.alloc (.cells #[.string s] 108) → cloR.wpIn Fence.wide 0 Tryd.prog (fun e a' w' => e = .normal ∧ a'.defers = [] ∧ R w') { tmps := tm, defers := [] } w1) :
    CallsDIn Fence.wide 0 Tryd.prog 71 #[a0, a1] (.panicking [{ v := .iface 108 (wrongV s), recovered := false }]) w fun e u' w' => (∃ v, e = .returned v) ∧ u' = .panicking [{ v := .iface 108 (wrongV s), recovered := true }] ∧ R w' := by
  have mixed : Tryd.prog.follows .mixedOrders = true := by kernel_rfl
  have t20 := Tryd.underlying20; have a20 := Tryd.isAgg20; have z20 := Tryd.sizeOf20; have u20 := run_underlying Tryd.underlying20
  have t108 := Tryd.underlying108; have a108 := Tryd.isAgg108; have z108 := Tryd.sizeOf108; have u108 := run_underlying Tryd.underlying108; have v108 := Tryd.zeroValue108
  refine callsDIn_of_wpSIn Tryd.func71 rfl trivial fun c₀ cs hu => ?_
  apply wpSIn_seq
  apply wpSIn_region
  simp [wpOpsSIn, go_sem, recoverD, hu, Tryd.ntmps71, Exit.thenS]
  refine wpSIn_of_wpIn rfl ?_
  conv in (Code.region 7 _ _) => change cloR
  generalize cloR = r7 at hR ⊢
  unfold wrongV
  have ta : ∀ v w, (Instr.typeAssert (.iface 108 v) 20 108 true).run Tryd.prog w = .ok (.tuple #[v, .bool true]) w := by
    intro v w
    unfold Instr.typeAssert
    simp [Sem.run_bind, u108]
  gi_wp2
  refine wpIn_mono (hR _ _ ?_ ?_ ?_ rfl) ?_
  · simp
  · simp
  · simp
  rintro e a' w' ⟨rfl, hd, hR'⟩
  refine ⟨hd, _, rfl, .tuple #[], ?_, ⟨_, rfl⟩, rfl, hR'⟩
  simp [results, Tryd.results71]
noncomputable def cloOps : Array Oper := match cloR with
  | .region _ ops _ => ops
  | _ => #[]
theorem cloR_is : cloR = .region 7 cloOps false := by kernel_rfl
theorem clo_ok : CloOk Tryd.prog 71 (.region 7 cloOps false) 108 2 11 := by
  have three : ∀ vs : Array Value, vs.size = 2 → ∃ a0 a1, vs = #[a0, a1] := fun vs h => by
    obtain ⟨l⟩ := vs
    match l, h with
    | [a0, a1], _ => exact ⟨a0, a1, rfl⟩
  refine ⟨⟨by decide, enters_of Tryd.func71 (by kernel_rfl) rfl⟩, fun vs w hs => ?_, fun s vs w R hs hR => ?_⟩
  · obtain ⟨a0, a1, rfl⟩ := three vs hs
    exact clo_idle a0 a1 w
  · obtain ⟨a0, a1, rfl⟩ := three vs hs
    refine clo_pan s a0 a1 w R fun tm w1 h1 h2 h3 h5 => ?_
    rw [cloR_is]
    refine hR tm w1 h1 (fun i hi => ?_) ⟨_, _, h5⟩
    match i, hi with
    | 0, _ => exact h2
    | 1, _ => exact h3
end Go.Proofs.YtcijddeommognaaDoor.Abs
set_option linter.unusedVariables false
set_option linter.unusedSimpArgs false
set_option maxRecDepth 100000
namespace Go.Proofs.YtcijddeommognaaDoor.Abs
open Go.Shelf Go.RowKit
theorem wpIn_at {F : Fence} {n : Nat} {P : Program} {Q : Exit → Act → World → Prop} {a : Act} {w : World} {c c' : Code} (h : c = c') (hw : c'.wpIn F n P Q a w) : c.wpIn F n P Q a w := h ▸ hw
theorem gd_set {tm : Array Value} {t : Nat} {v : Value} (h : t < tm.size) (u : Nat) : (tm.setIfInBounds t v).getD u undef = if u = t then v else tm.getD u undef := by
  simp only [Array.getD_eq_getD_getElem?, Array.getElem?_setIfInBounds]
  by_cases hu : t = u
  · subst hu; simp [h]
  · rw [if_neg hu, if_neg (Ne.symm hu)]
theorem ev_tmp (tm : Array Value) (ds : List Deferred) (t : Nat) : Act.eval ⟨tm, ds⟩ (.tmp t) = tm.getD t undef := rfl
theorem ev_const (tm : Array Value) (ds : List Deferred) (v : Value) : Act.eval ⟨tm, ds⟩ (.const v) = v := rfl
theorem put_some (tm : Array Value) (ds : List Deferred) (t : Nat) (v : Value) : Act.put ⟨tm, ds⟩ (some t) v = ⟨tm.setIfInBounds t v, ds⟩ := rfl
theorem put_none (tm : Array Value) (ds : List Deferred) (v : Value) : Act.put ⟨tm, ds⟩ none v = ⟨tm, ds⟩ := rfl
theorem run_storeF {P : Program} {w : World} {t : TypeId} {ti : TypeInfo} {b o : Nat} {cells : Array Value} {e : TypeId} {fr : Nat × Nat} {v : Int} (hti : P.info? t = some ti) (hsz : ti.size = 1) (h : w.heap[b]? = some (.cells cells e fr)) (ho : o < cells.size) (hfr : cells.size ≤ fr.1) :
    ∃ w', (Instr.storeAt t (.pointer (some ⟨b, o, none⟩)) (.int .u8 v)).run P w = .ok () w' ∧ w'.heap = w.heap.setIfInBounds b (.cells (cells.setIfInBounds o (.int .u8 v)) e fr) ∧ w'.os = w.os ∧ w'.tape = w.tape ∧ w'.output = w.output := by
  have hc : w.cell? ⟨b, o, none⟩ = some cells[o] := by rw [cell_of_heap h]; exact Array.getElem?_eq_getElem ho
  have hf : w.frozen? ⟨b, o, none⟩ = false := by simp [World.frozen?, h]; omega
  have hlt := heap_lt h
  refine ⟨w.setCell ⟨b, o, none⟩ (.int .u8 v), ?_, ?_, rfl, rfl, rfl⟩
  · unfold Instr.storeAt
    simp only [Instr.sureAddr, Sem.run_bind, Sem.run_pure, Result.andThen_ok]
    unfold storeVar
    simp only [Sem.run_bind, run_sizeOf' hti, Result.andThen_ok, hsz]
    simp [Value.cells, storeCells, Sem.run_bind, addr_add, store, Sem.run, hc, hf]
  · unfold World.setCell
    simp only [Option.isSome_none, Bool.false_eq_true, if_false]
    apply Array.ext
    · simp
    · intro i h1 h2
      simp only [Array.getElem_modify, Array.getElem_setIfInBounds]
      by_cases hi : b = i
      · subst hi
        have := (Array.getElem?_eq_some_iff.1 h).2
        simp [this]
      · rw [if_neg hi]
        exact (Array.getElem_setIfInBounds_ne (by simpa using h1) hi).symm
theorem bytesRow_set (s : ByteArray) (cap : Nat) (i : Nat) (v : Int) (hi : i < s.size) (hcap : s.size ≤ cap) : ((bytesI s).set i v).map (Value.int .u8) <+: ((bytesRow s cap).setIfInBounds i (.int .u8 v)).toList := by
  have e1 : (bytesRow s cap).toList = (bytesI s).map (Value.int .u8) ++ List.replicate (cap - s.size) (.int .u8 0) := by
    unfold bytesRow bytesI
    simp [List.map_map]
  rw [Array.toList_setIfInBounds, e1, List.set_append_left _ _ (by simpa [bytesI_len] using hi), List.map_set]
  exact List.prefix_append _ _
def spoilB (d : Int) : Int := IntKind.wrap .u8 (IntKind.wrap .i64 (48 + d))
set_option maxHeartbeats 1000000 in
theorem spoil_ok : SpoilOk Tryd.prog (seq1 (tailC 5 (bodyOf Tryd.f14))) (seq1 (seq2 (tailC 5 (bodyOf Tryd.f14)))) 73 7 1 2 9 [66, 67, 68, 69, 70, 71, 72, 73] spoilB := by
  intro a w s i d c Q hsz h1 h2 h3 h0 hi hQ
  obtain ⟨tm, ds⟩ := a
  simp only at h1 h2 h3 hQ
  replace hsz : (73 : Nat) < tm.size := hsz
  have z9 : 9 < tm.size := by omega
  have z66 : 66 < tm.size := by omega
  have z67 : 67 < tm.size := by omega
  have z68 : 68 < tm.size := by omega
  have z69 : 69 < tm.size := by omega
  have z70 : 70 < tm.size := by omega
  have z71 : 71 < tm.size := by omega
  have z72 : 72 < tm.size := by omega
  have z73 : 73 < tm.size := by omega
  have hcap := grownCap_ge w s.size 0 5
  obtain ⟨cap, ecap⟩ : ∃ cap, cap = grownCap w s.size 0 5 := ⟨_, rfl⟩
  have hrow : (bytesRow s cap).size = cap := by rw [ecap]; unfold bytesRow; simp; omega
  refine wpIn_at (c' := .seq (.region _ _ _) (.seq (.region _ _ _) c)) rfl ?_
  refine wpIn_seq (wpIn_region_list ?_)
  refine spoil_step (v := .string s) (w' := w) rfl (by simp only [execOp, ev_tmp, h1]; rfl) ?_
  simp only [put_some]
  refine spoil_step (v := .slice (some ⟨w.heap.size, 0, none⟩) s.size cap) (w' := w.drew.alloc (.cells (bytesRow s cap) 5 (cap, cap + 1))) rfl (by
    simp only [execOp, ev_tmp, gd_set z66, if_true]
    rw [Sem.run_bind, run_bytes_of_string (P := Tryd.prog) w 9 78 5 s Tryd.underlying9 Tryd.underlying78 Tryd.underlying5, ← ecap, hrow]
    rfl) ?_
  simp only [put_some]
  refine spoil_step (v := .slice (some ⟨w.heap.size, 0, none⟩) s.size cap) rfl (by simp [execOp, ev_tmp, gd_set, z66, z67]; rfl) ?_
  simp only [put_some]
  unfold wpListIn
  simp only [Exit.then]
  generalize hw1 : w.drew.alloc (.cells (bytesRow s cap) 5 (cap, cap + 1)) = w1
  refine wpIn_seq (wpIn_region_list ?_)
  have h2' : tm[1]?.getD undef = Value.int .i64 i := by rw [← h2, Array.getD_eq_getD_getElem?]
  have h3' : tm[2]?.getD undef = Value.int .i64 d := by rw [← h3, Array.getD_eq_getD_getElem?]
  refine spoil_step (v := .slice (some ⟨w.heap.size, 0, none⟩) s.size cap) (w' := w1) rfl (by simp [execOp, ev_tmp, gd_set, z9, z66, z67, z68, z69, z70, z71, z72, z73]) ?_
  simp only [put_some]
  refine spoil_step (v := .int .i64 i) (w' := w1) rfl (by simp [execOp, ev_tmp, gd_set, z9, z66, z67, z68, z69, z70, z71, z72, z73, h2']) ?_
  simp only [put_some]
  refine spoil_step (v := .int .i64 d) (w' := w1) rfl (by simp [execOp, ev_tmp, gd_set, z9, z66, z67, z68, z69, z70, z71, z72, z73, h3']) ?_
  simp only [put_some]
  refine spoil_step (v := .int .i64 (IntKind.wrap .i64 (48 + d))) (w' := w1) rfl (by simp [execOp, ev_tmp, ev_const, gd_set, z9, z66, z67, z68, z69, z70, z71, z72, z73]; rfl) ?_
  simp only [put_some]
  refine spoil_step (v := .int .u8 (spoilB d)) (w' := w1) rfl (by simp [execOp, ev_tmp, ev_const, gd_set, z9, z66, z67, z68, z69, z70, z71, z72, z73]; rfl) ?_
  simp only [put_some]
  refine spoil_step (v := .pointer (some ⟨w.heap.size, i.toNat, none⟩)) (w' := w1) rfl (by
    simp only [execOp, ev_tmp, gd_set, z9, z66, z67, z68, z69, z70, z71, z72, z73, Array.size_setIfInBounds, if_true, reduceIte]
    simp only [show ¬ ((68 : Nat) = 69) by decide, show ¬ ((68 : Nat) = 70) by decide, show ¬ ((68 : Nat) = 71) by decide, show ¬ ((68 : Nat) = 72) by decide, show ¬ ((69 : Nat) = 70) by decide, show ¬ ((69 : Nat) = 71) by decide, show ¬ ((69 : Nat) = 72) by decide, if_false]
    obtain ⟨ti, hti, hsz⟩ : ∃ ti, Tryd.prog.info? 5 = some ti ∧ ti.size = 1 := ⟨_, rfl, rfl⟩
    rw [Sem.run_bind, Abs.run_indexAt_slice Tryd.underlying78 hti h0 hi, hsz]
    simp) ?_
  simp only [put_some]
  have hh : w1.heap = w.heap.push (.cells (bytesRow s cap) 5 (cap, cap + 1)) := by rw [← hw1]; rfl
  have hat : w1.heap[w.heap.size]? = some (.cells (bytesRow s cap) 5 (cap, cap + 1)) := by rw [hh]; simp
  have hin : i.toNat < s.size := by omega
  have hcap' : s.size ≤ cap := by omega
  obtain ⟨ti, hti, htsz⟩ : ∃ ti, Tryd.prog.info? 5 = some ti ∧ ti.size = 1 := ⟨_, rfl, rfl⟩
  obtain ⟨w2, hrun, e1, e2, e3, e4⟩ := run_storeF (P := Tryd.prog) (w := w1) (t := 5) (o := i.toNat) (v := spoilB d) hti htsz hat (by rw [hrow]; omega) (by rw [hrow]; exact Nat.le_refl _)
  refine spoil_skip (w' := w2) rfl ?_ ?_
  · simp only [execOp, ev_tmp, gd_set, z9, z66, z67, z68, z69, z70, z71, z72, z73, Array.size_setIfInBounds, if_true, reduceIte]
    simp only [show ¬ ((72 : Nat) = 73) by decide, if_false]
    rw [Sem.run_bind, hrun]
    rfl
  · simp only [put_none]
    unfold wpListIn
    simp only [Exit.then]
    refine hQ _ w2 _ 5 (cap, cap + 1) cap rfl (by simp) (fun t ht => ?_) (fun _ => ?_) hcap' ?_ ?_ ?_ ?_ (bytesRow_set s cap i.toNat (spoilB d) hin hcap')
    · simp only [List.mem_cons, List.not_mem_nil, or_false, not_or] at ht
      obtain ⟨a0, a1, a2, a3, a4, a5, a6, a7, a8⟩ := ht
      simp only [gd_set, z9, z66, z67, z68, z69, z70, z71, z72, z73, Array.size_setIfInBounds, a0, a1, a2, a3, a4, a5, a6, a7, a8, if_false]
    · simp [gd_set, z9, z66, z67, z68, z69, z70, z71, z72, z73]
    · rw [e1, hh]
      apply Array.ext'
      simp
    · rw [e2, ← hw1]; rfl
    · rw [e3, ← hw1]; rfl
    · rw [e4, ← hw1]; rfl
end Go.Proofs.YtcijddeommognaaDoor.Abs
