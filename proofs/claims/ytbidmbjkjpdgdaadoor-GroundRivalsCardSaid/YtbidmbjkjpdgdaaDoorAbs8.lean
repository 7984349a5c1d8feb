/-
  The abstract semantics, eighth part: rows that a call makes, and appends to.
-/
import Derived.Test.YtbidmbjkjpdgdaaDoorAbs7
set_option linter.unusedVariables false
set_option linter.unusedSimpArgs false
namespace Go.Proofs.YtbidmbjkjpdgdaaDoor.Abs

/-- A row more, owned by a token; some token owns no more. -/
def Bx.row (B : Bx) (kill : List Nat) : Bx := { B with dead := kill ++ B.dead, nt := B.nt + 1 }

theorem dropOwn {G : Gh} {B : Bx} {w : World} (hw : WOk G B w) (kill : List Nat) : WOk { G with own := fun t => if t ∈ kill then none else G.own t } { B with dead := kill ++ B.dead } w ∧ GLe G B.dead { G with own := fun t => if t ∈ kill then none else G.own t } (kill ++ B.dead) ∧ Ext G w { G with own := fun t => if t ∈ kill then none else G.own t } w := by
  have hle : GLe G B.dead { G with own := fun t => if t ∈ kill then none else G.own t } (kill ++ B.dead) := ⟨ImmLe.refl _, List.prefix_refl _, fun t h => List.mem_append_right _ h, fun t b n row ht h1 h2 => ⟨by simp only; rw [if_neg (fun h => ht (List.mem_append_left _ h))]; exact h1, h2⟩⟩
  have inv : ∀ t b n, (if t ∈ kill then none else G.own t) = some (b, n) → G.own t = some (b, n) := fun t b n h => by
    split at h
    · cases h
    · exact h
  have hext : Ext G w { G with own := fun t => if t ∈ kill then none else G.own t } w := ⟨rfl, rfl, rfl, Nat.le_refl _, fun _ _ _ _ => rfl, ImmLe.refl _, fun _ _ _ => rfl, fun _ h => .inl h, fun t b n h => .inl ⟨t, inv t b n h⟩⟩
  refine ⟨⟨hw.len, hw.nodup, fun i b c hb hc => (hw.boxes i b c hb hc).mono hle rfl, hw.imm, hw.disj, fun t b n ht => hw.own t b n (inv t b n ht), fun t t' b n n' h h' => hw.inj t t' b n n' (inv _ _ _ h) (inv _ _ _ h'), hw.tab.ext hext⟩, hle, hext⟩

/-- A block more, of which the first cells are known, and which a new token owns. -/
theorem new_row {G : Gh} {B : Bx} {w : World} {T : DTy} {xs : List T.El} {row : List Value} {cells : Array Value} {e : TypeId} {cap : Nat} (hw : WOk G B w) (hp : row <+: cells.toList) (hsz : cells.size = cap * T.sz) (hl : row.length = xs.length * T.sz) (hcap : xs.length ≤ cap)
    (hx : ∀ (i : Nat) (x : T.El), xs[i]? = some x → RD G.imm T x ((row.drop (i * T.sz)).take T.sz)) :
    ∃ G', Rv G' B.dead (.own B.nt T xs) (.slice (some ⟨w.heap.size, 0, none⟩) xs.length cap) ∧ WOk G' { B with nt := B.nt + 1 } (w.alloc (.cells cells e)) ∧ GLe G B.dead G' B.dead ∧ Ext G w G' (w.alloc (.cells cells e)) := by
  have hno : G.imm w.heap.size = none := by
    cases hi : G.imm w.heap.size with
    | none => rfl
    | some row => have := hw.imm_lt hi; omega
  have hnt : G.own B.nt = none := by
    cases hi : G.own B.nt with
    | none => rfl
    | some p => have := (hw.own B.nt p.1 p.2 hi).1; omega
  let G' : Gh := { G with imm := fun b => if b = w.heap.size then some row else G.imm b, own := fun t => if t = B.nt then some (w.heap.size, cells.size) else G.own t }
  have himm : ImmLe G.imm G'.imm := fun b r hb => by
    refine ⟨r, ?_, List.prefix_refl _⟩
    show (if b = w.heap.size then some row else G.imm b) = some r
    rw [if_neg (fun h => by subst h; rw [hno] at hb; cases hb)]
    exact hb
  have hle : GLe G B.dead G' B.dead := by
    refine ⟨himm, List.prefix_refl _, fun _ h => h, fun t b n r ht h1 h2 => ⟨?_, ?_⟩⟩
    · show (if t = B.nt then some (w.heap.size, cells.size) else G.own t) = _
      rw [if_neg (fun h => by subst h; rw [hnt] at h1; cases h1)]
      exact h1
    · show (if b = w.heap.size then some row else G.imm b) = some r
      rw [if_neg (fun h => by subst h; rw [hno] at h2; cases h2)]
      exact h2
  have hself : G'.imm w.heap.size = some row := by simp [G']
  have hext : Ext G w G' (w.alloc (.cells cells e)) := by
    refine ⟨rfl, rfl, rfl, by simp, fun b hb _ _ => heap_push_lt hb, himm, fun b hb _ => ?_, fun _ h => .inl h, fun t b n ht => ?_⟩
    · show (if b = w.heap.size then some row else G.imm b) = G.imm b
      rw [if_neg (by omega)]
    · have ht' : (if t = B.nt then some (w.heap.size, cells.size) else G.own t) = some (b, n) := ht
      by_cases htn : t = B.nt
      · rw [if_pos htn] at ht'
        simp only [Option.some.injEq, Prod.mk.injEq] at ht'
        exact .inr (by omega)
      · rw [if_neg htn] at ht'
        exact .inl ⟨t, ht'⟩
  refine ⟨G', ?_, ?_, hle, hext⟩
  · refine leaf_v rfl ⟨?_, some ⟨w.heap.size, 0, none⟩, cap, rfl, .inr (.inr ⟨w.heap.size, row, rfl, by simp [G', hsz], hself, hl⟩)⟩
    exact ⟨_, cap, rfl, hcap, fun _ => ⟨w.heap.size, 0, row, rfl, hself, by omega, fun i x hi => by rw [Nat.zero_add]; exact (hx i x hi).mono himm⟩⟩
  · refine ⟨hw.len, hw.nodup, fun i b c hb hc => ?_, fun b r hb => ?_, fun b hb => ?_, fun t b n ht => ?_, fun t t' b n n' h h' => ?_, hw.tab.ext hext⟩
    · have hbo := hw.boxes i b c hb hc
      obtain ⟨_, _, hh, _⟩ := id hbo
      exact hbo.mono hle (heap_push_lt (heap_lt hh))
    · by_cases hbs : b = w.heap.size
      · subst hbs
        rw [hself] at hb
        cases hb
        exact ⟨cells, e, (0, 0), heap_push_eq, hp⟩
      · have hb' : G.imm b = some r := by
          have : (if b = w.heap.size then some row else G.imm b) = some r := hb
          rwa [if_neg hbs] at this
        obtain ⟨cs, e', fr, hh, hpp⟩ := hw.imm b r hb'
        exact ⟨cs, e', fr, by rw [heap_push_lt (heap_lt hh)]; exact hh, hpp⟩
    · have := hw.addr_lt hb
      show (if b = w.heap.size then some row else G.imm b) = none
      rw [if_neg (by omega)]
      exact hw.disj b hb
    · have ht' : (if t = B.nt then some (w.heap.size, cells.size) else G.own t) = some (b, n) := ht
      by_cases htn : t = B.nt
      · rw [if_pos htn] at ht'
        simp only [Option.some.injEq, Prod.mk.injEq] at ht'
        obtain ⟨rfl, rfl⟩ := ht'
        exact ⟨by subst htn; exact Nat.lt_succ_self _, ⟨row, hself⟩, cells, e, heap_push_eq, rfl⟩
      · rw [if_neg htn] at ht'
        obtain ⟨h1, ⟨r, h2⟩, cs, e', hh, hs⟩ := hw.own t b n ht'
        obtain ⟨r', h2', _⟩ := himm b r h2
        exact ⟨Nat.lt_succ_of_lt h1, ⟨r', h2'⟩, cs, e', by rw [heap_push_lt (heap_lt hh)]; exact hh, hs⟩
    · have h1 : (if t = B.nt then some (w.heap.size, cells.size) else G.own t) = some (b, n) := h
      have h2 : (if t' = B.nt then some (w.heap.size, cells.size) else G.own t') = some (b, n') := h'
      have lt : ∀ t b n, G.own t = some (b, n) → b < w.heap.size := fun t b n ho => by
        obtain ⟨_, _, cs, e', hh, _⟩ := hw.own t b n ho
        exact heap_lt hh
      by_cases a1 : t = B.nt <;> by_cases a2 : t' = B.nt
      · rw [a1, a2]
      · rw [if_pos a1] at h1; rw [if_neg a2] at h2
        simp only [Option.some.injEq, Prod.mk.injEq] at h1
        have := lt _ _ _ h2; omega
      · rw [if_neg a1] at h1; rw [if_pos a2] at h2
        simp only [Option.some.injEq, Prod.mk.injEq] at h2
        have := lt _ _ _ h1; omega
      · rw [if_neg a1] at h1; rw [if_neg a2] at h2
        exact hw.inj t t' b n n' h1 h2

/-! ### A literal of a slice -/
theorem foldl_put {off : Nat} : ∀ (vs : List Value) (k : Nat) (cells : Array Value), off + k + vs.length ≤ cells.size →
    (List.foldl (fun (cs : Array Value) (p : Value × Nat) => cs.setIfInBounds (off + p.2) p.1) cells (vs.zipIdx k)).toList = putCells cells.toList (off + k) vs
  | [], k, cells, h => by simp [putCells]
  | v :: vs, k, cells, h => by
    simp only [List.length_cons] at h
    rw [List.zipIdx_cons, List.foldl_cons, foldl_put vs (k + 1) _ (by simp; omega), setIf_put (by omega), ← Nat.add_assoc off k 1, putCells_snoc (by simp; omega)]

theorem fill_seq {size : Nat} : ∀ (vs : List Value) (j : Nat) (cells : Array Value), (∀ v ∈ vs, v.cells.size = size) → (j + vs.length) * size = cells.size →
    ∃ out, Instr.fill (fun i => some (i * size, size)) cells ((vs.zipIdx j).map fun p => (p.2, p.1)) = some out ∧ out.toList = cells.toList.take (j * size) ++ (vs.map fun v => v.cells.toList).flatten
  | [], j, cells, hv, hl => by
    refine ⟨cells, rfl, ?_⟩
    simp only [List.length_nil, Nat.add_zero] at hl
    simp [List.take_of_length_le, hl]
  | v :: vs, j, cells, hv, hl => by
    have hvs := hv v (by simp)
    have hlen : (j + 1 + vs.length) * size = cells.size := by rw [← hl]; congr 1; simp; omega
    have hroom : j * size + size ≤ cells.size := by
      rw [← hlen]
      have : j * size + size = (j + 1) * size := by rw [Nat.add_mul, Nat.one_mul]
      rw [this]
      exact Nat.mul_le_mul_right _ (by omega)
    simp only [List.zipIdx_cons, List.map_cons, Instr.fill]
    have hc : ¬ (v.cells.size ≠ size ∨ j * size + v.cells.size > cells.size) := by rw [hvs]; omega
    have hc' : (decide (v.cells.size ≠ size) || decide (j * size + v.cells.size > cells.size)) = false := by simpa using hc
    have hput : (Array.foldl (fun (cs : Array Value) (x : Value × Nat) => match x with | (c, k) => cs.setIfInBounds (j * size + k) c) cells v.cells.zipIdx).toList = putCells cells.toList (j * size) v.cells.toList := by
      have := foldl_put (off := j * size) v.cells.toList 0 cells (by simp [hvs]; omega)
      rw [← Array.foldl_toList, Array.toList_zipIdx]
      simpa using this
    generalize hg : Array.foldl (fun (cs : Array Value) (x : Value × Nat) => match x with | (c, k) => cs.setIfInBounds (j * size + k) c) cells v.cells.zipIdx = mid at hput
    have hms : mid.size = cells.size := by
      rw [← Array.length_toList, hput, putCells_len (by simp [hvs]; omega)]; simp
    obtain ⟨out, h1, h2⟩ := fill_seq vs (j + 1) mid (fun u hu => hv u (by simp [hu])) (by rw [hms]; exact hlen)
    refine ⟨out, ?_, ?_⟩
    · rw [if_neg (by simpa using hc)]
      exact h1
    · rw [h2, hput]
      have e1 : (j + 1) * size = j * size + size := by rw [Nat.add_mul, Nat.one_mul]
      rw [e1]
      have : (putCells cells.toList (j * size) v.cells.toList).take (j * size + size) = cells.toList.take (j * size) ++ v.cells.toList := by
        unfold putCells
        rw [List.take_append_of_le_length (by simp [hvs]; omega), List.take_of_length_le (by simp [hvs]; omega)]
      rw [this]
      simp

end Go.Proofs.YtbidmbjkjpdgdaaDoor.Abs
