/-
  The abstract semantics, seventh part: stores; new rows.
-/
import Derived.Test.YtbidmbjkjpdgdaaDoorAbs6
set_option linter.unusedVariables false
set_option linter.unusedSimpArgs false
namespace Go.Proofs.YtbidmbjkjpdgdaaDoor.Abs

/-- The world with one block's cells written anew. -/
def putRow (w : World) (b : Nat) (cells : Array Value) (e : TypeId) : World := { w with heap := w.heap.setIfInBounds b (.cells cells e (0, 0)) }
theorem putRow_size (w : World) (b : Nat) (cells : Array Value) (e : TypeId) : (putRow w b cells e).heap.size = w.heap.size := by simp [putRow]
theorem putRow_same {w : World} {b : Nat} {cells : Array Value} {e : TypeId} (h : b < w.heap.size) : (putRow w b cells e).heap[b]? = some (.cells cells e (0, 0)) := by
  simp [putRow, h]
theorem putRow_other {w : World} {b c : Nat} {cells : Array Value} {e : TypeId} (h : b ≠ c) : (putRow w b cells e).heap[c]? = w.heap[c]? := by
  simp [putRow, Array.getElem?_setIfInBounds, h]
theorem putRow_putRow {w : World} {b : Nat} {c1 c2 : Array Value} {e : TypeId} : putRow (putRow w b c1 e) b c2 e = putRow w b c2 e := by
  simp [putRow]

theorem setCell_putRow {w : World} {b o : Nat} {cells : Array Value} {e : TypeId} {v : Value} (h : w.heap[b]? = some (.cells cells e (0, 0))) : w.setCell ⟨b, o, none⟩ v = putRow w b (cells.setIfInBounds o v) e := by
  obtain ⟨hb, he⟩ := Array.getElem?_eq_some_iff.1 h
  unfold World.setCell putRow
  congr 1
  apply Array.ext
  · simp
  · intro i h1 h2
    simp only [Array.getElem_modify, Array.getElem_setIfInBounds]
    by_cases hi : b = i
    · subst hi
      simp [he]
    · rw [if_neg hi]
      exact (Array.getElem_setIfInBounds_ne (by simpa using h1) hi).symm

theorem run_store1 {P : Program} {w : World} {b o : Nat} {cells : Array Value} {e : TypeId} {v : Value} (h : w.heap[b]? = some (.cells cells e (0, 0))) (ho : o < cells.size) (hv : leafV v = true) :
    (store ⟨b, o, none⟩ v).run P w = .ok () (putRow w b (cells.setIfInBounds o v) e) := by
  have hc : w.cell? ⟨b, o, none⟩ = some cells[o] := by rw [cell_of_heap h]; exact Array.getElem?_eq_getElem ho
  have hf : w.frozen? ⟨b, o, none⟩ = false := by simp [World.frozen?, h]
  have hs := setCell_putRow (o := o) (v := v) h
  unfold store
  cases v <;> simp [leafV] at hv <;> simp [Sem.run, hc, hf, hs]

theorem setIf_put {cells : Array Value} {o : Nat} {v : Value} (h : o < cells.size) : (cells.setIfInBounds o v).toList = putCells cells.toList o [v] := by
  have hl : o < cells.toList.length := by simpa using h
  simp only [Array.toList_setIfInBounds, putCells, List.length_singleton]
  rw [List.set_eq_take_append_cons_drop]
  simp [hl]
  omega

theorem putCells_snoc {cs vs : List Value} {o : Nat} {v : Value} (h : o + 1 + vs.length ≤ cs.length) : putCells (putCells cs o [v]) (o + 1) vs = putCells cs o (v :: vs) := by
  unfold putCells
  have h1 : (cs.take o ++ [v] ++ cs.drop (o + [v].length)).take (o + 1) = cs.take o ++ [v] := by
    rw [List.take_append_of_le_length (by simp; omega), List.take_of_length_le (by simp; omega)]
  have h2 : (cs.take o ++ [v] ++ cs.drop (o + [v].length)).drop (o + 1 + vs.length) = cs.drop (o + (v :: vs).length) := by
    rw [List.drop_append, List.drop_eq_nil_of_le (by simp; omega), List.nil_append, List.drop_drop]
    congr 1
    simp; omega
  rw [h1, h2]
  simp

theorem run_storeCells {P : Program} {b off : Nat} {e : TypeId} : ∀ (vs : List Value) (i : Nat) (w : World) (cells : Array Value), w.heap[b]? = some (.cells cells e (0, 0)) → off + i + vs.length ≤ cells.size → (∀ v ∈ vs, leafV v = true) →
    (storeCells ⟨b, off, none⟩ vs i).run P w = .ok () (putRow w b (putCells cells.toList (off + i) vs).toArray e)
  | [], i, w, cells, h, hl, hv => by
    have : putRow w b (putCells cells.toList (off + i) []).toArray e = w := by
      obtain ⟨hb, he⟩ := Array.getElem?_eq_some_iff.1 h
      unfold putRow
      have e1 : (putCells cells.toList (off + i) []).toArray = cells := by simp [putCells]
      rw [e1, ← he]
      have : w.heap.setIfInBounds b w.heap[b] = w.heap := by
        apply Array.ext
        · simp
        · intro j h1 h2
          rw [Array.getElem_setIfInBounds h2]
          split
          · subst_vars; rfl
          · rfl
      rw [this]
    rw [this]
    rfl
  | v :: vs, i, w, cells, h, hl, hv => by
    simp only [List.length_cons] at hl
    unfold storeCells
    rw [Sem.run_bind, addr_add, run_store1 h (by omega) (hv v (by simp)), Result.andThen_ok]
    have hb : b < w.heap.size := heap_lt h
    rw [run_storeCells vs (i + 1) _ _ (putRow_same hb) (by simp; omega) (fun u hu => hv u (by simp [hu]))]
    rw [putRow_putRow, setIf_put (by omega), ← Nat.add_assoc off i 1, putCells_snoc (by simp; omega)]

def storeA (P : Program) (t : TypeId) (x v : AVal) (B : Bx) : Option Bx :=
  match x with
  | .bptr b p => match B.box[b]? with
    | some c => match szT P t with
      | some n => bif v.plain && n == v.size && !c.isM then match setP c p v with
        | some c' => bif c'.isM then none else some { B with box := B.box.set b c' }
        | none => none else none
      | none => none
    | none => none
  | _ => none

/-- An object written anew. -/
def putO (w : World) (b : Nat) (o : Obj) : World := { w with heap := w.heap.setIfInBounds b o }
theorem putO_same {w : World} {b : Nat} {o : Obj} (h : b < w.heap.size) : (putO w b o).heap[b]? = some o := by simp [putO, h]
theorem putO_other {w : World} {b c : Nat} {o : Obj} (h : b ≠ c) : (putO w b o).heap[c]? = w.heap[c]? := by simp [putO, Array.getElem?_setIfInBounds, h]

theorem upd_obj {G : Gh} {B : Bx} {w : World} {i blk : Nat} {c c' : AVal} {o o' : Obj} {cs : List Value} (hw : WOk G B w) (hi : G.addr[i]? = some blk) (hc : B.box[i]? = some c) (hh : w.heap[blk]? = some o) (hm : Holds c'.knd cs o')
    (hr : Rc G B.dead c' cs) : WOk G { B with box := B.box.set i c' } (putO w blk o') ∧ Ext G w G (putO w blk o') := by
  have hmem : blk ∈ G.addr := List.mem_of_getElem? hi
  have hlt := heap_lt hh
  have other : ∀ b row, G.imm b = some row → b ≠ blk := fun b row hb he => by
    subst he
    rw [hw.disj b hmem] at hb
    cases hb
  have hext : Ext G w G (putO w blk o') := ⟨rfl, rfl, rfl, by simp [putO], fun b hb ha _ => putO_other (fun he => ha (he ▸ hmem)), ImmLe.refl _, fun _ _ _ => rfl, fun _ h => .inl h, fun t b n h => .inl ⟨t, h⟩⟩
  refine ⟨⟨by simp [hw.len], hw.nodup, fun j b d hb hd => ?_, fun b row hb => ?_, hw.disj, fun t b n ht => ?_, hw.inj, hw.tab.ext hext⟩, hext⟩
  · simp only [List.getElem?_set] at hd
    by_cases hij : i = j
    · subst hij
      have hb' : b = blk := by rw [hi] at hb; exact (Option.some.inj hb).symm
      have hil : i < B.box.length := (List.getElem?_eq_some_iff.1 hc).1
      simp only [if_true, hil, Option.some.injEq] at hd
      subst hd; subst hb'
      exact ⟨o', cs, putO_same hlt, hm, hr⟩
    · simp only [hij, if_false] at hd
      have hne : b ≠ blk := fun he => by
        subst he
        have h3 := (List.getElem?_eq_some_iff.1 hi)
        have h4 := (List.getElem?_eq_some_iff.1 hb)
        obtain ⟨l3, e3⟩ := h3
        obtain ⟨l4, e4⟩ := h4
        exact hij ((List.getElem_inj hw.nodup).mp (e3.trans e4.symm))
      exact (hw.boxes j b d hb hd).mono (GLe.refl _ _) (putO_other (Ne.symm hne))
  · obtain ⟨cs, e', fr, h1, h2⟩ := hw.imm b row hb
    exact ⟨cs, e', fr, by rw [putO_other (Ne.symm (other b row hb))]; exact h1, h2⟩
  · obtain ⟨h1, ⟨row, h2⟩, cs, e', h3, h4⟩ := hw.own t b n ht
    exact ⟨h1, ⟨row, h2⟩, cs, e', by rw [putO_other (Ne.symm (other b row h2))]; exact h3, h4⟩

theorem upd_box {G : Gh} {B : Bx} {w : World} {i blk : Nat} {c c' : AVal} {cells cells' : Array Value} {e : TypeId} (hw : WOk G B w) (hi : G.addr[i]? = some blk) (hc : B.box[i]? = some c) (hh : w.heap[blk]? = some (.cells cells e (0, 0))) (hm : c'.isM = false)
    (hr : Rc G B.dead c' cells'.toList) : WOk G { B with box := B.box.set i c' } (putRow w blk cells' e) ∧ Ext G w G (putRow w blk cells' e) :=
  upd_obj (o' := .cells cells' e) hw hi hc hh (by rw [knd_cells hm]; exact ⟨cells', e, rfl, rfl⟩) hr

theorem storeA_sound {P : Program} {o : Oper} {ρ : Operand → AVal} {t : TypeId} {x y : Operand} {B B' : Bx} (ho : o.op = .store t x y) (h : storeA P t (ρ x) (ρ y) B = some B') : OpD P o ρ B .any B' := by
  intro G a w ha hw next Q hn
  have hx := ha x (by rw [ho]; simp [Op.operands])
  have hy := ha y (by rw [ho]; simp [Op.operands])
  unfold storeA at h
  split at h
  · rename_i bb p hbp
    split at h
    · rename_i c hc
      split at h
      · rename_i n hn2
        cases hb : (ρ y).plain && n == (ρ y).size && !c.isM with
        | false => simp [hb] at h
        | true =>
          simp only [hb, cond_true] at h
          simp only [Bool.and_eq_true, beq_iff_eq, Bool.not_eq_true'] at hb
          obtain ⟨hb, hcm⟩ := hb
          split at h
          · rename_i c' hc'
            cases hm' : c'.isM with
            | true => rw [hm'] at h; cases h
            | false =>
            simp only [hm', cond_false, Option.some.injEq] at h
            subst h
            obtain ⟨ti, hti, hsz⟩ := szT_spec hn2
            rw [hbp] at hx
            obtain ⟨blk, hblk, hp, hv⟩ := ptr_form hx
            obtain ⟨cells, e, hheap, hrc⟩ := (hw.boxes bb blk c hblk hc).cells hcm
            have hvc := cells_of_v hb.1 hy
            obtain ⟨hle, hr⟩ := setP_spec hc' hp _ _ hrc hvc
            obtain ⟨h1, h2⟩ := upd_box (cells' := (putCells cells.toList (offP p) (a.eval y).cells.toList).toArray) hw hblk hc hheap hm' (by simpa using hr)
            have hrun : (execOp a.eval o).run P w = .ok .skip (putRow w blk (putCells cells.toList (offP p) (a.eval y).cells.toList).toArray e) := by
              simp only [execOp, ho, hv]
              rw [Sem.run_bind]
              unfold Instr.storeAt
              simp only [Instr.sureAddr, Sem.run_bind, Sem.run_pure, Result.andThen_ok]
              unfold storeVar
              rw [Sem.run_bind, run_sizeOf' hti, Result.andThen_ok]
              have hl := Rc.len hvc
              have : ¬ (a.eval y).cells.size ≠ ti.size := by
                simp only [Array.length_toList] at hl
                rw [hsz, hb.2, hl]; simp
              rw [if_neg this]
              have hs := run_storeCells (P := P) (b := blk) (off := offP p) (e := e) (a.eval y).cells.toList 0 w cells hheap (by simpa using hle) (Rc.leaf hb.1 hvc)
              simp only [Nat.add_zero] at hs
              simp only [Sem.run_pure, Sem.run_bind, Result.andThen_ok, pure_bind, hs]
            exact wp_of_skip hrun (hn undef G _ (any_v _) h1 (GLe.refl _ _) h2)
          · cases h
      · cases h
    · cases h
  · cases h

end Go.Proofs.YtbidmbjkjpdgdaaDoor.Abs
