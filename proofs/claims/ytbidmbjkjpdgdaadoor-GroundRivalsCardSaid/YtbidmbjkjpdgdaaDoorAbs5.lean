/-
  The abstract semantics, fifth part: memory is read, boxes are made and written.
-/
import Derived.Test.YtbidmbjkjpdgdaaDoorAbs4
set_option linter.unusedVariables false
set_option linter.unusedSimpArgs false
namespace Go.Proofs.YtbidmbjkjpdgdaaDoor.Abs

/-! ### Reading -/
theorem run_load_cell {P : Program} {w : World} {a : Addr} {v : Value} (h : w.cell? a = some v) (m : Mode) : (load a m).run P w = .ok v w := by
  rw [run_load, h]

theorem run_loadCellsFrom {P : Program} {w : World} {b off : Nat} : ∀ (n i : Nat) (cs : List Value) (acc : Array Value), cs.length = n → (∀ j, j < n → w.cell? ⟨b, off + (i + j), none⟩ = cs[j]?) →
    (loadCellsFrom ⟨b, off, none⟩ i n acc).run P w = .ok (acc ++ cs.toArray) w
  | 0, i, cs, acc, hl, _ => by
    have : cs = [] := List.length_eq_zero_iff.1 hl
    subst this
    simp [loadCellsFrom]
  | n + 1, i, cs, acc, hl, h => by
    obtain ⟨c, cs, rfl⟩ : ∃ c l, cs = c :: l := by cases cs with | nil => simp at hl | cons c l => exact ⟨c, l, rfl⟩
    have h0 := h 0 (by omega)
    simp only [List.getElem?_cons_zero, Nat.add_zero] at h0
    unfold loadCellsFrom
    rw [Sem.run_bind, addr_add, run_load_cell h0, Result.andThen_ok,
      run_loadCellsFrom n (i + 1) cs (acc.push c) (by simpa using hl) (fun j hj => by have := h (j + 1) (by omega); simpa [Nat.add_assoc, Nat.add_comm, Nat.add_left_comm] using this)]
    simp

theorem run_loadCells' {P : Program} {w : World} {b off : Nat} {cs : List Value} (h : ∀ j, j < cs.length → w.cell? ⟨b, off + j, none⟩ = cs[j]?) (n : Nat) (hn : n = cs.length) :
    (loadCells ⟨b, off, none⟩ n).run P w = .ok cs.toArray w := by
  subst hn
  unfold loadCells
  rw [run_loadCellsFrom cs.length 0 cs #[] rfl (fun j hj => by simpa using h j hj)]
  simp

/-- What is loaded of a variable whose cells are known. -/
theorem run_loadAt' {P : Program} {w : World} {t : TypeId} {c : AVal} {G : Gh} {dead : List Nat} {b off : Nat} {cs : List Value} (hf : fitT P t c = true) (hc : Rc G dead c cs)
    (h : ∀ j, j < cs.length → w.cell? ⟨b, off + j, none⟩ = cs[j]?) : ∃ v, (Instr.loadAt t (.pointer (some ⟨b, off, none⟩))).run P w = .ok v w ∧ Rv G dead c v := by
  obtain ⟨ti, hti, hsz, hag⟩ := fitT_spec hf
  have hl := Rc.len hc
  unfold Instr.loadAt
  simp only [Instr.sureAddr, Sem.run_bind, Sem.run_pure, Result.andThen_ok]
  unfold loadVar
  rw [Sem.run_bind, run_isAgg' hag, Result.andThen_ok]
  cases hag2 : c.agg with
  | true =>
    refine ⟨.agg cs.toArray, ?_, agg_v hc hag2⟩
    simp only [if_true, Sem.run_bind, run_sizeOf' hti, Result.andThen_ok]
    rw [run_loadCells' h _ (by rw [hsz, hl])]
    rfl
  | false =>
    have h1 : c.size = 1 := by
      cases c <;> simp [AVal.agg] at hag2 <;> try rfl
      rename_i T y
      cases T <;> simp [DTy.agg] at hag2 <;> rfl
    obtain ⟨v, rfl⟩ : ∃ v, cs = [v] := List.length_eq_one_iff.1 (by omega)
    refine ⟨v, ?_, leaf_v hag2 hc⟩
    have := h 0 (by simp)
    simp only [Nat.add_zero, List.getElem?_cons_zero] at this
    simp only [Bool.false_eq_true, if_false]
    exact run_load_cell this _

theorem cell_of_heap {w : World} {b i : Nat} {cells : Array Value} {e : TypeId} {fr : Nat × Nat} (h : w.heap[b]? = some (.cells cells e fr)) : w.cell? ⟨b, i, none⟩ = cells[i]? := by
  simp [World.cell?, h]

def loadA (P : Program) (t : TypeId) (x : AVal) (B : Bx) : Option AVal :=
  match x with
  | .iptr T v => bif fitT P t (.d T v) then some (.d T v) else none
  | .bptr b p => match B.box[b]? with
    | some c => match getP c p with
      | some c' => bif fitT P t c' then some c' else none
      | none => none
    | none => none
  | _ => none

theorem loadA_sound {P : Program} {o : Oper} {ρ : Operand → AVal} {v : AVal} {t : TypeId} {x : Operand} {B : Bx} (ho : o.op = .load t x) (h : loadA P t (ρ x) B = some v) : OpD P o ρ B v B := by
  intro G a w ha hw next Q hn
  have hx := ha x (by rw [ho]; simp [Op.operands])
  unfold loadA at h
  have fin : ∀ cv, (Instr.loadAt t (a.eval x)).run P w = .ok cv w → Rv G B.dead v cv → ∀ r, o.wpIn (Fr r) 0 P a w next Q := fun cv hr hv =>
    wp_of_run (by simp only [execOp, ho]; rw [Sem.run_bind, hr]; rfl) (hn cv G w hv hw (GLe.refl _ _) (Ext.refl _ _))
  split at h
  · rename_i T y hy
    cases hf : fitT P t (.d T y) with
    | false => simp [hf] at h
    | true =>
      simp only [hf, cond_true, Option.some.injEq] at h
      subst h
      rw [hy] at hx
      obtain ⟨b, off, row, hv, hrow, hle, hr⟩ := iptr_form hx
      obtain ⟨cells, e, fr, hb, hp⟩ := hw.imm b row hrow
      have hlen : ((row.drop off).take T.sz).length = T.sz := RD.len hr
      obtain ⟨cv, hrun, hcv⟩ := run_loadAt' (w := w) (b := b) (off := off) hf (G := G) (dead := B.dead) (cs := (row.drop off).take T.sz) hr (fun j hj => by
        rw [hlen] at hj
        rw [cell_of_heap hb, List.getElem?_take_of_lt hj, List.getElem?_drop, ← Array.getElem?_toList]
        exact prefix_getElem? hp (List.getElem?_eq_getElem (by omega)) |>.trans (List.getElem?_eq_getElem (by omega)).symm)
      rw [← hv] at hrun
      exact fin cv hrun hcv
  · rename_i bb p hbp
    split at h
    · rename_i c hc
      split at h
      · rename_i c' hc'
        cases hf : fitT P t c' with
        | false => simp [hf] at h
        | true =>
          simp only [hf, cond_true, Option.some.injEq] at h
          subst h
          rw [hbp] at hx
          obtain ⟨blk, hb, hp, hv⟩ := ptr_form hx
          obtain ⟨cells, e, hheap, hrc⟩ := (hw.boxes bb blk c hb hc).cells (getP_notM hc' (fitT_notM hf))
          obtain ⟨hle, hr⟩ := getP_spec hc' hp _ hrc
          have hlen := Rc.len hr
          obtain ⟨cv, hrun, hcv⟩ := run_loadAt' (w := w) (b := blk) (off := offP p) hf hr (fun j hj => by
            rw [hlen] at hj
            rw [cell_of_heap hheap, List.getElem?_take_of_lt hj, List.getElem?_drop, ← Array.getElem?_toList])
          rw [← hv] at hrun
          exact fin cv hrun hcv
      · cases h
    · cases h
  · cases h

/-! ### A new box -/
theorem heap_push_lt {w : World} {o : Obj} {b : Nat} (h : b < w.heap.size) : (w.alloc o).heap[b]? = w.heap[b]? := by
  simp only [World.alloc]
  rw [Array.getElem?_push_lt h, Array.getElem?_eq_getElem h]
theorem heap_push_eq {w : World} {o : Obj} : (w.alloc o).heap[w.heap.size]? = some o := by
  show (w.heap.push o)[w.heap.size]? = some o
  simp
theorem heap_lt {w : World} {b : Nat} {o : Obj} (h : w.heap[b]? = some o) : b < w.heap.size := (Array.getElem?_eq_some_iff.1 h).1

theorem WOk.addr_lt {G : Gh} {B : Bx} {w : World} (h : WOk G B w) {b : Nat} (hb : b ∈ G.addr) : b < w.heap.size := by
  obtain ⟨i, hi, he⟩ := List.mem_iff_getElem.1 hb
  have hi' : i < B.box.length := by rw [← h.len]; exact hi
  obtain ⟨cells, e, hh, _⟩ := h.boxes i b B.box[i] (by rw [← he]; exact List.getElem?_eq_getElem hi) (List.getElem?_eq_getElem hi')
  exact heap_lt hh
theorem WOk.imm_lt {G : Gh} {B : Bx} {w : World} (h : WOk G B w) {b : Nat} {row : List Value} (hb : G.imm b = some row) : b < w.heap.size := by
  obtain ⟨cells, e, fr, hh, _⟩ := h.imm b row hb
  exact heap_lt hh

/-- A box more. -/
def Bx.push (B : Bx) (c : AVal) : Bx := { B with box := B.box ++ [c] }

theorem new_obj {G : Gh} {B : Bx} {w : World} {c : AVal} {o : Obj} {cs : List Value} (hw : WOk G B w) (hm : Holds c.knd cs o) (hc : Rc G B.dead c cs) :
    ∃ G', G'.addr[B.box.length]? = some w.heap.size ∧ WOk G' (B.push c) (w.alloc o) ∧ GLe G B.dead G' B.dead ∧ Ext G w G' (w.alloc o) := by
  have hle : GLe G B.dead { G with addr := G.addr ++ [w.heap.size] } B.dead := ⟨ImmLe.refl _, List.prefix_append _ _, fun _ h => h, fun _ _ _ _ _ h h' => ⟨h, h'⟩⟩
  have hext : Ext G w { G with addr := G.addr ++ [w.heap.size] } (w.alloc o) := by
    refine ⟨rfl, rfl, rfl, by simp, fun b hb _ _ => heap_push_lt hb, ImmLe.refl _, fun _ _ _ => rfl, fun b hb => ?_, fun t b n h => .inl ⟨t, h⟩⟩
    rcases List.mem_append.1 hb with hb | hb
    · exact .inl hb
    · exact .inr (by simp at hb; omega)
  refine ⟨{ G with addr := G.addr ++ [w.heap.size] }, ?_, ?_, hle, hext⟩
  · show (G.addr ++ [w.heap.size])[B.box.length]? = _
    rw [← hw.len, List.getElem?_append_right (Nat.le_refl _)]
    simp
  · refine ⟨by simp [Bx.push, hw.len], ?_, fun i b c' hb hc' => ?_, fun b row hb => ?_, fun b hb => ?_, fun t b n ht => ?_, hw.inj, hw.tab.ext hext⟩
    · refine List.nodup_append.2 ⟨hw.nodup, by simp, fun a ha b hb => ?_⟩
      have := hw.addr_lt ha
      simp only [List.mem_singleton] at hb
      omega
    · by_cases hi : i < B.box.length
      · have hi' : i < G.addr.length := by rw [hw.len]; exact hi
        have hb' : G.addr[i]? = some b := by
          have : (G.addr ++ [w.heap.size])[i]? = some b := hb
          rwa [List.getElem?_append_left hi'] at this
        have hc'' : B.box[i]? = some c' := by
          have : (B.box ++ [c])[i]? = some c' := hc'
          rwa [List.getElem?_append_left hi] at this
        have hbo := hw.boxes i b c' hb' hc''
        obtain ⟨_, _, hh, _⟩ := id hbo
        exact hbo.mono hle (heap_push_lt (heap_lt hh))
      · have hb' : (G.addr ++ [w.heap.size])[i]? = some b := hb
        have hc'' : (B.box ++ [c])[i]? = some c' := hc'
        rw [List.getElem?_append_right (by rw [hw.len]; omega)] at hb'
        rw [List.getElem?_append_right (by omega)] at hc''
        have hi0 : i - B.box.length = 0 := by
          have := (List.getElem?_eq_some_iff.1 hc'').1
          simp at this
          omega
        rw [hw.len, hi0] at hb'
        rw [hi0] at hc''
        simp only [List.getElem?_cons_zero, Option.some.injEq] at hb' hc''
        subst hb'; subst hc''
        exact ⟨o, cs, heap_push_eq, hm, hc.mono hle⟩
    · obtain ⟨cs, e', fr, hh, hp⟩ := hw.imm b row hb
      exact ⟨cs, e', fr, by rw [heap_push_lt (heap_lt hh)]; exact hh, hp⟩
    · rcases List.mem_append.1 hb with hb | hb
      · exact hw.disj b hb
      · simp only [List.mem_singleton] at hb
        subst hb
        show G.imm w.heap.size = none
        cases hi : G.imm w.heap.size with
        | none => rfl
        | some row => have := hw.imm_lt hi; omega
    · obtain ⟨h1, h2, cs, e', hh, hs⟩ := hw.own t b n ht
      exact ⟨h1, h2, cs, e', by rw [heap_push_lt (heap_lt hh)]; exact hh, hs⟩

theorem new_box {G : Gh} {B : Bx} {w : World} {c : AVal} {cells : Array Value} {e : TypeId} (hw : WOk G B w) (hm : c.isM = false) (hc : Rc G B.dead c cells.toList) :
    ∃ G', Rv G' B.dead (.bptr B.box.length []) (.pointer (some ⟨w.heap.size, 0, none⟩)) ∧ WOk G' (B.push c) (w.alloc (.cells cells e)) ∧ GLe G B.dead G' B.dead ∧ Ext G w G' (w.alloc (.cells cells e)) := by
  obtain ⟨G', h0, h1, h2, h3⟩ := new_obj (o := .cells cells e) (cs := cells.toList) hw (by rw [knd_cells hm]; exact ⟨cells, e, rfl, rfl⟩) hc
  exact ⟨G', leaf_v rfl ⟨w.heap.size, h0, trivial, rfl⟩, h1, h2, h3⟩

/-- No cell that stands for it is an aggregate. -/
def AVal.plain : AVal → Bool
  | .any => false
  | .tuple _ => false
  | .mobj _ _ _ => false
  | .lobj _ _ _ _ => false
  | .cons h t => h.plain && t.plain
  | _ => true
theorem plain_notM {a : AVal} (h : a.plain = true) : a.isM = false := by
  cases a <;> first | rfl | simp [AVal.plain] at h

def leafV : Value → Bool
  | .agg _ => false
  | .tuple _ => false
  | _ => true
theorem RD.leaf {imm : Nat → Option (List Value)} : {T : DTy} → {x : T.El} → {cs : List Value} → RD imm T x cs → ∀ c ∈ cs, leafV c = true
  | .int k, n, cs, h => by have h : cs = [.int k n] := h; subst h; simp [leafV]
  | .bool, b, cs, h => by have h : cs = [.bool b] := h; subst h; simp [leafV]
  | .str, s, cs, h => by have h : cs = [.string s] := h; subst h; simp [leafV]
  | .nil, _, cs, h => by have h : cs = [] := h; subst h; simp
  | .cons a t, x, cs, h => by
    obtain ⟨c1, c2, rfl, h1, h2⟩ := h
    intro c hc
    rcases List.mem_append.1 hc with hc | hc
    · exact RD.leaf h1 c hc
    · exact RD.leaf h2 c hc
  | .arr n e, xs, cs, h => by
    obtain ⟨h1, h2, h3⟩ := h
    intro c hc
    obtain ⟨i, hi, rfl⟩ := List.mem_iff_getElem.1 hc
    rcases Nat.eq_zero_or_pos e.sz with h0 | h0
    · rw [h0] at h2; omega
    · have hq : i / e.sz < n := by rw [Nat.div_lt_iff_lt_mul h0]; omega
      have hx := h3 (i / e.sz) _ (getD_some (by rw [h1]; exact hq) (d := e.dflt))
      refine RD.leaf hx _ (List.mem_iff_getElem.2 ⟨i % e.sz, ?_, ?_⟩)
      · have := mul_room (s := e.sz) hq
        have := Nat.mod_lt i h0
        simp; omega
      · simp only [List.getElem_take, List.getElem_drop]
        congr 1
        rw [Nat.mul_comm]; exact Nat.div_add_mod i e.sz
  | .list e, xs, cs, h => by obtain ⟨A, cap, rfl, _⟩ := h; simp [leafV]

theorem Rc.leaf {G : Gh} {dead : List Nat} : {a : AVal} → {cs : List Value} → a.plain = true → Rc G dead a cs → ∀ c ∈ cs, leafV c = true
  | .d T x, cs, _, h => RD.leaf h
  | .own tok T xs, cs, _, h => by obtain ⟨_, A, cap, rfl, _⟩ := h; simp [leafV]
  | .nil, cs, _, h => by have h : cs = [] := h; subst h; simp
  | .cons a t, cs, hp, h => by
    obtain ⟨c1, c2, rfl, h1, h2⟩ := h
    simp only [AVal.plain, Bool.and_eq_true] at hp
    intro c hc
    rcases List.mem_append.1 hc with hc | hc
    · exact Rc.leaf (a := a) hp.1 h1 c hc
    · exact Rc.leaf (a := t) hp.2 h2 c hc
  | .pnil, cs, _, h => by have h : cs = [.pointer none] := h; subst h; simp [leafV]
  | .bptr b p, cs, _, h => by obtain ⟨_, _, _, rfl⟩ := h; simp [leafV]
  | .iptr T x, cs, _, h => by obtain ⟨_, _, _, rfl, _⟩ := h; simp [leafV]
  | .func fn f c, cs, _, h => by obtain ⟨_, _, rfl, _⟩ := h; simp [leafV]
  | .fnil, cs, _, h => by have h : cs = [.nilFunc] := h; subst h; simp [leafV]
  | .snil, cs, _, h => by have h : cs = [.slice none 0 0] := h; subst h; simp [leafV]
  | .iface t v, cs, _, h => by obtain ⟨_, rfl, _⟩ := h; simp [leafV]
  | .inil, cs, _, h => by have h : cs = [.nilIface] := h; subst h; simp [leafV]
  | .tuple vs, cs, hp, h => by simp [AVal.plain] at hp
  | .any, cs, hp, h => by simp [AVal.plain] at hp
  | .mnil, cs, _, h => by have h : cs = [.map none] := h; subst h; simp [leafV]
  | .mref b, cs, _, h => by obtain ⟨_, _, rfl⟩ := h; simp [leafV]
  | .yref b, cs, _, h => by obtain ⟨_, _, rfl⟩ := h; simp [leafV]
  | .lobj .., cs, hp, h => by simp [AVal.plain] at hp
  | .mobj .., cs, hp, h => by simp [AVal.plain] at hp

theorem cells_of_v {G : Gh} {dead : List Nat} {a : AVal} {v : Value} (hp : a.plain = true) (h : Rv G dead a v) : Rc G dead a v.cells.toList := by
  obtain ⟨cs, hc, h | h⟩ := h
  · rw [h.2]; exact hc
  · have hl := h.2
    subst hl
    have := Rc.leaf hp hc v (by simp)
    cases v <;> simp [leafV] at this <;> exact hc

def boxA (x : AVal) (B : Bx) : Option (AVal × Bx) := bif x.plain then some (.bptr B.box.length [], B.push x) else none
theorem boxA_sound {P : Program} {o : Oper} {ρ : Operand → AVal} {v : AVal} {t : TypeId} {x : Operand} {B B' : Bx} (ho : o.op = .box t x) (h : boxA (ρ x) B = some (v, B')) : OpD P o ρ B v B' := by
  intro G a w ha hw next Q hn
  have hx := ha x (by rw [ho]; simp [Op.operands])
  unfold boxA at h
  cases hp : (ρ x).plain with
  | false => simp [hp] at h
  | true =>
    simp only [hp, cond_true, Option.some.injEq, Prod.mk.injEq] at h
    obtain ⟨rfl, rfl⟩ := h
    obtain ⟨G', h1, h2, h3, h4⟩ := new_box (e := t) hw (plain_notM hp) (cells_of_v hp hx)
    refine wp_of_run (v := .pointer (some ⟨w.heap.size, 0, none⟩)) (w' := w.alloc (.cells (a.eval x).cells t)) ?_ (hn _ G' _ h1 h2 h3 h4)
    simp only [execOp, ho]
    rfl

/-! ### Zero values -/
/-- The cells of zero values. -/
def zcells : AVal → Option (List Value)
  | .d (.int k) n => bif decide (n = 0) then some [.int k 0] else none
  | .d .bool b => bif b then none else some [.bool false]
  | .d .str s => bif s.data.toList.isEmpty then some [.string ⟨#[]⟩] else none
  | .d (.arr n e) xs => none
  | .nil => some []
  | .cons h t => match zcells h, zcells t with
    | some a, some b => some (a ++ b)
    | _, _ => none
  | .pnil => some [.pointer none]
  | .fnil => some [.nilFunc]
  | .snil => some [.slice none 0 0]
  | .inil => some [.nilIface]
  | .mnil => some [.map none]
  | _ => none

def eqZ : Value → Value → Bool
  | .int k 0, .int k' 0 => k == k'
  | .bool false, .bool false => true
  | .string s, .string s' => s.data.toList.isEmpty && s'.data.toList.isEmpty
  | .pointer none, .pointer none => true
  | .nilFunc, .nilFunc => true
  | .slice none 0 0, .slice none 0 0 => true
  | .nilIface, .nilIface => true
  | .map none, .map none => true
  | _, _ => false
theorem bytes_empty {s : ByteArray} (h : s.data.toList.isEmpty = true) : s = ⟨#[]⟩ := by
  cases s with
  | mk d =>
    have : d.toList = [] := by simpa using h
    congr 1
    exact Array.toList_inj.1 (by simpa using this)
theorem eqZ_eq {a b : Value} (h : eqZ a b = true) : a = b := by
  unfold eqZ at h
  split at h
  · simp only [beq_iff_eq] at h; subst h; rfl
  · rfl
  · simp only [Bool.and_eq_true] at h
    rw [bytes_empty h.1, bytes_empty h.2]
  all_goals first | rfl | cases h
def eqZs : List Value → List Value → Bool
  | [], [] => true
  | a :: l, b :: m => eqZ a b && eqZs l m
  | _, _ => false
theorem eqZs_eq : {a b : List Value} → eqZs a b = true → a = b
  | [], [], _ => rfl
  | a :: l, b :: m, h => by
    simp only [eqZs, Bool.and_eq_true] at h
    rw [eqZ_eq h.1, eqZs_eq h.2]
  | [], _ :: _, h | _ :: _, [], h => by simp [eqZs] at h

theorem zcells_rc {G : Gh} {dead : List Nat} : {a : AVal} → {cs : List Value} → zcells a = some cs → Rc G dead a cs
  | .d (.int k) n, cs, h => by
    simp only [zcells] at h
    cases hb : decide (n = 0) with
    | false => simp [hb] at h
    | true =>
      simp only [hb, cond_true, Option.some.injEq] at h
      have : n = (0 : Int) := by simpa using hb
      subst this; subst h; rfl
  | .d .bool b, cs, h => by
    cases b <;> simp [zcells] at h
    subst h; rfl
  | .d .str s, cs, h => by
    simp only [zcells] at h
    cases hb : s.data.toList.isEmpty with
    | false => simp [hb] at h
    | true =>
      simp only [hb, cond_true, Option.some.injEq] at h
      rw [← h, bytes_empty hb]; rfl
  | .d (.list _) _, cs, h | .d .nil _, cs, h | .d (.cons _ _) _, cs, h | .d (.arr _ _) _, cs, h => by simp [zcells] at h
  | .nil, cs, h => by simp only [zcells, Option.some.injEq] at h; exact h.symm
  | .cons a t, cs, h => by
    simp only [zcells] at h
    split at h
    · rename_i c1 c2 h1 h2
      simp only [Option.some.injEq] at h
      exact ⟨c1, c2, h.symm, zcells_rc h1, zcells_rc h2⟩
    · cases h
  | .pnil, cs, h | .fnil, cs, h | .snil, cs, h | .inil, cs, h | .mnil, cs, h => by simp only [zcells, Option.some.injEq] at h; exact h.symm
  | .own .., cs, h | .bptr .., cs, h | .iptr .., cs, h | .func .., cs, h | .iface .., cs, h | .tuple .., cs, h | .any, cs, h => by simp [zcells] at h

def repA : Nat → AVal → AVal
  | 0, _ => .nil
  | n + 1, a => .cons a (repA n a)
/-- The zero value of a type, its parts told apart. -/
def zeroT (P : Program) : Nat → TypeId → Option AVal
  | 0, _ => none
  | n + 1, t => match P.underlying t with
    | some .bool => some (.d .bool false)
    | some (.int k) => some (.d (.int k) (0 : Int))
    | some .string => some (.d .str (⟨#[]⟩ : ByteArray))
    | some (.slice _) => some .snil
    | some (.pointer _) => some .pnil
    | some (.func _ _ _) => some .fnil
    | some (.interface _) => some .inil
    | some (.map _ _) => some .mnil
    | some (.struct fs) => fs.toList.foldr (fun f r => match zeroT P n f.type, r with
      | some a, some b => some (.cons a b)
      | _, _ => none) (some .nil)
    | some (.array m e) => match zeroT P n e with
      | some a => bif Nat.ble m 64 then some (repA m a) else none
      | none => none
    | _ => none

/-- An array's zero value, as data. -/
def zeroArr (P : Program) (t : TypeId) : Option AVal :=
  match P.underlying t with
  | some (.array n e) => match P.underlying e with
    | some (.int k) => some (.d (.arr n (.int k)) (List.replicate n (0 : Int)))
    | some .bool => some (.d (.arr n .bool) (List.replicate n false))
    | _ => none
  | _ => none

def zeroV (P : Program) (t : TypeId) : Option (List Value) := match P.info? t with
  | some i => match i.zero with
    | some v => some v.cells.toList
    | none => none
  | none => none

def allocA (P : Program) (t : TypeId) (B : Bx) : Option (AVal × Bx) :=
  match zeroT P 8 t with
  | some c => match zcells c, zeroV P t with
    | some cs, some zs => bif eqZs cs zs && !c.isM then some (.bptr B.box.length [], B.push c) else none
    | _, _ => none
  | none => none

theorem allocA_sound {P : Program} {o : Oper} {ρ : Operand → AVal} {v : AVal} {t : TypeId} {B B' : Bx} (ho : o.op = .alloc t) (h : allocA P t B = some (v, B')) : OpD P o ρ B v B' := by
  intro G a w ha hw next Q hn
  unfold allocA at h
  split at h
  · rename_i c hc
    split at h
    · rename_i cs zs hcs hzs
      cases he : eqZs cs zs && !c.isM with
      | false => simp [he] at h
      | true =>
        simp only [he, cond_true, Option.some.injEq, Prod.mk.injEq] at h
        obtain ⟨rfl, rfl⟩ := h
        simp only [Bool.and_eq_true, Bool.not_eq_true'] at he
        have hnm := he.2
        have := eqZs_eq he.1
        subst this
        unfold zeroV at hzs
        split at hzs
        · rename_i ti hti
          split at hzs
          · rename_i z hz
            simp only [Option.some.injEq] at hzs
            obtain ⟨G', h1, h2, h3, h4⟩ := new_box (e := t) (cells := z.cells) hw hnm (by rw [hzs]; exact zcells_rc hcs)
            refine wp_of_run (v := .pointer (some ⟨w.heap.size, 0, none⟩)) (w' := w.alloc (.cells z.cells t)) ?_ (hn _ G' _ h1 h2 h3 h4)
            simp only [execOp, ho]
            rw [Sem.run_bind]
            unfold Instr.alloc
            rw [Sem.run_bind]
            have hzv : (zeroValue t).run P w = .ok z w := by
              unfold zeroValue
              rw [Sem.run_bind, run_typeInfo' hti, Result.andThen_ok]
              simp only [hz]
              rfl
            rw [hzv]
            rfl
          · cases hzs
        · cases hzs
    · cases h
  · cases h

end Go.Proofs.YtbidmbjkjpdgdaaDoor.Abs
