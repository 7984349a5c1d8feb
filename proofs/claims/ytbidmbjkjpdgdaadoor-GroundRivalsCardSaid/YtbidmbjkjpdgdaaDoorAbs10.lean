/-
  The abstract semantics, tenth part: append.
-/
import Derived.Test.YtbidmbjkjpdgdaaDoorAbs9
set_option linter.unusedVariables false
set_option linter.unusedSimpArgs false
namespace Go.Proofs.YtbidmbjkjpdgdaaDoor.Abs

/-- How long a slice may become here (a bound far below the model's own). -/
def LIM : Nat := 2 ^ 36

theorem WOk.heap {G : Gh} {B : Bx} {w w' : World} (h : WOk G B w) (e : w'.heap = w.heap) : WOk G B w' := by
  refine ⟨h.len, h.nodup, fun i b c hb hc => (h.boxes i b c hb hc).mono (GLe.refl _ _) (by rw [e]), fun b row hb => ?_, h.disj, fun t b n ht => ?_, h.inj, fun q hq => by rw [e]; exact h.tab q hq⟩
  · obtain ⟨cs, e', fr, h1, h2⟩ := h.imm b row hb
    exact ⟨cs, e', fr, by rw [e]; exact h1, h2⟩
  · obtain ⟨h0, hr, cs, e', h1, h2⟩ := h.own t b n ht
    exact ⟨h0, hr, cs, e', by rw [e]; exact h1, h2⟩
theorem Ext.drew (G : Gh) (w : World) : Ext G w G w.drew :=
  ⟨rfl, rfl, rfl, Nat.le_refl _, fun _ _ _ _ => rfl, ImmLe.refl _, fun _ _ _ => rfl, fun _ h => .inl h, fun t b n h => .inl ⟨t, h⟩⟩

/-- The cells of a list that can be read. -/
theorem list_cells {P : Program} {G : Gh} {B : Bx} {w : World} {T : DTy} {xs : List T.El} {A : Option Addr} {cap : Nat} (hw : WOk G B w) (h : RD G.imm (.list T) xs [.slice A xs.length cap]) :
    ∃ yc : List Value, yc.length = xs.length * T.sz ∧ (∀ l c (w' : World), w'.heap = w.heap → (Builtin.firstCells T.sz xs.length (.slice A l c)).run P w' = .ok yc.toArray w') ∧ (∀ (i : Nat) (x : T.El), xs[i]? = some x → RD G.imm T x ((yc.drop (i * T.sz)).take T.sz)) ∧
      (xs ≠ [] → ∃ b off row, A = some ⟨b, off, none⟩ ∧ G.imm b = some row ∧ off + xs.length * T.sz ≤ row.length ∧ yc = (row.drop off).take (xs.length * T.sz)) := by
  obtain ⟨A', cap', e, _, hr⟩ := h
  obtain ⟨rfl, rfl⟩ : A = A' ∧ cap = cap' := by simpa using e
  by_cases hx : xs = []
  · subst hx
    refine ⟨[], by simp, fun l c w' hw' => ?_, fun i x hi => by simp at hi, fun h => absurd rfl h⟩
    cases A with
    | none => rfl
    | some a =>
      simp only [Builtin.firstCells, List.length_nil, Nat.zero_mul]
      rfl
  · obtain ⟨b, off, row, rfl, hb, hl, hxx⟩ := hr hx
    obtain ⟨cells, e, fr, hh, hp⟩ := hw.imm b row hb
    refine ⟨(row.drop off).take (xs.length * T.sz), by simp; omega, fun l c w' hw' => ?_, fun i x hi => ?_, fun _ => ⟨b, off, row, rfl, hb, hl, rfl⟩⟩
    · simp only [Builtin.firstCells]
      refine run_loadCells' (fun j hj => ?_) _ (by simp; omega)
      have hj' : j < xs.length * T.sz := by simp at hj; omega
      rw [cell_of_heap (by rw [hw']; exact hh), List.getElem?_take_of_lt hj', List.getElem?_drop, ← Array.getElem?_toList]
      exact prefix_getElem? hp (List.getElem?_eq_getElem (by omega)) |>.trans (List.getElem?_eq_getElem (by omega)).symm
    · have hi' := (List.getElem?_eq_some_iff.1 hi).1
      have hm := mul_room (s := T.sz) hi'
      rw [List.drop_take, List.take_take, List.drop_drop, Nat.min_eq_left (by omega)]
      exact hxx i x hi

theorem growBy_le (n : Nat) : ∀ r c, c ≤ 2 * n + 192 → c < n ∨ Builtin.growBy n r c = c → Builtin.growBy n r c ≤ 2 * n + 192
  | 0, c, h, _ => h
  | r + 1, c, h, _ => by
    unfold Builtin.growBy
    split
    · exact h
    · rename_i hc
      by_cases h2 : c + (c + 768) / 4 < n
      · exact growBy_le n r _ (by omega) (.inl h2)
      · cases r with
        | zero => unfold Builtin.growBy; omega
        | succ r =>
          unfold Builtin.growBy
          rw [if_pos (by omega)]
          omega
theorem nextcap_le {need old : Nat} (h : old < need) : Builtin.nextslicecap need old ≤ 2 * need + 192 := by
  unfold Builtin.nextslicecap
  split
  · omega
  · split
    · omega
    · exact growBy_le need 4 old (by omega) (.inl h)

theorem zeroCells_len {zero : Array Value} {n : Nat} : (Builtin.zeroCells zero n).size = n * zero.size := by simp [Builtin.zeroCells]

/-- An owned row, written on in place. -/
theorem app_row {G : Gh} {B : Bx} {w : World} {T : DTy} {xs ys : List T.El} {tok b cap : Nat} {row yc : List Value} {cells : Array Value} {e : TypeId} (hw : WOk G B w) (ho : G.own tok = some (b, cap * T.sz)) (hi : G.imm b = some row) (hrl : row.length = xs.length * T.sz)
    (hh : w.heap[b]? = some (.cells cells e (0, 0))) (hcs : cells.size = cap * T.sz) (hp : row <+: cells.toList) (hyl : yc.length = ys.length * T.sz) (hcap : xs.length + ys.length ≤ cap)
    (hx : ∀ (i : Nat) (x : T.El), xs[i]? = some x → RD G.imm T x ((row.drop (i * T.sz)).take T.sz)) (hy : ∀ (i : Nat) (x : T.El), ys[i]? = some x → RD G.imm T x ((yc.drop (i * T.sz)).take T.sz)) :
    ∃ G', Rv G' (tok :: B.dead) (.own B.nt T (xs ++ ys)) (.slice (some ⟨b, 0, none⟩) (xs.length + ys.length) cap) ∧ WOk G' (B.row [tok]) (putRow w b (putCells cells.toList (xs.length * T.sz) yc).toArray e) ∧ GLe G B.dead G' (tok :: B.dead) ∧
      Ext G w G' (putRow w b (putCells cells.toList (xs.length * T.sz) yc).toArray e) := by
  have hlt := heap_lt hh
  have hroom : xs.length * T.sz + yc.length ≤ cells.toList.length := by
    have hcl : cells.toList.length = cap * T.sz := by simp [hcs]
    rw [hyl, hcl, ← Nat.add_mul]
    exact Nat.mul_le_mul_right _ hcap
  have hnt : G.own B.nt = none := by
    cases hi : G.own B.nt with
    | none => rfl
    | some p => have := (hw.own B.nt p.1 p.2 hi).1; omega
  have htn : tok ≠ B.nt := fun h => by subst h; rw [hnt] at ho; cases ho
  let G' : Gh := { G with imm := fun c => if c = b then some (row ++ yc) else G.imm c, own := fun t => if t = B.nt then some (b, cap * T.sz) else if t = tok then none else G.own t }
  have himm : ImmLe G.imm G'.imm := fun c r hc => by
    by_cases hcb : c = b
    · subst hcb
      rw [hi] at hc
      cases hc
      exact ⟨row ++ yc, by simp [G'], List.prefix_append _ _⟩
    · exact ⟨r, by simp [G', hcb, hc], List.prefix_refl _⟩
  have hle : GLe G B.dead G' (tok :: B.dead) := by
    refine ⟨himm, List.prefix_refl _, fun t h => List.mem_cons_of_mem _ h, fun t c n r ht h1 h2 => ?_⟩
    have h3 : t ≠ tok := fun h => ht (by rw [h]; exact List.mem_cons_self)
    have h4 : t ≠ B.nt := fun h => by rw [h, hnt] at h1; cases h1
    have h5 : c ≠ b := fun h => by subst h; exact h3 (hw.inj t tok c _ _ h1 ho)
    exact ⟨by simp [G', h3, h4, h1], by simp [G', h5, h2]⟩
  have hself : G'.imm b = some (row ++ yc) := by simp [G']
  have hrow' : row ++ yc <+: putCells cells.toList (xs.length * T.sz) yc := by
    have : row = cells.toList.take (xs.length * T.sz) := by
      obtain ⟨t, ht⟩ := hp
      rw [← ht, ← hrl, List.take_left]
    unfold putCells
    rw [this]
    exact List.prefix_append _ _
  have hnotaddr : b ∉ G.addr := fun h => by have := hw.disj b h; rw [hi] at this; cases this
  have hlen : (row ++ yc).length = (xs ++ ys).length * T.sz := by simp [hrl, hyl, Nat.add_mul]
  have hnew : (putCells cells.toList (xs.length * T.sz) yc).toArray.size = cap * T.sz := by
    rw [List.size_toArray, putCells_len hroom, Array.length_toList, hcs]
  have hext : Ext G w G' (putRow w b (putCells cells.toList (xs.length * T.sz) yc).toArray e) := by
    refine ⟨rfl, rfl, rfl, by simp [putRow_size], fun c hc _ hno => putRow_other (fun h => hno tok _ (h ▸ ho)), himm, fun c hc hno => ?_, fun _ h => .inl h, fun t c n ht => ?_⟩
    · have hcb : c ≠ b := fun h => by subst h; exact hno tok _ ho
      simp [G', hcb]
    · by_cases h1 : t = B.nt
      · have : some (b, cap * T.sz) = some (c, n) := by rw [← ht]; simp [G', h1]
        simp only [Option.some.injEq, Prod.mk.injEq] at this
        obtain ⟨rfl, rfl⟩ := this
        exact .inl ⟨tok, ho⟩
      · by_cases h2 : t = tok
        · simp [G', h1, h2, htn] at ht
        · exact .inl ⟨t, by simpa [G', h1, h2] using ht⟩
  refine ⟨G', ?_, ?_, hle, hext⟩
  · have e1 : xs.length + ys.length = (xs ++ ys).length := by simp
    rw [e1]
    refine leaf_v rfl ⟨⟨_, cap, rfl, by simp; exact hcap, fun _ => ⟨b, 0, row ++ yc, rfl, hself, by rw [hlen]; omega, fun i x hix => ?_⟩⟩, some ⟨b, 0, none⟩, cap, rfl, .inr (.inr ⟨b, row ++ yc, rfl, by simp [G'], hself, hlen⟩)⟩
    rw [Nat.zero_add]
    refine RD.mono himm ?_
    rw [List.getElem?_append] at hix
    split at hix
    · rename_i hil
      have hm := mul_room (s := T.sz) hil
      rw [take_drop_prefix (List.prefix_append row yc) (by omega)]
      exact hx i x hix
    · rename_i hil
      have : ((row ++ yc).drop (i * T.sz)) = yc.drop ((i - xs.length) * T.sz) := by
        have hge : row.length ≤ i * T.sz := by rw [hrl]; exact Nat.mul_le_mul_right _ (by omega)
        rw [List.drop_append, List.drop_eq_nil_of_le hge, List.nil_append, hrl, Nat.sub_mul]
      rw [this]
      exact hy _ x hix
  · refine ⟨hw.len, hw.nodup, fun i c d hc hd => ?_, fun c r hc => ?_, fun c hc => ?_, fun t c n ht => ?_, fun t t' c n n' h h' => ?_, hw.tab.ext hext⟩
    · have hbo := hw.boxes i c d hc hd
      have hne : b ≠ c := fun h => hnotaddr (by rw [h]; exact List.mem_of_getElem? hc)
      exact hbo.mono hle (putRow_other hne)
    · by_cases hcb : c = b
      · subst hcb
        rw [hself] at hc
        cases hc
        exact ⟨_, e, (0, 0), putRow_same hlt, by simpa using hrow'⟩
      · have hc' : G.imm c = some r := by simpa [G', hcb] using hc
        obtain ⟨cs, e', fr, h1, h2⟩ := hw.imm c r hc'
        exact ⟨cs, e', fr, by rw [putRow_other (Ne.symm hcb)]; exact h1, h2⟩
    · have hcb : c ≠ b := fun h => hnotaddr (h ▸ hc)
      simp only [G', if_neg hcb]
      exact hw.disj c hc
    · by_cases h1 : t = B.nt
      · have : some (b, cap * T.sz) = some (c, n) := by rw [← ht]; simp [G', h1]
        simp only [Option.some.injEq, Prod.mk.injEq] at this
        obtain ⟨rfl, rfl⟩ := this
        exact ⟨by rw [h1]; exact Nat.lt_succ_self _, ⟨_, hself⟩, _, e, putRow_same hlt, hnew⟩
      · by_cases h2 : t = tok
        · simp [G', h1, h2, htn] at ht
        · have ht' : G.own t = some (c, n) := by simpa [G', h1, h2] using ht
          obtain ⟨a1, ⟨r, a2⟩, cs, e', a3, a4⟩ := hw.own t c n ht'
          have hcb : c ≠ b := fun h => by subst h; exact h2 (hw.inj t tok c _ _ ht' ho)
          exact ⟨Nat.lt_succ_of_lt a1, ⟨r, by simp [G', hcb, a2]⟩, cs, e', by rw [putRow_other (Ne.symm hcb)]; exact a3, a4⟩
    · have inv : ∀ t n, G'.own t = some (c, n) → (t = B.nt ∧ c = b) ∨ (t ≠ B.nt ∧ t ≠ tok ∧ G.own t = some (c, n)) := fun t n ht => by
        by_cases h1 : t = B.nt
        · left
          have : some (b, cap * T.sz) = some (c, n) := by rw [← ht]; simp [G', h1]
          simp only [Option.some.injEq, Prod.mk.injEq] at this
          exact ⟨h1, this.1.symm⟩
        · by_cases h2 : t = tok
          · simp [G', h1, h2, htn] at ht
          · exact .inr ⟨h1, h2, by simpa [G', h1, h2] using ht⟩
      rcases inv t n h with ⟨a1, a2⟩ | ⟨a1, a2, a3⟩ <;> rcases inv t' n' h' with ⟨b1, b2⟩ | ⟨b1, b2, b3⟩
      · rw [a1, b1]
      · subst a2; exact absurd (hw.inj t' tok c _ _ b3 ho) b2
      · subst b2; exact absurd (hw.inj t tok c _ _ a3 ho) a2
      · exact hw.inj t t' c n n' a3 b3

/-- A slice as a list that may be read: its elements. -/
def listOf (T : DTy) : AVal → Option (List T.El)
  | .d (.list T') xs => if h : T' = T then some (h ▸ xs) else none
  | .own _ T' xs => if h : T' = T then some (h ▸ xs) else none
  | .snil => some []
  | _ => none
theorem listOf_v {G : Gh} {dead : List Nat} {T : DTy} {a : AVal} {xs : List T.El} {v : Value} (h : listOf T a = some xs) (hv : Rv G dead a v) : ∃ A cap, v = .slice A xs.length cap ∧ RD G.imm (.list T) xs [.slice A xs.length cap] := by
  unfold listOf at h
  split at h
  · split at h
    · rename_i h'
      subst h'
      simp only [Option.some.injEq] at h
      subst h
      exact list_form hv
    · cases h
  · split at h
    · rename_i h'
      subst h'
      simp only [Option.some.injEq] at h
      subst h
      exact list_form (own_list hv)
    · cases h
  · simp only [Option.some.injEq] at h
    subst h
    have : v = .slice none 0 0 := toV_eq (a := .snil) rfl hv
    exact ⟨none, 0, this, none, 0, rfl, Nat.le_refl _, fun h => absurd rfl h⟩
  · cases h

/-- A slice that may be appended to: the token that is used up, its elements. -/
def ownedOf (T : DTy) (dead : List Nat) : AVal → Option (List Nat × List T.El)
  | .own tok T' xs => if h : T' = T then bif dead.contains tok then none else some ([tok], h ▸ xs) else none
  | .snil => some ([], [])
  | _ => none

def appendA (P : Program) (t t2 : TypeId) (s x : AVal) (B : Bx) : Option (Bool × AVal × Bx) :=
  match P.underlying t, P.underlying t2 with
  | some (.slice e), some (.slice _) => match dtyT P 6 e, P.info? e, zeroV P e with
    | some T, some ti, some zs => bif ti.size == T.sz && decide (0 < T.sz) && zs.length == T.sz && decide (ti.bytes ≤ 1024) then
        match ownedOf T B.dead s, listOf T x with
        | some (k, xs), some ys => some (decide (xs.length + ys.length ≤ LIM), .own B.nt T (xs ++ ys), B.row k)
        | _, _ => none
      else none
    | _, _, _ => none
  | _, _ => none

theorem run_choose_cap {P : Program} {w : World} {need old : Nat} {e : TypeId} (hn : need < 2 ^ 63) : ∃ c, need ≤ c ∧ (choose (.appendCap need old e)).run P w = .ok c w.drew := by
  refine ⟨_, ?_, rfl⟩
  simp only [Question.cut]
  omega

/-- What append does, its arguments being slices that can be read. -/
theorem run_append {P : Program} {w : World} {t t2 ty e e2 : TypeId} {ti : TypeInfo} {zs xc yc : List Value} {As Ax : Option Addr} {n m cs cx : Nat} (hu : P.underlying t = some (.slice e)) (hu2 : P.underlying t2 = some (.slice e2)) (hti : P.info? e = some ti) (hz : zeroV P e = some zs)
    (hbytes : ti.bytes ≤ 1024) (hlim : n + m ≤ 2 ^ 36) (hx : (Builtin.firstCells ti.size n (.slice As n cs)).run P w = .ok xc.toArray w) (hy : (Builtin.firstCells ti.size m (.slice Ax m cx)).run P w = .ok yc.toArray w)
    (hy2 : (Builtin.firstCells ti.size m (.slice Ax m cx)).run P w.drew = .ok yc.toArray w.drew) (hx2 : (Builtin.firstCells ti.size n (.slice As n cs)).run P w.drew = .ok xc.toArray w.drew) :
    (n + m ≤ cs → ∀ r, (((match As with | some a => storeCells (a.add (n * ti.size)) yc | none => pure ()) : Sem Unit).run P w = .ok () r) → (Builtin.append_ #[t, t2] ty #[.slice As n cs, .slice Ax m cx]).run P w = .ok (.slice As (n + m) cs) r) ∧
    (¬ n + m ≤ cs → ∃ cap, n + m ≤ cap ∧ (Builtin.append_ #[t, t2] ty #[.slice As n cs, .slice Ax m cx]).run P w =
      .ok (.slice (some ⟨w.heap.size, 0, none⟩) (n + m) cap) (w.drew.alloc (.cells (xc.toArray ++ (yc.toArray ++ Builtin.zeroCells zs.toArray (cap - (n + m)))) e))) := by
  refine ⟨fun hle r hr => ?_, fun hgt => ?_⟩
  · unfold Builtin.append_
    simp [run_underlying' hu, run_underlying' hu2, run_sizeOf' hti, Builtin.lenOf, hle, hy]
    cases As with
    | none => simp at hr; simp [hr]
    | some a => simp only at hr; simp [hr]
  · refine ⟨(Question.appendCap (n + m) cs e).cut (w.tape w.drawn (Question.appendCap (n + m) cs e)), by simp only [Question.cut]; omega, ?_⟩
    obtain ⟨z, hzr, hzc⟩ := run_zeroValue' hz w.drew
    have hnc := nextcap_le (need := n + m) (old := cs) (by omega)
    have h48 : ¬ Builtin.nextslicecap (n + m) cs * ti.bytes > 2 ^ 48 := by
      have : Builtin.nextslicecap (n + m) cs * ti.bytes ≤ (2 * (n + m) + 192) * 1024 := Nat.mul_le_mul hnc hbytes
      omega
    have h63 : ¬ (9223372036854775807 < (n : Int) + (m : Int)) := by omega
    have hf : (Question.appendCap (n + m) cs e).forced = false := rfl
    have hzz : z.cells = zs.toArray := by rw [← hzc]
    unfold Builtin.append_
    simp [run_underlying' hu, run_underlying' hu2, run_sizeOf' hti, Builtin.lenOf, hgt, run_typeInfo' hti, h48, h63, hf, hx2, hy2, hzr, hzz, newRow]

theorem appendA_sound {P : Program} {o : Oper} {ρ : Operand → AVal} {v : AVal} {c : Call} {t t2 : TypeId} {s x : Operand} {B B' : Bx} (ho : o.op = .call c) (hcal : c.callee = .builtin .append) (hargs : c.args = #[s, x]) (hty : c.argTypes = #[t, t2])
    (h : appendA P t t2 (ρ s) (ρ x) B = some (true, v, B')) : OpD P o ρ B v B' := by
  intro G a w ha hw next Q hn
  have hops : ∀ y, y = s ∨ y = x → y ∈ o.op.operands := fun y hy => by
    rw [ho]
    simp only [Op.operands, Call.operands, hcal, hargs]
    rcases hy with rfl | rfl <;> simp
  have hs := ha s (hops s (.inl rfl))
  have hx := ha x (hops x (.inr rfl))
  unfold appendA at h
  split at h
  · rename_i e e2 hu hu2
    split at h
    · rename_i T ti zs hT hti hz
      cases hb : ti.size == T.sz && decide (0 < T.sz) && zs.length == T.sz && decide (ti.bytes ≤ 1024) with
      | false => rw [hb] at h; cases h
      | true =>
        simp only [hb, cond_true] at h
        simp only [Bool.and_eq_true, beq_iff_eq, decide_eq_true_eq] at hb
        obtain ⟨⟨⟨hsz, hpos⟩, hzl⟩, hbytes⟩ := hb
        split at h
        · rename_i k xs ys hk hys
          simp only [Option.some.injEq, Prod.mk.injEq, decide_eq_true_eq] at h
          obtain ⟨hlim, rfl, rfl⟩ := h
          obtain ⟨Ax, capx, hxv, hxr⟩ := listOf_v hys hx
          obtain ⟨yc, y1, y2, y3, y4⟩ := list_cells (P := P) hw hxr
          -- what is appended to
          obtain ⟨As, caps, hsv, hsr, hown⟩ : ∃ A cap, a.eval s = .slice A xs.length cap ∧ RD G.imm (.list T) xs [.slice A xs.length cap] ∧
              ((xs = [] ∧ A = none ∧ cap = 0) ∨ ∃ tok b row, k = [tok] ∧ A = some ⟨b, 0, none⟩ ∧ G.own tok = some (b, cap * T.sz) ∧ G.imm b = some row ∧ row.length = xs.length * T.sz) := by
            unfold ownedOf at hk
            split at hk
            · rename_i tok T' xs' hs'
              split at hk
              · rename_i hT'
                subst hT'
                cases hd : B.dead.contains tok with
                | true => rw [hd] at hk; cases hk
                | false =>
                  simp only [hd, cond_false, Option.some.injEq, Prod.mk.injEq] at hk
                  obtain ⟨rfl, rfl⟩ := hk
                  rw [hs'] at hs
                  obtain ⟨cs, hc, hv | hv⟩ := hs
                  · cases hv.1
                  · obtain ⟨hrd, A, cap, rfl, hor⟩ := hc
                    have hv2 : a.eval s = .slice A xs'.length cap := by simpa using hv.2.symm
                    refine ⟨A, cap, hv2, hrd, ?_⟩
                    rcases hor with hor | hor | ⟨b, row, h1, h2, h3, h4⟩
                    · have := List.contains_iff_mem.2 hor
                      rw [hd] at this; cases this
                    · exact .inl hor
                    · exact .inr ⟨tok, b, row, rfl, h1, h2, h3, h4⟩
              · cases hk
            · rename_i hs'
              simp only [Option.some.injEq, Prod.mk.injEq] at hk
              obtain ⟨rfl, rfl⟩ := hk
              rw [hs'] at hs
              have : a.eval s = .slice none 0 0 := toV_eq (a := .snil) rfl hs
              exact ⟨none, 0, this, ⟨none, 0, rfl, Nat.le_refl _, fun h => absurd rfl h⟩, .inl ⟨rfl, rfl, rfl⟩⟩
            · cases hk
          obtain ⟨xc, x1, x2, x3, x4⟩ := list_cells (P := P) hw hsr
          have hlen2 : xs.length + ys.length ≤ 2 ^ 36 := hlim
          -- the run
          have hrun0 : ∀ w' r, (Builtin.append_ #[t, t2] o.type #[.slice As xs.length caps, .slice Ax ys.length capx]).run P w = .ok r w' → (execOp a.eval o).run P w = .ok (.value r) w' := fun w' r hr => by
            simp only [execOp, ho]
            unfold resolve
            simp only [hcal, hargs, Sem.run_bind, Sem.run_pure, Result.andThen_ok, invoke, builtin, hty]
            have : (#[s, x] : Array Operand).map a.eval = #[.slice As xs.length caps, .slice Ax ys.length capx] := by simp [hsv, hxv]
            simp only [this, hr, Result.andThen_ok]
          obtain ⟨rin, rnew⟩ := run_append (P := P) (w := w) (ty := o.type) (xc := xc) (yc := yc) (As := As) (Ax := Ax) (n := xs.length) (m := ys.length) (cs := caps) (cx := capx) hu hu2 hti hz hbytes hlen2 (by rw [hsz]; exact x2 _ _ _ rfl) (by rw [hsz]; exact y2 _ _ _ rfl) (by rw [hsz]; exact y2 _ _ _ rfl) (by rw [hsz]; exact x2 _ _ _ rfl)
          by_cases hfit : xs.length + ys.length ≤ caps
          · rcases hown with ⟨rfl, rfl, rfl⟩ | ⟨tok, b, row, rfl, rfl, ho1, hi1, hrl⟩
            · have hy0 : ys = [] := by
                have : ys.length = 0 := by simpa using hfit
                exact List.length_eq_zero_iff.1 this
              subst hy0
              obtain ⟨d1, d2, d3⟩ := dropOwn hw k
              have hw2 : WOk { G with own := fun t => if t ∈ k then none else G.own t } (B.row k) w := ⟨d1.len, d1.nodup, d1.boxes, d1.imm, d1.disj, fun t b n ht => by
                obtain ⟨q1, q2⟩ := d1.own t b n ht
                exact ⟨Nat.lt_succ_of_lt q1, q2⟩, d1.inj, d1.tab⟩
              refine wp_of_run (hrun0 w _ (rin hfit w rfl)) (hn _ _ w ?_ hw2 d2 d3)
              exact leaf_v rfl ⟨⟨none, 0, rfl, Nat.le_refl _, fun h => absurd rfl h⟩, none, 0, rfl, .inr (.inl ⟨rfl, rfl, rfl⟩)⟩
            · obtain ⟨_, _, cells, e', hh, hcs⟩ := hw.own tok b _ ho1
              obtain ⟨cells2, e2', fr, hh2, hp⟩ := hw.imm b row hi1
              rw [hh] at hh2
              simp only [Option.some.injEq, Obj.cells.injEq] at hh2
              obtain ⟨rfl, rfl, rfl⟩ := hh2
              have hxr2 : ∀ (i : Nat) (x : T.El), xs[i]? = some x → RD G.imm T x ((row.drop (i * T.sz)).take T.sz) := fun i x hi => by
                obtain ⟨A', cap', e, _, hr⟩ := hsr
                obtain ⟨b', off, row', e2, hb', hl, hx⟩ := hr (by intro h0; subst h0; simp at hi)
                simp only [List.cons.injEq, Value.slice.injEq, and_true, true_and] at e
                obtain ⟨rfl, rfl⟩ := e
                simp only [Option.some.injEq, Addr.mk.injEq] at e2
                obtain ⟨rfl, rfl, _⟩ := e2
                rw [hi1] at hb'
                cases hb'
                have := hx i x hi
                rwa [Nat.zero_add] at this
              obtain ⟨G', g1, g2, g3, g4⟩ := app_row (ys := ys) (yc := yc) (e := e') hw ho1 hi1 hrl hh hcs hp y1 hfit hxr2 y3
              have hyleaf : ∀ v ∈ yc, leafV v = true := fun v hv => by
                obtain ⟨i, hi, rfl⟩ := List.mem_iff_getElem.1 hv
                rw [y1] at hi
                have hq : i / T.sz < ys.length := by rw [Nat.div_lt_iff_lt_mul hpos]; exact hi
                refine RD.leaf (y3 (i / T.sz) _ (getD_some hq (d := T.dflt))) _ (List.mem_iff_getElem.2 ⟨i % T.sz, ?_, ?_⟩)
                · have := mul_room (s := T.sz) hq
                  have := Nat.mod_lt i hpos
                  simp; omega
                · simp only [List.getElem_take, List.getElem_drop]
                  congr 1
                  rw [Nat.mul_comm]; exact Nat.div_add_mod i T.sz
              have hst := run_storeCells (P := P) (b := b) (off := xs.length * T.sz) (e := e') yc 0 w cells hh (by
                rw [Nat.add_zero, y1, hcs, ← Nat.add_mul]; exact Nat.mul_le_mul_right _ hfit) hyleaf
              rw [Nat.add_zero] at hst
              refine wp_of_run (hrun0 _ _ (rin hfit _ ?_)) (hn _ G' _ g1 g2 g3 g4)
              show (storeCells ((⟨b, 0, none⟩ : Addr).add (xs.length * ti.size)) yc).run P w = _
              rw [addr_add, Nat.zero_add, hsz]
              exact hst
          · obtain ⟨cap, hcap, hr⟩ := rnew hfit
            obtain ⟨d1, d2, d3⟩ := dropOwn hw k
            have hwd := d1.heap (w' := w.drew) rfl
            have hrow : (xc ++ yc).length = (xs ++ ys).length * T.sz := by simp [x1, y1, Nat.add_mul]
            obtain ⟨G', g1, g2, g3, g4⟩ := new_row (T := T) (xs := xs ++ ys) (row := xc ++ yc) (cells := xc.toArray ++ (yc.toArray ++ Builtin.zeroCells zs.toArray (cap - (xs.length + ys.length)))) (e := e) (cap := cap) hwd (by
                simp only [Array.toList_append, ← List.append_assoc]
                exact List.prefix_append _ _) (by
                have : (cap - (xs.length + ys.length)) + (xs.length + ys.length) = cap := by omega
                simp only [Array.size_append, List.size_toArray, zeroCells_len, x1, y1, hzl]
                rw [← Nat.add_assoc, ← Nat.add_mul, ← Nat.add_mul]
                congr 1; omega) hrow (by simpa using hcap) (fun i x hi => by
                rw [List.getElem?_append] at hi
                split at hi
                · rename_i hil
                  have hm := mul_room (s := T.sz) hil
                  rw [take_drop_prefix (List.prefix_append xc yc) (by omega)]
                  exact x3 i x hi
                · rename_i hil
                  have : ((xc ++ yc).drop (i * T.sz)) = yc.drop ((i - xs.length) * T.sz) := by
                    have hge : xc.length ≤ i * T.sz := by rw [x1]; exact Nat.mul_le_mul_right _ (by omega)
                    rw [List.drop_append, List.drop_eq_nil_of_le hge, List.nil_append, x1, Nat.sub_mul]
                  rw [this]
                  exact y3 _ x hi)
            have e3 : (xs ++ ys).length = xs.length + ys.length := by simp
            rw [e3] at g1
            exact wp_of_run (hrun0 _ _ hr) (hn _ G' _ g1 g2 (d2.trans g3) ((d3.trans (Ext.drew _ _)).trans g4))
        · cases h
    · cases h
  · cases h

end Go.Proofs.YtbidmbjkjpdgdaaDoor.Abs
