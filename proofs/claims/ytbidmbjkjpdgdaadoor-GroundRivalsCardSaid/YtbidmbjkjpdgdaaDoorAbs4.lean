/-
  The abstract semantics, fourth part: fields, elements, what is read.
-/
import Derived.Test.YtbidmbjkjpdgdaaDoorAbs3
set_option linter.unusedVariables false
set_option linter.unusedSimpArgs false
namespace Go.Proofs.YtbidmbjkjpdgdaaDoor.Abs

/-! ### Children, paths -/
def childA : AVal → Nat → Option (Nat × AVal)
  | .d T x, k => fldD T x k
  | .cons h _, 0 => some (0, h)
  | .cons h t, k + 1 => match childA t k with
    | some (o, a) => some (h.size + o, a)
    | none => none
  | _, _ => none

theorem childA_spec {G : Gh} {dead : List Nat} : {a : AVal} → {k o : Nat} → {c : AVal} → childA a k = some (o, c) → ∀ cs, Rc G dead a cs → o + c.size ≤ cs.length ∧ Rc G dead c ((cs.drop o).take c.size)
  | .d T x, k, o, c, e, cs, hc => by
    obtain ⟨T', x', rfl, hs⟩ := fldD_spec (imm := G.imm) e
    exact hs cs hc
  | .cons h t, 0, o, c, e, cs, hc => by
    simp only [childA, Option.some.injEq, Prod.mk.injEq] at e
    obtain ⟨rfl, rfl⟩ := e
    obtain ⟨c1, c2, rfl, h1, h2⟩ := hc
    have := Rc.len (a := h) h1
    simp [this.symm]
    exact h1
  | .cons h t, k + 1, o, c, e, cs, hc => by
    simp only [childA] at e
    split at e
    · rename_i o1 a1 h1
      simp only [Option.some.injEq, Prod.mk.injEq] at e
      obtain ⟨rfl, rfl⟩ := e
      obtain ⟨c1, c2, rfl, h2, h3⟩ := hc
      have hl := Rc.len (a := h) h2
      obtain ⟨hle, hr⟩ := childA_spec h1 c2 h3
      refine ⟨by simp; omega, ?_⟩
      rw [← hl, List.drop_append, List.drop_eq_nil_of_le (by omega)]
      simpa using hr
    · cases e
  | .own .., _, _, _, e, _, _ | .nil, _, _, _, e, _, _ | .pnil, _, _, _, e, _, _ | .bptr .., _, _, _, e, _, _ | .iptr .., _, _, _, e, _, _ | .func .., _, _, _, e, _, _ | .fnil, _, _, _, e, _, _ | .snil, _, _, _, e, _, _ | .iface .., _, _, _, e, _, _ | .inil, _, _, _, e, _, _ | .tuple .., _, _, _, e, _, _ | .any, _, _, _, e, _, _ => by simp [childA] at e

def getP : AVal → List PStep → Option AVal
  | a, [] => some a
  | a, .fld k off :: p => match childA a k with
    | some (o, c) => bif o == off then getP c p else none
    | none => none
  | .d (.arr m e) xs, .ix i esz n :: p => bif m == n && e.sz == esz then getP (.d e (xs.getD i e.dflt)) p else none
  | _, .ix .. :: _ => none

theorem getP_spec {G : Gh} {dead : List Nat} : {p : List PStep} → {a c : AVal} → getP a p = some c → okP p → ∀ cs, Rc G dead a cs → offP p + c.size ≤ cs.length ∧ Rc G dead c ((cs.drop (offP p)).take c.size)
  | [], a, c, e, _, cs, hc => by
    simp only [getP, Option.some.injEq] at e
    subst e
    have := Rc.len hc
    simp [offP, this.symm]
    exact hc
  | .fld k off :: p, a, c, e, hp, cs, hc => by
    simp only [getP] at e
    split at e
    · rename_i o c1 h1
      cases ho : o == off with
      | false => simp [ho] at e
      | true =>
        simp only [ho, cond_true] at e
        have ho' : o = off := by simpa using ho
        subst ho'
        obtain ⟨hle, hr⟩ := childA_spec h1 cs hc
        obtain ⟨hle2, hr2⟩ := getP_spec e hp _ hr
        have hl := Rc.len hr
        simp only [List.length_take, List.length_drop] at hl hle2
        refine ⟨by simp only [offP, PStep.off]; omega, ?_⟩
        rw [List.drop_take, List.take_take, List.drop_drop, Nat.min_eq_left (by omega)] at hr2
        exact hr2
    · cases e
  | .ix i esz n :: p, a, c, e, hp, cs, hc => by
    cases a with
    | d T x =>
      cases T with
      | arr m el =>
        simp only [getP] at e
        cases hb : m == n && el.sz == esz with
        | false => simp [hb] at e
        | true =>
          simp only [hb, cond_true] at e
          simp only [Bool.and_eq_true, beq_iff_eq] at hb
          obtain ⟨rfl, rfl⟩ := hb
          obtain ⟨hxl, hcl, hx⟩ := hc
          have hi : i < m := hp.1
          have hxi : x[i]? = some (x.getD i el.dflt) := by
            rw [List.getD_eq_getElem?_getD, List.getElem?_eq_getElem (by omega)]
            rfl
          have hr := hx i _ hxi
          have hr' : Rc G dead (.d el (x.getD i el.dflt)) ((cs.drop (i * el.sz)).take el.sz) := hr
          obtain ⟨hle2, hr2⟩ := getP_spec e hp.2 _ hr'
          have hm : (i + 1) * el.sz ≤ m * el.sz := Nat.mul_le_mul_right _ hi
          rw [Nat.add_mul, Nat.one_mul] at hm
          simp only [List.length_take, List.length_drop] at hle2
          refine ⟨by simp only [offP, PStep.off]; omega, ?_⟩
          rw [List.drop_take, List.take_take, List.drop_drop, Nat.min_eq_left (by omega)] at hr2
          exact hr2
      | _ => simp [getP] at e
    | _ => simp [getP] at e

/-! ### Types of a program -/
def aggT (P : Program) (t : TypeId) : Option Bool :=
  match P.underlying t with
  | some (.struct _) => some true
  | some (.array _ _) => some true
  | some _ => some false
  | none => none
theorem run_isAgg' {P : Program} {t : TypeId} {b : Bool} (h : aggT P t = some b) (w : World) : (isAgg t).run P w = .ok b w := by
  unfold aggT at h
  unfold isAgg
  cases hu : P.underlying t with
  | none => simp [hu] at h
  | some d => rw [Sem.run_bind, run_underlying' hu]; cases d <;> simp [hu] at h <;> subst h <;> rfl

/-- A type is as wide, and is a struct or an array, just as a value. -/
def fitT (P : Program) (t : TypeId) (c : AVal) : Bool :=
  match P.info? t, aggT P t with
  | some i, some b => i.size == c.size && b == c.agg && !c.isM
  | _, _ => false
theorem fitT_spec {P : Program} {t : TypeId} {c : AVal} (h : fitT P t c = true) : ∃ i, P.info? t = some i ∧ i.size = c.size ∧ aggT P t = some c.agg := by
  unfold fitT at h
  split at h
  · rename_i i b h1 h2
    simp only [Bool.and_eq_true, beq_iff_eq] at h
    exact ⟨i, h1, h.1.1, by rw [h2, h.1.2]⟩
  · cases h
theorem fitT_notM {P : Program} {t : TypeId} {c : AVal} (h : fitT P t c = true) : c.isM = false := by
  unfold fitT at h
  split at h
  · simp only [Bool.and_eq_true, Bool.not_eq_true'] at h
    exact h.2
  · cases h
theorem getP_notM {p : List PStep} {a c : AVal} (h : getP a p = some c) (hc : c.isM = false) : a.isM = false := by
  cases p with
  | nil =>
    simp only [getP, Option.some.injEq] at h
    rw [h]; exact hc
  | cons s p => cases a <;> first | rfl | (cases s <;> simp [getP, childA] at h)

def fieldA (P : Program) (s : TypeId) (x : AVal) (f : Nat) : Option AVal :=
  match P.underlying s with
  | some (.struct fs) => match fs[f]?, childA x f with
    | some fd, some (o, c) => bif x.agg && o == fd.offset && fitT P fd.type c then some c else none
    | _, _ => none
  | _ => none

theorem agg_v {G : Gh} {dead : List Nat} {a : AVal} {cs : List Value} (hc : Rc G dead a cs) (hagg : a.agg = true) : Rv G dead a (.agg cs.toArray) := ⟨cs, hc, .inl ⟨hagg, rfl⟩⟩

theorem fieldA_sound {P : Program} {o : Oper} {ρ : Operand → AVal} {v : AVal} {s : TypeId} {x : Operand} {f : Nat} (ho : o.op = .field s x f) (h : fieldA P s (ρ x) f = some v) (B : Bx) : OpD P o ρ B v B := by
  unfold fieldA at h
  split at h
  · rename_i fs hfs
    split at h
    · rename_i fd o1 c hfd hch
      cases hb : (ρ x).agg && o1 == fd.offset && fitT P fd.type c with
      | false => simp [hb] at h
      | true =>
        simp only [hb, cond_true, Option.some.injEq] at h
        subst h
        simp only [Bool.and_eq_true, beq_iff_eq] at hb
        obtain ⟨⟨hagg, ho1⟩, hfit⟩ := hb
        obtain ⟨ti, hti, hsz, hag⟩ := fitT_spec hfit
        refine OpD.value (fun G dead a ha => ?_) B
        obtain ⟨cs, hc, hv | hv⟩ := ha x (by rw [ho]; simp [Op.operands])
        · obtain ⟨hle, hr⟩ := childA_spec hch cs hc
          have hrun : ∀ (v' : Value), (∀ w, (part fd.type cs.toArray fd.offset).run P w = .ok v' w) → ∀ w, (execOp a.eval o).run P w = .ok (.value v') w := by
            intro v' hp w
            simp only [execOp, ho, hv.2]
            rw [Sem.run_bind]
            unfold Instr.field
            rw [Sem.run_bind, run_underlying' hfs]
            simp only [Result.andThen_ok, hfd, asAgg, Sem.run_bind, Sem.run_pure, hp w]
          cases hag2 : c.agg with
          | true =>
            refine ⟨.agg ((cs.drop o1).take c.size).toArray, hrun _ (fun w => ?_), agg_v hr hag2⟩
            unfold part
            rw [hag2] at hag
            rw [Sem.run_bind, run_isAgg' hag]
            simp only [Result.andThen_ok, if_true, Sem.run_bind, run_sizeOf' hti, Sem.run_pure]
            congr 2
            apply Array.ext'
            simp [List.extract_eq_take_drop, ← ho1, hsz]
          | false =>
            have hl := Rc.len hr
            have h1 : c.size = 1 := by cases c <;> simp [AVal.agg] at hag2 <;> try rfl
                                       rename_i T y; cases T <;> simp [DTy.agg] at hag2 <;> rfl
            have hlt : o1 < cs.length := by omega
            have hone : (cs.drop o1).take c.size = [cs[o1]] := by
              rw [h1, List.drop_eq_getElem_cons hlt]; rfl
            rw [hone] at hr
            refine ⟨cs[o1], hrun _ (fun w => ?_), leaf_v hag2 hr⟩
            unfold part
            rw [hag2] at hag
            rw [Sem.run_bind, run_isAgg' hag]
            simp [← ho1, hlt]
        · rw [hagg] at hv; cases hv.1
    · cases h
  · cases h

/-! ### Indices -/
def szT (P : Program) (t : TypeId) : Option Nat := (P.info? t).map (·.size)
theorem szT_spec {P : Program} {t : TypeId} {n : Nat} (h : szT P t = some n) : ∃ i, P.info? t = some i ∧ i.size = n := by
  unfold szT at h
  cases hi : P.info? t with
  | none => simp [hi] at h
  | some i => exact ⟨i, rfl, by simpa [hi] using h⟩

theorem toNat_lt' {i : Int} {n : Nat} (h0 : 0 ≤ i) (h1 : i < (n : Int)) : i.toNat < n := by omega
theorem mul_room {i n s : Nat} (h : i < n) : i * s + s ≤ n * s := by
  have := Nat.mul_le_mul_right s h
  rw [Nat.succ_mul] at this
  exact this
/-- The address of an element: which one, and under which condition it is there. -/
def indexAddrA (P : Program) (t : TypeId) (x ix : AVal) : Option (Bool × AVal) :=
  match ix with
  | .d (.int _) i =>
    match P.underlying t with
    | some (.slice e) => match szT P e with
      | some n => match x with
        | .d (.list T) xs => bif n == T.sz then some (decide (0 ≤ i) && decide (i < (xs.length : Int)), .iptr T (xs.getD i.toNat T.dflt)) else none
        | .own _ T xs => bif n == T.sz then some (decide (0 ≤ i) && decide (i < (xs.length : Int)), .iptr T (xs.getD i.toNat T.dflt)) else none
        | _ => none
      | none => none
    | some (.array m e) => match szT P e with
      | some n => match x with
        | .bptr b p => some (decide (0 ≤ i) && decide (i < (m : Int)), .bptr b (p ++ [.ix i.toNat n m]))
        | .iptr (.arr m' T) xs => bif n == T.sz && m == m' then some (decide (0 ≤ i) && decide (i < (m : Int)), .iptr T (xs.getD i.toNat T.dflt)) else none
        | _ => none
      | none => none
    | _ => none
  | _ => none

theorem getD_some {α : Type} {xs : List α} {i : Nat} {d : α} (h : i < xs.length) : xs[i]? = some (xs.getD i d) := by
  rw [List.getD_eq_getElem?_getD, List.getElem?_eq_getElem h]
  rfl

theorem list_elem {G : Gh} {dead : List Nat} {T : DTy} {xs : List T.El} {A : Option Addr} {cap : Nat} (h : RD G.imm (.list T) xs [.slice A xs.length cap]) {i : Nat} (hi : i < xs.length) :
    ∃ b off, A = some ⟨b, off, none⟩ ∧ Rv G dead (.iptr T (xs.getD i T.dflt)) (.pointer (some ⟨b, off + i * T.sz, none⟩)) := by
  obtain ⟨A', cap', e, _, hr⟩ := h
  obtain ⟨rfl, rfl⟩ : A = A' ∧ cap = cap' := by simpa using e
  obtain ⟨b, off, row, rfl, hb, hl, hx⟩ := hr (by intro h0; subst h0; simp at hi)
  have hm : (i + 1) * T.sz ≤ xs.length * T.sz := Nat.mul_le_mul_right _ hi
  rw [Nat.add_mul, Nat.one_mul] at hm
  exact ⟨b, off, rfl, leaf_v rfl ⟨b, _, row, rfl, hb, by omega, hx i _ (getD_some hi)⟩⟩

theorem run_indexAt_slice {P : Program} {t e : TypeId} {ti : TypeInfo} {b off len cap : Nat} {k : IntKind} {i : Int} (h1 : P.underlying t = some (.slice e)) (h2 : P.info? e = some ti) (h3 : 0 ≤ i) (h4 : i < len) (w : World) :
    (Instr.indexAt t (.slice (some ⟨b, off, none⟩) len cap) (.int k i)).run P w = .ok (.pointer (some ⟨b, off + i.toNat * ti.size, none⟩)) w := by
  unfold Instr.indexAt
  simp [asIntOf, run_underlying' h1, run_sizeOf' h2, h3, h4, addr_add]
theorem run_indexAt_array {P : Program} {t e : TypeId} {ti : TypeInfo} {m b off : Nat} {k : IntKind} {i : Int} (h1 : P.underlying t = some (.array m e)) (h2 : P.info? e = some ti) (h3 : 0 ≤ i) (h4 : i < m) (w : World) :
    (Instr.indexAt t (.pointer (some ⟨b, off, none⟩)) (.int k i)).run P w = .ok (.pointer (some ⟨b, off + i.toNat * ti.size, none⟩)) w := by
  unfold Instr.indexAt
  simp [asIntOf, run_underlying' h1, run_sizeOf' h2, h3, h4, addr_add, Instr.sureAddr]

theorem indexAddrA_sound {P : Program} {o : Oper} {ρ : Operand → AVal} {v : AVal} {t : TypeId} {x ix : Operand} (ho : o.op = .indexAddr t x ix) (h : indexAddrA P t (ρ x) (ρ ix) = some (true, v)) (B : Bx) : OpD P o ρ B v B := by
  refine OpD.value (fun G dead a ha => ?_) B
  have hx := ha x (by rw [ho]; simp [Op.operands])
  have hix := ha ix (by rw [ho]; simp [Op.operands])
  unfold indexAddrA at h
  split at h
  · rename_i k i hi
    rw [hi] at hix
    have hiv := int_form hix
    split at h
    · rename_i e hu
      split at h
      · rename_i n hn
        obtain ⟨ti, hti, rfl⟩ := szT_spec hn
        have key : ∀ (T : DTy) (xs : List T.El), Rv G dead (.d (.list T) xs) (a.eval x) → (bif ti.size == T.sz then some (decide (0 ≤ i) && decide (i < (xs.length : Int)), AVal.iptr T (xs.getD i.toNat T.dflt)) else none) = some (true, v) → ∃ cv, (∀ w, (execOp a.eval o).run P w = .ok (.value cv) w) ∧ Rv G dead v cv := by
          intro T xs hxs h
          cases hb : ti.size == T.sz with
          | false => simp [hb] at h
          | true =>
            simp only [hb, cond_true, Option.some.injEq, Prod.mk.injEq, Bool.and_eq_true, decide_eq_true_eq] at h
            obtain ⟨⟨h0, h1⟩, rfl⟩ := h
            have hb' : ti.size = T.sz := by simpa using hb
            obtain ⟨A, cap, hv, hr⟩ := list_form hxs
            obtain ⟨b, off, rfl, he⟩ := list_elem (dead := dead) hr (i := i.toNat) (toNat_lt' h0 h1)
            refine ⟨_, fun w => ?_, he⟩
            simp only [execOp, ho, hv, hiv]
            rw [Sem.run_bind, run_indexAt_slice hu hti h0 h1, hb']
            rfl
        split at h
        · rename_i T xs hxs; rw [hxs] at hx; exact key T xs hx h
        · rename_i tok T xs hxs; rw [hxs] at hx; exact key T xs (own_list hx) h
        · cases h
      · cases h
    · rename_i m e hu
      split at h
      · rename_i n hn
        obtain ⟨ti, hti, rfl⟩ := szT_spec hn
        split at h
        · rename_i b p hbp
          simp only [Option.some.injEq, Prod.mk.injEq, Bool.and_eq_true, decide_eq_true_eq] at h
          obtain ⟨⟨h0, h1⟩, rfl⟩ := h
          rw [hbp] at hx
          obtain ⟨blk, hb, hp, hv⟩ := ptr_form hx
          refine ⟨.pointer (some ⟨blk, offP p + i.toNat * ti.size, none⟩), fun w => ?_, leaf_v rfl ⟨blk, hb, okP_ix _ _ _ _ (toNat_lt' h0 h1) hp, by rw [offP_snoc]; rfl⟩⟩
          simp only [execOp, ho, hv, hiv]
          rw [Sem.run_bind, run_indexAt_array hu hti h0 h1]
          rfl
        · rename_i m' T xs hbp
          cases hb : ti.size == T.sz && m == m' with
          | false => simp [hb] at h
          | true =>
            simp only [hb, cond_true, Option.some.injEq, Prod.mk.injEq, Bool.and_eq_true, decide_eq_true_eq] at h
            obtain ⟨⟨h0, h1⟩, rfl⟩ := h
            simp only [Bool.and_eq_true, beq_iff_eq] at hb
            obtain ⟨hsz, rfl⟩ := hb
            rw [hbp] at hx
            obtain ⟨b, off, row, hv, hrow, hle, hr⟩ := iptr_form hx
            obtain ⟨hxl, hcl, hxx⟩ := hr
            have hi1 : i.toNat < m := toNat_lt' h0 h1
            have hi2 : i.toNat < xs.length := by rw [hxl]; exact hi1
            have hm := mul_room (s := T.sz) hi1
            have hle' : off + m * T.sz ≤ row.length := hle
            have hle2 : off + i.toNat * T.sz + T.sz ≤ row.length := by rw [Nat.add_assoc]; exact Nat.le_trans (Nat.add_le_add_left hm off) hle'
            refine ⟨.pointer (some ⟨b, off + i.toNat * ti.size, none⟩), fun w => ?_, leaf_v rfl ⟨b, off + i.toNat * ti.size, row, rfl, hrow, by rw [hsz]; exact hle2, ?_⟩⟩
            · simp only [execOp, ho, hv, hiv]
              rw [Sem.run_bind, run_indexAt_array hu hti h0 h1]
              rfl
            · have := hxx i.toNat _ (getD_some hi2 (d := T.dflt))
              rw [List.drop_take, List.take_take, List.drop_drop] at this
              have hmin : min T.sz ((DTy.arr m T).sz - i.toNat * T.sz) = T.sz := by
                refine Nat.min_eq_left ?_
                show T.sz ≤ m * T.sz - i.toNat * T.sz
                exact Nat.le_sub_of_add_le (by rw [Nat.add_comm]; exact hm)
              rw [hmin] at this
              rw [hsz]
              exact this
        · cases h
      · cases h
    · cases h
  · cases h

end Go.Proofs.YtbidmbjkjpdgdaaDoor.Abs
