/-
  The abstract semantics, sixth part: values as typed data; a box is written.
-/
import Derived.Test.YtbidmbjkjpdgdaaDoorAbs5
set_option linter.unusedVariables false
set_option linter.unusedSimpArgs false
namespace Go.Proofs.YtbidmbjkjpdgdaaDoor.Abs

def asData : AVal → (T : DTy) → Option T.El
  | .d T' x, T => if h : T' = T then some (h ▸ x) else none
  | .own _ T' xs, .list T => if h : T' = T then some (h ▸ xs) else none
  | .snil, .list T => some []
  | .nil, .nil => some ()
  | .nil, .arr 0 e => some []
  | .cons a t, .cons h tl => match asData a h, asData t tl with
    | some x, some y => some (x, y)
    | _, _ => none
  | .cons a t, .arr (n + 1) e => match asData a e, asData t (.arr n e) with
    | some x, some xs => some (x :: xs : List e.El)
    | _, _ => none
  | _, _ => none

theorem RD.arr_cons {imm : Nat → Option (List Value)} {n : Nat} {e : DTy} {x : e.El} {xs : List e.El} {c1 c2 : List Value} (h1 : RD imm e x c1) (h2 : RD imm (.arr n e) xs c2) : RD imm (.arr (n + 1) e) (x :: xs : List e.El) (c1 ++ c2) := by
  have hl := RD.len h1
  obtain ⟨a1, a2, a3⟩ := h2
  refine ⟨by simp [a1], by simp [hl, a2, Nat.add_mul]; omega, fun i y hy => ?_⟩
  cases i with
  | zero =>
    simp only [List.getElem?_cons_zero, Option.some.injEq] at hy
    subst hy
    simp [← hl, h1]
  | succ i =>
    simp only [List.getElem?_cons_succ] at hy
    have := a3 i y hy
    have e1 : (i + 1) * e.sz = e.sz + i * e.sz := by rw [Nat.add_mul, Nat.one_mul, Nat.add_comm]
    rw [e1, ← List.drop_drop, ← hl, List.drop_left, hl]
    exact this

theorem asData_spec {G : Gh} {dead : List Nat} : {a : AVal} → {T : DTy} → {x : T.El} → asData a T = some x → ∀ cs, Rc G dead a cs → RD G.imm T x cs
  | .d T' y, T, x, e, cs, hc => by
    simp only [asData] at e
    split at e
    · rename_i h
      subst h
      simp only [Option.some.injEq] at e
      subst e
      exact hc
    · cases e
  | .own tok T' xs, T, x, e, cs, hc => by
    cases T with
    | list T =>
      simp only [asData] at e
      split at e
      · rename_i h
        subst h
        simp only [Option.some.injEq] at e
        subst e
        exact hc.1
      · cases e
    | _ => simp [asData] at e
  | .snil, T, x, e, cs, hc => by
    cases T with
    | list T =>
      simp only [asData, Option.some.injEq] at e
      subst e
      have hc : cs = [.slice none 0 0] := hc
      subst hc
      exact ⟨none, 0, rfl, Nat.le_refl _, fun h => absurd rfl h⟩
    | _ => simp [asData] at e
  | .nil, T, x, e, cs, hc => by
    have hc : cs = [] := hc
    subst hc
    cases T with
    | nil => rfl
    | arr n el =>
      cases n with
      | zero =>
        simp only [asData, Option.some.injEq] at e
        subst e
        exact ⟨rfl, by simp, fun i y hy => by simp at hy⟩
      | succ n => simp [asData] at e
    | _ => simp [asData] at e
  | .cons a t, T, x, e, cs, hc => by
    obtain ⟨c1, c2, rfl, h1, h2⟩ := hc
    cases T with
    | cons h tl =>
      simp only [asData] at e
      split at e
      · rename_i y z hy hz
        simp only [Option.some.injEq] at e
        subst e
        exact ⟨c1, c2, rfl, asData_spec hy _ h1, asData_spec hz _ h2⟩
      · cases e
    | arr n el =>
      cases n with
      | zero => simp [asData] at e
      | succ n =>
        simp only [asData] at e
        split at e
        · rename_i y z hy hz
          simp only [Option.some.injEq] at e
          subst e
          exact RD.arr_cons (asData_spec hy _ h1) (asData_spec hz _ h2)
        · cases e
    | _ => simp [asData] at e
  | .pnil, T, x, e, cs, hc | .fnil, T, x, e, cs, hc | .inil, T, x, e, cs, hc | .bptr .., T, x, e, cs, hc | .iptr .., T, x, e, cs, hc | .func .., T, x, e, cs, hc | .iface .., T, x, e, cs, hc | .tuple .., T, x, e, cs, hc | .any, T, x, e, cs, hc => by
    cases T <;> simp [asData] at e

/-! ### A box's part is written -/
def setC : AVal → Nat → AVal → Option AVal
  | .d (.cons h t) x, 0, v => some (.cons v (.d t x.2))
  | .d (.cons h t) x, k + 1, v => match setC (.d t x.2) k v with
    | some b => some (.cons (.d h x.1) b)
    | none => none
  | .cons _ t, 0, v => some (.cons v t)
  | .cons h t, k + 1, v => match setC t k v with
    | some b => some (.cons h b)
    | none => none
  | _, _, _ => none

/-- The cells with those from some place on written. -/
def putCells (cs : List Value) (o : Nat) (vs : List Value) : List Value := cs.take o ++ vs ++ cs.drop (o + vs.length)
theorem putCells_len {cs vs : List Value} {o : Nat} (h : o + vs.length ≤ cs.length) : (putCells cs o vs).length = cs.length := by
  simp [putCells]; omega

theorem setC_spec {G : Gh} {dead : List Nat} {T : DTy} : {x : T.El} → {k : Nat} → {v b c : AVal} → {o : Nat} → setC (.d T x) k v = some b → childA (.d T x) k = some (o, c) → v.size = c.size → ∀ cs vs, Rc G dead (.d T x) cs → Rc G dead v vs → Rc G dead b (putCells cs o vs) := by
  induction T with
  | cons h t _ iht =>
    intro x k v b c o hs hch hsz cs vs hc hv
    cases k with
    | zero =>
      simp only [setC, Option.some.injEq] at hs
      subst hs
      simp only [childA, fldD, Option.some.injEq, Prod.mk.injEq] at hch
      obtain ⟨rfl, rfl⟩ := hch
      obtain ⟨c1, c2, rfl, h1, h2⟩ := hc
      have l1 := RD.len h1
      have l2 := Rc.len hv
      have l3 : vs.length = c1.length := by rw [l2, hsz, l1]; rfl
      exact ⟨vs, c2, by simp [putCells, l3], hv, h2⟩
    | succ k =>
      simp only [setC] at hs
      split at hs
      · rename_i b1 hb1
        simp only [Option.some.injEq] at hs
        subst hs
        simp only [childA, fldD] at hch
        split at hch
        · rename_i o1 a1 h1
          simp only [Option.some.injEq, Prod.mk.injEq] at hch
          obtain ⟨rfl, rfl⟩ := hch
          obtain ⟨c1, c2, rfl, hh1, hh2⟩ := hc
          have l1 := RD.len hh1
          have := iht (x := x.2) (k := k) hb1 h1 hsz c2 vs hh2 hv
          refine ⟨c1, putCells c2 o1 vs, ?_, hh1, this⟩
          simp only [putCells, ← l1]
          rw [List.take_append, List.drop_append, List.take_of_length_le (by omega), List.drop_eq_nil_of_le (by omega)]
          simp [Nat.add_assoc]
        · cases hch
      · cases hs
  | _ =>
    intro x k v b c o hs hch
    cases k <;> simp [setC] at hs

theorem setC_spec' {G : Gh} {dead : List Nat} : {a : AVal} → {k : Nat} → {v b c : AVal} → {o : Nat} → setC a k v = some b → childA a k = some (o, c) → v.size = c.size → ∀ cs vs, Rc G dead a cs → Rc G dead v vs → Rc G dead b (putCells cs o vs)
  | .d T x, k, v, b, c, o, hs, hch, hsz, cs, vs, hc, hv => setC_spec hs hch hsz cs vs hc hv
  | .cons h t, 0, v, b, c, o, hs, hch, hsz, cs, vs, hc, hv => by
    simp only [setC, Option.some.injEq] at hs
    subst hs
    simp only [childA, Option.some.injEq, Prod.mk.injEq] at hch
    obtain ⟨rfl, rfl⟩ := hch
    obtain ⟨c1, c2, rfl, h1, h2⟩ := hc
    have l1 := Rc.len (a := h) h1
    have l2 := Rc.len hv
    have l3 : vs.length = c1.length := by rw [l2, hsz, l1]
    exact ⟨vs, c2, by simp [putCells, l3], hv, h2⟩
  | .cons h t, k + 1, v, b, c, o, hs, hch, hsz, cs, vs, hc, hv => by
    simp only [setC] at hs
    split at hs
    · rename_i b1 hb1
      simp only [Option.some.injEq] at hs
      subst hs
      simp only [childA] at hch
      split at hch
      · rename_i o1 a1 h1
        simp only [Option.some.injEq, Prod.mk.injEq] at hch
        obtain ⟨rfl, rfl⟩ := hch
        obtain ⟨c1, c2, rfl, hh1, hh2⟩ := hc
        have l1 := Rc.len (a := h) hh1
        have := setC_spec' hb1 h1 hsz c2 vs hh2 hv
        refine ⟨c1, putCells c2 o1 vs, ?_, hh1, this⟩
        simp only [putCells, ← l1]
        rw [List.take_append, List.drop_append, List.take_of_length_le (by omega), List.drop_eq_nil_of_le (by omega)]
        simp [Nat.add_assoc]
      · cases hch
    · cases hs
  | .own .., k, v, b, c, o, hs, hch, _, _, _, _, _ | .nil, k, v, b, c, o, hs, hch, _, _, _, _, _ | .pnil, k, v, b, c, o, hs, hch, _, _, _, _, _ | .bptr .., k, v, b, c, o, hs, hch, _, _, _, _, _ | .iptr .., k, v, b, c, o, hs, hch, _, _, _, _, _ | .func .., k, v, b, c, o, hs, hch, _, _, _, _, _ | .fnil, k, v, b, c, o, hs, hch, _, _, _, _, _ | .snil, k, v, b, c, o, hs, hch, _, _, _, _, _ | .iface .., k, v, b, c, o, hs, hch, _, _, _, _, _ | .inil, k, v, b, c, o, hs, hch, _, _, _, _, _ | .tuple .., k, v, b, c, o, hs, hch, _, _, _, _, _ | .any, k, v, b, c, o, hs, hch, _, _, _, _, _ => by cases k <;> simp [setC] at hs

def setP : AVal → List PStep → AVal → Option AVal
  | a, [], v => bif v.size == a.size then some v else none
  | a, .fld k off :: p, v => match childA a k with
    | some (o, c) => match setP c p v with
      | some c' => bif o == off && c'.size == c.size then setC a k c' else none
      | none => none
    | none => none
  | .d (.arr m e) xs, .ix i esz n :: p, v => match setP (.d e (xs.getD i e.dflt)) p v with
    | some c' => match asData c' e with
      | some y => bif m == n && e.sz == esz then some (.d (.arr m e) (xs.set i y)) else none
      | none => none
    | none => none
  | _, .ix .. :: _, _ => none

theorem putCells_putCells {cs vs : List Value} {o n o2 : Nat} (h : o + n ≤ cs.length) (h2 : o2 + vs.length ≤ n) :
    putCells cs o (putCells ((cs.drop o).take n) o2 vs) = putCells cs (o + o2) vs := by
  have hl : (putCells ((cs.drop o).take n) o2 vs).length = n := by
    rw [putCells_len (by simp; omega)]; simp; omega
  unfold putCells at hl ⊢
  rw [hl]
  have e1 : ((cs.drop o).take n).take o2 = (cs.drop o).take o2 := by rw [List.take_take, Nat.min_eq_left (by omega)]
  have e2 : ((cs.drop o).take n).drop (o2 + vs.length) ++ cs.drop (o + n) = cs.drop (o + o2 + vs.length) := by
    rw [List.drop_take, List.drop_drop]
    have : cs.drop (o + n) = (cs.drop (o + (o2 + vs.length))).drop (n - (o2 + vs.length)) := by rw [List.drop_drop]; congr 1; omega
    rw [this, List.take_append_drop]
    congr 1; omega
  have e3 : cs.take (o + o2) = cs.take o ++ (cs.drop o).take o2 := by rw [List.take_add]
  rw [e1, e3]
  simp only [List.append_assoc]
  rw [e2]

theorem RD.arr_set {imm : Nat → Option (List Value)} {m : Nat} {e : DTy} {xs : List e.El} {cs vs : List Value} {i : Nat} {y : e.El} (h : RD imm (.arr m e) xs cs) (hi : i < m) (hy : RD imm e y vs) : RD imm (.arr m e) (xs.set i y : List e.El) (putCells cs (i * e.sz) vs) := by
  obtain ⟨h1, h2, h3⟩ := h
  have hl := RD.len hy
  have hm := mul_room (s := e.sz) hi
  refine ⟨by simp [h1], by rw [putCells_len (by omega)]; exact h2, fun j z hz => ?_⟩
  rw [List.getElem?_set] at hz
  by_cases hij : i = j
  · subst hij
    simp only [if_true, h1, hi, Option.some.injEq] at hz
    subst hz
    have : (putCells cs (i * e.sz) vs).drop (i * e.sz) = vs ++ cs.drop (i * e.sz + vs.length) := by
      unfold putCells
      rw [List.append_assoc, List.drop_append, List.drop_eq_nil_of_le (by simp; omega)]
      have : i * e.sz - (cs.take (i * e.sz)).length = 0 := by simp; omega
      rw [this]
      simp
    rw [this, ← hl, List.take_left]
    exact hy
  · simp only [hij, if_false] at hz
    have hz3 := h3 j z hz
    have hj : j < m := by rw [← h1]; exact (List.getElem?_eq_some_iff.1 hz).1
    have hmj := mul_room (s := e.sz) hj
    have : ((putCells cs (i * e.sz) vs).drop (j * e.sz)).take e.sz = (cs.drop (j * e.sz)).take e.sz := by
      apply List.ext_getElem?
      intro q
      by_cases hq : q < e.sz
      · rw [List.getElem?_take_of_lt hq, List.getElem?_take_of_lt hq, List.getElem?_drop, List.getElem?_drop]
        unfold putCells
        rcases Nat.lt_or_gt_of_ne hij with hlt | hgt
        · have hr := mul_room (s := e.sz) hlt
          rw [List.append_assoc, List.getElem?_append_right (by simp; omega), List.getElem?_append_right (by simp; omega), List.getElem?_drop]
          congr 1
          simp; omega
        · have hr := mul_room (s := e.sz) hgt
          rw [List.append_assoc, List.getElem?_append_left (by simp; omega), List.getElem?_take_of_lt (by omega)]
      · rw [List.getElem?_eq_none (by simp; omega), List.getElem?_eq_none (by simp; omega)]
    rw [this]
    exact hz3

theorem setP_spec {G : Gh} {dead : List Nat} : {p : List PStep} → {a v b : AVal} → setP a p v = some b → okP p → ∀ cs vs, Rc G dead a cs → Rc G dead v vs → offP p + vs.length ≤ cs.length ∧ Rc G dead b (putCells cs (offP p) vs)
  | [], a, v, b, e, _, cs, vs, hc, hv => by
    simp only [setP] at e
    cases hb : v.size == a.size with
    | false => simp [hb] at e
    | true =>
      simp only [hb, cond_true, Option.some.injEq] at e
      subst e
      have h1 : v.size = a.size := by simpa using hb
      have l1 := Rc.len hc
      have l2 := Rc.len hv
      have l3 : vs.length = cs.length := by omega
      refine ⟨by simp [offP, l3], ?_⟩
      have : putCells cs (offP []) vs = vs := by simp [putCells, offP, l3]
      rw [this]
      exact hv
  | .fld k off :: p, a, v, b, e, hp, cs, vs, hc, hv => by
    simp only [setP] at e
    split at e
    · rename_i o c hch
      split at e
      · rename_i c' hc'
        cases hb : o == off && c'.size == c.size with
        | false => simp [hb] at e
        | true =>
          simp only [hb, cond_true] at e
          simp only [Bool.and_eq_true, beq_iff_eq] at hb
          obtain ⟨rfl, hsz⟩ := hb
          obtain ⟨hle, hr⟩ := childA_spec hch cs hc
          obtain ⟨hle2, hr2⟩ := setP_spec hc' hp _ vs hr hv
          have hl := Rc.len hr
          have := setC_spec' e hch hsz cs _ hc hr2
          rw [putCells_putCells hle (by rw [← hl]; exact hle2)] at this
          rw [hl] at hle2
          refine ⟨by simp only [offP, PStep.off]; omega, this⟩
      · cases e
    · cases e
  | .ix i esz n :: p, a, v, b, e, hp, cs, vs, hc, hv => by
    cases a with
    | d T x =>
      cases T with
      | arr m el =>
        simp only [setP] at e
        split at e
        · rename_i c' hc'
          split at e
          · rename_i y hy
            cases hb : m == n && el.sz == esz with
            | false => simp [hb] at e
            | true =>
              simp only [hb, cond_true, Option.some.injEq] at e
              subst e
              simp only [Bool.and_eq_true, beq_iff_eq] at hb
              obtain ⟨rfl, rfl⟩ := hb
              have hi : i < m := hp.1
              have hcc := hc
              obtain ⟨hxl, hcl, hx⟩ := hc
              have hr : Rc G dead (.d el (x.getD i el.dflt)) ((cs.drop (i * el.sz)).take el.sz) := hx i _ (getD_some (by rw [hxl]; exact hi))
              obtain ⟨hle2, hr2⟩ := setP_spec hc' hp.2 _ vs hr hv
              have hl : ((cs.drop (i * el.sz)).take el.sz).length = el.sz := Rc.len hr
              have hrd := asData_spec hy _ hr2
              have hm := mul_room (s := el.sz) hi
              have := RD.arr_set (imm := G.imm) hcc hi hrd
              rw [putCells_putCells (by omega) (by rw [← hl]; exact hle2)] at this
              rw [hl] at hle2
              refine ⟨by simp only [offP, PStep.off]; omega, this⟩
          · cases e
        · cases e
      | _ => simp [setP] at e
    | _ => simp [setP] at e

end Go.Proofs.YtbidmbjkjpdgdaaDoor.Abs
