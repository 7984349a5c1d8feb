/-
  The abstract semantics, fourteenth part: every operation at once.
-/
import Derived.Test.YtbidmbjkjpdgdaaDoorAbsD
set_option linter.unusedVariables false
set_option linter.unusedSimpArgs false
namespace Go.Proofs.YtbidmbjkjpdgdaaDoor.Abs

/-- An element of an array that is told apart, by an index that need not be known. -/
def idxK (P : Program) {X : Type} (e : TypeId) (n : Nat) (x : AVal) (i : Int) (k : AVal → Option X) : Nat → Nat → Option X
  | 0, _ => none
  | r + 1, j => bif decide (i = (j : Int)) then
      match childA x j with
      | some (o, c) => bif o == j * n && fitT P e c then k c else none
      | none => none
    else idxK P e n x i k r (j + 1)

theorem idxK_spec {P : Program} {X : Type} {e : TypeId} {n : Nat} {x : AVal} {i : Int} {k : AVal → Option X} {res : X} : {r j : Nat} → idxK P e n x i k r j = some res →
    ∃ (q : Nat) (c : AVal), j ≤ q ∧ q < j + r ∧ i = (q : Int) ∧ childA x q = some (q * n, c) ∧ fitT P e c = true ∧ k c = some res
  | 0, _, h => by simp [idxK] at h
  | r + 1, j, h => by
    simp only [idxK] at h
    cases hb : decide (i = (j : Int)) with
    | true =>
      simp only [hb, cond_true] at h
      split at h
      · rename_i o c hch
        cases hb2 : o == j * n && fitT P e c with
        | false => rw [hb2] at h; cases h
        | true =>
          simp only [hb2, cond_true] at h
          simp only [Bool.and_eq_true, beq_iff_eq] at hb2
          obtain ⟨rfl, hf⟩ := hb2
          exact ⟨j, c, Nat.le_refl _, by omega, by simpa using hb, hch, hf, h⟩
      · cases h
    | false =>
      simp only [hb, cond_false] at h
      obtain ⟨q, c, h1, h2, h3⟩ := idxK_spec h
      exact ⟨q, c, by omega, by omega, h3⟩

theorem idx_child_sound {P : Program} {o : Oper} {ρ : Operand → AVal} {t e : TypeId} {x ix : Operand} {m n q : Nat} {kd : IntKind} {c : AVal} (ho : o.op = .index t x ix) (hu : P.underlying t = some (.array m e)) (hn : szT P e = some n) (hagg : (ρ x).agg = true)
    (hi : ρ ix = .d (.int kd) (q : Int)) (hq : q < m) (hch : childA (ρ x) q = some (q * n, c)) (hf : fitT P e c = true) (B : Bx) : OpD P o ρ B c B := by
  refine OpD.value (fun G dead a ha => ?_) B
  have hx := ha x (by rw [ho]; simp [Op.operands])
  have hix := ha ix (by rw [ho]; simp [Op.operands])
  rw [hi] at hix
  have e2 := int_form hix
  obtain ⟨ti, hti, hsz, hag⟩ := fitT_spec hf
  obtain ⟨ti', hti', rfl⟩ := szT_spec hn
  rw [hti] at hti'; cases hti'
  obtain ⟨cs, hc, hv | hv⟩ := hx
  · obtain ⟨hle, hr⟩ := childA_spec hch cs hc
    have hrun : ∀ (v' : Value), (∀ w, (part e cs.toArray (q * ti.size)).run P w = .ok v' w) → ∀ w, (execOp a.eval o).run P w = .ok (.value v') w := by
      intro v' hp w
      simp only [execOp, ho, hv.2, e2, Sem.run_bind]
      unfold Instr.index
      simp only [asIntOf, Sem.run_bind, Sem.run_pure, Result.andThen_ok, run_underlying' hu]
      have h0 : (0 : Int) ≤ (q : Int) ∧ (q : Int) < (m : Int) := by omega
      rw [if_pos h0]
      have : Int.toNat (q : Int) = q := by simp
      simp only [Sem.run_bind, run_sizeOf' hti, Result.andThen_ok, this, hp w]
    cases hag2 : c.agg with
    | true =>
      refine ⟨.agg ((cs.drop (q * ti.size)).take c.size).toArray, hrun _ (fun w => ?_), agg_v hr hag2⟩
      unfold part
      rw [hag2] at hag
      rw [Sem.run_bind, run_isAgg' hag]
      simp only [Result.andThen_ok, if_true, Sem.run_bind, run_sizeOf' hti, Sem.run_pure]
      congr 2
      apply Array.ext'
      simp [List.extract_eq_take_drop, hsz]
    | false =>
      have hl := Rc.len hr
      have h1 : c.size = 1 := by
        cases c <;> simp [AVal.agg] at hag2 <;> try rfl
        rename_i T y; cases T <;> simp [DTy.agg] at hag2 <;> rfl
      have hlt : q * ti.size < cs.length := by omega
      have hone : (cs.drop (q * ti.size)).take c.size = [cs[q * ti.size]] := by
        rw [h1, List.drop_eq_getElem_cons hlt]; rfl
      rw [hone] at hr
      refine ⟨cs[q * ti.size], hrun _ (fun w => ?_), leaf_v hag2 hr⟩
      unfold part
      rw [hag2] at hag
      rw [Sem.run_bind, run_isAgg' hag]
      simp [hlt]
  · rw [hagg] at hv; cases hv.1

theorem vals_get {G : Gh} {dead : List Nat} : {az : List AVal} → {vs : List Value} → Vals G dead az vs → ∀ {i : Nat} {a : AVal}, az[i]? = some a → ∃ v, vs[i]? = some v ∧ Rv G dead a v
  | _, _, .nil, i, a, h => by simp at h
  | _, _, .cons hv t, 0, a, h => by
    simp only [List.getElem?_cons_zero, Option.some.injEq] at h
    subst h
    exact ⟨_, rfl, hv⟩
  | _, _, .cons hv t, i + 1, a, h => by
    simp only [List.getElem?_cons_succ] at h ⊢
    exact vals_get t h

def scalK (P : Program) {X : Type} (o : Oper) (ρ : Operand → AVal) (B : Bx) (k : AVal → Bx → Option X) : Option X :=
  match scalA P o ρ with
  | some v => k v B
  | none => none
def condK {X : Type} (r : Option (Bool × AVal)) (B : Bx) (k : AVal → Bx → Option X) : Option X :=
  match r with
  | some (c, v) => bif c then k v B else none
  | none => none

/-- What an operation does. -/
def opR (P : Program) (C : CalT) {X : Type} (o : Oper) (ρ : Operand → AVal) (B : Bx) (k : AVal → Bx → Option X) : Option X :=
  match o.op with
  | .move x => k (ρ x) B
  | .assign x => k (ρ x) B
  | .pick c a b => match ρ c with
    | .d .bool t => bif t then k (ρ a) B else k (ρ b) B
    | _ => none
  | .alloc t => match allocA P t B with
    | some (v, B') => k v B'
    | none => none
  | .box _ x => match boxA (ρ x) B with
    | some (v, B') => k v B'
    | none => none
  | .build t parts => match buildA P t parts ρ with
    | some v => k v B
    | none => none
  | .buildSlice t n parts => bif C.dr then match buildSliceD P t n parts ρ with
      | some v => k v B
      | none => none
    else match buildSliceA P t n parts ρ B with
      | some (v, B') => k v B'
      | none => none
  | .load t x => match loadA P t (ρ x) B with
    | some v => k v B
    | none => none
  | .store t x y => match storeA P t (ρ x) (ρ y) B with
    | some B' => k .any B'
    | none => none
  | .nilCheck x => match ρ x with
    | .bptr b p => k (.bptr b p) B
    | .iptr T v => k (.iptr T v) B
    | .func (.func f) a b => k (.func (.func f) a b) B
    | .yref b => k (.yref b) B
    | _ => none
  | .binOp op t x y _ => match op with
    | .quo => condK (divA .quo (ρ x) (ρ y)) B k
    | .rem => condK (divA .rem (ρ x) (ρ y)) B k
    | .shl => condK (divA .shl (ρ x) (ρ y)) B k
    | .shr => condK (divA .shr (ρ x) (ρ y)) B k
    | .add => match catA (ρ x) (ρ y) with
      | some (c, v) => bif c then k v B else none
      | none => scalK P o ρ B k
    | .eql => match eqA P t (ρ x) (ρ y) with
      | some b => k (.d .bool b) B
      | none => scalK P o ρ B k
    | .neq => match eqA P t (ρ x) (ρ y) with
      | some b => k (.d .bool (!b)) B
      | none => scalK P o ρ B k
    | _ => scalK P o ρ B k
  | .unOp _ _ _ => scalK P o ρ B k
  | .convert _ _ _ => scalK P o ρ B k
  | .makeFunc fn first cap => k (.func fn (chain (first.toList.map ρ)) (chain (cap.toList.map ρ))) B
  | .slice t x lo hi mx => condK (sliceA P t x lo hi mx ρ) B k
  | .fieldAddr s x f => match fieldAddrA P s (ρ x) f with
    | some v => k v B
    | none => none
  | .field s x f => match fieldA P s (ρ x) f with
    | some v => k v B
    | none => none
  | .indexAddr t x i => condK (indexAddrA P t (ρ x) (ρ i)) B k
  | .index t x i => match ρ x with
    | .cons h tl => match ρ i with
      | .d (.int _) j => match P.underlying t with
        | some (.array m e) => match szT P e with
          | some n => idxK P e n (.cons h tl) j (fun c => k c B) m 0
          | none => none
        | _ => none
      | _ => none
    | _ => condK (indexA P t (ρ x) (ρ i)) B k
  | .makeMap t none => match makeMapA P t B with
    | some (v, B') => k v B'
    | none => none
  | .lookup t m i ok => lookupK P t (ρ m) (ρ i) ok B k
  | .mapUpdate t m i x => match updateA P t (ρ m) (ρ i) (ρ x) B with
    | some B' => k .any B'
    | none => none
  | .extract x i => match ρ x with
    | .tuple vs => match (unchain vs)[i]? with
      | some v => k v B
      | none => none
    | _ => none
  | .call c => match c.callee with
    | .value f => callA C (ρ f) (c.args.toList.map ρ) B k
    | .builtin b => match b with
      | .len => match c.args, c.argTypes with
        | ⟨[x]⟩, ⟨[t]⟩ => match lenA P t (ρ x) with
          | some v => k v B
          | none => none
        | _, _ => none
      | .append => match c.args, c.argTypes with
        | ⟨[s, x]⟩, ⟨[t, t2]⟩ => match appendA P t t2 (ρ s) (ρ x) B with
          | some (cnd, v, B') => bif cnd then k v B' else none
          | none => none
        | _, _ => none
      | .max => scalK P o ρ B k
      | .min => scalK P o ρ B k
      | _ => none
    | _ => none
  | _ => none

/-- Operations that neither read nor write memory. -/
def isP (C : CalT) (o : Oper) : Bool := match o.op with
  | .buildSlice .. => C.dr
  | .move _ | .assign _ | .pick .. | .build .. | .nilCheck _ | .binOp .. | .unOp .. | .convert .. | .makeFunc .. | .slice .. | .fieldAddr .. | .field .. | .indexAddr .. | .index .. | .extract .. => true
  | .call c => match c.callee with
    | .builtin .len | .builtin .max | .builtin .min => true
    | _ => false
  | _ => false
def isR (C : CalT) (o : Oper) : Bool := match o.op with
  | .load .. => true
  | .call c => match c.callee with
    | .value (.func g) => C.ro g
    | _ => false
  | _ => false

/-- Operations that lay something new, and change nothing else. -/
def isN (o : Oper) : Bool := match o.op with
  | .buildSlice .. => true
  | _ => false
theorem buildSliceA_sim {P : Program} {t : TypeId} {n : Nat} {parts : Array (Nat × Operand)} {ρ : Operand → AVal} {B B' : Bx} {v : AVal} (h : buildSliceA P t n parts ρ B = some (v, B')) : Sim B B' := by
  unfold buildSliceA at h
  split at h
  · split at h
    · rename_i T n' z _ _ _
      cases hb : n' == T.sz && parts.toList.length == n && decide (n * n' ≤ 2 ^ 24) with
      | false => rw [hb] at h; cases h
      | true =>
        rw [hb] at h
        simp only [cond_true] at h
        split at h
        · simp only [Option.some.injEq, Prod.mk.injEq] at h
          rw [← h.2]
          exact ⟨rfl, rfl⟩
        · cases h
    · cases h
  · cases h
/-- What is at a path. -/
def atP (B : Bx) (b : Nat) (p : List PStep) : Option AVal := match B.box[b]? with
  | some c => getP c p
  | none => none
theorem loadA_box {P : Program} {t : TypeId} {b : Nat} {p : List PStep} {B B0 : Bx} (h : atP B0 b p = atP B b p) : loadA P t (.bptr b p) B0 = loadA P t (.bptr b p) B := by
  have key : ∀ B : Bx, loadA P t (.bptr b p) B = match atP B b p with
      | some c' => bif fitT P t c' then some c' else none
      | none => none := fun B => by
    unfold loadA atP
    simp only
    cases B.box[b]? with
    | none => rfl
    | some c => rfl
  rw [key, key, h]
theorem loadA_else {P : Program} {t : TypeId} {x : AVal} {B B0 : Bx} (h : ∀ b p, x ≠ .bptr b p) : loadA P t x B0 = loadA P t x B := by
  unfold loadA
  cases x <;> first | rfl | exact absurd rfl (h _ _)

/-- A call that looks at no box. -/
def isAny (C : CalT) (o : Oper) : Bool := match o.op with
  | .call c => match c.callee with
    | .value (.func g) => C.any g
    | _ => false
  | _ => false
/-- What must be the same for an operation that reads. -/
def Same (C : CalT) (o : Oper) (ρ : Operand → AVal) (B B0 : Bx) : Prop := match o.op with
  | .load _ x => ∀ b p, ρ x = .bptr b p → atP B0 b p = atP B b p
  | _ => isAny C o = true ∨ Sim B B0
/-- Which boxes an operation may change, of those that there were at first. -/
def touches (o : Oper) (ρ : Operand → AVal) (n0 b : Nat) (q : List PStep) : Bool := match o.op with
  | .store _ x _ => match ρ x with
    | .bptr c p => c == b && !parted p q
    | _ => true
  | .alloc _ => !decide (b < n0)
  | .box _ _ => !decide (b < n0)
  | .makeMap _ _ => !decide (b < n0)
  | .buildSlice _ _ _ => false
  | .call c => match c.callee with
    | .builtin .append => false
    | _ => true
  | _ => true
structure Eff (o : Oper) (ρ : Operand → AVal) (B B' : Bx) : Prop where
  len : B.box.length ≤ B'.box.length
  keep : ∀ n0 b q, n0 ≤ B.box.length → touches o ρ n0 b q = false → atP B' b q = atP B b q
theorem Eff.refl (o : Oper) (ρ : Operand → AVal) (B : Bx) : Eff o ρ B B := ⟨Nat.le_refl _, fun _ _ _ _ _ => rfl⟩
theorem Eff.box {o : Oper} {ρ : Operand → AVal} {B B' : Bx} (h : B'.box = B.box) : Eff o ρ B B' := ⟨by rw [h]; exact Nat.le_refl _, fun _ _ _ _ _ => by unfold atP; rw [h]⟩
theorem Eff.push {o : Oper} {ρ : Operand → AVal} {B B' : Bx} {c : AVal} (h : B'.box = B.box ++ [c]) (ht : ∀ n0 b q, touches o ρ n0 b q = false → b < n0) : Eff o ρ B B' :=
  ⟨by rw [h]; simp, fun n0 b q hn hb => by unfold atP; rw [h, List.getElem?_append_left (Nat.lt_of_lt_of_le (ht n0 b q hb) hn)]⟩
theorem allocA_eff {P : Program} {o : Oper} {ρ : Operand → AVal} {t : TypeId} {B B' : Bx} {v : AVal} (ho : o.op = .alloc t) (h : allocA P t B = some (v, B')) : Eff o ρ B B' := by
  unfold allocA at h
  split at h
  · rename_i c hc
    split at h
    · rename_i cs zs _ _
      cases hb : eqZs cs zs && !c.isM with
      | false => rw [hb] at h; cases h
      | true =>
        rw [hb] at h
        simp only [cond_true, Option.some.injEq, Prod.mk.injEq] at h
        rw [← h.2]
        exact Eff.push rfl fun n0 b q hb => by simpa [touches, ho] using hb
    · cases h
  · cases h
theorem boxA_eff {P : Program} {o : Oper} {ρ : Operand → AVal} {t : TypeId} {y : Operand} {x : AVal} {B B' : Bx} {v : AVal} (ho : o.op = .box t y) (h : boxA x B = some (v, B')) : Eff o ρ B B' := by
  unfold boxA at h
  cases hb : x.plain with
  | false => rw [hb] at h; cases h
  | true =>
    rw [hb] at h
    simp only [cond_true, Option.some.injEq, Prod.mk.injEq] at h
    rw [← h.2]
    exact Eff.push rfl fun n0 b q hb => by simpa [touches, ho] using hb
theorem makeMapA_eff {P : Program} {o : Oper} {ρ : Operand → AVal} {t : TypeId} {B B' : Bx} {v : AVal} (ho : o.op = .makeMap t none) (h : makeMapA P t B = some (v, B')) : Eff o ρ B B' := by
  unfold makeMapA at h
  split at h
  · split at h
    · simp only [Option.some.injEq, Prod.mk.injEq] at h
      rw [← h.2]
      exact Eff.push rfl fun n0 b q hb => by simpa [touches, ho] using hb
    · cases h
  · cases h
theorem storeA_eff {P : Program} {o : Oper} {ρ : Operand → AVal} {t : TypeId} {x y : Operand} {B B' : Bx} (ho : o.op = .store t x y) (h : storeA P t (ρ x) (ρ y) B = some B') : Eff o ρ B B' := by
  unfold storeA at h
  split at h
  · rename_i b p hx
    split at h
    · rename_i c hc
      split at h
      · rename_i n hn
        cases hb : (ρ y).plain && n == (ρ y).size && !c.isM with
        | false => rw [hb] at h; cases h
        | true =>
          rw [hb] at h
          simp only [cond_true] at h
          split at h
          · rename_i c' hc'
            cases hm : c'.isM with
            | true => rw [hm] at h; cases h
            | false =>
              rw [hm] at h
              simp only [cond_false, Option.some.injEq] at h
              subst h
              refine ⟨by simp, fun n0 b' q _ hb => ?_⟩
              unfold atP
              show (match (B.box.set b c')[b']? with | some c => getP c q | none => none) = _
              by_cases hne : b = b'
              · subst hne
                have hpq : parted p q = true := by simpa [touches, ho, hx] using hb
                rw [List.getElem?_set_self (List.getElem?_eq_some_iff.1 hc).1, hc]
                exact getP_setP hc' hpq
              · rw [List.getElem?_set_ne hne]
          · cases h
      · cases h
    · cases h
  · cases h
theorem appendA_eff {P : Program} {o : Oper} {ρ : Operand → AVal} {t t2 : TypeId} {s x : AVal} {B B' : Bx} {c : Bool} {v : AVal} (h : appendA P t t2 s x B = some (c, v, B')) : Eff o ρ B B' := by
  unfold appendA at h
  split at h
  · split at h
    · rename_i T ti zs _ _ _
      cases hb : ti.size == T.sz && decide (0 < T.sz) && zs.length == T.sz && decide (ti.bytes ≤ 1024) with
      | false => rw [hb] at h; cases h
      | true =>
        rw [hb] at h
        simp only [cond_true] at h
        split at h
        · simp only [Option.some.injEq, Prod.mk.injEq] at h
          rw [← h.2.2]
          exact Eff.box rfl
        · cases h
    · cases h
  · cases h
theorem updateA_eff {P : Program} {o : Oper} {ρ : Operand → AVal} {t : TypeId} {m i x : Operand} {B B' : Bx} (ho : o.op = .mapUpdate t m i x) (h : updateA P t (ρ m) (ρ i) (ρ x) B = some B') : Eff o ρ B B' := by
  refine ⟨?_, fun n0 b q _ hb => by simp [touches, ho] at hb⟩
  unfold updateA at h
  split at h
  · rename_i b K V xs hm
    split at h
    · rename_i kt vt ht
      split at h
      · rename_i kd vd hk hv
        cases hb : eqT P 100 kt K && (ρ i).plain && (ρ x).plain with
        | false => rw [hb] at h; cases h
        | true =>
          rw [hb] at h
          simp only [cond_true, Option.some.injEq] at h
          subst h
          simp
      · cases h
    · cases h
  · cases h

structure OpQ (P : Program) (C : CalT) (o : Oper) (ρ : Operand → AVal) (B : Bx) (v : AVal) (B' : Bx) : Prop where
  op : OpD P o ρ B v B'
  p : isP C o = true → B' = B ∧ ∀ B0, OpD P o ρ B0 v B0
  r : isR C o = true → B' = B ∧ ∀ B0, Same C o ρ B B0 → OpD P o ρ B0 v B0
  n : isN o = true → Sim B B'
  eff : Eff o ρ B B'

theorem scalK_spec {P : Program} {X : Type} {o : Oper} {ρ : Operand → AVal} {B : Bx} {k : AVal → Bx → Option X} {r : X} (h : scalK P o ρ B k = some r) : ∃ v, k v B = some r ∧ ∀ B0, OpD P o ρ B0 v B0 := by
  unfold scalK at h
  split at h
  · rename_i v hv
    exact ⟨v, h, fun B0 => scalA_sound hv B0⟩
  · cases h
theorem condK_spec {X : Type} {q : Option (Bool × AVal)} {B : Bx} {k : AVal → Bx → Option X} {r : X} (h : condK q B k = some r) : ∃ v, q = some (true, v) ∧ k v B = some r := by
  unfold condK at h
  split at h
  · rename_i c v
    cases c with
    | true => exact ⟨v, rfl, h⟩
    | false => cases h
  · cases h

theorem opR_sound {P : Program} {C : CalT} {X : Type} {o : Oper} {ρ : Operand → AVal} {B : Bx} {k : AVal → Bx → Option X} {r : X} (hC : CV P C) (hρ : ∀ f, ρ (.func f) = .func (.func f) .nil .nil) (h : opR P C o ρ B k = some r) :
    ∃ v B', k v B' = some r ∧ OpQ P C o ρ B v B' := by
  have pure : ∀ v, k v B = some r → (∀ B0, OpD P o ρ B0 v B0) → ∃ v B', k v B' = some r ∧ OpQ P C o ρ B v B' :=
    fun v h1 h2 => ⟨v, B, h1, h2 B, fun _ => ⟨rfl, h2⟩, fun _ => ⟨rfl, fun B0 _ => h2 B0⟩, fun _ => Sim.refl _, Eff.refl _ _ _⟩
  have changeN : ∀ v B', isP C o = false → isR C o = false → (isN o = true → Sim B B') → Eff o ρ B B' → k v B' = some r → OpD P o ρ B v B' → ∃ v B', k v B' = some r ∧ OpQ P C o ρ B v B' :=
    fun v B' h1 h2 h5 h6 h3 h4 => ⟨v, B', h3, h4, (fun h => by rw [h1] at h; cases h), (fun h => by rw [h2] at h; cases h), h5, h6⟩
  have change : ∀ v B', isP C o = false ∧ isN o = false → isR C o = false → Eff o ρ B B' → k v B' = some r → OpD P o ρ B v B' → ∃ v B', k v B' = some r ∧ OpQ P C o ρ B v B' :=
    fun v B' h1 h2 h6 h3 h4 => changeN v B' h1.1 h2 (fun h => by rw [h1.2] at h; cases h) h6 h3 h4
  have scal : scalK P o ρ B k = some r → ∃ v B', k v B' = some r ∧ OpQ P C o ρ B v B' := fun h => by
    obtain ⟨v, h1, h2⟩ := scalK_spec h
    exact pure v h1 h2
  unfold opR at h
  split at h
  · rename_i x ho
    exact pure _ h fun B0 => OpD.value (fun G dead a ha => ⟨a.eval x, fun w => by simp only [execOp, ho]; rfl, ha x (by rw [ho]; simp [Op.operands])⟩) B0
  · rename_i x ho
    exact pure _ h fun B0 => OpD.value (fun G dead a ha => ⟨a.eval x, fun w => by simp only [execOp, ho]; rfl, ha x (by rw [ho]; simp [Op.operands])⟩) B0
  · rename_i c x y ho
    split at h
    · rename_i t ht
      cases t with
      | true =>
        refine pure _ h fun B0 => OpD.value (fun G dead a ha => ⟨a.eval x, fun w => ?_, ha x (by rw [ho]; simp [Op.operands])⟩) B0
        have hc := ha c (by rw [ho]; simp [Op.operands])
        rw [ht] at hc
        simp only [execOp, ho, bool_form hc, asBool, Sem.run_bind, Sem.run_pure, Result.andThen_ok, if_true]
      | false =>
        refine pure _ h fun B0 => OpD.value (fun G dead a ha => ⟨a.eval y, fun w => ?_, ha y (by rw [ho]; simp [Op.operands])⟩) B0
        have hc := ha c (by rw [ho]; simp [Op.operands])
        rw [ht] at hc
        simp only [execOp, ho, bool_form hc, asBool, Sem.run_bind, Sem.run_pure, Result.andThen_ok, Bool.false_eq_true, if_false]
    · cases h
  · rename_i t ho
    split at h
    · rename_i v B' hv
      exact change v B' (by simp [isP, isN, ho]) (by simp [isR, ho]) (allocA_eff ho hv) h (allocA_sound ho hv)
    · cases h
  · rename_i t x ho
    split at h
    · rename_i v B' hv
      exact change v B' (by simp [isP, isN, ho]) (by simp [isR, ho]) (boxA_eff (P := P) ho hv) h (boxA_sound ho hv)
    · cases h
  · rename_i t parts ho
    split at h
    · rename_i v hv
      exact pure v h fun B0 => buildA_sound ho hv B0
    · cases h
  · rename_i t n parts ho
    cases hd : C.dr with
    | true =>
      rw [hd] at h
      simp only [cond_true] at h
      split at h
      · rename_i v hv
        exact pure v h fun B0 => buildSliceD_sound ho hv B0
      · cases h
    | false =>
      rw [hd] at h
      simp only [cond_false] at h
      split at h
      · rename_i v B' hv
        exact changeN v B' (by simp [isP, ho, hd]) (by simp [isR, ho]) (fun _ => buildSliceA_sim hv) (Eff.box (buildSliceA_sim hv).1) h (buildSliceA_sound ho hv)
      · cases h
  · rename_i t x ho
    split at h
    · rename_i v hv
      refine ⟨v, B, h, loadA_sound ho hv, (fun hp => by simp [isP, ho] at hp), (fun _ => ⟨rfl, fun B0 hs => ?_⟩), (fun hp => by simp [isN, ho] at hp), Eff.refl _ _ _⟩
      have hs' : ∀ b p, ρ x = .bptr b p → atP B0 b p = atP B b p := by unfold Same at hs; rw [ho] at hs; exact hs
      refine loadA_sound ho (Eq.trans ?_ hv)
      cases hx : ρ x with
      | bptr b p => exact loadA_box (hs' b p hx)
      | _ => exact loadA_else (fun b p => by simp)
    · cases h
  · rename_i t x y ho
    split at h
    · rename_i B' hv
      exact change .any B' (by simp [isP, isN, ho]) (by simp [isR, ho]) (storeA_eff ho hv) h (storeA_sound ho hv)
    · cases h
  · rename_i x ho
    have hmem : x ∈ o.op.operands := by rw [ho]; simp [Op.operands]
    split at h
    · rename_i b p hx
      refine pure _ h fun B0 => OpD.value (fun G dead a ha => ?_) B0
      have hv := ha x hmem
      rw [hx] at hv
      obtain ⟨blk, _, _, e⟩ := ptr_form hv
      exact ⟨a.eval x, fun w => by simp only [execOp, ho, e]; rfl, hv⟩
    · rename_i T y hx
      refine pure _ h fun B0 => OpD.value (fun G dead a ha => ?_) B0
      have hv := ha x hmem
      rw [hx] at hv
      obtain ⟨b, off, row, e, _⟩ := iptr_form hv
      exact ⟨a.eval x, fun w => by simp only [execOp, ho, e]; rfl, hv⟩
    · rename_i f a1 b1 hx
      refine pure _ h fun B0 => OpD.value (fun G dead a ha => ?_) B0
      have hv := ha x hmem
      rw [hx] at hv
      have hv0 := hv
      obtain ⟨cs, ⟨fv, cv, rfl, _⟩, hh | hh⟩ := hv0
      · cases hh.1
      · have e : a.eval x = .func (.func f) fv.toArray cv.toArray := by simpa using hh.2.symm
        exact ⟨a.eval x, fun w => by simp only [execOp, ho, e]; rfl, hv⟩
    · rename_i b hx
      refine pure _ h fun B0 => OpD.value (fun G dead a ha => ?_) B0
      have hv := ha x hmem
      rw [hx] at hv
      have hv0 := hv
      obtain ⟨cs, ⟨blk, _, rfl⟩, hh | hh⟩ := hv0
      · cases hh.1
      · have e : a.eval x = .func (.yield blk) #[] #[] := by simpa using hh.2.symm
        exact ⟨a.eval x, fun w => by simp only [execOp, ho, e]; rfl, hv⟩
    · cases h
  · rename_i op t x y yt ho
    split at h
    · obtain ⟨v, h1, h2⟩ := condK_spec h; exact pure v h2 fun B0 => divA_sound ho h1 B0
    · obtain ⟨v, h1, h2⟩ := condK_spec h; exact pure v h2 fun B0 => divA_sound ho h1 B0
    · obtain ⟨v, h1, h2⟩ := condK_spec h; exact pure v h2 fun B0 => divA_sound ho h1 B0
    · obtain ⟨v, h1, h2⟩ := condK_spec h; exact pure v h2 fun B0 => divA_sound ho h1 B0
    · split at h
      · rename_i c v hc
        cases c with
        | true => exact pure v h fun B0 => catA_sound ho hc B0
        | false => cases h
      · exact scal h
    · split at h
      · rename_i b hb
        exact pure _ h fun B0 => eqA_sound ho (.inl rfl) hb B0
      · exact scal h
    · split at h
      · rename_i b hb
        exact pure _ h fun B0 => eqA_sound ho (.inr rfl) hb B0
      · exact scal h
    · exact scal h
  · exact scal h
  · exact scal h
  · rename_i fn first cap ho
    refine pure _ h fun B0 => OpD.value (fun G dead a ha => ⟨.func fn (first.map a.eval) (cap.map a.eval), fun w => by simp only [execOp, ho, Instr.makeFunc]; rfl, ?_⟩) B0
    have h1 := chain_vals (vals_map (ev := a.eval) (l := first.toList) fun x hx => ha x (by rw [ho]; simp only [Op.operands, Array.mem_append]; exact .inl (Array.mem_toList_iff.1 hx)))
    have h2 := chain_vals (vals_map (ev := a.eval) (l := cap.toList) fun x hx => ha x (by rw [ho]; simp only [Op.operands, Array.mem_append]; exact .inr (Array.mem_toList_iff.1 hx)))
    refine leaf_v rfl ⟨first.toList.map a.eval, cap.toList.map a.eval, ?_, h1, h2⟩
    congr 2 <;> (apply Array.ext'; simp)
  · rename_i t x lo hi mx ho
    obtain ⟨v, h1, h2⟩ := condK_spec h
    exact pure v h2 fun B0 => sliceA_sound ho h1 B0
  · rename_i s x f ho
    split at h
    · rename_i v hv; exact pure v h fun B0 => fieldAddrA_sound ho hv B0
    · cases h
  · rename_i s x f ho
    split at h
    · rename_i v hv; exact pure v h fun B0 => fieldA_sound ho hv B0
    · cases h
  · rename_i t x i ho
    obtain ⟨v, h1, h2⟩ := condK_spec h
    exact pure v h2 fun B0 => indexAddrA_sound ho h1 B0
  · rename_i t x i ho
    split at h
    · rename_i hd tl hx
      split at h
      · rename_i kd j hj
        split at h
        · rename_i m e hu
          split at h
          · rename_i n hn
            obtain ⟨q, c, h1, h2, h3, h4, h5, h6⟩ := idxK_spec h
            have h3' : (j : Int) = (q : Int) := h3
            refine pure c h6 fun B0 => idx_child_sound (m := m) (n := n) (q := q) (kd := kd) ho hu hn (by rw [hx]; rfl) (by rw [hj]; exact congrArg _ h3') (by omega) (by rw [hx]; exact h4) h5 B0
          · cases h
        · cases h
      · cases h
    · obtain ⟨v, h1, h2⟩ := condK_spec h
      exact pure v h2 fun B0 => indexA_sound ho h1 B0
  · rename_i t ho
    split at h
    · rename_i v B' hv
      exact change v B' (by simp [isP, isN, ho]) (by simp [isR, ho]) (makeMapA_eff ho hv) h (makeMapA_sound ho hv)
    · cases h
  · rename_i t m i ok ho
    obtain ⟨v, h1, h2⟩ := lookupK_spec ho h
    exact change v B (by simp [isP, isN, ho]) (by simp [isR, ho]) (Eff.refl _ _ _) h1 h2
  · rename_i t m i x ho
    split at h
    · rename_i B' hv
      exact change .any B' (by simp [isP, isN, ho]) (by simp [isR, ho]) (updateA_eff ho hv) h (updateA_sound ho hv)
    · cases h
  · rename_i x i ho
    split at h
    · rename_i vs hx
      split at h
      · rename_i v hv
        refine pure v h fun B0 => OpD.value (fun G dead a ha => ?_) B0
        have hxv := ha x (by rw [ho]; simp [Op.operands])
        rw [hx] at hxv
        obtain ⟨cs, ⟨l, rfl, hl⟩, hh | hh⟩ := hxv
        · cases hh.1
        · have e : a.eval x = .tuple l.toArray := by simpa using hh.2.symm
          obtain ⟨cv, hc1, hc2⟩ := vals_get (vals_chain hl) hv
          refine ⟨cv, fun w => ?_, hc2⟩
          simp only [execOp, ho, e, Instr.extract]
          have : l.toArray[i]? = some cv := by simpa using hc1
          simp only [this]
          rfl
      · cases h
    · cases h
  · rename_i c ho
    split at h
    · rename_i f hcal
      obtain ⟨v, B', h1, h2, h3, h4⟩ := callA_sound hC ho hcal h hρ
      refine ⟨v, B', h1, h2, (fun hp => by simp [isP, ho, hcal] at hp), (fun hr => ?_), (fun hp => by simp [isN, ho] at hp), h4, fun n0 b q _ hb => by simp [touches, ho, hcal] at hb⟩
      cases f with
      | func g =>
        obtain ⟨k1, k2⟩ := h3 g rfl
        have hro := k1 (by simpa [isR, ho, hcal] using hr)
        refine ⟨hro.1, fun B0 hs => ?_⟩
        unfold Same at hs
        rw [ho] at hs
        rcases hs with hs | hs
        · exact k2 (by simpa [isAny, ho, hcal] using hs) B0
        · exact hro.2 B0 hs
      | _ => simp [isR, ho, hcal] at hr
    · rename_i b hcal
      split at h
      · split at h
        · rename_i x t hargs hty
          split at h
          · rename_i v hv
            exact pure v h fun B0 => lenA_sound ho hcal hargs hty hv B0
          · cases h
        · cases h
      · split at h
        · rename_i s x t t2 hargs hty
          split at h
          · rename_i cnd v B' hv
            cases cnd with
            | true => exact change v B' (by simp [isP, isN, ho, hcal]) (by simp [isR, ho, hcal]) (appendA_eff hv) h (appendA_sound ho hcal hargs hty hv)
            | false => cases h
          · cases h
        · cases h
      · exact scal h
      · exact scal h
      · cases h
    · cases h
  · cases h

end Go.Proofs.YtbidmbjkjpdgdaaDoor.Abs
