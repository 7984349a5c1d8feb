/-
  The abstract semantics, between the thirteenth and the fourteenth part: maps.
-/
import Derived.Test.YtbidmbjkjpdgdaaDoorAbsE
import Derived.MapKept
import Derived.Test.YtbidmbjkjpdgdaaDoorAbs9
set_option linter.unusedVariables false
set_option linter.unusedSimpArgs false
namespace Go.Proofs.YtbidmbjkjpdgdaaDoor.Abs

def posD {α : Type} (K : DTy) (k : K.El) : List (K.El × α) → Option Nat
  | [] => none
  | x :: xs => bif eqD K k x.1 then some 0 else match posD K k xs with
    | some i => some (i + 1)
    | none => none
/-- What a map holds at a key. -/
def findD {α : Type} (K : DTy) (k : K.El) : List (K.El × α) → Option α
  | [] => none
  | x :: xs => bif eqD K k x.1 then some x.2 else findD K k xs
/-- A map with a key written. -/
def putD {α : Type} (K : DTy) (k : K.El) (v : α) : List (K.El × α) → List (K.El × α)
  | [] => [(k, v)]
  | x :: xs => bif eqD K k x.1 then (k, v) :: xs else x :: putD K k v xs
theorem putD_len {α : Type} {K : DTy} {k : K.El} {v : α} : {xs : List (K.El × α)} → posD K k xs = none → putD K k v xs = xs ++ [(k, v)]
  | [], _ => rfl
  | x :: xs, h => by
    simp only [posD] at h
    cases hb : eqD K k x.1 with
    | true => simp [hb] at h
    | false =>
      simp only [hb, cond_false] at h
      split at h
      · cases h
      · rename_i h1
        simp [putD, hb, putD_len h1]
theorem putD_set {α : Type} {K : DTy} {k : K.El} {v : α} : {xs : List (K.El × α)} → {i : Nat} → posD K k xs = some i → putD K k v xs = xs.set i (k, v)
  | x :: xs, i, h => by
    simp only [posD] at h
    cases hb : eqD K k x.1 with
    | true =>
      simp only [hb, cond_true, Option.some.injEq] at h
      subst h
      simp [putD, hb]
    | false =>
      simp only [hb, cond_false] at h
      split at h
      · rename_i j hj
        simp only [Option.some.injEq] at h
        subst h
        simp [putD, hb, putD_set hj]
      · cases h
  | [], i, h => by simp [posD] at h
theorem findD_pos {α : Type} {K : DTy} {k : K.El} : {xs : List (K.El × α)} → findD K k xs = (match posD K k xs with | some i => (xs[i]?).map (·.2) | none => none)
  | [] => rfl
  | x :: xs => by
    simp only [findD, posD]
    cases hb : eqD K k x.1 with
    | true => simp
    | false =>
      simp only [cond_false]
      rw [findD_pos (xs := xs)]
      cases posD K k xs <;> simp
theorem posD_at {α : Type} {K : DTy} {k : K.El} : {xs : List (K.El × α)} → {i : Nat} → posD K k xs = some i → ∃ x, xs[i]? = some x ∧ eqD K k x.1 = true
  | x :: xs, i, h => by
    simp only [posD] at h
    cases hb : eqD K k x.1 with
    | true =>
      simp only [hb, cond_true, Option.some.injEq] at h
      subst h
      exact ⟨x, rfl, hb⟩
    | false =>
      simp only [hb, cond_false] at h
      split at h
      · rename_i j hj
        simp only [Option.some.injEq] at h
        subst h
        obtain ⟨y, h1, h2⟩ := posD_at hj
        exact ⟨y, by simpa using h1, h2⟩
      · cases h
  | [], i, h => by simp [posD] at h

/-- Entries, one by one. -/
def RE (imm : Nat → Option (List Value)) (K V : DTy) : List (K.El × V.El) → List MapEntry → Prop
  | [], es => es = []
  | x :: xs, es => ∃ e l, es = e :: l ∧ VD imm K x.1 e.key ∧ VD imm V x.2 e.val ∧ RE imm K V xs l
theorem RM_RE {imm : Nat → Option (List Value)} {K V : DTy} : {xs : List (K.El × V.El)} → {es : List MapEntry} → RM imm K V xs (es.flatMap fun e => [e.key, e.val]) → RE imm K V xs es
  | [], es, h => by
    have h : (es.flatMap fun e => [e.key, e.val]) = [] := h
    cases es with
    | nil => rfl
    | cons e es => simp at h
  | x :: xs, es, h => by
    obtain ⟨k, v, l, e, h1, h2, h3⟩ := h
    cases es with
    | nil => simp at e
    | cons a es =>
      simp only [List.flatMap_cons, List.cons_append, List.nil_append, List.cons.injEq] at e
      obtain ⟨rfl, rfl, rfl⟩ := e
      exact ⟨a, es, rfl, h1, h2, RM_RE h3⟩
theorem RE_RM {imm : Nat → Option (List Value)} {K V : DTy} : {xs : List (K.El × V.El)} → {es : List MapEntry} → RE imm K V xs es → RM imm K V xs (es.flatMap fun e => [e.key, e.val])
  | [], es, h => by
    have h : es = [] := h
    subst h; rfl
  | x :: xs, es, h => by
    obtain ⟨e, l, rfl, h1, h2, h3⟩ := h
    exact ⟨e.key, e.val, _, by simp, h1, h2, RE_RM h3⟩
theorem RE_get {imm : Nat → Option (List Value)} {K V : DTy} : {xs : List (K.El × V.El)} → {es : List MapEntry} → RE imm K V xs es → {i : Nat} → {x : K.El × V.El} → xs[i]? = some x → ∃ e, es[i]? = some e ∧ VD imm K x.1 e.key ∧ VD imm V x.2 e.val
  | y :: ys, es, h, i, x, hx => by
    obtain ⟨e, l, rfl, h1, h2, h3⟩ := h
    cases i with
    | zero =>
      simp only [List.getElem?_cons_zero, Option.some.injEq] at hx
      subst hx
      exact ⟨e, rfl, h1, h2⟩
    | succ i =>
      obtain ⟨e', g1, g2⟩ := RE_get h3 (by simpa using hx)
      exact ⟨e', by simpa using g1, g2⟩
  | [], es, h, i, x, hx => by simp at hx
theorem RE_append {imm : Nat → Option (List Value)} {K V : DTy} {k : K.El} {v : V.El} {e : MapEntry} (h1 : VD imm K k e.key) (h2 : VD imm V v e.val) : {xs : List (K.El × V.El)} → {es : List MapEntry} → RE imm K V xs es → RE imm K V (xs ++ [(k, v)]) (es ++ [e])
  | [], es, h => by
    have h : es = [] := h
    subst h
    exact ⟨e, [], rfl, h1, h2, rfl⟩
  | x :: xs, es, h => by
    obtain ⟨a, l, rfl, g1, g2, g3⟩ := h
    exact ⟨a, l ++ [e], rfl, g1, g2, RE_append h1 h2 g3⟩
theorem RE_set {imm : Nat → Option (List Value)} {K V : DTy} {k : K.El} {v : V.El} {e : MapEntry} (h1 : VD imm K k e.key) (h2 : VD imm V v e.val) : {xs : List (K.El × V.El)} → {es : List MapEntry} → RE imm K V xs es → {i : Nat} → RE imm K V (xs.set i (k, v)) (es.set i e)
  | [], es, h, i => by
    have h : es = [] := h
    subst h; rfl
  | x :: xs, es, h, i => by
    obtain ⟨a, l, rfl, g1, g2, g3⟩ := h
    cases i with
    | zero => exact ⟨e, l, rfl, h1, h2, g3⟩
    | succ i => exact ⟨a, l.set i e, rfl, g1, g2, RE_set h1 h2 g3⟩
theorem RE_empty {imm : Nat → Option (List Value)} {K V : DTy} {xs : List (K.El × V.El)} {es : List MapEntry} (h : RE imm K V xs es) : es.length = xs.length := by
  induction xs generalizing es with
  | nil => have h : es = [] := h; subst h; rfl
  | cons x xs ih =>
    obtain ⟨e, l, rfl, _, _, h3⟩ := h
    simp [ih h3]

/-! ### Keys -/
theorem VD.scal {imm : Nat → Option (List Value)} {K : DTy} {x : K.El} {v : Value} (h : VD imm K x v) (hk : K.agg = false) : RD imm K x [v] := by
  obtain ⟨cs, h1, h2 | h2⟩ := h
  · rw [hk] at h2; cases h2.1
  · rw [← h2.2]; exact h1

/-- Is it carried out at once, by comparing scalars? -/
def scalT (P : Program) (t : TypeId) : Bool := match P.underlying t with
  | some .bool | some (.int _) | some .string => true
  | _ => false

theorem same_now {P : Program} {imm : Nat → Option (List Value)} {d : Nat} {t : TypeId} {K : DTy} (hq : eqT P d t K = true) {x y : K.El} {v u : Value} (hv : VD imm K x v) (hu : VD imm K y u) {kind : TypeDesc} (hkd : P.underlying t = some kind) (hs : scalT P t = true) :
    Instr.sameNow kind v u = some (eqD K x y) := by
  cases d with
  | zero => simp [eqT] at hq
  | succ d =>
    simp only [eqT, hkd] at hq
    simp only [scalT, hkd] at hs
    cases kind <;> simp only [Bool.false_eq_true] at hs
    · cases K <;> simp only [Bool.false_eq_true] at hq
      have e1 := hv.scal rfl
      have e2 := hu.scal rfl
      have e1 : [v] = [Value.bool x] := e1
      have e2 : [u] = [Value.bool y] := e2
      simp only [List.cons.injEq, and_true] at e1 e2
      subst e1; subst e2
      rfl
    · cases K <;> simp only [Bool.false_eq_true] at hq
      rename_i k1 k2
      have e1 := hv.scal rfl
      have e2 := hu.scal rfl
      have e1 : [v] = [Value.int k2 x] := e1
      have e2 : [u] = [Value.int k2 y] := e2
      simp only [List.cons.injEq, and_true] at e1 e2
      subst e1; subst e2
      simp [Instr.sameNow, eqD]
    · cases K <;> simp only [Bool.false_eq_true] at hq
      have e1 := hv.scal rfl
      have e2 := hu.scal rfl
      have e1 : [v] = [Value.string x] := e1
      have e2 : [u] = [Value.string y] := e2
      simp only [List.cons.injEq, and_true] at e1 e2
      subst e1; subst e2
      simp only [Instr.sameNow, eqD, beq_toListBytes]

theorem find_now {P : Program} {imm : Nat → Option (List Value)} {d : Nat} {t : TypeId} {K V : DTy} (hq : eqT P d t K = true) {x : K.El} {v : Value} (hv : VD imm K x v) {kind : TypeDesc} (hkd : P.underlying t = some kind) (hs : scalT P t = true) : {xs : List (K.El × V.El)} → {es : List MapEntry} → RE imm K V xs es → (i : Nat) →
    Instr.findNow kind v es i = some (match posD K x xs with | some j => (es[j]?).map (fun e => (i + j, e.val)) | none => none)
  | [], es, h, i => by
    have h : es = [] := h
    subst h; rfl
  | y :: ys, es, h, i => by
    obtain ⟨e, l, rfl, h1, h2, h3⟩ := h
    simp only [Instr.findNow, same_now hq hv h1 hkd hs, posD]
    cases hb : eqD K x y.1 with
    | true => simp
    | false =>
      simp only [cond_false]
      rw [find_now hq hv hkd hs h3 (i + 1)]
      cases posD K x ys with
      | none => rfl
      | some j => simp [Nat.add_assoc, Nat.add_comm 1 j]

theorem find_asking {P : Program} {imm : Nat → Option (List Value)} {w : World} {d : Nat} (hd : d ≤ 10000) {t : TypeId} {K V : DTy} (hq : eqT P d t K = true) {x : K.El} {v : Value} (hv : VD imm K x v) : {xs : List (K.El × V.El)} → {es : List MapEntry} → RE imm K V xs es → (i : Nat) →
    (Instr.findAsking t v es i).run P w = .ok (match posD K x xs with | some j => (es[j]?).map (fun e => (i + j, e.val)) | none => none) w
  | [], es, h, i => by
    have h : es = [] := h
    subst h; rfl
  | y :: ys, es, h, i => by
    obtain ⟨e, l, rfl, h1, h2, h3⟩ := h
    have he : (Op.equal t v e.key).run P w = .ok (eqD K x y.1) w := eqT_run d 10000 hd t K hq x y.1 v e.key hv h1
    simp only [Instr.findAsking, Sem.run_bind, he, Result.andThen_ok, posD]
    cases hb : eqD K x y.1 with
    | true => simp
    | false =>
      simp only [Bool.false_eq_true, if_false, cond_false]
      rw [find_asking hd hq hv h3 (i + 1)]
      cases posD K x ys with
      | none => rfl
      | some j => simp [Nat.add_assoc, Nat.add_comm 1 j]

theorem find_key {P : Program} {imm : Nat → Option (List Value)} {w : World} {d : Nat} (hd : d ≤ 10000) {t : TypeId} {K V : DTy} (hq : eqT P d t K = true) {x : K.El} {v : Value} (hv : VD imm K x v) {xs : List (K.El × V.El)} {es : List MapEntry} (h : RE imm K V xs es) :
    (Instr.findKey t v es).run P w = .ok (match posD K x xs with | some j => (es[j]?).map (fun e => (j, e.val)) | none => none) w := by
  have hu : ∃ kind, P.underlying t = some kind := by
    cases d with
    | zero => simp [eqT] at hq
    | succ d =>
      simp only [eqT] at hq
      cases hk : P.underlying t with
      | none => simp [hk] at hq
      | some kind => exact ⟨kind, rfl⟩
  obtain ⟨kind, hk⟩ := hu
  unfold Instr.findKey
  rw [Sem.run_bind, run_underlying' hk, Result.andThen_ok]
  cases hs : scalT P t with
  | true =>
    rw [find_now hq hv hk hs h 0]
    simp
  | false =>
    have ha := find_asking (w := w) hd hq hv h 0
    simp only [Nat.zero_add] at ha
    cases hf : Instr.findNow kind v es 0 with
    | none => exact ha
    | some r =>
      -- a struct is never compared at once
      cases d with
      | zero => simp [eqT] at hq
      | succ d =>
        simp only [eqT, hk] at hq
        simp only [scalT, hk] at hs
        cases kind <;> simp only [Bool.false_eq_true, Bool.true_eq_false] at hq hs
        cases es with
        | nil =>
          have : xs = [] := by
            have := RE_empty h
            simpa using this.symm
          subst this
          simp [Instr.findNow] at hf
          subst hf
          rfl
        | cons e es => simp [Instr.findNow, Instr.sameNow] at hf

theorem check_key {P : Program} {imm : Nat → Option (List Value)} {w : World} (em : Bool) : (d D : Nat) → d ≤ D → (t : TypeId) → (K : DTy) → eqT P d t K = true → (x : K.El) → (v : Value) → VD imm K x v → (Instr.checkKey em D t v).run P w = .ok () w
  | 0, _, _, _, _, h, _, _, _ => by simp [eqT] at h
  | d + 1, 0, hd, _, _, _, _, _, _ => by omega
  | d + 1, D + 1, hd, t, K, h, x, v, hv => by
    simp only [eqT] at h
    split at h
    · rename_i ht
      unfold Instr.checkKey
      rw [Sem.run_bind, run_underlying' ht]
      rfl
    · rename_i k ht
      unfold Instr.checkKey
      rw [Sem.run_bind, run_underlying' ht]
      rfl
    · rename_i ht
      unfold Instr.checkKey
      rw [Sem.run_bind, run_underlying' ht]
      rfl
    · rename_i fs ht
      simp only [Bool.and_eq_true, Bool.not_eq_true'] at h
      obtain ⟨⟨hs, hT⟩, hf⟩ := h
      obtain ⟨cs, hc, hcv | hcv⟩ := hv
      · rw [hcv.2]
        unfold Instr.checkKey
        rw [Sem.run_bind, run_underlying' ht, Result.andThen_ok]
        simp only
        rw [← Array.forIn_toList]
        have g1 := RD.len hc
        have main : ∀ (l : List Field) (T : DTy) (o : Nat), eqFs P (eqT P d) l T o = true → ∀ (z : T.El), o + T.sz ≤ cs.length → RD imm T z ((cs.drop o).take T.sz) →
            (forIn l PUnit.unit fun f _ => (if f.name ≠ "_" then (do let u ← part f.type cs.toArray f.offset; Instr.checkKey em D f.type u; pure (ForInStep.yield PUnit.unit)) else pure (ForInStep.yield PUnit.unit) : Sem (ForInStep PUnit))).run P w = .ok PUnit.unit w := by
          intro l
          induction l with
          | nil => intro T o _ z _ _; rfl
          | cons f fs ih =>
            intro T o hq z hl hr
            cases T with
            | cons hh tt =>
              simp only [eqFs, Bool.and_eq_true, beq_iff_eq, decide_eq_true_eq] at hq
              obtain ⟨⟨⟨⟨hn, rfl⟩, hfd⟩, hrec⟩, hrest⟩ := hq
              obtain ⟨c1, c2, e, k1, k2⟩ := hr
              have q1 := RD.len k1
              have q2 := RD.len k2
              have hs : (DTy.cons hh tt).sz = hh.sz + tt.sz := rfl
              rw [hs] at e hl
              have e1 : (cs.drop f.offset).take hh.sz = c1 := by
                have := congrArg (List.take hh.sz) e
                rw [List.take_take, Nat.min_eq_left (by omega), ← q1, List.take_left'] at this
                · rw [← q1]; exact this
                · rfl
              have e2 : (cs.drop (f.offset + hh.sz)).take tt.sz = c2 := by
                have := congrArg (List.drop hh.sz) e
                rw [List.drop_take, List.drop_drop, Nat.add_sub_cancel_left, ← q1, List.drop_left'] at this
                · rw [← q1]; exact this
                · rfl
              obtain ⟨u, hu, ud⟩ := run_partD (imm := imm) hfd (o := f.offset) (cs := cs) (by omega) (x := z.1) (by rw [e1]; exact k1) w
              have hck := check_key em d D (by omega) f.type hh hrec z.1 u ud (w := w)
              simp only [List.forIn_cons, Sem.run_bind, if_pos hn, hu, hck, Result.andThen_ok, Sem.run_pure]
              exact ih tt (f.offset + hh.sz) hrest z.2 (by omega) (by rw [e2]; exact k2)
            | _ => simp [eqFs] at hq
        have := main fs.toList K 0 hf x (by omega) (by rw [List.drop_zero, List.take_of_length_le (by omega)]; exact hc)
        rw [Sem.run_bind, this]; rfl
      · rw [hT] at hcv; cases hcv.1
    · cases h

/-! ### The operations -/
def aggV : Value → Bool
  | .agg _ => true
  | _ => false

/-- A type's zero value, as data. -/
def zeroD (P : Program) (t : TypeId) (V : DTy) : Option V.El :=
  match zeroT P 8 t, P.info? t with
  | some c, some i => match zcells c, i.zero with
    | some cs, some z => bif eqZs cs z.cells.toList && aggV z == V.agg then asData c V else none
    | _, _ => none
  | _, _ => none
theorem zeroD_run {P : Program} {t : TypeId} {V : DTy} {x : V.El} (h : zeroD P t V = some x) (imm : Nat → Option (List Value)) (w : World) : ∃ z, (zeroValue t).run P w = .ok z w ∧ VD imm V x z := by
  unfold zeroD at h
  split at h
  · rename_i c i hc hi
    split at h
    · rename_i cs z hcs hz
      cases hb : eqZs cs z.cells.toList && aggV z == V.agg with
      | false => rw [hb] at h; cases h
      | true =>
        rw [hb] at h
        simp only [cond_true] at h
        simp only [Bool.and_eq_true, beq_iff_eq] at hb
        have e := eqZs_eq hb.1
        have hrd : RD imm V x cs := asData_spec (G := ⟨imm, fun _ => none, []⟩) (dead := []) h cs (zcells_rc hcs)
        refine ⟨z, ?_, cs, hrd, ?_⟩
        · unfold zeroValue
          rw [Sem.run_bind, run_typeInfo' hi, Result.andThen_ok]
          simp only [hz]
          rfl
        · cases hV : V.agg with
          | true =>
            rw [hV] at hb
            left
            cases z <;> simp [aggV] at hb
            rw [e]
            exact ⟨rfl, rfl⟩
          | false =>
            rw [hV] at hb
            right
            cases z <;> simp [aggV] at hb <;> exact ⟨rfl, e⟩
    · cases h
  · cases h

/-- A map and its entries. -/
def mapAt (B : Bx) : AVal → Option (Nat × AVal)
  | .mref b => match B.box[b]? with
    | some (.mobj K V xs) => some (b, .mobj K V xs)
    | _ => none
  | _ => none

def lookupK (P : Program) {X : Type} (t : TypeId) (m i : AVal) (ok : Bool) (B : Bx) (k : AVal → Bx → Option X) : Option X :=
  match mapAt B m with
  | some (_, .mobj K V xs) => match P.underlying t with
    | some (.map kt vt) => match asData i K, zeroD P vt V with
      | some x, some z => bif eqT P 100 kt K && i.plain then
          bif ok then k (.tuple (chain [.d V ((findD K x xs).getD z), .d .bool (findD K x xs).isSome])) B else k (.d V ((findD K x xs).getD z)) B
        else none
      | _, _ => none
    | _ => none
  | _ => none

def updateA (P : Program) (t : TypeId) (m i v : AVal) (B : Bx) : Option Bx :=
  match mapAt B m with
  | some (b, .mobj K V xs) => match P.underlying t with
    | some (.map kt vt) => match asData i K, asData v V with
      | some x, some y => bif eqT P 100 kt K && i.plain && v.plain then some { B with box := B.box.set b (.mobj K V (putD K x y xs)) } else none
      | _, _ => none
    | _ => none
  | _ => none

def makeMapA (P : Program) (t : TypeId) (B : Bx) : Option (AVal × Bx) :=
  match P.underlying t with
  | some (.map kt vt) => match dtyT P 8 kt, dtyT P 8 vt with
    | some K, some V => some (.mref B.box.length, B.push (.mobj K V []))
    | _, _ => none
  | _ => none

theorem makeMapA_sound {P : Program} {o : Oper} {ρ : Operand → AVal} {v : AVal} {t : TypeId} {B B' : Bx} (ho : o.op = .makeMap t none) (h : makeMapA P t B = some (v, B')) : OpD P o ρ B v B' := by
  intro G a w ha hw next Q hn
  unfold makeMapA at h
  split at h
  · split at h
    · rename_i K V _ _
      simp only [Option.some.injEq, Prod.mk.injEq] at h
      obtain ⟨rfl, rfl⟩ := h
      obtain ⟨G', h0, h1, h2, h3⟩ := new_obj (o := .map #[] 0) (c := .mobj K V []) (cs := []) hw ⟨#[], 0, rfl, rfl⟩ rfl
      refine wp_of_run (v := .map (some w.heap.size)) (w' := w.alloc (.map #[] 0)) ?_ (hn _ G' _ (leaf_v rfl ⟨w.heap.size, h0, rfl⟩) h1 h2 h3)
      simp only [execOp, ho]
      rfl
    · cases h
  · cases h

theorem mapAt_spec {B : Bx} {m c : AVal} {b : Nat} (h : mapAt B m = some (b, c)) : m = .mref b ∧ B.box[b]? = some c ∧ c.isM = true := by
  unfold mapAt at h
  split at h
  · split at h
    · rename_i hb
      simp only [Option.some.injEq, Prod.mk.injEq] at h
      obtain ⟨rfl, rfl⟩ := h
      exact ⟨rfl, hb, rfl⟩
    · cases h
  · cases h
theorem map_obj {G : Gh} {B : Bx} {w : World} {m : AVal} {K V : DTy} {xs : List (K.El × V.El)} {b : Nat} {cv : Value} (hw : WOk G B w) (h : mapAt B m = some (b, .mobj K V xs)) (hv : Rv G B.dead m cv) :
    ∃ blk es clock, cv = .map (some blk) ∧ G.addr[b]? = some blk ∧ B.box[b]? = some (.mobj K V xs) ∧ w.heap[blk]? = some (.map es clock) ∧ RE G.imm K V xs es.toList := by
  obtain ⟨rfl, hb, _⟩ := mapAt_spec h
  obtain ⟨cs, ⟨blk, ha, rfl⟩, hh | hh⟩ := hv
  · cases hh.1
  · obtain ⟨o, cs, h1, ⟨es, clock, rfl, rfl⟩, h3⟩ := hw.boxes b blk _ ha hb
    exact ⟨blk, es, clock, by simpa using hh.2.symm, ha, hb, h1, RM_RE h3⟩

theorem data_v {G : Gh} {dead : List Nat} {a : AVal} {T : DTy} {x : T.El} {v : Value} (h : asData a T = some x) (hv : Rv G dead a v) : VD G.imm T x v := by
  obtain ⟨cs, hc, hh⟩ := hv
  exact ⟨cs, asData_spec h cs hc, by rw [asData_agg h]; exact hh⟩
theorem VD.rv {G : Gh} {dead : List Nat} {T : DTy} {x : T.El} {v : Value} (h : VD G.imm T x v) : Rv G dead (.d T x) v := h

theorem lookupK_spec {P : Program} {X : Type} {o : Oper} {ρ : Operand → AVal} {t : TypeId} {m i : Operand} {ok : Bool} {B : Bx} {k : AVal → Bx → Option X} {r : X} (ho : o.op = .lookup t m i ok) (h : lookupK P t (ρ m) (ρ i) ok B k = some r) : ∃ v, k v B = some r ∧ OpD P o ρ B v B := by
  unfold lookupK at h
  split at h
  · rename_i b K V xs hm
    split at h
    · rename_i kt vt ht
      split at h
      · rename_i x z hx hz
        cases hb : eqT P 100 kt K && (ρ i).plain with
        | false => rw [hb] at h; cases h
        | true =>
          rw [hb] at h
          simp only [cond_true] at h
          simp only [Bool.and_eq_true] at hb
          have run : ∀ (G : Gh) (a : Act) (w : World), (∀ q ∈ o.op.operands, Rv G B.dead (ρ q) (a.eval q)) → WOk G B w → ∃ u, VD G.imm V ((findD K x xs).getD z) u ∧
              (Instr.lookup t (a.eval m) (a.eval i) ok).run P w = .ok (if ok then .tuple #[u, .bool (findD K x xs).isSome] else u) w := fun G a w ha hw => by
            have hmv := ha m (by rw [ho]; simp [Op.operands])
            have hiv := ha i (by rw [ho]; simp [Op.operands])
            obtain ⟨blk, es, clock, e1, _, _, e2, hre⟩ := map_obj hw hm hmv
            have hxd := data_v hx hiv
            have hck := check_key (w := w) es.isEmpty 100 10000 (by omega) kt K hb.1 x _ hxd
            have hfk := find_key (w := w) (by omega) hb.1 hxd hre
            obtain ⟨zv, hzr, hzd⟩ := zeroD_run hz G.imm w
            have hgo : (getObj blk).run P w = .ok (.map es clock) w := by simp [getObj, Sem.run, e2]
            unfold Instr.lookup
            rw [Sem.run_bind, run_underlying' ht, Result.andThen_ok, e1]
            simp only [Sem.run_bind, hgo, Result.andThen_ok, Sem.run_pure, hck, hfk]
            rw [findD_pos]
            cases hp : posD K x xs with
            | none =>
              refine ⟨zv, hzd, ?_⟩
              simp only [Sem.run_bind, hzr, Result.andThen_ok, Sem.run_pure, Option.isSome_none]
            | some j =>
              obtain ⟨y, hy, _⟩ := posD_at hp
              obtain ⟨e, he, hk, hv⟩ := RE_get hre hy
              refine ⟨e.val, by simpa [hy] using hv, ?_⟩
              simp only [he, hy, Option.map_some, Sem.run_bind, Sem.run_pure, Result.andThen_ok, Option.isSome_some]
          cases ok with
          | true =>
            simp only [cond_true] at h
            refine ⟨_, h, fun G a w ha hw next Q hn => ?_⟩
            obtain ⟨u, hu, hr⟩ := run G a w ha hw
            refine wp_of_run (v := .tuple #[u, .bool (findD K x xs).isSome]) (w' := w) ?_ (hn _ G w ?_ hw (GLe.refl _ _) (Ext.refl _ _))
            · simp only [execOp, ho, Sem.run_bind, hr, if_true, Result.andThen_ok]; rfl
            · exact leaf_v rfl ⟨[u, .bool (findD K x xs).isSome], rfl, u, _, rfl, hu, _, [], rfl, leaf_v rfl rfl, rfl⟩
          | false =>
            simp only [cond_false] at h
            refine ⟨_, h, fun G a w ha hw next Q hn => ?_⟩
            obtain ⟨u, hu, hr⟩ := run G a w ha hw
            refine wp_of_run (v := u) (w' := w) ?_ (hn _ G w hu hw (GLe.refl _ _) (Ext.refl _ _))
            simp only [execOp, ho, Sem.run_bind, hr, Result.andThen_ok]; rfl
      · cases h
    · cases h
  · cases h

end Go.Proofs.YtbidmbjkjpdgdaaDoor.Abs
