/-
  The abstract semantics, sixteenth part: regions whose order is drawn.
-/
import Derived.Test.YtbidmbjkjpdgdaaDoorAbs15
set_option linter.unusedVariables false
set_option linter.unusedSimpArgs false
namespace Go.Proofs.YtbidmbjkjpdgdaaDoor.Abs

def ancStep (acc : List Nat) (o : Oper) : Nat := o.after.toList.foldl (fun s e => bif Region.binds .any e then s ||| 2 ^ e.on ||| acc.getD e.on 0 else s) 0
/-- Of each operation, all that must come up before it, as bits. -/
def ancs (l : List Oper) : List Nat := l.foldl (fun acc o => acc ++ [ancStep acc o]) []
theorem ancs_snoc (l : List Oper) (o : Oper) : ancs (l ++ [o]) = ancs l ++ [ancStep (ancs l) o] := by simp [ancs, List.foldl_append]
theorem ancs_len (l : List Oper) : (ancs l).length = l.length := by
  have : ∀ (l : List Oper) (acc : List Nat), (l.foldl (fun acc o => acc ++ [ancStep acc o]) acc).length = acc.length + l.length := by
    intro l
    induction l with
    | nil => intro acc; simp
    | cons o l ih => intro acc; rw [List.foldl_cons, ih]; simp; omega
  simpa [ancs] using this l []

theorem foldl_bits {acc : List Nat} {j : Nat} : ∀ (es : List Edge) (s : Nat), (es.foldl (fun s e => bif Region.binds .any e then s ||| 2 ^ e.on ||| acc.getD e.on 0 else s) s).testBit j = true →
    s.testBit j = true ∨ ∃ e ∈ es, Region.binds .any e = true ∧ (e.on = j ∨ (acc.getD e.on 0).testBit j = true)
  | [], s, h => .inl h
  | e :: es, s, h => by
    rw [List.foldl_cons] at h
    rcases foldl_bits es _ h with h1 | ⟨e', h1, h2⟩
    · cases hb : Region.binds .any e with
      | false => simp only [hb, cond_false] at h1; exact .inl h1
      | true =>
        simp only [hb, cond_true, Nat.testBit_or, Bool.or_eq_true] at h1
        rcases h1 with (h1 | h1) | h1
        · exact .inl h1
        · rw [Nat.testBit_two_pow] at h1
          exact .inr ⟨e, by simp, hb, .inl (by simpa using h1)⟩
        · exact .inr ⟨e, by simp, hb, .inr h1⟩
    · exact .inr ⟨e', by simp [h1], h2⟩

/-- What is listed is closed. -/
def Closed (l : List Oper) (listed : Nat → Prop) : Prop := ∀ i o, l[i]? = some o → listed i → ∀ e ∈ o.after, Region.binds .any e = true → listed e.on

theorem anc_listed {l : List Oper} {listed : Nat → Prop} (hcl : Closed l listed) (hed : ∀ i o, l[i]? = some o → ∀ e ∈ o.after, Region.binds .any e = true → e.on < i) : ∀ (i : Nat) (o : Oper), l[i]? = some o → (∀ e ∈ o.after, Region.binds .any e = true → listed e.on) →
    ∀ j, ((ancs l).getD i 0).testBit j = true → listed j := by
  intro i
  induction i using Nat.strongRecOn with
  | _ i ih =>
    intro o ho hr j hj
    have hi : i < l.length := (List.getElem?_eq_some_iff.1 ho).1
    have hpre : ∀ q, q ≤ i → (ancs l).getD q 0 = (ancs (l.take (i + 1))).getD q 0 := fun q hq => by
      have : ∀ (r : List Oper) (p : List Oper), i + 1 ≤ p.length → (ancs (p ++ r)).getD q 0 = (ancs p).getD q 0 := by
        intro r
        induction r with
        | nil => intro p _; simp
        | cons x r ihr =>
          intro p hp
          have e : p ++ x :: r = (p ++ [x]) ++ r := by simp
          rw [e, ihr (p ++ [x]) (by simp; omega), ancs_snoc, List.getD_eq_getElem?_getD, List.getElem?_append_left (by rw [ancs_len]; omega), ← List.getD_eq_getElem?_getD]
      have h2 := this (l.drop (i + 1)) (l.take (i + 1)) (by simp; omega)
      rwa [List.take_append_drop] at h2
    have htake : l.take (i + 1) = l.take i ++ [o] := by
      rw [List.take_add_one, ho]; rfl
    have hself : (ancs l).getD i 0 = ancStep (ancs (l.take i)) o := by
      rw [hpre i (Nat.le_refl _), htake, ancs_snoc, List.getD_eq_getElem?_getD, List.getElem?_append_right (by rw [ancs_len]; simp; omega)]
      rw [ancs_len]
      have : i - (l.take i).length = 0 := by simp; omega
      rw [this]
      rfl
    have hlow : ∀ q, q < i → (ancs (l.take i)).getD q 0 = (ancs l).getD q 0 := fun q hq => by
      rw [hpre q (by omega), htake, ancs_snoc, List.getD_eq_getElem?_getD, List.getD_eq_getElem?_getD, List.getElem?_append_left (by rw [ancs_len]; simp; omega)]
    rw [hself] at hj
    rcases foldl_bits _ _ hj with h0 | ⟨e, he, hb, h1⟩
    · simp at h0
    · have he' : e ∈ o.after := Array.mem_toList_iff.1 he
      have hlt := hed i o ho e he' hb
      rcases h1 with h1 | h1
      · rw [← h1]; exact hr e he' hb
      · rw [hlow e.on hlt] at h1
        have hel : e.on < l.length := by omega
        exact ih e.on hlt l[e.on] (List.getElem?_eq_getElem hel) (fun e2 he2 hb2 => hcl e.on _ (List.getElem?_eq_getElem hel) (hr e he' hb) e2 he2 hb2) j h1

def isC (C : CalT) (o : Oper) : Bool := !isP C o && !isR C o

/-- Is a temporary written by an operation from some place on? -/
def late (ops : Array Oper) (i : Nat) (t : Tmp) : Bool := ops.toList.zipIdx.any fun (o, j) => o.dst == some t && decide (i ≤ j)
/-- Does an operation at a place change some box? Its operands as they are in the end. -/
def touchesX (ops : Array Oper) (envN : List AVal) (n0 i : Nat) (o : Oper) (b : Nat) (q : List PStep) : Bool := match o.op with
  | .store _ x _ => match x with
    | .tmp t => late ops i t || touches o (opA envN) n0 b q
    | _ => true
  | _ => touches o (opA envN) n0 b q
/-- Does it matter which of an operation that reads and one that changes comes first? -/
def clash (C : CalT) (ops : Array Oper) (envN : List AVal) (n0 i : Nat) (o : Oper) (j : Nat) (oj : Oper) : Bool := match o.op with
  | .load _ x => match x with
    | .tmp t => late ops i t || match envN.getD t .any with
      | .bptr b q => touchesX ops envN n0 j oj b q
      | .iptr _ _ => false
      | _ => true
    | _ => true
  | _ => !isAny C o && !isN oj
/-- Which pairs must be in the text's order. -/
def inOrder (C : CalT) (ops : Array Oper) (envN : List AVal) (n0 : Nat) (j : Nat) (oj : Oper) (i : Nat) (o : Oper) : Bool :=
  (isC C oj && isC C o) || (isC C oj && isR C o && clash C ops envN n0 i o j oj) || (isR C oj && isC C o && clash C ops envN n0 j oj i o)

def drawOk (C : CalT) (ops : Array Oper) (len n0 : Nat) (envN : List AVal) : Bool :=
  let l := ops.toList
  let A := ancs l
  let Z := l.zipIdx
  Z.all fun (o, i) =>
    (o.after.toList.all fun e => !Region.binds .any e || decide (e.on < i)) &&
    (match o.dst with
      | some t => decide (t < len) && Z.all fun (oj, j) => j == i || oj.dst != some t
      | none => true) &&
    ((o.looksAt ops).all fun t => Z.all fun (oj, j) => oj.dst != some t || (decide (j < i) && (A.getD i 0).testBit j) || j == i || (decide (i < j) && (A.getD j 0).testBit i)) &&
    (Z.all fun (oj, j) => !decide (j < i) || !(inOrder C ops envN n0 j oj i o) || (A.getD i 0).testBit j)

structure DrawP (C : CalT) (ops : Array Oper) (len n0 : Nat) (envN : List AVal) : Prop where
  edge : ∀ (i : Nat) (o : Oper), ops.toList[i]? = some o → ∀ e ∈ o.after, Region.binds .any e = true → e.on < i
  lt : ∀ (i : Nat) (o : Oper) (t : Tmp), ops.toList[i]? = some o → o.dst = some t → t < len
  apart : ∀ (i j : Nat) (o oj : Oper) (t : Tmp), ops.toList[i]? = some o → ops.toList[j]? = some oj → o.dst = some t → oj.dst = some t → i = j
  look : ∀ (i j : Nat) (o oj : Oper) (t : Tmp), ops.toList[i]? = some o → ops.toList[j]? = some oj → t ∈ o.looksAt ops → oj.dst = some t → (j < i ∧ ((ancs ops.toList).getD i 0).testBit j = true) ∨ j = i ∨ (i < j ∧ ((ancs ops.toList).getD j 0).testBit i = true)
  conf : ∀ (i j : Nat) (o oj : Oper), ops.toList[i]? = some o → ops.toList[j]? = some oj → j < i → inOrder C ops envN n0 j oj i o = true → ((ancs ops.toList).getD i 0).testBit j = true

theorem drawOk_spec {C : CalT} {ops : Array Oper} {len n0 : Nat} {envN : List AVal} (h : drawOk C ops len n0 envN = true) : DrawP C ops len n0 envN := by
  have mem : ∀ {i : Nat} {o : Oper}, ops.toList[i]? = some o → (o, i) ∈ ops.toList.zipIdx := fun {i o} ho => by
    rw [List.mem_zipIdx_iff_getElem?]; exact ho
  unfold drawOk at h
  have key : ∀ i o, ops.toList[i]? = some o → _ := fun i o ho => List.all_eq_true.1 h (o, i) (mem ho)
  simp only [Bool.and_eq_true] at key
  refine ⟨fun i o ho e he hb => ?_, fun i o t ho ht => ?_, fun i j o oj t ho hoj ht htj => ?_, fun i j o oj t ho hoj ht htj => ?_, fun i j o oj ho hoj hji hc => ?_⟩
  · have := List.all_eq_true.1 (key i o ho).1.1.1 e (Array.mem_toList_iff.2 he)
    simpa [hb] using this
  · have := (key i o ho).1.1.2
    rw [ht] at this
    simp only [Bool.and_eq_true, decide_eq_true_eq] at this
    exact this.1
  · have := (key i o ho).1.1.2
    rw [ht] at this
    simp only [Bool.and_eq_true] at this
    have h2 := List.all_eq_true.1 this.2 (oj, j) (mem hoj)
    simp only [Bool.or_eq_true, beq_iff_eq, bne_iff_ne, ne_eq] at h2
    rcases h2 with h2 | h2
    · exact h2.symm
    · exact absurd htj h2
  · have h2 := List.all_eq_true.1 (List.all_eq_true.1 (key i o ho).1.2 t ht) (oj, j) (mem hoj)
    simp only [Bool.or_eq_true, bne_iff_ne, ne_eq, Bool.and_eq_true, decide_eq_true_eq, beq_iff_eq] at h2
    rcases h2 with ((h2 | h2) | h2) | h2
    · exact absurd htj h2
    · exact .inl h2
    · exact .inr (.inl h2)
    · exact .inr (.inr h2)
  · have h2 := List.all_eq_true.1 (key i o ho).2 (oj, j) (mem hoj)
    simp only [Bool.or_eq_true, Bool.not_eq_true', decide_eq_false_iff_not] at h2
    rcases h2 with (h2 | h2) | h2
    · exact absurd hji h2
    · rw [hc] at h2; cases h2
    · exact h2

/-- A trace, place by place. -/
structure TrI (P : Program) (C : CalT) (ops : Array Oper) (l : List Oper) (envs : Nat → List AVal) (bs : Nat → Bx) (vs : Nat → AVal) (wn : Nat → Bool) : Prop where
  wanted : ∀ i o, l[i]? = some o → wantedA ops (envs i) o = some (wn i)
  env : ∀ i o, l[i]? = some o → envs (i + 1) = setA (envs i) o.dst (vs i)
  run : ∀ i o, l[i]? = some o → wn i = true → OpD P o (opA (envs i)) (bs i) (vs i) (bs (i + 1)) ∧ (isP C o = true → ∀ B0, OpD P o (opA (envs i)) B0 (vs i) B0) ∧ (isR C o = true → ∀ B0, Same C o (opA (envs i)) (bs i) B0 → OpD P o (opA (envs i)) B0 (vs i) B0)
  skip : ∀ i o, l[i]? = some o → wn i = false → vs i = .tuple .nil ∧ bs (i + 1) = bs i
  still : ∀ i o, l[i]? = some o → isC C o = false → bs (i + 1) = bs i
  sim : ∀ i o, l[i]? = some o → isN o = true → Sim (bs i) (bs (i + 1))
  eff : ∀ i o, l[i]? = some o → Eff o (opA (envs i)) (bs i) (bs (i + 1))

theorem tr_index {P : Program} {C : CalT} {ops : Array Oper} : {l : List Oper} → {env env' : List AVal} → {B B' : Bx} → Tr P C ops l env B env' B' →
    ∃ envs bs vs wn, envs 0 = env ∧ bs 0 = B ∧ envs l.length = env' ∧ bs l.length = B' ∧ TrI P C ops l envs bs vs wn
  | _, env, _, B, _, .nil => ⟨fun _ => env, fun _ => B, fun _ => .any, fun _ => false, rfl, rfl, rfl, rfl, ⟨fun i o h => by simp at h, fun i o h => by simp at h, fun i o h => by simp at h, fun i o h => by simp at h, fun i o h => by simp at h, fun i o h => by simp at h, fun i o h => by simp at h⟩⟩
  | o :: l, env, env', B, B', .run (v := v) hw ⟨hop, hp, hr, hn, heff⟩ ht => by
    obtain ⟨envs, bs, vs, wn, h1, h2, h3, h4, h5⟩ := tr_index ht
    refine ⟨fun | 0 => env | i + 1 => envs i, fun | 0 => B | i + 1 => bs i, fun | 0 => v | i + 1 => vs i, fun | 0 => true | i + 1 => wn i, rfl, rfl, h3, h4, ⟨?_, ?_, ?_, ?_, ?_, ?_, ?_⟩⟩
    all_goals
      intro i o' ho
      cases i with
      | zero => ?_
      | succ i => ?_
    · simp only [List.getElem?_cons_zero, Option.some.injEq] at ho; subst ho; exact hw
    · exact h5.wanted i o' (by simpa using ho)
    · simp only [List.getElem?_cons_zero, Option.some.injEq] at ho; subst ho; exact h1
    · exact h5.env i o' (by simpa using ho)
    · simp only [List.getElem?_cons_zero, Option.some.injEq] at ho; subst ho
      exact fun _ => ⟨by simp only [h2]; exact hop, fun h => (hp h).2, fun h => (hr h).2⟩
    · exact h5.run i o' (by simpa using ho)
    · intro h; cases h
    · exact h5.skip i o' (by simpa using ho)
    · simp only [List.getElem?_cons_zero, Option.some.injEq] at ho; subst ho
      intro h
      simp only [h2]
      cases hpp : isP C o with
      | true => exact (hp hpp).1
      | false => exact (hr (by simpa [isC, hpp] using h)).1
    · exact h5.still i o' (by simpa using ho)
    · simp only [List.getElem?_cons_zero, Option.some.injEq] at ho; subst ho
      intro h
      simp only [h2]
      exact hn h
    · exact h5.sim i o' (by simpa using ho)
    · simp only [List.getElem?_cons_zero, Option.some.injEq] at ho; subst ho
      simp only [h2]
      exact heff
    · exact h5.eff i o' (by simpa using ho)
  | o :: l, env, env', B, B', .skip hw ht => by
    obtain ⟨envs, bs, vs, wn, h1, h2, h3, h4, h5⟩ := tr_index ht
    refine ⟨fun | 0 => env | i + 1 => envs i, fun | 0 => B | i + 1 => bs i, fun | 0 => .tuple .nil | i + 1 => vs i, fun | 0 => false | i + 1 => wn i, rfl, rfl, h3, h4, ⟨?_, ?_, ?_, ?_, ?_, ?_, ?_⟩⟩
    all_goals
      intro i o' ho
      cases i with
      | zero => ?_
      | succ i => ?_
    · simp only [List.getElem?_cons_zero, Option.some.injEq] at ho; subst ho; exact hw
    · exact h5.wanted i o' (by simpa using ho)
    · simp only [List.getElem?_cons_zero, Option.some.injEq] at ho; subst ho; exact h1
    · exact h5.env i o' (by simpa using ho)
    · intro h; cases h
    · exact h5.run i o' (by simpa using ho)
    · exact fun _ => ⟨rfl, h2⟩
    · exact h5.skip i o' (by simpa using ho)
    · exact fun _ => h2
    · exact h5.still i o' (by simpa using ho)
    · exact fun _ => by simp only [h2]; exact Sim.refl _
    · exact h5.sim i o' (by simpa using ho)
    · simp only [h2]; exact Eff.refl _ _ _
    · exact h5.eff i o' (by simpa using ho)

end Go.Proofs.YtbidmbjkjpdgdaaDoor.Abs
