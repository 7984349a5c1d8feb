/-
  The abstract semantics, between the thirteenth and the fourteenth part: a map is written.
-/
import Derived.Test.YtbidmbjkjpdgdaaDoorAbsM
set_option linter.unusedVariables false
set_option linter.unusedSimpArgs false
namespace Go.Proofs.YtbidmbjkjpdgdaaDoor.Abs

def plainD : DTy → Bool
  | .int _ | .bool | .str | .nil => true
  | .cons h t => plainD h && plainD t
  | _ => false
theorem eqT_plain {P : Program} : (d : Nat) → (t : TypeId) → (T : DTy) → eqT P d t T = true → plainD T = true
  | 0, _, _, h => by simp [eqT] at h
  | d + 1, t, T, h => by
    simp only [eqT] at h
    split at h
    · cases T <;> simp only [Bool.false_eq_true] at h; rfl
    · cases T <;> simp only [Bool.false_eq_true] at h; rfl
    · cases T <;> simp only [Bool.false_eq_true] at h; rfl
    · rename_i fs ht
      simp only [Bool.and_eq_true] at h
      have main : ∀ (l : List Field) (T : DTy) (o : Nat), eqFs P (eqT P d) l T o = true → plainD T = true := by
        intro l
        induction l with
        | nil => intro T o h; cases T <;> simp [eqFs] at h; rfl
        | cons f fs ih =>
          intro T o h
          cases T with
          | cons a b =>
            simp only [eqFs, Bool.and_eq_true] at h
            simp only [plainD, Bool.and_eq_true]
            exact ⟨eqT_plain d _ _ h.1.2, ih _ _ h.2⟩
          | _ => simp [eqFs] at h
      exact main _ _ _ h.2
    · cases h

theorem bytes_eq {a b : ByteArray} (h : (a.toList == b.toList) = true) : a = b := by
  have h := eq_of_beq h
  rw [ByteArray.toList_eq, ByteArray.toList_eq] at h
  cases a; cases b
  congr 1
  exact Array.toList_inj.1 h
theorem eqD_eq {imm : Nat → Option (List Value)} : {T : DTy} → plainD T = true → {x y : T.El} → eqD T x y = true → {cs ds : List Value} → RD imm T x cs → RD imm T y ds → cs = ds ∧ ∀ c ∈ cs, Instr.sameBits 9999 c c = true
  | .int k, _, x, y, h, cs, ds, hc, hd => by
    have hc : cs = [.int k x] := hc
    have hd : ds = [.int k y] := hd
    have : x = y := eq_of_beq (α := Int) h
    subst hc; subst hd; subst this
    simp [Instr.sameBits]
  | .bool, _, x, y, h, cs, ds, hc, hd => by
    have hc : cs = [.bool x] := hc
    have hd : ds = [.bool y] := hd
    have : x = y := eq_of_beq (α := Bool) h
    subst hc; subst hd; subst this
    simp [Instr.sameBits]
  | .str, _, x, y, h, cs, ds, hc, hd => by
    have hc : cs = [.string x] := hc
    have hd : ds = [.string y] := hd
    have : x = y := bytes_eq h
    subst hc; subst hd; subst this
    simp [Instr.sameBits]
    rw [beq_toListBytes]; simp
  | .nil, _, x, y, h, cs, ds, hc, hd => by
    have hc : cs = [] := hc
    have hd : ds = [] := hd
    subst hc; subst hd; simp
  | .cons a b, hp, x, y, h, cs, ds, hc, hd => by
    simp only [plainD, Bool.and_eq_true] at hp
    simp only [eqD, Bool.and_eq_true] at h
    obtain ⟨c1, c2, rfl, k1, k2⟩ := hc
    obtain ⟨d1, d2, rfl, l1, l2⟩ := hd
    obtain ⟨rfl, s1⟩ := eqD_eq hp.1 h.1 k1 l1
    obtain ⟨rfl, s2⟩ := eqD_eq hp.2 h.2 k2 l2
    refine ⟨rfl, fun c hc => ?_⟩
    rcases List.mem_append.1 hc with hc | hc
    · exact s1 c hc
    · exact s2 c hc
  | .list _, hp, _, _, _, _, _, _, _ | .arr _ _, hp, _, _, _, _, _, _, _ => by simp [plainD] at hp

theorem zip_self {l : List Value} (h : ∀ c ∈ l, Instr.sameBits 9999 c c = true) : ((l.zip l).all fun (x, y) => Instr.sameBits 9999 x y) = true := by
  induction l with
  | nil => rfl
  | cons a l ih =>
    simp only [List.zip_cons_cons, List.all_cons, Bool.and_eq_true]
    exact ⟨h a (by simp), ih fun c hc => h c (by simp [hc])⟩
theorem same_bits {P : Program} {imm : Nat → Option (List Value)} {d : Nat} {t : TypeId} {K : DTy} (hq : eqT P d t K = true) {x y : K.El} (h : eqD K x y = true) {v u : Value} (hv : VD imm K x v) (hu : VD imm K y u) : Instr.sameBits 10000 u v = true := by
  obtain ⟨cs, h1, h2⟩ := hv
  obtain ⟨ds, g1, g2⟩ := hu
  obtain ⟨rfl, hs⟩ := eqD_eq (eqT_plain _ _ _ hq) h h1 g1
  rcases h2 with ⟨a1, a2⟩ | ⟨a1, a2⟩ <;> rcases g2 with ⟨b1, b2⟩ | ⟨b1, b2⟩
  · rw [a2, b2]
    show Instr.sameBits (9999 + 1) _ _ = true
    simp only [Instr.sameBits, beq_self_eq_true, Bool.true_and]
    exact zip_self hs
  · rw [a1] at b1; cases b1
  · rw [a1] at b1; cases b1
  · rw [a2] at b2
    simp only [List.cons.injEq, and_true] at b2
    subst b2
    have := hs v (by rw [a2]; simp)
    cases v <;> first | (simp [Instr.sameBits] at this ⊢; try exact this) | skip
    all_goals (rw [a2] at h1; cases K <;> first | exact absurd rfl (by simpa using a1) | skip)
    all_goals first | (have h1 : [_] = [_] := h1; simp at h1) | (obtain ⟨_, _, e, _⟩ := h1; simp at e) | skip
    all_goals simp [DTy.agg] at a1

theorem RE_modify {imm : Nat → Option (List Value)} {K V : DTy} {k : K.El} {v : V.El} {kv vv : Value} (h1 : VD imm K k kv) (h2 : VD imm V v vv) (f : MapEntry → MapEntry) (hf : ∀ e, (f e).key = kv ∧ (f e).val = vv) : {xs : List (K.El × V.El)} → {es : List MapEntry} → RE imm K V xs es → {i : Nat} → RE imm K V (xs.set i (k, v)) (es.modify i f)
  | [], es, h, i => by
    have h : es = [] := h
    subst h; simp; rfl
  | x :: xs, es, h, i => by
    obtain ⟨a, l, rfl, g1, g2, g3⟩ := h
    cases i with
    | zero => exact ⟨f a, l, by simp, by rw [(hf a).1]; exact h1, by rw [(hf a).2]; exact h2, g3⟩
    | succ i => exact ⟨a, l.modify i f, by simp, g1, g2, RE_modify h1 h2 f hf g3⟩

theorem updateA_sound {P : Program} {o : Oper} {ρ : Operand → AVal} {t : TypeId} {m i x : Operand} {B B' : Bx} (ho : o.op = .mapUpdate t m i x) (h : updateA P t (ρ m) (ρ i) (ρ x) B = some B') : OpD P o ρ B .any B' := by
  intro G a w ha hw next Q hn
  have hmv := ha m (by rw [ho]; simp [Op.operands])
  have hiv := ha i (by rw [ho]; simp [Op.operands])
  have hxv := ha x (by rw [ho]; simp [Op.operands])
  unfold updateA at h
  split at h
  · rename_i b K V xs hm
    split at h
    · rename_i kt vt ht
      split at h
      · rename_i kd vd hk hv
        cases hb : eqT P 100 kt K && (ρ i).plain && (ρ x).plain with
        | false => rw [hb] at h; cases h
        | true =>
          rw [hb] at h
          simp only [cond_true, Option.some.injEq] at h
          subst h
          simp only [Bool.and_eq_true] at hb
          obtain ⟨blk, es, clock, e1, haddr, hbox, e2, hre⟩ := map_obj hw hm hmv
          have hkd := data_v hk hiv
          have hvd := data_v hv hxv
          have hck := check_key (w := w) false 100 10000 (by omega) kt K hb.1.1 kd _ hkd
          have hfk := find_key (w := w) (by omega) hb.1.1 hkd hre
          have hgo : (getObj blk).run P w = .ok (.map es clock) w := by simp [getObj, Sem.run, e2]
          have hset : ∀ es' c', (setObj blk (.map es' c')).run P w = .ok () (putO w blk (.map es' c')) := fun es' c' => by simp [setObj, Sem.run, e2, putO]
          have fin : ∀ (es' : Array MapEntry) (c' : Nat), RE G.imm K V (putD K kd vd xs) es'.toList → (Instr.mapUpdate t (a.eval m) (a.eval i) (a.eval x)).run P w = .ok () (putO w blk (.map es' c')) → ∀ r, o.wpIn (Fr r) 0 P a w next Q := fun es' c' hre' hr => by
            obtain ⟨g1, g2⟩ := upd_obj (c' := .mobj K V (putD K kd vd xs)) (o' := .map es' c') hw haddr hbox e2 ⟨es', c', rfl, rfl⟩ (RE_RM hre')
            have hrun : (execOp a.eval o).run P w = .ok .skip (putO w blk (.map es' c')) := by
              simp only [execOp, ho, Sem.run_bind, hr, Result.andThen_ok]; rfl
            exact wp_of_skip hrun (hn undef G _ (any_v _) g1 (GLe.refl _ _) g2)
          have start : (Instr.mapUpdate t (a.eval m) (a.eval i) (a.eval x)).run P w = (match (match posD K kd xs with | some j => (es.toList[j]?).map (fun (e : MapEntry) => (j, e.val)) | none => none) with
              | some (j, _) => do
                let key ← Instr.keyThatStays (((es[j]?).map (fun (e : MapEntry) => e.key)).getD (a.eval i)) (a.eval i)
                setObj blk (.map (es.modify j fun e => { e with key, val := a.eval x }) clock)
              | none => setObj blk (.map (es.push { key := a.eval i, val := a.eval x, born := clock }) (clock + 1)) : Sem Unit).run P w := by
            unfold Instr.mapUpdate
            rw [Sem.run_bind, run_underlying' ht, Result.andThen_ok, e1]
            simp only [Sem.run_bind, hgo, Result.andThen_ok, hck, hfk]
            rfl
          cases hp : posD K kd xs with
          | none =>
            rw [hp] at start
            refine fin (es.push { key := a.eval i, val := a.eval x, born := clock }) (clock + 1) ?_ (start.trans (hset _ _))
            rw [putD_len hp, Array.toList_push]
            exact RE_append hkd hvd hre
          | some j =>
            obtain ⟨y, hy, hyk⟩ := posD_at hp
            obtain ⟨e, he, hke, hve⟩ := RE_get hre hy
            rw [hp] at start
            simp only [he, Option.map_some] at start
            have he' : es[j]? = some e := by simpa using he
            have hks : (Instr.keyThatStays (((es[j]?).map (fun (e : MapEntry) => e.key)).getD (a.eval i)) (a.eval i)).run P w = .ok (a.eval i) w := by
              unfold Instr.keyThatStays
              rw [he', Option.map_some, Option.getD_some, same_bits hb.1.1 hyk hkd hke]
              rfl
            refine fin (es.modify j fun e => { e with key := a.eval i, val := a.eval x }) clock ?_ (start.trans ?_)
            · rw [putD_set hp, Array.toList_modify]
              exact RE_modify hkd hvd _ (fun e => ⟨rfl, rfl⟩) hre
            · rw [Sem.run_bind, hks, Result.andThen_ok, hset]
      · cases h
    · cases h
  · cases h

end Go.Proofs.YtbidmbjkjpdgdaaDoor.Abs
