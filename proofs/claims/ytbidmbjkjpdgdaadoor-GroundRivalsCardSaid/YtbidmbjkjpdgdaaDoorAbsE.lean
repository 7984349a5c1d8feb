/-
  The abstract semantics, between the thirteenth and the fourteenth part: whether structs are the same.
-/
import Derived.Test.YtbidmbjkjpdgdaaDoorAbs13
import Derived.Laws.StructEq
set_option linter.unusedVariables false
set_option linter.unusedSimpArgs false
namespace Go.Proofs.YtbidmbjkjpdgdaaDoor.Abs

def eqD : (T : DTy) → T.El → T.El → Bool
  | .int _, a, b => (a : Int) == b
  | .bool, a, b => (a : Bool) == b
  | .str, a, b => (ByteArray.toList a) == ByteArray.toList b
  | .cons h t, x, y => eqD h x.1 y.1 && eqD t x.2 y.2
  | .nil, _, _ => true
  | .list _, _, _ => true
  | .arr _ _, _, _ => true

def fitD (P : Program) (t : TypeId) (T : DTy) : Bool :=
  match P.info? t, aggT P t with
  | some i, some b => i.size == T.sz && b == T.agg
  | _, _ => false
theorem fitD_spec {P : Program} {t : TypeId} {T : DTy} (h : fitD P t T = true) : ∃ i, P.info? t = some i ∧ i.size = T.sz ∧ aggT P t = some T.agg := by
  unfold fitD at h
  split at h
  · rename_i i b h1 h2
    simp only [Bool.and_eq_true, beq_iff_eq] at h
    exact ⟨i, h1, h.1, by rw [h2, h.2]⟩
  · cases h

def eqFs (P : Program) (rec : TypeId → DTy → Bool) : List Field → DTy → Nat → Bool
  | [], .nil, _ => true
  | f :: fs, .cons h t, o => decide (f.name ≠ "_") && f.offset == o && fitD P f.type h && rec f.type h && eqFs P rec fs t (o + h.sz)
  | _, _, _ => false
def eqT (P : Program) : Nat → TypeId → DTy → Bool
  | 0, _, _ => false
  | d + 1, t, T => match P.underlying t with
    | some .bool => match T with
      | .bool => true
      | _ => false
    | some (.int _) => match T with
      | .int _ => true
      | _ => false
    | some .string => match T with
      | .str => true
      | _ => false
    | some (.struct fs) => !P.stoodInHeld t && T.agg && eqFs P (eqT P d) fs.toList T 0
    | _ => false

theorem run_partD {P : Program} {t : TypeId} {T : DTy} (h : fitD P t T = true) {imm : Nat → Option (List Value)} {x : T.El} {cs : List Value} (o : Nat) (hle : o + T.sz ≤ cs.length) (hr : RD imm T x ((cs.drop o).take T.sz)) (w : World) :
    ∃ v, (part t cs.toArray o).run P w = .ok v w ∧ VD imm T x v := by
  obtain ⟨i, hi, hsz, hag⟩ := fitD_spec h
  unfold part
  rw [Sem.run_bind, run_isAgg' hag]
  simp only [Result.andThen_ok]
  cases hT : T.agg with
  | true =>
    refine ⟨.agg ((cs.drop o).take T.sz).toArray, ?_, _, hr, .inl ⟨hT, rfl⟩⟩
    simp only [if_true, Sem.run_bind, run_sizeOf' hi, Sem.run_pure, Result.andThen_ok]
    congr 2
    apply Array.ext'
    simp [List.extract_eq_take_drop, hsz]
  | false =>
    have h1 : T.sz = 1 := by cases T <;> simp [DTy.agg] at hT <;> rfl
    have hlt : o < cs.length := by omega
    have hone : (cs.drop o).take T.sz = [cs[o]] := by
      rw [h1, List.drop_eq_getElem_cons hlt]; rfl
    rw [hone] at hr
    refine ⟨cs[o], ?_, _, hr, .inr ⟨hT, rfl⟩⟩
    simp [hlt]

theorem eqFs_run {P : Program} {imm : Nat → Option (List Value)} {D : Nat} {rec : TypeId → DTy → Bool} {w : World}
    (ih : ∀ t T, rec t T = true → ∀ (x y : T.El) (v u : Value), VD imm T x v → VD imm T y u → (Op.equalIn D t v u).run P w = .ok (eqD T x y) w) :
    (fs : List Field) → (T : DTy) → (o : Nat) → eqFs P rec fs T o = true → (x y : T.El) → (cs ds : List Value) → o + T.sz ≤ cs.length → o + T.sz ≤ ds.length → RD imm T x ((cs.drop o).take T.sz) → RD imm T y ((ds.drop o).take T.sz) →
      (Op.eqFields D cs.toArray ds.toArray fs).run P w = .ok (eqD T x y) w
  | [], .nil, o, _, x, y, cs, ds, _, _, _, _ => rfl
  | f :: fs, .cons h t, o, hq, x, y, cs, ds, l1, l2, r1, r2 => by
    simp only [eqFs, Bool.and_eq_true, beq_iff_eq, decide_eq_true_eq] at hq
    obtain ⟨⟨⟨⟨hn, rfl⟩, hf⟩, hrec⟩, hrest⟩ := hq
    have split : ∀ (cs : List Value) (z : (DTy.cons h t).El), f.offset + (DTy.cons h t).sz ≤ cs.length → RD imm (.cons h t) z ((cs.drop f.offset).take (DTy.cons h t).sz) →
        (f.offset + h.sz ≤ cs.length ∧ RD imm h z.1 ((cs.drop f.offset).take h.sz)) ∧ (f.offset + h.sz + t.sz ≤ cs.length ∧ RD imm t z.2 ((cs.drop (f.offset + h.sz)).take t.sz)) := fun cs z hl hr => by
      obtain ⟨c1, c2, e, k1, k2⟩ := hr
      have g1 := RD.len k1
      have g2 := RD.len k2
      have hs : (DTy.cons h t).sz = h.sz + t.sz := rfl
      rw [hs] at e hl
      have e1 : (cs.drop f.offset).take h.sz = c1 := by
        have := congrArg (List.take h.sz) e
        rw [List.take_take, Nat.min_eq_left (by omega), ← g1, List.take_left'] at this
        · rw [← g1]; exact this
        · rfl
      have e2 : (cs.drop (f.offset + h.sz)).take t.sz = c2 := by
        have := congrArg (List.drop h.sz) e
        rw [List.drop_take, List.drop_drop, Nat.add_sub_cancel_left, ← g1, List.drop_left'] at this
        · rw [← g1]; exact this
        · rfl
      exact ⟨⟨by omega, by rw [e1]; exact k1⟩, ⟨by omega, by rw [e2]; exact k2⟩⟩
    obtain ⟨⟨a1, a2⟩, a3, a4⟩ := split cs x l1 r1
    obtain ⟨⟨b1, b2⟩, b3, b4⟩ := split ds y l2 r2
    obtain ⟨v, hv, vd⟩ := run_partD hf (o := f.offset) a1 a2 w
    obtain ⟨u, hu, ud⟩ := run_partD hf (o := f.offset) b1 b2 w
    have he := ih _ _ hrec x.1 y.1 v u vd ud
    simp only [Op.eqFields]
    rw [if_pos hn]
    simp only [Sem.run_bind, hv, hu, he, Result.andThen_ok]
    cases hb : eqD h x.1 y.1 with
    | false =>
      simp only [Bool.not_false, if_true, Sem.run_pure, eqD, hb, Bool.false_and]
    | true =>
      simp only [Bool.not_true, Bool.false_eq_true, if_false]
      rw [eqFs_run ih fs t (f.offset + h.sz) hrest x.2 y.2 cs ds a3 b3 a4 b4]
      simp only [eqD, hb, Bool.true_and]
  | [], .int _, _, h, _, _, _, _, _, _, _, _ | [], .bool, _, h, _, _, _, _, _, _, _, _ | [], .str, _, h, _, _, _, _, _, _, _, _ | [], .list _, _, h, _, _, _, _, _, _, _, _ | [], .cons _ _, _, h, _, _, _, _, _, _, _, _ | [], .arr _ _, _, h, _, _, _, _, _, _, _, _ => by simp [eqFs] at h
  | _ :: _, .int _, _, h, _, _, _, _, _, _, _, _ | _ :: _, .bool, _, h, _, _, _, _, _, _, _, _ | _ :: _, .str, _, h, _, _, _, _, _, _, _, _ | _ :: _, .list _, _, h, _, _, _, _, _, _, _, _ | _ :: _, .nil, _, h, _, _, _, _, _, _, _, _ | _ :: _, .arr _ _, _, h, _, _, _, _, _, _, _, _ => by simp [eqFs] at h

theorem VD.leaf {imm : Nat → Option (List Value)} {T : DTy} {x : T.El} {v u : Value} (hT : T.agg = false) (h : VD imm T x v) (hr : ∀ cs, RD imm T x cs → cs = [u]) : v = u := by
  obtain ⟨cs, hc, h | h⟩ := h
  · rw [hT] at h; cases h.1
  · have := hr cs hc
    rw [h.2] at this
    simpa using this

theorem eqT_run {P : Program} {imm : Nat → Option (List Value)} {w : World} : (d D : Nat) → d ≤ D → (t : TypeId) → (T : DTy) → eqT P d t T = true → (x y : T.El) → (v u : Value) → VD imm T x v → VD imm T y u → (Op.equalIn D t v u).run P w = .ok (eqD T x y) w
  | 0, _, _, _, _, h, _, _, _, _, _, _ => by simp [eqT] at h
  | d + 1, 0, hd, _, _, _, _, _, _, _, _, _ => by omega
  | d + 1, D + 1, hd, t, T, h, x, y, v, u, hv, hu => by
    simp only [eqT] at h
    split at h
    · rename_i ht
      cases T <;> simp only [Bool.false_eq_true] at h
      have e1 := VD.leaf (u := .bool x) rfl hv (fun cs hc => hc)
      have e2 := VD.leaf (u := .bool y) rfl hu (fun cs hc => hc)
      subst e1; subst e2
      exact run_equalIn_bool' w D t x y ht
    · rename_i k ht
      cases T <;> simp only [Bool.false_eq_true] at h
      rename_i k'
      have e1 := VD.leaf (u := .int k' x) rfl hv (fun cs hc => hc)
      have e2 := VD.leaf (u := .int k' y) rfl hu (fun cs hc => hc)
      subst e1; subst e2
      exact run_equalIn_int w D t _ _ x y ht
    · rename_i ht
      cases T <;> simp only [Bool.false_eq_true] at h
      have e1 := VD.leaf (u := .string x) rfl hv (fun cs hc => hc)
      have e2 := VD.leaf (u := .string y) rfl hu (fun cs hc => hc)
      subst e1; subst e2
      exact run_equalIn_string w D t x y ht
    · rename_i fs ht
      simp only [Bool.and_eq_true, Bool.not_eq_true'] at h
      obtain ⟨⟨hs, hT⟩, hf⟩ := h
      obtain ⟨cs, hc, hcv | hcv⟩ := hv
      · obtain ⟨ds, hd', hdv | hdv⟩ := hu
        · rw [hcv.2, hdv.2]
          have hfo : P.fieldsOf t = fs := by unfold Program.fieldsOf; rw [ht]
          rw [run_equalIn_struct w D t _ _ (by rw [hfo]; exact ht) hs, hfo]
          have g1 := RD.len hc
          have g2 := RD.len hd'
          exact eqFs_run (fun t T hq x y v u hv hu => eqT_run d D (by omega) t T hq x y v u hv hu) fs.toList T 0 hf x y cs ds (by omega) (by omega) (by rw [List.drop_zero, List.take_of_length_le (by omega)]; exact hc) (by rw [List.drop_zero, List.take_of_length_le (by omega)]; exact hd')
        · rw [hT] at hdv; cases hdv.1
      · rw [hT] at hcv; cases hcv.1
    · cases h

/-- The data of which a value consists. -/
def tyOf : AVal → Option DTy
  | .d T _ => some T
  | .nil => some .nil
  | .cons a b => match tyOf a, tyOf b with
    | some h, some t => some (.cons h t)
    | _, _ => none
  | _ => none

def eqA (P : Program) (t : TypeId) (x y : AVal) : Option Bool :=
  bif x.agg && y.agg then match tyOf x with
    | some T => match asData x T, asData y T with
      | some a, some b => bif eqT P 100 t T && !P.eqGuardType P.depth t then some (eqD T a b) else none
      | _, _ => none
    | none => none
  else none

theorem asData_agg {a : AVal} {T : DTy} {x : T.El} (h : asData a T = some x) : T.agg = a.agg := by
  cases a with
  | d T' y =>
    simp only [asData] at h
    split at h
    · rename_i hT; subst hT; rfl
    · cases h
  | nil =>
    cases T with
    | nil => rfl
    | arr n e => rfl
    | _ => simp [asData] at h
  | cons a b => cases T <;> first | rfl | simp [asData] at h
  | own t T' xs => cases T <;> first | rfl | simp [asData] at h
  | snil => cases T <;> first | rfl | simp [asData] at h
  | _ => simp [asData] at h

theorem eqA_run {P : Program} {t : TypeId} {x y : AVal} {b : Bool} (h : eqA P t x y = some b) {G : Gh} {dead : List Nat} {v u : Value} (hv : Rv G dead x v) (hu : Rv G dead y u) (op : BinOp) (xo yo : Operand) (w : World) :
    (eqGuard op t xo yo v u).run P w = .ok () w ∧ (binOp .eql t v u).run P w = .ok (.bool b) w ∧ (binOp .neq t v u).run P w = .ok (.bool (!b)) w := by
  unfold eqA at h
  cases hb : x.agg && y.agg with
  | false => rw [hb] at h; cases h
  | true =>
    rw [hb] at h
    simp only [cond_true] at h
    simp only [Bool.and_eq_true] at hb
    split at h
    · rename_i T hT
      split at h
      · rename_i a c ha hc
        cases hq : eqT P 100 t T && !P.eqGuardType P.depth t with
        | false => rw [hq] at h; cases h
        | true =>
          rw [hq] at h
          simp only [cond_true, Option.some.injEq] at h
          subst h
          simp only [Bool.and_eq_true, Bool.not_eq_true'] at hq
          have conv : ∀ {z : AVal} {e : T.El} {s : Value}, asData z T = some e → z.agg = true → Rv G dead z s → VD G.imm T e s ∧ ∃ cs : List Value, s = .agg cs.toArray := fun {z e s} hz hag hs => by
            obtain ⟨cs, hcs, hh | hh⟩ := hs
            · have hTa : T.agg = true := by rw [asData_agg hz]; exact hag
              exact ⟨⟨cs, asData_spec hz cs hcs, .inl ⟨hTa, hh.2⟩⟩, cs, hh.2⟩
            · rw [hag] at hh; cases hh.1
          obtain ⟨v1, c1, rfl⟩ := conv ha hb.1 hv
          obtain ⟨v2, c2, rfl⟩ := conv hc hb.2 hu
          have hr := eqT_run (w := w) 100 10000 (by omega) t T hq.1 a c _ _ v1 v2
          exact ⟨run_eqGuard_agg w op t xo yo _ _ hq.2, by rw [run_eql_struct, hr]; rfl, by rw [run_neq_struct, hr]; rfl⟩
      · cases h
    · cases h

theorem eqA_sound {P : Program} {o : Oper} {ρ : Operand → AVal} {op : BinOp} {t t' : TypeId} {x y : Operand} {b : Bool} (ho : o.op = .binOp op t x y t') (hop : op = .eql ∨ op = .neq) (h : eqA P t (ρ x) (ρ y) = some b) (B : Bx) :
    OpD P o ρ B (.d .bool (if op = .eql then b else !b)) B := by
  refine OpD.value (fun G dead a ha => ?_) B
  have hx := ha x (by rw [ho]; simp [Op.operands])
  have hy := ha y (by rw [ho]; simp [Op.operands])
  refine ⟨.bool (if op = .eql then b else !b), fun w => ?_, leaf_v rfl rfl⟩
  obtain ⟨g1, g2, g3⟩ := eqA_run h hx hy op x y w
  rcases hop with rfl | rfl
  · simp only [execOp, ho, Sem.run_bind, g1, Result.andThen_ok, g2]; rfl
  · simp only [execOp, ho, Sem.run_bind, g1, Result.andThen_ok, g3]; rfl

end Go.Proofs.YtbidmbjkjpdgdaaDoor.Abs
