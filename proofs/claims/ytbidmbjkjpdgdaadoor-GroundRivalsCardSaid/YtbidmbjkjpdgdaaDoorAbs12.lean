/-
  The abstract semantics, twelfth part: division, shifts, lengths, elements of values, slices of slices and of strings.
-/
import Derived.Test.YtbidmbjkjpdgdaaDoorAbs11
set_option linter.unusedVariables false
set_option linter.unusedSimpArgs false
namespace Go.Proofs.YtbidmbjkjpdgdaaDoor.Abs

/-- Quotient, remainder, shifts: under which condition, and what. -/
def divA (op : BinOp) (x y : AVal) : Option (Bool × AVal) :=
  match x, y with
  | .d (.int k) a, .d (.int k2) b => match op with
    | .quo => bif k == k2 then some (!decide (b = 0), .d (.int k) (k.wrap (Int.tdiv a b))) else none
    | .rem => bif k == k2 then some (!decide (b = 0), .d (.int k) (Int.tmod a b)) else none
    | .shl => some (!decide (b < 0), .d (.int k) (k.wrap (a * 2 ^ (min b.toNat k.bits))))
    | .shr => some (!decide (b < 0), .d (.int k) (Int.fdiv a (2 ^ (min b.toNat k.bits))))
    | _ => none
  | _, _ => none

theorem run_eqGuard_arith {P : Program} {op : BinOp} {t : TypeId} {x y : Operand} {a b : Value} (h : (op matches .eql | .neq) = false) (w : World) : (eqGuard op t x y a b).run P w = .ok () w := by
  unfold eqGuard
  cases op <;> first | rfl | cases h

theorem divA_sound {P : Program} {o : Oper} {ρ : Operand → AVal} {v : AVal} {op : BinOp} {t yt : TypeId} {x y : Operand} (ho : o.op = .binOp op t x y yt) (h : divA op (ρ x) (ρ y) = some (true, v)) (B : Bx) : OpD P o ρ B v B := by
  refine OpD.value (fun G dead a ha => ?_) B
  have hx := ha x (by rw [ho]; simp [Op.operands])
  have hy := ha y (by rw [ho]; simp [Op.operands])
  unfold divA at h
  split at h
  · rename_i k n k2 m h1 h2
    rw [h1] at hx; rw [h2] at hy
    have e1 := int_form hx
    have e2 := int_form hy
    split at h
    · cases hk : k == k2 with
      | false => rw [hk] at h; cases h
      | true =>
        simp only [hk, cond_true, Option.some.injEq, Prod.mk.injEq, Bool.not_eq_true', decide_eq_false_iff_not] at h
        obtain ⟨h0, rfl⟩ := h
        have hk' : k = k2 := by simpa using hk
        subst hk'
        refine ⟨.int k (k.wrap (Int.tdiv n m)), fun w => ?_, leaf_v rfl rfl⟩
        have h0' : ¬ (m : Int) = 0 := h0
        simp only [execOp, ho, e1, e2, Sem.run_bind, (run_eqGuard_arith (op := .quo) rfl), Result.andThen_ok]
        simp only [binOp, Op.intDiv, if_neg h0', ne_eq, not_true_eq_false, if_false]
        rfl
    · cases hk : k == k2 with
      | false => rw [hk] at h; cases h
      | true =>
        simp only [hk, cond_true, Option.some.injEq, Prod.mk.injEq, Bool.not_eq_true', decide_eq_false_iff_not] at h
        obtain ⟨h0, rfl⟩ := h
        have hk' : k = k2 := by simpa using hk
        subst hk'
        refine ⟨.int k (Int.tmod n m), fun w => ?_, leaf_v rfl rfl⟩
        have h0' : ¬ (m : Int) = 0 := h0
        simp only [execOp, ho, e1, e2, Sem.run_bind, (run_eqGuard_arith (op := .rem) rfl), Result.andThen_ok]
        simp only [binOp, Op.intDiv, if_neg h0', ne_eq, not_true_eq_false, if_false]
        rfl
    · simp only [Option.some.injEq, Prod.mk.injEq, Bool.not_eq_true', decide_eq_false_iff_not] at h
      obtain ⟨h0, rfl⟩ := h
      refine ⟨.int k (k.wrap (n * 2 ^ (min (Int.toNat m) k.bits))), fun w => ?_, leaf_v rfl rfl⟩
      have h0' : ¬ (m : Int) < 0 := h0
      simp only [execOp, ho, e1, e2, Sem.run_bind, (run_eqGuard_arith (op := .shl) rfl), Result.andThen_ok]
      simp only [binOp, Op.shift, if_neg h0']
      rfl
    · simp only [Option.some.injEq, Prod.mk.injEq, Bool.not_eq_true', decide_eq_false_iff_not] at h
      obtain ⟨h0, rfl⟩ := h
      refine ⟨.int k (Int.fdiv n (2 ^ (min (Int.toNat m) k.bits))), fun w => ?_, leaf_v rfl rfl⟩
      have h0' : ¬ (m : Int) < 0 := h0
      simp only [execOp, ho, e1, e2, Sem.run_bind, (run_eqGuard_arith (op := .shr) rfl), Result.andThen_ok]
      simp only [binOp, Op.shift, if_neg h0']
      rfl
    · cases h
  · cases h

/-- Two texts put together. -/
def catA (x y : AVal) : Option (Bool × AVal) :=
  match x, y with
  | .d .str a, .d .str b => some (decide (ByteArray.size a + ByteArray.size b ≤ LIM), .d .str (ByteArray.append a b))
  | _, _ => none
theorem catA_sound {P : Program} {o : Oper} {ρ : Operand → AVal} {v : AVal} {t yt : TypeId} {x y : Operand} (ho : o.op = .binOp .add t x y yt) (h : catA (ρ x) (ρ y) = some (true, v)) (B : Bx) : OpD P o ρ B v B := by
  refine OpD.value (fun G dead a ha => ?_) B
  have hx := ha x (by rw [ho]; simp [Op.operands])
  have hy := ha y (by rw [ho]; simp [Op.operands])
  unfold catA at h
  split at h
  · rename_i n m h1 h2
    rw [h1] at hx; rw [h2] at hy
    have e1 := str_form hx
    have e2 := str_form hy
    simp only [Option.some.injEq, Prod.mk.injEq, decide_eq_true_eq] at h
    obtain ⟨h0, rfl⟩ := h
    refine ⟨.string (ByteArray.append n m), fun w => ?_, leaf_v rfl rfl⟩
    have h0' : ByteArray.size n + ByteArray.size m ≤ 2 ^ 36 := h0
    have hlt : ¬ (((ByteArray.size n + ByteArray.size m : Nat) : Int) > IntKind.i64.max) := by
      have : IntKind.i64.max = 9223372036854775807 := by rfl
      omega
    simp only [execOp, ho, e1, e2, Sem.run_bind, (run_eqGuard_arith (op := .add) rfl), Result.andThen_ok]
    simp only [binOp, Op.stringOp, if_neg hlt]
    rfl
  · cases h

/-! ### Elements of values -/
def bt (s : ByteArray) (i : Int) : Int := ((s.data.getD i.toNat 0).toNat : Int)

def idxL (i : Int) (k : AVal → Option (Option AVal)) : Nat → List AVal → Option (Option AVal)
  | _, [] => none
  | j, c :: cs => bif decide (i = (j : Int)) then k c else idxL i k (j + 1) cs

/-- The element of a value: a condition, and the element. -/
def indexA (P : Program) (t : TypeId) (x ix : AVal) : Option (Bool × AVal) :=
  match ix with
  | .d (.int _) i =>
    match P.underlying t with
    | some .string => match x with
      | .d .str s => some (decide (0 ≤ i) && decide (i < (ByteArray.size s : Int)), .d (.int .u8) (bt s i))
      | _ => none
    | some (.array m e) => match x with
      | .d (.arr m' T) xs => bif m == m' && fitT P e (.d T T.dflt) then some (decide (0 ≤ i) && decide (i < (m : Int)), .d T (xs.getD i.toNat T.dflt)) else none
      | _ => none
    | _ => none
  | _ => none

theorem indexA_sound {P : Program} {o : Oper} {ρ : Operand → AVal} {v : AVal} {t : TypeId} {x ix : Operand} (ho : o.op = .index t x ix) (h : indexA P t (ρ x) (ρ ix) = some (true, v)) (B : Bx) : OpD P o ρ B v B := by
  refine OpD.value (fun G dead a ha => ?_) B
  have hx := ha x (by rw [ho]; simp [Op.operands])
  have hix := ha ix (by rw [ho]; simp [Op.operands])
  unfold indexA at h
  split at h
  · rename_i k i hi
    rw [hi] at hix
    have e2 := int_form hix
    split at h
    · rename_i hu
      split at h
      · rename_i s hs
        rw [hs] at hx
        have e1 := str_form hx
        simp only [Option.some.injEq, Prod.mk.injEq, Bool.and_eq_true, decide_eq_true_eq] at h
        obtain ⟨⟨h0, h1⟩, rfl⟩ := h
        have hlt : Int.toNat i < ByteArray.size s := toNat_lt' h0 h1
        have hb : s[Int.toNat i]? = some (s[Int.toNat i]'hlt) := getElem?_pos s _ hlt
        refine ⟨.int .u8 (bt s i), fun w => ?_, leaf_v rfl rfl⟩
        simp only [execOp, ho, e1, e2, Sem.run_bind]
        unfold Instr.index
        have h0' : (0 : Int) ≤ i := h0
        simp only [asIntOf, Sem.run_bind, Sem.run_pure, Result.andThen_ok, run_underlying' hu, if_pos h0', hb]
        have : bt s i = ((s[Int.toNat i]'hlt).toNat : Int) := by
          unfold bt
          have hd : Int.toNat i < s.data.size := hlt
          rw [Array.getD_eq_getD_getElem?, Array.getElem?_eq_getElem hd]
          rfl
        rw [this]
      · cases h
    · rename_i m e hu
      split at h
      · rename_i m' T xs hs
        rw [hs] at hx
        cases hb : m == m' && fitT P e (.d T T.dflt) with
        | false => rw [hb] at h; cases h
        | true =>
          simp only [hb, cond_true, Option.some.injEq, Prod.mk.injEq, Bool.and_eq_true, decide_eq_true_eq] at h
          obtain ⟨⟨h0, h1⟩, rfl⟩ := h
          simp only [Bool.and_eq_true, beq_iff_eq] at hb
          obtain ⟨rfl, hf⟩ := hb
          obtain ⟨ti, hti, hsz, hag⟩ := fitT_spec hf
          obtain ⟨cs, hc, hv | hv⟩ := hx
          · obtain ⟨hxl, hcl, hxx⟩ := hc
            have hi1 : Int.toNat i < m := toNat_lt' h0 h1
            have hr := hxx (Int.toNat i) _ (getD_some (by rw [hxl]; exact hi1) (d := T.dflt))
            have hm := mul_room (s := T.sz) hi1
            have hl := RD.len hr
            have hrun : ∀ (v' : Value), (∀ w, (part e cs.toArray (Int.toNat i * ti.size)).run P w = .ok v' w) → ∀ w, (execOp a.eval o).run P w = .ok (.value v') w := by
              intro v' hp w
              have h0' : (0 : Int) ≤ i := h0
              have h1' : (i : Int) < (m : Int) := h1
              simp only [execOp, ho, hv.2, e2, Sem.run_bind]
              unfold Instr.index
              simp only [asIntOf, Sem.run_bind, Sem.run_pure, Result.andThen_ok, run_underlying' hu, run_sizeOf' hti, hp w]
              rw [if_pos ⟨h0', h1'⟩]
              simp only [Sem.run_bind, run_sizeOf' hti, Result.andThen_ok, hp w]
            have hsz' : ti.size = T.sz := hsz
            cases hag2 : T.agg with
            | true =>
              refine ⟨.agg ((cs.drop (Int.toNat i * T.sz)).take T.sz).toArray, hrun _ (fun w => ?_), agg_v hr hag2⟩
              have hag' : aggT P e = some true := by rw [hag]; exact congrArg some hag2
              unfold part
              rw [Sem.run_bind, run_isAgg' hag']
              simp only [Result.andThen_ok, if_true, Sem.run_bind, run_sizeOf' hti, Sem.run_pure]
              congr 2
              apply Array.ext'
              simp [List.extract_eq_take_drop, hsz']
            | false =>
              have h1s : T.sz = 1 := by cases T <;> simp [DTy.agg] at hag2 <;> rfl
              rw [h1s] at hr hm hl
              have hlt : Int.toNat i * 1 < cs.length := by rw [hcl, h1s]; omega
              have hone : (cs.drop (Int.toNat i * 1)).take 1 = [cs[Int.toNat i * 1]] := by
                rw [List.drop_eq_getElem_cons hlt]; rfl
              rw [hone] at hr
              refine ⟨cs[Int.toNat i * 1], hrun _ (fun w => ?_), leaf_v hag2 hr⟩
              have hag' : aggT P e = some false := by rw [hag]; exact congrArg some hag2
              unfold part
              rw [Sem.run_bind, run_isAgg' hag']
              simp only [Nat.mul_one] at hlt
              simp [hsz', h1s, hlt]
          · cases hv.1
      · cases h
    · cases h
  · cases h

/-! ### Lengths -/
def lenA (P : Program) (t : TypeId) (x : AVal) : Option AVal :=
  match P.underlying t with
  | some (.slice _) => match x with
    | .d (.list T) xs => some (.d (.int .i64) (List.length xs : Int))
    | .own _ T xs => some (.d (.int .i64) (xs.length : Int))
    | .snil => some (.d (.int .i64) (0 : Int))
    | _ => none
  | some .string => match x with
    | .d .str s => some (.d (.int .i64) (ByteArray.size s : Int))
    | _ => none
  | some (.array n _) => some (.d (.int .i64) (n : Int))
  | _ => none
theorem lenA_sound {P : Program} {o : Oper} {ρ : Operand → AVal} {v : AVal} {c : Call} {t : TypeId} {x : Operand} (ho : o.op = .call c) (hcal : c.callee = .builtin .len) (hargs : c.args = #[x]) (hty : c.argTypes = #[t]) (h : lenA P t (ρ x) = some v) (B : Bx) : OpD P o ρ B v B := by
  refine OpD.value (fun G dead a ha => ?_) B
  have hx := ha x (by rw [ho]; simp [Op.operands, Call.operands, hcal, hargs])
  have hrun : ∀ (v' : Value), (∀ w, (Builtin.len_ #[t] o.type #[a.eval x]).run P w = .ok v' w) → ∀ w, (execOp a.eval o).run P w = .ok (.value v') w := fun v' hv' w => by
    simp only [execOp, ho]
    unfold resolve
    simp only [hcal, hargs, Sem.run_bind, Sem.run_pure, Result.andThen_ok, invoke, builtin, hty]
    have : (#[x] : Array Operand).map a.eval = #[a.eval x] := by simp
    simp only [this, hv' w, Result.andThen_ok]
  unfold lenA at h
  split at h
  · rename_i e hu
    split at h
    · rename_i T xs hs
      rw [hs] at hx
      obtain ⟨A, cap, hv, _⟩ := list_form hx
      simp only [Option.some.injEq] at h
      subst h
      refine ⟨.int .i64 (List.length xs : Int), hrun _ (fun w => ?_), leaf_v rfl rfl⟩
      rw [hv]
      unfold Builtin.len_
      simp [run_underlying' hu, goInt]
    · rename_i tok T xs hs
      rw [hs] at hx
      obtain ⟨A, cap, hv, _⟩ := list_form (own_list hx)
      simp only [Option.some.injEq] at h
      subst h
      refine ⟨.int .i64 (List.length xs : Int), hrun _ (fun w => ?_), leaf_v rfl rfl⟩
      rw [hv]
      unfold Builtin.len_
      simp [run_underlying' hu, goInt]
    · rename_i hs
      rw [hs] at hx
      have hv : a.eval x = .slice none 0 0 := toV_eq (a := .snil) rfl hx
      simp only [Option.some.injEq] at h
      subst h
      refine ⟨.int .i64 0, hrun _ (fun w => ?_), leaf_v rfl rfl⟩
      rw [hv]
      unfold Builtin.len_
      simp [run_underlying' hu, goInt]
    · cases h
  · rename_i hu
    split at h
    · rename_i s hs
      rw [hs] at hx
      have hv := str_form hx
      simp only [Option.some.injEq] at h
      subst h
      refine ⟨.int .i64 (ByteArray.size s : Int), hrun _ (fun w => ?_), leaf_v rfl rfl⟩
      rw [hv]
      unfold Builtin.len_
      simp [run_underlying' hu, goInt]
    · cases h
  · rename_i n e hu
    simp only [Option.some.injEq] at h
    subst h
    refine ⟨.int .i64 (n : Int), hrun _ (fun w => ?_), leaf_v rfl rfl⟩
    unfold Builtin.len_
    simp [run_underlying' hu, goInt]
  · cases h

end Go.Proofs.YtbidmbjkjpdgdaaDoor.Abs
