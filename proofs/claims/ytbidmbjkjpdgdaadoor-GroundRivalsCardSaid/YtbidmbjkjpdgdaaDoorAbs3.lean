/-
  The abstract semantics, third part: operations that memory has no part in.
-/
import Derived.Test.YtbidmbjkjpdgdaaDoorAbs2
set_option linter.unusedVariables false
set_option linter.unusedSimpArgs false
namespace Go.Proofs.YtbidmbjkjpdgdaaDoor.Abs

def fldD : (T : DTy) → T.El → Nat → Option (Nat × AVal)
  | .cons h t, x, 0 => some (0, .d h x.1)
  | .cons h t, x, k + 1 => match fldD t x.2 k with
    | some (o, a) => some (h.sz + o, a)
    | none => none
  | _, _, _ => none

theorem fldD_spec {imm : Nat → Option (List Value)} : {T : DTy} → {x : T.El} → {k o : Nat} → {a : AVal} → fldD T x k = some (o, a) →
    ∃ T' x', a = .d T' x' ∧ ∀ cs, RD imm T x cs → o + T'.sz ≤ cs.length ∧ RD imm T' x' ((cs.drop o).take T'.sz)
  | .cons h t, x, 0, o, a, e => by
    simp only [fldD, Option.some.injEq, Prod.mk.injEq] at e
    obtain ⟨rfl, rfl⟩ := e
    refine ⟨h, x.1, rfl, fun cs hc => ?_⟩
    obtain ⟨c1, c2, rfl, h1, h2⟩ := hc
    have := RD.len h1
    simp [this.symm, h1]
  | .cons h t, x, k + 1, o, a, e => by
    simp only [fldD] at e
    split at e
    · rename_i o1 a1 h1
      simp only [Option.some.injEq, Prod.mk.injEq] at e
      obtain ⟨rfl, rfl⟩ := e
      obtain ⟨T', x', rfl, hs⟩ := fldD_spec (imm := imm) h1
      refine ⟨T', x', rfl, fun cs hc => ?_⟩
      obtain ⟨c1, c2, rfl, h1, h2⟩ := hc
      have hl := RD.len h1
      obtain ⟨hle, hr⟩ := hs c2 h2
      refine ⟨by simp; omega, ?_⟩
      rw [← hl, List.drop_append, List.drop_eq_nil_of_le (by omega)]
      simpa using hr
    · cases e
  | .int _, _, _, _, _, e | .bool, _, _, _, _, e | .str, _, _, _, _, e | .list _, _, _, _, _, e | .nil, _, _, _, _, e | .arr _ _, _, _, _, _, e => by simp [fldD] at e

theorem offP_snoc (p : List PStep) (s : PStep) : offP (p ++ [s]) = offP p + s.off := by
  induction p with
  | nil => simp [offP]
  | cons a p ih => simp only [List.cons_append, offP, ih]; omega
theorem okP_fld (p : List PStep) (k o : Nat) (h : okP p) : okP (p ++ [.fld k o]) := by
  induction p with
  | nil => trivial
  | cons a p ih =>
    cases a with
    | fld => exact ih h
    | ix => exact ⟨h.1, ih h.2⟩
theorem okP_ix (p : List PStep) (i s n : Nat) (hi : i < n) (h : okP p) : okP (p ++ [.ix i s n]) := by
  induction p with
  | nil => exact ⟨hi, trivial⟩
  | cons a p ih =>
    cases a with
    | fld => exact ih h
    | ix => exact ⟨h.1, ih h.2⟩
theorem addr_add (b o n : Nat) : (⟨b, o, none⟩ : Addr).add n = ⟨b, o + n, none⟩ := by
  unfold Addr.add
  split
  · subst_vars; rfl
  · rfl

theorem operands_mem {o : Oper} {x : Operand} (h : x ∈ o.op.operands.toList) : x ∈ o.op.operands := Array.mem_toList_iff.1 h

/-! ### Operations over scalars alone: carried out by the model itself -/
def scalV (ρ : Operand → AVal) (x : Operand) : Value := (toV (ρ x)).getD undef
def scalOk (ρ : Operand → AVal) (o : Oper) : Bool := o.op.operands.toList.all fun x => (toV (ρ x)).isSome
def noSel (o : Oper) : Bool := match o.op with | .select .. => false | _ => true
def scalA (P : Program) (o : Oper) (ρ : Operand → AVal) : Option AVal :=
  bif noSel o && scalOk ρ o then
    match pureRun P (execOp (scalV ρ) o) with
    | some (.value v) => some (constA v)
    | _ => none
  else none
theorem scalA_sound {P : Program} {o : Oper} {ρ : Operand → AVal} {v : AVal} (h : scalA P o ρ = some v) (B : Bx) : OpD P o ρ B v B := by
  unfold scalA at h
  cases hb : noSel o && scalOk ρ o with
  | false => simp [hb] at h
  | true =>
    simp only [hb, cond_true] at h
    split at h
    · rename_i cv hp
      simp only [Option.some.injEq] at h
      subst h
      simp only [Bool.and_eq_true] at hb
      refine OpD.value (fun G dead a ha => ⟨cv, fun w => ?_, constA_v cv⟩) B
      have hc : execOp a.eval o = execOp (scalV ρ) o := by
        refine execOp_congr o (fun cs b e => ?_) (fun x hx => ?_)
        · have := hb.1; unfold noSel at this; rw [e] at this; cases this
        · have hs := List.all_eq_true.1 hb.2 x (Array.mem_toList_iff.2 hx)
          obtain ⟨u, hu⟩ := Option.isSome_iff_exists.1 hs
          rw [scalV, hu]
          exact toV_eq hu (ha x hx)
      rw [hc]
      exact pureRun_run hp
    · cases h

/-! ### The others -/
theorem ptr_form {G : Gh} {dead : List Nat} {b : Nat} {p : List PStep} {v : Value} (h : Rv G dead (.bptr b p) v) : ∃ blk, G.addr[b]? = some blk ∧ okP p ∧ v = .pointer (some ⟨blk, offP p, none⟩) := by
  obtain ⟨cs, ⟨blk, hb, hp, rfl⟩, h | h⟩ := h
  · cases h.1
  · exact ⟨blk, hb, hp, by simpa using h.2.symm⟩
theorem iptr_form {G : Gh} {dead : List Nat} {T : DTy} {x : T.El} {v : Value} (h : Rv G dead (.iptr T x) v) : ∃ b off row, v = .pointer (some ⟨b, off, none⟩) ∧ G.imm b = some row ∧ off + T.sz ≤ row.length ∧ RD G.imm T x ((row.drop off).take T.sz) := by
  obtain ⟨cs, ⟨b, off, row, rfl, h1, h2, h3⟩, h | h⟩ := h
  · cases h.1
  · exact ⟨b, off, row, by simpa using h.2.symm, h1, h2, h3⟩
theorem int_form {G : Gh} {dead : List Nat} {k : IntKind} {n : Int} {v : Value} (h : Rv G dead (.d (.int k) n) v) : v = .int k n := toV_eq (a := .d (.int k) n) rfl h
theorem bool_form {G : Gh} {dead : List Nat} {n : Bool} {v : Value} (h : Rv G dead (.d .bool n) v) : v = .bool n := toV_eq (a := .d .bool n) rfl h
theorem str_form {G : Gh} {dead : List Nat} {n : ByteArray} {v : Value} (h : Rv G dead (.d .str n) v) : v = .string n := toV_eq (a := .d .str n) rfl h
theorem list_form {G : Gh} {dead : List Nat} {T : DTy} {xs : List T.El} {v : Value} (h : Rv G dead (.d (.list T) xs) v) : ∃ A cap, v = .slice A xs.length cap ∧ RD G.imm (.list T) xs [.slice A xs.length cap] := by
  obtain ⟨cs, hr, h | h⟩ := h
  · cases h.1
  · obtain ⟨A, cap, rfl, hh⟩ := hr
    have : v = .slice A xs.length cap := by simpa using h.2.symm
    subst this
    exact ⟨A, cap, rfl, A, cap, rfl, hh⟩
theorem own_list {G : Gh} {dead : List Nat} {tok : Nat} {T : DTy} {xs : List T.El} {v : Value} (h : Rv G dead (.own tok T xs) v) : Rv G dead (.d (.list T) xs) v := by
  obtain ⟨cs, hr, h | h⟩ := h
  · cases h.1
  · exact ⟨cs, hr.1, .inr ⟨rfl, h.2⟩⟩

/-- A field's place. -/
def fieldAddrA (P : Program) (s : TypeId) (x : AVal) (f : Nat) : Option AVal :=
  match P.underlying s with
  | some (.struct fs) => match fs[f]? with
    | some fd => match P.info? fd.type with
      | some ti => bif ti.size == 0 then none else
        match x with
        | .bptr b p => some (.bptr b (p ++ [.fld f fd.offset]))
        | .iptr T v => match fldD T v f with
          | some (o, .d T' v') => bif o == fd.offset then some (.iptr T' v') else none
          | _ => none
        | _ => none
      | none => none
    | none => none
  | _ => none

theorem run_underlying' {P : Program} {t : TypeId} {d : TypeDesc} (h : P.underlying t = some d) (w : World) : (underlying t).run P w = .ok d w := by
  unfold underlying
  rw [Sem.run_bind]
  show ((match P.underlying t with | some d => pure d | none => stuck "no such type" : Sem TypeDesc).run P w) = _
  rw [h]
  rfl
theorem run_typeInfo' {P : Program} {t : TypeId} {i : TypeInfo} (h : P.info? t = some i) (w : World) : (typeInfo t).run P w = .ok i w := by
  unfold typeInfo
  rw [Sem.run_bind]
  show ((match P.info? t with | some i => pure i | none => stuck "no such type" : Sem TypeInfo).run P w) = _
  rw [h]
  rfl
theorem run_sizeOf' {P : Program} {t : TypeId} {i : TypeInfo} (h : P.info? t = some i) (w : World) : (sizeOf t).run P w = .ok i.size w := by
  unfold sizeOf
  rw [Sem.run_bind, run_typeInfo' h]
  rfl

theorem run_fieldAt {P : Program} {s : TypeId} {fs : Array Field} {f : Nat} {fd : Field} {ti : TypeInfo} {a : Addr} (h1 : P.underlying s = some (.struct fs)) (h2 : fs[f]? = some fd) (h3 : P.info? fd.type = some ti) (h4 : ti.size ≠ 0) (w : World) :
    (Instr.fieldAt s (.pointer (some a)) f).run P w = .ok (.pointer (some (a.add fd.offset))) w := by
  unfold Instr.fieldAt
  rw [Sem.run_bind, run_underlying' h1]
  simp only [Result.andThen_ok, h2, Instr.sureAddr, fieldPlace, Sem.run_bind, Sem.run_pure, run_sizeOf' h3, h4, if_false]

theorem fieldAddrA_sound {P : Program} {o : Oper} {ρ : Operand → AVal} {v : AVal} {s : TypeId} {x : Operand} {f : Nat} (ho : o.op = .fieldAddr s x f) (h : fieldAddrA P s (ρ x) f = some v) (B : Bx) : OpD P o ρ B v B := by
  unfold fieldAddrA at h
  split at h
  · rename_i fs hfs
    split at h
    · rename_i fd hfd
      split at h
      · rename_i ti hti
        cases hz : ti.size == 0 with
        | true => simp [hz] at h
        | false =>
          simp only [hz, cond_false] at h
          have hz' : ti.size ≠ 0 := by simpa using hz
          refine OpD.value (fun G dead a ha => ?_) B
          have hx := ha x (by rw [ho]; simp [Op.operands])
          split at h
          · rename_i b p hbp
            simp only [Option.some.injEq] at h
            subst h
            rw [hbp] at hx
            obtain ⟨blk, hb, hp, hv⟩ := ptr_form hx
            refine ⟨.pointer (some ⟨blk, offP p + fd.offset, none⟩), fun w => ?_, leaf_v rfl ⟨blk, hb, okP_fld _ _ _ hp, by rw [offP_snoc]; rfl⟩⟩
            simp only [execOp, ho]
            rw [hv, Sem.run_bind, run_fieldAt hfs hfd hti hz', addr_add]
            rfl
          · rename_i T y hbp
            split at h
            · rename_i o1 T' y' hfl
              cases he : o1 == fd.offset with
              | false => simp [he] at h
              | true =>
                simp only [he, cond_true, Option.some.injEq] at h
                subst h
                have he' : o1 = fd.offset := by simpa using he
                rw [hbp] at hx
                obtain ⟨b, off, row, hv, h1, h2, h3⟩ := iptr_form hx
                obtain ⟨T'', y'', e, hs⟩ := fldD_spec (imm := G.imm) hfl
                injection e with e1 e2
                subst e1
                have e2 := eq_of_heq e2
                subst e2
                obtain ⟨hle, hr⟩ := hs _ h3
                have hlen : ((row.drop off).take T.sz).length = T.sz := RD.len h3
                refine ⟨.pointer (some ⟨b, off + fd.offset, none⟩), fun w => ?_, leaf_v rfl ⟨b, off + fd.offset, row, rfl, h1, by omega, ?_⟩⟩
                · simp only [execOp, ho]
                  rw [hv, Sem.run_bind, run_fieldAt hfs hfd hti hz', addr_add]
                  rfl
                · rw [← he']
                  have : (((row.drop off).take T.sz).drop o1).take T'.sz = (row.drop (off + o1)).take T'.sz := by
                    rw [List.drop_take, List.take_take, List.drop_drop, Nat.min_eq_left (by omega)]
                  rw [← this]
                  exact hr
            · cases h
          · cases h
      · cases h
    · cases h
  · cases h

end Go.Proofs.YtbidmbjkjpdgdaaDoor.Abs
