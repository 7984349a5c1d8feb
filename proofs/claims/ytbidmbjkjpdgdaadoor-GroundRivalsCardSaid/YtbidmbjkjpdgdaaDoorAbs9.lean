/-
  The abstract semantics, ninth part: literals of slices, append.
-/
import Derived.Test.YtbidmbjkjpdgdaaDoorAbs8
set_option linter.unusedVariables false
set_option linter.unusedSimpArgs false
namespace Go.Proofs.YtbidmbjkjpdgdaaDoor.Abs

/-- A type's data. -/
def dtyT (P : Program) : Nat → TypeId → Option DTy
  | 0, _ => none
  | n + 1, t => match P.underlying t with
    | some .bool => some .bool
    | some (.int k) => some (.int k)
    | some .string => some .str
    | some (.slice e) => match dtyT P n e with
      | some T => some (.list T)
      | none => none
    | some (.array m e) => match dtyT P n e with
      | some T => some (.arr m T)
      | none => none
    | some (.struct fs) => fs.toList.foldr (fun f r => match dtyT P n f.type, r with
      | some a, some b => some (.cons a b)
      | _, _ => none) (some .nil)
    | _ => none

def datasA (T : DTy) (ρ : Operand → AVal) : List (Nat × Operand) → Nat → Option (List T.El)
  | [], _ => some []
  | (i, x) :: ps, j => bif i == j && (ρ x).plain then
      match asData (ρ x) T, datasA T ρ ps (j + 1) with
      | some y, some ys => some (y :: ys)
      | _, _ => none
    else none

theorem datasA_spec {G : Gh} {dead : List Nat} {T : DTy} {ρ : Operand → AVal} {ev : Operand → Value} : {ps : List (Nat × Operand)} → {j : Nat} → {xs : List T.El} → datasA T ρ ps j = some xs → (∀ p ∈ ps, Rv G dead (ρ p.2) (ev p.2)) →
    xs.length = ps.length ∧ (ps.map fun p => (p.1, ev p.2)) = ((ps.map fun p => ev p.2).zipIdx j).map (fun q => (q.2, q.1)) ∧ (∀ v ∈ ps.map (fun p => ev p.2), v.cells.size = T.sz) ∧
    (((ps.map fun p => ev p.2).map fun v => v.cells.toList).flatten).length = xs.length * T.sz ∧
    ∀ (i : Nat) (x : T.El), xs[i]? = some x → RD G.imm T x (((((ps.map fun p => ev p.2).map fun v => v.cells.toList).flatten).drop (i * T.sz)).take T.sz)
  | [], j, xs, h, _ => by
    simp only [datasA, Option.some.injEq] at h
    subst h
    exact ⟨rfl, rfl, by simp, by simp, fun i x hx => by simp at hx⟩
  | (i, x) :: ps, j, xs, h, hv => by
    simp only [datasA] at h
    cases hb : i == j && (ρ x).plain with
    | false => simp [hb] at h
    | true =>
      simp only [hb, cond_true] at h
      simp only [Bool.and_eq_true, beq_iff_eq] at hb
      obtain ⟨rfl, hp⟩ := hb
      split at h
      · rename_i y ys hy hys
        simp only [Option.some.injEq] at h
        subst h
        obtain ⟨h1, h2, h3, h4, h5⟩ := datasA_spec hys (fun p hp => hv p (by simp [hp]))
        have hx := hv (i, x) (by simp)
        have hc := asData_spec hy _ (cells_of_v hp hx)
        have hl : (ev x).cells.size = T.sz := by have := RD.len hc; simpa using this
        refine ⟨by simp [h1], by simp [h2], ?_, ?_, ?_⟩
        · intro v hvm
          simp only [List.map_cons, List.mem_cons] at hvm
          rcases hvm with rfl | hvm
          · exact hl
          · exact h3 v hvm
        · simp only [List.map_cons, List.flatten_cons, List.length_append, Array.length_toList, hl, h4, List.length_cons, Nat.add_mul, Nat.one_mul]
          omega
        · intro k z hz
          simp only [List.map_cons, List.flatten_cons]
          cases k with
          | zero =>
            simp only [List.getElem?_cons_zero, Option.some.injEq] at hz
            subst hz
            have e1 : T.sz = (ev x).cells.toList.length := by simp [hl]
            rw [Nat.zero_mul, List.drop_zero, e1, List.take_left]
            exact hc
          | succ k =>
            simp only [List.getElem?_cons_succ] at hz
            have := h5 k z hz
            have e1 : (k + 1) * T.sz = (ev x).cells.toList.length + k * T.sz := by rw [Nat.add_mul, Nat.one_mul, Nat.add_comm]; simp [hl]
            rw [e1, ← List.drop_drop, List.drop_left]
            exact this
      · cases h

theorem run_zeroValueAll {P : Program} {e : TypeId} {zs : List Value} (h : zeroV P e = some zs) : ∃ z : Value, (∀ w, (zeroValue e).run P w = .ok z w) ∧ z.cells.toList = zs := by
  unfold zeroV at h
  split at h
  · rename_i ti hti
    split at h
    · rename_i z hz
      simp only [Option.some.injEq] at h
      refine ⟨z, fun w => ?_, h⟩
      unfold zeroValue
      rw [Sem.run_bind, run_typeInfo' hti, Result.andThen_ok]
      simp only [hz]
      rfl
    · cases h
  · cases h

def buildSliceA (P : Program) (t : TypeId) (len : Nat) (parts : Array (Nat × Operand)) (ρ : Operand → AVal) (B : Bx) : Option (AVal × Bx) :=
  match P.underlying t with
  | some (.slice e) => match dtyT P 6 e, szT P e, zeroV P e with
    | some T, some n, some _ => bif n == T.sz && parts.toList.length == len && decide (len * n ≤ 2 ^ 24) then
        match datasA T ρ parts.toList 0 with
        | some xs => some (.own B.nt T xs, { B with nt := B.nt + 1 })
        | none => none
      else none
    | _, _, _ => none
  | _ => none

theorem run_zeroValue' {P : Program} {e : TypeId} {zs : List Value} (h : zeroV P e = some zs) (w : World) : ∃ z : Value, (zeroValue e).run P w = .ok z w ∧ z.cells.toList = zs := by
  unfold zeroV at h
  split at h
  · rename_i ti hti
    split at h
    · rename_i z hz
      simp only [Option.some.injEq] at h
      refine ⟨z, ?_, h⟩
      unfold zeroValue
      rw [Sem.run_bind, run_typeInfo' hti, Result.andThen_ok]
      simp only [hz]
      rfl
    · cases h
  · cases h

theorem buildSliceA_sound {P : Program} {o : Oper} {ρ : Operand → AVal} {v : AVal} {t : TypeId} {len : Nat} {parts : Array (Nat × Operand)} {B B' : Bx} (ho : o.op = .buildSlice t len parts) (h : buildSliceA P t len parts ρ B = some (v, B')) : OpD P o ρ B v B' := by
  intro G a w ha hw next Q hn
  unfold buildSliceA at h
  split at h
  · rename_i e hu
    split at h
    · rename_i T n zs hT hn2 hz
      cases hb : n == T.sz && parts.toList.length == len && decide (len * n ≤ 2 ^ 24) with
      | false => rw [hb] at h; cases h
      | true =>
        simp only [hb, cond_true] at h
        simp only [Bool.and_eq_true, beq_iff_eq, decide_eq_true_eq] at hb
        obtain ⟨⟨rfl, hlen⟩, hbig⟩ := hb
        split at h
        · rename_i xs hxs
          simp only [Option.some.injEq, Prod.mk.injEq] at h
          obtain ⟨rfl, rfl⟩ := h
          obtain ⟨ti, hti, hsz⟩ := szT_spec hn2
          obtain ⟨d1, d2, d3, d4, d5⟩ := datasA_spec (G := G) (dead := B.dead) (ev := a.eval) hxs (fun p hp => ha p.2 (by
            rw [ho]
            simp only [Op.operands, List.mem_toArray, List.mem_map]
            exact ⟨p, hp, rfl⟩))
          obtain ⟨z, hzr, hzc⟩ := run_zeroValue' hz w
          let init : Array Value := (Array.range (len * T.sz)).map (fun i => (if len * T.sz = 0 then (#[] : Array Value) else z.cells)[i % (if len * T.sz = 0 then (#[] : Array Value) else z.cells).size]!)
          have hinit : init.size = len * T.sz := by simp [init]
          obtain ⟨out, f1, f2⟩ := fill_seq (size := T.sz) (parts.toList.map fun p => a.eval p.2) 0 init d3 (by rw [hinit]; simp [hlen])
          simp only [Nat.zero_mul, List.take_zero, List.nil_append] at f2
          have hol : out.size = xs.length * T.sz := by
            have := congrArg List.length f2
            rw [d4] at this
            simpa using this
          have hxl : xs.length = len := by rw [d1, hlen]
          obtain ⟨G', g1, g2, g3, g4⟩ := new_row (e := e) (cells := out) (row := out.toList) (xs := xs) (cap := xs.length) hw (List.prefix_refl _) hol (by simp [hol]) (Nat.le_refl _) (by rw [f2]; exact d5)
          refine wp_of_run (v := .slice (some ⟨w.heap.size, 0, none⟩) xs.length xs.length) (w' := w.alloc (.cells out e)) ?_ (hn _ G' _ g1 g2 g3 g4)
          simp only [execOp, ho]
          rw [Sem.run_bind]
          unfold Instr.buildSlice
          have hnb : ¬ len * T.sz > 2 ^ 24 := by omega
          have hparts : (parts.map fun p => (p.1, a.eval p.2)).toList = (parts.toList.map fun p => a.eval p.2).zipIdx.map fun p => (p.2, p.1) := by
            rw [Array.toList_map]
            exact d2
          rw [Sem.run_bind, run_underlying' hu, Result.andThen_ok, Sem.run_bind, run_sizeOf' hti, Result.andThen_ok, hsz, if_neg hnb]
          simp only [pure_bind, Sem.run_bind]
          by_cases h0 : len * T.sz = 0
          · simp only [h0, if_true, Sem.run_pure, Result.andThen_ok] at f1 ⊢
            simp only [init, h0, if_true] at f1
            simp only [hparts, f1, Sem.run_bind]
            simp only [hxl]
            rfl
          · simp only [h0, if_false, Sem.run_bind, hzr, Sem.run_pure, Result.andThen_ok]
            simp only [init, h0, if_false] at f1
            simp only [hparts, f1, Sem.run_bind]
            simp only [hxl]
            rfl
        · cases h
    · cases h
  · cases h

end Go.Proofs.YtbidmbjkjpdgdaaDoor.Abs
