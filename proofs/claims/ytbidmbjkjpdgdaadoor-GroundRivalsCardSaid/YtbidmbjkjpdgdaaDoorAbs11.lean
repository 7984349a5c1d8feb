/-
  The abstract semantics, eleventh part: more operations that memory has no part in: aggregates, elements of values, division, shifts, lengths.
-/
import Derived.Test.YtbidmbjkjpdgdaaDoorAbs10
set_option linter.unusedVariables false
set_option linter.unusedSimpArgs false
namespace Go.Proofs.YtbidmbjkjpdgdaaDoor.Abs

/-! ### Aggregates -/
def buildGo (place : Nat → Option (Nat × Nat)) (ρ : Operand → AVal) : AVal → List (Nat × Operand) → Option AVal
  | cur, [] => some cur
  | cur, (i, x) :: ps => match place i, childA cur i, setC cur i (ρ x) with
    | some (off, size), some (o, c), some cur' => bif o == off && (ρ x).size == size && c.size == size && (ρ x).plain then buildGo place ρ cur' ps else none
    | _, _, _ => none

theorem buildGo_spec {G : Gh} {dead : List Nat} {place : Nat → Option (Nat × Nat)} {ρ : Operand → AVal} {ev : Operand → Value} : {ps : List (Nat × Operand)} → {cur out : AVal} → {cells : Array Value} → buildGo place ρ cur ps = some out → Rc G dead cur cells.toList →
    (∀ p ∈ ps, Rv G dead (ρ p.2) (ev p.2)) → ∃ cells' : Array Value, Instr.fill place cells (ps.map fun p => (p.1, ev p.2)) = some cells' ∧ Rc G dead out cells'.toList
  | [], cur, out, cells, h, hc, _ => by
    simp only [buildGo, Option.some.injEq] at h
    subst h
    exact ⟨cells, rfl, hc⟩
  | (i, x) :: ps, cur, out, cells, h, hc, hv => by
    simp only [buildGo] at h
    split at h
    · rename_i off size o c cur' hpl hch hst
      cases hb : o == off && (ρ x).size == size && c.size == size && (ρ x).plain with
      | false => rw [hb] at h; cases h
      | true =>
        simp only [hb, cond_true] at h
        simp only [Bool.and_eq_true, beq_iff_eq] at hb
        obtain ⟨⟨⟨rfl, rfl⟩, hcs⟩, hp⟩ := hb
        have hx := hv (i, x) (by simp)
        have hxc := cells_of_v hp hx
        have hl := Rc.len hxc
        simp only [Array.length_toList] at hl
        obtain ⟨hle, _⟩ := childA_spec hch _ hc
        have hn := setC_spec' hst hch hcs.symm _ _ hc hxc
        have hput := foldl_put (off := o) (ev x).cells.toList 0 cells (by simp [hl]; rw [hcs] at hle; simpa using hle)
        rw [Nat.add_zero] at hput
        generalize hg : Array.foldl (fun (cs : Array Value) (x : Value × Nat) => match x with | (c, k) => cs.setIfInBounds (o + k) c) cells (ev x).cells.zipIdx = mid at *
        have hmid : mid.toList = putCells cells.toList o (ev x).cells.toList := by
          rw [← hg, ← Array.foldl_toList, Array.toList_zipIdx]
          exact hput
        obtain ⟨cells', h1, h2⟩ := buildGo_spec (cells := mid) h (by rw [hmid]; exact hn) (fun p hp => hv p (by simp [hp]))
        refine ⟨cells', ?_, h2⟩
        simp only [List.map_cons, Instr.fill, hpl]
        rw [if_neg (by simp [hl]; rw [hcs] at hle; simpa using hle), hg]
        exact h1
    · cases h

def placesA (P : Program) : List Field → Option (List (Nat × Nat))
  | [] => some []
  | f :: fs => match szT P f.type, placesA P fs with
    | some n, some l => some ((f.offset, n) :: l)
    | _, _ => none
theorem placesA_run {P : Program} : {fs : List Field} → {l : List (Nat × Nat)} → placesA P fs = some l → ∀ w, ((fs.mapM fun f => do pure (f.offset, ← sizeOf f.type) : Sem (List (Nat × Nat)))).run P w = .ok l w
  | [], l, h, w => by
    simp only [placesA, Option.some.injEq] at h
    subst h
    rfl
  | f :: fs, l, h, w => by
    simp only [placesA] at h
    split at h
    · rename_i n l' hn hl
      simp only [Option.some.injEq] at h
      subst h
      obtain ⟨ti, hti, rfl⟩ := szT_spec hn
      have := placesA_run hl w
      simp only [List.mapM_cons, Sem.run_bind, run_sizeOf' hti, Result.andThen_ok, Sem.run_pure, this]
    · cases h

/-- An array's zero value, element by element. -/
def zeroEls (P : Program) (t : TypeId) : Option AVal :=
  match P.underlying t with
  | some (.struct _) => zeroT P 8 t
  | some (.array n e) => match zeroT P 8 e with
    | some z => some (chain (List.replicate n z))
    | none => none
  | _ => none

def buildA (P : Program) (t : TypeId) (parts : Array (Nat × Operand)) (ρ : Operand → AVal) : Option AVal :=
  match zeroEls P t, zeroV P t with
  | some z, some zs => match zcells z with
    | some zc => bif eqZs zc zs && z.agg then
        match P.underlying t with
        | some (.struct fs) => match placesA P fs.toList with
          | some pl => buildGo (fun i => pl[i]?) ρ z parts.toList
          | none => none
        | some (.array n e) => match szT P e with
          | some n => buildGo (fun i => some (i * n, n)) ρ z parts.toList
          | none => none
        | _ => none
      else none
    | none => none
  | _, _ => none

theorem setC_agg {a v b : AVal} {k : Nat} (h : setC a k v = some b) : b.agg = true := by
  unfold setC at h
  split at h
  · cases h; rfl
  · split at h
    · cases h; rfl
    · cases h
  · cases h; rfl
  · split at h
    · cases h; rfl
    · cases h
  · cases h
theorem buildGo_agg {place : Nat → Option (Nat × Nat)} {ρ : Operand → AVal} : {ps : List (Nat × Operand)} → {cur out : AVal} → buildGo place ρ cur ps = some out → cur.agg = true → out.agg = true
  | [], cur, out, h, ha => by
    simp only [buildGo, Option.some.injEq] at h
    rw [← h]; exact ha
  | (i, x) :: ps, cur, out, h, ha => by
    simp only [buildGo] at h
    split at h
    · rename_i off size o c cur' hpl hch hst
      cases hb : o == off && (ρ x).size == size && c.size == size && (ρ x).plain with
      | false => rw [hb] at h; cases h
      | true =>
        simp only [hb, cond_true] at h
        exact buildGo_agg h (setC_agg hst)
    · cases h

theorem buildA_sound {P : Program} {o : Oper} {ρ : Operand → AVal} {v : AVal} {t : TypeId} {parts : Array (Nat × Operand)} (ho : o.op = .build t parts) (h : buildA P t parts ρ = some v) (B : Bx) : OpD P o ρ B v B := by
  unfold buildA at h
  split at h
  · rename_i z zs hz hzs
    split at h
    · rename_i zc hzc
      cases hb : eqZs zc zs && z.agg with
      | false => rw [hb] at h; cases h
      | true =>
        simp only [hb, cond_true] at h
        simp only [Bool.and_eq_true] at hb
        obtain ⟨heq, hza⟩ := hb
        have := eqZs_eq heq
        subst this
        refine OpD.value (fun G dead a ha => ?_) B
        have hops : ∀ p ∈ parts.toList, Rv G dead (ρ p.2) (a.eval p.2) := fun p hp => ha p.2 (by
          rw [ho]
          simp only [Op.operands, List.mem_toArray, List.mem_map]
          exact ⟨p, hp, rfl⟩)
        obtain ⟨zv, hzrun, hzc2⟩ := run_zeroValueAll hzs
        have hrz : Rc G dead z zv.cells.toList := by rw [hzc2]; exact zcells_rc hzc
        split at h
        · rename_i fs hu
          split at h
          · rename_i pl hpl
            obtain ⟨cells', h1, h2⟩ := buildGo_spec (G := G) (dead := dead) (ev := a.eval) (cells := zv.cells) h hrz hops
            refine ⟨.agg cells', fun w => ?_, by have := agg_v h2 (buildGo_agg h hza); simpa using this⟩
            simp only [execOp, ho]
            rw [Sem.run_bind]
            unfold Instr.build
            have hmap : (parts.map fun p => (p.1, a.eval p.2)).toList = parts.toList.map fun p => (p.1, a.eval p.2) := by simp
            have hpr : ((fs.mapM fun f => do pure (f.offset, ← sizeOf f.type) : Sem (Array (Nat × Nat)))).run P w = .ok pl.toArray w := by
              rw [Array.mapM_eq_mapM_toList]
              have := placesA_run hpl w
              simp only [Sem.run_map, this, Result.andThen_ok]
            have hfill : Instr.fill (fun x => pl.toArray[x]?) zv.cells (parts.map fun p => (p.1, a.eval p.2)).toList = some cells' := by
              rw [hmap]
              simpa using h1
            simp only [Sem.run_bind, hzrun w, Result.andThen_ok, Sem.run_pure, run_underlying' hu, hpr, hfill]
          · cases h
        · rename_i n e hu
          split at h
          · rename_i n2 hn2
            obtain ⟨ti, hti, rfl⟩ := szT_spec hn2
            obtain ⟨cells', h1, h2⟩ := buildGo_spec (G := G) (dead := dead) (ev := a.eval) (cells := zv.cells) h hrz hops
            refine ⟨.agg cells', fun w => ?_, by have := agg_v h2 (buildGo_agg h hza); simpa using this⟩
            simp only [execOp, ho]
            rw [Sem.run_bind]
            unfold Instr.build
            have hmap : (parts.map fun p => (p.1, a.eval p.2)).toList = parts.toList.map fun p => (p.1, a.eval p.2) := by simp
            simp only [Sem.run_bind, hzrun w, Result.andThen_ok, Sem.run_pure, run_underlying' hu, run_sizeOf' hti, hmap, h1]
          · cases h
        · cases h
    · cases h
  · cases h

end Go.Proofs.YtbidmbjkjpdgdaaDoor.Abs
