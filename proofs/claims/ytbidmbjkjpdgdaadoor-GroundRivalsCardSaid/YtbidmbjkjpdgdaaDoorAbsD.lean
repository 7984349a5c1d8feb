/-
  The abstract semantics, between the thirteenth and the fourteenth part: a literal of a slice that nobody owns.
-/
import Derived.Test.YtbidmbjkjpdgdaaDoorAbsP
set_option linter.unusedVariables false
set_option linter.unusedSimpArgs false
namespace Go.Proofs.YtbidmbjkjpdgdaaDoor.Abs

theorem new_rowD {G : Gh} {B : Bx} {w : World} {T : DTy} {xs : List T.El} {row : List Value} {cells : Array Value} {e : TypeId} (hw : WOk G B w) (hp : row <+: cells.toList) (hl : row.length = xs.length * T.sz)
    (hx : ∀ (i : Nat) (x : T.El), xs[i]? = some x → RD G.imm T x ((row.drop (i * T.sz)).take T.sz)) :
    ∃ G', Rv G' B.dead (.d (.list T) xs) (.slice (some ⟨w.heap.size, 0, none⟩) xs.length xs.length) ∧ WOk G' B (w.alloc (.cells cells e)) ∧ GLe G B.dead G' B.dead ∧ Ext G w G' (w.alloc (.cells cells e)) := by
  have hno : G.imm w.heap.size = none := by
    cases hi : G.imm w.heap.size with
    | none => rfl
    | some row => have := hw.imm_lt hi; omega
  let G' : Gh := { G with imm := fun b => if b = w.heap.size then some row else G.imm b }
  have himm : ImmLe G.imm G'.imm := fun b r hb => by
    refine ⟨r, ?_, List.prefix_refl _⟩
    show (if b = w.heap.size then some row else G.imm b) = some r
    rw [if_neg (fun h => by subst h; rw [hno] at hb; cases hb)]
    exact hb
  have hle : GLe G B.dead G' B.dead := by
    refine ⟨himm, List.prefix_refl _, fun _ h => h, fun t b n r ht h1 h2 => ⟨h1, ?_⟩⟩
    show (if b = w.heap.size then some row else G.imm b) = some r
    rw [if_neg (fun h => by subst h; rw [hno] at h2; cases h2)]
    exact h2
  have hself : G'.imm w.heap.size = some row := by simp [G']
  have hext : Ext G w G' (w.alloc (.cells cells e)) := by
    refine ⟨rfl, rfl, rfl, by simp, fun b hb _ _ => heap_push_lt hb, himm, fun b hb _ => ?_, fun _ h => .inl h, fun t b n ht => .inl ⟨t, ht⟩⟩
    show (if b = w.heap.size then some row else G.imm b) = G.imm b
    rw [if_neg (by omega)]
  refine ⟨G', ?_, ?_, hle, hext⟩
  · exact leaf_v rfl ⟨_, xs.length, rfl, Nat.le_refl _, fun _ => ⟨w.heap.size, 0, row, rfl, hself, by omega, fun i x hi => by rw [Nat.zero_add]; exact (hx i x hi).mono himm⟩⟩
  · refine ⟨hw.len, hw.nodup, fun i b c hb hc => ?_, fun b r hb => ?_, fun b hb => ?_, fun t b n ht => ?_, hw.inj, hw.tab.ext hext⟩
    · have hbo := hw.boxes i b c hb hc
      obtain ⟨_, _, hh, _⟩ := id hbo
      exact hbo.mono hle (heap_push_lt (heap_lt hh))
    · by_cases hbs : b = w.heap.size
      · subst hbs
        rw [hself] at hb
        cases hb
        exact ⟨cells, e, (0, 0), heap_push_eq, hp⟩
      · have hb' : G.imm b = some r := by
          have : (if b = w.heap.size then some row else G.imm b) = some r := hb
          rwa [if_neg hbs] at this
        obtain ⟨cs, e', fr, hh, hpp⟩ := hw.imm b r hb'
        exact ⟨cs, e', fr, by rw [heap_push_lt (heap_lt hh)]; exact hh, hpp⟩
    · have := hw.addr_lt hb
      show (if b = w.heap.size then some row else G.imm b) = none
      rw [if_neg (by omega)]
      exact hw.disj b hb
    · obtain ⟨h1, ⟨row', h2⟩, cs, e', h3, h4⟩ := hw.own t b n ht
      refine ⟨h1, ⟨row', ?_⟩, cs, e', by rw [heap_push_lt (heap_lt h3)]; exact h3, h4⟩
      show (if b = w.heap.size then some row else G.imm b) = some row'
      rw [if_neg (by have := heap_lt h3; omega)]
      exact h2

def buildSliceD (P : Program) (t : TypeId) (len : Nat) (parts : Array (Nat × Operand)) (ρ : Operand → AVal) : Option AVal :=
  match P.underlying t with
  | some (.slice e) => match dtyT P 6 e, szT P e, zeroV P e with
    | some T, some n, some _ => bif n == T.sz && parts.toList.length == len && decide (len * n ≤ 2 ^ 24) then
        match datasA T ρ parts.toList 0 with
        | some xs => some (.d (.list T) xs)
        | none => none
      else none
    | _, _, _ => none
  | _ => none

theorem buildSliceD_sound {P : Program} {o : Oper} {ρ : Operand → AVal} {v : AVal} {t : TypeId} {len : Nat} {parts : Array (Nat × Operand)} (ho : o.op = .buildSlice t len parts) (h : buildSliceD P t len parts ρ = some v) (B : Bx) : OpD P o ρ B v B := by
  intro G a w ha hw next Q hn
  unfold buildSliceD at h
  split at h
  · rename_i e hu
    split at h
    · rename_i T n zs hT hn2 hz
      cases hb : n == T.sz && parts.toList.length == len && decide (len * n ≤ 2 ^ 24) with
      | false => rw [hb] at h; cases h
      | true =>
        simp only [hb, cond_true] at h
        simp only [Bool.and_eq_true, beq_iff_eq, decide_eq_true_eq] at hb
        obtain ⟨⟨rfl, hlen⟩, hbig⟩ := hb
        split at h
        · rename_i xs hxs
          simp only [Option.some.injEq] at h
          subst h
          obtain ⟨ti, hti, hsz⟩ := szT_spec hn2
          obtain ⟨d1, d2, d3, d4, d5⟩ := datasA_spec (G := G) (dead := B.dead) (ev := a.eval) hxs (fun p hp => ha p.2 (by
            rw [ho]
            simp only [Op.operands, List.mem_toArray, List.mem_map]
            exact ⟨p, hp, rfl⟩))
          obtain ⟨z, hzr, hzc⟩ := run_zeroValue' hz w
          let init : Array Value := (Array.range (len * T.sz)).map (fun i => (if len * T.sz = 0 then (#[] : Array Value) else z.cells)[i % (if len * T.sz = 0 then (#[] : Array Value) else z.cells).size]!)
          have hinit : init.size = len * T.sz := by simp [init]
          obtain ⟨out, f1, f2⟩ := fill_seq (size := T.sz) (parts.toList.map fun p => a.eval p.2) 0 init d3 (by rw [hinit]; simp [hlen])
          simp only [Nat.zero_mul, List.take_zero, List.nil_append] at f2
          have hol : out.size = xs.length * T.sz := by
            have := congrArg List.length f2
            rw [d4] at this
            simpa using this
          have hxl : xs.length = len := by rw [d1, hlen]
          obtain ⟨G', g1, g2, g3, g4⟩ := new_rowD (e := e) (cells := out) (row := out.toList) (xs := xs) hw (List.prefix_refl _) (by simp [hol]) (by rw [f2]; exact d5)
          refine wp_of_run (v := .slice (some ⟨w.heap.size, 0, none⟩) xs.length xs.length) (w' := w.alloc (.cells out e)) ?_ (hn _ G' _ g1 g2 g3 g4)
          simp only [execOp, ho]
          rw [Sem.run_bind]
          unfold Instr.buildSlice
          have hnb : ¬ len * T.sz > 2 ^ 24 := by omega
          have hparts : (parts.map fun p => (p.1, a.eval p.2)).toList = (parts.toList.map fun p => a.eval p.2).zipIdx.map fun p => (p.2, p.1) := by
            rw [Array.toList_map]
            exact d2
          rw [Sem.run_bind, run_underlying' hu, Result.andThen_ok, Sem.run_bind, run_sizeOf' hti, Result.andThen_ok, hsz, if_neg hnb]
          simp only [pure_bind, Sem.run_bind]
          by_cases h0 : len * T.sz = 0
          · simp only [h0, if_true, Sem.run_pure, Result.andThen_ok] at f1 ⊢
            simp only [init, h0, if_true] at f1
            simp only [hparts, f1, Sem.run_bind]
            simp only [hxl]
            rfl
          · simp only [h0, if_false, Sem.run_bind, hzr, Sem.run_pure, Result.andThen_ok]
            simp only [init, h0, if_false] at f1
            simp only [hparts, f1, Sem.run_bind]
            simp only [hxl]
            rfl
        · cases h
    · cases h
  · cases h

end Go.Proofs.YtbidmbjkjpdgdaaDoor.Abs
