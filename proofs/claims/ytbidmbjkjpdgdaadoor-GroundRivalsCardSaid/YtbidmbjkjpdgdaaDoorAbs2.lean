/-
  The abstract semantics, second part: states, what operations do to them.
-/
import Derived.Test.YtbidmbjkjpdgdaaDoorAbs1
import Derived.Test.YtbidmbjkjpdgdaaDoorAbs0
set_option linter.unusedVariables false
set_option linter.unusedSimpArgs false
namespace Go.Proofs.YtbidmbjkjpdgdaaDoor.Abs

/-- The boxes of a state, the tokens that own no more, and the next token. -/
structure Bx where
  box : List AVal
  dead : List Nat
  nt : Nat

/-- An object that holds cells, or a map. -/
def stOf : Nat → LoopState
  | 0 => .ready
  | 1 => .busy
  | 2 => .exhausted
  | _ => .done
def pendOf : Nat → Option Code
  | 0 => none
  | 1 => none
  | 2 => none
  | 3 => some .ret
  | n + 4 => some (.exit n)
/-- The record of the range over a function that is the i-th loop of function g; k: 0 ready, 1 in a round, 2 behind it, 3 a return, 4 and more an exit that is yet to be taken. -/
def LoopIs (g i k : Nat) (r : Loop) : Prop := (∃ f, lcode g i = .rangeFunc f r.params r.assign r.body) ∧ r.state = stOf k ∧ (k ≠ 2 → r.pending = pendOf k)
def Holds : Knd → List Value → Obj → Prop
  | .cells, cs, o => ∃ cells e, o = .cells cells e (0, 0) ∧ cs = cells.toList
  | .loop g i k, cs, o => ∃ r, o = .loop r ∧ LoopIs g i k r ∧ cs = r.tmps.toList
  | .map, cs, o => ∃ es clock, o = .map es clock ∧ cs = es.toList.flatMap fun e => [e.key, e.val]
def BoxOk (G : Gh) (dead : List Nat) (c : AVal) (w : World) (b : Nat) : Prop := ∃ o cs, w.heap[b]? = some o ∧ Holds c.knd cs o ∧ Rc G dead c cs
theorem BoxOk.cells {G : Gh} {dead : List Nat} {c : AVal} {w : World} {b : Nat} (h : BoxOk G dead c w b) (hc : c.isM = false) : ∃ cells e, w.heap[b]? = some (.cells cells e (0, 0)) ∧ Rc G dead c cells.toList := by
  obtain ⟨o, cs, h1, h2, h3⟩ := h
  rw [knd_cells hc] at h2
  obtain ⟨cells, e, rfl, rfl⟩ := h2
  exact ⟨cells, e, h1, h3⟩
theorem BoxOk.of_cells {G : Gh} {dead : List Nat} {c : AVal} {w : World} {b : Nat} {cells : Array Value} {e : TypeId} (hc : c.isM = false) (h : w.heap[b]? = some (.cells cells e (0, 0))) (hr : Rc G dead c cells.toList) : BoxOk G dead c w b :=
  ⟨_, _, h, by rw [knd_cells hc]; exact ⟨cells, e, rfl, rfl⟩, hr⟩
theorem BoxOk.mono {G G' : Gh} {dead dead' : List Nat} {c : AVal} {w w' : World} {b : Nat} (h : BoxOk G dead c w b) (g : GLe G dead G' dead') (hw : w'.heap[b]? = w.heap[b]?) : BoxOk G' dead' c w' b := by
  obtain ⟨o, cs, h1, h2, h3⟩ := h
  exact ⟨o, cs, hw.trans h1, h2, h3.mono g⟩

/-- The package-level variables that must keep what they hold. -/
def Tab (G : Gh) (w : World) : Prop := ∀ q ∈ TABS, (∃ e fr, w.heap[q.1]? = some (.cells q.2 e fr)) ∧ q.1 ∉ G.addr ∧ ∀ t n, G.own t ≠ some (q.1, n)

structure WOk (G : Gh) (B : Bx) (w : World) : Prop where
  len : G.addr.length = B.box.length
  nodup : G.addr.Nodup
  boxes : ∀ (i b : Nat) (c : AVal), G.addr[i]? = some b → B.box[i]? = some c → BoxOk G B.dead c w b
  imm : ∀ b row, G.imm b = some row → ∃ cells e fr, w.heap[b]? = some (.cells cells e fr) ∧ row <+: cells.toList
  disj : ∀ b, b ∈ G.addr → G.imm b = none
  own : ∀ t b n, G.own t = some (b, n) → t < B.nt ∧ (∃ row, G.imm b = some row) ∧ ∃ cells e, w.heap[b]? = some (.cells cells e (0, 0)) ∧ cells.size = n
  inj : ∀ t t' b n n', G.own t = some (b, n) → G.own t' = some (b, n') → t = t'
  tab : Tab G w

structure Ext (G : Gh) (w : World) (G' : Gh) (w' : World) : Prop where
  os : w'.os = w.os
  tape : w'.tape = w.tape
  output : w'.output = w.output
  size : w.heap.size ≤ w'.heap.size
  frame : ∀ b, b < w.heap.size → b ∉ G.addr → (∀ t n, G.own t ≠ some (b, n)) → w'.heap[b]? = w.heap[b]?
  imm : ImmLe G.imm G'.imm
  same : ∀ b, b < w.heap.size → (∀ t n, G.own t ≠ some (b, n)) → G'.imm b = G.imm b
  addr : ∀ b ∈ G'.addr, b ∈ G.addr ∨ w.heap.size ≤ b
  own : ∀ t b n, G'.own t = some (b, n) → (∃ t', G.own t' = some (b, n)) ∨ w.heap.size ≤ b

theorem Tab.ext {G G' : Gh} {w w' : World} (h : Tab G w) (x : Ext G w G' w') : Tab G' w' := fun q hq => by
  obtain ⟨⟨e, fr, h1⟩, h2, h3⟩ := h q hq
  have hlt : q.1 < w.heap.size := by
    rcases Nat.lt_or_ge q.1 w.heap.size with hl | hl
    · exact hl
    · rw [Array.getElem?_eq_none hl] at h1; cases h1
  refine ⟨⟨e, fr, by rw [x.frame q.1 hlt h2 h3]; exact h1⟩, fun hm => ?_, fun t n hn => ?_⟩
  · rcases x.addr _ hm with hm | hm
    · exact h2 hm
    · omega
  · rcases x.own t _ n hn with ⟨t', ht⟩ | hm
    · exact h3 t' n ht
    · omega

theorem Ext.refl (G : Gh) (w : World) : Ext G w G w :=
  ⟨rfl, rfl, rfl, Nat.le_refl _, fun _ _ _ _ => rfl, ImmLe.refl _, fun _ _ _ => rfl, fun _ h => .inl h, fun t b n h => .inl ⟨t, h⟩⟩

theorem Ext.trans {G G1 G2 : Gh} {w w1 w2 : World} (h : Ext G w G1 w1) (k : Ext G1 w1 G2 w2) : Ext G w G2 w2 := by
  have fresh : ∀ b, b < w.heap.size → (∀ t n, G.own t ≠ some (b, n)) → ∀ t n, G1.own t ≠ some (b, n) := fun b hb ho t n hn => by
    rcases h.own t b n hn with ⟨t', ht⟩ | hle
    · exact ho t' n ht
    · omega
  refine ⟨k.os.trans h.os, k.tape.trans h.tape, k.output.trans h.output, Nat.le_trans h.size k.size, fun b hb ha ho => ?_, h.imm.trans k.imm, fun b hb ho => ?_, fun b hb => ?_, fun t b n hn => ?_⟩
  · rw [k.frame b (Nat.lt_of_lt_of_le hb h.size) (fun hm => ?_) (fresh b hb ho), h.frame b hb ha ho]
    rcases h.addr b hm with hm | hm
    · exact ha hm
    · omega
  · rw [k.same b (Nat.lt_of_lt_of_le hb h.size) (fresh b hb ho), h.same b hb ho]
  · rcases k.addr b hb with hb | hb
    · exact h.addr b hb
    · exact .inr (Nat.le_trans h.size hb)
  · rcases k.own t b n hn with ⟨t', ht⟩ | hle
    · exact h.own t' b n ht
    · exact .inr (Nat.le_trans h.size hle)

theorem GLe.trans {G G1 G2 : Gh} {d d1 d2 : List Nat} (h : GLe G d G1 d1) (k : GLe G1 d1 G2 d2) : GLe G d G2 d2 := by
  refine ⟨h.imm.trans k.imm, h.addr.trans k.addr, fun t ht => k.dead t (h.dead t ht), fun t b n row ht ho hi => ?_⟩
  obtain ⟨o1, i1⟩ := h.own t b n row (fun hd => ht (k.dead t hd)) ho hi
  exact k.own t b n row ht o1 i1

/-! ### Operands -/
def chain : List AVal → AVal
  | [] => .nil
  | a :: l => .cons a (chain l)
def unchain : AVal → List AVal
  | .cons h t => h :: unchain t
  | _ => []

/-- A value of the text's own, as an abstract one. -/
def constA : Value → AVal
  | .int k n => .d (.int k) n
  | .bool b => .d .bool b
  | .string s => .d .str s
  | .pointer none => .pnil
  | .nilFunc => .fnil
  | .slice none 0 0 => .snil
  | .nilIface => .inil
  | _ => .any
theorem any_v {G : Gh} {dead : List Nat} (v : Value) : Rv G dead .any v := ⟨[v], rfl, .inr ⟨rfl, rfl⟩⟩
theorem leaf_v {G : Gh} {dead : List Nat} {a : AVal} {v : Value} (ha : a.agg = false) (h : Rc G dead a [v]) : Rv G dead a v := ⟨[v], h, .inr ⟨ha, rfl⟩⟩
theorem constA_v {G : Gh} {dead : List Nat} (v : Value) : Rv G dead (constA v) v := by
  unfold constA
  split <;> first | exact leaf_v rfl rfl | exact any_v _

def opA (env : List AVal) : Operand → AVal
  | .tmp t => env.getD t .any
  | .const v => constA v
  | .global _ => .any
  | .func f => .func (.func f) .nil .nil
structure EnvOk (G : Gh) (dead : List Nat) (env : List AVal) (tm : Array Value) : Prop where
  len : tm.size = env.length
  val : ∀ t, Rv G dead (env.getD t .any) (tm.getD t undef)

theorem EnvOk.mono {G G' : Gh} {dead dead' : List Nat} {env : List AVal} {tm : Array Value} (h : EnvOk G dead env tm) (g : GLe G dead G' dead') : EnvOk G' dead' env tm :=
  ⟨h.len, fun t => (h.val t).mono g⟩
theorem EnvOk.op {G : Gh} {dead : List Nat} {env : List AVal} {a : Act} (h : EnvOk G dead env a.tmps) (x : Operand) : Rv G dead (opA env x) (a.eval x) := by
  cases x with
  | tmp t => exact h.val t
  | const v => exact constA_v v
  | global g => exact any_v _
  | func f => exact leaf_v rfl ⟨[], [], rfl, rfl, rfl⟩

def setA (env : List AVal) (dst : Option Tmp) (v : AVal) : List AVal :=
  match dst with
  | some t => env.set t v
  | none => env
theorem EnvOk.put {G : Gh} {dead : List Nat} {env : List AVal} {a : Act} (h : EnvOk G dead env a.tmps) (dst : Option Tmp) {v : AVal} {cv : Value} (hv : Rv G dead v cv) :
    EnvOk G dead (setA env dst v) (a.put dst cv).tmps := by
  cases dst with
  | none => exact h
  | some t =>
    refine ⟨by simp [setA, Act.put, h.len], fun u => ?_⟩
    simp only [setA, Act.put]
    by_cases hu : u = t
    · subst hu
      by_cases hl : u < env.length
      · have hs : u < a.tmps.size := by rw [h.len]; exact hl
        simp [List.getD_eq_getElem?_getD, hl, hs]
        exact hv
      · have hs : ¬ u < a.tmps.size := by rw [h.len]; exact hl
        have := h.val u
        simp [List.getD_eq_getElem?_getD, hl, hs] at this ⊢
        exact this
    · have := h.val u
      simp [List.getD_eq_getElem?_getD, Array.getElem?_setIfInBounds, List.getElem?_set, Ne.symm hu] at this ⊢
      exact this

/-! ### What an operation does -/
def OpD (P : Program) (o : Oper) (ρ : Operand → AVal) (B : Bx) (v : AVal) (B' : Bx) : Prop :=
  ∀ (G : Gh) (a : Act) (w : World), (∀ x ∈ o.op.operands, Rv G B.dead (ρ x) (a.eval x)) → WOk G B w →
    ∀ (next : Act → World → Prop) (Q : Exit → Act → World → Prop),
      (∀ cv G' w', Rv G' B'.dead v cv → WOk G' B' w' → GLe G B.dead G' B'.dead → Ext G w G' w' → next (a.put o.dst cv) w') → ∀ r, o.wpIn (Fr r) 0 P a w next Q

/-- A computation that asks nothing of memory. -/
def pureRun {α : Type} (P : Program) : Sem α → Option α
  | .pure a => some a
  | .program k => pureRun P (k P)
  | _ => none
theorem pureRun_run {α : Type} {P : Program} {w : World} : {s : Sem α} → {a : α} → pureRun P s = some a → s.run P w = .ok a w
  | .pure b, a, h => by
    simp only [pureRun, Option.some.injEq] at h
    subst h
    rfl
  | .program k, a, h => by
    have h' : pureRun P (k P) = some a := h
    show (k P).run P w = _
    exact pureRun_run h'
  | .load .., _, h | .store .., _, h | .new .., _, h | .shape .., _, h | .freeze .., _, h | .frozen .., _, h | .getObj .., _, h | .setObj .., _, h | .choose .., _, h | .sys .., _, h | .mark .., _, h | .halt .., _, h => by simp [pureRun] at h

theorem run_bind {α β : Type} {P : Program} {w : World} {f : α → Sem β} : {s : Sem α} → {a : α} → s.run P w = .ok a w → (s.bind f).run P w = (f a).run P w := by
  intro s a h
  rw [Sem.run_bind', h]
  rfl

theorem semAt_run {r : Option Nat} {ρ : Operand → Value} {o : Oper} {P : Program} {w w' : World} {n : Next} (h : (execOp ρ o).run P w = .ok n w') (hn : ∀ d, n ≠ .defer d) : (o.semAt r ρ).run P w = .ok n w' := by
  rw [Oper.semAt_eq]
  · exact h
  · intro c hc
    simp only [execOp, hc, Sem.run_bind] at h
    cases hr : (resolve ρ c o.type).run P w with
    | ok d w1 =>
      rw [hr] at h
      simp only [Result.andThen_ok, Sem.run_pure, Result.ok.injEq] at h
      exact hn d h.1.symm
    | halt x y =>
      rw [hr] at h
      cases h
theorem wp_of_run {P : Program} {o : Oper} {a : Act} {w w' : World} {next : Act → World → Prop} {Q : Exit → Act → World → Prop} {v : Value}
    (h : (execOp a.eval o).run P w = .ok (.value v) w') (hn : next (a.put o.dst v) w') (r : Option Nat) : o.wpIn (Fr r) 0 P a w next Q := by
  refine ⟨fun _ _ => trivial, ?_⟩
  have h1 : (o.semAt (Fr r).round a.eval).run P w = .ok (.value v) w' := semAt_run h (fun d => by simp)
  rw [h1, Oper.uponIn_value]
  exact hn
theorem wp_of_skip {P : Program} {o : Oper} {a : Act} {w w' : World} {next : Act → World → Prop} {Q : Exit → Act → World → Prop}
    (h : (execOp a.eval o).run P w = .ok .skip w') (hn : next (a.put o.dst undef) w') (r : Option Nat) : o.wpIn (Fr r) 0 P a w next Q := by
  refine ⟨fun _ _ => trivial, ?_⟩
  have h1 : (o.semAt (Fr r).round a.eval).run P w = .ok .skip w' := semAt_run h (fun d => by simp)
  rw [h1, Oper.uponIn_skip]
  exact hn

/-- An operation whose result is a value that memory has no part in. -/
theorem OpD.value {P : Program} {o : Oper} {ρ : Operand → AVal} {v : AVal}
    (h : ∀ (G : Gh) (dead : List Nat) (a : Act), (∀ x ∈ o.op.operands, Rv G dead (ρ x) (a.eval x)) → ∃ cv, (∀ w, (execOp a.eval o).run P w = .ok (.value cv) w) ∧ Rv G dead v cv) (B : Bx) : OpD P o ρ B v B := by
  intro G a w ha hw next Q hn
  obtain ⟨cv, hr, hv⟩ := h G B.dead a ha
  exact wp_of_run (hr w) (hn cv G w hv hw (GLe.refl _ _) (Ext.refl _ _))

/-- Concrete values of those that have but one. -/
def toV : AVal → Option Value
  | .d (.int k) n => some (.int k n)
  | .d .bool b => some (.bool b)
  | .d .str s => some (.string s)
  | .pnil => some (.pointer none)
  | .fnil => some .nilFunc
  | .inil => some .nilIface
  | .snil => some (.slice none 0 0)
  | _ => none
theorem leaf_eq {G : Gh} {dead : List Nat} {a : AVal} {v v' : Value} (ha : a.agg = false) (h : Rv G dead a v) (hr : ∀ cs, Rc G dead a cs → cs = [v']) : v = v' := by
  obtain ⟨cs, hc, h | h⟩ := h
  · rw [ha] at h; cases h.1
  · have := hr cs hc
    rw [h.2] at this
    simpa using this
theorem toV_eq {G : Gh} {dead : List Nat} {a : AVal} {v v' : Value} (ht : toV a = some v') (h : Rv G dead a v) : v = v' := by
  unfold toV at ht
  split at ht <;> simp only [Option.some.injEq, reduceCtorEq] at ht <;> subst ht <;> exact leaf_eq rfl h (fun cs hc => hc)

end Go.Proofs.YtbidmbjkjpdgdaaDoor.Abs
