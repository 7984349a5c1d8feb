/-
  The abstract semantics, twenty-first part: a call is handed the boxes that it needs, and no others.
-/
import Derived.Test.YtbidmbjkjpdgdaaDoorAbs20
set_option linter.unusedVariables false
set_option linter.unusedSimpArgs false
namespace Go.Proofs.YtbidmbjkjpdgdaaDoor.Abs

def AVal.ren (fb : Nat → Option Nat) (ft : Nat → Nat) : AVal → AVal
  | .own t T xs => .own (ft t) T xs
  | .cons a b => .cons (a.ren fb ft) (b.ren fb ft)
  | .bptr b p => match fb b with
    | some c => .bptr c p
    | none => .any
  | .func fn a b => .func fn (a.ren fb ft) (b.ren fb ft)
  | .mref b => match fb b with
    | some c => .mref c
    | none => .any
  | .yref b => match fb b with
    | some c => .yref c
    | none => .any
  | .lobj g i k env => .lobj g i k (env.ren fb ft)
  | .iface t v => .iface t (v.ren fb ft)
  | .tuple v => .tuple (v.ren fb ft)
  | a => a

structure GRen (G : Gh) (dead : List Nat) (G' : Gh) (dead' : List Nat) (fb : Nat → Option Nat) (ft : Nat → Nat) : Prop where
  imm : G'.imm = G.imm
  addr : ∀ b c, fb b = some c → ∀ blk, G.addr[b]? = some blk → G'.addr[c]? = some blk
  own : ∀ t, t ∉ dead → G'.own (ft t) = G.own t
  dead : ∀ t, t ∈ dead → ft t ∈ dead'

theorem ren_agg (fb : Nat → Option Nat) (ft : Nat → Nat) (a : AVal) : (a.ren fb ft).agg = a.agg := by
  cases a <;> try rfl
  all_goals
    simp only [AVal.ren]
    split <;> rfl
theorem ren_knd (fb : Nat → Option Nat) (ft : Nat → Nat) (a : AVal) : (a.ren fb ft).knd = a.knd := by
  cases a <;> try rfl
  all_goals
    simp only [AVal.ren]
    split <;> rfl

theorem ren_rp {G G' : Gh} {dead dead' : List Nat} {fb : Nat → Option Nat} {ft : Nat → Nat} (g : GRen G dead G' dead' fb ft) : (a : AVal) → (∀ cs, (Rp G dead a).1 cs → (Rp G' dead' (a.ren fb ft)).1 cs) ∧ (∀ vs, (Rp G dead a).2 vs → (Rp G' dead' (a.ren fb ft)).2 vs)
  | .d T x => ⟨fun cs h => by show RD G'.imm T x cs; rw [g.imm]; exact h, fun _ h => h⟩
  | .own tok T xs => ⟨fun cs h => by
      obtain ⟨hr, A, cap, rfl, h⟩ := h
      refine ⟨by rw [g.imm]; exact hr, A, cap, rfl, ?_⟩
      by_cases hd : tok ∈ dead
      · exact .inl (g.dead tok hd)
      · rcases h with h | h | ⟨b, row, rfl, h1, h2, h3⟩
        · exact absurd h hd
        · exact .inr (.inl h)
        · exact .inr (.inr ⟨b, row, rfl, by rw [g.own tok hd]; exact h1, by rw [g.imm]; exact h2, h3⟩), fun _ h => h⟩
  | .nil => ⟨fun _ h => h, fun _ h => h⟩
  | .cons a t => by
    have m1 := ren_rp g a
    have m2 := ren_rp g t
    exact ⟨fun cs h => by
      obtain ⟨c1, c2, rfl, h1, h2⟩ := h
      exact ⟨c1, c2, rfl, m1.1 _ h1, m2.1 _ h2⟩, fun vs h => by
      obtain ⟨v, l, rfl, ⟨cs, hc, hv⟩, hl⟩ := h
      exact ⟨v, l, rfl, ⟨cs, m1.1 _ hc, by rw [ren_agg]; exact hv⟩, m2.2 _ hl⟩⟩
  | .pnil => ⟨fun _ h => h, fun _ h => h⟩
  | .bptr b p => ⟨fun cs h => by
      obtain ⟨blk, hb, ho, rfl⟩ := h
      simp only [AVal.ren]
      cases hf : fb b with
      | none => rfl
      | some c => exact ⟨blk, g.addr b c hf blk hb, ho, rfl⟩, fun _ h => h.elim⟩
  | .iptr T x => ⟨fun cs h => by
      obtain ⟨b, off, row, rfl, hb, hl, hr⟩ := h
      exact ⟨b, off, row, rfl, by rw [g.imm]; exact hb, hl, by rw [g.imm]; exact hr⟩, fun _ h => h⟩
  | .func fn f c => by
    have m1 := ren_rp g f
    have m2 := ren_rp g c
    exact ⟨fun cs h => by
      obtain ⟨fv, cv, rfl, h1, h2⟩ := h
      exact ⟨fv, cv, rfl, m1.2 _ h1, m2.2 _ h2⟩, fun _ h => h⟩
  | .fnil => ⟨fun _ h => h, fun _ h => h⟩
  | .snil => ⟨fun _ h => h, fun _ h => h⟩
  | .iface t v => by
    have m1 := ren_rp g v
    exact ⟨fun cs h => by
      obtain ⟨v', rfl, c, hc, hv⟩ := h
      exact ⟨v', rfl, c, m1.1 _ hc, by rw [ren_agg]; exact hv⟩, fun _ h => h⟩
  | .inil => ⟨fun _ h => h, fun _ h => h⟩
  | .tuple vs => by
    have m1 := ren_rp g vs
    exact ⟨fun cs h => by
      obtain ⟨l, rfl, hl⟩ := h
      exact ⟨l, rfl, m1.2 _ hl⟩, fun _ h => h⟩
  | .any => ⟨fun _ h => h, fun _ h => h⟩
  | .mnil => ⟨fun _ h => h, fun _ h => h⟩
  | .mref b => ⟨fun cs h => by
      obtain ⟨blk, hb, rfl⟩ := h
      simp only [AVal.ren]
      cases hf : fb b with
      | none => rfl
      | some c => exact ⟨blk, g.addr b c hf blk hb, rfl⟩, fun _ h => h.elim⟩
  | .mobj K V xs => ⟨fun cs h => by show RM G'.imm K V xs cs; rw [g.imm]; exact h, fun _ h => h⟩
  | .yref b => ⟨fun cs h => by
      obtain ⟨blk, hb, rfl⟩ := h
      simp only [AVal.ren]
      cases hf : fb b with
      | none => rfl
      | some c => exact ⟨blk, g.addr b c hf blk hb, rfl⟩, fun _ h => h.elim⟩
  | .lobj _ _ _ env => ⟨(ren_rp g env).2, fun _ h => h.elim⟩
theorem ren_v {G G' : Gh} {dead dead' : List Nat} {fb : Nat → Option Nat} {ft : Nat → Nat} (g : GRen G dead G' dead' fb ft) {a : AVal} {v : Value} (h : Rv G dead a v) : Rv G' dead' (a.ren fb ft) v := by
  obtain ⟨cs, hc, hv⟩ := h
  exact ⟨cs, (ren_rp g a).1 cs hc, by rw [ren_agg]; exact hv⟩

/-! ### What a call is told by -/
structure CSpec where
  A : List PTy
  I : List PTy
  nt : Nat
  O : List PTy
  ntO : Nat
  R : PTy
@[reducible] def CSpec.In (S : CSpec) : Type := Els S.A × Els S.I
@[reducible] def CSpec.Out (S : CSpec) : Type := S.R.El × Els S.O

/-- Which box of a pattern is which box of a value. -/
def unif : AVal → AVal → List (Nat × Nat)
  | .bptr j _, .bptr b _ => [(j, b)]
  | .mref j, .mref b => [(j, b)]
  | .yref j, .yref b => [(j, b)]
  | .cons a t, .cons b u => unif a b ++ unif t u
  | .func _ a t, .func _ b u => unif a b ++ unif t u
  | _, _ => []
def PTy.unif : PTy → AVal → List (Nat × Nat)
  | .fix a, v => Abs.unif a v
  | .cons p q, .cons a b => p.unif a ++ q.unif b
  | .tup p, .tuple a => p.unif a
  | .lp _ _ p, .lobj _ _ _ env => p.unif env
  | _, _ => []
def unifs : List PTy → List AVal → List (Nat × Nat)
  | p :: ps, a :: az => p.unif a ++ unifs ps az
  | _, _ => []
def lookN (j : Nat) : List (Nat × Nat) → Option Nat
  | [] => none
  | q :: l => bif q.1 == j then some q.2 else lookN j l
/-- The boxes that are handed on: those to which arguments point, and such boxes, where the pattern says so. -/
def selI (box : List AVal) : List PTy → Nat → List (Nat × Nat) → List Nat
  | [], _, _ => []
  | p :: ps, j, l => match lookN j l with
    | some b => b :: selI box ps (j + 1) (l ++ p.unif (box.getD b .any))
    | none => []
def selA (S : CSpec) (args : List AVal) (B : Bx) : List Nat := selI B.box S.I 0 (unifs S.A args)
def idxIn (b : Nat) : List Nat → Option Nat
  | [] => none
  | c :: l => bif b == c then some 0 else match idxIn b l with
    | some i => some (i + 1)
    | none => none
theorem idxIn_spec {b : Nat} : {l : List Nat} → {i : Nat} → idxIn b l = some i → l[i]? = some b
  | [], i, h => by simp [idxIn] at h
  | c :: l, i, h => by
    simp only [idxIn] at h
    cases hb : b == c with
    | true =>
      simp only [hb, cond_true, Option.some.injEq] at h
      subst h
      have : b = c := by simpa using hb
      simp [this]
    | false =>
      simp only [hb, cond_false] at h
      split at h
      · rename_i j hj
        simp only [Option.some.injEq] at h
        subst h
        simpa using idxIn_spec hj
      · cases h

def nodupB : List Nat → Bool
  | [] => true
  | b :: l => !l.contains b && nodupB l
theorem nodupB_spec : {l : List Nat} → nodupB l = true → l.Nodup
  | [], _ => List.nodup_nil
  | b :: l, h => by
    simp only [nodupB, Bool.and_eq_true, Bool.not_eq_true'] at h
    refine List.nodup_cons.2 ⟨fun hm => ?_, nodupB_spec h.2⟩
    have := List.contains_iff_mem.2 hm
    rw [h.1] at this; cases this

/-- Some boxes written anew. -/
def setSel : List AVal → List Nat → List AVal → List AVal
  | bs, s :: ss, a :: az => setSel (bs.set s a) ss az
  | bs, _, _ => bs
theorem setSel_len : {bs : List AVal} → {ss : List Nat} → {az : List AVal} → (setSel bs ss az).length = bs.length
  | bs, [], az => by cases az <;> rfl
  | bs, s :: ss, [] => rfl
  | bs, s :: ss, a :: az => by simp [setSel, setSel_len (bs := bs.set s a)]
theorem setSel_other {i : Nat} : {bs : List AVal} → {ss : List Nat} → {az : List AVal} → i ∉ ss → (setSel bs ss az)[i]? = bs[i]?
  | bs, [], az, _ => by cases az <;> rfl
  | bs, s :: ss, [], _ => rfl
  | bs, s :: ss, a :: az, h => by
    simp only [List.mem_cons, not_or] at h
    simp only [setSel]
    rw [setSel_other h.2, List.getElem?_set_ne (Ne.symm h.1)]
theorem setSel_at {i b : Nat} : {bs : List AVal} → {ss : List Nat} → {az : List AVal} → ss.Nodup → ss.length ≤ az.length → ss[i]? = some b → b < bs.length → (setSel bs ss az)[b]? = az[i]?
  | bs, [], az, _, _, h, _ => by simp at h
  | bs, s :: ss, [], _, hl, _, _ => by simp at hl
  | bs, s :: ss, a :: az, hn, hl, h, hb => by
    simp only [setSel]
    obtain ⟨h1, h2⟩ := List.nodup_cons.1 hn
    cases i with
    | zero =>
      simp only [List.getElem?_cons_zero, Option.some.injEq] at h
      subst h
      rw [setSel_other h1]
      simp [hb]
    | succ i =>
      simp only [List.getElem?_cons_succ] at h ⊢
      exact setSel_at h2 (by simpa using hl) h (by simpa using hb)

def backB (sel : List Nat) (n : Nat) (i : Nat) : Option Nat := match sel[i]? with
  | some b => some b
  | none => some (n + (i - sel.length))

def callB (S : CSpec) (args : List AVal) (B : Bx) (r : S.Out) : AVal × Bx :=
  let sel := selA S args B
  let fb := fun b => idxIn b sel
  let outs := (encs S.O r.2).map fun a => a.ren (backB sel B.box.length) (B.nt + ·)
  (((S.R.enc r.1).ren (backB sel B.box.length) (B.nt + ·)),
    ⟨setSel B.box sel outs ++ outs.drop sel.length, SPat.toks ⟨S.A, S.I, S.nt⟩ (args.map fun a => a.ren fb id) ⟨sel.map fun b => (B.box.getD b .any).ren fb id, B.dead, B.nt⟩ ++ B.dead, B.nt + S.ntO⟩)

def callK {X : Type} (S : CSpec) (f : S.In → Option S.Out) (args : List AVal) (B : Bx) (k : AVal → Bx → Option X) : Option X :=
  let sel := selA S args B
  let fb := fun b => idxIn b sel
  bif nodupB sel && sel.length == S.I.length && sel.all (fun b => decide (b < B.box.length)) && args.length == S.A.length then
    match SPat.dec ⟨S.A, S.I, S.nt⟩ (args.map fun a => a.ren fb id) ⟨sel.map fun b => (B.box.getD b .any).ren fb id, B.dead, B.nt⟩ with
    | some x => (f x).bind fun r => k (callB S args B r).1 (callB S args B r).2
    | none => none
  else none

def CSpec.ok (S : CSpec) : Bool := SPat.ok ⟨S.A, S.I, S.nt⟩ && decide (S.I.length ≤ S.O.length)

end Go.Proofs.YtbidmbjkjpdgdaaDoor.Abs
