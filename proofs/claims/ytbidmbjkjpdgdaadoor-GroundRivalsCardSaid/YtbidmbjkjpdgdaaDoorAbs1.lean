/-
  An abstract semantics with typed data, proved once over any program: the types of data, abstract values, what a memory holds of them.
-/
import Derived.WalkKit
import Derived.Orders
set_option linter.unusedVariables false
set_option linter.unusedSimpArgs false
namespace Go.Proofs.YtbidmbjkjpdgdaaDoor.Abs

/-! ### 1. Types of plain data -/
inductive DTy where
  | int (k : IntKind) | bool | str | list (e : DTy) | nil | cons (h t : DTy) | arr (n : Nat) (e : DTy)
  deriving DecidableEq

@[reducible] def DTy.El : DTy → Type
  | .int _ => Int
  | .bool => Bool
  | .str => ByteArray
  | .list e => List e.El
  | .nil => Unit
  | .cons h t => h.El × t.El
  | .arr _ e => List e.El

def DTy.sz : DTy → Nat
  | .int _ => 1
  | .bool => 1
  | .str => 1
  | .list _ => 1
  | .nil => 0
  | .cons h t => h.sz + t.sz
  | .arr n e => n * e.sz

def DTy.agg : DTy → Bool
  | .nil => true
  | .cons _ _ => true
  | .arr _ _ => true
  | _ => false

def DTy.dflt : (T : DTy) → T.El
  | .int _ => (0 : Int)
  | .bool => false
  | .str => (⟨#[]⟩ : ByteArray)
  | .list _ => []
  | .nil => ()
  | .cons h t => (h.dflt, t.dflt)
  | .arr n e => List.replicate n e.dflt

/-- What cells read as: typed data. 'imm': what is known of blocks whose first cells do not change any more. -/
def RD (imm : Nat → Option (List Value)) : (T : DTy) → T.El → List Value → Prop
  | .int k, n, cs => cs = [.int k n]
  | .bool, b, cs => cs = [.bool b]
  | .str, s, cs => cs = [.string s]
  | .nil, _, cs => cs = []
  | .cons h t, x, cs => ∃ c1 c2, cs = c1 ++ c2 ∧ RD imm h x.1 c1 ∧ RD imm t x.2 c2
  | .arr n e, xs, cs => xs.length = n ∧ cs.length = n * e.sz ∧ ∀ (i : Nat) (x : e.El), xs[i]? = some x → RD imm e x ((cs.drop (i * e.sz)).take e.sz)
  | .list e, xs, cs => ∃ A cap, cs = [.slice A xs.length cap] ∧ xs.length ≤ cap ∧ (xs ≠ [] → ∃ b off row, A = some ⟨b, off, none⟩ ∧ imm b = some row ∧
      off + xs.length * e.sz ≤ row.length ∧ ∀ (i : Nat) (x : e.El), xs[i]? = some x → RD imm e x ((row.drop (off + i * e.sz)).take e.sz))

/-- More is known. -/
def ImmLe (imm imm' : Nat → Option (List Value)) : Prop := ∀ b row, imm b = some row → ∃ row', imm' b = some row' ∧ row <+: row'
theorem ImmLe.refl (imm : Nat → Option (List Value)) : ImmLe imm imm := fun b row h => ⟨row, h, List.prefix_refl _⟩
theorem ImmLe.trans {a b c : Nat → Option (List Value)} (h : ImmLe a b) (h' : ImmLe b c) : ImmLe a c := fun x row hx => by
  obtain ⟨r1, h1, p1⟩ := h x row hx
  obtain ⟨r2, h2, p2⟩ := h' x r1 h1
  exact ⟨r2, h2, p1.trans p2⟩

theorem take_drop_prefix {α : Type} {l l' : List α} (h : l <+: l') {i n : Nat} (hn : i + n ≤ l.length) : (l'.drop i).take n = (l.drop i).take n := by
  obtain ⟨t, rfl⟩ := h
  rw [List.drop_append_of_le_length (by omega), List.take_append_of_le_length (by simp; omega)]

theorem RD.len {imm : Nat → Option (List Value)} : {T : DTy} → {x : T.El} → {cs : List Value} → RD imm T x cs → cs.length = T.sz
  | .int k, n, cs, h => by have h : cs = [.int k n] := h; subst h; rfl
  | .bool, b, cs, h => by have h : cs = [.bool b] := h; subst h; rfl
  | .str, s, cs, h => by have h : cs = [.string s] := h; subst h; rfl
  | .nil, _, cs, h => by have h : cs = [] := h; subst h; rfl
  | .cons a t, x, cs, h => by
    obtain ⟨c1, c2, rfl, h1, h2⟩ := h
    have e1 := RD.len h1
    have e2 := RD.len h2
    simp [DTy.sz, e1, e2]
  | .arr n e, xs, cs, h => h.2.1
  | .list e, xs, cs, h => by obtain ⟨A, cap, rfl, _⟩ := h; rfl

theorem RD.mono {imm imm' : Nat → Option (List Value)} (hi : ImmLe imm imm') : {T : DTy} → {x : T.El} → {cs : List Value} → RD imm T x cs → RD imm' T x cs
  | .int k, n, cs, h => h
  | .bool, b, cs, h => h
  | .str, s, cs, h => h
  | .nil, _, cs, h => h
  | .cons a t, x, cs, h => by
    obtain ⟨c1, c2, rfl, h1, h2⟩ := h
    exact ⟨c1, c2, rfl, RD.mono hi h1, RD.mono hi h2⟩
  | .arr n e, xs, cs, h => ⟨h.1, h.2.1, fun i x hx => RD.mono hi (h.2.2 i x hx)⟩
  | .list e, xs, cs, h => by
    obtain ⟨A, cap, rfl, hc, hr⟩ := h
    refine ⟨A, cap, rfl, hc, fun hne => ?_⟩
    obtain ⟨b, off, row, rfl, hb, hl, hx⟩ := hr hne
    obtain ⟨row', hb', hp⟩ := hi b row hb
    refine ⟨b, off, row', rfl, hb', Nat.le_trans hl hp.length_le, fun i x hix => ?_⟩
    have hil : i < xs.length := (List.getElem?_eq_some_iff.1 hix).1
    have : off + i * e.sz + e.sz ≤ row.length := by
      have h1 : (i + 1) * e.sz ≤ xs.length * e.sz := Nat.mul_le_mul_right _ hil
      rw [Nat.add_mul, Nat.one_mul] at h1
      omega
    rw [take_drop_prefix hp this]
    exact RD.mono hi (hx i x hix)

/-! ### 2. Abstract values -/
inductive PStep where
  | fld (k off : Nat)
  | ix (i esz n : Nat)

/-- How far a path leads. -/
def PStep.off : PStep → Nat
  | .fld _ o => o
  | .ix i s _ => i * s
def offP : List PStep → Nat
  | [] => 0
  | s :: p => s.off + offP p
def okP : List PStep → Prop
  | [] => True
  | .fld _ _ :: p => okP p
  | .ix i _ n :: p => i < n ∧ okP p

inductive AVal where
  | d (T : DTy) (x : T.El)
  | own (tok : Nat) (T : DTy) (xs : List T.El)
  | nil
  | cons (h t : AVal)
  | pnil
  | bptr (b : Nat) (p : List PStep)
  | iptr (T : DTy) (x : T.El)
  | func (fn : Fn) (first cap : AVal)
  | fnil
  | snil
  | iface (t : TypeId) (v : AVal)
  | inil
  | tuple (vs : AVal)
  | any
  | mnil
  | mref (b : Nat)
  | mobj (K V : DTy) (xs : List (K.El × V.El))
  | yref (b : Nat)
  | lobj (g i k : Nat) (env : AVal)

/-- How many values a chain has. -/
def AVal.clen : AVal → Nat
  | .cons _ t => t.clen + 1
  | _ => 0
def AVal.size : AVal → Nat
  | .d T _ => T.sz
  | .nil => 0
  | .cons h t => h.size + t.size
  | .mobj _ _ xs => 2 * xs.length
  | .lobj _ _ _ env => env.clen
  | _ => 1
/-- What a box is: cells, a map, or the record of a range over a function. -/
inductive Knd where
  | cells
  | map
  | loop (g i k : Nat)
def AVal.knd : AVal → Knd
  | .mobj _ _ _ => .map
  | .lobj g i k _ => .loop g i k
  | _ => .cells
/-- A map's own entries, a loop's record; these are in boxes alone. -/
def AVal.isM : AVal → Bool
  | .mobj _ _ _ => true
  | .lobj _ _ _ _ => true
  | _ => false
def AVal.agg : AVal → Bool
  | .d T _ => T.agg
  | .nil => true
  | .cons _ _ => true
  | .mobj _ _ _ => true
  | .lobj _ _ _ _ => true
  | _ => false
theorem knd_cells {a : AVal} (h : a.isM = false) : a.knd = .cells := by
  cases a <;> first | rfl | simp [AVal.isM] at h

/-- A value for data: an aggregate, or a value of its own. -/
def VD (imm : Nat → Option (List Value)) (T : DTy) (x : T.El) (v : Value) : Prop := ∃ cs, RD imm T x cs ∧ ((T.agg = true ∧ v = .agg cs.toArray) ∨ (T.agg = false ∧ cs = [v]))
theorem VD.mono {imm imm' : Nat → Option (List Value)} (hi : ImmLe imm imm') {T : DTy} {x : T.El} {v : Value} (h : VD imm T x v) : VD imm' T x v := by
  obtain ⟨cs, h1, h2⟩ := h
  exact ⟨cs, RD.mono hi h1, h2⟩
/-- A map's keys and values, in turn. -/
def RM (imm : Nat → Option (List Value)) (K V : DTy) : List (K.El × V.El) → List Value → Prop
  | [], cs => cs = []
  | x :: xs, cs => ∃ k v l, cs = k :: v :: l ∧ VD imm K x.1 k ∧ VD imm V x.2 v ∧ RM imm K V xs l
theorem RM.len {imm : Nat → Option (List Value)} {K V : DTy} : {xs : List (K.El × V.El)} → {cs : List Value} → RM imm K V xs cs → cs.length = 2 * xs.length
  | [], cs, h => by have h : cs = [] := h; subst h; rfl
  | x :: xs, cs, h => by
    obtain ⟨k, v, l, rfl, _, _, h⟩ := h
    have := RM.len h
    simp only [List.length_cons, this]
    omega
theorem RM.mono {imm imm' : Nat → Option (List Value)} (hi : ImmLe imm imm') {K V : DTy} : {xs : List (K.El × V.El)} → {cs : List Value} → RM imm K V xs cs → RM imm' K V xs cs
  | [], cs, h => h
  | x :: xs, cs, h => by
    obtain ⟨k, v, l, e, h1, h2, h⟩ := h
    exact ⟨k, v, l, e, h1.mono hi, h2.mono hi, RM.mono hi h⟩

/-- What is known besides: unchanging cells by block; the block, and its size, of an owned row by its token; the blocks of the boxes. -/
structure Gh where
  imm : Nat → Option (List Value)
  own : Nat → Option (Nat × Nat)
  addr : List Nat

/-- A value, or a list of values, stands for an abstract one: first its cells, then (of a chain) its values one by one. -/
def Rp (G : Gh) (dead : List Nat) : AVal → (List Value → Prop) × (List Value → Prop)
  | .d T x => (RD G.imm T x, fun _ => False)
  | .own tok T xs => (fun cs => RD G.imm (.list T) xs cs ∧ ∃ A cap, cs = [.slice A xs.length cap] ∧
      (tok ∈ dead ∨ (xs = [] ∧ A = none ∧ cap = 0) ∨ ∃ b row, A = some ⟨b, 0, none⟩ ∧ G.own tok = some (b, cap * T.sz) ∧ G.imm b = some row ∧ row.length = xs.length * T.sz), fun _ => False)
  | .nil => (fun cs => cs = [], fun vs => vs = [])
  | .cons h t => (fun cs => ∃ c1 c2, cs = c1 ++ c2 ∧ (Rp G dead h).1 c1 ∧ (Rp G dead t).1 c2,
      fun vs => ∃ v l, vs = v :: l ∧ (∃ cs, (Rp G dead h).1 cs ∧ ((h.agg = true ∧ v = .agg cs.toArray) ∨ (h.agg = false ∧ cs = [v]))) ∧ (Rp G dead t).2 l)
  | .pnil => (fun cs => cs = [.pointer none], fun _ => False)
  | .bptr b p => (fun cs => ∃ blk, G.addr[b]? = some blk ∧ okP p ∧ cs = [.pointer (some ⟨blk, offP p, none⟩)], fun _ => False)
  | .iptr T x => (fun cs => ∃ b off row, cs = [.pointer (some ⟨b, off, none⟩)] ∧ G.imm b = some row ∧ off + T.sz ≤ row.length ∧ RD G.imm T x ((row.drop off).take T.sz), fun _ => False)
  | .func fn f c => (fun cs => ∃ fv cv, cs = [.func fn fv.toArray cv.toArray] ∧ (Rp G dead f).2 fv ∧ (Rp G dead c).2 cv, fun _ => False)
  | .fnil => (fun cs => cs = [.nilFunc], fun _ => False)
  | .snil => (fun cs => cs = [.slice none 0 0], fun _ => False)
  | .iface t v => (fun cs => ∃ v', cs = [.iface t v'] ∧ ∃ c, (Rp G dead v).1 c ∧ ((v.agg = true ∧ v' = .agg c.toArray) ∨ (v.agg = false ∧ c = [v'])), fun _ => False)
  | .inil => (fun cs => cs = [.nilIface], fun _ => False)
  | .tuple vs => (fun cs => ∃ l, cs = [.tuple l.toArray] ∧ (Rp G dead vs).2 l, fun _ => False)
  | .any => (fun cs => cs.length = 1, fun _ => False)
  | .mnil => (fun cs => cs = [.map none], fun _ => False)
  | .mref b => (fun cs => ∃ blk, G.addr[b]? = some blk ∧ cs = [.map (some blk)], fun _ => False)
  | .mobj K V xs => (RM G.imm K V xs, fun _ => False)
  | .yref b => (fun cs => ∃ blk, G.addr[b]? = some blk ∧ cs = [.func (.yield blk) #[] #[]], fun _ => False)
  | .lobj _ _ _ env => ((Rp G dead env).2, fun _ => False)

abbrev Rc (G : Gh) (dead : List Nat) (a : AVal) (cs : List Value) : Prop := (Rp G dead a).1 cs
abbrev Rl (G : Gh) (dead : List Nat) (a : AVal) (vs : List Value) : Prop := (Rp G dead a).2 vs
/-- A value stands for an abstract one. -/
def Rv (G : Gh) (dead : List Nat) (a : AVal) (v : Value) : Prop :=
  ∃ cs, Rc G dead a cs ∧ ((a.agg = true ∧ v = .agg cs.toArray) ∨ (a.agg = false ∧ cs = [v]))

theorem Rl.len {G : Gh} {dead : List Nat} : {a : AVal} → {vs : List Value} → (Rp G dead a).2 vs → vs.length = a.clen
  | .nil, vs, h => by have h : vs = [] := h; subst h; rfl
  | .cons a t, vs, h => by
    obtain ⟨v, l, rfl, _, h2⟩ := h
    have := Rl.len (a := t) h2
    simp [AVal.clen, this]
  | .d .., vs, h | .own .., vs, h | .pnil, vs, h | .bptr .., vs, h | .iptr .., vs, h | .func .., vs, h | .fnil, vs, h | .snil, vs, h | .iface .., vs, h | .inil, vs, h | .tuple .., vs, h | .any, vs, h | .mnil, vs, h | .mref _, vs, h | .mobj .., vs, h | .yref _, vs, h | .lobj .., vs, h => h.elim
theorem Rc.len {G : Gh} {dead : List Nat} : {a : AVal} → {cs : List Value} → Rc G dead a cs → cs.length = a.size
  | .d T x, cs, h => RD.len h
  | .own tok T xs, cs, h => by obtain ⟨_, A, cap, rfl, _⟩ := h; rfl
  | .nil, cs, h => by have h : cs = [] := h; subst h; rfl
  | .cons a t, cs, h => by
    obtain ⟨c1, c2, rfl, h1, h2⟩ := h
    have e1 := Rc.len (a := a) h1
    have e2 := Rc.len (a := t) h2
    simp [AVal.size, e1, e2]
  | .pnil, cs, h => by have h : cs = [.pointer none] := h; subst h; rfl
  | .bptr b p, cs, h => by obtain ⟨_, _, _, rfl⟩ := h; rfl
  | .iptr T x, cs, h => by obtain ⟨_, _, _, rfl, _⟩ := h; rfl
  | .func fn f c, cs, h => by obtain ⟨_, _, rfl, _⟩ := h; rfl
  | .fnil, cs, h => by have h : cs = [.nilFunc] := h; subst h; rfl
  | .snil, cs, h => by have h : cs = [.slice none 0 0] := h; subst h; rfl
  | .iface t v, cs, h => by obtain ⟨_, rfl, _⟩ := h; rfl
  | .inil, cs, h => by have h : cs = [.nilIface] := h; subst h; rfl
  | .tuple vs, cs, h => by obtain ⟨_, rfl, _⟩ := h; rfl
  | .any, cs, h => h
  | .mnil, cs, h => by have h : cs = [.map none] := h; subst h; rfl
  | .mref b, cs, h => by obtain ⟨_, _, rfl⟩ := h; rfl
  | .mobj K V xs, cs, h => RM.len h
  | .yref b, cs, h => by obtain ⟨_, _, rfl⟩ := h; rfl
  | .lobj _ _ _ env, cs, h => Rl.len (a := env) h

/-- What must stay for abstract values to be stood for as before. -/
structure GLe (G : Gh) (dead : List Nat) (G' : Gh) (dead' : List Nat) : Prop where
  imm : ImmLe G.imm G'.imm
  addr : G.addr <+: G'.addr
  dead : ∀ t, t ∈ dead → t ∈ dead'
  own : ∀ t b n row, t ∉ dead' → G.own t = some (b, n) → G.imm b = some row → G'.own t = some (b, n) ∧ G'.imm b = some row
theorem GLe.refl (G : Gh) (dead : List Nat) : GLe G dead G dead := ⟨ImmLe.refl _, List.prefix_refl _, fun _ h => h, fun _ _ _ _ _ h h' => ⟨h, h'⟩⟩

theorem prefix_getElem? {α : Type} {l l' : List α} (h : l <+: l') {i : Nat} {x : α} (hx : l[i]? = some x) : l'[i]? = some x := by
  obtain ⟨t, rfl⟩ := h
  rw [List.getElem?_append_left (List.getElem?_eq_some_iff.1 hx).1, hx]

theorem Rp.mono {G G' : Gh} {dead dead' : List Nat} (g : GLe G dead G' dead') : (a : AVal) → (∀ cs, (Rp G dead a).1 cs → (Rp G' dead' a).1 cs) ∧ (∀ vs, (Rp G dead a).2 vs → (Rp G' dead' a).2 vs)
  | .d T x => ⟨fun cs h => RD.mono g.imm h, fun _ h => h⟩
  | .own tok T xs => ⟨fun cs h => by
      obtain ⟨hr, A, cap, rfl, h⟩ := h
      refine ⟨RD.mono g.imm hr, A, cap, rfl, ?_⟩
      by_cases hd : tok ∈ dead'
      · exact .inl hd
      · rcases h with h | h | ⟨b, row, rfl, h1, h2, h3⟩
        · exact .inl (g.dead _ h)
        · exact .inr (.inl h)
        · obtain ⟨e1, e2⟩ := g.own tok b _ row hd h1 h2
          exact .inr (.inr ⟨b, row, rfl, e1, e2, h3⟩), fun _ h => h⟩
  | .nil => ⟨fun _ h => h, fun _ h => h⟩
  | .cons a t => by
    have m1 := Rp.mono g a
    have m2 := Rp.mono g t
    exact ⟨fun cs h => by
      obtain ⟨c1, c2, rfl, h1, h2⟩ := h
      exact ⟨c1, c2, rfl, m1.1 _ h1, m2.1 _ h2⟩, fun vs h => by
      obtain ⟨v, l, rfl, ⟨cs, hc, hv⟩, hl⟩ := h
      exact ⟨v, l, rfl, ⟨cs, m1.1 _ hc, hv⟩, m2.2 _ hl⟩⟩
  | .pnil => ⟨fun _ h => h, fun _ h => h⟩
  | .bptr b p => ⟨fun cs h => by
      obtain ⟨blk, hb, ho, rfl⟩ := h
      exact ⟨blk, prefix_getElem? g.addr hb, ho, rfl⟩, fun _ h => h⟩
  | .iptr T x => ⟨fun cs h => by
      obtain ⟨b, off, row, rfl, hb, hl, hr⟩ := h
      obtain ⟨row', hb', hp⟩ := g.imm b row hb
      refine ⟨b, off, row', rfl, hb', Nat.le_trans hl hp.length_le, ?_⟩
      rw [take_drop_prefix hp hl]
      exact RD.mono g.imm hr, fun _ h => h⟩
  | .func fn f c => by
    have m1 := Rp.mono g f
    have m2 := Rp.mono g c
    exact ⟨fun cs h => by
      obtain ⟨fv, cv, rfl, h1, h2⟩ := h
      exact ⟨fv, cv, rfl, m1.2 _ h1, m2.2 _ h2⟩, fun _ h => h⟩
  | .fnil => ⟨fun _ h => h, fun _ h => h⟩
  | .snil => ⟨fun _ h => h, fun _ h => h⟩
  | .iface t v => by
    have m1 := Rp.mono g v
    exact ⟨fun cs h => by
      obtain ⟨v', rfl, c, hc, hv⟩ := h
      exact ⟨v', rfl, c, m1.1 _ hc, hv⟩, fun _ h => h⟩
  | .inil => ⟨fun _ h => h, fun _ h => h⟩
  | .tuple vs => by
    have m1 := Rp.mono g vs
    exact ⟨fun cs h => by
      obtain ⟨l, rfl, hl⟩ := h
      exact ⟨l, rfl, m1.2 _ hl⟩, fun _ h => h⟩
  | .any => ⟨fun _ h => h, fun _ h => h⟩
  | .mnil => ⟨fun _ h => h, fun _ h => h⟩
  | .mref b => ⟨fun cs h => by
      obtain ⟨blk, hb, rfl⟩ := h
      exact ⟨blk, prefix_getElem? g.addr hb, rfl⟩, fun _ h => h⟩
  | .mobj K V xs => ⟨fun cs h => RM.mono g.imm h, fun _ h => h⟩
  | .yref b => ⟨fun cs h => by
      obtain ⟨blk, hb, rfl⟩ := h
      exact ⟨blk, prefix_getElem? g.addr hb, rfl⟩, fun _ h => h⟩
  | .lobj _ _ _ env => ⟨(Rp.mono g env).2, fun _ h => h⟩

theorem Rc.mono {G G' : Gh} {dead dead' : List Nat} (g : GLe G dead G' dead') {a : AVal} {cs : List Value} (h : Rc G dead a cs) : Rc G' dead' a cs := (Rp.mono g a).1 cs h
theorem Rl.mono {G G' : Gh} {dead dead' : List Nat} (g : GLe G dead G' dead') {a : AVal} {vs : List Value} (h : Rl G dead a vs) : Rl G' dead' a vs := (Rp.mono g a).2 vs h
theorem Rv.mono {G G' : Gh} {dead dead' : List Nat} (g : GLe G dead G' dead') {a : AVal} {v : Value} (h : Rv G dead a v) : Rv G' dead' a v := by
  obtain ⟨cs, hc, hv⟩ := h
  exact ⟨cs, hc.mono g, hv⟩

end Go.Proofs.YtbidmbjkjpdgdaaDoor.Abs
