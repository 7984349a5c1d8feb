/-
  The abstract semantics, twenty-third part: functions by their typed data.
-/
import Derived.Test.YtbidmbjkjpdgdaaDoorAbs22
set_option linter.unusedVariables false
set_option linter.unusedSimpArgs false
namespace Go.Proofs.YtbidmbjkjpdgdaaDoor.Abs

def oneE : (p : PTy) → Els [p] → p.El
  | .any, _ => ()
  | .fix _, _ => ()
  | .nil, _ => ()
  | .dat _, x => x.1
  | .own _ _, x => x.1
  | .cons _ _, x => x.1
  | .tup _, x => x.1
  | .map _ _, x => x.1
  | .ip _, x => x.1
  | .lp _ _ _, x => x.1
theorem oneE_enc (p : PTy) (x : Els [p]) : encs [p] x = [p.enc (oneE p x)] := by
  cases p <;> rfl
def finK (S : CSpec) (v : AVal) (B : Bx) : Option S.Out :=
  match SPat.dec ⟨[S.R], S.O, S.ntO⟩ [v] B with
  | some x => some (oneE S.R x.1, x.2)
  | none => none

def CSpec.ok2 (S : CSpec) : Bool := SPat.ok ⟨[S.R], S.O, S.ntO⟩

theorem fn_lcall {P : Program} {C : CalT} {Ls : List LoopT} {g : FuncId} {fn : Func} {c : Code} {S : CSpec} {f : S.In → Option S.Out} (hm : P.follows .mixedOrders = true) (hf : P.funcs[g]? = some fn) (hb : fn.body = some c) (hent : Ent P g) (hC : CV P C)
    (hL : LV S.I.length P false (loopsOf c) Ls) (hS : S.ok = true) (hS2 : S.ok2 = true) (hev : ∀ x, fnR P C Ls fn c (encs S.A x.1) ⟨encs S.I x.2, [], S.nt⟩ (finK S) = f x) :
    ∀ x r, f x = some r → LCall S.I.length P g (encs S.A x.1) ⟨encs S.I x.2, [], S.nt⟩ (S.R.enc r.1) ⟨encs S.O r.2, [], S.ntO⟩ := by
  intro x r hr
  obtain ⟨v, B', hk, hl⟩ := fnR_sound hm hf hb hent hC hL ((hev x).trans hr)
  unfold finK at hk
  split at hk
  · rename_i z hz
    simp only [Option.some.injEq] at hk
    subst hk
    simp only [CSpec.ok, Bool.and_eq_true, decide_eq_true_eq] at hS
    refine ⟨hl.1, fun G w vs hvs hw => (hl.2 G w vs hvs hw).mono ?_⟩
    rintro e w' ⟨cv, G1, rfl, h1, h2, h3, h4⟩
    have hok : Ok G1 B' [v] { tmps := #[cv], defers := [] } w' := ⟨⟨rfl, fun t => by
      cases t with
      | zero => exact h1
      | succ t => exact any_v _⟩, h2, trivial⟩
    obtain ⟨G2, g2⟩ := norm_sound (n := S.I.length) hS2 hS.2 hz hok
    refine ⟨cv, G2, rfl, by have := g2.ok.env.val 0; unfold SPat.encE at this; rw [oneE_enc] at this; exact this, g2.ok.w, h3.trans g2.ext, fun i b hi hb => g2.held i b hi (h4 i b hi hb)⟩
  · cases hk

/-! ### Functions of data alone -/
def PTy.pure : PTy → Bool
  | .dat _ => true
  | .fix a => Abs.under 0 a && sameA a a
  | .cons h t => h.pure && t.pure
  | .nil => true
  | .tup p => p.pure
  | .ip _ => true
  | _ => false
theorem pure_under : {p : PTy} → p.pure = true → p.under 0 = true
  | .dat _, _ => rfl
  | .fix a, h => h
  | .cons a b, h => by
    simp only [PTy.pure, Bool.and_eq_true] at h
    simp only [PTy.under, Bool.and_eq_true]
    exact ⟨pure_under h.1, pure_under h.2⟩
  | .nil, _ => rfl
  | .tup p, h => pure_under (p := p) h
  | .ip _, _ => rfl
  | .any, h | .own _ _, h | .map _ _, h | .lp _ _ _, h => by simp [PTy.pure] at h
theorem pure_toks : {p : PTy} → p.pure = true → {a : AVal} → {x : p.El} → {l : List (Nat × Nat)} → p.dec a = some (x, l) → l = []
  | .dat T, _, a, x, l, h => by
    simp only [PTy.dec] at h
    split at h
    · simp only [Option.some.injEq, Prod.mk.injEq] at h; exact h.2.symm
    · cases h
  | .fix b, _, a, x, l, h => by
    simp only [PTy.dec] at h
    cases hb : sameA b a with
    | false => rw [hb] at h; cases h
    | true => simp only [hb, cond_true, Option.some.injEq, Prod.mk.injEq] at h; exact h.2.symm
  | .cons p q, hp, a, x, l, h => by
    simp only [PTy.pure, Bool.and_eq_true] at hp
    cases a with
    | cons a b =>
      simp only [PTy.dec] at h
      split at h
      · rename_i y l1 z l2 h1 h2
        simp only [Option.some.injEq, Prod.mk.injEq] at h
        rw [← h.2, pure_toks hp.1 h1, pure_toks hp.2 h2]; rfl
      · cases h
    | d T w =>
      cases T with
      | cons T U =>
        simp only [PTy.dec] at h
        split at h
        · rename_i y l1 z l2 h1 h2
          simp only [Option.some.injEq, Prod.mk.injEq] at h
          rw [← h.2, pure_toks hp.1 h1, pure_toks hp.2 h2]; rfl
        · cases h
      | _ => simp [PTy.dec] at h
    | _ => simp [PTy.dec] at h
  | .nil, _, a, x, l, h => by
    cases a with
    | nil => simp only [PTy.dec, Option.some.injEq, Prod.mk.injEq] at h; exact h.2.symm
    | d T w => cases T <;> simp [PTy.dec] at h; exact h
    | _ => simp [PTy.dec] at h
  | .tup p, hp, a, x, l, h => by
    cases a with
    | tuple a =>
      simp only [PTy.dec] at h
      cases hb : p.lst with
      | false => rw [hb] at h; cases h
      | true =>
        simp only [hb, cond_true] at h
        exact pure_toks (p := p) hp h
    | _ => simp [PTy.dec] at h
  | .ip T, _, a, x, l, h => (dec_ip h).2
  | .any, hp, _, _, _, _ | .own _ _, hp, _, _, _, _ | .map _ _, hp, _, _, _, _ | .lp _ _ _, hp, _, _, _, _ => by simp [PTy.pure] at hp

/-- What a function of data is told by: its arguments, its result. -/
def pureS (A : List PTy) (R : PTy) : CSpec := ⟨A, [], 0, [], 0, R⟩

def pureK {X : Type} (A : List PTy) (R : PTy) (f : Els A → Option R.El) (args : List AVal) (B : Bx) (k : AVal → Bx → Option X) : Option X :=
  bif args.length == A.length then
    match decs A args with
    | some x => (f x.1).bind fun r => k (R.enc r) B
    | none => none
  else none

theorem enc_pure {G G' : Gh} {d d' : List Nat} (hi : G'.imm = G.imm) : {p : PTy} → p.pure = true → (x : p.El) → (∀ cs, Rc G d (p.enc x) cs → Rc G' d' (p.enc x) cs) ∧ (∀ vs, Rl G d (p.enc x) vs → Rl G' d' (p.enc x) vs)
  | .dat T, _, x => ⟨fun cs h => by show RD G'.imm T x cs; rw [hi]; exact h, fun _ h => h⟩
  | .fix a, h, x => by
    simp only [PTy.pure, Bool.and_eq_true] at h
    have := ren0 a h.1 h.2
    exact this
  | .cons p q, h, x => by
    simp only [PTy.pure, Bool.and_eq_true] at h
    have m1 := enc_pure (d := d) (d' := d') hi h.1 x.1
    have m2 := enc_pure (d := d) (d' := d') hi h.2 x.2
    exact ⟨fun cs h => by
      obtain ⟨c1, c2, rfl, h1, h2⟩ := h
      exact ⟨c1, c2, rfl, m1.1 _ h1, m2.1 _ h2⟩, fun vs h => by
      obtain ⟨v, l, rfl, ⟨cs, hc, hv⟩, hl⟩ := h
      exact ⟨v, l, rfl, ⟨cs, m1.1 _ hc, hv⟩, m2.2 _ hl⟩⟩
  | .nil, _, x => ⟨fun _ h => h, fun _ h => h⟩
  | .tup p, h, x => by
    have m1 := enc_pure (p := p) (d := d) (d' := d') hi h x
    exact ⟨fun cs h => by
      obtain ⟨l, rfl, hl⟩ := h
      exact ⟨l, rfl, m1.2 _ hl⟩, fun _ h => h⟩
  | .ip T, _, x => ⟨fun cs h => by
      obtain ⟨b, off, row, e, h1, h2, h3⟩ := h
      exact ⟨b, off, row, e, by rw [hi]; exact h1, h2, by rw [hi]; exact h3⟩, fun _ h => h.elim⟩
  | .any, h, _ | .own _ _, h, _ | .map _ _, h, _ | .lp _ _ _, h, _ => by simp [PTy.pure] at h
where
  ren0 : (a : AVal) → Abs.under 0 a = true → sameA a a = true → (∀ cs, (Rp G d a).1 cs → (Rp G' d' a).1 cs) ∧ (∀ vs, (Rp G d a).2 vs → (Rp G' d' a).2 vs)
  | .nil, _, _ => ⟨fun _ h => h, fun _ h => h⟩
  | .cons a b, hu, hs => by
    simp only [Abs.under, Bool.and_eq_true] at hu
    simp only [sameA, Bool.and_eq_true] at hs
    have m1 := ren0 a hu.1 hs.1
    have m2 := ren0 b hu.2 hs.2
    exact ⟨fun cs h => by
      obtain ⟨c1, c2, rfl, h1, h2⟩ := h
      exact ⟨c1, c2, rfl, m1.1 _ h1, m2.1 _ h2⟩, fun vs h => by
      obtain ⟨v, l, rfl, ⟨cs, hc, hv⟩, hl⟩ := h
      exact ⟨v, l, rfl, ⟨cs, m1.1 _ hc, hv⟩, m2.2 _ hl⟩⟩
  | .pnil, _, _ => ⟨fun _ h => h, fun _ h => h⟩
  | .fnil, _, _ => ⟨fun _ h => h, fun _ h => h⟩
  | .snil, _, _ => ⟨fun _ h => h, fun _ h => h⟩
  | .mnil, _, _ => ⟨fun _ h => h, fun _ h => h⟩
  | .mref b, hu, _ => by simp [Abs.under] at hu
  | .yref b, hu, _ => by simp [Abs.under] at hu
  | .inil, _, _ => ⟨fun _ h => h, fun _ h => h⟩
  | .bptr b p, hu, _ => by simp [Abs.under] at hu
  | .func fn f c, hu, hs => by
    simp only [Abs.under, Bool.and_eq_true] at hu
    simp only [sameA, Bool.and_eq_true] at hs
    have m1 := ren0 f hu.1 hs.1.2
    have m2 := ren0 c hu.2 hs.2
    exact ⟨fun cs h => by
      obtain ⟨fv, cv, rfl, h1, h2⟩ := h
      exact ⟨fv, cv, rfl, m1.2 _ h1, m2.2 _ h2⟩, fun _ h => h⟩
  | .d .., _, hs | .own .., _, hs | .iptr .., _, hs | .iface .., _, hs | .tuple .., _, hs | .any, _, hs | .mobj .., _, hs | .lobj .., _, hs => by simp [sameA] at hs

theorem decs_vals {G G' : Gh} {dead : List Nat} {l0 : List (Nat × Nat)} (hr : ReTok G dead G' 0 l0) : {A : List PTy} → {args : List AVal} → {x : Els A} → {l : List (Nat × Nat)} → A.all PTy.pure = true → args.length = A.length → decs A args = some (x, l) → ∀ vs, Vals G dead args vs → Vals G' [] (encs A x) vs
  | [], [], _, _, _, _, _, _, .nil => .nil
  | p :: ps, a :: az, x, l, hp, hl, h, _, .cons (vs := vs) hv t => by
    simp only [List.all_cons, Bool.and_eq_true] at hp
    obtain ⟨y, l1, z, l2, h1, h2, _, he⟩ := decs_cons h
    have e := pure_toks hp.1 h1
    subst e
    rw [he]
    exact .cons (dec_v hr h1 (under_top (pure_under hp.1)) (fun q hq => by cases hq) hv) (decs_vals hr hp.2 (by simpa using hl) h2 vs t)

theorem pure_sound {P : Program} {g : FuncId} {A : List PTy} {R : PTy} {f : Els A → Option R.El} (hA : A.all PTy.pure = true) (hR : R.pure = true) (hent : Ent P g)
    (hcall : ∀ x r, f x = some r → LCall 0 P g (encs A x) ⟨[], [], 0⟩ (R.enc r) ⟨[], [], 0⟩)
    {X : Type} {args : List AVal} {B : Bx} {k : AVal → Bx → Option X} {res : X} (h : pureK A R f args B k = some res) : ∃ r, k (R.enc r) B = some res ∧ ACall P g args B (R.enc r) B := by
  unfold pureK at h
  cases hb : args.length == A.length with
  | false => rw [hb] at h; cases h
  | true =>
    rw [hb] at h
    simp only [cond_true] at h
    have hlen : args.length = A.length := by simpa using hb
    split at h
    · rename_i x hd
      obtain ⟨x, l⟩ := x
      cases hfx : f x with
      | none => simp only [hfx] at h; cases h
      | some r =>
        simp only [hfx, Option.bind_some] at h
        refine ⟨r, h, .inr hent, fun G w vs hvs hw => ?_⟩
        let Gn : Gh := { imm := G.imm, own := fun _ => none, addr := [] }
        have hr : ReTok G B.dead Gn 0 [] := ⟨rfl, by simp [Gn], fun k t h => by cases h⟩
        have hvn := decs_vals hr hA hlen hd vs hvs
        have hwn : WOk Gn ⟨[], [], 0⟩ w := ⟨rfl, List.nodup_nil, fun i b c h => by simp [Gn] at h, hw.imm, (fun b h => by cases h), (fun t b n h => by cases h), (fun t t' b n n' h => by cases h), fun q hq => ⟨(hw.tab q hq).1, (fun h => by cases h), (fun t n h => by cases h)⟩⟩
        refine ((hcall x r hfx).2 Gn w vs hvn hwn).mono ?_
        rintro e w' ⟨cv, Gc, rfl, hcv, hwc, hext, _⟩
        have noown : ∀ b t n, Gn.own t ≠ some (b, n) := fun b t n h => by cases h
        have hsame : ∀ b, b < w.heap.size → Gc.imm b = G.imm b := fun b hb => hext.same b hb (noown b)
        have hfr : ∀ b, b < w.heap.size → w'.heap[b]? = w.heap[b]? := fun b hb => hext.frame b hb (by simp [Gn]) (noown b)
        let Go : Gh := { G with imm := Gc.imm }
        have hgle : GLe G B.dead Go B.dead := ⟨hext.imm, List.prefix_refl _, fun _ h => h, fun t b n row _ ho hi => ⟨ho, by
          obtain ⟨_, _, cells, e, hh, _⟩ := hw.own t b n ho
          show Gc.imm b = some row
          rw [hsame b (heap_lt hh)]; exact hi⟩⟩
        refine ⟨cv, Go, rfl, ?_, ?_, hgle, ?_⟩
        · obtain ⟨cs, h1, h2⟩ := hcv
          exact ⟨cs, (enc_pure (G := Gc) (G' := Go) rfl hR r).1 cs h1, h2⟩
        · refine ⟨hw.len, hw.nodup, fun i b c hib hc => ?_, hwc.imm, fun b hb => ?_, fun t b n ht => ?_, hw.inj, fun q hq => ⟨(hwc.tab q hq).1, (hw.tab q hq).2⟩⟩
          · have hbo := hw.boxes i b c hib hc
            obtain ⟨o', cs, k1, _, _⟩ := id hbo
            exact hbo.mono hgle (hfr b (heap_lt k1))
          · show Gc.imm b = none
            rw [hsame b (hw.addr_lt hb)]; exact hw.disj b hb
          · obtain ⟨k1, ⟨row, k2⟩, cells, e, k3, k4⟩ := hw.own t b n ht
            exact ⟨k1, ⟨row, by show Gc.imm b = _; rw [hsame b (heap_lt k3)]; exact k2⟩, cells, e, by rw [hfr b (heap_lt k3)]; exact k3, k4⟩
        · exact ⟨hext.os, hext.tape, hext.output, hext.size, fun b hb _ _ => hfr b hb, hext.imm, fun b hb _ => hsame b hb, fun b hb => .inl hb, fun t b n ht => .inl ⟨t, ht⟩⟩
    · cases h

/-- A function of data, out of its text. -/
theorem pure_lcall {P : Program} {C : CalT} {Ls : List LoopT} {g : FuncId} {fn : Func} {c : Code} {A : List PTy} {R : PTy} {f : Els A → Option R.El} (hm : P.follows .mixedOrders = true) (hf : P.funcs[g]? = some fn) (hb : fn.body = some c) (hent : Ent P g) (hC : CV P C)
    (hL : LV 0 P false (loopsOf c) Ls) (hA : A.all PTy.pure = true) (hR : R.pure = true) (hev : ∀ x, fnR P C Ls fn c (encs A x) ⟨[], [], 0⟩ (fun v B => match R.dec v with | some y => some y.1 | none => none) = f x) :
    ∀ x r, f x = some r → LCall 0 P g (encs A x) ⟨[], [], 0⟩ (R.enc r) ⟨[], [], 0⟩ := by
  intro x r hr
  obtain ⟨v, B', hk, hl⟩ := fnR_sound (n := 0) hm hf hb hent hC hL ((hev x).trans hr)
  split at hk
  · rename_i y hy
    obtain ⟨y, l⟩ := y
    simp only [Option.some.injEq] at hk
    subst hk
    refine ⟨hl.1, fun G w vs hvs hw => (hl.2 G w vs hvs hw).mono ?_⟩
    rintro e w' ⟨cv, G1, rfl, h1, h2, h3, h4⟩
    let G2 : Gh := { imm := G1.imm, own := fun _ => none, addr := [] }
    have hr : ReTok G1 B'.dead G2 0 [] := ⟨rfl, by simp [G2], fun k t h => by cases h⟩
    have e := pure_toks hR hy
    subst e
    refine ⟨cv, G2, rfl, dec_v hr hy (under_top (pure_under hR)) (fun q hq => by cases hq) h1, ⟨rfl, List.nodup_nil, fun i b c h => by simp [G2] at h, h2.imm, (fun b h => by cases h), (fun t b n h => by cases h), (fun t t' b n n' h => by cases h), fun q hq => ⟨(h2.tab q hq).1, (fun h => by cases h), (fun t n h => by cases h)⟩⟩, ?_, fun i b hi => by omega⟩
    exact ⟨h3.os, h3.tape, h3.output, h3.size, h3.frame, h3.imm, h3.same, (fun b hb => by cases hb), (fun t b n h => by cases h)⟩
  · cases hk

end Go.Proofs.YtbidmbjkjpdgdaaDoor.Abs
