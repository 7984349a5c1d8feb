/-
  The abstract semantics, twenty-fourth part: calls that change nothing, proved by other means.
-/
import Derived.Test.YtbidmbjkjpdgdaaDoorAbs23
set_option linter.unusedVariables false
set_option linter.unusedSimpArgs false
namespace Go.Proofs.YtbidmbjkjpdgdaaDoor.Abs

/-- A world that holds all that there was, and more. -/
structure Grew (w w' : World) : Prop where
  os : w'.os = w.os
  tape : w'.tape = w.tape
  output : w'.output = w.output
  size : w.heap.size ≤ w'.heap.size
  same : ∀ b, b < w.heap.size → w'.heap[b]? = w.heap[b]?
theorem Grew.refl (w : World) : Grew w w := ⟨rfl, rfl, rfl, Nat.le_refl _, fun _ _ => rfl⟩
theorem Grew.ext {w w' : World} (h : Grew w w') (G : Gh) : Ext G w G w' := ⟨h.os, h.tape, h.output, h.size, fun b hb _ _ => h.same b hb, ImmLe.refl _, fun _ _ _ => rfl, fun _ h => .inl h, fun t b n h => .inl ⟨t, h⟩⟩
theorem WOk.grew {G : Gh} {B : Bx} {w w' : World} (h : WOk G B w) (g : Grew w w') : WOk G B w' := by
  refine ⟨h.len, h.nodup, fun i b c hb hc => ?_, fun b row hb => ?_, h.disj, fun t b n ht => ?_, h.inj, h.tab.ext (g.ext G)⟩
  · have hbo := h.boxes i b c hb hc
    obtain ⟨_, _, k, _⟩ := id hbo
    exact hbo.mono (GLe.refl _ _) (g.same b (heap_lt k))
  · obtain ⟨cs, e, fr, k, hp⟩ := h.imm b row hb
    exact ⟨cs, e, fr, by rw [g.same b (heap_lt k)]; exact k, hp⟩
  · obtain ⟨h1, h2, cs, e, k, h3⟩ := h.own t b n ht
    exact ⟨h1, h2, cs, e, by rw [g.same b (heap_lt k)]; exact k, h3⟩

/-! ### Functions that read boxes, and leave them as they are: the boxes as unchanging -/
def DTy.flat : DTy → Bool
  | .int _ => true
  | .bool => true
  | .str => true
  | .list _ => false
  | .nil => true
  | .cons h t => h.flat && t.flat
  | .arr _ e => e.flat
theorem RD.flat {imm imm' : Nat → Option (List Value)} : {T : DTy} → T.flat = true → {x : T.El} → {cs : List Value} → RD imm T x cs → RD imm' T x cs
  | .int k, _, n, cs, h => h
  | .bool, _, b, cs, h => h
  | .str, _, s, cs, h => h
  | .nil, _, _, cs, h => h
  | .cons a t, hf, x, cs, h => by
    simp only [DTy.flat, Bool.and_eq_true] at hf
    obtain ⟨c1, c2, rfl, h1, h2⟩ := h
    exact ⟨c1, c2, rfl, RD.flat hf.1 h1, RD.flat hf.2 h2⟩
  | .arr n e, hf, xs, cs, h => ⟨h.1, h.2.1, fun i x hx => RD.flat (T := e) hf (h.2.2 i x hx)⟩
  | .list e, hf, xs, cs, h => by simp [DTy.flat] at hf
def PTy.flat : PTy → Bool
  | .dat T => T.flat
  | .cons h t => h.flat && t.flat
  | .nil => true
  | .tup p => p.flat
  | _ => false
theorem enc_flat {G G' : Gh} {d d' : List Nat} : {p : PTy} → p.flat = true → (x : p.El) → (∀ cs, Rc G d (p.enc x) cs → Rc G' d' (p.enc x) cs) ∧ (∀ vs, Rl G d (p.enc x) vs → Rl G' d' (p.enc x) vs)
  | .dat T, h, x => ⟨fun cs hc => RD.flat (T := T) h hc, fun _ h => h⟩
  | .cons p q, h, x => by
    simp only [PTy.flat, Bool.and_eq_true] at h
    have m1 := enc_flat (G := G) (G' := G') (d := d) (d' := d') h.1 x.1
    have m2 := enc_flat (G := G) (G' := G') (d := d) (d' := d') h.2 x.2
    exact ⟨fun cs h => by
      obtain ⟨c1, c2, rfl, h1, h2⟩ := h
      exact ⟨c1, c2, rfl, m1.1 _ h1, m2.1 _ h2⟩, fun vs h => by
      obtain ⟨v, l, rfl, ⟨cs, hc, hv⟩, hl⟩ := h
      exact ⟨v, l, rfl, ⟨cs, m1.1 _ hc, hv⟩, m2.2 _ hl⟩⟩
  | .nil, _, x => ⟨fun _ h => h, fun _ h => h⟩
  | .tup p, h, x => by
    have m1 := enc_flat (p := p) (G := G) (G' := G') (d := d) (d' := d') h x
    exact ⟨fun cs h => by
      obtain ⟨l, rfl, hl⟩ := h
      exact ⟨l, rfl, m1.2 _ hl⟩, fun _ h => h⟩
  | .any, h, _ | .fix _, h, _ | .own _ _, h, _ | .map _ _, h, _ | .ip _, h, _ | .lp _ _ _, h, _ => by simp [PTy.flat] at h

/-- An argument that points to a box, as one that points to what does not change. -/
def viewOne (B : Bx) : PTy → AVal → AVal
  | .ip T, .bptr b p => match B.box[b]? with
    | some c => match getP c p with
      | some c' => match asData c' T with
        | some x => .iptr T x
        | none => .bptr b p
      | none => .bptr b p
    | none => .bptr b p
  | _, a => a
def viewA (B : Bx) : List PTy → List AVal → List AVal
  | p :: ps, a :: az => viewOne B p a :: viewA B ps az
  | _, az => az
theorem viewA_len {B : Bx} : {ps : List PTy} → {az : List AVal} → (viewA B ps az).length = az.length
  | [], az => by cases az <;> rfl
  | p :: ps, [] => rfl
  | p :: ps, a :: az => by simp [viewA, viewA_len (ps := ps) (az := az)]

/-- Boxes as unchanging. -/
def frzG (G : Gh) (w : World) : Gh := { G with imm := fun b => if b ∈ G.addr then (match w.heap[b]? with | some (.cells c _ _) => some c.toList | _ => none) else G.imm b }
theorem frzG_le {G : Gh} {B : Bx} {w : World} (hw : WOk G B w) : GLe G B.dead (frzG G w) B.dead := by
  have key : ∀ b row, G.imm b = some row → (frzG G w).imm b = some row := fun b row h => by
    have : b ∉ G.addr := fun hm => by rw [hw.disj b hm] at h; cases h
    simp [frzG, this, h]
  exact ⟨fun b row h => ⟨row, key b row h, List.prefix_refl _⟩, List.prefix_refl _, fun _ h => h, fun t b n row _ h h' => ⟨h, key b row h'⟩⟩
theorem asData_notM {a : AVal} {T : DTy} {x : T.El} (h : asData a T = some x) : a.isM = false := by
  cases a <;> first | rfl | simp [asData] at h
theorem viewOne_v {G : Gh} {B : Bx} {w : World} (hw : WOk G B w) {p : PTy} {a : AVal} {v : Value} (h : Rv G B.dead a v) : Rv (frzG G w) B.dead (viewOne B p a) v := by
  have hg := frzG_le hw
  have base := h.mono hg
  unfold viewOne
  split
  · rename_i T b q
    split
    · rename_i c hc
      split
      · rename_i c' hc'
        split
        · rename_i x hx
          obtain ⟨blk, hb, hq, rfl⟩ := ptr_form h
          obtain ⟨cells, e, hh, hrc⟩ := (hw.boxes b blk c hb hc).cells (getP_notM hc' (asData_notM hx))
          obtain ⟨hle, hr⟩ := getP_spec hc' hq _ hrc
          have hl := Rc.len hr
          have hd := asData_spec hx _ hr
          have hdl := RD.len hd
          have hmem : blk ∈ G.addr := List.mem_of_getElem? hb
          have himm : (frzG G w).imm blk = some cells.toList := by simp [frzG, hmem, hh]
          refine leaf_v rfl ⟨blk, offP q, cells.toList, rfl, himm, by omega, ?_⟩
          have : T.sz = c'.size := by omega
          rw [this]
          exact RD.mono hg.imm hd
        · exact base
      · exact base
    · exact base
  · exact base
theorem viewA_vals {G : Gh} {B : Bx} {w : World} (hw : WOk G B w) : {ps : List PTy} → {az : List AVal} → {vs : List Value} → Vals G B.dead az vs → Vals (frzG G w) B.dead (viewA B ps az) vs
  | _, _, _, .nil => by
    rename_i ps
    cases ps <;> exact .nil
  | ps, _, _, .cons h t => by
    cases ps with
    | nil => exact .cons (h.mono (frzG_le hw)) (by have := viewA_vals hw (ps := []) t; rename_i az _; cases az <;> exact this)
    | cons p ps => exact .cons (viewOne_v hw h) (viewA_vals hw t)

def viewK {X : Type} (A : List PTy) (R : PTy) (f : Els A → Option R.El) (args : List AVal) (B : Bx) (k : AVal → Bx → Option X) : Option X :=
  bif args.length == A.length then
    match decs A (viewA B A args) with
    | some x => (f x.1).bind fun r => k (R.enc r) B
    | none => none
  else none

theorem view_sound {P : Program} {g : FuncId} {A : List PTy} {R : PTy} {f : Els A → Option R.El} (hA : A.all PTy.pure = true) (hR : R.flat = true) (hent : Ent P g)
    (hcall : ∀ x r, f x = some r → LCall 0 P g (encs A x) ⟨[], [], 0⟩ (R.enc r) ⟨[], [], 0⟩)
    {X : Type} {args : List AVal} {B : Bx} {k : AVal → Bx → Option X} {res : X} (h : viewK A R f args B k = some res) : ∃ r, k (R.enc r) B = some res ∧ ACall P g args B (R.enc r) B := by
  unfold viewK at h
  cases hb : args.length == A.length with
  | false => rw [hb] at h; cases h
  | true =>
    rw [hb] at h
    simp only [cond_true] at h
    have hlen : args.length = A.length := by simpa using hb
    split at h
    · rename_i x hd
      obtain ⟨x, l⟩ := x
      cases hfx : f x with
      | none => simp only [hfx] at h; cases h
      | some r =>
        simp only [hfx, Option.bind_some] at h
        refine ⟨r, h, .inr hent, fun G w vs hvs hw => ?_⟩
        have hvs' := viewA_vals hw (ps := A) hvs
        let Gn : Gh := { imm := (frzG G w).imm, own := fun _ => none, addr := [] }
        have hr : ReTok (frzG G w) B.dead Gn 0 [] := ⟨rfl, by simp [Gn], fun k t h => by cases h⟩
        have hvn := decs_vals hr hA (by rw [viewA_len]; exact hlen) hd vs hvs'
        have hwn : WOk Gn ⟨[], [], 0⟩ w := ⟨rfl, List.nodup_nil, fun i b c h => by simp [Gn] at h, fun b row hb => by
          have hb' : (if b ∈ G.addr then (match w.heap[b]? with | some (.cells c _ _) => some c.toList | _ => none) else G.imm b) = some row := hb
          split at hb'
          · split at hb'
            · rename_i c e fr hc
              simp only [Option.some.injEq] at hb'
              exact ⟨c, e, fr, hc, by rw [hb']; exact List.prefix_refl _⟩
            · cases hb'
          · exact hw.imm b row hb', (fun b h => by cases h), (fun t b n h => by cases h), (fun t t' b n n' h => by cases h), fun q hq => ⟨(hw.tab q hq).1, (fun h => by cases h), (fun t n h => by cases h)⟩⟩
        refine ((hcall x r hfx).2 Gn w vs hvn hwn).mono ?_
        rintro e w' ⟨cv, Gc, rfl, hcv, hwc, hext, _⟩
        have noown : ∀ b t n, Gn.own t ≠ some (b, n) := fun b t n h => by cases h
        have hsame : ∀ b, b < w.heap.size → b ∉ G.addr → Gc.imm b = G.imm b := fun b hb ha => by
          rw [hext.same b hb (noown b)]
          show (if b ∈ G.addr then _ else G.imm b) = _
          rw [if_neg ha]
        have hfr : ∀ b, b < w.heap.size → w'.heap[b]? = w.heap[b]? := fun b hb => hext.frame b hb (by simp [Gn]) (noown b)
        let Go : Gh := { G with imm := fun b => if b ∈ G.addr then none else Gc.imm b }
        have hGo : ∀ b, b ∉ G.addr → Go.imm b = Gc.imm b := fun b hb => by show (if b ∈ G.addr then none else Gc.imm b) = _; rw [if_neg hb]
        have hGi : ∀ b, b ∈ G.addr → Go.imm b = none := fun b hb => by show (if b ∈ G.addr then none else Gc.imm b) = _; rw [if_pos hb]
        have nota : ∀ b row, G.imm b = some row → b ∉ G.addr := fun b row hb hm => by rw [hw.disj b hm] at hb; cases hb
        have hle : ImmLe G.imm Go.imm := fun b row hb => by
          have hna := nota b row hb
          obtain ⟨row', h1, h2⟩ := hext.imm b row (by show (if b ∈ G.addr then _ else G.imm b) = _; rw [if_neg hna]; exact hb)
          exact ⟨row', by rw [hGo b hna]; exact h1, h2⟩
        have hgle : GLe G B.dead Go B.dead := ⟨hle, List.prefix_refl _, fun _ h => h, fun t b n row _ ho hi => ⟨ho, by
          obtain ⟨_, _, cells, e, hh, _⟩ := hw.own t b n ho
          rw [hGo b (nota b row hi), hsame b (heap_lt hh) (nota b row hi)]; exact hi⟩⟩
        refine ⟨cv, Go, rfl, ?_, ?_, hgle, ?_⟩
        · obtain ⟨cs, h1, h2⟩ := hcv
          exact ⟨cs, (enc_flat (G := Gc) (G' := Go) hR r).1 cs h1, h2⟩
        · refine ⟨hw.len, hw.nodup, fun i b c hib hc => ?_, fun b row hb => ?_, fun b hb => hGi b hb, fun t b n ht => ?_, hw.inj, fun q hq => ⟨(hwc.tab q hq).1, (hw.tab q hq).2⟩⟩
          · have hbo := hw.boxes i b c hib hc
            obtain ⟨o', cs, k1, _, _⟩ := id hbo
            exact hbo.mono hgle (hfr b (heap_lt k1))
          · have hna : b ∉ G.addr := fun hm => by rw [hGi b hm] at hb; cases hb
            rw [hGo b hna] at hb
            exact hwc.imm b row hb
          · obtain ⟨k1, ⟨row, k2⟩, cells, e, k3, k4⟩ := hw.own t b n ht
            exact ⟨k1, ⟨row, by rw [hGo b (nota b row k2), hsame b (heap_lt k3) (nota b row k2)]; exact k2⟩, cells, e, by rw [hfr b (heap_lt k3)]; exact k3, k4⟩
        · refine ⟨hext.os, hext.tape, hext.output, hext.size, fun b hb _ _ => hfr b hb, hle, fun b hb _ => ?_, fun b hb => .inl hb, fun t b n ht => .inl ⟨t, ht⟩⟩
          by_cases hm : b ∈ G.addr
          · rw [hGi b hm, hw.disj b hm]
          · rw [hGo b hm, hsame b hb hm]
    · cases h

end Go.Proofs.YtbidmbjkjpdgdaaDoor.Abs
