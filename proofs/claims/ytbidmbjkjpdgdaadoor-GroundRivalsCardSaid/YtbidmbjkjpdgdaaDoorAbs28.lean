/-
  The abstract semantics, twenty-eighth part: ranges over functions.
-/
import Derived.Test.YtbidmbjkjpdgdaaDoorAbs27
set_option linter.unusedVariables false
set_option linter.unusedSimpArgs false
set_option maxRecDepth 100000
namespace Go.Proofs.YtbidmbjkjpdgdaaDoor.Abs

/-- What is owned, as data. -/
def frzA : AVal → AVal
  | .own _ T xs => .d (.list T) xs
  | .cons h t => .cons (frzA h) (frzA t)
  | .func fn a b => .func fn (frzA a) (frzA b)
  | .iface t v => .iface t (frzA v)
  | .tuple v => .tuple (frzA v)
  | a => a
theorem frzA_agg (a : AVal) : (frzA a).agg = a.agg := by cases a <;> rfl
theorem frzA_rp {G : Gh} {dead : List Nat} : (a : AVal) → (∀ cs, (Rp G dead a).1 cs → (Rp G dead (frzA a)).1 cs) ∧ (∀ vs, (Rp G dead a).2 vs → (Rp G dead (frzA a)).2 vs)
  | .own tok T xs => ⟨fun cs h => h.1, fun _ h => h.elim⟩
  | .cons a t => by
    have m1 := frzA_rp (G := G) (dead := dead) a
    have m2 := frzA_rp (G := G) (dead := dead) t
    exact ⟨fun cs h => by
      obtain ⟨c1, c2, rfl, h1, h2⟩ := h
      exact ⟨c1, c2, rfl, m1.1 _ h1, m2.1 _ h2⟩, fun vs h => by
      obtain ⟨v, l, rfl, ⟨cs, hc, hv⟩, hl⟩ := h
      exact ⟨v, l, rfl, ⟨cs, m1.1 _ hc, by rw [frzA_agg]; exact hv⟩, m2.2 _ hl⟩⟩
  | .func fn f c => by
    have m1 := frzA_rp (G := G) (dead := dead) f
    have m2 := frzA_rp (G := G) (dead := dead) c
    exact ⟨fun cs h => by
      obtain ⟨fv, cv, rfl, h1, h2⟩ := h
      exact ⟨fv, cv, rfl, m1.2 _ h1, m2.2 _ h2⟩, fun _ h => h⟩
  | .iface t v => by
    have m1 := frzA_rp (G := G) (dead := dead) v
    exact ⟨fun cs h => by
      obtain ⟨v', rfl, c, hc, hv⟩ := h
      exact ⟨v', rfl, c, m1.1 _ hc, by rw [frzA_agg]; exact hv⟩, fun _ h => h⟩
  | .tuple vs => by
    have m1 := frzA_rp (G := G) (dead := dead) vs
    exact ⟨fun cs h => by
      obtain ⟨l, rfl, hl⟩ := h
      exact ⟨l, rfl, m1.2 _ hl⟩, fun _ h => h⟩
  | .d .. => ⟨fun _ h => h, fun _ h => h⟩
  | .nil => ⟨fun _ h => h, fun _ h => h⟩
  | .pnil => ⟨fun _ h => h, fun _ h => h⟩
  | .bptr .. => ⟨fun _ h => h, fun _ h => h⟩
  | .iptr .. => ⟨fun _ h => h, fun _ h => h⟩
  | .fnil => ⟨fun _ h => h, fun _ h => h⟩
  | .snil => ⟨fun _ h => h, fun _ h => h⟩
  | .inil => ⟨fun _ h => h, fun _ h => h⟩
  | .any => ⟨fun _ h => h, fun _ h => h⟩
  | .mnil => ⟨fun _ h => h, fun _ h => h⟩
  | .mref _ => ⟨fun _ h => h, fun _ h => h⟩
  | .mobj .. => ⟨fun _ h => h, fun _ h => h⟩
  | .yref _ => ⟨fun _ h => h, fun _ h => h⟩
  | .lobj .. => ⟨fun _ h => h, fun _ h => h⟩

/-- What is done behind the rounds, by the state of the record. -/
def selJ {X : Type} (k : AExit → Option X) : List AExit → Nat → Option X
  | [], _ => none
  | x :: xs, j => bif j == jumpNo x then k x else selJ k xs j
theorem selJ_spec {X : Type} {k : AExit → Option X} {r : X} : {xs : List AExit} → {j : Nat} → selJ k xs j = some r → ∃ x, j = jumpNo x ∧ k x = some r
  | x :: xs, j, h => by
    simp only [selJ] at h
    cases hb : j == jumpNo x with
    | true =>
      rw [hb] at h
      exact ⟨x, by simpa using hb, h⟩
    | false =>
      rw [hb] at h
      exact selJ_spec h

def rangeR {X : Type} (C : CalT) (g i : Nat) (f : Operand) (xs : List AExit) (env : List AVal) (B : Bx) (k : AExit → List AVal → Bx → Option X) : Option X :=
  match opA env f with
  | .func (.func gf) first cap => bif gf == YLD then none else
      C.run X gf (unchain first ++ [.yref B.box.length] ++ unchain cap) (B.push (.lobj g i 0 (chain (env.map frzA)))) fun _ B2 =>
        match B2.box[B.box.length]? with
        | some (.lobj g' i' j env') => selJ (fun e => k e env { B2 with box := B2.box.set B.box.length (.lobj g' i' 2 env') }) xs j
        | _ => none
  | _ => none
def rfT (C : CalT) (g i : Nat) (f : Operand) (xs : List AExit) : LoopT := ⟨fun X env B k => rangeR C g i f xs env B k⟩

theorem env_chain {G : Gh} {dead : List Nat} : {env : List AVal} → {vs : List Value} → env.length = vs.length → (∀ t, t < env.length → Rv G dead (env.getD t .any) (vs.getD t undef)) → Rl G dead (chain (env.map frzA)) vs
  | [], [], _, _ => rfl
  | a :: env, v :: vs, hl, h => by
    have h0 := h 0 (by simp)
    refine ⟨v, vs, rfl, ?_, env_chain (by simpa using hl) fun t ht => by simpa using h (t + 1) (by simpa using ht)⟩
    obtain ⟨cs, h1, h2⟩ := h0
    simp only [List.getD_cons_zero] at h1 h2
    exact ⟨cs, (frzA_rp a).1 cs h1, by rw [frzA_agg]; exact h2⟩

theorem grew_alloc (w : World) (o : Obj) : Grew w (w.alloc o) := ⟨rfl, rfl, rfl, by simp, fun b hb => heap_push_lt hb⟩

theorem rfT_valid {n : Nat} {P : Program} {C : CalT} {g i : Nat} {f : Operand} {ps : Array Tmp} {asg bd : Code} {xs : List AExit} (hC : CV P C) (hc : lcode g i = .rangeFunc f ps asg bd) : LValid n P (.rangeFunc f ps asg bd) (rfT C g i f xs) := by
  intro X env B k r h
  simp only [rfT] at h
  unfold rangeR at h
  split at h
  · rename_i gf first cap hf
    cases hgy : gf == YLD with
    | true => rw [hgy] at h; cases h
    | false =>
      rw [hgy] at h
      simp only [cond_false] at h
      have hgy : gf ≠ YLD := by simpa using hgy
      obtain ⟨v, B2, hk, hcr⟩ := hC _ _ _ _ _ _ h
      split at hk
      · rename_i g' i' j env' hbx
        obtain ⟨e, hj, hk⟩ := selJ_spec hk
        refine ⟨e, env, _, hk, fun ro hro G a w Q hok hQ => ?_⟩
        have hro : ro = none := by cases ro <;> simp at hro; rfl
        subst hro
        obtain ⟨hent, hcall⟩ := hcr.call
        replace hent := (hent.resolve_left hgy).2
        refine wpIn_rangeFunc ?_
        intro fn _
        obtain ⟨w1, hw1⟩ : ∃ w1, w.alloc (.deferred (some [])) = w1 := ⟨_, rfl⟩
        obtain ⟨r0, hr0⟩ : ∃ r0 : Loop, r0 = { state := .ready, pending := none, fn, tmps := a.tmps, params := ps, assign := asg, body := bd, defers := w.heap.size } := ⟨_, rfl⟩
        have hg1 : Grew w w1 := by rw [← hw1]; exact grew_alloc _ _
        have hwok1 := hok.w.grew hg1
        have hsz1 : w1.heap.size = w.heap.size + 1 := by rw [← hw1]; simp
        have hK : w1.heap[w.heap.size]? = some (.deferred (some [])) := by rw [← hw1]; exact World.alloc_heap_new w _
        have hlen := hok.env.len
        have hch : Rc G B.dead (.lobj g i 0 (chain (env.map frzA))) a.tmps.toList := by
          refine env_chain (by simpa using hlen.symm) fun t ht => ?_
          have := hok.env.val t
          rw [Array.getD_eq_getD_getElem?] at this
          rw [List.getD_eq_getElem?_getD (l := a.tmps.toList), Array.getElem?_toList]
          exact this
        obtain ⟨G1, ha1, hwok2, hle1, hext1⟩ := new_obj (o := .loop r0) (c := .lobj g i 0 (chain (env.map frzA))) (cs := a.tmps.toList) hwok1 ⟨r0, rfl, ⟨⟨f, by rw [hr0]; exact hc⟩, by rw [hr0]; rfl, fun _ => by rw [hr0]; rfl⟩, by rw [hr0]⟩ hch
        have hfv := hok.env.op (a := a) f
        rw [hf] at hfv
        obtain ⟨cs, ⟨fv, cv, rfl, h1, h2⟩, hh | hh⟩ := hfv
        · cases hh.1
        have hfe : a.eval f = .func (.func gf) fv.toArray cv.toArray := by simpa using hh.2.symm
        have hyv : Rv G1 B.dead (.yref B.box.length) (.func (.yield w1.heap.size) #[] #[]) := leaf_v rfl ⟨_, ha1, rfl⟩
        have hvals := ((vals_chain (Rl.mono hle1 h1)).append (Vals.cons hyv .nil)).append (vals_chain (Rl.mono hle1 h2))
        refine ⟨w1.heap.size, [{ target := .collected w.heap.size, args := #[] }], w1.alloc (.loop r0), { target := .fn (.func gf) cv.toArray, args := (fv ++ [Value.func (.yield w1.heap.size) #[] #[]]).toArray }, w1.alloc (.loop r0), gf, (fv ++ [Value.func (.yield w1.heap.size) #[] #[]] ++ cv).toArray, w1.alloc (.loop r0), ?_, ?_, fun _ _ => trivial, ?_, (fun h => by cases h), ?_⟩
        · have := run_enterLoop_outer (P := P) (w := w) fn a.tmps ps asg bd
          rw [hr0, hsz1, ← hw1]
          exact this
        · unfold resolve
          simp only [hfe, Deferred.ofValue, Sem.run_bind, Sem.run_pure, Result.andThen_ok]
          refine congrArg (fun z => Result.ok ({ target := Target.fn (Fn.func gf) cv.toArray, args := z } : Deferred) (w1.alloc (.loop r0))) ?_
          apply Array.ext'
          simp [Act.eval]
        · simp only [invoke]
          rw [hent]
          refine congrArg (fun z => Result.ok (Next.enter gf z) (w1.alloc (.loop r0))) ?_
          apply Array.ext'
          simp
        · refine callsIn_wide.2 (((hcall G1 _ _ hvals hwok2).1 hgy).mono ?_)
          rintro e' w3 ⟨cv', G2, rfl, g1, g2, g3, g4⟩
          have hl2 : G2.addr[B.box.length]? = some w1.heap.size := prefix_getElem? g3.addr ha1
          obtain ⟨o, cs3, k1, ⟨r3, rfl, hr3, hcs⟩, k3⟩ := g2.boxes _ _ _ hl2 hbx
          have hnb : r3.state ≠ .busy := by
            rw [hr3.2.1, hj]
            cases e <;> simp [jumpNo, stOf]
          obtain ⟨p1, p2⟩ := upd_obj (c' := .lobj g' i' 2 env') (o' := .loop { r3 with state := .exhausted }) g2 hl2 hbx k1 ⟨_, rfl, ⟨hr3.1, rfl, fun h => absurd rfl h⟩, hcs⟩ k3
          have hend := run_endLoop (P := P) k1 hnb
          have hpe : r3.pending = pendOf (jumpNo e) := by rw [hr3.2.2 (by rw [hj]; cases e <;> simp [jumpNo]), hj]
          have hx14 : Ext G1 (w1.alloc (.loop r0)) G2 (putO w3 w1.heap.size (.loop { r3 with state := .exhausted })) := g4.trans p2
          have hx04 : Ext G w G2 (putO w3 w1.heap.size (.loop { r3 with state := .exhausted })) := (hg1.ext G).trans (hext1.trans hx14)
          have hDlt : w.heap.size < w1.heap.size := by omega
          have hDne : w.heap.size ∉ G1.addr := fun hm => by
            rcases hext1.addr _ hm with hm | hm
            · have := hok.w.addr_lt hm; omega
            · omega
          have hDown : ∀ t n, G1.own t ≠ some (w.heap.size, n) := fun t n hn => by
            rcases hext1.own _ _ _ hn with ⟨t', ht⟩ | hm
            · obtain ⟨_, _, c, e, hh, _⟩ := hok.w.own _ _ _ ht
              have := heap_lt hh; omega
            · omega
          have hDheap : (w1.alloc (.loop r0)).heap[w.heap.size]? = some (.deferred (some [])) := by
            rw [← hK]; exact heap_push_lt hDlt
          have hm1 : Marks G1 (w1.alloc (.loop r0)) ({ target := .collected w.heap.size, args := #[] } :: a.defers) := by
            refine ⟨⟨w.heap.size, rfl, hDheap, hDne, hDown, fun d' hd' he => ?_⟩, hok.marks.ext ((hg1.ext G).trans hext1)⟩
            have key : ∀ ds, Marks G w ds → ∀ d' ∈ ds, d'.target ≠ .collected w.heap.size := by
              intro ds
              induction ds with
              | nil => intro _ d' h; cases h
              | cons d ds ih =>
                intro hm d' hd'
                rcases List.mem_cons.1 hd' with rfl | hd'
                · obtain ⟨⟨D, e1, e2, _⟩, _⟩ := hm
                  intro e3
                  rw [e1] at e3
                  cases e3
                  have := heap_lt e2
                  omega
                · exact ih hm.2 d' hd'
            exact key _ hok.marks d' hd' he
          have hgoes : Goes n G a w G2 { B2 with box := B2.box.set B.box.length (.lobj g' i' 2 env') } env { a with defers := [{ target := .collected w.heap.size, args := #[] }] ++ a.defers } (putO w3 w1.heap.size (.loop { r3 with state := .exhausted })) := by
            refine ⟨⟨(hok.env.mono hle1).mono g3, p1, hm1.ext hx14⟩, hx04, fun d hd => ?_, fun q b _ hb => prefix_getElem? g3.addr (prefix_getElem? hle1.addr hb)⟩
            rcases List.mem_cons.1 hd with rfl | hd
            · exact .inr ⟨_, rfl, Nat.le_refl _⟩
            · exact .inl hd
          refine ⟨_, _, hend, ?_⟩
          split
          · rename_i hp
            rw [hpe] at hp
            cases e with
            | normal => exact hQ G2 _ _ hgoes
            | ret => cases hp
            | exit id => cases hp
          · rename_i c hp
            rw [hpe] at hp
            cases e with
            | normal => cases hp
            | ret => cases hp; exact wpIn_ret (hQ G2 _ _ hgoes)
            | exit id => cases hp; exact wpIn_exit (hQ G2 _ _ hgoes)
      · cases hk
  · cases h

theorem rf_form : {c : Code} → {f : Operand} → rfOp c = some f → ∃ ps asg bd, c = .rangeFunc f ps asg bd
  | .rangeFunc f' ps asg bd, f, h => by
    simp only [rfOp, Option.some.injEq] at h
    subst h
    exact ⟨ps, asg, bd, rfl⟩
theorem isRf_form : {c : Code} → isRf c = true → ∃ f ps asg bd, c = .rangeFunc f ps asg bd
  | .rangeFunc f ps asg bd, _ => ⟨f, ps, asg, bd, rfl⟩
theorem rfT_valid' {n : Nat} {P : Program} {C : CalT} {g i : Nat} {f : Operand} {xs : List AExit} (hC : CV P C) (hf : rfOp (lcode g i) = some f) : LValid n P (lcode g i) (rfT C g i f xs) := by
  obtain ⟨ps, asg, bd, hc⟩ := rf_form hf
  have := rfT_valid (n := n) (P := P) (C := C) (xs := xs) hC hc
  rw [← hc] at this
  exact this
theorem rd_lcall' {P : Program} {C : CalT} {Ls : List LoopT} {g i : Nat} {S : CSpec} {f : S.In → Option S.Out} (hm : P.follows .mixedOrders = true) (hC : CV P C) (hc : isRf (lcode g i) = true)
    (hL : LV S.I.length P true (loopsOf (rfBody (lcode g i))) Ls) (hn : ∃ A', S.A = .fix (.yref 0) :: A') (hI : 0 < S.I.length) (hS : S.ok = true) (hS2 : S.ok2 = true) (hev : ∀ x, roundR P C Ls g i (encs S.A x.1) ⟨encs S.I x.2, [], S.nt⟩ (finK S) = f x) :
    ∀ x r, f x = some r → LCall S.I.length P YLD (encs S.A x.1) ⟨encs S.I x.2, [], S.nt⟩ (S.R.enc r.1) ⟨encs S.O r.2, [], S.ntO⟩ := by
  obtain ⟨f', ps, asg, bd, hcc⟩ := isRf_form hc
  rw [hcc] at hL
  exact rd_lcall hm hC hcc hL hn hI hS hS2 hev

end Go.Proofs.YtbidmbjkjpdgdaaDoor.Abs
