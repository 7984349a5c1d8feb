/-
  The abstract semantics, twentieth part: states told by patterns; loops.
-/
import Derived.Test.YtbidmbjkjpdgdaaDoorAbs19
import Derived.LoopN
set_option linter.unusedVariables false
set_option linter.unusedSimpArgs false
namespace Go.Proofs.YtbidmbjkjpdgdaaDoor.Abs

structure SPat where
  env : List PTy
  box : List PTy
  nt : Nat
@[reducible] def SPat.El (S : SPat) : Type := Els S.env × Els S.box
def SPat.encE (S : SPat) (x : S.El) : List AVal := encs S.env x.1
def SPat.encB (S : SPat) (x : S.El) : Bx := ⟨encs S.box x.2, [], S.nt⟩
def SPat.ok (S : SPat) : Bool := S.env.all (·.top S.box.length) && S.box.all (·.under S.box.length)
def SPat.dec (S : SPat) (env : List AVal) (B : Bx) : Option S.El :=
  match decs S.env env, decs S.box B.box with
  | some (x, l), some (y, m) => bif okToks B.dead (l ++ m) && env.length == S.env.length && (l ++ m).all (fun q => decide (q.1 < S.nt)) then some (x, y) else none
  | _, _ => none

/-- The tokens that a pattern takes up. -/
def SPat.toks (S : SPat) (env : List AVal) (B : Bx) : List Nat :=
  match decs S.env env, decs S.box B.box with
  | some (_, l), some (_, m) => (l ++ m).map (·.2)
  | _, _ => []
theorem find_tok {l : List (Nat × Nat)} {k t : Nat} (hu : ∀ k t t', (k, t) ∈ l → (k, t') ∈ l → t = t') (h : (k, t) ∈ l) : (l.find? fun q => q.1 == k) = some (k, t) := by
  cases hf : l.find? fun q => q.1 == k with
  | none =>
    have := List.find?_eq_none.1 hf (k, t) h
    simp at this
  | some q =>
    have h1 := List.find?_some hf
    have h2 := List.mem_of_find?_eq_some hf
    obtain ⟨k', t'⟩ := q
    simp only [beq_iff_eq] at h1
    subst h1
    rw [hu _ _ _ h2 h]

theorem norm_sound' {S : SPat} {n : Nat} {env : List AVal} {B : Bx} {x : S.El} {G : Gh} {a : Act} {w : World} (hS : S.ok = true) (hn : n ≤ S.box.length) (h : S.dec env B = some x) (hok : Ok G B env a w) :
    ∃ G', Goes n G a w G' (S.encB x) (S.encE x) a w ∧ G'.imm = G.imm ∧ G'.addr = G.addr.take S.box.length ∧ S.box.length ≤ G.addr.length ∧ (∀ k b c, G'.own k = some (b, c) → ∃ t, t ∈ S.toks env B ∧ G.own t = some (b, c)) := by
  unfold SPat.dec at h
  split at h
  · rename_i x1 l y1 m h1 h2
    cases hb : okToks B.dead (l ++ m) && env.length == S.env.length && (l ++ m).all (fun q => decide (q.1 < S.nt)) with
    | false => rw [hb] at h; cases h
    | true =>
      simp only [hb, cond_true, Option.some.injEq] at h
      subst h
      simp only [Bool.and_eq_true, beq_iff_eq] at hb
      obtain ⟨⟨ht, hlen⟩, hnt⟩ := hb
      obtain ⟨t1, t2, t3⟩ := okToks_spec ht
      simp only [SPat.ok, Bool.and_eq_true] at hS
      have hbl := decs_len h2
      have haddr : S.box.length ≤ G.addr.length := by rw [hok.w.len]; exact hbl
      let G' : Gh := { imm := G.imm, own := fun k => ((l ++ m).find? fun q => q.1 == k).bind fun q => G.own q.2, addr := G.addr.take S.box.length }
      have hr : ReTok G B.dead G' S.box.length (l ++ m) := ⟨rfl, rfl, fun k t hk => ⟨t1 k t hk, by
        show ((l ++ m).find? fun q => q.1 == k).bind (fun q => G.own q.2) = _
        rw [find_tok t2 hk]; rfl⟩⟩
      have hown : ∀ k b c, G'.own k = some (b, c) → ∃ t, (k, t) ∈ l ++ m ∧ G.own t = some (b, c) := fun k b c hk => by
        have hk' : ((l ++ m).find? fun q => q.1 == k).bind (fun q => G.own q.2) = some (b, c) := hk
        cases hf : (l ++ m).find? fun q => q.1 == k with
        | none => rw [hf] at hk'; cases hk'
        | some q =>
          rw [hf] at hk'
          have e1 := List.find?_some hf
          have e2 := List.mem_of_find?_eq_some hf
          simp only [beq_iff_eq] at e1
          exact ⟨q.2, by rw [← e1]; exact e2, hk'⟩
      have htoks : S.toks env B = (l ++ m).map (·.2) := by unfold SPat.toks; rw [h1, h2]
      refine ⟨G', ?_, rfl, rfl, haddr, fun k b c hk => by
        obtain ⟨t, hm, ho⟩ := hown k b c hk
        exact ⟨t, by rw [htoks]; exact List.mem_map.2 ⟨(k, t), hm, rfl⟩, ho⟩⟩
      have hext : Ext G w G' w := by
        refine ⟨rfl, rfl, rfl, Nat.le_refl _, fun _ _ _ _ => rfl, ImmLe.refl _, fun _ _ _ => rfl, fun b hb => .inl (List.mem_of_mem_take hb), fun k b c hk => ?_⟩
        obtain ⟨t, hm, ho⟩ := hown k b c hk
        exact .inl ⟨t, ho⟩
      refine ⟨⟨⟨?_, fun t => ?_⟩, ⟨?_, ?_, fun i b c hb hc => ?_, hok.w.imm, fun b hb => hok.w.disj b (List.mem_of_mem_take hb), fun k b c hk => ?_, fun k k' b c c' hk hk' => ?_, hok.w.tab.ext hext⟩, hok.marks.ext hext⟩, hext, fun _ hd => .inl hd, fun i b hi hb => ?_⟩
      · rw [hok.env.len, hlen]; simp [SPat.encE, encs_len]
      · by_cases hlt : t < S.env.length
        · obtain ⟨p, a', y, q, g1, g2, g3, g4, g5⟩ := decs_get h1 t hlt
          have hv := hok.env.val t
          rw [List.getD_eq_getElem?_getD, g2] at hv
          have hu : p.top S.box.length = true := List.all_eq_true.1 hS.1 p (List.mem_of_getElem? g1)
          have := dec_v hr g3 hu (fun z hz => List.mem_append_left _ (g5 z hz)) hv
          show Rv G' [] ((encs S.env x1).getD t .any) _
          rw [List.getD_eq_getElem?_getD, g4]
          exact this
        · have : (S.encE (x1, y1)).getD t .any = .any := by
            rw [List.getD_eq_getElem?_getD, List.getElem?_eq_none (by simp [SPat.encE, encs_len]; omega)]; rfl
          rw [this]
          exact any_v _
      · simp [G', SPat.encB, encs_len]; omega
      · exact hok.w.nodup.sublist (List.take_sublist _ _)
      · have hi : i < S.box.length := by
          have := (List.getElem?_eq_some_iff.1 hb).1
          simp [G'] at this; omega
        have hb' : G.addr[i]? = some b := by
          have : (G.addr.take S.box.length)[i]? = some b := hb
          rwa [List.getElem?_take_of_lt hi] at this
        obtain ⟨p, a', y, q, g1, g2, g3, g4, g5⟩ := decs_get h2 i hi
        obtain ⟨o, cs, k1, k0, k2⟩ := hok.w.boxes i b a' hb' g2
        have hu : p.under S.box.length = true := List.all_eq_true.1 hS.2 p (List.mem_of_getElem? g1)
        have hc' : (encs S.box y1)[i]? = some c := hc
        rw [g4] at hc'
        cases hc'
        exact ⟨o, cs, k1, by rw [dec_knd g3 hu]; exact k0, dec_spec hr g3 hu (fun z hz => List.mem_append_right _ (g5 z hz)) _ k2⟩
      · obtain ⟨t, hm, ho⟩ := hown k b c hk
        obtain ⟨_, k2, k3⟩ := hok.w.own t b c ho
        exact ⟨by have := List.all_eq_true.1 hnt (k, t) hm; simpa [SPat.encB] using this, k2, k3⟩
      · obtain ⟨t, hm, ho⟩ := hown k b c hk
        obtain ⟨t', hm', ho'⟩ := hown k' b c' hk'
        have := hok.w.inj t t' b c c' ho ho'
        subst this
        exact t3 k k' t hm hm'
      · show (G.addr.take S.box.length)[i]? = some b
        rw [List.getElem?_take_of_lt (by omega)]
        exact hb
  · cases h

theorem norm_sound {S : SPat} {n : Nat} {env : List AVal} {B : Bx} {x : S.El} {G : Gh} {a : Act} {w : World} (hS : S.ok = true) (hn : n ≤ S.box.length) (h : S.dec env B = some x) (hok : Ok G B env a w) :
    ∃ G', Goes n G a w G' (S.encB x) (S.encE x) a w := by
  obtain ⟨G', h1, _⟩ := norm_sound' hS hn h hok
  exact ⟨G', h1⟩

/-! ### Loops -/
def sameX : AExit → AExit → Bool
  | .normal, .normal => true
  | .exit i, .exit j => i == j
  | .ret, .ret => true
  | _, _ => false
theorem sameX_eq {a b : AExit} (h : sameX a b = true) : a = b := by
  cases a <;> cases b <;> simp [sameX] at h
  · rfl
  · rw [h]
  · rfl
/-- The number of a way out: 0 goes on. -/
def codeX : List AExit → AExit → Option Nat
  | _, .normal => some 0
  | [], _ => none
  | x :: xs, e => bif sameX x e then some 1 else match codeX xs e with
    | some n => some (n + 1)
    | none => none
def nthX (xs : List AExit) : Nat → AExit
  | 0 => .normal
  | n + 1 => xs.getD n .normal
theorem codeX_spec : {xs : List AExit} → {e : AExit} → {n : Nat} → codeX xs e = some n → (n = 0 ∧ e = .normal) ∨ (∃ m, n = m + 1 ∧ xs[m]? = some e)
  | _, .normal, n, h => by
    simp only [codeX, Option.some.injEq] at h
    exact .inl ⟨h.symm, rfl⟩
  | [], .exit _, n, h | [], .ret, n, h => by simp [codeX] at h
  | x :: xs, .exit i, n, h => by
    simp only [codeX] at h
    cases hb : sameX x (.exit i) with
    | true =>
      simp only [hb, cond_true, Option.some.injEq] at h
      exact .inr ⟨0, h.symm, by rw [sameX_eq hb]; rfl⟩
    | false =>
      simp only [hb, cond_false] at h
      split at h
      · rename_i m hm
        simp only [Option.some.injEq] at h
        rcases codeX_spec hm with ⟨_, h2⟩ | ⟨q, h1, h2⟩
        · cases h2
        · exact .inr ⟨q + 1, by omega, by simpa using h2⟩
      · cases h
  | x :: xs, .ret, n, h => by
    simp only [codeX] at h
    cases hb : sameX x .ret with
    | true =>
      simp only [hb, cond_true, Option.some.injEq] at h
      exact .inr ⟨0, h.symm, by rw [sameX_eq hb]; rfl⟩
    | false =>
      simp only [hb, cond_false] at h
      split at h
      · rename_i m hm
        simp only [Option.some.injEq] at h
        rcases codeX_spec hm with ⟨_, h2⟩ | ⟨q, h1, h2⟩
        · cases h2
        · exact .inr ⟨q + 1, by omega, by simpa using h2⟩
      · cases h

/-- What a round hands on. -/
def kst (S : SPat) (xs : List AExit) (e : AExit) (env : List AVal) (B : Bx) : Option (Nat × S.El) :=
  match codeX xs e with
  | some n => match S.dec env B with
    | some s => some (n, s)
    | none => none
  | none => none

/-- Rounds, as long as they go on. -/
def iter {α : Type} (step : α → Option (Nat × α)) : Nat → α → Option (Nat × α)
  | 0, _ => none
  | f + 1, x => (step x).bind fun r => match r.1 with
    | 0 => iter step f r.2
    | n + 1 => some (n, r.2)

theorem iter_rounds {n : Nat} {rd : Bool} {P : Program} {C : CalT} {Ls : List LoopT} {c : Code} {S : SPat} {xs : List AExit} {step : S.El → Option (Nat × S.El)} (hm : P.follows .mixedOrders = true) (hC : CV P C) (hL : LV n P rd (loopsOf c) Ls) (hS : S.ok = true) (hn : n ≤ S.box.length)
    (hbody : ∀ s, codeR P C c Ls (S.encE s) (S.encB s) (kst S xs) = step s) : ∀ (fuel : Nat) (s : S.El) (q : Nat) (s' : S.El), iter step fuel s = some (q, s') → ∀ (ro : Option Nat), ro.isSome = rd → ∀ (G : Gh) (a : Act) (w : World) (Q : Exit → Act → World → Prop),
      Ok G (S.encB s) (S.encE s) a w → (∀ G1 a1 w1, Goes n G a w G1 (S.encB s') (S.encE s') a1 w1 → Q (nthX xs (q + 1)).real a1 w1) → (∀ q, q < xs.length → xs[q]? ≠ some .normal) → Code.roundsIn (Fr ro) 0 P c Q fuel a w
  | 0, _, _, _, h, _, _, _, _, _, _, _, _, _ => by simp [iter] at h
  | fuel + 1, s, q, s', h, ro, hro, G, a, w, Q, hok, hQ, hxs => by
    simp only [iter] at h
    cases hst : step s with
    | none => rw [hst] at h; cases h
    | some r =>
      rw [hst] at h
      simp only [Option.bind_some] at h
      have hb := (hbody s).trans hst
      obtain ⟨e, env', B', hk, haw⟩ := codeR_sound hm hC c hL hb
      unfold kst at hk
      split at hk
      · rename_i m hc
        split at hk
        · rename_i s1 hd
          simp only [Option.some.injEq] at hk
          subst hk
          rw [roundsIn_succ]
          refine haw ro hro G a w _ hok fun G1 a1 w1 g1 => ?_
          obtain ⟨G2, g2⟩ := norm_sound (n := n) hS hn hd g1.ok
          rcases codeX_spec hc with ⟨rfl, rfl⟩ | ⟨p, rfl, hp⟩
          · simp only at h
            exact iter_rounds hm hC hL hS hn hbody fuel s1 q s' h ro hro G2 a1 w1 Q g2.ok (fun G3 a3 w3 g3 => hQ G3 a3 w3 ((g1.trans g2).trans g3)) hxs
          · simp only [Option.some.injEq, Prod.mk.injEq] at h
            obtain ⟨rfl, rfl⟩ := h
            have he : e = nthX xs (p + 1) := by simp [nthX, List.getD_eq_getElem?_getD, hp]
            have hne : e ≠ .normal := fun h0 => hxs p (List.getElem?_eq_some_iff.1 hp).1 (by rw [hp, h0])
            have := hQ G2 a1 w1 (g1.trans g2)
            rw [← he] at this
            cases e with
            | normal => exact absurd rfl hne
            | exit i => exact this
            | ret => exact this
        · cases hk
      · cases hk

/-- Ways out are ways out. -/
def realXs : List AExit → Bool
  | [] => true
  | .normal :: _ => false
  | _ :: xs => realXs xs
theorem realXs_spec : {xs : List AExit} → realXs xs = true → ∀ q, q < xs.length → xs[q]? ≠ some .normal
  | [], _, q, hq => by simp at hq
  | .exit i :: xs, h, 0, _ => by simp
  | .ret :: xs, h, 0, _ => by simp
  | .exit i :: xs, h, q + 1, hq => by simpa using realXs_spec (xs := xs) h q (by simpa using hq)
  | .ret :: xs, h, q + 1, hq => by simpa using realXs_spec (xs := xs) h q (by simpa using hq)

def natK {X : Type} (n : Nat) (a : X) (b : Nat → X) : X := match n with
  | 0 => a
  | m + 1 => b m
/-- Which way out it was. -/
def selX {X : Type} (k : AExit → Option X) : List AExit → Nat → Option X
  | [], _ => none
  | [x], _ => k x
  | x :: xs, n => natK n (k x) fun m => selX k xs m
theorem selX_spec {X : Type} {k : AExit → Option X} {r : X} : {xs : List AExit} → {n : Nat} → selX k xs n = some r → n < xs.length → k (nthX xs (n + 1)) = some r
  | [x], 0, h, _ => h
  | x :: y :: xs, 0, h, _ => h
  | x :: y :: xs, n + 1, h, hn => by
    have : selX k (y :: xs) n = some r := h
    have := selX_spec this (by simpa using hn)
    exact this

theorem iter_lt {P : Program} {C : CalT} {Ls : List LoopT} {c : Code} {S : SPat} {xs : List AExit} {step : S.El → Option (Nat × S.El)} (hbody : ∀ s, codeR P C c Ls (S.encE s) (S.encB s) (kst S xs) = step s) (hm : P.follows .mixedOrders = true) (hC : CV P C) {n : Nat} {rd : Bool} (hL : LV n P rd (loopsOf c) Ls) :
    ∀ (fuel : Nat) (s : S.El) (q : Nat) (s' : S.El), iter step fuel s = some (q, s') → q < xs.length
  | 0, _, _, _, h => by simp [iter] at h
  | fuel + 1, s, q, s', h => by
    simp only [iter] at h
    cases hst : step s with
    | none => rw [hst] at h; cases h
    | some r =>
      rw [hst] at h
      simp only [Option.bind_some] at h
      obtain ⟨e, env', B', hk, _⟩ := codeR_sound hm hC c hL ((hbody s).trans hst)
      unfold kst at hk
      split at hk
      · rename_i m hc
        split at hk
        · simp only [Option.some.injEq] at hk
          subst hk
          rcases codeX_spec hc with ⟨rfl, rfl⟩ | ⟨p, rfl, hp⟩
          · exact iter_lt hbody hm hC hL fuel _ q s' h
          · simp only [Option.some.injEq, Prod.mk.injEq] at h
            obtain ⟨rfl, _⟩ := h
            exact (List.getElem?_eq_some_iff.1 hp).1
        · cases hk
      · cases hk

/-- A loop, by its pattern and what its rounds come to. -/
def loopT (S : SPat) (xs : List AExit) (run : S.El → Option (Nat × S.El)) : LoopT :=
  ⟨fun X env B k => match S.dec env B with
    | some s => (run s).bind fun r => selX (fun e => k e (S.encE r.2) (S.encB r.2)) xs r.1
    | none => none⟩

theorem loopT_valid {n : Nat} {rd : Bool} {P : Program} {C : CalT} {Ls : List LoopT} {c : Code} {S : SPat} {xs : List AExit} {step run : S.El → Option (Nat × S.El)} {fuel : S.El → Nat} (hm : P.follows .mixedOrders = true) (hC : CV P C) (hL : LV n P rd (loopsOf c) Ls) (hS : S.ok = true) (hn : n ≤ S.box.length) (hx : realXs xs = true)
    (hbody : ∀ s, codeR P C c Ls (S.encE s) (S.encB s) (kst S xs) = step s) (hrun : ∀ s r, run s = some r → iter step (fuel s) s = some r) : LValid n P (.loop c) (loopT S xs run) rd := by
  intro X env B k r h
  unfold loopT at h
  simp only at h
  split at h
  · rename_i s hd
    cases hr : run s with
    | none => rw [hr] at h; cases h
    | some q =>
      rw [hr] at h
      simp only [Option.bind_some] at h
      have hi := hrun s q hr
      have hlt := iter_lt hbody hm hC hL (fuel s) s q.1 q.2 hi
      refine ⟨nthX xs (q.1 + 1), S.encE q.2, S.encB q.2, selX_spec h hlt, fun ro hro G a w Q hok hQ => ?_⟩
      obtain ⟨G1, g1⟩ := norm_sound (n := n) hS hn hd hok
      exact wpIn_loop_rounds (fuel s) (iter_rounds hm hC hL hS hn hbody (fuel s) s q.1 q.2 hi ro hro G1 a w Q g1.ok (fun G2 a2 w2 g2 => hQ G2 a2 w2 (g1.trans g2)) (realXs_spec hx))
  · cases h

end Go.Proofs.YtbidmbjkjpdgdaaDoor.Abs
