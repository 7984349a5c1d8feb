/-
  The abstract semantics: code that parts and meets again is told once, by a pattern where it meets.
-/
import Derived.Test.YtbidmbjkjpdgdaaDoorAbs28
set_option linter.unusedVariables false
set_option linter.unusedSimpArgs false
namespace Go.Proofs.YtbidmbjkjpdgdaaDoor.Abs

def seqL : Code → Code
  | .seq a _ => a
  | c => c
def seqR : Code → Code
  | .seq _ b => b
  | c => c
def conL : Code → Code
  | .cond _ a _ => a
  | c => c
def conR : Code → Code
  | .cond _ _ b => b
  | c => c
def blkC : Code → Code
  | .block _ c => c
  | c => c
def scpC : Code → Code
  | .scope c => c
  | c => c
def isSeq : Code → Bool
  | .seq _ _ => true
  | _ => false
def isCon : Code → Bool
  | .cond _ _ _ => true
  | _ => false
def isBlk : Code → Bool
  | .block _ _ => true
  | _ => false
def isScp : Code → Bool
  | .scope _ => true
  | _ => false

/-- Where code is told by a pattern, and where it is walked. -/
inductive Jn
  | whole (Ls : List LoopT)
  | cut (L : LoopT)
  | seq (x y : Jn)
  | cond (x y : Jn)
  | block (x : Jn)
  | scope (x : Jn)

def codeJ (P : Program) (C : CalT) {X : Type} : Jn → Code → List AVal → Bx → (AExit → List AVal → Bx → Option X) → Option X
  | .whole Ls, c, env, B, k => codeR P C c Ls env B k
  | .cut L, _, env, B, k => L.run X env B k
  | .seq x y, .seq a b, env, B, k => codeJ P C x a env B fun e env' B' => match e with
    | .normal => codeJ P C y b env' B' k
    | e => k e env' B'
  | .cond x y, .cond c a b, env, B, k => match opA env c with
    | .d .bool t => bif t then codeJ P C x a env B k else codeJ P C y b env B k
    | _ => none
  | .block x, .block id c, env, B, k => codeJ P C x c env B (blockK id k)
  | .scope x, .scope c, env, B, k => codeJ P C x c env B k
  | _, _, _, _, _ => none

def JV (n : Nat) (P : Program) (rd : Bool) : Jn → Code → Prop
  | .whole Ls, c => LV n P rd (loopsOf c) Ls
  | .cut L, c => LValid n P c L rd
  | .seq x y, c => isSeq c = true ∧ JV n P rd x (seqL c) ∧ JV n P rd y (seqR c)
  | .cond x y, c => isCon c = true ∧ JV n P rd x (conL c) ∧ JV n P rd y (conR c)
  | .block x, c => isBlk c = true ∧ JV n P rd x (blkC c)
  | .scope x, c => isScp c = true ∧ JV n P rd x (scpC c)
theorem lv_nil {n : Nat} {P : Program} {rd : Bool} (cs : List Code) : LV n P rd cs [] := by unfold LV; cases cs <;> trivial

section
variable {n : Nat} {P : Program} {rd : Bool} {x y : Jn} {c : Code}
theorem jv_whole {Ls : List LoopT} (h : LV n P rd (loopsOf c) Ls) : JV n P rd (.whole Ls) c := h
theorem jv_nil : JV n P rd (.whole []) c := lv_nil _
theorem jv_cut {L : LoopT} (h : LValid n P c L rd) : JV n P rd (.cut L) c := h
theorem jv_seq (h : isSeq c = true) (h1 : JV n P rd x (seqL c)) (h2 : JV n P rd y (seqR c)) : JV n P rd (.seq x y) c := ⟨h, h1, h2⟩
theorem jv_con (h : isCon c = true) (h1 : JV n P rd x (conL c)) (h2 : JV n P rd y (conR c)) : JV n P rd (.cond x y) c := ⟨h, h1, h2⟩
theorem jv_blk (h : isBlk c = true) (h1 : JV n P rd x (blkC c)) : JV n P rd (.block x) c := ⟨h, h1⟩
theorem jv_scp (h : isScp c = true) (h1 : JV n P rd x (scpC c)) : JV n P rd (.scope x) c := ⟨h, h1⟩
end
theorem codeJ_sound {n : Nat} {P : Program} {rd : Bool} {C : CalT} {X : Type} {r : X} (hm : P.follows .mixedOrders = true) (hC : CV P C) : (J : Jn) → (c : Code) → {env : List AVal} → {B : Bx} → {k : AExit → List AVal → Bx → Option X} → JV n P rd J c → codeJ P C J c env B k = some r →
    ∃ e env' B', k e env' B' = some r ∧ AW n P c env B e env' B' rd
  | .whole Ls, c, env, B, k, hJ, h => by
    unfold codeJ at h
    exact codeR_sound hm hC c hJ h
  | .cut L, c, env, B, k, hJ, h => by
    unfold codeJ at h
    exact hJ _ _ _ _ _ h
  | .seq x y, c, env, B, k, hJ, h => by
    obtain ⟨hs, h1, h2⟩ := hJ
    cases c with
    | seq a b =>
      simp only [codeJ] at h
      obtain ⟨e, env1, B1, k1, w1⟩ := codeJ_sound hm hC x a h1 h
      cases e with
      | normal =>
        simp only at k1
        obtain ⟨e2, env2, B2, k2, w2⟩ := codeJ_sound hm hC y b h2 k1
        refine ⟨e2, env2, B2, k2, fun ro hro G a w Q hok hQ => wpIn_seq (w1 ro hro G a w _ hok fun G1 a1 w1' g1 => ?_)⟩
        exact w2 ro hro G1 a1 w1' Q g1.ok fun G2 a2 w2' g2 => hQ G2 a2 w2' (g1.trans g2)
      | exit id => exact ⟨.exit id, env1, B1, k1, fun ro hro G a w Q hok hQ => wpIn_seq (w1 ro hro G a w _ hok fun G1 a1 w1' g1 => hQ G1 a1 w1' g1)⟩
      | ret => exact ⟨.ret, env1, B1, k1, fun ro hro G a w Q hok hQ => wpIn_seq (w1 ro hro G a w _ hok fun G1 a1 w1' g1 => hQ G1 a1 w1' g1)⟩
    | _ => simp [isSeq] at hs
  | .cond x y, c, env, B, k, hJ, h => by
    obtain ⟨hs, h1, h2⟩ := hJ
    cases c with
    | cond c a b =>
      simp only [codeJ] at h
      split at h
      · rename_i t ht
        cases t with
        | true =>
          obtain ⟨e, env1, B1, k1, w1⟩ := codeJ_sound hm hC x a h1 h
          refine ⟨e, env1, B1, k1, fun ro hro G a w Q hok hQ => wpIn_cond_true ?_ (w1 ro hro G a w Q hok hQ)⟩
          have := hok.env.op c
          rw [ht] at this
          exact bool_form this
        | false =>
          obtain ⟨e, env1, B1, k1, w1⟩ := codeJ_sound hm hC y b h2 h
          refine ⟨e, env1, B1, k1, fun ro hro G a w Q hok hQ => wpIn_cond_false ?_ (w1 ro hro G a w Q hok hQ)⟩
          have := hok.env.op c
          rw [ht] at this
          exact bool_form this
      · cases h
    | _ => simp [isCon] at hs
  | .block x, c, env, B, k, hJ, h => by
    obtain ⟨hs, hJ⟩ := hJ
    cases c with
    | block id c =>
      simp only [codeJ] at h
      obtain ⟨e, env1, B1, h1, w1⟩ := codeJ_sound hm hC x c hJ h
      cases e with
      | normal => exact ⟨.normal, env1, B1, h1, fun ro hro G a w Q hok hQ => wpIn_block (w1 ro hro G a w _ hok fun G1 a1 w1' g1 => hQ G1 a1 w1' g1)⟩
      | ret => exact ⟨.ret, env1, B1, h1, fun ro hro G a w Q hok hQ => wpIn_block (w1 ro hro G a w _ hok fun G1 a1 w1' g1 => hQ G1 a1 w1' g1)⟩
      | exit i =>
        simp only [blockK] at h1
        by_cases hi : i = id
        · simp only [hi, beq_self_eq_true, cond_true] at h1
          exact ⟨.normal, env1, B1, h1, fun ro hro G a w Q hok hQ => wpIn_block (w1 ro hro G a w _ hok fun G1 a1 w1' g1 => by
            simp only [AExit.real, Exit.inBlock, hi, if_true]
            exact hQ G1 a1 w1' g1)⟩
        · have hb : (i == id) = false := by simpa using hi
          simp only [hb, cond_false] at h1
          exact ⟨.exit i, env1, B1, h1, fun ro hro G a w Q hok hQ => wpIn_block (w1 ro hro G a w _ hok fun G1 a1 w1' g1 => by
            simp only [AExit.real, Exit.inBlock, hi, if_false]
            exact hQ G1 a1 w1' g1)⟩
    | _ => simp [isBlk] at hs
  | .scope x, c, env, B, k, hJ, h => by
    obtain ⟨hs, hJ⟩ := hJ
    cases c with
    | scope c =>
      simp only [codeJ] at h
      obtain ⟨e, env1, B1, h1, w1⟩ := codeJ_sound hm hC x c hJ h
      exact ⟨e, env1, B1, h1, fun ro hro G a w Q hok hQ => wpIn_scope_straight (w1 ro hro G a w _ hok fun G1 a1 w1' g1 => by
        cases e <;> exact hQ G1 a1 w1' g1)⟩
    | _ => simp [isScp] at hs

/-- Code, by where it is told. -/
def jnT (P : Program) (C : CalT) (J : Jn) (c : Code) : LoopT := ⟨fun _ env B k => codeJ P C J c env B k⟩
theorem jnT_valid {n : Nat} {P : Program} {rd : Bool} {C : CalT} {J : Jn} {c : Code} (hm : P.follows .mixedOrders = true) (hC : CV P C) (hJ : JV n P rd J c) : LValid n P c (jnT P C J c) rd :=
  fun _ _ _ _ _ h => codeJ_sound hm hC J c hJ h

def idxX : List AExit → AExit → Option Nat
  | [], _ => none
  | x :: xs, e => bif sameX x e then some 0 else match idxX xs e with
    | some n => some (n + 1)
    | none => none
theorem idxX_spec : {xs : List AExit} → {e : AExit} → {n : Nat} → idxX xs e = some n → xs[n]? = some e
  | x :: xs, e, n, h => by
    simp only [idxX] at h
    cases hb : sameX x e with
    | true =>
      simp only [hb, cond_true, Option.some.injEq] at h
      subst h
      rw [sameX_eq hb]; rfl
    | false =>
      simp only [hb, cond_false] at h
      split at h
      · rename_i m hm
        simp only [Option.some.injEq] at h
        subst h
        simpa using idxX_spec hm
      · cases h
  | [], e, n, h => by simp [idxX] at h
/-- What is handed on where code meets. -/
def kstJ (S : SPat) (xs : List AExit) (e : AExit) (env : List AVal) (B : Bx) : Option (Nat × S.El) :=
  match idxX xs e with
  | some n => match S.dec env B with
    | some s => some (n, s)
    | none => none
  | none => none
/-- Code told by a pattern where it begins, and one where it ends. -/
def cutT (S0 S1 : SPat) (xs : List AExit) (run : S0.El → Option (Nat × S1.El)) : LoopT :=
  ⟨fun X env B k => match S0.dec env B with
    | some s => (run s).bind fun r => selX (fun e => k e (S1.encE r.2) (S1.encB r.2)) xs r.1
    | none => none⟩
theorem cutT_valid {n : Nat} {rd : Bool} {P : Program} {ev : LoopT} {c : Code} {S0 S1 : SPat} {xs : List AExit} {run : S0.El → Option (Nat × S1.El)} (hE : LValid n P c ev rd) (h0 : S0.ok = true) (h1 : S1.ok = true) (hn0 : n ≤ S0.box.length) (hn1 : n ≤ S1.box.length)
    (hbody : ∀ s, ev.run (Nat × S1.El) (S0.encE s) (S0.encB s) (kstJ S1 xs) = run s) : LValid n P c (cutT S0 S1 xs run) rd := by
  intro X env B k r h
  unfold cutT at h
  simp only at h
  split at h
  · rename_i s hd
    cases hr : run s with
    | none => rw [hr] at h; cases h
    | some q =>
      rw [hr] at h
      simp only [Option.bind_some] at h
      obtain ⟨e, env1, B1, hk, haw⟩ := hE _ _ _ _ _ ((hbody s).trans hr)
      unfold kstJ at hk
      split at hk
      · rename_i m hi
        split at hk
        · rename_i s1 hd1
          simp only [Option.some.injEq] at hk
          subst hk
          have hx := idxX_spec hi
          have hlt := (List.getElem?_eq_some_iff.1 hx).1
          have he : nthX xs (m + 1) = e := by simp [nthX, List.getD_eq_getElem?_getD, hx]
          have hsel := selX_spec h hlt
          rw [he] at hsel
          refine ⟨e, S1.encE s1, S1.encB s1, hsel, fun ro hro G a w Q hok hQ => ?_⟩
          obtain ⟨G1, g1⟩ := norm_sound (n := n) h0 hn0 hd hok
          refine haw ro hro G1 a w Q g1.ok fun G2 a2 w2 g2 => ?_
          obtain ⟨G3, g3⟩ := norm_sound (n := n) h1 hn1 hd1 g2.ok
          exact hQ G3 a2 w2 ((g1.trans g2).trans g3)
        · cases hk
      · cases hk
  · cases h

/-! ### Functions -/
def fnE (ev : LoopT) (P : Program) {X : Type} (fn : Func) (args : List AVal) (B : Bx) (k : AVal → Bx → Option X) : Option X :=
  ev.run X (args ++ List.replicate (fn.ntmps - args.length) .any) B fun e env B' => match e with
    | .exit _ => none
    | _ => match resA P env B' fn.results.toList with
      | some l => k (oneOf l) B'
      | none => none
theorem fnE_sound {n : Nat} {P : Program} {ev : LoopT} {X : Type} {f : FuncId} {fn : Func} {c : Code} {args : List AVal} {B : Bx} {k : AVal → Bx → Option X} {r : X} (hf : P.funcs[f]? = some fn) (hb : fn.body = some c) (hent : Ent P f)
    (hE : LValid n P c ev false) (h : fnE ev P fn args B k = some r) : ∃ v B', k v B' = some r ∧ LCall n P f args B v B' := by
  unfold fnE at h
  obtain ⟨e, env, B', h1, w1⟩ := hE _ _ _ _ _ h
  have main : ∀ l, resA P env B' fn.results.toList = some l → (e.real = .normal ∨ e.real = .ret) → LCall n P f args B (oneOf l) B' := by
    intro l hl he
    refine ⟨.inr hent, fun G w vs hvs hw => Run.call hent.1 ((callsIn_wide (n := 0)).1 ?_)⟩
    refine callsIn_of_wp_marks hf hb trivial ?_
    have hok : Ok G B (args ++ List.replicate (fn.ntmps - args.length) .any) { tmps := vs.toArray ++ Array.replicate (fn.ntmps - vs.toArray.size) undef, defers := [] } w := by
      have hlen := vals_len hvs
      refine ⟨⟨by simp [hlen], fun t => ?_⟩, hw, trivial⟩
      rw [List.getD_eq_getElem?_getD, Array.getD_eq_getD_getElem?]
      simp only [List.size_toArray, ← hlen]
      by_cases ht : t < args.length
      · rw [List.getElem?_append_left ht, Array.getElem?_append_left (by simpa [← hlen] using ht), List.getElem?_eq_getElem ht]
        obtain ⟨v, hv1, hv2⟩ := vals_get hvs (List.getElem?_eq_getElem ht)
        simp only [Option.getD_some]
        have : vs.toArray[t]? = some v := by simpa using hv1
        rw [this]
        exact hv2
      · rw [List.getElem?_append_right (by omega)]
        have : ((List.replicate (fn.ntmps - args.length) AVal.any)[t - args.length]?).getD .any = .any := by
          cases hq : (List.replicate (fn.ntmps - args.length) AVal.any)[t - args.length]? with
          | none => rfl
          | some q =>
            have := List.mem_of_getElem? hq
            rw [List.mem_replicate] at this
            simp [this.2]
        rw [this]
        exact any_v _
    refine w1 none rfl G _ w _ hok fun G1 a1 w1' g => ?_
    -- the boxes are as they were, whatever is done to marks
    have leave : ∀ (ds : List Deferred) (w2 : World), WOk G1 B' w2 → Ext G w G1 w2 → Marks G1 w2 ds → (∀ d ∈ ds, ∃ D, d.target = .collected D ∧ w.heap.size ≤ D) →
        LeavesInM Fence.wide 0 P fn a1.tmps (fun e w' => ∃ cv G', e = .returned cv ∧ Rv G' B'.dead (oneOf l) cv ∧ WOk G' B' w' ∧ Ext G w G' w' ∧ ∀ i b, i < n → G.addr[i]? = some b → G'.addr[i]? = some b) ds .returning w2 := by
      intro ds
      induction ds with
      | nil =>
        intro w2 hw2 hx2 _ _
        obtain ⟨rv, hr1, hr2⟩ := resA_run (P := P) hw2 g.ok.env hl
        have hres : ∃ cv, (results fn a1.tmps).run P w2 = .ok cv w2 ∧ Rv G1 B'.dead (oneOf l) cv := by
          rw [results_eq]
          have hmap : (fn.results.mapM (rvSem a1.tmps)).run P w2 = .ok rv.toArray w2 := by
            rw [Array.mapM_eq_mapM_toList]
            simp only [Sem.run_map, hr1, Result.andThen_ok]
          have hl2 := vals_len hr2
          refine ⟨if h : rv.toArray.size = 1 then rv.toArray[0] else .tuple rv.toArray, ?_, ?_⟩
          · rw [Sem.run_bind, hmap]
            rfl
          · match l, rv, hr2 with
            | [], [], .nil => exact leaf_v rfl ⟨[], rfl, rfl⟩
            | [v], [u], .cons hv .nil => exact hv
            | v1 :: v2 :: l, u1 :: u2 :: us, hv => exact leaf_v rfl ⟨_, by simp, chain_vals hv⟩
        obtain ⟨cv, hc1, hc2⟩ := hres
        exact ⟨cv, hc1, cv, G1, rfl, hc2, hw2, hx2, g.held⟩
      | cons d ds ih =>
        intro w2 hw2 hx2 hm hd
        obtain ⟨⟨D, h1, h2, h3, h4, h5⟩, h6⟩ := hm
        have hge : w.heap.size ≤ D := by
          obtain ⟨D', e1, e2⟩ := hd d (by simp)
          rw [h1] at e1
          cases e1
          exact e2
        have hput : ∀ b, b ≠ D → (w2.putObj D (.deferred none)).heap[b]? = w2.heap[b]? := fun b hb => World.putObj_heap_other hb
        have hcell : ∀ b c e fr, w2.heap[b]? = some (.cells c e fr) → b ≠ D := fun b c e fr hb hbD => by subst hbD; rw [h2] at hb; cases hb
        refine ⟨by simp, .inl ⟨D, _, h1, run_takeDeferred h2, ih _ ⟨hw2.len, hw2.nodup, fun i b c hb hc => ?_, fun b row hb => ?_, hw2.disj, fun t b n ht => ?_, hw2.inj, fun q hq => ?_⟩ ⟨hx2.os, hx2.tape, hx2.output, by rw [World.putObj_size]; exact hx2.size, fun b hb ha ho => ?_, hx2.imm, hx2.same, hx2.addr, hx2.own⟩ ?_ (fun d' hd' => hd d' (by simp [hd']))⟩⟩
        · exact (hw2.boxes i b c hb hc).mono (GLe.refl _ _) (hput b (fun e => h3 (by rw [← e]; exact List.mem_of_getElem? hb)))
        · obtain ⟨c, e, fr, k1, k2⟩ := hw2.imm b row hb
          exact ⟨c, e, fr, by rw [hput b (hcell b c e fr k1)]; exact k1, k2⟩
        · obtain ⟨k1, k2, c, e, k3, k4⟩ := hw2.own t b n ht
          exact ⟨k1, k2, c, e, by rw [hput b (hcell b c e _ k3)]; exact k3, k4⟩
        · obtain ⟨⟨e, fr, k1⟩, k2, k3⟩ := hw2.tab q hq
          exact ⟨⟨e, fr, by rw [hput q.1 (hcell _ _ e fr k1)]; exact k1⟩, k2, k3⟩
        · rw [hput b (by omega)]
          exact hx2.frame b hb ha ho
        · have key : ∀ ds', (∀ d' ∈ ds', d'.target ≠ .collected D) → Marks G1 w2 ds' → Marks G1 (w2.putObj D (.deferred none)) ds' := by
            intro ds'
            induction ds' with
            | nil => intro _ _; trivial
            | cons d' ds' ih' =>
              intro hn hm'
              obtain ⟨⟨D', a1, a2, a3, a4, a5⟩, a6⟩ := hm'
              have hne : D' ≠ D := fun e => hn d' (by simp) (by rw [a1, e])
              exact ⟨⟨D', a1, by rw [hput D' hne]; exact a2, a3, a4, a5⟩, ih' (fun d2 hd2 => hn d2 (by simp [hd2])) a6⟩
          exact key ds h5 h6
    have hpost := leave a1.defers w1' g.ok.w g.ext g.ok.marks (fun d hd => by
      rcases g.defers d hd with hd | hd
      · cases hd
      · exact hd)
    rcases he with he | he <;> rw [he] <;> exact hpost
  cases e with
  | exit id => cases h1
  | normal =>
    simp only at h1
    split at h1
    · rename_i l hl; exact ⟨_, _, h1, main l hl (.inl rfl)⟩
    · cases h1
  | ret =>
    simp only at h1
    split at h1
    · rename_i l hl; exact ⟨_, _, h1, main l hl (.inr rfl)⟩
    · cases h1

theorem fn_lcallE {P : Program} {ev : LoopT} {g : FuncId} {fn : Func} {c : Code} {S : CSpec} {f : S.In → Option S.Out} (hf : P.funcs[g]? = some fn) (hb : fn.body = some c) (hent : Ent P g) (hE : LValid S.I.length P c ev false) (hS : S.ok = true) (hS2 : S.ok2 = true) (hev : ∀ x, fnE ev P fn (encs S.A x.1) ⟨encs S.I x.2, [], S.nt⟩ (finK S) = f x) :
    ∀ x r, f x = some r → LCall S.I.length P g (encs S.A x.1) ⟨encs S.I x.2, [], S.nt⟩ (S.R.enc r.1) ⟨encs S.O r.2, [], S.ntO⟩ := by
  intro x r hr
  obtain ⟨v, B', hk, hl⟩ := fnE_sound hf hb hent hE ((hev x).trans hr)
  unfold finK at hk
  split at hk
  · rename_i z hz
    simp only [Option.some.injEq] at hk
    subst hk
    simp only [CSpec.ok, Bool.and_eq_true, decide_eq_true_eq] at hS
    refine ⟨hl.1, fun G w vs hvs hw => (hl.2 G w vs hvs hw).mono ?_⟩
    rintro e w' ⟨cv, G1, rfl, h1, h2, h3, h4⟩
    have hok : Ok G1 B' [v] { tmps := #[cv], defers := [] } w' := ⟨⟨rfl, fun t => by
      cases t with
      | zero => exact h1
      | succ t => exact any_v _⟩, h2, trivial⟩
    obtain ⟨G2, g2⟩ := norm_sound (n := S.I.length) hS2 hS.2 hz hok
    refine ⟨cv, G2, rfl, by have := g2.ok.env.val 0; unfold SPat.encE at this; rw [oneE_enc] at this; exact this, g2.ok.w, h3.trans g2.ext, fun i b hi hb => g2.held i b hi (h4 i b hi hb)⟩
  · cases hk

theorem frz_lcallE {P : Program} {ev : LoopT} {g : FuncId} {fn : Func} {c : Code} {A : List PTy} {R : PTy} {f : Els A → Option R.El} (hf : P.funcs[g]? = some fn) (hb : fn.body = some c) (hent : Ent P g) (hE : LValid 0 P c ev false) (hA : A.all PTy.pure = true) (hR : R.pure = true) (hev : ∀ x, fnE ev P fn (encs A x) ⟨[], [], 0⟩ (frzF R) = f x) :
    ∀ x r, f x = some r → LCall 0 P g (encs A x) ⟨[], [], 0⟩ (R.enc r) ⟨[], [], 0⟩ := by
  intro x r hr
  obtain ⟨v, B', hk, hl⟩ := fnE_sound (n := 0) hf hb hent hE ((hev x).trans hr)
  unfold frzF at hk
  split at hk
  · rename_i T b
    split at hk
    · rename_i c hc
      cases hnm : c.isM with
      | true => rw [hnm] at hk; cases hk
      | false =>
        rw [hnm] at hk
        simp only [cond_false] at hk
        refine ⟨hl.1, fun G w vs hvs hw => (hl.2 G w vs hvs hw).mono ?_⟩
        rintro e w' ⟨cv, G1, rfl, h1, h2, h3, h4⟩
        obtain ⟨blk, hblk, _, rfl⟩ := ptr_form h1
        obtain ⟨cells, e, hh, hrc⟩ := (h2.boxes b blk c hblk hc).cells hnm
        have hrd := asData_spec hk _ hrc
        have hmem : blk ∈ G1.addr := List.mem_of_getElem? hblk
        have hge : w.heap.size ≤ blk := by
          rcases h3.addr blk hmem with h | h
          · have := hw.len
            have h0 : G.addr = [] := List.length_eq_zero_iff.1 this
            rw [h0] at h; cases h
          · exact h
        have hnone := h2.disj blk hmem
        let G2 : Gh := { imm := fun x => if x = blk then some cells.toList else G1.imm x, own := fun _ => none, addr := [] }
        have himm : ImmLe G1.imm G2.imm := fun b' row h => by
          have hne : b' ≠ blk := fun he => by subst he; rw [hnone] at h; cases h
          exact ⟨row, by simp [G2, hne, h], List.prefix_refl _⟩
        have hself : G2.imm blk = some cells.toList := by simp [G2]
        have hlen := RD.len hrd
        refine ⟨_, G2, rfl, leaf_v rfl ⟨blk, 0, cells.toList, rfl, hself, by omega, ?_⟩, ⟨rfl, List.nodup_nil, fun i b c h => by simp [G2] at h, fun b' row h => ?_, (fun b h => by cases h), (fun t b n h => by cases h), (fun t t' b n n' h => by cases h), fun q hq => ⟨(h2.tab q hq).1, (fun h => by cases h), (fun t n h => by cases h)⟩⟩,
          ⟨h3.os, h3.tape, h3.output, h3.size, h3.frame, h3.imm.trans himm, fun b' hb' ho => ?_, (fun b hb => by cases hb), (fun t b n h => by cases h)⟩, fun i b hi => by omega⟩
        · rw [List.drop_zero, List.take_of_length_le (by omega)]
          exact RD.mono himm hrd
        · by_cases hbe : b' = blk
          · subst hbe
            rw [hself] at h
            cases h
            exact ⟨cells, e, (0, 0), hh, List.prefix_refl _⟩
          · exact h2.imm b' row (by simpa [G2, hbe] using h)
        · have hne : b' ≠ blk := by omega
          show (if b' = blk then some cells.toList else G1.imm b') = G.imm b'
          rw [if_neg hne]
          exact h3.same b' hb' ho
    · cases hk
  · split at hk
    · rename_i y hy
      obtain ⟨y, l⟩ := y
      simp only [Option.some.injEq] at hk
      subst hk
      refine ⟨hl.1, fun G w vs hvs hw => (hl.2 G w vs hvs hw).mono ?_⟩
      rintro e w' ⟨cv, G1, rfl, h1, h2, h3, h4⟩
      let G2 : Gh := { imm := G1.imm, own := fun _ => none, addr := [] }
      have hr : ReTok G1 B'.dead G2 0 [] := ⟨rfl, by simp [G2], fun k t h => by cases h⟩
      have e := pure_toks hR hy
      subst e
      refine ⟨cv, G2, rfl, dec_v hr hy (under_top (pure_under hR)) (fun q hq => by cases hq) h1, ⟨rfl, List.nodup_nil, fun i b c h => by simp [G2] at h, h2.imm, (fun b h => by cases h), (fun t b n h => by cases h), (fun t t' b n n' h => by cases h), fun q hq => ⟨(h2.tab q hq).1, (fun h => by cases h), (fun t n h => by cases h)⟩⟩, ?_, fun i b hi => by omega⟩
      exact ⟨h3.os, h3.tape, h3.output, h3.size, h3.frame, h3.imm, h3.same, (fun b hb => by cases hb), (fun t b n h => by cases h)⟩
    · cases hk


end Go.Proofs.YtbidmbjkjpdgdaaDoor.Abs
