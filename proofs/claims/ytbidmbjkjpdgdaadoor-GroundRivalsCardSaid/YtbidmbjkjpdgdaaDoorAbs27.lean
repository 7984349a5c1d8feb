/-
  The abstract semantics, twenty-seventh part: the rounds of a range over a function.
-/
import Derived.Test.YtbidmbjkjpdgdaaDoorAbs26
set_option linter.unusedVariables false
set_option linter.unusedSimpArgs false
namespace Go.Proofs.YtbidmbjkjpdgdaaDoor.Abs

def jumpNo : AExit → Nat
  | .normal => 0
  | .ret => 3
  | .exit id => id + 4
theorem jump_st (e : AExit) : stOf (jumpNo e) = if (pendOf (jumpNo e)).isNone then .ready else .done := by
  cases e <;> rfl

/-- A record's state turned from one to another. -/
def setK (B : Bx) (b : Nat) (from' to : Nat) : Option Bx := match B.box[b]? with
  | some (.lobj g i k env) => bif k == from' then some { B with box := B.box.set b (.lobj g i to env) } else none
  | _ => none
def setPs : List AVal → List Tmp → List AVal → List AVal
  | env, p :: ps, a :: az => setPs (env.set p a) ps az
  | env, _, _ => env

/-- What a round comes to. -/
noncomputable def roundR (P : Program) (C : CalT) {X : Type} (Ls : List LoopT) (g i : Nat) (args : List AVal) (B : Bx) (fin : AVal → Bx → Option X) : Option X :=
  match args with
  | .yref b :: az => match B.box[b]? with
    | some (.lobj g' i' k env) => bif g' == g && i' == i then natK k (match lcode g i with
      | .rangeFunc _ ps asg bd => bif ps.size == az.length then
          codeR P C asg [] (setPs (unchain env) ps.toList az) { B with box := B.box.set b (.lobj g' i' 0 env) } fun e env2 B2 => match e with
            | .normal => match setK B2 b 0 1 with
              | some B3 => codeR P C bd Ls env2 B3 fun e env4 B4 => match setK B4 b 1 (jumpNo e) with
                | some B5 => fin (.d .bool (natK (jumpNo e) true fun _ => false)) B5
                | none => none
              | none => none
            | _ => none
        else none
      | _ => none) (fun _ => none) else none
    | _ => none
  | _ => none

theorem setPs_ok {G : Gh} {dead : List Nat} : {ps : List Tmp} → {az : List AVal} → {vs : List Value} → {env : List AVal} → {tm : Array Value} → Vals G dead az vs → EnvOk G dead env tm →
    EnvOk G dead (setPs env ps az) ((ps.zip vs).foldl (fun t (q : Tmp × Value) => t.setIfInBounds q.1 q.2) tm)
  | [], az, vs, env, tm, _, h => by cases az <;> exact h
  | p :: ps, _, _, env, tm, .nil, h => h
  | p :: ps, _, _, env, tm, .cons (a := a) (v := v) hv t, h => by
    have := EnvOk.put (a := { tmps := tm, defers := [] }) h (some p) hv
    exact setPs_ok (ps := ps) (env := env.set p a) (tm := tm.setIfInBounds p v) t this

theorem chain_env {G : Gh} {dead : List Nat} {env : AVal} {vs : List Value} (h : Rl G dead env vs) : EnvOk G dead (unchain env) vs.toArray := by
  have hv := vals_chain h
  refine ⟨by have := vals_len hv; simp [this], fun t => ?_⟩
  rcases Nat.lt_or_ge t (unchain env).length with ht | ht
  · obtain ⟨v, h1, h2⟩ := vals_get hv (List.getElem?_eq_getElem ht)
    have e1 : (unchain env).getD t .any = (unchain env)[t] := by simp [List.getD_eq_getElem?_getD, ht]
    have e2 : (vs.toArray).getD t undef = v := by rw [Array.getD_eq_getD_getElem?]; simp [h1]
    rw [e1, e2]; exact h2
  · have e1 : (unchain env).getD t .any = .any := by rw [List.getD_eq_getElem?_getD, List.getElem?_eq_none ht]; rfl
    rw [e1]; exact any_v _

theorem natK_some {X : Type} {k : Nat} {a : Option X} {r : X} (h : natK k a (fun _ => none) = some r) : k = 0 ∧ a = some r := by
  cases k with
  | zero => exact ⟨rfl, h⟩
  | succ k => cases h

theorem setK_dead {B B' : Bx} {b from' to : Nat} (h : setK B b from' to = some B') : B'.dead = B.dead := by
  unfold setK at h
  split at h
  · rename_i g i k env hbx
    cases hk : k == from' with
    | false => rw [hk] at h; cases h
    | true =>
      rw [hk] at h
      simp only [cond_true, Option.some.injEq] at h
      subst h
      rfl
  · cases h
theorem setK_ok {G : Gh} {B B' : Bx} {w : World} {b l from' to : Nat} (hw : WOk G B w) (h : setK B b from' to = some B') (hb : G.addr[b]? = some l) :
    ∃ r g i, w.heap[l]? = some (.loop r) ∧ LoopIs g i from' r ∧ ∀ r' : Loop, r'.tmps = r.tmps → LoopIs g i to r' → WOk G B' (putO w l (.loop r')) ∧ Ext G w G (putO w l (.loop r')) := by
  unfold setK at h
  split at h
  · rename_i g i k env hbx
    cases hk : k == from' with
    | false => rw [hk] at h; cases h
    | true =>
      rw [hk] at h
      simp only [cond_true, Option.some.injEq] at h
      subst h
      have hk : k = from' := by simpa using hk
      subst hk
      obtain ⟨o, cs, h1, ⟨r, rfl, h2, h3⟩, h4⟩ := hw.boxes b l _ hb hbx
      refine ⟨r, g, i, h1, h2, fun r' ht hl => ?_⟩
      exact upd_obj (c' := .lobj g i to env) (o' := .loop r') hw hb hbx h1 ⟨r', rfl, hl, by rw [ht, ← h3]⟩ h4
  · cases h

theorem round_sound {n : Nat} {P : Program} {C : CalT} {X : Type} {Ls : List LoopT} {g i : Nat} {args : List AVal} {B : Bx} {fin : AVal → Bx → Option X} {res : X} {f : Operand} {ps : Array Tmp} {asg bd : Code} (hm : P.follows .mixedOrders = true) (hC : CV P C)
    (hc : lcode g i = .rangeFunc f ps asg bd) (hL : LV n P true (loopsOf bd) Ls) (hn : ∀ b az, args = .yref b :: az → b < n) (h : roundR P C Ls g i args B fin = some res) : ∃ v B', fin v B' = some res ∧ LCall n P YLD args B v B' := by
  unfold roundR at h
  split at h
  · rename_i b az
    have hbn := hn b az rfl
    split at h
    · rename_i g' i' k env hbx
      cases hgi : g' == g && i' == i with
      | false => rw [hgi] at h; cases h
      | true =>
        rw [hgi] at h
        simp only [cond_true] at h
        simp only [Bool.and_eq_true, beq_iff_eq] at hgi
        obtain ⟨rfl, rfl⟩ := hgi
        obtain ⟨rfl, h⟩ := natK_some h
        have hsame : ({ B with box := B.box.set b (.lobj g' i' 0 env) } : Bx) = B := by
          obtain ⟨hlt, he⟩ := List.getElem?_eq_some_iff.1 hbx
          rw [← he, List.set_getElem_self]
        rw [hsame] at h
        rw [hc] at h
        simp only at h
        cases hps : ps.size == az.length with
        | false => rw [hps] at h; cases h
        | true =>
          rw [hps] at h
          simp only [cond_true] at h
          have hps : ps.size = az.length := by simpa using hps
          obtain ⟨e, env2, B2, h1, w1⟩ := codeR_sound (n := n) (rd := true) hm hC asg (by unfold LV; cases loopsOf asg <;> trivial) h
          cases e with
          | exit id => cases h1
          | ret => cases h1
          | normal =>
            simp only at h1
            split at h1
            · rename_i B3 hB3
              obtain ⟨e, env4, B4, h2, w2⟩ := codeR_sound (n := n) (rd := true) hm hC bd hL h1
              split at h2
              · rename_i B5 hB5
                refine ⟨_, _, h2, .inl rfl, fun G w vs hvs hw => ⟨(fun hne => absurd rfl hne), fun _ l vs' hvse => ?_⟩⟩
                subst hvse
                cases hvs with
                | cons hyv hargs =>
                  have hl : G.addr[b]? = some l := by
                    obtain ⟨cs, ⟨blk, hb, rfl⟩, hh | hh⟩ := hyv
                    · cases hh.1
                    · have := hh.2
                      simp only [List.cons.injEq, Value.func.injEq, Fn.yield.injEq, and_true] at this
                      rw [← this]; exact hb
                  obtain ⟨o, cs, k1, ⟨r, rfl, hr, rfl⟩, k3⟩ := hw.boxes b l _ hl hbx
                  obtain ⟨⟨f', hf'⟩, hst, hpe⟩ := id hr
                  rw [hc] at hf'
                  injection hf' with e1 e2 e3 e4
                  subst e2 e3 e4
                  have hlen := vals_len hargs
                  refine ⟨r.fn, _, r.assign, r.body, run_yield k1 (by simp [← hlen, hps]), ?_⟩
                  refine roundIn_of_wpIn trivial ?_
                  have henv : EnvOk G B.dead (setPs (unchain env) r.params.toList az) ((r.params.zip vs'.toArray).foldl (fun tmps (t, a) => tmps.setIfInBounds t a) r.tmps) := by
                    have h0 := chain_env (G := G) (dead := B.dead) k3
                    have := setPs_ok (ps := r.params.toList) hargs h0
                    have e : (r.params.zip vs'.toArray).foldl (fun tmps (t, a) => tmps.setIfInBounds t a) r.tmps = (r.params.toList.zip vs').foldl (fun t (q : Tmp × Value) => t.setIfInBounds q.1 q.2) r.tmps.toList.toArray := by
                      rw [← Array.foldl_toList, Array.toList_zip]
                    rw [e]
                    exact this
                  refine w1 (some l) rfl G _ w _ ⟨henv, hw, trivial⟩ fun G2 a2 w2' g2 => ?_
                  have hl2 : G2.addr[b]? = some l := g2.held b l hbn hl
                  obtain ⟨r2, gg, ii, q1, q2, q3⟩ := setK_ok g2.ok.w hB3 hl2
                  obtain ⟨q3, q4⟩ := q3 { r2 with state := .busy } rfl ⟨q2.1, rfl, fun _ => q2.2.2 (by decide)⟩
                  refine ⟨_, run_beginRound q1 q2.2.1, ?_⟩
                  refine w2 (some l) rfl G2 a2 _ _ ⟨by rw [setK_dead hB3]; exact g2.ok.env, q3, g2.ok.marks.ext q4⟩ fun G4 a4 w4 g4 => ?_
                  have hl4 : G4.addr[b]? = some l := g4.held b l hbn hl2
                  obtain ⟨r4, gg4, ii4, p1, p2, p3⟩ := setK_ok g4.ok.w hB5 hl4
                  have fin' : ∀ (jump : Option Code), jump = pendOf (jumpNo e) → ∃ v w', (Instr.endRound l jump).run P w4 = .ok v w' ∧ ∃ cv G', Ending.returned v = .returned cv ∧ Rv G' B5.dead (.d .bool (natK (jumpNo e) true fun _ => false)) cv ∧ WOk G' B5 w' ∧ Ext G w G' w' ∧ ∀ i b, i < n → G.addr[i]? = some b → G'.addr[i]? = some b := by
                    intro jump hj
                    have hrun := run_endRound (P := P) jump p1
                    obtain ⟨p4, p5⟩ := p3 { r4 with state := if jump.isNone then .ready else .done, pending := jump } rfl ⟨p2.1, by rw [jump_st, ← hj], fun _ => hj⟩
                    refine ⟨_, _, hrun, _, G4, rfl, ?_, p4, ((g2.ext.trans q4).trans g4.ext).trans p5, fun j c hj' hc' => g4.held j c hj' (g2.held j c hj' hc')⟩
                    rw [hj]
                    cases e <;> exact leaf_v rfl rfl
                  cases e with
                  | normal => exact fin' none rfl
                  | ret => exact fin' (some .ret) rfl
                  | exit id => exact fin' (some (.exit id)) rfl
              · cases h2
            · cases h1
    · cases h
  · cases h

/-- A round, told by patterns. -/
theorem rd_lcall {P : Program} {C : CalT} {Ls : List LoopT} {g i : Nat} {S : CSpec} {f : S.In → Option S.Out} {fo : Operand} {ps : Array Tmp} {asg bd : Code} (hm : P.follows .mixedOrders = true) (hC : CV P C) (hc : lcode g i = .rangeFunc fo ps asg bd)
    (hL : LV S.I.length P true (loopsOf bd) Ls) (hn : ∃ A', S.A = .fix (.yref 0) :: A') (hI : 0 < S.I.length) (hS : S.ok = true) (hS2 : S.ok2 = true) (hev : ∀ x, roundR P C Ls g i (encs S.A x.1) ⟨encs S.I x.2, [], S.nt⟩ (finK S) = f x) :
    ∀ x r, f x = some r → LCall S.I.length P YLD (encs S.A x.1) ⟨encs S.I x.2, [], S.nt⟩ (S.R.enc r.1) ⟨encs S.O r.2, [], S.ntO⟩ := by
  intro x r hr
  obtain ⟨v, B', hk, hl⟩ := round_sound (n := S.I.length) hm hC hc hL (fun b az he => by
    obtain ⟨A', hA⟩ := hn
    have : ∀ (A : List PTy) (y : Els A), A = .fix (.yref 0) :: A' → encs A y = .yref b :: az → b = 0 := by
      intro A y hA hy
      subst hA
      simp only [encs, List.cons.injEq, AVal.yref.injEq] at hy
      exact hy.1.symm
    rw [this S.A x.1 hA he]
    exact hI) ((hev x).trans hr)
  unfold finK at hk
  split at hk
  · rename_i z hz
    simp only [Option.some.injEq] at hk
    subst hk
    simp only [CSpec.ok, Bool.and_eq_true, decide_eq_true_eq] at hS
    refine ⟨hl.1, fun G w vs hvs hw => (hl.2 G w vs hvs hw).mono ?_⟩
    rintro e w' ⟨cv, G1, rfl, h1, h2, h3, h4⟩
    have hok : Ok G1 B' [v] { tmps := #[cv], defers := [] } w' := ⟨⟨rfl, fun t => by
      cases t with
      | zero => exact h1
      | succ t => exact any_v _⟩, h2, trivial⟩
    obtain ⟨G2, g2⟩ := norm_sound (n := S.I.length) hS2 hS.2 hz hok
    refine ⟨cv, G2, rfl, by have := g2.ok.env.val 0; unfold SPat.encE at this; rw [oneE_enc] at this; exact this, g2.ok.w, h3.trans g2.ext, fun i b hi hb => g2.held i b hi (h4 i b hi hb)⟩
  · cases hk

end Go.Proofs.YtbidmbjkjpdgdaaDoor.Abs
