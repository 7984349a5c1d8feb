import Derived.Test.YtcijddeommognaaDoorA3
import Derived.ChangeArms
import Derived.OpenShut
import Derived.ChangeSame
import Derived.Carry
import Derived.Lib.LaidTab
import Derived.RecoverIn
set_option linter.unusedVariables false
set_option linter.unusedSimpArgs false
namespace Go.Proofs.YtcijddeommognaaDoor.Abs
structure CEnt where
  g : FuncId
  ok : List AVal → Bx → Bool
  run : (X : Type) → List AVal → Bx → (AVal → Bx → Option X) → Option X
  ro : Bool
  any : Bool
def CEnt.Valid (P : Program) (e : CEnt) : Prop := ∀ (X : Type) (args : List AVal) (B : Bx) (k : AVal → Bx → Option X) (r : X), e.run X args B k = some r → ∃ v B', k v B' = some r ∧ ACall P e.g args B v B' ∧ (e.ro = true → B' = B ∧ ∀ B0, Sim B B0 → ACall P e.g args B0 v B0) ∧ (e.any = true → ∀ B0, ACall P e.g args B0 v B0) ∧ B.box.length ≤ B'.box.length ∧ (PANS.contains e.g = true → ∀ b, b < B.box.length → argT args b = false → B'.box[b]? = B.box[b]?)
def tabGo {X : Type} (g : FuncId) (args : List AVal) (B : Bx) (k : AVal → Bx → Option X) : List CEnt → Option X
  | [] => none
  | e :: l => bif e.g == g && e.ok args B then e.run X args B k else tabGo g args B k l
def roGo (g : FuncId) : List CEnt → Bool
  | [] => true
  | e :: l => (bif e.g == g then e.ro else true) && roGo g l
def anyGo (g : FuncId) : List CEnt → Bool
  | [] => true
  | e :: l => (bif e.g == g then e.any else true) && anyGo g l
def tabC (l : List CEnt) : CalT := ⟨fun _ g args B k => tabGo g args B k l, fun g => roGo g l, fun g => anyGo g l, false, fun _ => false, false⟩
def AllV (P : Program) : List CEnt → Prop
  | [] => True
  | e :: l => e.Valid P ∧ AllV P l
theorem tabC_valid {P : Program} {l : List CEnt} (h : AllV P l) : CV P (tabC l) := by
  intro X g args B k r hr
  have main : ∀ l, AllV P l → tabGo g args B k l = some r → ∃ v B', k v B' = some r ∧ ACall P g args B v B' ∧ (roGo g l = true → B' = B ∧ ∀ B0, Sim B B0 → ACall P g args B0 v B0) ∧ (anyGo g l = true → ∀ B0, ACall P g args B0 v B0) ∧ B.box.length ≤ B'.box.length ∧ (PANS.contains g = true → ∀ b, b < B.box.length → argT args b = false → B'.box[b]? = B.box[b]?) := by
    intro l
    induction l with
    | nil => intro _ h; cases h
    | cons e l ih =>
      intro hv h
      simp only [tabGo] at h
      cases hb : e.g == g && e.ok args B with
      | true =>
        simp only [hb, cond_true] at h
        simp only [Bool.and_eq_true] at hb
        have he : e.g = g := by simpa using hb.1
        obtain ⟨v, B', h1, h2, h3, h5, h6⟩ := hv.1 X args B k r h
        rw [he] at h2 h3 h5 h6
        refine ⟨v, B', h1, h2, fun h4 => h3 ?_, fun h4 => h5 ?_, h6⟩
        · simp only [roGo, hb.1, cond_true, Bool.and_eq_true] at h4
          exact h4.1
        · simp only [anyGo, hb.1, cond_true, Bool.and_eq_true] at h4
          exact h4.1
      | false =>
        simp only [hb, cond_false] at h
        obtain ⟨v, B', h1, h2, h3, h5, h6⟩ := ih hv.2 h
        refine ⟨v, B', h1, h2, fun h4 => h3 ?_, fun h4 => h5 ?_, h6⟩
        · simp only [roGo, Bool.and_eq_true] at h4
          exact h4.2
        · simp only [anyGo, Bool.and_eq_true] at h4
          exact h4.2
  obtain ⟨v, B', h1, h2, h3, h5, h6⟩ := main l h hr
  exact ⟨v, B', h1, h2, h3, h5, h6.1, h6.2⟩
def fits (S : CSpec) (args : List AVal) (B : Bx) : Bool :=
  let sel := selA S args B
  let fb := fun b => idxIn b sel
  nodupB sel && sel.length == S.I.length && args.length == S.A.length &&
    match SPat.dec ⟨S.A, S.I, S.nt⟩ (args.map fun a => a.ren fb id) ⟨sel.map fun b => (B.box.getD b .any).ren fb id, B.dead, B.nt⟩ with
    | some _ => true
    | none => false
def pureE (g : FuncId) (A : List PTy) (R : PTy) (f : Els A → Option R.El) : CEnt := ⟨g, fun args B => fits (pureS A R) args B, fun _ args B k => pureK A R f args B k, true, true⟩
def boxE (g : FuncId) (S : CSpec) (f : S.In → Option S.Out) : CEnt := ⟨g, fun args B => fits S args B, fun _ args B k => bif !PANS.contains g || (selA S args B).all (fun b => argT args b) then callK S f args B k else none, false, false⟩
theorem pureK_at {X : Type} {A : List PTy} {R : PTy} {f : Els A → Option R.El} {args : List AVal} {B : Bx} {k : AVal → Bx → Option X} {res : X} (h : pureK A R f args B k = some res) : ∃ q, k (R.enc q) B = some res ∧ ∀ B0, pureK A R f args B0 (fun v _ => some v) = some (R.enc q) := by
  unfold pureK at h ⊢
  cases hb : args.length == A.length with
  | false => rw [hb] at h; cases h
  | true =>
    rw [hb] at h
    simp only [cond_true] at h ⊢
    split at h
    · rename_i x hd
      cases hf : f x.1 with
      | none => rw [hf] at h; cases h
      | some q =>
        rw [hf] at h
        exact ⟨q, h, fun B0 => rfl⟩
    · cases h
theorem pureE_valid {P : Program} {g : FuncId} {A : List PTy} {R : PTy} {f : Els A → Option R.El} (hA : A.all PTy.pure = true) (hR : R.pure = true) (hent : Ent P g)
    (hcall : ∀ x r, f x = some r → LCall 0 P g (encs A x) ⟨[], [], 0⟩ (R.enc r) ⟨[], [], 0⟩) : (pureE g A R f).Valid P := by
  intro X args B k r h
  obtain ⟨q, h1, h2⟩ := pureK_at h
  have hac : ∀ B0, ACall P g args B0 (R.enc q) B0 := fun B0 => by
    obtain ⟨q', e, hac⟩ := pure_sound hA hR hent hcall (h2 B0)
    simp only [Option.some.injEq] at e
    rw [e] at hac
    exact hac
  exact ⟨_, _, h1, hac B, fun _ => ⟨rfl, fun B0 _ => hac B0⟩, fun _ => hac, Nat.le_refl _, fun _ _ _ _ => rfl⟩
theorem callB_keep {S : CSpec} {args : List AVal} {B : Bx} {r : S.Out} {b : Nat} (hb : b < B.box.length) (hs : b ∉ selA S args B) : (callB S args B r).2.box[b]? = B.box[b]? := by
  simp only [callB]
  rw [List.getElem?_append_left (by rw [setSel_len]; exact hb), setSel_other hs]
theorem boxE_valid {P : Program} {g : FuncId} {S : CSpec} {f : S.In → Option S.Out} (hS : S.ok = true) (hent : Ent' P g)
    (hcall : ∀ x r, f x = some r → LCall S.I.length P g (encs S.A x.1) ⟨encs S.I x.2, [], S.nt⟩ (S.R.enc r.1) ⟨encs S.O r.2, [], S.ntO⟩) : (boxE g S f).Valid P := by
  intro X args B k r h
  have hsel : PANS.contains g = true → ∀ b ∈ selA S args B, argT args b = true := fun hp b hb => by
    simp only [boxE, hp, Bool.not_true, Bool.false_or] at h
    cases ha : (selA S args B).all (fun b => argT args b) with
    | false => rw [ha] at h; cases h
    | true => exact List.all_eq_true.1 ha b hb
  have h' : callK S f args B k = some r := by
    simp only [boxE, cond_eq_ite] at h
    split at h
    · exact h
    · cases h
  obtain ⟨q, h1, h2⟩ := call_sound hS hent hcall h'
  exact ⟨_, _, h1, h2, (fun h => by cases h), (fun h => by cases h), by simp only [callB, List.length_append, setSel_len]; omega, fun hp b hb ha => callB_keep hb fun hm => by rw [hsel hp b hm] at ha; cases ha⟩
def loopAt (c : Code) (i : Nat) : Code := match (loopsOf c)[i]? with
  | some (.loop b) => b
  | _ => .skip
def bodyOf (f : Func) : Code := f.body.getD .skip
end Go.Proofs.YtcijddeommognaaDoor.Abs
set_option linter.unusedVariables false
set_option linter.unusedSimpArgs false
namespace Go.Proofs.YtcijddeommognaaDoor.Abs
def frzF : (R : PTy) → AVal → Bx → Option R.El
  | .ip T, .bptr b [], B => match B.box[b]? with
    | some c => bif c.isM then none else asData c T
    | none => none
  | R, v, _ => match R.dec v with
    | some y => some y.1
    | none => none
theorem frz_lcall {P : Program} {C : CalT} {Ls : List LoopT} {g : FuncId} {fn : Func} {c : Code} {A : List PTy} {R : PTy} {f : Els A → Option R.El} (hm : P.follows .mixedOrders = true) (hf : P.funcs[g]? = some fn) (hb : fn.body = some c) (hent : Ent P g) (hC : CV P C)
    (hL : LV 0 P false (loopsOf c) Ls) (hA : A.all PTy.pure = true) (hR : R.pure = true) (hev : ∀ x, fnR P C Ls fn c (encs A x) ⟨[], [], 0⟩ (frzF R) = f x) :
    ∀ x r, f x = some r → LCall 0 P g (encs A x) ⟨[], [], 0⟩ (R.enc r) ⟨[], [], 0⟩ := by
  intro x r hr
  obtain ⟨v, B', hk, hl⟩ := fnR_sound (n := 0) hm hf hb hent hC hL ((hev x).trans hr)
  unfold frzF at hk
  split at hk
  · rename_i T b
    split at hk
    · rename_i c hc
      cases hnm : c.isM with
      | true => rw [hnm] at hk; cases hk
      | false =>
        rw [hnm] at hk
        simp only [cond_false] at hk
        refine ⟨hl.1, fun G w vs hvs hw => (hl.2 G w vs hvs hw).mono ?_⟩
        rintro e w' ⟨cv, G1, rfl, h1, h2, h3, h4⟩
        obtain ⟨blk, hblk, _, rfl⟩ := ptr_form h1
        obtain ⟨cells, e, hh, hrc⟩ := (h2.boxes b blk c hblk hc).cells (isC_of hnm)
        have hrd := asData_spec hk _ hrc
        have hmem : blk ∈ G1.addr := List.mem_of_getElem? hblk
        have hge : w.heap.size ≤ blk := by
          rcases h3.addr blk hmem with h | h
          · have := hw.len
            have h0 : G.addr = [] := List.length_eq_zero_iff.1 this
            rw [h0] at h; cases h
          · exact h
        have hnone := h2.disj blk hmem
        let G2 : Gh := { imm := fun x => if x = blk then some cells.toList else G1.imm x, own := fun _ => none, addr := [] }
        have himm : ImmLe G1.imm G2.imm := fun b' row h => by
          have hne : b' ≠ blk := fun he => by subst he; rw [hnone] at h; cases h
          exact ⟨row, by simp [G2, hne, h], List.prefix_refl _⟩
        have hself : G2.imm blk = some cells.toList := by simp [G2]
        have hlen := RD.len hrd
        refine ⟨_, G2, rfl, leaf_v rfl ⟨blk, 0, cells.toList, rfl, hself, by omega, ?_⟩, ⟨rfl, List.nodup_nil, fun i b c h => by simp [G2] at h, fun b' row h => ?_, (fun b h => by cases h), (fun t b n h => by cases h), (fun t t' b n n' h => by cases h), fun q hq => ⟨(h2.tab q hq).1, (fun h => by cases h), (fun t n h => by cases h)⟩, fun i t T xs h => by simp at h⟩,
          ⟨h3.os, h3.tape, h3.output, h3.size, h3.frame, h3.imm.trans himm, fun b' hb' ho => ?_, (fun b hb => by cases hb), (fun t b n h => by cases h)⟩, fun i b hi => by omega⟩
        · rw [List.drop_zero, List.take_of_length_le (by omega)]
          exact RD.mono himm hrd
        · by_cases hbe : b' = blk
          · subst hbe
            rw [hself] at h
            cases h
            exact ⟨cells, e, (0, 0), hh, List.prefix_refl _⟩
          · exact h2.imm b' row (by simpa [G2, hbe] using h)
        · have hne : b' ≠ blk := by omega
          show (if b' = blk then some cells.toList else G1.imm b') = G.imm b'
          rw [if_neg hne]
          exact h3.same b' hb' ho
    · cases hk
  · split at hk
    · rename_i y hy
      obtain ⟨y, l⟩ := y
      simp only [Option.some.injEq] at hk
      subst hk
      refine ⟨hl.1, fun G w vs hvs hw => (hl.2 G w vs hvs hw).mono ?_⟩
      rintro e w' ⟨cv, G1, hend, h1, h2, h3, h4⟩
      let G2 : Gh := { imm := G1.imm, own := fun _ => none, addr := [] }
      have hr : ReTok G1 B'.dead G2 0 [] := ⟨rfl, by simp [G2], fun k t h => by cases h⟩
      have e := pure_toks hR hy
      subst e
      refine ⟨cv, G2, dec_end (pure_notAny hR) hy hend, dec_v hr hy (under_top (pure_under hR)) (fun q hq => by cases hq) h1, ⟨rfl, List.nodup_nil, fun i b c h => by simp [G2] at h, h2.imm, (fun b h => by cases h), (fun t b n h => by cases h), (fun t t' b n n' h => by cases h), fun q hq => ⟨(h2.tab q hq).1, (fun h => by cases h), (fun t n h => by cases h)⟩, fun i t T xs h => by simp at h⟩, ?_, fun i b hi => by omega⟩
      exact ⟨h3.os, h3.tape, h3.output, h3.size, h3.frame, h3.imm, h3.same, (fun b hb => by cases hb), (fun t b n h => by cases h)⟩
    · cases hk
end Go.Proofs.YtcijddeommognaaDoor.Abs
set_option linter.unusedVariables false
set_option linter.unusedSimpArgs false
namespace Go.Proofs.YtcijddeommognaaDoor.Abs
def jumpNo : AExit → Nat
  | .normal => 0
  | .ret => 3
  | .exit id => id + 4
  | .pan _ => 3
theorem jump_st (e : AExit) : stOf (jumpNo e) = if (pendOf (jumpNo e)).isNone then .ready else .done := by
  cases e <;> rfl
def setK (B : Bx) (b : Nat) (from' to : Nat) : Option Bx := match B.box[b]? with
  | some (.lobj g i k env) => bif k == from' then some { B with box := B.box.set b (.lobj g i to env) } else none
  | _ => none
def setKK {X : Type} (B : Bx) (b : Nat) (from' to : Nat) (k : Bx → Option X) : Option X := match B.box[b]? with
  | some (.lobj g i q env) => bif q == from' then k { B with box := B.box.set b (.lobj g i to env) } else none
  | _ => none
theorem setKK_spec {X : Type} {B : Bx} {b from' to : Nat} {k : Bx → Option X} {r : X} (h : setKK B b from' to k = some r) : ∃ B', setK B b from' to = some B' ∧ k B' = some r := by
  unfold setKK at h
  unfold setK
  split at h
  · rename_i g i q env hb
    cases hq : q == from' with
    | false => rw [hq] at h; cases h
    | true =>
      rw [hq] at h
      exact ⟨_, rfl, h⟩
  · cases h
def setPs : List AVal → List Tmp → List AVal → List AVal
  | env, p :: ps, a :: az => setPs (env.set p a) ps az
  | env, _, _ => env
noncomputable def roundR (P : Program) (C : CalT) {X : Type} (Ls : List LoopT) (g i : Nat) (args : List AVal) (B : Bx) (fin : AVal → Bx → Option X) : Option X :=
  match args with
  | .yref b :: az => match B.box[b]? with
    | some (.lobj g' i' k env) => bif g' == g && i' == i then natK k (match lcode g i with
      | .rangeFunc _ ps asg bd => bif ps.size == az.length then
          codeR P C asg [] (setPs (unchain env) ps.toList az) { B with box := B.box.set b (.lobj g' i' 0 env) } fun e env2 B2 => match e with
            | .normal => match setK B2 b 0 1 with
              | some B3 => codeR P C bd Ls env2 B3 fun e env4 B4 => match e with
                | .pan _ => none
                | e => setKK B4 b 1 (jumpNo e) fun B5 => fin (.d .bool (natK (jumpNo e) true fun _ => false)) B5
              | none => none
            | _ => none
        else none
      | _ => none) (fun _ => none) else none
    | _ => none
  | _ => none
theorem setPs_ok {G : Gh} {dead : List Nat} : {ps : List Tmp} → {az : List AVal} → {vs : List Value} → {env : List AVal} → {tm : Array Value} → Vals G dead az vs → EnvOk G dead env tm →
    EnvOk G dead (setPs env ps az) ((ps.zip vs).foldl (fun t (q : Tmp × Value) => t.setIfInBounds q.1 q.2) tm)
  | [], az, vs, env, tm, _, h => by cases az <;> exact h
  | p :: ps, _, _, env, tm, .nil, h => h
  | p :: ps, _, _, env, tm, .cons (a := a) (v := v) hv t, h => by
    have := EnvOk.put (a := { tmps := tm, defers := [] }) h (some p) hv
    exact setPs_ok (ps := ps) (env := env.set p a) (tm := tm.setIfInBounds p v) t this
theorem chain_env {G : Gh} {dead : List Nat} {env : AVal} {vs : List Value} (h : Rl G dead env vs) : EnvOk G dead (unchain env) vs.toArray := by
  have hv := vals_chain h
  refine ⟨by have := vals_len hv; simp [this], fun t => ?_⟩
  rcases Nat.lt_or_ge t (unchain env).length with ht | ht
  · obtain ⟨v, h1, h2⟩ := vals_get hv (List.getElem?_eq_getElem ht)
    have e1 : (unchain env).getD t .any = (unchain env)[t] := by simp [List.getD_eq_getElem?_getD, ht]
    have e2 : (vs.toArray).getD t undef = v := by rw [Array.getD_eq_getD_getElem?]; simp [h1]
    rw [e1, e2]; exact h2
  · have e1 : (unchain env).getD t .any = .any := by rw [List.getD_eq_getElem?_getD, List.getElem?_eq_none ht]; rfl
    rw [e1]; exact any_v _
theorem natK_some {X : Type} {k : Nat} {a : Option X} {r : X} (h : natK k a (fun _ => none) = some r) : k = 0 ∧ a = some r := by
  cases k with
  | zero => exact ⟨rfl, h⟩
  | succ k => cases h
theorem setK_dead {B B' : Bx} {b from' to : Nat} (h : setK B b from' to = some B') : B'.dead = B.dead := by
  unfold setK at h
  split at h
  · rename_i g i k env hbx
    cases hk : k == from' with
    | false => rw [hk] at h; cases h
    | true =>
      rw [hk] at h
      simp only [cond_true, Option.some.injEq] at h
      subst h
      rfl
  · cases h
theorem setK_ok {G : Gh} {B B' : Bx} {w : World} {b l from' to : Nat} (hw : WOk G B w) (h : setK B b from' to = some B') (hb : G.addr[b]? = some l) :
    ∃ r g i, w.heap[l]? = some (.loop r) ∧ LoopIs g i from' r ∧ ∀ r' : Loop, r'.tmps = r.tmps → LoopIs g i to r' → WOk G B' (putO w l (.loop r')) ∧ Ext G w G (putO w l (.loop r')) := by
  unfold setK at h
  split at h
  · rename_i g i k env hbx
    cases hk : k == from' with
    | false => rw [hk] at h; cases h
    | true =>
      rw [hk] at h
      simp only [cond_true, Option.some.injEq] at h
      subst h
      have hk : k = from' := by simpa using hk
      subst hk
      obtain ⟨o, cs, h1, ⟨r, rfl, h2, h3⟩, h4⟩ := hw.boxes b l _ hb hbx
      refine ⟨r, g, i, h1, h2, fun r' ht hl => ?_⟩
      exact upd_obj (c' := .lobj g i to env) (o' := .loop r') hw hb hbx rfl rfl h1 ⟨r', rfl, hl, by rw [ht, ← h3]⟩ h4
  · cases h
theorem round_sound {n : Nat} {P : Program} {C : CalT} {X : Type} {Ls : List LoopT} {g i : Nat} {args : List AVal} {B : Bx} {fin : AVal → Bx → Option X} {res : X} {f : Operand} {ps : Array Tmp} {asg bd : Code} (hm : P.follows .mixedOrders = true) (hC : CV P C)
    (hc : lcode g i = .rangeFunc f ps asg bd) (hL : LV n P true (loopsOf bd) Ls) (hn : ∀ b az, args = .yref b :: az → b < n) (h : roundR P C Ls g i args B fin = some res) : ∃ v B', fin v B' = some res ∧ LCall n P YLD args B v B' := by
  unfold roundR at h
  split at h
  · rename_i b az
    have hbn := hn b az rfl
    split at h
    · rename_i g' i' k env hbx
      cases hgi : g' == g && i' == i with
      | false => rw [hgi] at h; cases h
      | true =>
        rw [hgi] at h
        simp only [cond_true] at h
        simp only [Bool.and_eq_true, beq_iff_eq] at hgi
        obtain ⟨rfl, rfl⟩ := hgi
        obtain ⟨rfl, h⟩ := natK_some h
        have hsame : ({ B with box := B.box.set b (.lobj g' i' 0 env) } : Bx) = B := by
          obtain ⟨hlt, he⟩ := List.getElem?_eq_some_iff.1 hbx
          rw [← he, List.set_getElem_self]
        rw [hsame] at h
        rw [hc] at h
        simp only at h
        cases hps : ps.size == az.length with
        | false => rw [hps] at h; cases h
        | true =>
          rw [hps] at h
          simp only [cond_true] at h
          have hps : ps.size = az.length := by simpa using hps
          obtain ⟨e, env2, B2, h1, w1⟩ := codeR_sound (n := n) (rd := true) hm hC asg (by unfold LV; cases loopsOf asg <;> trivial) h
          cases e with
          | exit id => cases h1
          | ret => cases h1
          | pan t => cases h1
          | normal =>
            simp only at h1
            split at h1
            · rename_i B3 hB3
              obtain ⟨e, env4, B4, h2, w2⟩ := codeR_sound (n := n) (rd := true) hm hC bd hL h1
              obtain ⟨hnp, h2⟩ : (∀ t, e ≠ .pan t) ∧ (setKK B4 b 1 (jumpNo e) fun B5 => fin (.d .bool (natK (jumpNo e) true fun _ => false)) B5) = some res := by
                cases e with
                | pan t => cases h2
                | _ => exact ⟨fun t h => (by cases h), h2⟩
              obtain ⟨B5, hB5, h2⟩ := setKK_spec h2
              · refine ⟨_, _, h2, .inl rfl, fun G w vs hvs hw => ⟨(fun hne => absurd rfl hne), fun _ l vs' hvse => ?_⟩⟩
                subst hvse
                cases hvs with
                | cons hyv hargs =>
                  have hl : G.addr[b]? = some l := by
                    obtain ⟨cs, ⟨blk, hb, rfl⟩, hh | hh⟩ := hyv
                    · cases hh.1
                    · have := hh.2
                      simp only [List.cons.injEq, Value.func.injEq, Fn.yield.injEq, and_true] at this
                      rw [← this]; exact hb
                  obtain ⟨o, cs, k1, ⟨r, rfl, hr, rfl⟩, k3⟩ := hw.boxes b l _ hl hbx
                  obtain ⟨⟨f', hf'⟩, hst, hpe⟩ := id hr
                  rw [hc] at hf'
                  injection hf' with e1 e2 e3 e4
                  subst e2 e3 e4
                  have hlen := vals_len hargs
                  refine ⟨r.fn, _, r.assign, r.body, run_yield k1 (by simp [← hlen, hps]), ?_⟩
                  refine roundIn_of_wpIn trivial ?_
                  have henv : EnvOk G B.dead (setPs (unchain env) r.params.toList az) ((r.params.zip vs'.toArray).foldl (fun tmps (t, a) => tmps.setIfInBounds t a) r.tmps) := by
                    have h0 := chain_env (G := G) (dead := B.dead) k3
                    have := setPs_ok (ps := r.params.toList) hargs h0
                    have e : (r.params.zip vs'.toArray).foldl (fun tmps (t, a) => tmps.setIfInBounds t a) r.tmps = (r.params.toList.zip vs').foldl (fun t (q : Tmp × Value) => t.setIfInBounds q.1 q.2) r.tmps.toList.toArray := by
                      rw [← Array.foldl_toList, Array.toList_zip]
                    rw [e]
                    exact this
                  refine w1 (some l) rfl G _ w _ ⟨henv, hw, trivial⟩ fun G2 a2 w2' x hx g2 => ?_
                  cases hx
                  have hl2 : G2.addr[b]? = some l := g2.held b l hbn hl
                  obtain ⟨r2, gg, ii, q1, q2, q3⟩ := setK_ok g2.ok.w hB3 hl2
                  obtain ⟨q3, q4⟩ := q3 { r2 with state := .busy } rfl ⟨q2.1, rfl, fun _ => q2.2.2 (by decide)⟩
                  refine ⟨_, run_beginRound q1 q2.2.1, ?_⟩
                  refine w2 (some l) rfl G2 a2 _ _ ⟨by rw [setK_dead hB3]; exact g2.ok.env, q3, g2.ok.marks.ext q4⟩ fun G4 a4 w4 x hx g4 => ?_
                  have hl4 : G4.addr[b]? = some l := g4.held b l hbn hl2
                  obtain ⟨r4, gg4, ii4, p1, p2, p3⟩ := setK_ok g4.ok.w hB5 hl4
                  have fin' : ∀ (jump : Option Code), jump = pendOf (jumpNo e) → ∃ v w', (Instr.endRound l jump).run P w4 = .ok v w' ∧ ∃ cv G', Ending.returned v = .returned cv ∧ Rv G' B5.dead (.d .bool (natK (jumpNo e) true fun _ => false)) cv ∧ WOk G' B5 w' ∧ Ext G w G' w' ∧ ∀ i b, i < n → G.addr[i]? = some b → G'.addr[i]? = some b := by
                    intro jump hj
                    have hrun := run_endRound (P := P) jump p1
                    obtain ⟨p4, p5⟩ := p3 { r4 with state := if jump.isNone then .ready else .done, pending := jump } rfl ⟨p2.1, by rw [jump_st, ← hj], fun _ => hj⟩
                    refine ⟨_, _, hrun, _, G4, rfl, ?_, p4, ((g2.ext.trans q4).trans g4.ext).trans p5, fun j c hj' hc' => g4.held j c hj' (g2.held j c hj' hc')⟩
                    rw [hj]
                    cases e <;> exact leaf_v rfl rfl
                  cases e with
                  | normal => cases hx; exact fin' none rfl
                  | ret => cases hx; exact fin' (some .ret) rfl
                  | exit id => cases hx; exact fin' (some (.exit id)) rfl
                  | pan t => exact absurd rfl (hnp t)
            · cases h1
    · cases h
  · cases h
theorem rd_lcall {P : Program} {C : CalT} {Ls : List LoopT} {g i : Nat} {S : CSpec} {f : S.In → Option S.Out} {fo : Operand} {ps : Array Tmp} {asg bd : Code} (hm : P.follows .mixedOrders = true) (hC : CV P C) (hc : lcode g i = .rangeFunc fo ps asg bd)
    (hL : LV S.I.length P true (loopsOf bd) Ls) (hn : ∃ A', S.A = .fix (.yref 0) :: A') (hI : 0 < S.I.length) (hS : S.ok = true) (hS2 : S.ok2 = true) (hev : ∀ x, roundR P C Ls g i (encs S.A x.1) ⟨encs S.I x.2, [], S.nt⟩ (finK S) = f x) :
    ∀ x r, f x = some r → LCall S.I.length P YLD (encs S.A x.1) ⟨encs S.I x.2, [], S.nt⟩ (S.R.enc r.1) ⟨encs S.O r.2, [], S.ntO⟩ := by
  intro x r hr
  obtain ⟨v, B', hk, hl⟩ := round_sound (n := S.I.length) hm hC hc hL (fun b az he => by
    obtain ⟨A', hA⟩ := hn
    have : ∀ (A : List PTy) (y : Els A), A = .fix (.yref 0) :: A' → encs A y = .yref b :: az → b = 0 := by
      intro A y hA hy
      subst hA
      simp only [encs, List.cons.injEq, AVal.yref.injEq] at hy
      exact hy.1.symm
    rw [this S.A x.1 hA he]
    exact hI) ((hev x).trans hr)
  unfold finK at hk
  split at hk
  · rename_i z hz
    simp only [Option.some.injEq] at hk
    subst hk
    simp only [CSpec.ok, Bool.and_eq_true, decide_eq_true_eq] at hS
    refine ⟨hl.1, fun G w vs hvs hw => (hl.2 G w vs hvs hw).mono ?_⟩
    rintro e w' ⟨cv, G1, hend, h1, h2, h3, h4⟩
    have hok : Ok G1 B' [v] { tmps := #[cv], defers := [] } w' := ⟨⟨rfl, fun t => by
      cases t with
      | zero => exact h1
      | succ t => exact any_v _⟩, h2, trivial⟩
    obtain ⟨G2, g2⟩ := norm_sound (n := S.I.length) (CSpec.ok2_1 hS2) hS.2 hz hok
    refine ⟨cv, G2, decs_end (CSpec.ok2_2 hS2) hz hend, by have := g2.ok.env.val 0; unfold SPat.encE at this; rw [oneE_enc] at this; exact this, g2.ok.w, h3.trans g2.ext, fun i b hi hb => g2.held i b hi (h4 i b hi hb)⟩
  · cases hk
end Go.Proofs.YtcijddeommognaaDoor.Abs
set_option linter.unusedVariables false
set_option linter.unusedSimpArgs false
set_option maxRecDepth 100000
namespace Go.Proofs.YtcijddeommognaaDoor.Abs
def frzA : AVal → AVal
  | .own _ T xs => .d (.list T) xs
  | .cons h t => .cons (frzA h) (frzA t)
  | .func fn a b => .func fn (frzA a) (frzA b)
  | .iface t v => .iface t (frzA v)
  | .tuple v => .tuple (frzA v)
  | a => a
theorem frzA_agg (a : AVal) : (frzA a).agg = a.agg := by cases a <;> rfl
theorem frzA_rp {G : Gh} {dead : List Nat} : (a : AVal) → (∀ cs, (Rp G dead a).1 cs → (Rp G dead (frzA a)).1 cs) ∧ (∀ vs, (Rp G dead a).2 vs → (Rp G dead (frzA a)).2 vs)
  | .own tok T xs => ⟨fun cs h => h.1, fun _ h => h.elim⟩
  | .cons a t => by
    have m1 := frzA_rp (G := G) (dead := dead) a
    have m2 := frzA_rp (G := G) (dead := dead) t
    exact ⟨fun cs h => by
      obtain ⟨c1, c2, rfl, h1, h2⟩ := h
      exact ⟨c1, c2, rfl, m1.1 _ h1, m2.1 _ h2⟩, fun vs h => by
      obtain ⟨v, l, rfl, ⟨cs, hc, hv⟩, hl⟩ := h
      exact ⟨v, l, rfl, ⟨cs, m1.1 _ hc, by rw [frzA_agg]; exact hv⟩, m2.2 _ hl⟩⟩
  | .func fn f c => by
    have m1 := frzA_rp (G := G) (dead := dead) f
    have m2 := frzA_rp (G := G) (dead := dead) c
    exact ⟨fun cs h => by
      obtain ⟨fv, cv, rfl, h1, h2⟩ := h
      exact ⟨fv, cv, rfl, m1.2 _ h1, m2.2 _ h2⟩, fun _ h => h⟩
  | .iface t v => by
    have m1 := frzA_rp (G := G) (dead := dead) v
    exact ⟨fun cs h => by
      obtain ⟨v', rfl, c, hc, hv⟩ := h
      exact ⟨v', rfl, c, m1.1 _ hc, by rw [frzA_agg]; exact hv⟩, fun _ h => h⟩
  | .tuple vs => by
    have m1 := frzA_rp (G := G) (dead := dead) vs
    exact ⟨fun cs h => by
      obtain ⟨l, rfl, hl⟩ := h
      exact ⟨l, rfl, m1.2 _ hl⟩, fun _ h => h⟩
  | .d .. => ⟨fun _ h => h, fun _ h => h⟩
  | .nil => ⟨fun _ h => h, fun _ h => h⟩
  | .pnil => ⟨fun _ h => h, fun _ h => h⟩
  | .bptr .. => ⟨fun _ h => h, fun _ h => h⟩
  | .iptr .. => ⟨fun _ h => h, fun _ h => h⟩
  | .fnil => ⟨fun _ h => h, fun _ h => h⟩
  | .snil => ⟨fun _ h => h, fun _ h => h⟩
  | .inil => ⟨fun _ h => h, fun _ h => h⟩
  | .any => ⟨fun _ h => h, fun _ h => h⟩
  | .mnil => ⟨fun _ h => h, fun _ h => h⟩
  | .mref _ => ⟨fun _ h => h, fun _ h => h⟩
  | .mobj .. => ⟨fun _ h => h, fun _ h => h⟩
  | .yref _ => ⟨fun _ h => h, fun _ h => h⟩
  | .lobj .. => ⟨fun _ h => h, fun _ h => h⟩
  | .vec .. => ⟨fun _ h => h, fun _ h => h⟩
  | .vptr .. => ⟨fun _ h => h, fun _ h => h⟩
  | .vrow .. => ⟨fun _ h => h, fun _ h => h⟩
  | .optp _ => ⟨fun _ h => h, fun _ h => h⟩
  | .bsl .. => ⟨fun _ h => h, fun _ h => h⟩
  | .siter .. => ⟨fun _ h => h, fun _ h => h⟩
  | .pan _ => ⟨fun _ h => h, fun _ h => h⟩
  | .tbox .. => ⟨fun _ h => h, fun _ h => h⟩
def selJ {X : Type} (k : AExit → Option X) : List AExit → Nat → Option X
  | [], _ => none
  | .pan _ :: xs, j => selJ k xs j
  | x :: xs, j => bif j == jumpNo x then k x else selJ k xs j
theorem selJ_spec {X : Type} {k : AExit → Option X} {r : X} : {xs : List AExit} → {j : Nat} → selJ k xs j = some r → ∃ x, j = jumpNo x ∧ k x = some r ∧ ∀ t, x ≠ .pan t
  | .pan _ :: xs, j, h => selJ_spec (xs := xs) h
  | .normal :: xs, j, h => by
    simp only [selJ] at h
    cases hb : j == jumpNo (.normal) with
    | true =>
      rw [hb] at h
      exact ⟨_, by simpa using hb, h, fun t h => by cases h⟩
    | false =>
      rw [hb] at h
      exact selJ_spec h
  | .ret :: xs, j, h => by
    simp only [selJ] at h
    cases hb : j == jumpNo (.ret) with
    | true =>
      rw [hb] at h
      exact ⟨_, by simpa using hb, h, fun t h => by cases h⟩
    | false =>
      rw [hb] at h
      exact selJ_spec h
  | .exit id :: xs, j, h => by
    simp only [selJ] at h
    cases hb : j == jumpNo (.exit id) with
    | true =>
      rw [hb] at h
      exact ⟨_, by simpa using hb, h, fun t h => by cases h⟩
    | false =>
      rw [hb] at h
      exact selJ_spec h
def rangeR {X : Type} (C : CalT) (g i : Nat) (f : Operand) (xs : List AExit) (env : List AVal) (B : Bx) (k : AExit → List AVal → Bx → Option X) : Option X :=
  match opA env f with
  | .func (.func gf) first cap => bif gf == YLD then none else
      C.run X gf (unchain first ++ [.yref B.box.length] ++ unchain cap) (B.push (.lobj g i 0 (chain (env.map frzA)))) fun v B2 => bif v.isPan then none else
        match B2.box[B.box.length]? with
        | some (.lobj g' i' j env') => selJ (fun e => k e env { B2 with box := B2.box.set B.box.length (.lobj g' i' 2 env') }) xs j
        | _ => none
  | _ => none
def rfT (C : CalT) (g i : Nat) (f : Operand) (xs : List AExit) : LoopT := ⟨fun X env B k => rangeR C g i f xs env B k⟩
theorem env_chain {G : Gh} {dead : List Nat} : {env : List AVal} → {vs : List Value} → env.length = vs.length → (∀ t, t < env.length → Rv G dead (env.getD t .any) (vs.getD t undef)) → Rl G dead (chain (env.map frzA)) vs
  | [], [], _, _ => rfl
  | a :: env, v :: vs, hl, h => by
    have h0 := h 0 (by simp)
    refine ⟨v, vs, rfl, ?_, env_chain (by simpa using hl) fun t ht => by simpa using h (t + 1) (by simpa using ht)⟩
    obtain ⟨cs, h1, h2⟩ := h0
    simp only [List.getD_cons_zero] at h1 h2
    exact ⟨cs, (frzA_rp a).1 cs h1, by rw [frzA_agg]; exact h2⟩
theorem rfT_valid {n : Nat} {P : Program} {C : CalT} {g i : Nat} {f : Operand} {ps : Array Tmp} {asg bd : Code} {xs : List AExit} (hC : CV P C) (hc : lcode g i = .rangeFunc f ps asg bd) : LValid n P (.rangeFunc f ps asg bd) (rfT C g i f xs) := by
  intro X env B k r h
  simp only [rfT] at h
  unfold rangeR at h
  split at h
  · rename_i gf first cap hf
    cases hgy : gf == YLD with
    | true => rw [hgy] at h; cases h
    | false =>
      rw [hgy] at h
      simp only [cond_false] at h
      have hgy : gf ≠ YLD := by simpa using hgy
      obtain ⟨v, B2, hk, hcr⟩ := hC _ _ _ _ _ _ h
      cases hvp : v.isPan with
      | true => rw [hvp] at hk; cases hk
      | false =>
      rw [hvp] at hk
      simp only [cond_false] at hk
      split at hk
      · rename_i g' i' j env' hbx
        obtain ⟨e, hj, hk, hnp⟩ := selJ_spec hk
        refine ⟨e, env, _, hk, fun ro hro G a w Q hok hQ => ?_⟩
        have hro : ro = none := by cases ro <;> simp at hro; rfl
        subst hro
        obtain ⟨hent, hcall⟩ := hcr.call
        replace hent := (hent.resolve_left hgy).2
        refine wpIn_rangeFunc ?_
        intro fn _
        obtain ⟨w1, hw1⟩ : ∃ w1, w.alloc (.deferred (some [])) = w1 := ⟨_, rfl⟩
        obtain ⟨r0, hr0⟩ : ∃ r0 : Loop, r0 = { state := .ready, pending := none, fn, tmps := a.tmps, params := ps, assign := asg, body := bd, defers := w.heap.size } := ⟨_, rfl⟩
        have hg1 : Grew w w1 := by rw [← hw1]; exact grew_alloc _ _
        have hwok1 := hok.w.grew hg1
        have hsz1 : w1.heap.size = w.heap.size + 1 := by rw [← hw1]; simp
        have hK : w1.heap[w.heap.size]? = some (.deferred (some [])) := by rw [← hw1]; exact World.alloc_heap_new w _
        have hlen := hok.env.len
        have hch : Rc G B.dead (.lobj g i 0 (chain (env.map frzA))) a.tmps.toList := by
          refine env_chain (by simpa using hlen.symm) fun t ht => ?_
          have := hok.env.val t
          rw [Array.getD_eq_getD_getElem?] at this
          rw [List.getD_eq_getElem?_getD (l := a.tmps.toList), Array.getElem?_toList]
          exact this
        obtain ⟨G1, ha1, hwok2, hle1, hext1⟩ := new_obj (o := .loop r0) (c := .lobj g i 0 (chain (env.map frzA))) (cs := a.tmps.toList) hwok1 rfl ⟨r0, rfl, ⟨⟨f, by rw [hr0]; exact hc⟩, by rw [hr0]; rfl, fun _ => by rw [hr0]; rfl⟩, by rw [hr0]⟩ hch
        have hfv := hok.env.op (a := a) f
        rw [hf] at hfv
        obtain ⟨cs, ⟨fv, cv, rfl, h1, h2⟩, hh | hh⟩ := hfv
        · cases hh.1
        have hfe : a.eval f = .func (.func gf) fv.toArray cv.toArray := by simpa using hh.2.symm
        have hyv : Rv G1 B.dead (.yref B.box.length) (.func (.yield w1.heap.size) #[] #[]) := leaf_v rfl ⟨_, ha1, rfl⟩
        have hvals := ((vals_chain (Rl.mono hle1 h1)).append (Vals.cons hyv .nil)).append (vals_chain (Rl.mono hle1 h2))
        refine ⟨w1.heap.size, [{ target := .collected w.heap.size, args := #[] }], w1.alloc (.loop r0), { target := .fn (.func gf) cv.toArray, args := (fv ++ [Value.func (.yield w1.heap.size) #[] #[]]).toArray }, w1.alloc (.loop r0), gf, (fv ++ [Value.func (.yield w1.heap.size) #[] #[]] ++ cv).toArray, w1.alloc (.loop r0), ?_, ?_, fun _ _ => trivial, ?_, (fun h => by cases h), ?_⟩
        · have := run_enterLoop_outer (P := P) (w := w) fn a.tmps ps asg bd
          rw [hr0, hsz1, ← hw1]
          exact this
        · unfold resolve
          simp only [hfe, Deferred.ofValue, Sem.run_bind, Sem.run_pure, Result.andThen_ok]
          refine congrArg (fun z => Result.ok ({ target := Target.fn (Fn.func gf) cv.toArray, args := z } : Deferred) (w1.alloc (.loop r0))) ?_
          apply Array.ext'
          simp [Act.eval]
        · simp only [invoke]
          rw [hent]
          refine congrArg (fun z => Result.ok (Next.enter gf z) (w1.alloc (.loop r0))) ?_
          apply Array.ext'
          simp
        · refine callsIn_wide.2 (((hcall G1 _ _ hvals hwok2).1 hgy).mono ?_)
          rintro e' w3 ⟨cv', G2, hend, g1, g2, g3, g4⟩
          obtain rfl := hend.ret hvp
          have hl2 : G2.addr[B.box.length]? = some w1.heap.size := prefix_getElem? g3.addr ha1
          obtain ⟨o, cs3, k1, ⟨r3, rfl, hr3, hcs⟩, k3⟩ := g2.boxes _ _ _ hl2 hbx
          have hnb : r3.state ≠ .busy := by
            rw [hr3.2.1, hj]
            cases e <;> simp [jumpNo, stOf]
          obtain ⟨p1, p2⟩ := upd_obj (c' := .lobj g' i' 2 env') (o' := .loop { r3 with state := .exhausted }) g2 hl2 hbx rfl rfl k1 ⟨_, rfl, ⟨hr3.1, rfl, fun h => absurd rfl h⟩, hcs⟩ k3
          have hend := run_endLoop (P := P) k1 hnb
          have hpe : r3.pending = pendOf (jumpNo e) := by rw [hr3.2.2 (by rw [hj]; cases e <;> simp [jumpNo]), hj]
          have hx14 : Ext G1 (w1.alloc (.loop r0)) G2 (putO w3 w1.heap.size (.loop { r3 with state := .exhausted })) := g4.trans p2
          have hx04 : Ext G w G2 (putO w3 w1.heap.size (.loop { r3 with state := .exhausted })) := (hg1.ext G).trans (hext1.trans hx14)
          have hDlt : w.heap.size < w1.heap.size := by omega
          have hDne : w.heap.size ∉ G1.addr := fun hm => by
            rcases hext1.addr _ hm with hm | hm
            · have := hok.w.addr_lt hm; omega
            · omega
          have hDown : ∀ t n, G1.own t ≠ some (w.heap.size, n) := fun t n hn => by
            rcases hext1.own _ _ _ hn with ⟨t', ht⟩ | hm
            · obtain ⟨_, _, c, e, hh, _⟩ := hok.w.own _ _ _ ht
              have := heap_lt hh; omega
            · omega
          have hDheap : (w1.alloc (.loop r0)).heap[w.heap.size]? = some (.deferred (some [])) := by
            rw [← hK]; exact heap_push_lt hDlt
          have hm1 : Marks G1 (w1.alloc (.loop r0)) ({ target := .collected w.heap.size, args := #[] } :: a.defers) := by
            refine ⟨.inr ⟨w.heap.size, rfl, hDheap, hDne, hDown, fun d' hd' he => ?_⟩, hok.marks.ext ((hg1.ext G).trans hext1)⟩
            have key : ∀ ds, Marks G w ds → ∀ d' ∈ ds, d'.target ≠ .collected w.heap.size := by
              intro ds
              induction ds with
              | nil => intro _ d' h; cases h
              | cons d ds ih =>
                intro hm d' hd'
                rcases List.mem_cons.1 hd' with rfl | hd'
                · intro e3
                  rcases hm.1 with hfn | ⟨D, e1, e2, _⟩
                  · unfold isFnD at hfn; rw [e3] at hfn; cases hfn
                  rw [e1] at e3
                  cases e3
                  have := heap_lt e2
                  omega
                · exact ih hm.2 d' hd'
            exact key _ hok.marks d' hd' he
          have hgoes : Goes n G a w G2 { B2 with box := B2.box.set B.box.length (.lobj g' i' 2 env') } env { a with defers := [{ target := .collected w.heap.size, args := #[] }] ++ a.defers } (putO w3 w1.heap.size (.loop { r3 with state := .exhausted })) := by
            refine ⟨⟨(hok.env.mono hle1).mono g3, p1, hm1.ext hx14⟩, hx04, ⟨fun d hd => ?_, rfl⟩, fun q b _ hb => prefix_getElem? g3.addr (prefix_getElem? hle1.addr hb)⟩
            rcases List.mem_cons.1 hd with rfl | hd
            · exact .inr ⟨_, rfl, Nat.le_refl _⟩
            · exact .inl hd
          refine ⟨_, _, hend, ?_⟩
          split
          · rename_i hp
            rw [hpe] at hp
            cases e with
            | normal => exact hQ G2 _ _ _ rfl hgoes
            | ret => cases hp
            | exit id => cases hp
            | pan t => exact absurd rfl (hnp t)
          · rename_i c hp
            rw [hpe] at hp
            cases e with
            | normal => cases hp
            | ret => cases hp; exact wpIn_ret (hQ G2 _ _ _ rfl hgoes)
            | exit id => cases hp; exact wpIn_exit (hQ G2 _ _ _ rfl hgoes)
            | pan t => exact absurd rfl (hnp t)
      · cases hk
  · cases h
theorem rf_form : {c : Code} → {f : Operand} → rfOp c = some f → ∃ ps asg bd, c = .rangeFunc f ps asg bd
  | .rangeFunc f' ps asg bd, f, h => by
    simp only [rfOp, Option.some.injEq] at h
    subst h
    exact ⟨ps, asg, bd, rfl⟩
theorem isRf_form : {c : Code} → isRf c = true → ∃ f ps asg bd, c = .rangeFunc f ps asg bd
  | .rangeFunc f ps asg bd, _ => ⟨f, ps, asg, bd, rfl⟩
theorem rfT_valid' {n : Nat} {P : Program} {C : CalT} {g i : Nat} {f : Operand} {xs : List AExit} (hC : CV P C) (hf : rfOp (lcode g i) = some f) : LValid n P (lcode g i) (rfT C g i f xs) := by
  obtain ⟨ps, asg, bd, hc⟩ := rf_form hf
  have := rfT_valid (n := n) (P := P) (C := C) (xs := xs) hC hc
  rw [← hc] at this
  exact this
theorem rd_lcall' {P : Program} {C : CalT} {Ls : List LoopT} {g i : Nat} {S : CSpec} {f : S.In → Option S.Out} (hm : P.follows .mixedOrders = true) (hC : CV P C) (hc : isRf (lcode g i) = true)
    (hL : LV S.I.length P true (loopsOf (rfBody (lcode g i))) Ls) (hn : ∃ A', S.A = .fix (.yref 0) :: A') (hI : 0 < S.I.length) (hS : S.ok = true) (hS2 : S.ok2 = true) (hev : ∀ x, roundR P C Ls g i (encs S.A x.1) ⟨encs S.I x.2, [], S.nt⟩ (finK S) = f x) :
    ∀ x r, f x = some r → LCall S.I.length P YLD (encs S.A x.1) ⟨encs S.I x.2, [], S.nt⟩ (S.R.enc r.1) ⟨encs S.O r.2, [], S.ntO⟩ := by
  obtain ⟨f', ps, asg, bd, hcc⟩ := isRf_form hc
  rw [hcc] at hL
  exact rd_lcall hm hC hcc hL hn hI hS hS2 hev
end Go.Proofs.YtcijddeommognaaDoor.Abs
set_option linter.unusedVariables false
set_option linter.unusedSimpArgs false
namespace Go.Proofs.YtcijddeommognaaDoor.Abs
def seqR : Code → Code
  | .seq _ b => b
  | c => c
def conL : Code → Code
  | .cond _ a _ => a
  | c => c
def conR : Code → Code
  | .cond _ _ b => b
  | c => c
def blkC : Code → Code
  | .block _ c => c
  | c => c
inductive Jn
  | whole (Ls : List LoopT)
  | cut (L : LoopT)
  | seq (x y : Jn)
  | cond (x y : Jn)
  | block (x : Jn)
  | scope (x : Jn)
section
variable {n : Nat} {P : Program} {rd : Bool} {x y : Jn} {c : Code}
end
end Go.Proofs.YtcijddeommognaaDoor.Abs
set_option linter.unusedVariables false
set_option linter.unusedSimpArgs false
namespace Go.Proofs.YtcijddeommognaaDoor.Abs
def vecA (B : Bx) : AVal → Bool × AVal
  | .vec t b T n => match B.box[b]? with
    | some (.vrow t' T' xs) => if h : T' = T then (bif t' == t then (decide (n ≤ xs.length), .d (.list T) ((h ▸ xs).take n)) else (false, .any)) else (false, .any)
    | _ => (false, .any)
  | .cons h t => ((vecA B h).1 && (vecA B t).1, .cons (vecA B h).2 (vecA B t).2)
  | .tuple v => ((vecA B v).1, .tuple (vecA B v).2)
  | a => (true, a)
open Classical in
noncomputable def sealG (G : Gh) (w : World) : Gh := { G with imm := fun c => match G.imm c with
  | some r => some r
  | none => if ∃ t n, G.own t = some (c, n) then (match w.heap[c]? with | some (.cells cs _ _) => some cs.toList | _ => none) else none }
theorem sealG_old {G : Gh} {w : World} {c : Nat} {r : List Value} (h : G.imm c = some r) : (sealG G w).imm c = some r := by
  simp [sealG, h]
theorem sealG_new {G : Gh} {w : World} {c t n : Nat} {cells : Array Value} {e : TypeId} {fr : Nat × Nat} (h : G.imm c = none) (ho : G.own t = some (c, n)) (hh : w.heap[c]? = some (.cells cells e fr)) : (sealG G w).imm c = some cells.toList := by
  have : ∃ t n, G.own t = some (c, n) := ⟨t, n, ho⟩
  simp [sealG, h, hh, this]
theorem sealG_inv {G : Gh} {w : World} {c : Nat} {r : List Value} (h : (sealG G w).imm c = some r) : G.imm c = some r ∨ (G.imm c = none ∧ (∃ t n, G.own t = some (c, n)) ∧ ∃ cells e fr, w.heap[c]? = some (.cells cells e fr) ∧ r = cells.toList) := by
  unfold sealG at h
  simp only at h
  split at h
  · rename_i r' hr
    exact .inl (hr.trans h)
  · rename_i hn
    split at h
    · rename_i ho
      split at h
      · rename_i cs e fr hh
        simp only [Option.some.injEq] at h
        exact .inr ⟨hn, ho, cs, e, fr, hh, h.symm⟩
      · cases h
    · cases h
theorem sealG_le {G : Gh} {w : World} (dead : List Nat) : GLe G dead (sealG G w) dead :=
  ⟨fun b row h => ⟨row, sealG_old h, List.prefix_refl _⟩, List.prefix_refl _, fun _ h => h, fun t b n _ h => ⟨h, fun row h' => sealG_old h'⟩⟩
theorem vecA_agg {B : Bx} (a : AVal) (h : (vecA B a).1 = true) : (vecA B a).2.agg = a.agg := by
  cases a with
  | vec t b T n =>
    unfold vecA at h ⊢
    split
    · rename_i t' T' xs hb
      rw [hb] at h
      simp only at h
      split
      · rename_i hT
        subst hT
        cases ht : t' == t with
        | false => simp [ht] at h
        | true => simp [AVal.agg, DTy.agg]
      · rename_i hT
        simp [hT] at h
    · rename_i hno
      split at h
      · rename_i hb
        exact absurd hb (hno _ _ _)
      · cases h
  | _ => rfl
theorem vecA_rp {G : Gh} {B : Bx} {w : World} (hw : WOk G B w) : (a : AVal) → (vecA B a).1 = true → (∀ cs, (Rp G B.dead a).1 cs → (Rp (sealG G w) B.dead (vecA B a).2).1 cs) ∧ (∀ vs, (Rp G B.dead a).2 vs → (Rp (sealG G w) B.dead (vecA B a).2).2 vs)
  | .vec t b T n, h => by
    unfold vecA at h ⊢
    split at h
    · rename_i t' T' xs hb
      split at h
      · rename_i hT
        subst hT
        cases ht : t' == t with
        | false => simp [ht] at h
        | true =>
          have ht' : t' = t := by simpa using ht
          subst ht'
          simp only [ht, cond_true, decide_eq_true_eq] at h
          simp only [hb, dif_pos, ht, cond_true]
          obtain ⟨v1, v2, blk0, n0, cells, e, v3, v4, v5, v6, v7, v8⟩ := hw.vec b t' T' xs hb
          refine ⟨fun cs hc => ?_, fun vs hv => hv.elim⟩
          obtain ⟨blk, cap, rfl, hd⟩ := hc
          obtain ⟨ho, hn⟩ := hd.resolve_left v1
          rw [ho] at v3
          obtain ⟨rfl, rfl⟩ : blk = blk0 ∧ cap * T'.sz = n0 := by simpa using v3
          have himm : (sealG G w).imm blk = some cells.toList := sealG_new v7 ho v4
          have hl : (xs.take n).length = n := by simp; omega
          refine ⟨some ⟨blk, 0, none⟩, cap, by rw [hl], by rw [hl]; exact hn, fun _ => ⟨blk, 0, cells.toList, rfl, himm, ?_, fun i x hi => ?_⟩⟩
          · rw [hl, Nat.zero_add, Array.length_toList, v6]
            exact Nat.mul_le_mul_right _ hn
          · have hi2 : xs[i]? = some x := by
              rw [List.getElem?_take] at hi
              split at hi
              · exact hi
              · cases hi
            have hil := (List.getElem?_eq_some_iff.1 hi2).1
            have hm := mul_room (s := T'.sz) hil
            have := v8.2.2 i x hi2
            rw [List.drop_take, List.take_take, Nat.min_eq_left (by omega)] at this
            rw [Nat.zero_add]
            exact RD.mono (sealG_le (w := w) B.dead).imm this
      · cases h
    · cases h
  | .cons a t, h => by
    simp only [vecA, Bool.and_eq_true] at h
    have m1 := vecA_rp hw a h.1
    have m2 := vecA_rp hw t h.2
    exact ⟨fun cs h => by
      obtain ⟨c1, c2, rfl, h1, h2⟩ := h
      exact ⟨c1, c2, rfl, m1.1 _ h1, m2.1 _ h2⟩, fun vs hvs => by
      obtain ⟨v, l, rfl, ⟨cs, hc, hv⟩, hl⟩ := hvs
      exact ⟨v, l, rfl, ⟨cs, m1.1 _ hc, by rw [vecA_agg a h.1]; exact hv⟩, m2.2 _ hl⟩⟩
  | .tuple v, h => by
    have m := vecA_rp hw v h
    exact ⟨fun cs h => by
      obtain ⟨l, rfl, hl⟩ := h
      exact ⟨l, rfl, m.2 _ hl⟩, fun _ h => h⟩
  | .d .., _ => Rp.mono (sealG_le (w := w) (G := G) B.dead) _
  | .own .., _ => Rp.mono (sealG_le (w := w) (G := G) B.dead) _
  | .nil .., _ => Rp.mono (sealG_le (w := w) (G := G) B.dead) _
  | .pnil .., _ => Rp.mono (sealG_le (w := w) (G := G) B.dead) _
  | .bptr .., _ => Rp.mono (sealG_le (w := w) (G := G) B.dead) _
  | .iptr .., _ => Rp.mono (sealG_le (w := w) (G := G) B.dead) _
  | .func .., _ => Rp.mono (sealG_le (w := w) (G := G) B.dead) _
  | .fnil .., _ => Rp.mono (sealG_le (w := w) (G := G) B.dead) _
  | .snil .., _ => Rp.mono (sealG_le (w := w) (G := G) B.dead) _
  | .iface .., _ => Rp.mono (sealG_le (w := w) (G := G) B.dead) _
  | .inil .., _ => Rp.mono (sealG_le (w := w) (G := G) B.dead) _
  | .any .., _ => Rp.mono (sealG_le (w := w) (G := G) B.dead) _
  | .mnil .., _ => Rp.mono (sealG_le (w := w) (G := G) B.dead) _
  | .mref .., _ => Rp.mono (sealG_le (w := w) (G := G) B.dead) _
  | .mobj .., _ => Rp.mono (sealG_le (w := w) (G := G) B.dead) _
  | .yref .., _ => Rp.mono (sealG_le (w := w) (G := G) B.dead) _
  | .lobj .., _ => Rp.mono (sealG_le (w := w) (G := G) B.dead) _
  | .vptr .., _ => Rp.mono (sealG_le (w := w) (G := G) B.dead) _
  | .vrow .., _ => Rp.mono (sealG_le (w := w) (G := G) B.dead) _
  | .tbox .., _ => Rp.mono (sealG_le (w := w) (G := G) B.dead) _
  | .optp _, _ => Rp.mono (sealG_le (w := w) (G := G) B.dead) _
  | .bsl .., _ => Rp.mono (sealG_le (w := w) (G := G) B.dead) _
  | .siter .., _ => Rp.mono (sealG_le (w := w) (G := G) B.dead) _
  | .pan _, _ => Rp.mono (sealG_le (w := w) (G := G) B.dead) _
theorem vecA_v {G : Gh} {B : Bx} {w : World} (hw : WOk G B w) {a : AVal} (h : (vecA B a).1 = true) {v : Value} (hv : Rv G B.dead a v) : Rv (sealG G w) B.dead (vecA B a).2 v := by
  obtain ⟨cs, hc, hh⟩ := hv
  exact ⟨cs, (vecA_rp hw a h).1 _ hc, by rw [vecA_agg a h]; exact hh⟩
theorem vecA_pan {B : Bx} {v : AVal} (h : (vecA B v).1 = true) (t0 : TypeId) : v = .pan t0 ↔ (vecA B v).2 = .pan t0 := by
  cases v with
  | vec t b T n =>
    constructor
    · intro hh; cases hh
    · intro hh
      have hp : ∀ {o : Option AVal}, (match o with
          | some (.vrow t' T' xs) => if h : T' = T then (bif t' == t then (decide (n ≤ xs.length), AVal.d (.list T) ((h ▸ xs).take n)) else (false, .any)) else (false, .any)
          | _ => (false, AVal.any)).2 ≠ .pan t0 := by
        intro o ho
        split at ho
        · split at ho
          · rename_i q t' T' xs hT
            cases hc : t' == t with
            | false => rw [hc] at ho; cases ho
            | true => rw [hc] at ho; cases ho
          · cases ho
        · cases ho
      exact absurd hh hp
  | _ => simp [vecA]
def frzV (R : PTy) (v : AVal) (B : Bx) : Option R.El :=
  match R.dec (vecA B v).2 with
  | some y => bif (vecA B v).1 then some y.1 else none
  | none => none
theorem frz_end {R : PTy} {y : R.El} {B' : Bx} {v : AVal} (hR : R.pure = true) (hk : frzV R v B' = some y) {cv : Value} {e : Ending} (he : EndIs v cv e) : EndIs (R.enc y) cv e := by
  unfold frzV at hk
  split at hk
  · rename_i z hz
    cases hc : (vecA B' v).1 with
    | false => rw [hc] at hk; cases hk
    | true =>
      rw [hc] at hk
      simp only [cond_true, Option.some.injEq] at hk
      subst hk
      obtain ⟨z, l⟩ := z
      exact dec_end (pure_notAny hR) hz (he.same (vecA_pan hc))
  · cases hk
theorem seal_out {R : PTy} {y : R.El} {B' : Bx} {v : AVal} {G G1 : Gh} {w w' : World} {cv : Value} (hR : R.pure = true) (hk : frzV R v B' = some y) (h1 : Rv G1 B'.dead v cv) (h2 : WOk G1 B' w') (h3 : Ext G w G1 w') :
    ∃ G2, Rv G2 [] (R.enc y) cv ∧ WOk G2 ⟨[], [], 0⟩ w' ∧ Ext G w G2 w' := by
  unfold frzV at hk
  split at hk
  · rename_i z hz
    cases hc : (vecA B' v).1 with
    | false => rw [hc] at hk; cases hk
    | true =>
      rw [hc] at hk
      simp only [cond_true, Option.some.injEq] at hk
      subst hk
      obtain ⟨z, l⟩ := z
      let G2 : Gh := { imm := (sealG G1 w').imm, own := fun _ => none, addr := [] }
      have hr : ReTok (sealG G1 w') B'.dead G2 0 [] := ⟨rfl, by simp [G2], fun k t h => by cases h⟩
      have e := pure_toks hR hz
      subst e
      have hle := sealG_le (G := G1) (w := w') B'.dead
      refine ⟨G2, dec_v hr hz (under_top (pure_under hR)) (fun q hq => by cases hq) (vecA_v h2 hc h1), ⟨rfl, List.nodup_nil, fun i b c h => by simp [G2] at h, fun b row h => ?_, (fun b h => by cases h), (fun t b n h => by cases h), (fun t t' b n n' h => by cases h), fun q hq => ⟨(h2.tab q hq).1, (fun h => by cases h), (fun t n h => by cases h)⟩, fun i t T xs h => by simp at h⟩,
        ⟨h3.os, h3.tape, h3.output, h3.size, h3.frame, h3.imm.trans hle.imm, fun b hb ho => ?_, (fun b hb => by cases hb), (fun t b n h => by cases h)⟩⟩
      · rcases sealG_inv h with h | ⟨_, _, cells, e, fr, hh, rfl⟩
        · exact h2.imm b row h
        · exact ⟨cells, e, fr, hh, List.prefix_refl _⟩
      · rw [← h3.same b hb ho]
        cases hi : G1.imm b with
        | some r => exact sealG_old hi
        | none =>
          cases hs : (sealG G1 w').imm b with
          | none => rfl
          | some r =>
            rcases sealG_inv hs with h | ⟨_, ⟨t, n, ht⟩, _⟩
            · rw [hi] at h; cases h
            · rcases h3.own t b n ht with ⟨t', ht'⟩ | hge
              · exact absurd ht' (ho t' n)
              · omega
  · cases hk
theorem frzV_lcall {P : Program} {C : CalT} {Ls : List LoopT} {g : FuncId} {fn : Func} {c : Code} {A : List PTy} {R : PTy} {f : Els A → Option R.El} (hm : P.follows .mixedOrders = true) (hf : P.funcs[g]? = some fn) (hb : fn.body = some c) (hent : Ent P g) (hC : CV P C)
    (hL : LV 0 P false (loopsOf c) Ls) (hA : A.all PTy.pure = true) (hR : R.pure = true) (hev : ∀ x, fnR P C Ls fn c (encs A x) ⟨[], [], 0⟩ (frzV R) = f x) :
    ∀ x r, f x = some r → LCall 0 P g (encs A x) ⟨[], [], 0⟩ (R.enc r) ⟨[], [], 0⟩ := by
  intro x r hr
  obtain ⟨v, B', hk, hl⟩ := fnR_sound (n := 0) hm hf hb hent hC hL ((hev x).trans hr)
  refine ⟨hl.1, fun G w vs hvs hw => (hl.2 G w vs hvs hw).mono ?_⟩
  rintro e w' ⟨cv, G1, hend, h1, h2, h3, h4⟩
  obtain ⟨G2, k1, k2, k3⟩ := seal_out hR hk h1 h2 h3
  exact ⟨cv, G2, frz_end hR hk hend, k1, k2, k3, fun i b hi => by omega⟩
end Go.Proofs.YtcijddeommognaaDoor.Abs
set_option linter.unusedVariables false
set_option linter.unusedSimpArgs false
namespace Go.Proofs.YtcijddeommognaaDoor.Abs
def immOf (w : World) : Nat → Option (List Value) := fun b => match w.heap[b]? with
  | some (.cells c _ _) => some c.toList
  | _ => none
def layFs (P : Program) (rec : TypeId → DTy → Bool) : List Field → DTy → Nat → Bool
  | [], .nil, _ => true
  | f :: fs, .cons h t, o => f.offset == o && P.cellsOf f.type == h.sz && rec f.type h && layFs P rec fs t (o + h.sz)
  | _, _, _ => false
def layT (P : Program) : Nat → TypeId → DTy → Bool
  | 0, _, _ => false
  | n + 1, t, T => P.cellsOf t == T.sz && match P.underlying t with
    | some .bool => match T with
      | .bool => true
      | _ => false
    | some (.int k) => match T with
      | .int k' => k == k'
      | _ => false
    | some .string => match T with
      | .str => true
      | _ => false
    | some (.slice e) => match T with
      | .list E => decide (0 < E.sz) && layT P n e E
      | _ => false
    | some (.array m e) => match T with
      | .arr m' E => m == m' && layT P n e E
      | _ => false
    | some (.struct fs) => layFs P (layT P n) fs.toList T 0
    | _ => false
theorem layT_sz {P : Program} {n : Nat} {t : TypeId} {T : DTy} (h : layT P n t T = true) : P.cellsOf t = T.sz := by
  cases n with
  | zero => simp [layT] at h
  | succ n =>
    simp only [layT, Bool.and_eq_true, beq_iff_eq] at h
    exact h.1
variable {H : Type} {enc : TypeId × Value → H} {P : Program} {w : World} {base : Nat} {sp : Nat → Bool} {held : Bool}
theorem cells_imm {a : Addr} {n : Nat} {cs : List Value} (hn : 0 < n) (h : w.cells? base a n = some cs) : ∃ b off row, a = ⟨b, off, none⟩ ∧ immOf w b = some row ∧ off + n ≤ row.length ∧ cs = (row.drop off).take n := by
  unfold World.cells? at h
  split at h
  · have hlen := mapM_some_length h
    simp only [List.length_range] at hlen
    have hget : ∀ i, i < n → w.cell? (a.add i) = cs[i]? := fun i hi => mapM_some_get h i i (by simp [hi])
    obtain ⟨b, off, spot⟩ := a
    have h0 := hget 0 hn
    have hcs0 : cs[0]? = some (cs[0]'(by omega)) := List.getElem?_eq_getElem (by omega)
    rw [hcs0] at h0
    have hadd0 : (⟨b, off, spot⟩ : Addr).add 0 = ⟨b, off, spot⟩ := by unfold Addr.add; rw [if_pos rfl]
    rw [hadd0] at h0
    unfold World.cell? at h0
    simp only at h0
    split at h0
    · rename_i c e fr hb
      cases hsp : spot.isSome with
      | true => rw [hsp] at h0; simp at h0
      | false =>
        have hnone : spot = none := by cases spot <;> simp at hsp; rfl
        subst hnone
        have hcell : ∀ i, i < n → c[off + i]? = cs[i]? := fun i hi => by
          have := hget i hi
          rw [addr_add] at this
          unfold World.cell? at this
          simp only [hb] at this
          simpa using this
        have hroom : off + n ≤ c.size := by
          have := hcell (n - 1) (by omega)
          rw [List.getElem?_eq_getElem (by omega : n - 1 < cs.length)] at this
          have := (Array.getElem?_eq_some_iff.1 this).1
          omega
        refine ⟨b, off, c.toList, rfl, by unfold immOf; rw [hb], by simpa using hroom, ?_⟩
        apply List.ext_getElem?
        intro i
        by_cases hi : i < n
        · rw [List.getElem?_take_of_lt hi, List.getElem?_drop, ← hcell i hi]
          simp
        · rw [List.getElem?_eq_none (by omega), List.getElem?_eq_none (by simp; omega)]
    · cases h0
  · cases h
theorem choose_list {α : Type} {p : Nat → α → Prop} : (n : Nat) → (∀ i, i < n → ∃ x, p i x) → ∃ xs : List α, xs.length = n ∧ ∀ i x, xs[i]? = some x → p i x
  | 0, _ => ⟨[], rfl, fun i x h => by simp at h⟩
  | n + 1, h => by
    obtain ⟨xs, h1, h2⟩ := choose_list n fun i hi => h i (by omega)
    obtain ⟨x, hx⟩ := h n (by omega)
    refine ⟨xs ++ [x], by simp [h1], fun i y hy => ?_⟩
    rw [List.getElem?_append] at hy
    split at hy
    · exact h2 i y hy
    · have hi : i = n := by
        have := (List.getElem?_eq_some_iff.1 hy).1
        simp at this; omega
      subst hi
      simp [h1] at hy
      subst hy
      exact hx
theorem trod_RD : ∀ (n : Nat) (fuel : Nat) (t : TypeId) (T : DTy) (cs : List Value) (x : DataW H × List MemPlace), layT P n t T = true → DataW.trod enc P w base sp held fuel t cs = some x → ∃ y : T.El, RD (immOf w) T y cs := by
  intro n
  induction n with
  | zero => intro fuel t T cs x h _; simp [layT] at h
  | succ n ih =>
    intro fuel t T cs x hl ht
    have hsz := layT_sz hl
    simp only [layT, Bool.and_eq_true] at hl
    replace hl := hl.2
    cases fuel with
    | zero => simp [DataW.trod] at ht
    | succ fuel =>
    split at hl
    · rename_i hu
      cases T <;> simp only [Bool.false_eq_true] at hl
      unfold DataW.trod at ht
      rw [hu] at ht
      split at ht <;> simp_all
      rename_i b
      cases b
      · exact .inl rfl
      · exact .inr rfl
    · rename_i k hu
      cases T <;> simp only [Bool.false_eq_true, beq_iff_eq] at hl
      subst hl
      obtain ⟨m, rfl, _⟩ := DataW.trod_int hu ht
      exact ⟨m, rfl⟩
    · rename_i hu
      cases T <;> simp only [Bool.false_eq_true] at hl
      unfold DataW.trod at ht
      rw [hu] at ht
      split at ht <;> simp_all
      rename_i s
      exact ⟨s, rfl⟩
    · rename_i e hu
      cases T <;> simp only [Bool.false_eq_true, Bool.and_eq_true, decide_eq_true_eq] at hl
      rename_i E
      have hes := layT_sz hl.2
      rcases DataW.trod_slice hu ht with ⟨rfl, _⟩ | ⟨a, len, cap, elems, rest, m, _, rfl, _, _, hlc, _, hlen, hel, _, _⟩
      · exact ⟨[], none, 0, rfl, Nat.le_refl _, fun h => absurd rfl h⟩
      · by_cases h0 : len = 0
        · subst h0
          exact ⟨[], some a, cap, rfl, Nat.zero_le _, fun h => absurd rfl h⟩
        · have each : ∀ i, i < len → ∃ (cs : List Value) (y : E.El), w.cells? base (a.add (i * E.sz)) E.sz = some cs ∧ RD (immOf w) E y cs := fun i hi => by
            have h1 := hel i hi
            rw [List.getElem?_eq_getElem (by omega), hes] at h1
            cases hc : w.cells? base (a.add (i * E.sz)) E.sz with
            | none => rw [hc] at h1; cases h1
            | some cs =>
              rw [hc] at h1
              simp only [Option.bind_some] at h1
              obtain ⟨y, hy⟩ := ih m e E cs _ hl.2 h1
              exact ⟨cs, y, rfl, hy⟩
          obtain ⟨c0, _, hc0, _⟩ := each 0 (by omega)
          obtain ⟨b, off, row, ha, hrow, _, _⟩ := cells_imm hl.1 hc0
          have ha' : a = ⟨b, off, none⟩ := by
            have : a.add (0 * E.sz) = a := by unfold Addr.add; rw [Nat.zero_mul, if_pos rfl]
            rw [this] at ha; exact ha
          subst ha'
          have each2 : ∀ i, i < len → ∃ y : E.El, off + i * E.sz + E.sz ≤ row.length ∧ RD (immOf w) E y ((row.drop (off + i * E.sz)).take E.sz) := fun i hi => by
            obtain ⟨cs, y, h1, h2⟩ := each i hi
            rw [addr_add] at h1
            obtain ⟨b', off', row', e1, e2, e3, e4⟩ := cells_imm hl.1 h1
            simp only [Addr.mk.injEq, and_true] at e1
            obtain ⟨rfl, rfl⟩ := e1
            rw [hrow] at e2
            cases e2
            exact ⟨y, e3, by rw [← e4]; exact h2⟩
          obtain ⟨ys, hy1, hy2⟩ := choose_list len each2
          refine ⟨ys, some ⟨b, off, none⟩, cap, by rw [hy1], by rw [hy1]; exact hlc, fun _ => ⟨b, off, row, rfl, hrow, ?_, fun i y hy => (hy2 i y hy).2⟩⟩
          have hlast := hy2 (len - 1) _ (List.getElem?_eq_getElem (by omega))
          have : (len - 1) * E.sz + E.sz = len * E.sz := by
            have h1 : len - 1 + 1 = len := by omega
            rw [← Nat.succ_mul]; show (len - 1 + 1) * E.sz = _; rw [h1]
          rw [hy1]
          omega
    · rename_i q e hu
      cases T <;> simp only [Bool.false_eq_true, Bool.and_eq_true, beq_iff_eq] at hl
      rename_i q' E
      obtain ⟨rfl, hle⟩ := hl
      have hes := layT_sz hle
      obtain ⟨xs, m, _, _, hlen, hxl, hf⟩ := DataW.trod_array hu ht
      rw [hsz] at hlen
      have each : ∀ i, i < q → ∃ y : E.El, RD (immOf w) E y ((cs.drop (i * E.sz)).take E.sz) := fun i hi => by
        have h1 := hf i hi
        rw [List.getElem?_eq_getElem (by omega), hes] at h1
        exact ih m e E _ _ hle h1
      obtain ⟨ys, hy1, hy2⟩ := choose_list q each
      exact ⟨ys, hy1, hlen, hy2⟩
    · rename_i fs hu
      obtain ⟨xs, m, _, _, hlen, hxl, hf⟩ := DataW.trod_struct hu ht
      rw [hsz] at hlen
      have main : ∀ (l : List Field) (T : DTy) (o : Nat), layFs P (layT P n) l T o = true → (∀ f ∈ l, ∃ z, DataW.trod enc P w base sp held m f.type ((cs.drop f.offset).take (P.cellsOf f.type)) = some z) → o + T.sz ≤ cs.length → ∃ y : T.El, RD (immOf w) T y ((cs.drop o).take T.sz) := by
        intro l
        induction l with
        | nil => intro T o h _ _; cases T <;> simp [layFs] at h; exact ⟨(), by simp [DTy.sz]; rfl⟩
        | cons f fs ihf =>
          intro T o h hz hr
          cases T with
          | cons a b =>
            simp only [layFs, Bool.and_eq_true, beq_iff_eq] at h
            obtain ⟨⟨⟨rfl, hcs⟩, hrec⟩, hrest⟩ := h
            obtain ⟨z, hz1⟩ := hz f (by simp)
            rw [hcs] at hz1
            obtain ⟨y1, hy1⟩ := ih m f.type a _ z hrec hz1
            have hs : (DTy.cons a b).sz = a.sz + b.sz := rfl
            rw [hs] at hr
            obtain ⟨y2, hy2⟩ := ihf b (f.offset + a.sz) hrest (fun g hg => hz g (by simp [hg])) (by omega)
            refine ⟨(y1, y2), _, _, ?_, hy1, hy2⟩
            rw [hs, List.take_add, List.drop_drop]
          | _ => simp [layFs] at h
      obtain ⟨y, hy⟩ := main fs.toList T 0 hl (fun f hf' => by
        obtain ⟨i, hi, he⟩ := List.mem_iff_getElem.1 hf'
        have hfi : fs[i]? = some f := by
          rw [← Array.getElem?_toList, List.getElem?_eq_getElem hi, he]
        have := hf i f hfi
        rw [List.getElem?_eq_getElem (by rw [hxl]; simpa using hi)] at this
        exact ⟨_, this⟩) (by omega)
      rw [List.drop_zero, List.take_of_length_le (by omega)] at hy
      exact ⟨y, hy⟩
    · cases hl
open Go.ChangeShapes Go.WideShapes Go.RowKit
theorem lay_agg {P : Program} {n : Nat} {t : TypeId} {T : DTy} (h : layT P n t T = true) : (T.agg = true → (∃ fs, P.underlying t = some (.struct fs)) ∨ ∃ m e, P.underlying t = some (.array m e)) ∧
    (T.agg = false → (P.underlying t = some .bool ∨ (∃ k, P.underlying t = some (.int k)) ∨ P.underlying t = some .string ∨ ∃ e, P.underlying t = some (.slice e))) := by
  cases n with
  | zero => simp [layT] at h
  | succ n =>
    simp only [layT, Bool.and_eq_true] at h
    replace h := h.2
    split at h
    · rename_i hu
      cases T <;> simp only [Bool.false_eq_true] at h
      exact ⟨fun h => by simp [DTy.agg] at h, fun _ => .inl hu⟩
    · rename_i k hu
      cases T <;> simp only [Bool.false_eq_true] at h
      exact ⟨fun h => by simp [DTy.agg] at h, fun _ => .inr (.inl ⟨k, hu⟩)⟩
    · rename_i hu
      cases T <;> simp only [Bool.false_eq_true] at h
      exact ⟨fun h => by simp [DTy.agg] at h, fun _ => .inr (.inr (.inl hu))⟩
    · rename_i e hu
      cases T <;> simp only [Bool.false_eq_true] at h
      exact ⟨fun h => by simp [DTy.agg] at h, fun _ => .inr (.inr (.inr ⟨e, hu⟩))⟩
    · rename_i m e hu
      cases T <;> simp only [Bool.false_eq_true] at h
      exact ⟨fun _ => .inr ⟨m, e, hu⟩, fun h => by simp [DTy.agg] at h⟩
    · rename_i fs hu
      refine ⟨fun _ => .inl ⟨fs, hu⟩, fun ha => ?_⟩
      generalize fs.toList = l at h
      generalize (0 : Nat) = o at h
      cases l <;> cases T <;> simp [layFs, DTy.agg] at h ha
    · cases h
theorem arg_v {H : Type} {enc : TypeId × Value → H} {P : Program} {W : World} {base base' n : Nat} {sp : Nat → Bool} {held : Bool} {t : TypeId} {T : DTy} {v : Value} {d : DataW H} {ps : List MemPlace} (hl : layT P n t T = true) (hok : Value.okWide P W .any base' t v) (h : DataW.Trod enc P W base sp held t v d ps) : ∃ y : T.El, VD (immOf W) T y v := by
  obtain ⟨fuel, hf⟩ := h
  obtain ⟨y, hy⟩ := trod_RD n fuel t T _ _ hl hf
  refine ⟨y, v.cells.toList, hy, ?_⟩
  obtain ⟨h1, h2⟩ := lay_agg hl
  cases ha : T.agg with
  | true =>
    refine .inl ⟨rfl, ?_⟩
    have : ∃ cs, v = .agg cs := by
      rcases h1 ha with ⟨fs, hu⟩ | ⟨m, e, hu⟩
      · unfold Value.okWide at hok
        rw [hu] at hok
        obtain ⟨cs, h, _⟩ := hok
        exact ⟨cs, h⟩
      · unfold Value.okWide at hok
        rw [hu] at hok
        obtain ⟨cs, h, _⟩ := hok
        exact ⟨cs, h⟩
    obtain ⟨cs, rfl⟩ := this
    simp [Value.cells]
  | false =>
    refine .inr ⟨rfl, ?_⟩
    have hna : ∀ cs, v ≠ .agg cs := fun cs hv => by
      subst hv
      rcases h2 ha with hu | ⟨k, hu⟩ | hu | ⟨e, hu⟩ <;> simp [Value.okWide, hu, Cell.okWide, Cell.ok] at hok
    cases v <;> first | rfl | exact absurd rfl (hna _)
def layA (P : Program) (n : Nat) : List TypeId → List PTy → Bool
  | [], [] => true
  | t :: ts, .dat T :: A => layT P n t T && layA P n ts A
  | _, _ => false
def wfD : (T : DTy) → T.El → Prop
  | .arr n e, xs => xs.length = n ∧ ∀ x ∈ xs, wfD e x
  | .list e, xs => ∀ x ∈ xs, wfD e x
  | .cons h t, x => wfD h x.1 ∧ wfD t x.2
  | .int _, _ => True
  | .bool, _ => True
  | .str, _ => True
  | .nil, _ => True
  | .mapr, _ => True
theorem RD.wf {imm : Nat → Option (List Value)} : {T : DTy} → {x : T.El} → {cs : List Value} → RD imm T x cs → wfD T x
  | .int _, _, _, _ => by simp [wfD]
  | .bool, _, _, _ => by simp [wfD]
  | .str, _, _, _ => by simp [wfD]
  | .nil, _, _, _ => by simp [wfD]
  | .mapr, _, _, _ => by simp [wfD]
  | .cons a t, x, cs, h => by
    obtain ⟨c1, c2, rfl, h1, h2⟩ := h
    simp only [wfD]
    exact ⟨RD.wf h1, RD.wf h2⟩
  | .arr n e, xs, cs, h => by
    obtain ⟨h1, h2, h3⟩ := h
    simp only [wfD]
    refine ⟨h1, fun x hx => ?_⟩
    obtain ⟨i, hi⟩ := List.mem_iff_getElem?.1 hx
    have := RD.wf (T := e) (h3 i x hi)
    exact this
  | .list e, xs, cs, h => by
    obtain ⟨A, cap, rfl, _, h3⟩ := h
    simp only [wfD]
    intro x hx
    obtain ⟨i, hi⟩ := List.mem_iff_getElem?.1 hx
    obtain ⟨b, off, row, _, _, _, h4⟩ := h3 (by intro h0; subst h0; simp at hi)
    have := RD.wf (T := e) (h4 i x hi)
    exact this
def wfs : (ps : List PTy) → Els ps → Prop
  | .dat T :: ps, x => wfD T x.1 ∧ wfs ps x.2
  | _, _ => True
theorem args_vals {H : Type} {enc : TypeId × Value → H} {P : Program} {W : World} {base base' n : Nat} {sp : Nat → Bool} {held : Bool} {G : Gh} (hG : G.imm = immOf W) : {ts : List TypeId} → {A : List PTy} → {vs : List Value} → {ds : List (DataW H)} → {ps : List MemPlace} → layA P n ts A = true →
    (∀ (j : Nat) t v, ts[j]? = some t → vs[j]? = some v → Value.okWide P W .any base' t v) → DataW.TrodAll enc P W base sp held ts vs ds ps → ∃ x : Els A, Vals G [] (encs A x) vs ∧ wfs A x
  | [], [], vs, ds, ps, _, _, h => by
    obtain ⟨rfl, _, _⟩ := trodAll_nil h
    exact ⟨(), .nil, trivial⟩
  | t :: ts, .dat T :: A, vs, ds, ps, hl, hok, h => by
    simp only [layA, Bool.and_eq_true] at hl
    obtain ⟨v, vs', d, ds', p, q, rfl, rfl, rfl, h1, h2⟩ := trodAll_cons h
    obtain ⟨y, hy⟩ := arg_v hl.1 (hok 0 t v rfl rfl) h1
    obtain ⟨x, hx, hwx⟩ := args_vals hG hl.2 (fun j t' v' ht hv => hok (j + 1) t' v' (by simpa using ht) (by simpa using hv)) h2
    rw [← hG] at hy
    refine ⟨(y, x), .cons hy hx, ?_, hwx⟩
    obtain ⟨cs, h, _⟩ := hy
    exact h.wf
  | [], .dat _ :: _, _, _, _, hl, _, _ => by simp [layA] at hl
  | [], .any :: _, _, _, _, hl, _, _ => by simp [layA] at hl
  | [], .fix _ :: _, _, _, _, hl, _, _ => by simp [layA] at hl
  | [], .own _ _ :: _, _, _, _, hl, _, _ => by simp [layA] at hl
  | [], .cons _ _ :: _, _, _, _, hl, _, _ => by simp [layA] at hl
  | [], .nil :: _, _, _, _, hl, _, _ => by simp [layA] at hl
  | [], .tup _ :: _, _, _, _, hl, _, _ => by simp [layA] at hl
  | [], .map _ _ :: _, _, _, _, hl, _, _ => by simp [layA] at hl
  | [], .ip _ :: _, _, _, _, hl, _, _ => by simp [layA] at hl
  | [], .lp _ _ _ :: _, _, _, _, hl, _, _ => by simp [layA] at hl
  | _ :: _, [], _, _, _, hl, _, _ => by simp [layA] at hl
  | _ :: _, .any :: _, _, _, _, hl, _, _ => by simp [layA] at hl
  | _ :: _, .fix _ :: _, _, _, _, hl, _, _ => by simp [layA] at hl
  | _ :: _, .own _ _ :: _, _, _, _, hl, _, _ => by simp [layA] at hl
  | _ :: _, .cons _ _ :: _, _, _, _, hl, _, _ => by simp [layA] at hl
  | _ :: _, .nil :: _, _, _, _, hl, _, _ => by simp [layA] at hl
  | _ :: _, .tup _ :: _, _, _, _, hl, _, _ => by simp [layA] at hl
  | _ :: _, .map _ _ :: _, _, _, _, hl, _, _ => by simp [layA] at hl
  | _ :: _, .ip _ :: _, _, _, _, hl, _, _ => by simp [layA] at hl
  | _ :: _, .lp _ _ _ :: _, _, _, _, hl, _, _ => by simp [layA] at hl
theorem trodAll_len {H : Type} {enc : TypeId × Value → H} {P : Program} {W : World} {base : Nat} {sp : Nat → Bool} {held : Bool} : {ts : List TypeId} → {vs : List Value} → {ds : List (DataW H)} → {ps : List MemPlace} → DataW.TrodAll enc P W base sp held ts vs ds ps → ds.length = ts.length
  | [], vs, ds, ps, h => by
    obtain ⟨rfl, rfl, rfl⟩ := trodAll_nil h
    rfl
  | t :: ts, vs, ds, ps, h => by
    obtain ⟨v, vs', d, ds', p, q, rfl, rfl, rfl, h1, h2⟩ := trodAll_cons h
    simp [trodAll_len h2]
theorem trodAll_stays {H : Type} {enc : TypeId × Value → H} {P : Program} (hlo : laidOutB P = true) {W W' : World} {sp' : Nat → Bool} : {ts : List TypeId} → {vs : List Value} → {ds : List (DataW H)} → {ps : List MemPlace} → (∀ t ∈ ts, P.readableRec t = true ∧ t < P.types.size) → DataW.TrodAll enc P W 0 (fun _ => true) true ts vs ds ps → (∀ p ∈ ps, W.sameAt W' p) → (∀ p ∈ ps, sp' p.block = true) → DataW.TrodAll enc P W' 0 sp' true ts vs ds ps
  | [], vs, ds, ps, _, h, _, _ => by
    obtain ⟨rfl, rfl, rfl⟩ := trodAll_nil h
    rfl
  | t :: ts, vs, ds, ps, hr, h, hs, hsp => by
    obtain ⟨v, vs', d, ds', p, q, rfl, rfl, rfl, h1, h2⟩ := trodAll_cons h
    have ht := hr t (by simp)
    exact ⟨p, q, WideElems.Trod_stays hlo ht.1 ht.2 h1 (fun x hx => hs x (by simp [hx])) (fun x hx => hsp x (by simp [hx])), trodAll_stays hlo (fun t' ht' => hr t' (by simp [ht'])) h2 (fun x hx => hs x (by simp [hx])) (fun x hx => hsp x (by simp [hx])), rfl⟩
theorem law_contract {P : Program} {g : FuncId} {fn : Func} {A : List PTy} {f : Els A → Option Bool} {n : Nat} {s : ChangeSpec} {tb : TypeId} (hl : ∀ x r, f x = some r → LCall 0 P g (encs A x) ⟨[], [], 0⟩ (.d .bool r) ⟨[], [], 0⟩) (hf : ∀ x, wfs A x → f x = some true) (hg : g ≠ YLD)
    (hrt : fn.resultTypes = #[tb]) (hub : P.underlying tb = some .bool) (hlay : layA P n fn.params.toList A = true) (hlo : laidOutB P = true) (hread : ∀ t ∈ fn.params.toList, P.readableRec t = true ∧ t < P.types.size)
    (hvars : s.vars = []) (hfn : ∀ (H : Type) (ds : List (DataW H)), ds.length = fn.params.toList.length → (s.fn H ds).results = [.lit (.bool true)] ∧ (s.fn H ds).args = ds ∧ (s.fn H ds).vars = [])
    {H : Type} {enc : TypeId × Value → H} {W : World} {base : Nat} {args : Array Value} {ds gs : List (DataW H)} {before : List MemPlace} {apart fresh handsOn again : Bool}
    (hval : ∀ (j : Nat) t v, fn.params[j]? = some t → args[j]? = some v → Value.okWide P W .any base t v)
    (hW : DataW.Whole enc P fn.params.toList s.vars apart W args.toList ds gs before) (htab : ∀ q ∈ TABS, ∃ e fr, W.heap[q.1]? = some (.cells q.2 e fr)) :
    Calls P g args W fun e W' => ∃ v, e = .returned v ∧ s.post enc P fn apart fresh handsOn again W args v W' := by
  have hW0 := hW
  obtain ⟨p, q, hA, hV, rfl, hfz, hnd⟩ := hW
  rw [hvars] at hV
  obtain ⟨rfl, rfl⟩ := trodVars_none hV
  let G : Gh := { imm := immOf W, own := fun _ => none, addr := [] }
  obtain ⟨x, hx, hwx⟩ := args_vals (G := G) (n := n) (base' := base) rfl hlay (fun j t v ht hv => hval j t v (by rw [← Array.getElem?_toList]; exact ht) (by rw [← Array.getElem?_toList]; exact hv)) hA
  have himm : ∀ b row, G.imm b = some row → ∃ cells e fr, W.heap[b]? = some (.cells cells e fr) ∧ row <+: cells.toList := fun b row hb => by
    have hb' : immOf W b = some row := hb
    unfold immOf at hb'
    split at hb'
    · rename_i c e fr hc
      simp only [Option.some.injEq] at hb'
      exact ⟨c, e, fr, hc, by rw [hb']; exact List.prefix_refl _⟩
    · cases hb'
  have hwok : WOk G ⟨[], [], 0⟩ W := ⟨rfl, List.nodup_nil, (fun i b c h => by simp [G] at h), himm, (fun b h => by cases h), (fun t b n h => by cases h), (fun t t' b n n' h => by cases h), fun q hq => ⟨htab q hq, (fun h => by cases h), (fun t n h => by cases h)⟩, fun i t T xs h => by simp at h⟩
  have hcall := ((hl x true (hf x hwx)).2 G W args.toList hx hwok).1 hg
  refine Calls.mono hcall ?_
  rintro e W' ⟨cv, G', hend, hcv, hw', hext, _⟩
  have hrfl := EndIs.ret hend rfl
  subst hrfl
  have hsame : ∀ b, b < W.heap.size → W'.heap[b]? = W.heap[b]? := fun b hb => hext.frame b hb (by simp [G]) (fun t n h => by cases h)
  have hcv' := bool_form hcv
  subst hcv'
  refine ⟨_, rfl, ?_⟩
  have hlen : ds.length = fn.params.toList.length := (trodAll_len hA)
  obtain ⟨e1, e2, e3⟩ := hfn H (ds ++ []) (by simpa using hlen)
  have hlt : ∀ p' ∈ p, p'.block < W.heap.size := fun p' hp' => hA.lt p' hp'
  have hsa : ∀ p' ∈ p, W.sameAt W' p' := fun p' hp' => by
    have hb := hsame p'.block (hlt p' hp')
    cases p' with
    | cell b off =>
      show W'.cell? ⟨b, off, none⟩ = W.cell? ⟨b, off, none⟩
      unfold World.cell?
      rw [show W'.heap[b]? = W.heap[b]? from hb]
    | map b => exact hb
  have hargs : ∀ sp : Nat → Bool, (∀ p' ∈ p, sp p'.block = true) → DataW.TrodAll enc P W' 0 sp true fn.params.toList args.toList ds p := fun sp hsp => trodAll_stays hlo hread hA hsa hsp
  have hres : ∀ (b : Nat) (sp : Nat → Bool) (hd : Bool), DataW.TrodAll enc P W' b sp hd fn.resultTypes.toList ((Value.bool true).resultList fn.resultTypes.size) [.lit (.bool true)] [] := fun b sp hd => by
    rw [hrt]
    exact trodAll_cons_mk (shut_bool hub _) trodAll_mk0
  have hvv : ∀ sp : Nat → Bool, DataW.TrodVars enc P W' sp s.vars ([] : List (DataW H)) [] := fun sp => by rw [hvars]; rfl
  have hold : ∀ p' ∈ p, (fun b => decide (b < W.heap.size)) p'.block = true := fun p' hp' => by simpa using hlt p' hp'
  refine ⟨ds, [], p ++ [], [], p, [], hW0, ?_, ?_, ?_, ?_, fun _ => ?_⟩
  · rw [e1]; exact hres _ _ _
  · rw [e2, List.append_nil]; exact hargs _ hold
  · rw [e3]; exact hvv _
  · have hk : W.keptBut W' (fun _ => False) := ⟨hext.os, hext.output, fun i hi => by
      rw [hsame i hi]
      exact (World.keptBut_refl W (fun _ => False)).2.2 i hi⟩
    exact World.keptBut_mono (fun _ f => f.elim) hk
  · refine ⟨ok_one hrt rfl (okWide_bool_mk hub _), _, _, ([] ++ p) ++ [], ⟨[] ++ p, [], trodAll_append (hargs _ (fun _ _ => rfl)) (hres _ _ _), hvv _, rfl, ?_, ?_⟩, ?_⟩
    · intro b off hp
      have hp' : MemPlace.cell b off ∈ p := by simpa using hp
      have hz := hfz b off (by simpa using hp')
      have hb := hsame b (hlt _ hp')
      unfold World.frozen? at hz ⊢
      rw [show W'.heap[b]? = W.heap[b]? from hb]
      exact hz
    · intro ha
      have := hnd ha
      simpa using this
    · intro p' hp' _
      simpa using hp'
end Go.Proofs.YtcijddeommognaaDoor.Abs
set_option linter.unusedVariables false
set_option linter.unusedSimpArgs false
namespace Go.Proofs.YtcijddeommognaaDoor.Abs
def peelT (P : Program) (C : CalT) (Ls : List LoopT) (c : Code) (S : SPat) (xs : List AExit) (run : S.El → Option (Nat × S.El)) : LoopT :=
  ⟨fun X env B k => codeR P C c Ls env B fun e env' B' => match e with
    | .normal => (loopT S xs run).run X env' B' k
    | e => k e env' B'⟩
theorem peelT_valid {n : Nat} {rd : Bool} {P : Program} {C : CalT} {Ls : List LoopT} {c : Code} {S : SPat} {xs : List AExit} {step run : S.El → Option (Nat × S.El)} {fuel : S.El → Nat} (hm : P.follows .mixedOrders = true) (hC : CV P C) (hL : LV n P rd (loopsOf c) Ls) (hS : S.ok = true) (hn : n ≤ S.box.length) (hx : realXs xs = true)
    (hbody : ∀ s, codeR P C c Ls (S.encE s) (S.encB s) (kst S xs) = step s) (hrun : ∀ s r, run s = some r → iter step (fuel s) s = some r) : LValid n P (.loop c) (peelT P C Ls c S xs run) rd := by
  intro X env B k r h
  unfold peelT at h
  simp only at h
  obtain ⟨e, env', B', hk, haw⟩ := codeR_sound hm hC c hL h
  cases e with
  | normal =>
    simp only [loopT] at hk
    split at hk
    · rename_i s hd
      cases hr : run s with
      | none => rw [hr] at hk; cases hk
      | some q =>
        rw [hr] at hk
        simp only [Option.bind_some] at hk
        have hi := hrun s q hr
        have hlt := iter_lt hbody hm hC hL (fuel s) s q.1 q.2 hi
        refine ⟨nthX xs (q.1 + 1), S.encE q.2, S.encB q.2, selX_spec hk hlt, fun ro hro G a w Q hok hQ => ?_⟩
        refine wpIn_loop_rounds (fuel s + 1) ?_
        rw [roundsIn_succ]
        refine haw ro hro G a w _ hok fun G1 a1 w1 x1 hx1 g1 => ?_
        cases hx1
        obtain ⟨G2, g2⟩ := norm_sound (n := n) hS hn hd g1.ok
        exact iter_rounds hm hC hL hS hn hbody (fuel s) s q.1 q.2 hi ro hro G2 a1 w1 Q g2.ok (fun G3 a3 w3 x hx g3 => hQ G3 a3 w3 x hx ((g1.trans g2).trans g3)) (realXs_spec hx)
    · cases hk
  | exit i =>
    refine ⟨.exit i, env', B', hk, fun ro hro G a w Q hok hQ => wpIn_loop_rounds 1 ?_⟩
    rw [roundsIn_succ]
    exact haw ro hro G a w _ hok fun G1 a1 w1 x1 hx1 g1 => by
      cases hx1
      exact hQ G1 a1 w1 _ rfl g1
  | ret =>
    refine ⟨.ret, env', B', hk, fun ro hro G a w Q hok hQ => wpIn_loop_rounds 1 ?_⟩
    rw [roundsIn_succ]
    exact haw ro hro G a w _ hok fun G1 a1 w1 x1 hx1 g1 => by
      cases hx1
      exact hQ G1 a1 w1 _ rfl g1
  | pan t =>
    refine ⟨.pan t, env', B', hk, fun ro hro G a w Q hok hQ => wpIn_loop_rounds 1 ?_⟩
    rw [roundsIn_succ]
    exact haw ro hro G a w _ hok fun G1 a1 w1 x1 hx1 g1 => by
      have := hQ G1 a1 w1 x1 hx1 g1
      obtain ⟨pv, rfl⟩ := hx1
      exact this
def orT (ok : List AVal → Bx → Bool) (L M : LoopT) : LoopT := ⟨fun X env B k => bif ok env B then L.run X env B k else M.run X env B k⟩
theorem orT_valid {n : Nat} {P : Program} {c : Code} {ok : List AVal → Bx → Bool} {L M : LoopT} {rd : Bool} (hL : LValid n P c L rd) (hM : LValid n P c M rd) : LValid n P c (orT ok L M) rd := by
  intro X env B k r h
  unfold orT at h
  simp only at h
  cases hb : ok env B with
  | true => rw [hb] at h; exact hL X env B k r h
  | false => rw [hb] at h; exact hM X env B k r h
def SPat.fit (S : SPat) (env : List AVal) (B : Bx) : Bool := (S.dec env B).isSome
end Go.Proofs.YtcijddeommognaaDoor.Abs
set_option linter.unusedVariables false
set_option linter.unusedSimpArgs false
namespace Go.Proofs.YtcijddeommognaaDoor.Abs
def altK {A B X : Type} (v : A ⊕ B) (f : A → Option X) (g : B → Option X) : Option X := match v with
  | .inl a => f a
  | .inr b => g b
@[reducible] def CSpec.alt (S : CSpec) (O : List PTy) (ntO : Nat) (R : PTy) : CSpec := ⟨S.A, S.I, S.nt, O, ntO, R⟩
def callK2 {X : Type} (S : CSpec) (O : List PTy) (ntO : Nat) (R : PTy) (f : S.In → Option (S.Out ⊕ (S.alt O ntO R).Out)) (args : List AVal) (B : Bx) (k : AVal → Bx → Option X) : Option X :=
  let sel := selA S args B
  let fb := fun b => idxIn b sel
  bif nodupB sel && sel.length == S.I.length && sel.all (fun b => decide (b < B.box.length)) && args.length == S.A.length then
    match SPat.dec ⟨S.A, S.I, S.nt⟩ (args.map fun a => a.ren fb id) ⟨sel.map fun b => (B.box.getD b .any).ren fb id, B.dead, B.nt⟩ with
    | some x => bif vecFree B sel (SPat.toks ⟨S.A, S.I, S.nt⟩ (args.map fun a => a.ren fb id) ⟨sel.map fun b => (B.box.getD b .any).ren fb id, B.dead, B.nt⟩) then
        (f x).bind fun r => altK r (fun r => k (callB S args B r).1 (callB S args B r).2) (fun r => k (callB (S.alt O ntO R) args B r).1 (callB (S.alt O ntO R) args B r).2) else none
    | none => none
  else none
def altE (g : FuncId) (S : CSpec) (O : List PTy) (ntO : Nat) (R : PTy) (f : S.In → Option (S.Out ⊕ (S.alt O ntO R).Out)) : CEnt := ⟨g, fun args B => fits S args B, fun _ args B k => bif !PANS.contains g || (selA S args B).all (fun b => argT args b) then callK2 S O ntO R f args B k else none, false, false⟩
def inlF {A B : Type} : Option (A ⊕ B) → Option A
  | some (.inl a) => some a
  | _ => none
def inrF {A B : Type} : Option (A ⊕ B) → Option B
  | some (.inr a) => some a
  | _ => none
theorem inlF_spec {A B : Type} {v : Option (A ⊕ B)} {a : A} (h : inlF v = some a) : v = some (.inl a) := by
  unfold inlF at h
  split at h
  · simp only [Option.some.injEq] at h; subst h; rfl
  · cases h
theorem inrF_spec {A B : Type} {v : Option (A ⊕ B)} {a : B} (h : inrF v = some a) : v = some (.inr a) := by
  unfold inrF at h
  split at h
  · simp only [Option.some.injEq] at h; subst h; rfl
  · cases h
theorem callK2_spec {X : Type} {S : CSpec} {O : List PTy} {ntO : Nat} {R : PTy} {f : S.In → Option (S.Out ⊕ (S.alt O ntO R).Out)} {args : List AVal} {B : Bx} {k : AVal → Bx → Option X} {res : X} (h : callK2 S O ntO R f args B k = some res) :
    callK S (fun x => inlF (f x)) args B k = some res ∨ callK (S.alt O ntO R) (fun x => inrF (f x)) args B k = some res := by
  unfold callK2 at h
  simp only at h
  unfold callK
  simp only
  have hsel : selA (S.alt O ntO R) args B = selA S args B := rfl
  rw [hsel]
  generalize selA S args B = sel at h ⊢
  cases hb : nodupB sel && sel.length == S.I.length && sel.all (fun b => decide (b < B.box.length)) && args.length == S.A.length with
  | false => rw [hb] at h; cases h
  | true =>
    rw [hb] at h
    simp only [cond_true] at h ⊢
    split at h
    · rename_i x hdec
      cases hvf : vecFree B sel (SPat.toks ⟨S.A, S.I, S.nt⟩ (args.map fun a => a.ren (fun b => idxIn b sel) id) ⟨sel.map fun b => (B.box.getD b .any).ren (fun b => idxIn b sel) id, B.dead, B.nt⟩) with
      | false => rw [hvf] at h; cases h
      | true =>
        rw [hvf] at h
        simp only [cond_true] at h ⊢
        cases hfx : f x with
        | none => rw [hfx] at h; cases h
        | some r =>
          rw [hfx] at h
          simp only [Option.bind_some] at h
          cases r with
          | inl a => left; simp only [hdec, hvf, cond_true, hfx, inlF, Option.bind_some]; exact h
          | inr a => right; simp only [hdec, hvf, cond_true, hfx, inrF, Option.bind_some]; exact h
    · cases h
theorem altE_valid {P : Program} {g : FuncId} {S : CSpec} {O : List PTy} {ntO : Nat} {R : PTy} {f : S.In → Option (S.Out ⊕ (S.alt O ntO R).Out)} (hS : S.ok = true) (hT : (S.alt O ntO R).ok = true) (hent : Ent' P g)
    (hcall : (∀ x r, f x = some (.inl r) → LCall S.I.length P g (encs S.A x.1) ⟨encs S.I x.2, [], S.nt⟩ (S.R.enc r.1) ⟨encs S.O r.2, [], S.ntO⟩) ∧
      (∀ x r, f x = some (.inr r) → LCall S.I.length P g (encs S.A x.1) ⟨encs S.I x.2, [], S.nt⟩ (R.enc r.1) ⟨encs O r.2, [], ntO⟩)) : (altE g S O ntO R f).Valid P := by
  intro X args B k r h
  have hsel : PANS.contains g = true → ∀ b ∈ selA S args B, argT args b = true := fun hp b hb => by
    simp only [altE, hp, Bool.not_true, Bool.false_or] at h
    cases ha : (selA S args B).all (fun b => argT args b) with
    | false => rw [ha] at h; cases h
    | true => exact List.all_eq_true.1 ha b hb
  have h' : callK2 S O ntO R f args B k = some r := by
    simp only [altE, cond_eq_ite] at h
    split at h
    · exact h
    · cases h
  rcases callK2_spec h' with h | h
  · obtain ⟨q, h1, h2⟩ := call_sound hS hent (fun x r hr => hcall.1 x r (inlF_spec hr)) h
    exact ⟨_, _, h1, h2, (fun h => by cases h), (fun h => by cases h), by simp only [callB, List.length_append, setSel_len]; omega, fun hp b hb ha => callB_keep hb fun hm => by rw [hsel hp b hm] at ha; cases ha⟩
  · obtain ⟨q, h1, h2⟩ := call_sound (S := S.alt O ntO R) hT hent (fun x r hr => hcall.2 x r (inrF_spec hr)) h
    exact ⟨_, _, h1, h2, (fun h => by cases h), (fun h => by cases h), by simp only [callB, List.length_append, setSel_len]; omega, fun hp b hb ha => callB_keep hb fun hm => by rw [hsel hp b hm] at ha; cases ha⟩
def finK2 (S : CSpec) (O : List PTy) (ntO : Nat) (R : PTy) (v : AVal) (B : Bx) : Option (S.Out ⊕ (S.alt O ntO R).Out) :=
  match finK S v B with
  | some r => some (.inl r)
  | none => match finK (S.alt O ntO R) v B with
    | some r => some (.inr r)
    | none => none
theorem fin_lcall {n : Nat} {P : Program} {g : FuncId} {S : CSpec} {args : List AVal} {B B' : Bx} {v : AVal} {r : S.Out} (hn : n ≤ S.O.length) (hS2 : S.ok2 = true) (hk : finK S v B' = some r) (hl : LCall n P g args B v B') :
    LCall n P g args B (S.R.enc r.1) ⟨encs S.O r.2, [], S.ntO⟩ := by
  unfold finK at hk
  split at hk
  · rename_i z hz
    simp only [Option.some.injEq] at hk
    subst hk
    refine ⟨hl.1, fun G w vs hvs hw => (hl.2 G w vs hvs hw).mono ?_⟩
    rintro e w' ⟨cv, G1, hend, h1, h2, h3, h4⟩
    have hok : Ok G1 B' [v] { tmps := #[cv], defers := [] } w' := ⟨⟨rfl, fun t => by
      cases t with
      | zero => exact h1
      | succ t => exact any_v _⟩, h2, trivial⟩
    obtain ⟨G2, g2⟩ := norm_sound (n := n) (CSpec.ok2_1 hS2) hn hz hok
    refine ⟨cv, G2, decs_end (CSpec.ok2_2 hS2) hz hend, by have := g2.ok.env.val 0; unfold SPat.encE at this; rw [oneE_enc] at this; exact this, g2.ok.w, h3.trans g2.ext, fun i b hi hb => g2.held i b hi (h4 i b hi hb)⟩
  · cases hk
theorem finK2_lcall {n : Nat} {P : Program} {g : FuncId} {S : CSpec} {O : List PTy} {ntO : Nat} {R : PTy} {args : List AVal} {B B' : Bx} {v : AVal} (hn : n ≤ S.O.length) (hn2 : n ≤ O.length) (hS2 : S.ok2 = true) (hT2 : (S.alt O ntO R).ok2 = true) (hl : LCall n P g args B v B') :
    (∀ r, finK2 S O ntO R v B' = some (.inl r) → LCall n P g args B (S.R.enc r.1) ⟨encs S.O r.2, [], S.ntO⟩) ∧ (∀ r, finK2 S O ntO R v B' = some (.inr r) → LCall n P g args B (R.enc r.1) ⟨encs O r.2, [], ntO⟩) := by
  refine ⟨fun r hr => ?_, fun r hr => ?_⟩
  · unfold finK2 at hr
    split at hr
    · rename_i q hq
      simp only [Option.some.injEq, Sum.inl.injEq] at hr
      subst hr
      exact fin_lcall hn hS2 hq hl
    · split at hr <;> cases hr
  · unfold finK2 at hr
    split at hr
    · cases hr
    · split at hr
      · rename_i q hq
        simp only [Option.some.injEq, Sum.inr.injEq] at hr
        subst hr
        exact fin_lcall (S := S.alt O ntO R) hn2 hT2 hq hl
      · cases hr
theorem alt_lcall {P : Program} {C : CalT} {Ls : List LoopT} {g : FuncId} {fn : Func} {c : Code} {S : CSpec} {O : List PTy} {ntO : Nat} {R : PTy} {f : S.In → Option (S.Out ⊕ (S.alt O ntO R).Out)} (hm : P.follows .mixedOrders = true) (hf : P.funcs[g]? = some fn) (hb : fn.body = some c) (hent : Ent P g) (hC : CV P C)
    (hL : LV S.I.length P false (loopsOf c) Ls) (hS : S.ok = true) (hS2 : S.ok2 = true) (hT : (S.alt O ntO R).ok = true) (hT2 : (S.alt O ntO R).ok2 = true) (hev : ∀ x, fnR P C Ls fn c (encs S.A x.1) ⟨encs S.I x.2, [], S.nt⟩ (finK2 S O ntO R) = f x) :
    (∀ x r, f x = some (.inl r) → LCall S.I.length P g (encs S.A x.1) ⟨encs S.I x.2, [], S.nt⟩ (S.R.enc r.1) ⟨encs S.O r.2, [], S.ntO⟩) ∧
      (∀ x r, f x = some (.inr r) → LCall S.I.length P g (encs S.A x.1) ⟨encs S.I x.2, [], S.nt⟩ (R.enc r.1) ⟨encs O r.2, [], ntO⟩) := by
  simp only [CSpec.ok, Bool.and_eq_true, decide_eq_true_eq] at hS hT
  refine ⟨fun x r hr => ?_, fun x r hr => ?_⟩
  all_goals
    obtain ⟨v, B', hk, hl⟩ := fnR_sound hm hf hb hent hC hL ((hev x).trans hr)
    have := finK2_lcall (n := S.I.length) hS.2 hT.2 hS2 hT2 hl
  · exact this.1 r hk
  · exact this.2 r hk
end Go.Proofs.YtcijddeommognaaDoor.Abs
set_option linter.unusedVariables false
set_option linter.unusedSimpArgs false
namespace Go.Proofs.YtcijddeommognaaDoor.Abs
def PTy.fresh : PTy → Bool
  | .dat T => T.flat
  | .own _ T => T.flat
  | .cons h t => h.fresh && t.fresh
  | .nil => true
  | .tup p => p.fresh
  | _ => false
end Go.Proofs.YtcijddeommognaaDoor.Abs
set_option linter.unusedVariables false
set_option linter.unusedSimpArgs false
namespace Go.Proofs.YtcijddeommognaaDoor.Abs
theorem leaveM {P : Program} {fn : Func} {tm : Array Value} {R : Ending → World → Prop} {rest : List Deferred} {u : FrameMode} {G G1 : Gh} {w : World} {B' : Bx} (hu : u ≠ .run) : ∀ (ds : List Deferred) (w2 : World), WOk G1 B' w2 → Ext G w G1 w2 → Marks G1 w2 (ds ++ rest) → (∀ d ∈ ds, ∃ D, d.target = .collected D ∧ w.heap.size ≤ D) →
    (∀ w3, WOk G1 B' w3 → Ext G w G1 w3 → Marks G1 w3 rest → LeavesInM Fence.wide 0 P fn tm R rest u w3) → LeavesInM Fence.wide 0 P fn tm R (ds ++ rest) u w2 := by
  intro ds
  induction ds with
  | nil =>
    intro w2 hw2 hx2 hm _ hk
    exact hk w2 hw2 hx2 hm
  | cons d ds ih =>
    intro w2 hw2 hx2 hm hd hk
    obtain ⟨h0, h6⟩ := hm
    obtain ⟨D, h1, h2, h3, h4, h5⟩ := h0.resolve_left (fun h => by
      obtain ⟨D, e1, _⟩ := hd d (by simp)
      unfold isFnD at h; rw [e1] at h; cases h)
    have hge : w.heap.size ≤ D := by
      obtain ⟨D', e1, e2⟩ := hd d (by simp)
      rw [h1] at e1
      cases e1
      exact e2
    have hput : ∀ b, b ≠ D → (w2.putObj D (.deferred none)).heap[b]? = w2.heap[b]? := fun b hb => World.putObj_heap_other hb
    have hcell : ∀ b c e fr, w2.heap[b]? = some (.cells c e fr) → b ≠ D := fun b c e fr hb hbD => by subst hbD; rw [h2] at hb; cases hb
    refine ⟨hu, .inl ⟨D, _, h1, run_takeDeferred h2, ih _ ⟨hw2.len, hw2.nodup, fun i b c hb hc => ?_, fun b row hb => ?_, hw2.disj, fun t b n ht => ?_, hw2.inj, fun q hq => ?_, ?_⟩ ⟨hx2.os, hx2.tape, hx2.output, by rw [World.putObj_size]; exact hx2.size, fun b hb ha ho => ?_, hx2.imm, hx2.same, hx2.addr, hx2.own⟩ ?_ (fun d' hd' => hd d' (by simp [hd'])) hk⟩⟩
    · exact (hw2.boxes i b c hb hc).mono (GLe.refl _ _) (hput b (fun e => h3 (by rw [← e]; exact List.mem_of_getElem? hb)))
    · obtain ⟨c, e, fr, k1, k2⟩ := hw2.imm b row hb
      exact ⟨c, e, fr, by rw [hput b (hcell b c e fr k1)]; exact k1, k2⟩
    · obtain ⟨k1, k2, c, e, k3, k4⟩ := hw2.own t b n ht
      exact ⟨k1, k2, c, e, by rw [hput b (hcell b c e _ k3)]; exact k3, k4⟩
    · obtain ⟨⟨e, fr, k1⟩, k2, k3⟩ := hw2.tab q hq
      exact ⟨⟨e, fr, by rw [hput q.1 (hcell _ _ e fr k1)]; exact k1⟩, k2, k3⟩
    · refine hw2.vec.mono (fun _ _ _ _ hx => hx) (fun _ h => .inl h) (fun t b n _ h1 h2 => ⟨h1, h2, ?_⟩) (ImmLe.refl _)
      obtain ⟨_, _, c, e, k3, _⟩ := hw2.own t b n h1
      exact hput b (hcell b c e _ k3)
    · rw [hput b (by omega)]
      exact hx2.frame b hb ha ho
    · have key : ∀ ds', (∀ d' ∈ ds', d'.target ≠ .collected D) → Marks G1 w2 ds' → Marks G1 (w2.putObj D (.deferred none)) ds' := by
        intro ds'
        induction ds' with
        | nil => intro _ _; trivial
        | cons d' ds' ih' =>
          intro hn hm'
          obtain ⟨h0, a6⟩ := hm'
          rcases h0 with h0 | ⟨D', a1, a2, a3, a4, a5⟩
          · exact ⟨.inl h0, ih' (fun d2 hd2 => hn d2 (by simp [hd2])) a6⟩
          have hne : D' ≠ D := fun e => hn d' (by simp) (by rw [a1, e])
          exact ⟨.inr ⟨D', a1, by rw [hput D' hne]; exact a2, a3, a4, a5⟩, ih' (fun d2 hd2 => hn d2 (by simp [hd2])) a6⟩
      exact key (ds ++ rest) h5 h6
theorem fnDs_split {d : Deferred} : ∀ {ds : List Deferred}, fnDs ds = [d] → ∃ l r, ds = l ++ d :: r ∧ fnDs l = [] ∧ fnDs r = []
  | [], h => by cases h
  | x :: ds, h => by
    unfold fnDs at h
    cases hx : isFnD x with
    | true =>
      rw [List.filter_cons_of_pos hx] at h
      simp only [List.cons.injEq] at h
      exact ⟨[], ds, by rw [h.1]; rfl, rfl, h.2⟩
    | false =>
      rw [List.filter_cons_of_neg (by rw [hx]; simp)] at h
      obtain ⟨l, r, h1, h2, h3⟩ := fnDs_split (ds := ds) h
      exact ⟨x :: l, r, by rw [h1]; rfl, by unfold fnDs; rw [List.filter_cons_of_neg (by rw [hx]; simp)]; exact h2, h3⟩
theorem not_fn {ds : List Deferred} (h : fnDs ds = []) {d : Deferred} (hd : d ∈ ds) : isFnD d = false := by
  unfold fnDs at h
  have := List.filter_eq_nil_iff.1 h d hd
  simpa using this
theorem leaveF {T : Gh → Prop} {P : Program} {fn : Func} {tm : Array Value} {R : Ending → World → Prop} {G G1 : Gh} {w w2 : World} {B1 B2 : Bx} {g : FuncId} {caps : Array Value} {ds : List Deferred} {u u' : FrameMode} (hu : u ≠ .run) (hu' : settle u' = .returning) (hent : Ent P g)
    (hds : fnDs ds = [{ target := .fn (.func g) caps, args := #[] }]) (hd : ∀ d ∈ ds, isFnD d = true ∨ ∃ D, d.target = .collected D ∧ w.heap.size ≤ D) (hw2 : WOk G1 B1 w2) (hx2 : Ext G w G1 w2) (hm : Marks G1 w2 ds)
    (hcall : ∀ w3, WOk G1 B1 w3 → Ext G w G1 w3 → CallsDIn Fence.wide 0 P g caps u w3 fun e u2 w4 => (∃ v, e = .returned v) ∧ u2 = u' ∧ ∃ G2, WOk G2 B2 w4 ∧ T G2 ∧ Ext G1 w3 G2 w4)
    (hfin : ∀ G2 w5, WOk G2 B2 w5 → T G2 → Ext G w G2 w5 → LeavesInM Fence.wide 0 P fn tm R [] .returning w5) : LeavesInM Fence.wide 0 P fn tm R ds u w2 := by
  obtain ⟨l, r, rfl, hl, hr⟩ := fnDs_split hds
  refine leaveM hu l w2 hw2 hx2 hm (fun d hdl => (hd d (by simp [hdl])).resolve_left (fun h => by rw [not_fn hl hdl] at h; cases h)) fun w3 hw3 hx3 hm3 => ?_
  refine ⟨hu, .inr ⟨(fun h => by cases h), Fn.func g, caps, g, caps, rfl, ?_, (fun _ _ => trivial), (hcall w3 hw3 hx3).mono ?_⟩⟩
  · show (callFunc g (#[] ++ caps)).run P w3 = _
    rw [Array.empty_append]
    exact hent.2 _ _
  · rintro e u2 w4 ⟨⟨v, rfl⟩, rfl, G2, k1, k2, k3⟩
    show LeavesInM Fence.wide 0 P fn tm R r (settle u2) w4
    rw [hu']
    have hx4 := hx3.trans k3
    have := leaveM (P := P) (fn := fn) (tm := tm) (R := R) (rest := []) (u := .returning) (G := G) (G1 := G2) (w := w) (B' := B2) (by simp) r w4 k1 hx4 (by rw [List.append_nil]; exact hm3.2.ext k3) (fun d hdr => (hd d (by simp [hdr])).resolve_left (fun h => by rw [not_fn hr hdr] at h; cases h)) fun w5 hw5 hx5 _ => hfin G2 w5 hw5 k2 hx5
    rw [List.append_nil] at this
    exact this
structure CloOk (P : Program) (g : FuncId) (cR : Code) (tw : TypeId) (nc nt : Nat) : Prop where
  ent : Ent P g
  idle : ∀ (vs : Array Value) (w : World), vs.size = nc → CallsDIn Fence.wide 0 P g vs .returning w fun e u' w' => (∃ v, e = .returned v) ∧ u' = .returning ∧ w' = w
  pan : ∀ (s : ByteArray) (vs : Array Value) (w : World) (R : World → Prop), vs.size = nc →
    (∀ (tm : Array Value) (w1 : World), tm.size = nt → (∀ i, i < nc → tm[i]? = vs[i]?) → (∃ c e, w1 = w.alloc (.cells c e)) → cR.wpIn Fence.wide 0 P (fun e a' w' => e = .normal ∧ a'.defers = [] ∧ R w') { tmps := tm, defers := [] } w1) →
    CallsDIn Fence.wide 0 P g vs (.panicking [{ v := .iface tw (wrongV s), recovered := false }]) w fun e u' w' => (∃ v, e = .returned v) ∧ u' = .panicking [{ v := .iface tw (wrongV s), recovered := true }] ∧ R w'
theorem vals_getD {G : Gh} {dead : List Nat} {az : List AVal} {vs : List Value} (h : Vals G dead az vs) : ∀ (i : Nat) (a : AVal), az[i]? = some a → ∃ v, vs[i]? = some v ∧ Rv G dead a v := fun i a ha => vals_get h ha
def isSet (o : Oper) : Bool := match o.op with
  | .build .. | .store .. | .move _ | .assign _ => true
  | _ => false
theorem exec_set {P : Program} {o : Oper} {ev : Operand → Value} {w w' : World} {x : Next} (ho : isSet o = true) (h : (execOp ev o).run P w = .ok x w') : (∃ v, x = .value v) ∨ x = .skip := by
  have bindv : ∀ {s : Sem Value}, ((do pure (.value (← s)) : Sem Next)).run P w = .ok x w' → ∃ v, x = .value v := fun {s} hh => by
    rw [Sem.run_bind] at hh
    cases hs : s.run P w with
    | ok v w2 =>
      rw [hs] at hh
      simp only [Result.andThen_ok, Sem.run_pure, Result.ok.injEq] at hh
      exact ⟨v, hh.1.symm⟩
    | _ => rw [hs] at hh; cases hh
  have bindu : ∀ {s : Sem Unit}, ((do s; pure .skip : Sem Next)).run P w = .ok x w' → x = .skip := fun {s} hh => by
    rw [Sem.run_bind] at hh
    cases hs : s.run P w with
    | ok v w2 =>
      rw [hs] at hh
      simp only [Result.andThen_ok, Sem.run_pure, Result.ok.injEq] at hh
      exact hh.1.symm
    | _ => rw [hs] at hh; cases hh
  unfold isSet at ho
  split at ho
  · rename_i hop
    simp only [execOp, hop] at h
    exact .inl (bindv h)
  · rename_i hop
    simp only [execOp, hop] at h
    exact .inr (bindu h)
  · rename_i hop
    simp only [execOp, hop, Sem.run_pure, Result.ok.injEq] at h
    exact .inl ⟨_, h.1.symm⟩
  · rename_i hop
    simp only [execOp, hop, Sem.run_pure, Result.ok.injEq] at h
    exact .inl ⟨_, h.1.symm⟩
  · cases ho
theorem oper_keep {P : Program} {r : Option Nat} {o : Oper} {a : Act} {w : World} {next next' : Act → World → Prop} {Q Q' : Exit → Act → World → Prop} (ho : isSet o = true) (hn : ∀ a' w', a'.defers = a.defers → next a' w' → next' a' w') (hq : ∀ e w', Q e a w' → Q' e a w') (h : o.wpIn (Fr r) 0 P a w next Q) : o.wpIn (Fr r) 0 P a w next' Q' := by
  refine ⟨h.1, ?_⟩
  have h2 := h.2
  rw [Oper.semAt_eq _ _ _ (fun c hc => by simp [isSet, hc] at ho)] at h2 ⊢
  cases hr : (execOp a.eval o).run P w with
  | ok x w' =>
    rw [hr] at h2
    rcases exec_set ho hr with ⟨v, rfl⟩ | rfl
    · exact hn _ _ (put_defers' _ _ _) h2
    · exact hn _ _ (put_defers' _ _ _) h2
  | halt y w' =>
    rw [hr] at h2
    cases y <;> first | exact hq _ _ h2 | exact h2
theorem list_keep {P : Program} {r : Option Nat} {ops : Array Oper} {Q : Exit → Act → World → Prop} : ∀ (l : List Oper) (a : Act) (w : World), l.all isSet = true → wpListIn (Fr r) 0 P ops Q l a w → wpListIn (Fr r) 0 P ops (fun e a' w' => Q e a' w' ∧ a'.defers = a.defers) l a w
  | [], a, w, _, h => ⟨h, rfl⟩
  | o :: l, a, w, hl, h => by
    simp only [List.all_cons, Bool.and_eq_true] at hl
    unfold wpListIn at h ⊢
    split
    · rename_i hw
      rw [if_pos hw] at h
      refine oper_keep hl.1 (fun a' w' e hh => ?_) (fun e w' hh => ⟨hh, rfl⟩) h
      have := list_keep l a' w' hl.2 hh
      rw [e] at this
      exact this
    · rename_i hw
      rw [if_neg hw] at h
      refine ⟨h.1, ?_⟩
      have := list_keep l _ w hl.2 h.2
      rw [put_defers'] at this
      exact this
theorem clo_set {n : Nat} {P : Program} {id : Nat} {ops : Array Oper} {G1 : Gh} {B B3 : Bx} {caps : List AVal} {vs : Array Value} {env3 : List AVal} {tm : Array Value} {w w1 : World} {nt : Nat} (hv : Vals G1 B.dead caps vs.toList) (hw : WOk G1 B w) (h1 : tm.size = nt) (hnt : caps.length ≤ nt) (h2 : ∀ i, i < caps.length → tm[i]? = vs[i]?) (h3 : ∃ c e, w1 = w.alloc (.cells c e))
    (hall : ops.toList.all isSet = true) (hlw : LW n P ops ops.toList (caps ++ List.replicate (nt - caps.length) .any) B .normal env3 B3) :
    (Code.region id ops false).wpIn Fence.wide 0 P (fun e a' w' => (e = .normal ∧ (∃ G2, WOk G2 B3 w' ∧ Ext G1 w G2 w' ∧ ∀ i b, i < n → G1.addr[i]? = some b → G2.addr[i]? = some b)) ∧ a'.defers = []) { tmps := tm, defers := [] } w1 := by
  obtain ⟨c, e, rfl⟩ := h3
  have hg := grew_alloc w (.cells c e)
  have hok : Ok G1 B (caps ++ List.replicate (nt - caps.length) .any) { tmps := tm, defers := [] } (w.alloc (.cells c e)) := by
    refine ⟨⟨by simp [h1]; omega, fun t => ?_⟩, hw.grew hg, trivial⟩
    rcases Nat.lt_or_ge t caps.length with hlt | hge
    · rw [List.getD_eq_getElem?_getD, List.getElem?_append_left hlt, List.getElem?_eq_getElem hlt]
      obtain ⟨v, e1, e2⟩ := vals_getD hv t caps[t] (List.getElem?_eq_getElem hlt)
      have e3 : tm[t]? = some v := by rw [h2 t hlt, ← Array.getElem?_toList]; exact e1
      have e4 : tm.getD t undef = v := by rw [Array.getD_eq_getD_getElem?, e3]; rfl
      show Rv G1 B.dead caps[t] (tm.getD t undef)
      rw [e4]
      exact e2
    · have : (caps ++ List.replicate (nt - caps.length) AVal.any).getD t .any = .any := by
        rw [List.getD_eq_getElem?_getD, List.getElem?_append_right hge, List.getElem?_replicate]
        split <;> rfl
      rw [this]
      exact any_v _
  exact wpIn_region_list (list_keep (r := none) _ _ _ hall (hlw none G1 _ _ _ hok fun G2 a2 w2 x hx g => ⟨hx, G2, g.ok.w, (hg.ext G1).trans g.ext, g.held⟩))
def defAt : Code → Option (FuncId × Array Operand × Tmp)
  | .region _ ops false => match ops.toList with
    | [m, d] => match m.op, m.guard, m.dst, d.op, d.guard, d.dst with
      | .makeFunc (.func g) first cap, none, some t, .defer cl, none, none => match cl.callee with
        | .value (.tmp t') => bif t' == t && first.isEmpty && cl.args.isEmpty then some (g, cap, t) else none
        | _ => none
      | _, _, _, _, _, _ => none
    | _ => none
  | _ => none
theorem def_wp {P : Program} {c : Code} {g : FuncId} {cap : Array Operand} {t : Tmp} (h : defAt c = some (g, cap, t)) {a : Act} {w : World} {Q : Exit → Act → World → Prop} (ht : t < a.tmps.size)
    (hQ : Q .normal { (a.put (some t) (.func (.func g) #[] (cap.map a.eval))) with defers := { target := .fn (.func g) (cap.map a.eval), args := #[] } :: a.defers } w) : c.wpIn Fence.wide 0 P Q a w := by
  unfold defAt at h
  split at h
  · rename_i id ops
    split at h
    · rename_i m d hops
      split at h
      · rename_i g' first cap' t1 cl hm hmg hmd hd hdg hdd
        split at h
        · rename_i t' hcal
          cases hb : t' == t1 && first.isEmpty && cl.args.isEmpty with
          | false => rw [hb] at h; cases h
          | true =>
            rw [hb] at h
            simp only [cond_true, Option.some.injEq, Prod.mk.injEq] at h
            obtain ⟨rfl, rfl, rfl⟩ := h
            simp only [Bool.and_eq_true, beq_iff_eq, Array.isEmpty_iff] at hb
            obtain ⟨⟨rfl, hf⟩, ha⟩ := hb
            refine wpIn_region_list ?_
            rw [hops]
            have hw : ∀ (o : Oper) (a : Act), o.guard = none → Region.wanted o (yielded ops a.tmps) = true := fun o a hg => by unfold Region.wanted; rw [hg]
            unfold wpListIn
            rw [if_pos (hw m a hmg)]
            refine ⟨fun _ _ => trivial, ?_⟩
            rw [Oper.semAt_eq _ _ _ (fun c hc => by rw [hm] at hc; cases hc)]
            have e1 : (execOp a.eval m).run P w = .ok (.value (.func (.func g') #[] (cap'.map a.eval))) w := by
              simp only [execOp, hm, Instr.makeFunc, hf]
              simp [Sem.run_bind]
            rw [e1, Oper.uponIn_value, hmd]
            unfold wpListIn
            rw [if_pos (hw d _ hdg)]
            refine ⟨fun _ _ => trivial, ?_⟩
            have e2 : (a.put (some t') (.func (.func g') #[] (cap'.map a.eval))).eval (.tmp t') = .func (.func g') #[] (cap'.map a.eval) := put_new ht
            have e3 : (execOp (a.put (some t') (.func (.func g') #[] (cap'.map a.eval))).eval d).run P w = .ok (.defer { target := .fn (.func g') (cap'.map a.eval), args := #[] }) w := by
              simp only [execOp, hd, resolve, hcal, ha, e2]
              simp [Deferred.ofValue, Sem.run_bind]
            show Oper.uponIn Fence.wide 0 P d _ _ Q ((execOp (a.put (some t') (.func (.func g') #[] (cap'.map a.eval))).eval d).run P w)
            rw [e3, Oper.uponIn_defer, hdd]
            exact hQ
        · cases h
      · cases h
    · cases h
  · cases h
def keepB (a : AVal) : AVal := match a with
  | .bptr b p => .bptr b p
  | _ => .any
theorem keepB_ok {G1 G2 : Gh} {B : Bx} {dead : List Nat} {env : List AVal} {tm : Array Value} {w : World} (hw : WOk G1 B w) (he : EnvOk G1 B.dead env tm) (hh : ∀ i b, i < B.box.length → G1.addr[i]? = some b → G2.addr[i]? = some b) : EnvOk G2 dead (env.map keepB) tm := by
  refine ⟨by rw [he.len]; simp, fun t => ?_⟩
  have hv := he.val t
  rcases Nat.lt_or_ge t env.length with hlt | hge
  · have e : (env.map keepB).getD t .any = keepB env[t] := by
      rw [List.getD_eq_getElem?_getD, List.getElem?_map, List.getElem?_eq_getElem hlt]; rfl
    have e0 : env.getD t .any = env[t] := by
      rw [List.getD_eq_getElem?_getD, List.getElem?_eq_getElem hlt]; rfl
    rw [e]
    rw [e0] at hv
    cases hx : env[t] with
    | bptr b p =>
      rw [hx] at hv
      obtain ⟨blk, h1, h2, h3⟩ := ptr_form hv
      have hb : b < B.box.length := by
        have := (List.getElem?_eq_some_iff.1 h1).1
        rw [hw.len] at this
        exact this
      rw [h3]
      exact leaf_v (a := .bptr b p) rfl ⟨blk, hh b blk hb h1, h2, rfl⟩
    | _ => exact any_v _
  · have e : (env.map keepB).getD t .any = .any := by
      rw [List.getD_eq_getElem?_getD, List.getElem?_eq_none (by simpa using hge)]; rfl
    rw [e]
    exact any_v _
def lowP (n : Nat) (l : List AVal) : Bool := l.all fun a => match a with
  | .bptr b _ => decide (b < n)
  | _ => false
theorem low_vals {n : Nat} {G G1 : Gh} {dead dead1 : List Nat} {env : List AVal} {a : Act} (he : EnvOk G dead env a.tmps) (hh : ∀ i b, i < n → G.addr[i]? = some b → G1.addr[i]? = some b) : (l : List Operand) → lowP n (l.map fun x => keepB (opA env x)) = true → Vals G1 dead1 (l.map fun x => keepB (opA env x)) (l.map a.eval)
  | [], _ => .nil
  | x :: l, h => by
    simp only [lowP, List.map_cons, List.all_cons, Bool.and_eq_true] at h
    refine .cons ?_ (low_vals he hh l h.2)
    have hv := he.op x
    have h1 := h.1
    cases hx : opA env x with
    | bptr b p =>
      rw [hx] at hv h1
      obtain ⟨blk, k1, k2, k3⟩ := ptr_form hv
      rw [k3]
      show Rv G1 dead1 (keepB (opA env x)) _
      rw [hx]
      exact leaf_v (a := .bptr b p) rfl ⟨blk, hh b blk (by simpa [keepB] using h1) k1, k2, rfl⟩
    | _ => rw [hx] at h1; simp [keepB] at h1
def dfR (P : Program) (C : CalT) {X : Type} (n : Nat) (cops : Array Oper) (g0 : FuncId) (tw : TypeId) (nc nt : Nat) : Code → List LoopT → List AVal → Bx → (List AVal → Bx → Option X) → Option X
  | .seq x y, Ls, env, B, k => match defAt x with
    | some (g, cap, t) => bif g == g0 && cops.toList.all isSet && cap.size == nc && decide (nc ≤ nt) && decide (t < env.length) && lowP n (cap.toList.map fun x => keepB (opA env x)) then
        codeR P C y (Ls.drop (nl x)) (setA env (some t) .any) B fun e env2 B2 => match e with
          | .normal => k env2 B2
          | .ret => k env2 B2
          | .pan tw' => bif tw' == tw then regX P C cops cops.toList ((cap.toList.map fun x => keepB (opA env x)) ++ List.replicate (nt - (cap.toList.map fun x => keepB (opA env x)).length) .any) B2 fun e3 _ B3 => match e3 with
              | .normal => k (env2.map keepB) B3
              | _ => none
            else none
          | _ => none
      else none
    | none => codeR P C x Ls env B fun e env1 B1 => match e with
      | .normal => dfR P C n cops g0 tw nc nt y (Ls.drop (nl x)) env1 B1 k
      | .ret => k env1 B1
      | _ => none
  | _, _, _, _, _ => none
theorem dfR_sound {n : Nat} {P : Program} {C : CalT} {X : Type} {cid : Nat} {cops : Array Oper} {g0 : FuncId} {tw : TypeId} {nc nt : Nat} {k : List AVal → Bx → Option X} {r : X} (hm : P.follows .mixedOrders = true) (hC : CV P C) (hclo : CloOk P g0 (.region cid cops false) tw nc nt) : (c : Code) → {Ls : List LoopT} → {env : List AVal} → {B : Bx} → LV n P false (loopsOf c) Ls → dfR P C n cops g0 tw nc nt c Ls env B k = some r →
    ∃ env' B', k env' B' = some r ∧ ∀ (fn : Func) (R : Ending → World → Prop) (G0 : Gh) (w0 : World) (G : Gh) (a : Act) (w : World), Ok G B env a w → Ext G0 w0 G w → (∀ d ∈ a.defers, ∃ D, d.target = .collected D ∧ w0.heap.size ≤ D) →
      (∀ G1 tm w1, EnvOk G1 B'.dead env' tm → WOk G1 B' w1 → Ext G0 w0 G1 w1 → LeavesInM Fence.wide 0 P fn tm R [] .returning w1) → c.wpIn Fence.wide 0 P (bodyPostM Fence.wide 0 P fn R) a w
  | .seq x y, Ls, env, B, hL, h => by
    unfold dfR at h
    split at h
    · rename_i g cap t hdef
      cases hb : g == g0 && cops.toList.all isSet && cap.size == nc && decide (nc ≤ nt) && decide (t < env.length) && lowP n (cap.toList.map fun x => keepB (opA env x)) with
      | false => rw [hb] at h; cases h
      | true =>
        rw [hb] at h
        simp only [cond_true] at h
        simp only [Bool.and_eq_true, beq_iff_eq, decide_eq_true_eq] at hb
        obtain ⟨⟨⟨⟨⟨rfl, hall⟩, hcs⟩, hnt⟩, htl⟩, hlow⟩ := hb
        rw [← nl_len] at h
        obtain ⟨e, env2, B2, h1, w2⟩ := codeR_sound (n := n) hm hC y (LV.right hL) h
        have start : ∀ {G : Gh} {a : Act} {w : World}, Ok G B env a w → Ok G B (setA env (some t) .any) { (a.put (some t) (.func (.func g) #[] (cap.map a.eval))) with defers := { target := .fn (.func g) (cap.map a.eval), args := #[] } :: a.defers } w := fun hok =>
          ⟨hok.env.put (some t) (any_v _), hok.w, ⟨.inl rfl, hok.marks⟩⟩
        have hcl : ∀ {a : Act}, (∀ d ∈ a.defers, isFnD d = false) → fnDs a.defers = [] := fun h => List.filter_eq_nil_iff.2 fun d hd => by rw [h d hd]; simp
        have nofn : ∀ {w0 : World} {d : Deferred}, (∃ D, d.target = .collected D ∧ w0.heap.size ≤ D) → isFnD d = false := fun {w0 d} ⟨D, e1, _⟩ => by unfold isFnD; rw [e1]
        have put : ∀ {G0 : Gh} {w0 : World} {G : Gh} {a : Act} {w : World} {G1 : Gh} {a1 : Act} {w1 : World} {v : Value}, Ext G0 w0 G w → (∀ d ∈ a.defers, ∃ D, d.target = .collected D ∧ w0.heap.size ≤ D) → Goes n G { (a.put (some t) v) with defers := { target := .fn (.func g) (cap.map a.eval), args := #[] } :: a.defers } w G1 B2 env2 a1 w1 →
            fnDs a1.defers = [{ target := .fn (.func g) (cap.map a.eval), args := #[] }] ∧ ∀ d ∈ a1.defers, isFnD d = true ∨ ∃ D, d.target = .collected D ∧ w0.heap.size ≤ D := fun {G0 w0 G a w G1 a1 w1 v} hx hd gg => by
          refine ⟨?_, fun d hdm => ?_⟩
          · rw [gg.defers.2]
            show fnDs ({ target := .fn (.func g) (cap.map a.eval), args := #[] } :: a.defers) = _
            unfold fnDs
            rw [List.filter_cons_of_pos (by rfl)]
            have := hcl (a := a) fun d hdm => nofn (hd d hdm)
            unfold fnDs at this
            rw [this]
          · rcases gg.defers.1 d hdm with h | ⟨D, e1, e2⟩
            · rcases List.mem_cons.1 h with rfl | h
              · exact .inl rfl
              · exact .inr (hd d h)
            · exact .inr ⟨D, e1, Nat.le_trans hx.size e2⟩
        have good : ∀ (x1 : Exit), (x1 = .normal ∨ x1 = .ret) → e.is x1 → (∀ x2, e.is x2 → x2 = x1) → k env2 B2 = some r → ∃ env' B', k env' B' = some r ∧ ∀ (fn : Func) (R : Ending → World → Prop) (G0 : Gh) (w0 : World) (G : Gh) (a : Act) (w : World), Ok G B env a w → Ext G0 w0 G w → (∀ d ∈ a.defers, ∃ D, d.target = .collected D ∧ w0.heap.size ≤ D) →
            (∀ G1 tm w1, EnvOk G1 B'.dead env' tm → WOk G1 B' w1 → Ext G0 w0 G1 w1 → LeavesInM Fence.wide 0 P fn tm R [] .returning w1) → (x.seq y).wpIn Fence.wide 0 P (bodyPostM Fence.wide 0 P fn R) a w := fun x1 hx1 _ huniq hk => by
          refine ⟨env2, B2, hk, fun fn R G0 w0 G a w hok hx hd hR => wpIn_seq (def_wp hdef (by rw [hok.env.len]; exact htl) ?_)⟩
          refine w2 none rfl G _ w _ (start hok) fun G1 a1 w1' x2 hx2 gg => ?_
          have hxx := huniq x2 hx2
          obtain ⟨q1, q2⟩ := put hx hd gg
          have := leaveF (T := fun G2 => G2 = G1) (P := P) (fn := fn) (tm := a1.tmps) (R := R) (G := G0) (w := w0) (B2 := B2) (u' := .returning) (u := .returning) (by simp) rfl hclo.ent q1 q2 gg.ok.w (hx.trans gg.ext) gg.ok.marks
            (fun w3 hw3 hx3 => (hclo.idle _ w3 (by simpa using hcs)).mono (by rintro e u2 w4 ⟨h1, rfl, rfl⟩; exact ⟨h1, rfl, G1, hw3, rfl, Ext.refl _ _⟩)) (fun G2 w5 hw5 hg5 hx5 => by subst hg5; exact hR G2 a1.tmps w5 gg.ok.env hw5 hx5)
          subst hxx
          rcases hx1 with rfl | rfl <;> exact this
        cases e with
        | normal => exact good .normal (.inl rfl) rfl (fun _ h => h) h1
        | ret => exact good .ret (.inr rfl) rfl (fun _ h => h) h1
        | exit id => cases h1
        | pan tw' =>
          simp only at h1
          cases hb2 : tw' == tw with
          | false => rw [hb2] at h1; cases h1
          | true =>
            rw [hb2] at h1
            simp only [cond_true] at h1
            have htw : tw' = tw := by simpa using hb2
            subst htw
            obtain ⟨e3, env3, B3, h3, hlw⟩ := regX_sound (n := B2.box.length) hC h1
            cases e3 with
            | normal =>
              refine ⟨env2.map keepB, B3, h3, fun fn R G0 w0 G a w hok hx hd hR => wpIn_seq (def_wp hdef (by rw [hok.env.len]; exact htl) ?_)⟩
              refine w2 none rfl G _ w _ (start hok) fun G1 a1 w1' x2 hx2 gg => ?_
              obtain ⟨s, rfl⟩ := hx2
              obtain ⟨q1, q2⟩ := put hx hd gg
              have hv : Vals G1 B2.dead (cap.toList.map fun x => keepB (opA env x)) (cap.map a.eval).toList := by
                rw [Array.toList_map]
                exact low_vals hok.env gg.held cap.toList hlow
              have hcl2 : (cap.toList.map fun x => keepB (opA env x)).length = nc := by simpa using hcs
              exact leaveF (T := fun G2 => ∀ i b, i < B2.box.length → G1.addr[i]? = some b → G2.addr[i]? = some b) (P := P) (fn := fn) (tm := a1.tmps) (R := R) (G := G0) (w := w0) (B2 := B3) (u := .panicking [{ v := .iface tw' (wrongV s), recovered := false }]) (u' := .panicking [{ v := .iface tw' (wrongV s), recovered := true }]) (by simp) rfl hclo.ent q1 q2 gg.ok.w (hx.trans gg.ext) gg.ok.marks
                (fun w3 hw3 hx3 => (hclo.pan s (cap.map a.eval) w3 (fun w4 => ∃ G2, WOk G2 B3 w4 ∧ Ext G1 w3 G2 w4 ∧ ∀ i b, i < B2.box.length → G1.addr[i]? = some b → G2.addr[i]? = some b) (by simpa using hcs) (fun tm w4 k1 k2 k3 => wpIn_mono (clo_set (n := B2.box.length) hv hw3 k1 (by omega) (fun i hi => k2 i (by omega)) k3 hall hlw) (fun e a' w' ⟨⟨m1, m2⟩, m3⟩ => ⟨m1, m3, m2⟩))).mono (by
                  rintro e u2 w4 ⟨m1, m2, G2, m3, m4, m5⟩
                  exact ⟨m1, m2, G2, m3, m5, m4⟩))
                (fun G2 w5 hw5 hT hx5 => hR G2 a1.tmps w5 (keepB_ok gg.ok.w gg.ok.env hT) hw5 hx5)
            | _ => cases h3
    · obtain ⟨e, env1, B1, h1, w1⟩ := codeR_sound (n := n) hm hC x (LV.left hL) h
      have old : ∀ {G0 : Gh} {w0 : World} {G : Gh} {a : Act} {w : World} {G1 : Gh} {a1 : Act} {w1 : World}, Ext G0 w0 G w → (∀ d ∈ a.defers, ∃ D, d.target = .collected D ∧ w0.heap.size ≤ D) → Goes n G a w G1 B1 env1 a1 w1 → ∀ d ∈ a1.defers, ∃ D, d.target = .collected D ∧ w0.heap.size ≤ D := fun hx hd g d hdm => by
        rcases g.defers.1 d hdm with h | ⟨D, e1, e2⟩
        · exact hd d h
        · exact ⟨D, e1, Nat.le_trans hx.size e2⟩
      cases e with
      | normal =>
        simp only at h1
        rw [← nl_len] at h1
        obtain ⟨env', B', h2, k2⟩ := dfR_sound hm hC hclo y (LV.right hL) h1
        refine ⟨env', B', h2, fun fn R G0 w0 G a w hok hx hd hR => wpIn_seq (w1 none rfl G a w _ hok fun G1 a1 w1' x1 hx1 g => ?_)⟩
        cases hx1
        exact k2 fn R G0 w0 G1 a1 w1' g.ok (hx.trans g.ext) (old hx hd g) hR
      | ret =>
        refine ⟨env1, B1, h1, fun fn R G0 w0 G a w hok hx hd hR => wpIn_seq (w1 none rfl G a w _ hok fun G1 a1 w1' x1 hx1 g => ?_)⟩
        cases hx1
        have := leaveM (P := P) (fn := fn) (tm := a1.tmps) (R := R) (rest := []) (u := .returning) (G := G0) (G1 := G1) (w := w0) (B' := B1) (by simp) a1.defers w1' g.ok.w (hx.trans g.ext) (by rw [List.append_nil]; exact g.ok.marks) (old hx hd g) fun w3 hw3 hx3 _ => hR G1 a1.tmps w3 g.ok.env hw3 hx3
        rw [List.append_nil] at this
        exact this
      | exit id => cases h1
      | pan t => cases h1
  | .skip, _, _, _, _, h | .label _, _, _, _, _, h | .region .., _, _, _, _, h | .cond .., _, _, _, _, h | .block .., _, _, _, _, h | .scope _, _, _, _, _, h | .loop _, _, _, _, _, h | .rangeFunc .., _, _, _, _, h | .exit _, _, _, _, _, h | .ret, _, _, _, _, h => by simp [dfR] at h
def fnD (P : Program) (C : CalT) {X : Type} (n : Nat) (cops : Array Oper) (g0 : FuncId) (tw : TypeId) (nc nt : Nat) (Ls : List LoopT) (fn : Func) (c : Code) (args : List AVal) (B : Bx) (k : AVal → Bx → Option X) : Option X :=
  dfR P C n cops g0 tw nc nt c Ls (args ++ List.replicate (fn.ntmps - args.length) .any) B (endK P fn k .ret)
theorem fnD_sound {n : Nat} {P : Program} {C : CalT} {X : Type} {cid : Nat} {cops : Array Oper} {g0 : FuncId} {tw : TypeId} {nc nt : Nat} {Ls : List LoopT} {f : FuncId} {fn : Func} {c : Code} {args : List AVal} {B : Bx} {k : AVal → Bx → Option X} {r : X} (hm : P.follows .mixedOrders = true) (hf : P.funcs[f]? = some fn) (hb : fn.body = some c) (hent : Ent P f)
    (hC : CV P C) (hclo : CloOk P g0 (.region cid cops false) tw nc nt) (hL : LV n P false (loopsOf c) Ls) (h : fnD P C n cops g0 tw nc nt Ls fn c args B k = some r) : ∃ v B', k v B' = some r ∧ LCall 0 P f args B v B' := by
  unfold fnD at h
  obtain ⟨env, B', h1, hw1⟩ := dfR_sound hm hC hclo c hL h
  unfold endK at h1
  simp only at h1
  split at h1
  · rename_i l hl
    cases hp : (oneOf l).isPan with
    | true => rw [hp] at h1; cases h1
    | false =>
      rw [hp] at h1
      simp only [cond_false] at h1
      refine ⟨_, _, h1, .inr hent, fun G w vs hvs hw => Run.call hent.1 ((callsIn_wide (n := 0)).1 ?_)⟩
      refine callsIn_of_wp_marks hf hb trivial ?_
      have hlen := vals_len hvs
      have hok : Ok G B (args ++ List.replicate (fn.ntmps - args.length) .any) { tmps := vs.toArray ++ Array.replicate (fn.ntmps - vs.toArray.size) undef, defers := [] } w := by
        refine ⟨⟨by simp [hlen], fun t => ?_⟩, hw, trivial⟩
        rw [List.getD_eq_getElem?_getD, Array.getD_eq_getD_getElem?]
        simp only [List.size_toArray, ← hlen]
        by_cases ht : t < args.length
        · rw [List.getElem?_append_left ht, Array.getElem?_append_left (by simpa [← hlen] using ht), List.getElem?_eq_getElem ht]
          obtain ⟨v, hv1, hv2⟩ := vals_get hvs (List.getElem?_eq_getElem ht)
          simp only [Option.getD_some]
          have : vs.toArray[t]? = some v := by simpa using hv1
          rw [this]
          exact hv2
        · rw [List.getElem?_append_right (by omega)]
          have : ((List.replicate (fn.ntmps - args.length) AVal.any)[t - args.length]?).getD .any = .any := by
            cases hq : (List.replicate (fn.ntmps - args.length) AVal.any)[t - args.length]? with
            | none => rfl
            | some q =>
              have := List.mem_of_getElem? hq
              rw [List.mem_replicate] at this
              simp [this.2]
          rw [this]
          exact any_v _
      refine hw1 fn _ G w G _ w hok (Ext.refl _ _) (fun d hd => by cases hd) fun G1 tm w2 henv hw2 hx2 => ?_
      obtain ⟨rv, hr1, hr2⟩ := resA_run (P := P) hw2 henv hl
      have hres : ∃ cv, (results fn tm).run P w2 = .ok cv w2 ∧ Rv G1 B'.dead (oneOf l) cv := by
        rw [results_eq]
        have hmap : (fn.results.mapM (rvSem tm)).run P w2 = .ok rv.toArray w2 := by
          rw [Array.mapM_eq_mapM_toList]
          simp only [Sem.run_map, hr1, Result.andThen_ok]
        have hl2 := vals_len hr2
        refine ⟨if h : rv.toArray.size = 1 then rv.toArray[0] else .tuple rv.toArray, ?_, ?_⟩
        · rw [Sem.run_bind, hmap]
          rfl
        · match l, rv, hr2 with
          | [], [], .nil => exact leaf_v rfl ⟨[], rfl, rfl⟩
          | [v], [u], .cons hv .nil => exact hv
          | v1 :: v2 :: l, u1 :: u2 :: us, hv => exact leaf_v rfl ⟨_, by simp, chain_vals hv⟩
      obtain ⟨cv, hc1, hc2⟩ := hres
      exact ⟨cv, hc1, cv, G1, .of cv hp, hc2, hw2, hx2, fun i b hi => by omega⟩
  · cases h1
theorem frzD_lcall {n : Nat} {P : Program} {C : CalT} {cid : Nat} {cops : Array Oper} {g0 : FuncId} {tw : TypeId} {nc nt : Nat} {Ls : List LoopT} {g : FuncId} {fn : Func} {c : Code} {A : List PTy} {R : PTy} {f : Els A → Option R.El} (hm : P.follows .mixedOrders = true) (hf : P.funcs[g]? = some fn) (hb : fn.body = some c) (hent : Ent P g) (hC : CV P C)
    (hclo : CloOk P g0 (.region cid cops false) tw nc nt) (hL : LV n P false (loopsOf c) Ls) (hR : R.pure = true) (hev : ∀ x, fnD P C n cops g0 tw nc nt Ls fn c (encs A x) ⟨[], [], 0⟩ (frzV R) = f x) :
    ∀ x r, f x = some r → LCall 0 P g (encs A x) ⟨[], [], 0⟩ (R.enc r) ⟨[], [], 0⟩ := by
  intro x r hr
  obtain ⟨v, B', hk, hl⟩ := fnD_sound hm hf hb hent hC hclo hL ((hev x).trans hr)
  refine ⟨hl.1, fun G w vs hvs hw => (hl.2 G w vs hvs hw).mono ?_⟩
  rintro e w' ⟨cv, G1, hend, h1, h2, h3, h4⟩
  obtain ⟨G2, k1, k2, k3⟩ := seal_out hR hk h1 h2 h3
  exact ⟨cv, G2, frz_end hR hk hend, k1, k2, k3, fun i b hi => by omega⟩
end Go.Proofs.YtcijddeommognaaDoor.Abs
set_option linter.unusedVariables false
set_option linter.unusedSimpArgs false
namespace Go.Proofs.YtcijddeommognaaDoor.Abs
theorem new_rowF {G : Gh} {B : Bx} {w w' : World} {T : DTy} {xs : List T.El} {row : List Value} {cells : Array Value} {e : TypeId} {fr : Nat × Nat} {cap : Nat} (hw : WOk G B w) (hp : row <+: cells.toList) (hl : row.length = xs.length * T.sz) (hcap : xs.length ≤ cap)
    (hx : ∀ (i : Nat) (x : T.El), xs[i]? = some x → RD G.imm T x ((row.drop (i * T.sz)).take T.sz)) (hh : w'.heap = w.heap.push (.cells cells e fr)) (hos : w'.os = w.os) (htp : w'.tape = w.tape) (hou : w'.output = w.output) :
    ∃ G', Rv G' B.dead (.d (.list T) xs) (.slice (some ⟨w.heap.size, 0, none⟩) xs.length cap) ∧ WOk G' B w' ∧ GLe G B.dead G' B.dead ∧ Ext G w G' w' := by
  have hsz : w'.heap.size = w.heap.size + 1 := by rw [hh]; simp
  have hlt' : ∀ {b : Nat}, b < w.heap.size → w'.heap[b]? = w.heap[b]? := fun {b} hb => by
    rw [hh, Array.getElem?_push, if_neg (by omega)]
  have heq' : w'.heap[w.heap.size]? = some (.cells cells e fr) := by rw [hh]; simp
  have hno : G.imm w.heap.size = none := by
    cases hi : G.imm w.heap.size with
    | none => rfl
    | some row => have := hw.imm_lt hi; omega
  let G' : Gh := { G with imm := fun b => if b = w.heap.size then some row else G.imm b }
  have himm : ImmLe G.imm G'.imm := fun b r hb => by
    refine ⟨r, ?_, List.prefix_refl _⟩
    show (if b = w.heap.size then some row else G.imm b) = some r
    rw [if_neg (fun h => by subst h; rw [hno] at hb; cases hb)]
    exact hb
  have hle : GLe G B.dead G' B.dead := by
    refine ⟨himm, List.prefix_refl _, fun _ h => h, fun t b n ht h1 => ⟨h1, fun r h2 => ?_⟩⟩
    show (if b = w.heap.size then some row else G.imm b) = some r
    rw [if_neg (fun h => by subst h; rw [hno] at h2; cases h2)]
    exact h2
  have hself : G'.imm w.heap.size = some row := by simp [G']
  have hext : Ext G w G' w' := by
    refine ⟨hos, htp, hou, by omega, fun b hb _ _ => hlt' hb, himm, fun b hb _ => ?_, fun _ h => .inl h, fun t b n ht => .inl ⟨t, ht⟩⟩
    show (if b = w.heap.size then some row else G.imm b) = G.imm b
    rw [if_neg (by omega)]
  refine ⟨G', ?_, ?_, hle, hext⟩
  · exact leaf_v rfl ⟨_, cap, rfl, hcap, fun _ => ⟨w.heap.size, 0, row, rfl, hself, by omega, fun i x hi => by rw [Nat.zero_add]; exact (hx i x hi).mono himm⟩⟩
  · refine ⟨hw.len, hw.nodup, fun i b c hb hc => ?_, fun b r hb => ?_, fun b hb => ?_, fun t b n ht => ?_, hw.inj, hw.tab.ext hext, ?_⟩
    · have hbo := hw.boxes i b c hb hc
      obtain ⟨_, _, hh, _⟩ := id hbo
      exact hbo.mono hle (hlt' (heap_lt hh))
    · by_cases hbs : b = w.heap.size
      · subst hbs
        rw [hself] at hb
        cases hb
        exact ⟨cells, e, fr, heq', hp⟩
      · have hb' : G.imm b = some r := by
          have : (if b = w.heap.size then some row else G.imm b) = some r := hb
          rwa [if_neg hbs] at this
        obtain ⟨cs, e', fr, hh, hpp⟩ := hw.imm b r hb'
        exact ⟨cs, e', fr, by rw [hlt' (heap_lt hh)]; exact hh, hpp⟩
    · have := hw.addr_lt hb
      show (if b = w.heap.size then some row else G.imm b) = none
      rw [if_neg (by omega)]
      exact hw.disj b hb
    · obtain ⟨h1, h2, cs, e', h3, h4⟩ := hw.own t b n ht
      have hlt := heap_lt h3
      refine ⟨h1, h2.of ?_ fun i c k1 k2 => .inr ⟨i, c, k1, k2, fun h => h⟩, cs, e', by rw [hlt' hlt]; exact h3, h4.1, by show ByR (if b = w.heap.size then some row else G.imm b) e'; rw [if_neg (by omega)]; exact h4.2⟩
      show (if b = w.heap.size then some row else G.imm b) = G.imm b
      rw [if_neg (by omega)]
    · refine hw.vec.mono (fun _ _ _ _ hx => hx) (fun _ h => .inl h) (fun t b n _ h1 h2 => ?_) himm
      obtain ⟨_, _, cs, e', h3, _⟩ := hw.own t b n h1
      have hlt := heap_lt h3
      refine ⟨h1, ?_, hlt' hlt⟩
      show (if b = w.heap.size then some row else G.imm b) = none
      rw [if_neg (by omega)]
      exact h2
def tailC : Nat → Code → Code
  | n + 1, .seq _ b => tailC n b
  | _, c => c
def seq1 : Code → Code
  | .seq a _ => a
  | c => c
def seq2 : Code → Code
  | .seq _ b => b
  | c => c
def SpoilOk (P : Program) (c1 c2 : Code) (nt ts ti td tb : Tmp) (touched : List Tmp) (g : Int → Int) : Prop :=
  ∀ (a : Act) (w : World) (s : ByteArray) (i d : Int) (c : Code) (Q : Exit → Act → World → Prop), nt < a.tmps.size → a.tmps.getD ts undef = .string s → a.tmps.getD ti undef = .int .i64 i → a.tmps.getD td undef = .int .i64 d → 0 ≤ i → i < (s.size : Int) →
    (∀ (a' : Act) (w' : World) (C : Array Value) (e : TypeId) (fr : Nat × Nat) (cap : Nat), a'.defers = a.defers → a'.tmps.size = a.tmps.size → (∀ t, t ∉ tb :: touched → a'.tmps.getD t undef = a.tmps.getD t undef) → (tb < a.tmps.size → a'.tmps.getD tb undef = .slice (some ⟨w.heap.size, 0, none⟩) s.size cap) → s.size ≤ cap →
      w'.heap = w.heap.push (.cells C e fr) → w'.os = w.os → w'.tape = w.tape → w'.output = w.output → (((bytesI s).set i.toNat (g d)).map (Value.int .u8)) <+: C.toList → c.wpIn Fence.wide 0 P Q a' w') →
    (Code.seq c1 (.seq c2 c)).wpIn Fence.wide 0 P Q a w
def spoilEnv (env : List AVal) (tb : Tmp) (touched : List Tmp) (xs : List Int) : List AVal :=
  (touched.foldl (fun (e : List AVal) t => e.set t .any) env).set tb (.d (.list (.int .u8)) xs)
theorem foldl_set_len : ∀ (ts : List Tmp) (env : List AVal), (ts.foldl (fun (e : List AVal) t => e.set t .any) env).length = env.length
  | [], _ => rfl
  | t :: ts, env => by rw [List.foldl_cons, foldl_set_len ts]; simp
theorem foldl_set_get : ∀ (ts : List Tmp) (env : List AVal) (t : Nat), (ts.foldl (fun (e : List AVal) t => e.set t .any) env).getD t .any = (if t ∈ ts then .any else env.getD t .any)
  | [], _, _ => by simp
  | u :: ts, env, t => by
    rw [List.foldl_cons, foldl_set_get ts]
    by_cases h : t ∈ ts
    · rw [if_pos h, if_pos (List.mem_cons_of_mem _ h)]
    · rw [if_neg h]
      by_cases h2 : t = u
      · subst h2
        rw [if_pos List.mem_cons_self, List.getD_eq_getElem?_getD, List.getElem?_set]
        by_cases h3 : t < env.length <;> simp [h3]
      · rw [if_neg (by simp [h, h2]), List.getD_eq_getElem?_getD, List.getD_eq_getElem?_getD, List.getElem?_set_ne (Ne.symm h2)]
def codeT (P : Program) (C : CalT) {X : Type} (nt ts ti td tb : Tmp) (touched : List Tmp) (g : Int → Int) : Nat → Code → List LoopT → List AVal → Bx → (AExit → List AVal → Bx → Option X) → Option X
  | n + 1, .seq a b, Ls, env, B, k => codeR P C a Ls env B fun e env' B' => match e with
    | .normal => codeT P C nt ts ti td tb touched g n b (Ls.drop (nl a)) env' B' k
    | e => k e env' B'
  | 0, .seq a (.seq b c), Ls, env, B, k => match env.getD ts .any with
    | .d .str s => match env.getD ti .any with
      | .d (.int .i64) i => match env.getD td .any with
        | .d (.int .i64) d => bif decide ((0 : Int) ≤ i) && decide (i < (ByteArray.size s : Int)) && decide (tb < env.length) && decide (nt < env.length) then
            codeR P C c ((Ls.drop (nl a)).drop (nl b)) (spoilEnv env tb touched ((bytesI s).set (Int.toNat i) (g d))) B k else none
        | _ => none
      | _ => none
    | _ => none
  | _, _, _, _, _, _ => none
theorem bytesI_len (s : ByteArray) : (bytesI s).length = s.size := by simp [bytesI]
theorem codeT_sound {P : Program} {C : CalT} {X : Type} {r : X} {nt ts ti td tb : Tmp} {touched : List Tmp} {g : Int → Int} (hm : P.follows .mixedOrders = true) (hC : CV P C) : (n : Nat) → (c : Code) → {Ls : List LoopT} → {env : List AVal} → {B : Bx} → {k : AExit → List AVal → Bx → Option X} →
    SpoilOk P (seq1 (tailC n c)) (seq1 (seq2 (tailC n c))) nt ts ti td tb touched g → LV 0 P false (loopsOf c) Ls → codeT P C nt ts ti td tb touched g n c Ls env B k = some r →
    ∃ e env' B', k e env' B' = some r ∧ AW 0 P c env B e env' B' false
  | n + 1, .seq x y, Ls, env, B, k, hs, hL, h => by
    simp only [codeT] at h
    obtain ⟨e, env1, B1, h1, w1⟩ := codeR_sound hm hC x (LV.left hL) h
    cases e with
    | normal =>
      simp only at h1
      obtain ⟨e2, env2, B2, h2, w2⟩ := codeT_sound hm hC n y hs (by have := LV.right hL; rwa [nl_len] at this) h1
      refine ⟨e2, env2, B2, h2, fun ro hro G a w Q hok hQ => wpIn_seq (w1 ro hro G a w _ hok fun G1 a1 w1' x hx g1 => ?_)⟩
      cases hx
      exact w2 ro hro G1 a1 w1' Q g1.ok fun G2 a2 w2' x hx g2 => hQ G2 a2 w2' x hx (g1.trans g2)
    | ret =>
      refine ⟨.ret, env1, B1, h1, fun ro hro G a w Q hok hQ => wpIn_seq (w1 ro hro G a w _ hok fun G1 a1 w1' x hx g1 => ?_)⟩
      cases hx
      exact hQ G1 a1 w1' _ rfl g1
    | exit id =>
      refine ⟨.exit id, env1, B1, h1, fun ro hro G a w Q hok hQ => wpIn_seq (w1 ro hro G a w _ hok fun G1 a1 w1' x hx g1 => ?_)⟩
      cases hx
      exact hQ G1 a1 w1' _ rfl g1
    | pan t =>
      refine ⟨.pan t, env1, B1, h1, fun ro hro G a w Q hok hQ => wpIn_seq (w1 ro hro G a w _ hok fun G1 a1 w1' x hx g1 => ?_)⟩
      obtain ⟨pv, rfl⟩ := hx
      exact hQ G1 a1 w1' _ ⟨pv, rfl⟩ g1
  | 0, .seq x (.seq y c), Ls, env, B, k, hs, hL, h => by
    simp only [codeT] at h
    split at h
    · rename_i s es
      split at h
      · rename_i i ei
        split at h
        · rename_i d ed
          cases hb : decide ((0 : Int) ≤ i) && decide ((i : Int) < (ByteArray.size s : Int)) && decide (tb < env.length) && decide (nt < env.length) with
          | false => rw [hb] at h; cases h
          | true =>
            rw [hb] at h
            simp only [cond_true] at h
            simp only [Bool.and_eq_true, decide_eq_true_eq] at hb
            obtain ⟨⟨⟨h0, hi⟩, htb⟩, hnt⟩ := hb
            have hLr : LV 0 P false (loopsOf c) ((Ls.drop (nl x)).drop (nl y)) := by
              have h1 := LV.right (cs := loopsOf x) (ds := loopsOf (.seq y c)) hL
              rw [nl_len] at h1
              have h2 := LV.right (cs := loopsOf y) (ds := loopsOf c) h1
              rwa [nl_len] at h2
            obtain ⟨e2, env2, B2, h2, w2⟩ := codeR_sound hm hC c hLr h
            refine ⟨e2, env2, B2, h2, fun ro hro G a w Q hok hQ => ?_⟩
            have hro' : ro = none := by cases ro <;> simp_all
            subst hro'
            have v1 := hok.env.val ts
            rw [es] at v1
            have v2 := hok.env.val ti
            rw [ei] at v2
            have v3 := hok.env.val td
            rw [ed] at v3
            refine hs a w s i d c Q (by rw [hok.env.len]; exact hnt) (str_form v1) (int_form v2) (int_form v3) h0 hi fun a' w' Cs e fr cap q1 q2 q3 q4 q5 q6 q7 q8 q9 q10 => ?_
            have hlen := hok.env.len
            have hxl : ((bytesI s).set (Int.toNat i) (g d)).length = s.size := by rw [List.length_set, bytesI_len]
            obtain ⟨G', k1, k2, k3, k4⟩ := new_rowF (T := .int .u8) (xs := (bytesI s).set (Int.toNat i) (g d)) (cap := cap) hok.w q10 (by simp [DTy.sz]) (by rw [hxl]; exact q5) (fun j x hj => by
              obtain ⟨hl, hx⟩ := List.getElem?_eq_some_iff.1 hj
              show ((List.map (Value.int .u8) _).drop (j * 1)).take 1 = [.int .u8 x]
              rw [Nat.mul_one, List.drop_eq_getElem_cons (by rw [List.length_map]; exact hl), List.take_succ_cons, List.take_zero, List.getElem_map, hx]) q6 q7 q8 q9
            rw [hxl] at k1
            have hok1 : Ok G' B (spoilEnv env tb touched ((bytesI s).set (Int.toNat i) (g d))) a' w' := by
              refine ⟨⟨?_, fun t => ?_⟩, k2, by rw [q1]; exact hok.marks.ext k4⟩
              · rw [q2, hlen]; unfold spoilEnv; rw [List.length_set, foldl_set_len]
              · unfold spoilEnv
                by_cases h1 : t = tb
                · subst h1
                  rw [List.getD_eq_getElem?_getD, List.getElem?_set_self (by rw [foldl_set_len]; exact htb), q4 (by rw [hlen]; exact htb)]
                  exact k1
                · rw [List.getD_eq_getElem?_getD, List.getElem?_set_ne (Ne.symm h1), ← List.getD_eq_getElem?_getD, foldl_set_get]
                  by_cases h2 : t ∈ touched
                  · rw [if_pos h2]; exact any_v _
                  · rw [if_neg h2, q3 t (by simp [h1, h2])]
                    exact (hok.env.mono k3).val t
            have g1 : Goes 0 G a w G' B (spoilEnv env tb touched ((bytesI s).set (Int.toNat i) (g d))) a' w' := ⟨hok1, k4, ⟨fun d hd => .inl (by rw [q1] at hd; exact hd), by rw [q1]⟩, fun i b hi => by omega⟩
            exact w2 none rfl G' a' w' Q hok1 fun G2 a2 w2' x hx g2 => hQ G2 a2 w2' x hx (g1.trans g2)
        · cases h
      · cases h
    · cases h
  | 0, .skip, _, _, _, _, _, _, h | 0, .label _, _, _, _, _, _, _, h | 0, .region .., _, _, _, _, _, _, h | 0, .cond .., _, _, _, _, _, _, h | 0, .block .., _, _, _, _, _, _, h | 0, .scope _, _, _, _, _, _, _, h | 0, .loop _, _, _, _, _, _, _, h | 0, .rangeFunc .., _, _, _, _, _, _, h | 0, .exit _, _, _, _, _, _, _, h | 0, .ret, _, _, _, _, _, _, h | 0, .goto _, _, _, _, _, _, _, h | 0, .refuse _, _, _, _, _, _, _, h => by simp [codeT] at h
  | n + 1, .skip, _, _, _, _, _, _, h | n + 1, .label _, _, _, _, _, _, _, h | n + 1, .region .., _, _, _, _, _, _, h | n + 1, .cond .., _, _, _, _, _, _, h | n + 1, .block .., _, _, _, _, _, _, h | n + 1, .scope _, _, _, _, _, _, _, h | n + 1, .loop _, _, _, _, _, _, _, h | n + 1, .rangeFunc .., _, _, _, _, _, _, h | n + 1, .exit _, _, _, _, _, _, _, h | n + 1, .ret, _, _, _, _, _, _, h | n + 1, .goto _, _, _, _, _, _, _, h | n + 1, .refuse _, _, _, _, _, _, _, h => by simp [codeT] at h
  | 0, .seq _ .skip, _, _, _, _, _, _, h | 0, .seq _ (.label _), _, _, _, _, _, _, h | 0, .seq _ (.region ..), _, _, _, _, _, _, h | 0, .seq _ (.cond ..), _, _, _, _, _, _, h | 0, .seq _ (.block ..), _, _, _, _, _, _, h | 0, .seq _ (.scope _), _, _, _, _, _, _, h | 0, .seq _ (.loop _), _, _, _, _, _, _, h | 0, .seq _ (.rangeFunc ..), _, _, _, _, _, _, h | 0, .seq _ (.exit _), _, _, _, _, _, _, h | 0, .seq _ .ret, _, _, _, _, _, _, h | 0, .seq _ (.goto _), _, _, _, _, _, _, h | 0, .seq _ (.refuse _), _, _, _, _, _, _, h => by simp [codeT] at h
theorem spoil_step {P : Program} {ops : Array Oper} {o : Oper} {rest : List Oper} {tm : Array Value} {ds : List Deferred} {w w' : World} {Q : Exit → Act → World → Prop} {v : Value} (hg : o.guard = none) (hrun : (execOp (Act.eval ⟨tm, ds⟩) o).run P w = .ok (.value v) w')
    (h : wpListIn Fence.wide 0 P ops Q rest (Act.put ⟨tm, ds⟩ o.dst v) w') : wpListIn Fence.wide 0 P ops Q (o :: rest) ⟨tm, ds⟩ w := by
  unfold wpListIn
  rw [if_pos (by unfold Region.wanted; rw [hg])]
  exact wp_of_run hrun h none
theorem spoil_skip {P : Program} {ops : Array Oper} {o : Oper} {rest : List Oper} {tm : Array Value} {ds : List Deferred} {w w' : World} {Q : Exit → Act → World → Prop} (hg : o.guard = none) (hrun : (execOp (Act.eval ⟨tm, ds⟩) o).run P w = .ok .skip w')
    (h : wpListIn Fence.wide 0 P ops Q rest (Act.put ⟨tm, ds⟩ o.dst undef) w') : wpListIn Fence.wide 0 P ops Q (o :: rest) ⟨tm, ds⟩ w := by
  unfold wpListIn
  rw [if_pos (by unfold Region.wanted; rw [hg])]
  exact wp_of_skip hrun h none
def fnT (P : Program) (C : CalT) {X : Type} (nt ts ti td tb : Tmp) (touched : List Tmp) (g : Int → Int) (n : Nat) (Ls : List LoopT) (fn : Func) (c : Code) (args : List AVal) (B : Bx) (k : AVal → Bx → Option X) : Option X :=
  codeT P C nt ts ti td tb touched g n c Ls (args ++ List.replicate (fn.ntmps - args.length) .any) B (endK P fn k)
theorem frzT_lcall {P : Program} {C : CalT} {Ls : List LoopT} {nt ts ti td tb : Tmp} {touched : List Tmp} {sg : Int → Int} {n : Nat} {g : FuncId} {fn : Func} {c : Code} {A : List PTy} {R : PTy} {f : Els A → Option R.El} (hm : P.follows .mixedOrders = true) (hf : P.funcs[g]? = some fn) (hb : fn.body = some c) (hent : Ent P g) (hC : CV P C)
    (hs : SpoilOk P (seq1 (tailC n c)) (seq1 (seq2 (tailC n c))) nt ts ti td tb touched sg) (hL : LV 0 P false (loopsOf c) Ls) (hR : R.pure = true) (hev : ∀ x, fnT P C nt ts ti td tb touched sg n Ls fn c (encs A x) ⟨[], [], 0⟩ (frzV R) = f x) :
    ∀ x r, f x = some r → LCall 0 P g (encs A x) ⟨[], [], 0⟩ (R.enc r) ⟨[], [], 0⟩ := by
  intro x r hr
  have h := (hev x).trans hr
  unfold fnT at h
  obtain ⟨e, env, B', h1, w1⟩ := codeT_sound hm hC n c hs hL h
  obtain ⟨v, B', hk, hl⟩ := body_lcall hf hb hent w1 h1
  refine ⟨hl.1, fun G w vs hvs hw => (hl.2 G w vs hvs hw).mono ?_⟩
  rintro e w' ⟨cv, G1, hend, h1, h2, h3, h4⟩
  obtain ⟨G2, k1, k2, k3⟩ := seal_out hR hk h1 h2 h3
  exact ⟨cv, G2, frz_end hR hk hend, k1, k2, k3, fun i b hi => by omega⟩
end Go.Proofs.YtcijddeommognaaDoor.Abs
set_option linter.unusedVariables false
set_option linter.unusedSimpArgs false
namespace Go.Proofs.YtcijddeommognaaDoor.Abs
def unitF {B : Type} : Option (Unit ⊕ B) → Option Unit
  | some (.inl _) => some ()
  | _ => none
theorem unitF_spec {B : Type} {v : Option (Unit ⊕ B)} {u : Unit} (h : unitF v = some u) : v = some (.inl ()) := by
  unfold unitF at h
  split at h
  · rfl
  · cases h
def panK {X : Type} (A : List PTy) (t : TypeId) (R : PTy) (f : Els A → Option (Unit ⊕ R.El)) (args : List AVal) (B : Bx) (k : AVal → Bx → Option X) : Option X :=
  bif args.length == A.length then match decs A args with
    | some x => match f x.1 with
      | some (.inl _) => k (.pan t) B
      | some (.inr r) => k (R.enc r) B
      | none => none
    | none => none
  else none
def panE (g : FuncId) (A : List PTy) (t : TypeId) (R : PTy) (f : Els A → Option (Unit ⊕ R.El)) : CEnt := ⟨g, fun args B => fits (pureS A R) args B, fun _ args B k => panK A t R f args B k, true, true⟩
theorem panK_spec {X : Type} {A : List PTy} {t : TypeId} {R : PTy} {f : Els A → Option (Unit ⊕ R.El)} {args : List AVal} {B : Bx} {k : AVal → Bx → Option X} {res : X} (h : panK A t R f args B k = some res) :
    pureK A (.fix (.pan t)) (fun x => unitF (f x)) args B k = some res ∨ pureK A R (fun x => inrF (f x)) args B k = some res := by
  unfold panK at h
  unfold pureK
  cases hb : args.length == A.length with
  | false => rw [hb] at h; cases h
  | true =>
    rw [hb] at h
    simp only [cond_true] at h ⊢
    split at h
    · rename_i x hd
      split at h
      · rename_i u hf
        left
        rw [hd]
        simp only [hf, unitF, Option.bind_some]
        exact h
      · rename_i q hf
        right
        rw [hd]
        simp only [hf, inrF, Option.bind_some]
        exact h
      · cases h
    · cases h
theorem panE_valid {P : Program} {g : FuncId} {A : List PTy} {t : TypeId} {R : PTy} {f : Els A → Option (Unit ⊕ R.El)} (hA : A.all PTy.pure = true) (hR : R.pure = true) (hp : (PTy.fix (.pan t)).pure = true) (hent : Ent P g)
    (hcall : (∀ x, f x = some (.inl ()) → LCall 0 P g (encs A x) ⟨[], [], 0⟩ (.pan t) ⟨[], [], 0⟩) ∧ (∀ x r, f x = some (.inr r) → LCall 0 P g (encs A x) ⟨[], [], 0⟩ (R.enc r) ⟨[], [], 0⟩)) : (panE g A t R f).Valid P := by
  intro X args B k r h
  rcases panK_spec h with h | h
  · exact pureE_valid (R := .fix (.pan t)) hA hp hent (fun x r hr => hcall.1 x (unitF_spec hr)) X args B k r h
  · exact pureE_valid hA hR hent (fun x r hr => hcall.2 x r (inrF_spec hr)) X args B k r h
def frzP (t : TypeId) (R : PTy) (v : AVal) (B : Bx) : Option (Unit ⊕ R.El) :=
  match v with
  | .pan t' => bif t' == t then some (.inl ()) else none
  | v => match frzV R v B with
    | some r => some (.inr r)
    | none => none
theorem frzP_lcall {P : Program} {C : CalT} {Ls : List LoopT} {g : FuncId} {fn : Func} {c : Code} {A : List PTy} {t : TypeId} {R : PTy} {f : Els A → Option (Unit ⊕ R.El)} (hm : P.follows .mixedOrders = true) (hf : P.funcs[g]? = some fn) (hb : fn.body = some c) (hent : Ent P g) (hC : CV P C)
    (hL : LV 0 P false (loopsOf c) Ls) (hR : R.pure = true) (hp : (PTy.fix (.pan t)).pure = true) (hev : ∀ x, fnR P C Ls fn c (encs A x) ⟨[], [], 0⟩ (frzP t R) = f x) :
    (∀ x, f x = some (.inl ()) → LCall 0 P g (encs A x) ⟨[], [], 0⟩ (.pan t) ⟨[], [], 0⟩) ∧ (∀ x r, f x = some (.inr r) → LCall 0 P g (encs A x) ⟨[], [], 0⟩ (R.enc r) ⟨[], [], 0⟩) := by
  refine ⟨fun x hr => ?_, fun x r hr => ?_⟩
  · obtain ⟨v, B', hk, hl⟩ := fnR_sound (n := 0) hm hf hb hent hC hL ((hev x).trans hr)
    have hv : v = .pan t := by
      unfold frzP at hk
      split at hk
      · rename_i t'
        cases ht : t' == t with
        | false => rw [ht] at hk; cases hk
        | true => rw [beq_iff_eq.1 ht]
      · split at hk <;> cases hk
    subst hv
    have hk2 : frzV (.fix (.pan t)) (.pan t) B' = some () := by
      unfold frzV
      have h1 : (vecA B' (.pan t)) = (true, .pan t) := rfl
      have h2 : ∃ y, PTy.dec (.fix (.pan t)) (.pan t) = some y := by simp [PTy.dec, sameA]
      obtain ⟨y, h2⟩ := h2
      rw [h1]
      simp only [h2, cond_true]
    refine ⟨hl.1, fun G w vs hvs hw => (hl.2 G w vs hvs hw).mono ?_⟩
    rintro e w' ⟨cv, G1, hend, h1, h2, h3, h4⟩
    obtain ⟨G2, k1, k2, k3⟩ := seal_out hp hk2 h1 h2 h3
    exact ⟨cv, G2, hend, k1, k2, k3, fun i b hi => by omega⟩
  · obtain ⟨v, B', hk, hl⟩ := fnR_sound (n := 0) hm hf hb hent hC hL ((hev x).trans hr)
    have hk2 : frzV R v B' = some r := by
      unfold frzP at hk
      split at hk
      · simp only [cond_eq_ite] at hk
        split at hk <;> cases hk
      · split at hk
        · rename_i y hy
          simp only [Option.some.injEq, Sum.inr.injEq] at hk
          rw [hy, hk]
        · cases hk
    refine ⟨hl.1, fun G w vs hvs hw => (hl.2 G w vs hvs hw).mono ?_⟩
    rintro e w' ⟨cv, G1, hend, h1, h2, h3, h4⟩
    obtain ⟨G2, k1, k2, k3⟩ := seal_out hR hk2 h1 h2 h3
    exact ⟨cv, G2, frz_end hR hk2 hend, k1, k2, k3, fun i b hi => by omega⟩
end Go.Proofs.YtcijddeommognaaDoor.Abs
