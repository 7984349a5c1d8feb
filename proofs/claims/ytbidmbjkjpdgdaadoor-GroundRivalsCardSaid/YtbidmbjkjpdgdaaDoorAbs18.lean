/-
  The abstract semantics, eighteenth part: code, functions.
-/
import Derived.Test.YtbidmbjkjpdgdaaDoorAbs17
import Derived.Scope
set_option linter.unusedVariables false
set_option linter.unusedSimpArgs false
namespace Go.Proofs.YtbidmbjkjpdgdaaDoor.Abs

inductive AExit where
  | normal
  | exit (id : Nat)
  | ret

def AExit.real : AExit → Exit
  | .normal => .normal
  | .exit id => .exit id
  | .ret => .ret

/-- What is known of a loop. -/
structure LoopT where
  run : (X : Type) → List AVal → Bx → (AExit → List AVal → Bx → Option X) → Option X

def nl : Code → Nat
  | .seq a b => nl a + nl b
  | .cond _ x y => nl x + nl y
  | .block _ c => nl c
  | .scope c => nl c
  | .loop _ => 1
  | .rangeFunc .. => 1
  | _ => 0
theorem nl_len : (c : Code) → (loopsOf c).length = nl c
  | .seq a b => by simp [loopsOf, nl, nl_len a, nl_len b]
  | .cond _ x y => by simp [loopsOf, nl, nl_len x, nl_len y]
  | .block _ c => by simp [loopsOf, nl, nl_len c]
  | .scope c => by simp [loopsOf, nl, nl_len c]
  | .loop c => rfl
  | .rangeFunc f ps a b => rfl
  | .skip | .region .. | .exit _ | .label _ | .goto _ | .ret | .refuse _ => rfl

def blockK {X : Type} (id : Nat) (k : AExit → List AVal → Bx → Option X) : AExit → List AVal → Bx → Option X
  | .exit i, env, B => bif i == id then k .normal env B else k (.exit i) env B
  | e, env, B => k e env B

theorem stepR_scope {P : Program} {b : Frame} {a : Act} {k : List Item} {cs : List Frame} {w : World} {c : Code} : step P (lone (b.atR a (.code (.scope c) :: k)) cs w) = .next (lone (b.atR a (.code c :: .inScope c :: k)) cs w) :=
  step_lone_go (by simp [stepG, stepG.exec, Frame.atR])
theorem stepR_inScope {P : Program} {b : Frame} {a : Act} {k : List Item} {cs : List Frame} {w : World} {c : Code} : step P (lone (b.atR a (.inScope c :: k)) cs w) = .next (lone (b.atR a k) cs w) :=
  step_lone_go (by simp [stepG, stepG.exec, Frame.atR])
theorem wpIn_scope_straight {F : Fence} {n : Nat} {P : Program} {Q : Exit → Act → World → Prop} {a : Act} {w : World} {c : Code} (h : c.wpIn F n P (Exit.noGoto Q) a w) : (Code.scope c).wpIn F n P Q a w := by
  intro b k cs hro hb hr
  have h0 : (lone (b.atR a (.code (.scope c) :: k)) cs w).fenced P F := fenced_calm hb hr rfl
  obtain ⟨e, a₁, w₁, hq, harr⟩ := h b (.inScope c :: k) cs hro hb hr
  have hx : ∀ id, exitTo id (.inScope c :: k) = exitTo id k := fun id => by simp [exitTo]
  cases e with
  | normal => exact ⟨.normal, a₁, w₁, hq, .head h0 stepR_scope (StepsIn.trans harr (.one (fenced_calm hb hr rfl) stepR_inScope))⟩
  | exit id => exact ⟨.exit id, a₁, w₁, hq, fun k' hk => .head h0 stepR_scope (harr.1 k' (by rw [hx]; exact hk)),
      fun hr' hk => let ⟨k₁, h1, h2⟩ := harr.2 hr' (by rw [hx]; exact hk); ⟨k₁, h1, .head h0 stepR_scope h2⟩⟩
  | goto l => exact hq.elim
  | ret => exact ⟨_, a₁, w₁, hq, .of_steps (.one h0 stepR_scope) harr⟩
  | panic ch => exact ⟨_, a₁, w₁, hq, .of_steps (.one h0 stepR_scope) harr⟩
  | outgrown => exact ⟨_, a₁, w₁, hq, .of_steps (.one h0 stepR_scope) harr⟩

/-- What code does. -/
def codeR (P : Program) (C : CalT) {X : Type} : Code → List LoopT → List AVal → Bx → (AExit → List AVal → Bx → Option X) → Option X
  | .skip, _, env, B, k => k .normal env B
  | .label _, _, env, B, k => k .normal env B
  | .region _ ops draw, _, env, B, k => regR P (bif draw then C.drawn else C) ops ops.toList env B fun env' B' => bif draw && !drawOk C.drawn ops env.length B.box.length env' then none else k .normal env' B'
  | .seq a b, Ls, env, B, k => codeR P C a Ls env B fun e env' B' => match e with
    | .normal => codeR P C b (Ls.drop (nl a)) env' B' k
    | e => k e env' B'
  | .cond c x y, Ls, env, B, k => match opA env c with
    | .d .bool t => bif t then codeR P C x Ls env B k else codeR P C y (Ls.drop (nl x)) env B k
    | _ => none
  | .block id c, Ls, env, B, k => codeR P C c Ls env B (blockK id k)
  | .scope c, Ls, env, B, k => codeR P C c Ls env B k
  | .loop _, Ls, env, B, k => match Ls with
    | L :: _ => L.run X env B k
    | [] => none
  | .rangeFunc _ _ _ _, Ls, env, B, k => match Ls with
    | L :: _ => L.run X env B k
    | [] => none
  | .exit id, _, env, B, k => k (.exit id) env B
  | .ret, _, env, B, k => k .ret env B
  | _, _, _, _, _ => none

/-- Code that comes from an abstract state to another one. -/
def AW (n : Nat) (P : Program) (c : Code) (env : List AVal) (B : Bx) (e : AExit) (env' : List AVal) (B' : Bx) (rd : Bool := false) : Prop :=
  ∀ (r : Option Nat), r.isSome = rd → ∀ (G : Gh) (a : Act) (w : World) (Q : Exit → Act → World → Prop), Ok G B env a w → (∀ G1 a1 w1, Goes n G a w G1 B' env' a1 w1 → Q e.real a1 w1) → c.wpIn (Fr r) 0 P Q a w

def LValid (n : Nat) (P : Program) (c : Code) (L : LoopT) (rd : Bool := false) : Prop := ∀ X env B k r, L.run X env B k = some r → ∃ e env' B', k e env' B' = some r ∧ AW n P c env B e env' B' rd
def LV (n : Nat) (P : Program) (rd : Bool) : List Code → List LoopT → Prop
  | c :: cs, L :: Ls => LValid n P c L rd ∧ LV n P rd cs Ls
  | _, _ => True
theorem LV.left {n : Nat} {P : Program} {rd : Bool} : {cs ds : List Code} → {Ls : List LoopT} → LV n P rd (cs ++ ds) Ls → LV n P rd cs Ls
  | [], _, _, _ => by unfold LV; trivial
  | c :: cs, ds, [], _ => by unfold LV; trivial
  | c :: cs, ds, L :: Ls, h => ⟨h.1, LV.left h.2⟩
theorem LV.right {n : Nat} {P : Program} {rd : Bool} : {cs ds : List Code} → {Ls : List LoopT} → LV n P rd (cs ++ ds) Ls → LV n P rd ds (Ls.drop cs.length)
  | [], _, _, h => h
  | c :: cs, ds, [], _ => by simp; cases ds <;> trivial
  | c :: cs, ds, L :: Ls, h => by simpa using LV.right h.2

theorem codeR_sound {n : Nat} {P : Program} {rd : Bool} {C : CalT} {X : Type} {r : X} (hm : P.follows .mixedOrders = true) (hC : CV P C) : (c : Code) → {Ls : List LoopT} → {env : List AVal} → {B : Bx} → {k : AExit → List AVal → Bx → Option X} → LV n P rd (loopsOf c) Ls → codeR P C c Ls env B k = some r →
    ∃ e env' B', k e env' B' = some r ∧ AW n P c env B e env' B' rd
  | .skip, Ls, env, B, k, _, h => ⟨.normal, env, B, h, fun ro hro G a w Q hok hQ => wpIn_skip (hQ G a w (Goes.refl hok))⟩
  | .label _, Ls, env, B, k, _, h => ⟨.normal, env, B, h, fun ro hro G a w Q hok hQ => wpIn_label (hQ G a w (Goes.refl hok))⟩
  | .region id ops draw, Ls, env, B, k, _, h => by
    simp only [codeR] at h
    obtain ⟨env', B', ht, hk⟩ := regR_tr (C := bif draw then C.drawn else C) (by cases draw with | true => exact hC.drawn | false => exact hC) h
    cases hb : draw && !drawOk C.drawn ops env.length B.box.length env' with
    | true => rw [hb] at hk; cases hk
    | false =>
      rw [hb] at hk
      simp only [cond_false] at hk
      refine ⟨.normal, env', B', hk, fun ro hro G a w Q hok hQ => ?_⟩
      cases draw with
      | false => exact wpIn_region_list (tr_list ht ro hok hQ)
      | true => exact draw_sound hm (by simpa using hb) ht ro hok hQ
  | .seq x y, Ls, env, B, k, hL, h => by
    simp only [codeR] at h
    obtain ⟨e, env1, B1, h1, w1⟩ := codeR_sound hm hC x (LV.left hL) h
    cases e with
    | normal =>
      simp only at h1
      obtain ⟨e2, env2, B2, h2, w2⟩ := codeR_sound hm hC y (by have := LV.right hL; rwa [nl_len] at this) h1
      refine ⟨e2, env2, B2, h2, fun ro hro G a w Q hok hQ => wpIn_seq (w1 ro hro G a w _ hok fun G1 a1 w1' g1 => ?_)⟩
      exact w2 ro hro G1 a1 w1' Q g1.ok fun G2 a2 w2' g2 => hQ G2 a2 w2' (g1.trans g2)
    | exit id => exact ⟨.exit id, env1, B1, h1, fun ro hro G a w Q hok hQ => wpIn_seq (w1 ro hro G a w _ hok fun G1 a1 w1' g1 => hQ G1 a1 w1' g1)⟩
    | ret => exact ⟨.ret, env1, B1, h1, fun ro hro G a w Q hok hQ => wpIn_seq (w1 ro hro G a w _ hok fun G1 a1 w1' g1 => hQ G1 a1 w1' g1)⟩
  | .cond c x y, Ls, env, B, k, hL, h => by
    simp only [codeR] at h
    split at h
    · rename_i t ht
      cases t with
      | true =>
        obtain ⟨e, env1, B1, h1, w1⟩ := codeR_sound hm hC x (LV.left hL) h
        refine ⟨e, env1, B1, h1, fun ro hro G a w Q hok hQ => wpIn_cond_true ?_ (w1 ro hro G a w Q hok hQ)⟩
        have := hok.env.op c
        rw [ht] at this
        exact bool_form this
      | false =>
        obtain ⟨e, env1, B1, h1, w1⟩ := codeR_sound hm hC y (by have := LV.right hL; rwa [nl_len] at this) h
        refine ⟨e, env1, B1, h1, fun ro hro G a w Q hok hQ => wpIn_cond_false ?_ (w1 ro hro G a w Q hok hQ)⟩
        have := hok.env.op c
        rw [ht] at this
        exact bool_form this
    · cases h
  | .block id c, Ls, env, B, k, hL, h => by
    simp only [codeR] at h
    obtain ⟨e, env1, B1, h1, w1⟩ := codeR_sound hm hC c hL h
    cases e with
    | normal => exact ⟨.normal, env1, B1, h1, fun ro hro G a w Q hok hQ => wpIn_block (w1 ro hro G a w _ hok fun G1 a1 w1' g1 => hQ G1 a1 w1' g1)⟩
    | ret => exact ⟨.ret, env1, B1, h1, fun ro hro G a w Q hok hQ => wpIn_block (w1 ro hro G a w _ hok fun G1 a1 w1' g1 => hQ G1 a1 w1' g1)⟩
    | exit i =>
      simp only [blockK] at h1
      by_cases hi : i = id
      · simp only [hi, beq_self_eq_true, cond_true] at h1
        exact ⟨.normal, env1, B1, h1, fun ro hro G a w Q hok hQ => wpIn_block (w1 ro hro G a w _ hok fun G1 a1 w1' g1 => by
          simp only [AExit.real, Exit.inBlock, hi, if_true]
          exact hQ G1 a1 w1' g1)⟩
      · have hb : (i == id) = false := by simpa using hi
        simp only [hb, cond_false] at h1
        exact ⟨.exit i, env1, B1, h1, fun ro hro G a w Q hok hQ => wpIn_block (w1 ro hro G a w _ hok fun G1 a1 w1' g1 => by
          simp only [AExit.real, Exit.inBlock, hi, if_false]
          exact hQ G1 a1 w1' g1)⟩
  | .scope c, Ls, env, B, k, hL, h => by
    simp only [codeR] at h
    obtain ⟨e, env1, B1, h1, w1⟩ := codeR_sound hm hC c hL h
    exact ⟨e, env1, B1, h1, fun ro hro G a w Q hok hQ => wpIn_scope_straight (w1 ro hro G a w _ hok fun G1 a1 w1' g1 => by
      cases e <;> exact hQ G1 a1 w1' g1)⟩
  | .loop c, Ls, env, B, k, hL, h => by
    simp only [codeR] at h
    cases Ls with
    | nil => cases h
    | cons L Ls => exact hL.1 X env B k r h
  | .rangeFunc f ps a b, Ls, env, B, k, hL, h => by
    simp only [codeR] at h
    cases Ls with
    | nil => cases h
    | cons L Ls => exact hL.1 X env B k r h
  | .exit id, Ls, env, B, k, _, h => ⟨.exit id, env, B, h, fun ro hro G a w Q hok hQ => wpIn_exit (hQ G a w (Goes.refl hok))⟩
  | .ret, Ls, env, B, k, _, h => ⟨.ret, env, B, h, fun ro hro G a w Q hok hQ => wpIn_ret (hQ G a w (Goes.refl hok))⟩
  | .goto _, _, _, _, _, _, h | .refuse _, _, _, _, _, _, h => by simp [codeR] at h

/-! ### Functions -/
def resA (P : Program) (env : List AVal) (B : Bx) : List ResultVar → Option (List AVal)
  | [] => some []
  | .tmp t :: rs => match resA P env B rs with
    | some l => some (env.getD t .any :: l)
    | none => none
  | .cell a t :: rs => match loadA P t (env.getD a .any) B, resA P env B rs with
    | some v, some l => some (v :: l)
    | _, _ => none

theorem loadA_run {P : Program} {G : Gh} {B : Bx} {w : World} {t : TypeId} {x v : AVal} {cv : Value} (hw : WOk G B w) (hx : Rv G B.dead x cv) (h : loadA P t x B = some v) : ∃ a cv', cv = .pointer (some a) ∧ (loadVar t a).run P w = .ok cv' w ∧ Rv G B.dead v cv' := by
  unfold loadA at h
  have conv : ∀ b off cv', (Instr.loadAt t (.pointer (some ⟨b, off, none⟩))).run P w = .ok cv' w → (loadVar t ⟨b, off, none⟩).run P w = .ok cv' w := fun b off cv' h => h
  split at h
  · rename_i T y
    cases hf : fitT P t (.d T y) with
    | false => simp [hf] at h
    | true =>
      simp only [hf, cond_true, Option.some.injEq] at h
      subst h
      obtain ⟨b, off, row, hv, hrow, hle, hr⟩ := iptr_form hx
      obtain ⟨cells, e, fr, hb, hp⟩ := hw.imm b row hrow
      have hlen : ((row.drop off).take T.sz).length = T.sz := RD.len hr
      obtain ⟨cv', hrun, hcv⟩ := run_loadAt' (P := P) (w := w) (b := b) (off := off) hf (G := G) (dead := B.dead) (cs := (row.drop off).take T.sz) hr (fun j hj => by
        rw [hlen] at hj
        rw [cell_of_heap hb, List.getElem?_take_of_lt hj, List.getElem?_drop, ← Array.getElem?_toList]
        exact prefix_getElem? hp (List.getElem?_eq_getElem (by omega)) |>.trans (List.getElem?_eq_getElem (by omega)).symm)
      exact ⟨_, cv', hv, conv _ _ _ hrun, hcv⟩
  · rename_i bb p
    split at h
    · rename_i c hc
      split at h
      · rename_i c' hc'
        cases hf : fitT P t c' with
        | false => simp [hf] at h
        | true =>
          simp only [hf, cond_true, Option.some.injEq] at h
          subst h
          obtain ⟨blk, hb, hp, hv⟩ := ptr_form hx
          obtain ⟨cells, e, hheap, hrc⟩ := (hw.boxes bb blk c hb hc).cells (getP_notM hc' (fitT_notM hf))
          obtain ⟨hle, hr⟩ := getP_spec hc' hp _ hrc
          have hlen := Rc.len hr
          obtain ⟨cv', hrun, hcv⟩ := run_loadAt' (P := P) (w := w) (b := blk) (off := offP p) hf hr (fun j hj => by
            rw [hlen] at hj
            rw [cell_of_heap hheap, List.getElem?_take_of_lt hj, List.getElem?_drop, ← Array.getElem?_toList])
          exact ⟨_, cv', hv, conv _ _ _ hrun, hcv⟩
      · cases h
    · cases h
  · cases h

def rvSem (tm : Array Value) : ResultVar → Sem Value
  | .tmp t => pure (tm.getD t undef)
  | .cell a t => do loadVar t (← asAddr (tm.getD a undef))
theorem results_eq (fn : Func) (tm : Array Value) : results fn tm = (do let vs ← fn.results.mapM (rvSem tm); pure (if h : vs.size = 1 then vs[0] else .tuple vs)) := by
  unfold results
  congr 1

theorem resA_run {P : Program} {G : Gh} {B : Bx} {w : World} {env : List AVal} {tm : Array Value} (hw : WOk G B w) (he : EnvOk G B.dead env tm) : {rs : List ResultVar} → {l : List AVal} → resA P env B rs = some l →
    ∃ vs, (rs.mapM (rvSem tm)).run P w = .ok vs w ∧ Vals G B.dead l vs
  | [], l, h => by
    simp only [resA, Option.some.injEq] at h
    subst h
    exact ⟨[], rfl, .nil⟩
  | .tmp t :: rs, l, h => by
    simp only [resA] at h
    split at h
    · rename_i l' hl
      simp only [Option.some.injEq] at h
      subst h
      obtain ⟨vs, h1, h2⟩ := resA_run hw he hl
      refine ⟨tm.getD t undef :: vs, ?_, .cons (he.val t) h2⟩
      simp only [List.mapM_cons, rvSem, Sem.run_bind, Sem.run_pure, Result.andThen_ok, h1]
    · cases h
  | .cell a t :: rs, l, h => by
    simp only [resA] at h
    split at h
    · rename_i v l' hv hl
      simp only [Option.some.injEq] at h
      subst h
      obtain ⟨vs, h1, h2⟩ := resA_run hw he hl
      obtain ⟨ad, cv, e1, e2, e3⟩ := loadA_run hw (he.val a) hv
      refine ⟨cv :: vs, ?_, .cons e3 h2⟩
      simp only [List.mapM_cons, rvSem, Sem.run_bind, e1, asAddr, Sem.run_pure, Result.andThen_ok, e2, h1]
    · cases h

def oneOf : List AVal → AVal
  | [v] => v
  | l => .tuple (chain l)

/-- What a function does. -/
def fnR (P : Program) (C : CalT) {X : Type} (Ls : List LoopT) (fn : Func) (c : Code) (args : List AVal) (B : Bx) (k : AVal → Bx → Option X) : Option X :=
  codeR P C c Ls (args ++ List.replicate (fn.ntmps - args.length) .any) B fun e env B' => match e with
    | .exit _ => none
    | _ => match resA P env B' fn.results.toList with
      | some l => k (oneOf l) B'
      | none => none

theorem vals_len {G : Gh} {dead : List Nat} : {az : List AVal} → {vs : List Value} → Vals G dead az vs → az.length = vs.length
  | _, _, .nil => rfl
  | _, _, .cons _ t => by simp [vals_len t]

/-- What a call comes to, told of the boxes that it is handed. -/
def LCall (n : Nat) (P : Program) (g : FuncId) (args : List AVal) (B : Bx) (v : AVal) (B' : Bx) : Prop :=
  Ent' P g ∧ ∀ (G : Gh) (w : World) (vs : List Value), Vals G B.dead args vs → WOk G B w →
    Run P g vs w fun e w' => ∃ cv G', e = .returned cv ∧ Rv G' B'.dead v cv ∧ WOk G' B' w' ∧ Ext G w G' w' ∧ ∀ i b, i < n → G.addr[i]? = some b → G'.addr[i]? = some b
theorem fnR_sound {n : Nat} {P : Program} {C : CalT} {X : Type} {Ls : List LoopT} {f : FuncId} {fn : Func} {c : Code} {args : List AVal} {B : Bx} {k : AVal → Bx → Option X} {r : X} (hm : P.follows .mixedOrders = true) (hf : P.funcs[f]? = some fn) (hb : fn.body = some c) (hent : Ent P f)
    (hC : CV P C) (hL : LV n P false (loopsOf c) Ls) (h : fnR P C Ls fn c args B k = some r) : ∃ v B', k v B' = some r ∧ LCall n P f args B v B' := by
  unfold fnR at h
  obtain ⟨e, env, B', h1, w1⟩ := codeR_sound hm hC c hL h
  have main : ∀ l, resA P env B' fn.results.toList = some l → (e.real = .normal ∨ e.real = .ret) → LCall n P f args B (oneOf l) B' := by
    intro l hl he
    refine ⟨.inr hent, fun G w vs hvs hw => Run.call hent.1 ((callsIn_wide (n := 0)).1 ?_)⟩
    refine callsIn_of_wp_marks hf hb trivial ?_
    have hok : Ok G B (args ++ List.replicate (fn.ntmps - args.length) .any) { tmps := vs.toArray ++ Array.replicate (fn.ntmps - vs.toArray.size) undef, defers := [] } w := by
      have hlen := vals_len hvs
      refine ⟨⟨by simp [hlen], fun t => ?_⟩, hw, trivial⟩
      rw [List.getD_eq_getElem?_getD, Array.getD_eq_getD_getElem?]
      simp only [List.size_toArray, ← hlen]
      by_cases ht : t < args.length
      · rw [List.getElem?_append_left ht, Array.getElem?_append_left (by simpa [← hlen] using ht), List.getElem?_eq_getElem ht]
        obtain ⟨v, hv1, hv2⟩ := vals_get hvs (List.getElem?_eq_getElem ht)
        simp only [Option.getD_some]
        have : vs.toArray[t]? = some v := by simpa using hv1
        rw [this]
        exact hv2
      · rw [List.getElem?_append_right (by omega)]
        have : ((List.replicate (fn.ntmps - args.length) AVal.any)[t - args.length]?).getD .any = .any := by
          cases hq : (List.replicate (fn.ntmps - args.length) AVal.any)[t - args.length]? with
          | none => rfl
          | some q =>
            have := List.mem_of_getElem? hq
            rw [List.mem_replicate] at this
            simp [this.2]
        rw [this]
        exact any_v _
    refine w1 none rfl G _ w _ hok fun G1 a1 w1' g => ?_
    -- the boxes are as they were, whatever is done to marks
    have leave : ∀ (ds : List Deferred) (w2 : World), WOk G1 B' w2 → Ext G w G1 w2 → Marks G1 w2 ds → (∀ d ∈ ds, ∃ D, d.target = .collected D ∧ w.heap.size ≤ D) →
        LeavesInM Fence.wide 0 P fn a1.tmps (fun e w' => ∃ cv G', e = .returned cv ∧ Rv G' B'.dead (oneOf l) cv ∧ WOk G' B' w' ∧ Ext G w G' w' ∧ ∀ i b, i < n → G.addr[i]? = some b → G'.addr[i]? = some b) ds .returning w2 := by
      intro ds
      induction ds with
      | nil =>
        intro w2 hw2 hx2 _ _
        obtain ⟨rv, hr1, hr2⟩ := resA_run (P := P) hw2 g.ok.env hl
        have hres : ∃ cv, (results fn a1.tmps).run P w2 = .ok cv w2 ∧ Rv G1 B'.dead (oneOf l) cv := by
          rw [results_eq]
          have hmap : (fn.results.mapM (rvSem a1.tmps)).run P w2 = .ok rv.toArray w2 := by
            rw [Array.mapM_eq_mapM_toList]
            simp only [Sem.run_map, hr1, Result.andThen_ok]
          have hl2 := vals_len hr2
          refine ⟨if h : rv.toArray.size = 1 then rv.toArray[0] else .tuple rv.toArray, ?_, ?_⟩
          · rw [Sem.run_bind, hmap]
            rfl
          · match l, rv, hr2 with
            | [], [], .nil => exact leaf_v rfl ⟨[], rfl, rfl⟩
            | [v], [u], .cons hv .nil => exact hv
            | v1 :: v2 :: l, u1 :: u2 :: us, hv => exact leaf_v rfl ⟨_, by simp, chain_vals hv⟩
        obtain ⟨cv, hc1, hc2⟩ := hres
        exact ⟨cv, hc1, cv, G1, rfl, hc2, hw2, hx2, g.held⟩
      | cons d ds ih =>
        intro w2 hw2 hx2 hm hd
        obtain ⟨⟨D, h1, h2, h3, h4, h5⟩, h6⟩ := hm
        have hge : w.heap.size ≤ D := by
          obtain ⟨D', e1, e2⟩ := hd d (by simp)
          rw [h1] at e1
          cases e1
          exact e2
        have hput : ∀ b, b ≠ D → (w2.putObj D (.deferred none)).heap[b]? = w2.heap[b]? := fun b hb => World.putObj_heap_other hb
        have hcell : ∀ b c e fr, w2.heap[b]? = some (.cells c e fr) → b ≠ D := fun b c e fr hb hbD => by subst hbD; rw [h2] at hb; cases hb
        refine ⟨by simp, .inl ⟨D, _, h1, run_takeDeferred h2, ih _ ⟨hw2.len, hw2.nodup, fun i b c hb hc => ?_, fun b row hb => ?_, hw2.disj, fun t b n ht => ?_, hw2.inj, fun q hq => ?_⟩ ⟨hx2.os, hx2.tape, hx2.output, by rw [World.putObj_size]; exact hx2.size, fun b hb ha ho => ?_, hx2.imm, hx2.same, hx2.addr, hx2.own⟩ ?_ (fun d' hd' => hd d' (by simp [hd']))⟩⟩
        · exact (hw2.boxes i b c hb hc).mono (GLe.refl _ _) (hput b (fun e => h3 (by rw [← e]; exact List.mem_of_getElem? hb)))
        · obtain ⟨c, e, fr, k1, k2⟩ := hw2.imm b row hb
          exact ⟨c, e, fr, by rw [hput b (hcell b c e fr k1)]; exact k1, k2⟩
        · obtain ⟨k1, k2, c, e, k3, k4⟩ := hw2.own t b n ht
          exact ⟨k1, k2, c, e, by rw [hput b (hcell b c e _ k3)]; exact k3, k4⟩
        · obtain ⟨⟨e, fr, k1⟩, k2, k3⟩ := hw2.tab q hq
          exact ⟨⟨e, fr, by rw [hput q.1 (hcell _ _ e fr k1)]; exact k1⟩, k2, k3⟩
        · rw [hput b (by omega)]
          exact hx2.frame b hb ha ho
        · have key : ∀ ds', (∀ d' ∈ ds', d'.target ≠ .collected D) → Marks G1 w2 ds' → Marks G1 (w2.putObj D (.deferred none)) ds' := by
            intro ds'
            induction ds' with
            | nil => intro _ _; trivial
            | cons d' ds' ih' =>
              intro hn hm'
              obtain ⟨⟨D', a1, a2, a3, a4, a5⟩, a6⟩ := hm'
              have hne : D' ≠ D := fun e => hn d' (by simp) (by rw [a1, e])
              exact ⟨⟨D', a1, by rw [hput D' hne]; exact a2, a3, a4, a5⟩, ih' (fun d2 hd2 => hn d2 (by simp [hd2])) a6⟩
          exact key ds h5 h6
    have hpost := leave a1.defers w1' g.ok.w g.ext g.ok.marks (fun d hd => by
      rcases g.defers d hd with hd | hd
      · cases hd
      · exact hd)
    rcases he with he | he <;> rw [he] <;> exact hpost
  cases e with
  | exit id => cases h1
  | normal =>
    simp only at h1
    split at h1
    · rename_i l hl; exact ⟨_, _, h1, main l hl (.inl rfl)⟩
    · cases h1
  | ret =>
    simp only at h1
    split at h1
    · rename_i l hl; exact ⟨_, _, h1, main l hl (.inr rfl)⟩
    · cases h1

end Go.Proofs.YtbidmbjkjpdgdaaDoor.Abs
