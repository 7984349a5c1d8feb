import Derived.Test.YtibmgbalfhfcdaaDoorA2
import Derived.Scope
import Derived.LoopN
import Derived.ChangeArms
import Derived.OpenShut
import Derived.ChangeSame
import Derived.Carry
import Derived.Lib.LaidTab
set_option linter.unusedVariables false
set_option linter.unusedSimpArgs false
namespace Go.Proofs.YtibmgbalfhfcdaaDoor.Abs
inductive AExit where
  | normal
  | exit (id : Nat)
  | ret
def AExit.real : AExit → Exit
  | .normal => .normal
  | .exit id => .exit id
  | .ret => .ret
structure LoopT where
  run : (X : Type) → List AVal → Bx → (AExit → List AVal → Bx → Option X) → Option X
def nl : Code → Nat
  | .seq a b => nl a + nl b
  | .cond _ x y => nl x + nl y
  | .block _ c => nl c
  | .scope c => nl c
  | .loop _ => 1
  | .rangeFunc .. => 1
  | _ => 0
theorem nl_len : (c : Code) → (loopsOf c).length = nl c
  | .seq a b => by simp [loopsOf, nl, nl_len a, nl_len b]
  | .cond _ x y => by simp [loopsOf, nl, nl_len x, nl_len y]
  | .block _ c => by simp [loopsOf, nl, nl_len c]
  | .scope c => by simp [loopsOf, nl, nl_len c]
  | .loop c => rfl
  | .rangeFunc f ps a b => rfl
  | .skip | .region .. | .exit _ | .label _ | .goto _ | .ret | .refuse _ => rfl
def blockK {X : Type} (id : Nat) (k : AExit → List AVal → Bx → Option X) : AExit → List AVal → Bx → Option X
  | .exit i, env, B => bif i == id then k .normal env B else k (.exit i) env B
  | e, env, B => k e env B
theorem stepR_scope {P : Program} {b : Frame} {a : Act} {k : List Item} {cs : List Frame} {w : World} {c : Code} : step P (lone (b.atR a (.code (.scope c) :: k)) cs w) = .next (lone (b.atR a (.code c :: .inScope c :: k)) cs w) :=
  step_lone_go (by simp [stepG, stepG.exec, Frame.atR])
theorem stepR_inScope {P : Program} {b : Frame} {a : Act} {k : List Item} {cs : List Frame} {w : World} {c : Code} : step P (lone (b.atR a (.inScope c :: k)) cs w) = .next (lone (b.atR a k) cs w) :=
  step_lone_go (by simp [stepG, stepG.exec, Frame.atR])
theorem wpIn_scope_straight {F : Fence} {n : Nat} {P : Program} {Q : Exit → Act → World → Prop} {a : Act} {w : World} {c : Code} (h : c.wpIn F n P (Exit.noGoto Q) a w) : (Code.scope c).wpIn F n P Q a w := by
  intro b k cs hro hb hr
  have h0 : (lone (b.atR a (.code (.scope c) :: k)) cs w).fenced P F := fenced_calm hb hr rfl
  obtain ⟨e, a₁, w₁, hq, harr⟩ := h b (.inScope c :: k) cs hro hb hr
  have hx : ∀ id, exitTo id (.inScope c :: k) = exitTo id k := fun id => by simp [exitTo]
  cases e with
  | normal => exact ⟨.normal, a₁, w₁, hq, .head h0 stepR_scope (StepsIn.trans harr (.one (fenced_calm hb hr rfl) stepR_inScope))⟩
  | exit id => exact ⟨.exit id, a₁, w₁, hq, fun k' hk => .head h0 stepR_scope (harr.1 k' (by rw [hx]; exact hk)),
      fun hr' hk => let ⟨k₁, h1, h2⟩ := harr.2 hr' (by rw [hx]; exact hk); ⟨k₁, h1, .head h0 stepR_scope h2⟩⟩
  | goto l => exact hq.elim
  | ret => exact ⟨_, a₁, w₁, hq, .of_steps (.one h0 stepR_scope) harr⟩
  | panic ch => exact ⟨_, a₁, w₁, hq, .of_steps (.one h0 stepR_scope) harr⟩
  | outgrown => exact ⟨_, a₁, w₁, hq, .of_steps (.one h0 stepR_scope) harr⟩
def codeR (P : Program) (C : CalT) {X : Type} : Code → List LoopT → List AVal → Bx → (AExit → List AVal → Bx → Option X) → Option X
  | .skip, _, env, B, k => k .normal env B
  | .label _, _, env, B, k => k .normal env B
  | .region _ ops draw, _, env, B, k => bif draw && !(pendN ops == 0) then
      regR P C.drawn ops ops.toList env B fun env' B' => bif drawOkN (pendN ops) C.drawn ops env.length B.box.length env' && pendOk ops (pendN ops) env.length then k .normal env' B' else none
    else regR P (bif draw then C.drawn else C) ops ops.toList env B fun env' B' => bif draw && !drawOk C.drawn ops env.length B.box.length env' then none else k .normal env' B'
  | .seq a b, Ls, env, B, k => codeR P C a Ls env B fun e env' B' => match e with
    | .normal => codeR P C b (Ls.drop (nl a)) env' B' k
    | e => k e env' B'
  | .cond c x y, Ls, env, B, k => match opA env c with
    | .d .bool t => bif t then codeR P C x Ls env B k else codeR P C y (Ls.drop (nl x)) env B k
    | _ => none
  | .block id c, Ls, env, B, k => codeR P C c Ls env B (blockK id k)
  | .scope c, Ls, env, B, k => codeR P C c Ls env B k
  | .loop _, Ls, env, B, k => match Ls with
    | L :: _ => L.run X env B k
    | [] => none
  | .rangeFunc _ _ _ _, Ls, env, B, k => match Ls with
    | L :: _ => L.run X env B k
    | [] => none
  | .exit id, _, env, B, k => k (.exit id) env B
  | .ret, _, env, B, k => k .ret env B
  | _, _, _, _, _ => none
def AW (n : Nat) (P : Program) (c : Code) (env : List AVal) (B : Bx) (e : AExit) (env' : List AVal) (B' : Bx) (rd : Bool := false) : Prop :=
  ∀ (r : Option Nat), r.isSome = rd → ∀ (G : Gh) (a : Act) (w : World) (Q : Exit → Act → World → Prop), Ok G B env a w → (∀ G1 a1 w1, Goes n G a w G1 B' env' a1 w1 → Q e.real a1 w1) → c.wpIn (Fr r) 0 P Q a w
def LValid (n : Nat) (P : Program) (c : Code) (L : LoopT) (rd : Bool := false) : Prop := ∀ X env B k r, L.run X env B k = some r → ∃ e env' B', k e env' B' = some r ∧ AW n P c env B e env' B' rd
def LV (n : Nat) (P : Program) (rd : Bool) : List Code → List LoopT → Prop
  | c :: cs, L :: Ls => LValid n P c L rd ∧ LV n P rd cs Ls
  | _, _ => True
theorem LV.left {n : Nat} {P : Program} {rd : Bool} : {cs ds : List Code} → {Ls : List LoopT} → LV n P rd (cs ++ ds) Ls → LV n P rd cs Ls
  | [], _, _, _ => by unfold LV; trivial
  | c :: cs, ds, [], _ => by unfold LV; trivial
  | c :: cs, ds, L :: Ls, h => ⟨h.1, LV.left h.2⟩
theorem LV.right {n : Nat} {P : Program} {rd : Bool} : {cs ds : List Code} → {Ls : List LoopT} → LV n P rd (cs ++ ds) Ls → LV n P rd ds (Ls.drop cs.length)
  | [], _, _, h => h
  | c :: cs, ds, [], _ => by simp; cases ds <;> trivial
  | c :: cs, ds, L :: Ls, h => by simpa using LV.right h.2
theorem codeR_sound {n : Nat} {P : Program} {rd : Bool} {C : CalT} {X : Type} {r : X} (hm : P.follows .mixedOrders = true) (hC : CV P C) : (c : Code) → {Ls : List LoopT} → {env : List AVal} → {B : Bx} → {k : AExit → List AVal → Bx → Option X} → LV n P rd (loopsOf c) Ls → codeR P C c Ls env B k = some r →
    ∃ e env' B', k e env' B' = some r ∧ AW n P c env B e env' B' rd
  | .skip, Ls, env, B, k, _, h => ⟨.normal, env, B, h, fun ro hro G a w Q hok hQ => wpIn_skip (hQ G a w (Goes.refl hok))⟩
  | .label _, Ls, env, B, k, _, h => ⟨.normal, env, B, h, fun ro hro G a w Q hok hQ => wpIn_label (hQ G a w (Goes.refl hok))⟩
  | .region id ops draw, Ls, env, B, k, _, h => by
    simp only [codeR] at h
    cases hpn : draw && !(pendN ops == 0) with
    | true =>
      rw [hpn] at h
      simp only [cond_true] at h
      obtain ⟨env', B', ht, hk⟩ := regR_tr hC.drawn h
      cases hb : drawOkN (pendN ops) C.drawn ops env.length B.box.length env' && pendOk ops (pendN ops) env.length with
      | false => rw [hb] at hk; cases hk
      | true =>
        rw [hb] at hk
        simp only [Bool.and_eq_true] at hb
        refine ⟨.normal, env', B', hk, fun ro hro G a w Q hok hQ => ?_⟩
        cases draw with
        | false => simp at hpn
        | true => exact pend_sound hm hb.1 hb.2 ht ro hok hQ
    | false =>
    rw [hpn] at h
    simp only [cond_false] at h
    obtain ⟨env', B', ht, hk⟩ := regR_tr (C := bif draw then C.drawn else C) (by cases draw with | true => exact hC.drawn | false => exact hC) h
    cases hb : draw && !drawOk C.drawn ops env.length B.box.length env' with
    | true => rw [hb] at hk; cases hk
    | false =>
      rw [hb] at hk
      simp only [cond_false] at hk
      refine ⟨.normal, env', B', hk, fun ro hro G a w Q hok hQ => ?_⟩
      cases draw with
      | false => exact wpIn_region_list (tr_list ht ro hok hQ)
      | true => exact draw_sound hm (by simpa using hb) ht ro hok hQ
  | .seq x y, Ls, env, B, k, hL, h => by
    simp only [codeR] at h
    obtain ⟨e, env1, B1, h1, w1⟩ := codeR_sound hm hC x (LV.left hL) h
    cases e with
    | normal =>
      simp only at h1
      obtain ⟨e2, env2, B2, h2, w2⟩ := codeR_sound hm hC y (by have := LV.right hL; rwa [nl_len] at this) h1
      refine ⟨e2, env2, B2, h2, fun ro hro G a w Q hok hQ => wpIn_seq (w1 ro hro G a w _ hok fun G1 a1 w1' g1 => ?_)⟩
      exact w2 ro hro G1 a1 w1' Q g1.ok fun G2 a2 w2' g2 => hQ G2 a2 w2' (g1.trans g2)
    | exit id => exact ⟨.exit id, env1, B1, h1, fun ro hro G a w Q hok hQ => wpIn_seq (w1 ro hro G a w _ hok fun G1 a1 w1' g1 => hQ G1 a1 w1' g1)⟩
    | ret => exact ⟨.ret, env1, B1, h1, fun ro hro G a w Q hok hQ => wpIn_seq (w1 ro hro G a w _ hok fun G1 a1 w1' g1 => hQ G1 a1 w1' g1)⟩
  | .cond c x y, Ls, env, B, k, hL, h => by
    simp only [codeR] at h
    split at h
    · rename_i t ht
      cases t with
      | true =>
        obtain ⟨e, env1, B1, h1, w1⟩ := codeR_sound hm hC x (LV.left hL) h
        refine ⟨e, env1, B1, h1, fun ro hro G a w Q hok hQ => wpIn_cond_true ?_ (w1 ro hro G a w Q hok hQ)⟩
        have := hok.env.op c
        rw [ht] at this
        exact bool_form this
      | false =>
        obtain ⟨e, env1, B1, h1, w1⟩ := codeR_sound hm hC y (by have := LV.right hL; rwa [nl_len] at this) h
        refine ⟨e, env1, B1, h1, fun ro hro G a w Q hok hQ => wpIn_cond_false ?_ (w1 ro hro G a w Q hok hQ)⟩
        have := hok.env.op c
        rw [ht] at this
        exact bool_form this
    · cases h
  | .block id c, Ls, env, B, k, hL, h => by
    simp only [codeR] at h
    obtain ⟨e, env1, B1, h1, w1⟩ := codeR_sound hm hC c hL h
    cases e with
    | normal => exact ⟨.normal, env1, B1, h1, fun ro hro G a w Q hok hQ => wpIn_block (w1 ro hro G a w _ hok fun G1 a1 w1' g1 => hQ G1 a1 w1' g1)⟩
    | ret => exact ⟨.ret, env1, B1, h1, fun ro hro G a w Q hok hQ => wpIn_block (w1 ro hro G a w _ hok fun G1 a1 w1' g1 => hQ G1 a1 w1' g1)⟩
    | exit i =>
      simp only [blockK] at h1
      by_cases hi : i = id
      · simp only [hi, beq_self_eq_true, cond_true] at h1
        exact ⟨.normal, env1, B1, h1, fun ro hro G a w Q hok hQ => wpIn_block (w1 ro hro G a w _ hok fun G1 a1 w1' g1 => by
          simp only [AExit.real, Exit.inBlock, hi, if_true]
          exact hQ G1 a1 w1' g1)⟩
      · have hb : (i == id) = false := by simpa using hi
        simp only [hb, cond_false] at h1
        exact ⟨.exit i, env1, B1, h1, fun ro hro G a w Q hok hQ => wpIn_block (w1 ro hro G a w _ hok fun G1 a1 w1' g1 => by
          simp only [AExit.real, Exit.inBlock, hi, if_false]
          exact hQ G1 a1 w1' g1)⟩
  | .scope c, Ls, env, B, k, hL, h => by
    simp only [codeR] at h
    obtain ⟨e, env1, B1, h1, w1⟩ := codeR_sound hm hC c hL h
    exact ⟨e, env1, B1, h1, fun ro hro G a w Q hok hQ => wpIn_scope_straight (w1 ro hro G a w _ hok fun G1 a1 w1' g1 => by
      cases e <;> exact hQ G1 a1 w1' g1)⟩
  | .loop c, Ls, env, B, k, hL, h => by
    simp only [codeR] at h
    cases Ls with
    | nil => cases h
    | cons L Ls => exact hL.1 X env B k r h
  | .rangeFunc f ps a b, Ls, env, B, k, hL, h => by
    simp only [codeR] at h
    cases Ls with
    | nil => cases h
    | cons L Ls => exact hL.1 X env B k r h
  | .exit id, Ls, env, B, k, _, h => ⟨.exit id, env, B, h, fun ro hro G a w Q hok hQ => wpIn_exit (hQ G a w (Goes.refl hok))⟩
  | .ret, Ls, env, B, k, _, h => ⟨.ret, env, B, h, fun ro hro G a w Q hok hQ => wpIn_ret (hQ G a w (Goes.refl hok))⟩
  | .goto _, _, _, _, _, _, h | .refuse _, _, _, _, _, _, h => by simp [codeR] at h
def resA (P : Program) (env : List AVal) (B : Bx) : List ResultVar → Option (List AVal)
  | [] => some []
  | .tmp t :: rs => match resA P env B rs with
    | some l => some (env.getD t .any :: l)
    | none => none
  | .cell a t :: rs => match loadA P t (env.getD a .any) B, resA P env B rs with
    | some v, some l => some (v :: l)
    | _, _ => none
theorem loadA_run {P : Program} {G : Gh} {B : Bx} {w : World} {t : TypeId} {x v : AVal} {cv : Value} (hw : WOk G B w) (hx : Rv G B.dead x cv) (h : loadA P t x B = some v) : ∃ a cv', cv = .pointer (some a) ∧ (loadVar t a).run P w = .ok cv' w ∧ Rv G B.dead v cv' := by
  unfold loadA at h
  have conv : ∀ b off cv', (Instr.loadAt t (.pointer (some ⟨b, off, none⟩))).run P w = .ok cv' w → (loadVar t ⟨b, off, none⟩).run P w = .ok cv' w := fun b off cv' h => h
  split at h
  · rename_i T y
    cases hf : fitT P t (.d T y) with
    | false => simp [hf] at h
    | true =>
      simp only [hf, cond_true, Option.some.injEq] at h
      subst h
      obtain ⟨b, off, row, hv, hrow, hle, hr⟩ := iptr_form hx
      obtain ⟨cells, e, fr, hb, hp⟩ := hw.imm b row hrow
      have hlen : ((row.drop off).take T.sz).length = T.sz := RD.len hr
      obtain ⟨cv', hrun, hcv⟩ := run_loadAt' (P := P) (w := w) (b := b) (off := off) hf (G := G) (dead := B.dead) (cs := (row.drop off).take T.sz) hr (fun j hj => by
        rw [hlen] at hj
        rw [cell_of_heap hb, List.getElem?_take_of_lt hj, List.getElem?_drop, ← Array.getElem?_toList]
        exact prefix_getElem? hp (List.getElem?_eq_getElem (by omega)) |>.trans (List.getElem?_eq_getElem (by omega)).symm)
      exact ⟨_, cv', hv, conv _ _ _ hrun, hcv⟩
  · rename_i bb p
    split at h
    · rename_i c hc
      split at h
      · rename_i c' hc'
        cases hf : fitT P t c' with
        | false => simp [hf] at h
        | true =>
          simp only [hf, cond_true, Option.some.injEq] at h
          subst h
          obtain ⟨blk, hb, hp, hv⟩ := ptr_form hx
          obtain ⟨cells, e, hheap, hrc⟩ := (hw.boxes bb blk c hb hc).cells (getP_notM hc' (fitT_notM hf))
          obtain ⟨hle, hr⟩ := getP_spec hc' hp _ hrc
          have hlen := Rc.len hr
          obtain ⟨cv', hrun, hcv⟩ := run_loadAt' (P := P) (w := w) (b := blk) (off := offP p) hf hr (fun j hj => by
            rw [hlen] at hj
            rw [cell_of_heap hheap, List.getElem?_take_of_lt hj, List.getElem?_drop, ← Array.getElem?_toList])
          exact ⟨_, cv', hv, conv _ _ _ hrun, hcv⟩
      · cases h
    · cases h
  · cases h
def rvSem (tm : Array Value) : ResultVar → Sem Value
  | .tmp t => pure (tm.getD t undef)
  | .cell a t => do loadVar t (← asAddr (tm.getD a undef))
theorem results_eq (fn : Func) (tm : Array Value) : results fn tm = (do let vs ← fn.results.mapM (rvSem tm); pure (if h : vs.size = 1 then vs[0] else .tuple vs)) := by
  unfold results
  congr 1
theorem resA_run {P : Program} {G : Gh} {B : Bx} {w : World} {env : List AVal} {tm : Array Value} (hw : WOk G B w) (he : EnvOk G B.dead env tm) : {rs : List ResultVar} → {l : List AVal} → resA P env B rs = some l →
    ∃ vs, (rs.mapM (rvSem tm)).run P w = .ok vs w ∧ Vals G B.dead l vs
  | [], l, h => by
    simp only [resA, Option.some.injEq] at h
    subst h
    exact ⟨[], rfl, .nil⟩
  | .tmp t :: rs, l, h => by
    simp only [resA] at h
    split at h
    · rename_i l' hl
      simp only [Option.some.injEq] at h
      subst h
      obtain ⟨vs, h1, h2⟩ := resA_run hw he hl
      refine ⟨tm.getD t undef :: vs, ?_, .cons (he.val t) h2⟩
      simp only [List.mapM_cons, rvSem, Sem.run_bind, Sem.run_pure, Result.andThen_ok, h1]
    · cases h
  | .cell a t :: rs, l, h => by
    simp only [resA] at h
    split at h
    · rename_i v l' hv hl
      simp only [Option.some.injEq] at h
      subst h
      obtain ⟨vs, h1, h2⟩ := resA_run hw he hl
      obtain ⟨ad, cv, e1, e2, e3⟩ := loadA_run hw (he.val a) hv
      refine ⟨cv :: vs, ?_, .cons e3 h2⟩
      simp only [List.mapM_cons, rvSem, Sem.run_bind, e1, asAddr, Sem.run_pure, Result.andThen_ok, e2, h1]
    · cases h
def oneOf : List AVal → AVal
  | [v] => v
  | l => .tuple (chain l)
def fnR (P : Program) (C : CalT) {X : Type} (Ls : List LoopT) (fn : Func) (c : Code) (args : List AVal) (B : Bx) (k : AVal → Bx → Option X) : Option X :=
  codeR P C c Ls (args ++ List.replicate (fn.ntmps - args.length) .any) B fun e env B' => match e with
    | .exit _ => none
    | _ => match resA P env B' fn.results.toList with
      | some l => k (oneOf l) B'
      | none => none
theorem vals_len {G : Gh} {dead : List Nat} : {az : List AVal} → {vs : List Value} → Vals G dead az vs → az.length = vs.length
  | _, _, .nil => rfl
  | _, _, .cons _ t => by simp [vals_len t]
def LCall (n : Nat) (P : Program) (g : FuncId) (args : List AVal) (B : Bx) (v : AVal) (B' : Bx) : Prop :=
  Ent' P g ∧ ∀ (G : Gh) (w : World) (vs : List Value), Vals G B.dead args vs → WOk G B w →
    Run P g vs w fun e w' => ∃ cv G', e = .returned cv ∧ Rv G' B'.dead v cv ∧ WOk G' B' w' ∧ Ext G w G' w' ∧ ∀ i b, i < n → G.addr[i]? = some b → G'.addr[i]? = some b
theorem fnR_sound {n : Nat} {P : Program} {C : CalT} {X : Type} {Ls : List LoopT} {f : FuncId} {fn : Func} {c : Code} {args : List AVal} {B : Bx} {k : AVal → Bx → Option X} {r : X} (hm : P.follows .mixedOrders = true) (hf : P.funcs[f]? = some fn) (hb : fn.body = some c) (hent : Ent P f)
    (hC : CV P C) (hL : LV n P false (loopsOf c) Ls) (h : fnR P C Ls fn c args B k = some r) : ∃ v B', k v B' = some r ∧ LCall n P f args B v B' := by
  unfold fnR at h
  obtain ⟨e, env, B', h1, w1⟩ := codeR_sound hm hC c hL h
  have main : ∀ l, resA P env B' fn.results.toList = some l → (e.real = .normal ∨ e.real = .ret) → LCall n P f args B (oneOf l) B' := by
    intro l hl he
    refine ⟨.inr hent, fun G w vs hvs hw => Run.call hent.1 ((callsIn_wide (n := 0)).1 ?_)⟩
    refine callsIn_of_wp_marks hf hb trivial ?_
    have hok : Ok G B (args ++ List.replicate (fn.ntmps - args.length) .any) { tmps := vs.toArray ++ Array.replicate (fn.ntmps - vs.toArray.size) undef, defers := [] } w := by
      have hlen := vals_len hvs
      refine ⟨⟨by simp [hlen], fun t => ?_⟩, hw, trivial⟩
      rw [List.getD_eq_getElem?_getD, Array.getD_eq_getD_getElem?]
      simp only [List.size_toArray, ← hlen]
      by_cases ht : t < args.length
      · rw [List.getElem?_append_left ht, Array.getElem?_append_left (by simpa [← hlen] using ht), List.getElem?_eq_getElem ht]
        obtain ⟨v, hv1, hv2⟩ := vals_get hvs (List.getElem?_eq_getElem ht)
        simp only [Option.getD_some]
        have : vs.toArray[t]? = some v := by simpa using hv1
        rw [this]
        exact hv2
      · rw [List.getElem?_append_right (by omega)]
        have : ((List.replicate (fn.ntmps - args.length) AVal.any)[t - args.length]?).getD .any = .any := by
          cases hq : (List.replicate (fn.ntmps - args.length) AVal.any)[t - args.length]? with
          | none => rfl
          | some q =>
            have := List.mem_of_getElem? hq
            rw [List.mem_replicate] at this
            simp [this.2]
        rw [this]
        exact any_v _
    refine w1 none rfl G _ w _ hok fun G1 a1 w1' g => ?_
    have leave : ∀ (ds : List Deferred) (w2 : World), WOk G1 B' w2 → Ext G w G1 w2 → Marks G1 w2 ds → (∀ d ∈ ds, ∃ D, d.target = .collected D ∧ w.heap.size ≤ D) →
        LeavesInM Fence.wide 0 P fn a1.tmps (fun e w' => ∃ cv G', e = .returned cv ∧ Rv G' B'.dead (oneOf l) cv ∧ WOk G' B' w' ∧ Ext G w G' w' ∧ ∀ i b, i < n → G.addr[i]? = some b → G'.addr[i]? = some b) ds .returning w2 := by
      intro ds
      induction ds with
      | nil =>
        intro w2 hw2 hx2 _ _
        obtain ⟨rv, hr1, hr2⟩ := resA_run (P := P) hw2 g.ok.env hl
        have hres : ∃ cv, (results fn a1.tmps).run P w2 = .ok cv w2 ∧ Rv G1 B'.dead (oneOf l) cv := by
          rw [results_eq]
          have hmap : (fn.results.mapM (rvSem a1.tmps)).run P w2 = .ok rv.toArray w2 := by
            rw [Array.mapM_eq_mapM_toList]
            simp only [Sem.run_map, hr1, Result.andThen_ok]
          have hl2 := vals_len hr2
          refine ⟨if h : rv.toArray.size = 1 then rv.toArray[0] else .tuple rv.toArray, ?_, ?_⟩
          · rw [Sem.run_bind, hmap]
            rfl
          · match l, rv, hr2 with
            | [], [], .nil => exact leaf_v rfl ⟨[], rfl, rfl⟩
            | [v], [u], .cons hv .nil => exact hv
            | v1 :: v2 :: l, u1 :: u2 :: us, hv => exact leaf_v rfl ⟨_, by simp, chain_vals hv⟩
        obtain ⟨cv, hc1, hc2⟩ := hres
        exact ⟨cv, hc1, cv, G1, rfl, hc2, hw2, hx2, g.held⟩
      | cons d ds ih =>
        intro w2 hw2 hx2 hm hd
        obtain ⟨⟨D, h1, h2, h3, h4, h5⟩, h6⟩ := hm
        have hge : w.heap.size ≤ D := by
          obtain ⟨D', e1, e2⟩ := hd d (by simp)
          rw [h1] at e1
          cases e1
          exact e2
        have hput : ∀ b, b ≠ D → (w2.putObj D (.deferred none)).heap[b]? = w2.heap[b]? := fun b hb => World.putObj_heap_other hb
        have hcell : ∀ b c e fr, w2.heap[b]? = some (.cells c e fr) → b ≠ D := fun b c e fr hb hbD => by subst hbD; rw [h2] at hb; cases hb
        refine ⟨by simp, .inl ⟨D, _, h1, run_takeDeferred h2, ih _ ⟨hw2.len, hw2.nodup, fun i b c hb hc => ?_, fun b row hb => ?_, hw2.disj, fun t b n ht => ?_, hw2.inj, fun q hq => ?_, ?_⟩ ⟨hx2.os, hx2.tape, hx2.output, by rw [World.putObj_size]; exact hx2.size, fun b hb ha ho => ?_, hx2.imm, hx2.same, hx2.addr, hx2.own⟩ ?_ (fun d' hd' => hd d' (by simp [hd']))⟩⟩
        · exact (hw2.boxes i b c hb hc).mono (GLe.refl _ _) (hput b (fun e => h3 (by rw [← e]; exact List.mem_of_getElem? hb)))
        · obtain ⟨c, e, fr, k1, k2⟩ := hw2.imm b row hb
          exact ⟨c, e, fr, by rw [hput b (hcell b c e fr k1)]; exact k1, k2⟩
        · obtain ⟨k1, k2, c, e, k3, k4⟩ := hw2.own t b n ht
          exact ⟨k1, k2, c, e, by rw [hput b (hcell b c e _ k3)]; exact k3, k4⟩
        · obtain ⟨⟨e, fr, k1⟩, k2, k3⟩ := hw2.tab q hq
          exact ⟨⟨e, fr, by rw [hput q.1 (hcell _ _ e fr k1)]; exact k1⟩, k2, k3⟩
        · refine hw2.vec.mono (fun _ _ _ _ hx => hx) (fun _ h => .inl h) (fun t b n _ h1 h2 => ⟨h1, h2, ?_⟩) (ImmLe.refl _)
          obtain ⟨_, _, c, e, k3, _⟩ := hw2.own t b n h1
          exact hput b (hcell b c e _ k3)
        · rw [hput b (by omega)]
          exact hx2.frame b hb ha ho
        · have key : ∀ ds', (∀ d' ∈ ds', d'.target ≠ .collected D) → Marks G1 w2 ds' → Marks G1 (w2.putObj D (.deferred none)) ds' := by
            intro ds'
            induction ds' with
            | nil => intro _ _; trivial
            | cons d' ds' ih' =>
              intro hn hm'
              obtain ⟨⟨D', a1, a2, a3, a4, a5⟩, a6⟩ := hm'
              have hne : D' ≠ D := fun e => hn d' (by simp) (by rw [a1, e])
              exact ⟨⟨D', a1, by rw [hput D' hne]; exact a2, a3, a4, a5⟩, ih' (fun d2 hd2 => hn d2 (by simp [hd2])) a6⟩
          exact key ds h5 h6
    have hpost := leave a1.defers w1' g.ok.w g.ext g.ok.marks (fun d hd => by
      rcases g.defers d hd with hd | hd
      · cases hd
      · exact hd)
    rcases he with he | he <;> rw [he] <;> exact hpost
  cases e with
  | exit id => cases h1
  | normal =>
    simp only at h1
    split at h1
    · rename_i l hl; exact ⟨_, _, h1, main l hl (.inl rfl)⟩
    · cases h1
  | ret =>
    simp only at h1
    split at h1
    · rename_i l hl; exact ⟨_, _, h1, main l hl (.inr rfl)⟩
    · cases h1
end Go.Proofs.YtibmgbalfhfcdaaDoor.Abs
set_option linter.unusedVariables false
set_option linter.unusedSimpArgs false
namespace Go.Proofs.YtibmgbalfhfcdaaDoor.Abs
inductive PTy where
  | any
  | fix (a : AVal)
  | dat (T : DTy)
  | own (tok : Nat) (T : DTy)
  | cons (h t : PTy)
  | nil
  | tup (p : PTy)
  | map (K V : DTy)
  | ip (T : DTy)
  | lp (g i : Nat) (ps : PTy)
  | vec (k b : Nat) (T : DTy)
  | vrow (k : Nat) (T : DTy)
  | optp (b : Nat)
  | siter
  | fnp (f : Fn) (p q : PTy)
  | tbox (t : TypeId) (p : PTy)
@[reducible] def PTy.El : PTy → Type
  | .any => Unit
  | .fix _ => Unit
  | .dat T => T.El
  | .own _ T => List T.El
  | .cons h t => h.El × t.El
  | .nil => Unit
  | .tup p => p.El
  | .map K V => List (K.El × V.El)
  | .ip T => T.El
  | .lp _ _ ps => Nat × ps.El
  | .vec _ _ _ => Nat
  | .vrow _ T => List T.El
  | .optp _ => Unit
  | .siter => ByteArray × Nat
  | .fnp _ p q => p.El × q.El
  | .tbox _ p => p.El
def PTy.enc : (p : PTy) → p.El → AVal
  | .any, _ => .any
  | .fix a, _ => a
  | .dat T, x => .d T x
  | .own k T, x => .own k T x
  | .cons h t, x => .cons (h.enc x.1) (t.enc x.2)
  | .nil, _ => .nil
  | .tup p, x => .tuple (p.enc x)
  | .map K V, x => .mobj K V x
  | .ip T, x => .iptr T x
  | .lp g i ps, x => .lobj g i x.1 (ps.enc x.2)
  | .vec k b T, n => .vec k b T n
  | .vrow k T, xs => .vrow k T xs
  | .optp b, _ => .optp b
  | .siter, x => .siter x.1 x.2
  | .fnp f p q, x => .func f (p.enc x.1) (q.enc x.2)
  | .tbox t p, x => .tbox t (p.enc x)
def PTy.lst : PTy → Bool
  | .nil => true
  | .cons _ t => t.lst
  | _ => false
def sameP : List PStep → List PStep → Bool
  | [], [] => true
  | .fld k o :: p, .fld k' o' :: q => k == k' && o == o' && sameP p q
  | .ix i s n :: p, .ix i' s' n' :: q => i == i' && s == s' && n == n' && sameP p q
  | _, _ => false
theorem sameP_eq : {p q : List PStep} → sameP p q = true → p = q
  | [], [], _ => rfl
  | .fld k o :: p, .fld k' o' :: q, h => by
    simp only [sameP, Bool.and_eq_true, beq_iff_eq] at h
    obtain ⟨⟨rfl, rfl⟩, h⟩ := h
    rw [sameP_eq h]
  | .ix i s n :: p, .ix i' s' n' :: q, h => by
    simp only [sameP, Bool.and_eq_true, beq_iff_eq] at h
    obtain ⟨⟨⟨rfl, rfl⟩, rfl⟩, h⟩ := h
    rw [sameP_eq h]
  | [], _ :: _, h | _ :: _, [], h | .fld .. :: _, .ix .. :: _, h | .ix .. :: _, .fld .. :: _, h => by simp [sameP] at h
def sameA : AVal → AVal → Bool
  | .nil, .nil => true
  | .cons a b, .cons c d => sameA a c && sameA b d
  | .pnil, .pnil => true
  | .fnil, .fnil => true
  | .snil, .snil => true
  | .inil, .inil => true
  | .mnil, .mnil => true
  | .pan t, .pan t' => t == t'
  | .bptr b p, .bptr c q => b == c && sameP p q
  | .mref b, .mref c => b == c
  | .yref b, .yref c => b == c
  | .func f a b, .func g c d => f == g && sameA a c && sameA b d
  | _, _ => false
theorem sameA_eq {a b : AVal} (h : sameA a b = true) : a = b := by
  induction a generalizing b with
  | cons x y ih1 ih2 =>
    cases b with
    | cons u v =>
      simp only [sameA, Bool.and_eq_true] at h
      rw [ih1 h.1, ih2 h.2]
    | _ => simp [sameA] at h
  | func f x y ih1 ih2 =>
    cases b with
    | func g u v =>
      simp only [sameA, Bool.and_eq_true, beq_iff_eq] at h
      rw [h.1.1, ih1 h.1.2, ih2 h.2]
    | _ => simp [sameA] at h
  | bptr c p =>
    cases b with
    | bptr d q =>
      simp only [sameA, Bool.and_eq_true, beq_iff_eq] at h
      rw [h.1, sameP_eq h.2]
    | _ => simp [sameA] at h
  | mref c =>
    cases b with
    | mref d =>
      simp only [sameA, beq_iff_eq] at h
      rw [h]
    | _ => simp [sameA] at h
  | yref c =>
    cases b with
    | yref d =>
      simp only [sameA, beq_iff_eq] at h
      rw [h]
    | _ => simp [sameA] at h
  | pan t =>
    cases b with
    | pan t' =>
      simp only [sameA, beq_iff_eq] at h
      rw [h]
    | _ => simp [sameA] at h
  | nil | pnil | fnil | snil | inil | mnil => cases b <;> first | rfl | simp [sameA] at h
  | _ => simp [sameA] at h
def under (m : Nat) : AVal → Bool
  | .cons a b => under m a && under m b
  | .bptr b _ => decide (b < m)
  | .optp b => decide (b < m)
  | .bsl b _ _ _ => decide (b < m)
  | .mref b => decide (b < m)
  | .yref b => decide (b < m)
  | .func _ a b => under m a && under m b
  | .iface _ v => under m v
  | .tuple v => under m v
  | _ => true
def PTy.dec : (p : PTy) → AVal → Option (p.El × List (Nat × Nat))
  | .any, _ => some ((), [])
  | .fix a, v => bif sameA a v then some ((), []) else none
  | .dat T, v => match asData v T with
    | some x => some (x, [])
    | none => none
  | .own k T, .own t T' xs => if h : T' = T then some (h ▸ xs, [(k, t)]) else none
  | .own _ T, .snil => some ([], [])
  | .own _ _, _ => none
  | .cons h t, .cons a b => match h.dec a, t.dec b with
    | some (x, l), some (y, m) => some ((x, y), l ++ m)
    | _, _ => none
  | .cons h t, .d (.cons T U) x => match h.dec (.d T x.1), t.dec (.d U x.2) with
    | some (x, l), some (y, m) => some ((x, y), l ++ m)
    | _, _ => none
  | .cons _ _, _ => none
  | .nil, .nil => some ((), [])
  | .nil, .d .nil _ => some ((), [])
  | .nil, _ => none
  | .tup p, .tuple a => bif p.lst then p.dec a else none
  | .tup _, _ => none
  | .map K V, .mobj K' V' xs => if h : K' = K ∧ V' = V then some (h.1 ▸ h.2 ▸ xs, []) else none
  | .map _ _, _ => none
  | .ip T, .iptr T' x => if h : T' = T then some (h ▸ x, []) else none
  | .ip _, _ => none
  | .lp g i ps, .lobj g' i' k env => bif g == g' && i == i' && ps.lst then match ps.dec env with
      | some (x, l) => some ((k, x), l)
      | none => none
    else none
  | .lp _ _ _, _ => none
  | .vec k b T, .vec t b' T' n => if T' = T ∧ b' = b then some (n, [(k, t)]) else none
  | .vec _ _ _, _ => none
  | .vrow k T, .vrow t T' xs => if h : T' = T then some (h ▸ xs, [(k, t)]) else none
  | .vrow _ _, _ => none
  | .optp _, .pnil => some ((), [])
  | .optp b, .bptr b' [] => if b' = b then some ((), []) else none
  | .optp b, .optp b' => if b' = b then some ((), []) else none
  | .optp _, _ => none
  | .siter, .siter s n => some ((s, n), [])
  | .siter, _ => none
  | .fnp f p q, .func f' a b => bif f' == f && (p.lst && q.lst) then (match p.dec a, q.dec b with
      | some (x, l), some (y, m) => some ((x, y), l ++ m)
      | _, _ => none) else none
  | .fnp _ _ _, _ => none
  | .tbox t p, .tbox t' a => bif t' == t then p.dec a else none
  | .tbox _ _, _ => none
theorem dec_optp {b : Nat} {a : AVal} {x : (PTy.optp b).El} {l : List (Nat × Nat)} (h : (PTy.optp b).dec a = some (x, l)) : (a = .pnil ∨ a = .bptr b [] ∨ a = .optp b) ∧ l = [] := by
  cases a with
  | pnil => simp only [PTy.dec, Option.some.injEq, Prod.mk.injEq] at h; exact ⟨.inl rfl, h.2.symm⟩
  | bptr b' p =>
    cases p with
    | nil =>
      simp only [PTy.dec] at h
      split at h
      · rename_i hh
        simp only [Option.some.injEq, Prod.mk.injEq] at h
        exact ⟨.inr (.inl (by rw [hh])), h.2.symm⟩
      · cases h
    | cons _ _ => simp [PTy.dec] at h
  | optp b' =>
    simp only [PTy.dec] at h
    split at h
    · rename_i hh
      simp only [Option.some.injEq, Prod.mk.injEq] at h
      exact ⟨.inr (.inr (by rw [hh])), h.2.symm⟩
    · cases h
  | _ => simp [PTy.dec] at h
theorem dec_siter {a : AVal} {x : PTy.siter.El} {l : List (Nat × Nat)} (h : PTy.siter.dec a = some (x, l)) : a = .siter x.1 x.2 ∧ l = [] := by
  cases a with
  | siter s n =>
    simp only [PTy.dec, Option.some.injEq, Prod.mk.injEq] at h
    obtain ⟨rfl, rfl⟩ := h
    exact ⟨rfl, rfl⟩
  | _ => simp [PTy.dec] at h
theorem dec_fnp {f : Fn} {p q : PTy} {a : AVal} {x : (PTy.fnp f p q).El} {l : List (Nat × Nat)} (h : (PTy.fnp f p q).dec a = some (x, l)) : ∃ a1 b1 l1 l2, a = .func f a1 b1 ∧ p.dec a1 = some (x.1, l1) ∧ q.dec b1 = some (x.2, l2) ∧ l = l1 ++ l2 ∧ p.lst = true ∧ q.lst = true := by
  cases a with
  | func f' a b =>
    simp only [PTy.dec] at h
    cases hb : f' == f && (p.lst && q.lst) with
    | false => rw [hb] at h; cases h
    | true =>
      rw [hb] at h
      simp only [cond_true] at h
      simp only [Bool.and_eq_true, beq_iff_eq] at hb
      obtain ⟨rfl, h1, h2⟩ := hb
      split at h
      · rename_i y l1 z l2 e1 e2
        simp only [Option.some.injEq, Prod.mk.injEq] at h
        obtain ⟨rfl, rfl⟩ := h
        exact ⟨a, b, l1, l2, rfl, e1, e2, rfl, h1, h2⟩
      · cases h
  | _ => simp [PTy.dec] at h
theorem dec_tbox {t : TypeId} {p : PTy} {a : AVal} {x : (PTy.tbox t p).El} {l : List (Nat × Nat)} (h : (PTy.tbox t p).dec a = some (x, l)) : ∃ a', a = .tbox t a' ∧ p.dec a' = some (x, l) := by
  cases a with
  | tbox t' a' =>
    simp only [PTy.dec] at h
    cases hb : t' == t with
    | false => rw [hb] at h; cases h
    | true =>
      rw [hb] at h
      have : t' = t := by simpa using hb
      subst this
      exact ⟨a', rfl, h⟩
  | _ => simp [PTy.dec] at h
theorem dec_vec {k b : Nat} {T : DTy} {a : AVal} {x : (PTy.vec k b T).El} {l : List (Nat × Nat)} (h : (PTy.vec k b T).dec a = some (x, l)) : ∃ t, a = .vec t b T x ∧ l = [(k, t)] := by
  cases a with
  | vec t b' T' n =>
    simp only [PTy.dec] at h
    split at h
    · rename_i hh
      obtain ⟨rfl, rfl⟩ := hh
      simp only [Option.some.injEq, Prod.mk.injEq] at h
      obtain ⟨rfl, rfl⟩ := h
      exact ⟨t, rfl, rfl⟩
    · cases h
  | _ => simp [PTy.dec] at h
theorem dec_vrow {k : Nat} {T : DTy} {a : AVal} {x : (PTy.vrow k T).El} {l : List (Nat × Nat)} (h : (PTy.vrow k T).dec a = some (x, l)) : ∃ t, a = .vrow t T x ∧ l = [(k, t)] := by
  cases a with
  | vrow t T' xs =>
    simp only [PTy.dec] at h
    split at h
    · rename_i hh
      subst hh
      simp only [Option.some.injEq, Prod.mk.injEq] at h
      obtain ⟨rfl, rfl⟩ := h
      exact ⟨t, rfl, rfl⟩
    · cases h
  | _ => simp [PTy.dec] at h
theorem dec_lp {g i : Nat} {ps : PTy} {a : AVal} {x : (PTy.lp g i ps).El} {l : List (Nat × Nat)} (h : (PTy.lp g i ps).dec a = some (x, l)) : ∃ env, a = .lobj g i x.1 env ∧ ps.dec env = some (x.2, l) ∧ ps.lst = true := by
  cases a with
  | lobj g' i' k env =>
    simp only [PTy.dec] at h
    cases hb : g == g' && i == i' && ps.lst with
    | false => rw [hb] at h; cases h
    | true =>
      rw [hb] at h
      simp only [cond_true] at h
      simp only [Bool.and_eq_true, beq_iff_eq] at hb
      obtain ⟨⟨rfl, rfl⟩, hl⟩ := hb
      split at h
      · rename_i y m hy
        simp only [Option.some.injEq, Prod.mk.injEq] at h
        obtain ⟨rfl, rfl⟩ := h
        exact ⟨env, rfl, hy, hl⟩
      · cases h
  | _ => simp [PTy.dec] at h
theorem dec_ip {T : DTy} {a : AVal} {x : (PTy.ip T).El} {l : List (Nat × Nat)} (h : (PTy.ip T).dec a = some (x, l)) : a = .iptr T x ∧ l = [] := by
  cases a with
  | iptr T' y =>
    simp only [PTy.dec] at h
    split at h
    · rename_i hh
      subst hh
      simp only [Option.some.injEq, Prod.mk.injEq] at h
      obtain ⟨rfl, rfl⟩ := h
      exact ⟨rfl, rfl⟩
    · cases h
  | _ => simp [PTy.dec] at h
theorem dec_map {K V : DTy} {a : AVal} {x : (PTy.map K V).El} {l : List (Nat × Nat)} (h : (PTy.map K V).dec a = some (x, l)) : a = .mobj K V x ∧ l = [] := by
  cases a with
  | mobj K' V' xs =>
    simp only [PTy.dec] at h
    split at h
    · rename_i hh
      obtain ⟨rfl, rfl⟩ := hh
      simp only [Option.some.injEq, Prod.mk.injEq] at h
      obtain ⟨rfl, rfl⟩ := h
      exact ⟨rfl, rfl⟩
    · cases h
  | _ => simp [PTy.dec] at h
structure ReTok (G : Gh) (dead : List Nat) (G' : Gh) (m : Nat) (l : List (Nat × Nat)) : Prop where
  imm : G'.imm = G.imm
  addr : G'.addr = G.addr.take m
  own : ∀ k t, (k, t) ∈ l → t ∉ dead ∧ G'.own k = G.own t
theorem sameA_self_agg {a v : AVal} (h : sameA a v = true) : a = v := sameA_eq h
theorem under_rp {G G' : Gh} {dead : List Nat} {m : Nat} {l : List (Nat × Nat)} (hr : ReTok G dead G' m l) : (a : AVal) → under m a = true → sameA a a = true → (∀ cs, (Rp G dead a).1 cs → (Rp G' [] a).1 cs) ∧ (∀ vs, (Rp G dead a).2 vs → (Rp G' [] a).2 vs)
  | .nil, _, _ => ⟨fun _ h => h, fun _ h => h⟩
  | .cons a b, hu, hs => by
    simp only [under, Bool.and_eq_true] at hu
    simp only [sameA, Bool.and_eq_true] at hs
    have m1 := under_rp hr a hu.1 hs.1
    have m2 := under_rp hr b hu.2 hs.2
    exact ⟨fun cs h => by
      obtain ⟨c1, c2, rfl, h1, h2⟩ := h
      exact ⟨c1, c2, rfl, m1.1 _ h1, m2.1 _ h2⟩, fun vs h => by
      obtain ⟨v, l, rfl, ⟨cs, hc, hv⟩, hl⟩ := h
      exact ⟨v, l, rfl, ⟨cs, m1.1 _ hc, hv⟩, m2.2 _ hl⟩⟩
  | .pnil, _, _ => ⟨fun _ h => h, fun _ h => h⟩
  | .fnil, _, _ => ⟨fun _ h => h, fun _ h => h⟩
  | .snil, _, _ => ⟨fun _ h => h, fun _ h => h⟩
  | .inil, _, _ => ⟨fun _ h => h, fun _ h => h⟩
  | .bptr b p, hu, _ => ⟨fun cs h => by
      obtain ⟨blk, hb, ho, rfl⟩ := h
      simp only [under, decide_eq_true_eq] at hu
      exact ⟨blk, by rw [hr.addr, List.getElem?_take_of_lt hu]; exact hb, ho, rfl⟩, fun _ h => h⟩
  | .func fn f c, hu, hs => by
    simp only [under, Bool.and_eq_true] at hu
    simp only [sameA, Bool.and_eq_true] at hs
    have m1 := under_rp hr f hu.1 hs.1.2
    have m2 := under_rp hr c hu.2 hs.2
    exact ⟨fun cs h => by
      obtain ⟨fv, cv, rfl, h1, h2⟩ := h
      exact ⟨fv, cv, rfl, m1.2 _ h1, m2.2 _ h2⟩, fun _ h => h⟩
  | .mnil, _, _ => ⟨fun _ h => h, fun _ h => h⟩
  | .mref b, hu, _ => ⟨fun cs h => by
      obtain ⟨blk, hb, rfl⟩ := h
      simp only [under, decide_eq_true_eq] at hu
      exact ⟨blk, by rw [hr.addr, List.getElem?_take_of_lt hu]; exact hb, rfl⟩, fun _ h => h⟩
  | .yref b, hu, _ => ⟨fun cs h => by
      obtain ⟨blk, hb, rfl⟩ := h
      simp only [under, decide_eq_true_eq] at hu
      exact ⟨blk, by rw [hr.addr, List.getElem?_take_of_lt hu]; exact hb, rfl⟩, fun _ h => h⟩
  | .pan _, _, _ => ⟨fun _ h => h, fun _ h => h⟩
  | .d .., _, hs | .own .., _, hs | .iptr .., _, hs | .iface .., _, hs | .tuple .., _, hs | .any, _, hs | .mobj .., _, hs | .lobj .., _, hs => by simp [sameA] at hs
def PTy.isAny : PTy → Bool
  | .any => true
  | _ => false
mutual
def PTy.under (m : Nat) : PTy → Bool
  | .any => false
  | .fix a => Abs.under m a && sameA a a
  | .cons h t => h.under m && t.under m
  | .tup p => p.under m
  | .lp _ _ ps => ps.underL m
  | .dat _ => true
  | .own _ _ => true
  | .nil => true
  | .map _ _ => true
  | .ip _ => true
  | .vec _ _ _ => true
  | .vrow _ _ => true
  | .optp b => decide (b < m)
  | .siter => true
  | .fnp _ p q => p.underL m && q.underL m
  | .tbox _ p => p.under m
def PTy.underL (m : Nat) : PTy → Bool
  | .cons h t => (h.isAny || h.under m) && t.underL m
  | .any => true
  | .dat _ => true
  | .fix _ => true
  | .own _ _ => true
  | .nil => true
  | .tup _ => true
  | .map _ _ => true
  | .ip _ => true
  | .lp _ _ _ => true
  | .vec _ _ _ => true
  | .vrow _ _ => true
  | .optp _ => true
  | .siter => true
  | .fnp _ _ _ => true
  | .tbox _ _ => true
end
theorem underL_of {m : Nat} : {p : PTy} → p.under m = true → p.underL m = true
  | .cons a b, h => by
    simp only [PTy.under, Bool.and_eq_true] at h
    simp only [PTy.underL, Bool.and_eq_true, Bool.or_eq_true]
    exact ⟨.inr h.1, underL_of h.2⟩
  | .any, h => by simp [PTy.under] at h
  | .dat _, _ | .fix _, _ | .own _ _, _ | .nil, _ | .tup _, _ | .map _ _, _ | .ip _, _ | .lp _ _ _, _ | .vec _ _ _, _ | .vrow _ _, _ | .optp _, _ | .siter, _ | .fnp _ _ _, _ | .tbox _ _, _ => by simp [PTy.underL]
def PTy.top (m : Nat) : PTy → Bool
  | .any => true
  | p => p.under m
theorem under_top {m : Nat} {p : PTy} (h : p.under m = true) : p.top m = true := by
  cases p <;> first | rfl | exact h
theorem dec_agg {m : Nat} {p : PTy} {a : AVal} {x : p.El} {l : List (Nat × Nat)} (h : p.dec a = some (x, l)) (hu : p.under m = true) : (p.enc x).agg = a.agg := by
  cases p with
  | any => simp [PTy.under] at hu
  | fix b =>
    simp only [PTy.dec] at h
    cases hb : sameA b a with
    | false => simp [hb] at h
    | true => rw [← sameA_eq hb]; rfl
  | dat T =>
    simp only [PTy.dec] at h
    split at h
    · rename_i y hy
      exact asData_agg hy
    · cases h
  | own k T => cases a <;> first | rfl | simp [PTy.dec] at h
  | cons p q =>
    cases a with
    | cons a b => rfl
    | d T w => cases T <;> first | rfl | simp [PTy.dec] at h
    | _ => simp [PTy.dec] at h
  | nil =>
    cases a with
    | nil => rfl
    | d T w => cases T <;> first | rfl | simp [PTy.dec] at h
    | _ => simp [PTy.dec] at h
  | tup p => cases a <;> first | rfl | simp [PTy.dec] at h
  | map K V => rw [(dec_map h).1]; rfl
  | ip T => rw [(dec_ip h).1]; rfl
  | lp g i ps => obtain ⟨env, rfl, _⟩ := dec_lp h; rfl
  | vec k b T => obtain ⟨t, rfl, _⟩ := dec_vec h; rfl
  | vrow k T => obtain ⟨t, rfl, _⟩ := dec_vrow h; rfl
  | optp b => obtain ⟨rfl | rfl | rfl, _⟩ := dec_optp h <;> rfl
  | siter => rw [(dec_siter h).1]; rfl
  | fnp f p q => obtain ⟨a1, b1, l1, l2, rfl, _⟩ := dec_fnp h; rfl
  | tbox t p => obtain ⟨a', rfl, _⟩ := dec_tbox h; rfl
theorem enc_vrow {p : PTy} {a : AVal} {x : p.El} {l : List (Nat × Nat)} {k : Nat} {T : DTy} {xs : List T.El} (h : p.dec a = some (x, l)) (he : p.enc x = .vrow k T xs) : ∃ t, a = .vrow t T xs ∧ (k, t) ∈ l := by
  cases p with
  | vrow k' T' =>
    obtain ⟨t, rfl, rfl⟩ := dec_vrow h
    simp only [PTy.enc, AVal.vrow.injEq] at he
    obtain ⟨rfl, rfl, h3⟩ := he
    exact ⟨t, by rw [eq_of_heq h3], List.mem_cons_self⟩
  | fix b =>
    have he : b = .vrow k T xs := he
    subst he
    simp only [PTy.dec] at h
    cases a <;> simp [sameA] at h
  | _ => simp [PTy.enc] at he
theorem vrow_enc {m : Nat} {p : PTy} {x : p.El} {l : List (Nat × Nat)} {t : Nat} {T : DTy} {xs : List T.El} (h : p.dec (.vrow t T xs) = some (x, l)) (hu : p.under m = true) : ∃ k, p.enc x = .vrow k T xs ∧ (k, t) ∈ l := by
  cases p with
  | any => simp [PTy.under] at hu
  | fix b => cases b <;> simp [PTy.dec, sameA] at h
  | vrow k T' =>
    obtain ⟨t', e1, rfl⟩ := dec_vrow h
    simp only [AVal.vrow.injEq] at e1
    obtain ⟨rfl, rfl, e3⟩ := e1
    exact ⟨k, by rw [eq_of_heq e3]; rfl, List.mem_cons_self⟩
  | _ => simp [PTy.dec, asData] at h
theorem dec_knd {m : Nat} {p : PTy} {a : AVal} {x : p.El} {l : List (Nat × Nat)} (h : p.dec a = some (x, l)) (hu : p.under m = true) : (p.enc x).knd = a.knd := by
  cases p with
  | any => simp [PTy.under] at hu
  | fix b =>
    simp only [PTy.dec] at h
    cases hb : sameA b a with
    | false => simp [hb] at h
    | true => rw [← sameA_eq hb]; rfl
  | dat T =>
    simp only [PTy.dec] at h
    split at h
    · rename_i y hy
      show Knd.cells = a.knd
      cases a <;> first | rfl | simp [asData] at hy
    · cases h
  | own k T => cases a <;> first | rfl | simp [PTy.dec] at h
  | cons p q =>
    cases a with
    | cons a b => rfl
    | d T w => cases T <;> first | rfl | simp [PTy.dec] at h
    | _ => simp [PTy.dec] at h
  | nil =>
    cases a with
    | nil => rfl
    | d T w => cases T <;> first | rfl | simp [PTy.dec] at h
    | _ => simp [PTy.dec] at h
  | tup p => cases a <;> first | rfl | simp [PTy.dec] at h
  | map K V => rw [(dec_map h).1]; rfl
  | ip T => rw [(dec_ip h).1]; rfl
  | lp g i ps => obtain ⟨env, rfl, _⟩ := dec_lp h; rfl
  | vec k b T => obtain ⟨t, rfl, _⟩ := dec_vec h; rfl
  | vrow k T => obtain ⟨t, rfl, _⟩ := dec_vrow h; rfl
  | optp b => obtain ⟨rfl | rfl | rfl, _⟩ := dec_optp h <;> rfl
  | siter => rw [(dec_siter h).1]; rfl
  | fnp f p q => obtain ⟨a1, b1, l1, l2, rfl, _⟩ := dec_fnp h; rfl
  | tbox t p => obtain ⟨a', rfl, _⟩ := dec_tbox h; rfl
mutual
theorem dec_spec {G G' : Gh} {dead : List Nat} {m : Nat} {l0 : List (Nat × Nat)} (hr : ReTok G dead G' m l0) : {p : PTy} → {a : AVal} → {x : p.El} → {l : List (Nat × Nat)} → p.dec a = some (x, l) → p.under m = true → (∀ q ∈ l, q ∈ l0) → ∀ cs, Rc G dead a cs → Rc G' [] (p.enc x) cs
  | .tup p, a, x, l, h, hu, hl, cs, hc => by
    cases a with
    | tuple a =>
      simp only [PTy.dec] at h
      cases hb : p.lst with
      | false => rw [hb] at h; cases h
      | true =>
        simp only [hb, cond_true] at h
        obtain ⟨vs, rfl, hvs⟩ := hc
        exact ⟨vs, rfl, decL_spec hr h hb (underL_of hu) hl vs hvs⟩
    | _ => simp [PTy.dec] at h
  | .any, a, x, l, h, hu, _, cs, hc => by simp [PTy.under] at hu
  | .fix b, a, x, l, h, hu, _, cs, hc => by
    simp only [PTy.dec] at h
    cases hb : sameA b a with
    | false => simp [hb] at h
    | true =>
      have := sameA_eq hb
      subst this
      simp only [PTy.under, Bool.and_eq_true] at hu
      exact (under_rp hr b hu.1 hu.2).1 cs hc
  | .dat T, a, x, l, h, _, _, cs, hc => by
    simp only [PTy.dec] at h
    split at h
    · rename_i y hy
      simp only [Option.some.injEq, Prod.mk.injEq] at h
      obtain ⟨rfl, _⟩ := h
      have := asData_spec hy cs hc
      show RD G'.imm T y cs
      rw [hr.imm]
      exact this
    · cases h
  | .own k T, a, x, l, h, _, hl, cs, hc => by
    cases a with
    | own t T' xs =>
      simp only [PTy.dec] at h
      split at h
      · rename_i hT
        subst hT
        simp only [Option.some.injEq, Prod.mk.injEq] at h
        obtain ⟨rfl, rfl⟩ := h
        obtain ⟨hrd, A, cap, rfl, hor⟩ := hc
        obtain ⟨hnd, heq⟩ := hr.own k t (hl _ (by simp))
        refine ⟨by rw [hr.imm]; exact hrd, A, cap, rfl, .inr ?_⟩
        rcases hor with hor | hor | ⟨b, row, h1, h2, h3, h4⟩
        · exact absurd hor hnd
        · exact .inl hor
        · exact .inr ⟨b, row, h1, by rw [heq]; exact h2, by rw [hr.imm]; exact h3, h4⟩
      · cases h
    | snil =>
      simp only [PTy.dec, Option.some.injEq, Prod.mk.injEq] at h
      obtain ⟨rfl, _⟩ := h
      have hc : cs = [.slice none 0 0] := hc
      subst hc
      exact ⟨⟨none, 0, rfl, Nat.le_refl _, fun h => absurd rfl h⟩, none, 0, rfl, .inr (.inl ⟨rfl, rfl, rfl⟩)⟩
    | _ => simp [PTy.dec] at h
  | .cons p q, a, x, l, h, hu, hl, cs, hc => by
    simp only [PTy.under, Bool.and_eq_true] at hu
    cases a with
    | cons a b =>
      simp only [PTy.dec] at h
      split at h
      · rename_i y l1 z l2 h1 h2
        simp only [Option.some.injEq, Prod.mk.injEq] at h
        obtain ⟨rfl, rfl⟩ := h
        obtain ⟨c1, c2, rfl, k1, k2⟩ := hc
        exact ⟨c1, c2, rfl, dec_spec hr h1 hu.1 (fun q hq => hl q (by simp [hq])) c1 k1, dec_spec hr h2 hu.2 (fun q hq => hl q (by simp [hq])) c2 k2⟩
      · cases h
    | d T w =>
      cases T with
      | cons T U =>
        simp only [PTy.dec] at h
        split at h
        · rename_i y l1 z l2 h1 h2
          simp only [Option.some.injEq, Prod.mk.injEq] at h
          obtain ⟨rfl, rfl⟩ := h
          obtain ⟨c1, c2, rfl, k1, k2⟩ := hc
          exact ⟨c1, c2, rfl, dec_spec hr h1 hu.1 (fun q hq => hl q (by simp [hq])) c1 k1, dec_spec hr h2 hu.2 (fun q hq => hl q (by simp [hq])) c2 k2⟩
        · cases h
      | _ => simp [PTy.dec] at h
    | _ => simp [PTy.dec] at h
  | .map K V, a, x, l, h, _, _, cs, hc => by
    obtain ⟨rfl, _⟩ := dec_map h
    show RM G'.imm K V x cs
    rw [hr.imm]
    exact hc
  | .ip T, a, x, l, h, _, _, cs, hc => by
    obtain ⟨rfl, _⟩ := dec_ip h
    obtain ⟨b, off, row, e, h1, h2, h3⟩ := hc
    exact ⟨b, off, row, e, by rw [hr.imm]; exact h1, h2, by rw [hr.imm]; exact h3⟩
  | .nil, a, x, l, h, _, _, cs, hc => by
    cases a with
    | nil => exact hc
    | d T w =>
      cases T with
      | nil => exact hc
      | _ => simp [PTy.dec] at h
    | _ => simp [PTy.dec] at h
  | .lp g i ps, a, x, l, h, hu, hl, cs, hc => by
    obtain ⟨env, rfl, hd, hls⟩ := dec_lp h
    exact decL_spec hr hd hls (by simpa [PTy.under] using hu) hl cs hc
  | .vec k b T, a, x, l, h, _, hl, cs, hc => by
    obtain ⟨t, rfl, rfl⟩ := dec_vec h
    obtain ⟨A, cap, rfl, hc⟩ := hc
    obtain ⟨e1, e2⟩ := hr.own k t (hl _ List.mem_cons_self)
    refine ⟨A, cap, rfl, ?_⟩
    rcases hc with hc | ⟨h1, h2⟩
    · exact absurd hc e1
    · exact .inr ⟨e2.trans h1, h2⟩
  | .vrow k T, a, x, l, h, _, _, cs, hc => by
    obtain ⟨t, rfl, rfl⟩ := dec_vrow h
    exact hc
  | .optp b, a, x, l, h, hu, _, cs, hc => by
    simp only [PTy.under, decide_eq_true_eq] at hu
    have key : ∀ blk, G.addr[b]? = some blk → G'.addr[b]? = some blk := fun blk hb => by rw [hr.addr, List.getElem?_take_of_lt hu]; exact hb
    obtain ⟨rfl | rfl | rfl, _⟩ := dec_optp h
    · exact .inl hc
    · obtain ⟨blk, hb, _, rfl⟩ := hc
      exact .inr ⟨blk, key blk hb, rfl⟩
    · rcases hc with hc | ⟨blk, hb, rfl⟩
      · exact .inl hc
      · exact .inr ⟨blk, key blk hb, rfl⟩
  | .siter, a, x, l, h, _, _, cs, hc => by
    obtain ⟨rfl, _⟩ := dec_siter h
    exact hc
  | .fnp f p q, a, x, l, h, hu, hl, cs, hc => by
    obtain ⟨a1, b1, l1, l2, rfl, h1, h2, rfl, hp, hq⟩ := dec_fnp h
    simp only [PTy.under, Bool.and_eq_true] at hu
    obtain ⟨fv, cv, rfl, k1, k2⟩ := hc
    exact ⟨fv, cv, rfl, decL_spec hr h1 hp hu.1 (fun q hq => hl q (by simp [hq])) fv k1, decL_spec hr h2 hq hu.2 (fun q hq => hl q (by simp [hq])) cv k2⟩
  | .tbox t p, a, x, l, h, hu, hl, cs, hc => by
    obtain ⟨a', rfl, hd⟩ := dec_tbox h
    exact dec_spec (p := p) hr hd (by simpa [PTy.under] using hu) hl cs hc
theorem decL_spec {G G' : Gh} {dead : List Nat} {m : Nat} {l0 : List (Nat × Nat)} (hr : ReTok G dead G' m l0) : {p : PTy} → {a : AVal} → {x : p.El} → {l : List (Nat × Nat)} → p.dec a = some (x, l) → p.lst = true → p.underL m = true → (∀ q ∈ l, q ∈ l0) → ∀ vs, Rl G dead a vs → Rl G' [] (p.enc x) vs
  | .cons p q, a, x, l, h, hls, hu, hl, vs, hc => by
    simp only [PTy.underL, Bool.and_eq_true, Bool.or_eq_true] at hu
    cases a with
    | cons a b =>
      simp only [PTy.dec] at h
      split at h
      · rename_i y l1 z l2 h1 h2
        simp only [Option.some.injEq, Prod.mk.injEq] at h
        obtain ⟨rfl, rfl⟩ := h
        obtain ⟨v, us, rfl, ⟨cs, k1, k2⟩, k3⟩ := hc
        have hhead : p.under m = true → ∃ cs, Rc G' [] (p.enc y) cs ∧ (((p.enc y).agg = true ∧ v = .agg cs.toArray) ∨ ((p.enc y).agg = false ∧ cs = [v])) := fun hu1 =>
          ⟨cs, dec_spec hr h1 hu1 (fun q hq => hl q (by simp [hq])) cs k1, by rw [dec_agg h1 hu1]; exact k2⟩
        have htail := decL_spec hr h2 hls hu.2 (fun q hq => hl q (by simp [hq])) us k3
        refine ⟨v, us, rfl, ?_, htail⟩
        rcases hu.1 with hu1 | hu1
        · cases p with
          | any => exact any_v v
          | _ => simp [PTy.isAny] at hu1
        · exact hhead hu1
      · cases h
    | d T w => exact hc.elim
    | _ => simp [PTy.dec] at h
  | .nil, a, x, l, h, _, _, _, vs, hc => by
    cases a with
    | nil => exact hc
    | d T w => exact hc.elim
    | _ => simp [PTy.dec] at h
  | .any, _, _, _, _, h, _, _, _, _ | .fix _, _, _, _, _, h, _, _, _, _ | .dat _, _, _, _, _, h, _, _, _, _ | .own _ _, _, _, _, _, h, _, _, _, _ | .tup _, _, _, _, _, h, _, _, _, _ | .map _ _, _, _, _, _, h, _, _, _, _ | .ip _, _, _, _, _, h, _, _, _, _ | .lp _ _ _, _, _, _, _, h, _, _, _, _ | .vec _ _ _, _, _, _, _, h, _, _, _, _ | .vrow _ _, _, _, _, _, h, _, _, _, _ | .optp _, _, _, _, _, h, _, _, _, _ | .siter, _, _, _, _, h, _, _, _, _ | .fnp _ _ _, _, _, _, _, h, _, _, _, _ | .tbox _ _, _, _, _, _, h, _, _, _, _ => by simp [PTy.lst] at h
end
theorem dec_v {G G' : Gh} {dead : List Nat} {m : Nat} {l0 : List (Nat × Nat)} (hr : ReTok G dead G' m l0) {p : PTy} {a : AVal} {x : p.El} {l : List (Nat × Nat)} (h : p.dec a = some (x, l)) (hu : p.top m = true) (hl : ∀ q ∈ l, q ∈ l0) {v : Value} (hv : Rv G dead a v) : Rv G' [] (p.enc x) v := by
  have main : p.under m = true → Rv G' [] (p.enc x) v := fun hu => by
    obtain ⟨cs, hc, hh⟩ := hv
    refine ⟨cs, dec_spec hr h hu hl cs hc, ?_⟩
    rw [dec_agg h hu]
    exact hh
  cases p with
  | any => exact any_v v
  | _ => exact main hu
@[reducible] def Els : List PTy → Type
  | [] => Unit
  | .any :: ps => Els ps
  | .fix _ :: ps => Els ps
  | .nil :: ps => Els ps
  | .dat T :: ps => T.El × Els ps
  | .own _ T :: ps => List T.El × Els ps
  | .cons h t :: ps => (h.El × t.El) × Els ps
  | .tup p :: ps => p.El × Els ps
  | .map K V :: ps => List (K.El × V.El) × Els ps
  | .ip T :: ps => T.El × Els ps
  | .lp _ _ q :: ps => (Nat × q.El) × Els ps
  | .vec _ _ _ :: ps => Nat × Els ps
  | .vrow _ T :: ps => List T.El × Els ps
  | .optp _ :: ps => Els ps
  | .siter :: ps => (ByteArray × Nat) × Els ps
  | .fnp _ p q :: ps => (p.El × q.El) × Els ps
  | .tbox _ p :: ps => p.El × Els ps
def encs : (ps : List PTy) → Els ps → List AVal
  | [], _ => []
  | .any :: ps, x => .any :: encs ps x
  | .fix a :: ps, x => a :: encs ps x
  | .nil :: ps, x => .nil :: encs ps x
  | .dat T :: ps, x => .d T x.1 :: encs ps x.2
  | .own k T :: ps, x => .own k T x.1 :: encs ps x.2
  | .cons h t :: ps, x => .cons (h.enc x.1.1) (t.enc x.1.2) :: encs ps x.2
  | .tup p :: ps, x => .tuple (p.enc x.1) :: encs ps x.2
  | .map K V :: ps, x => .mobj K V x.1 :: encs ps x.2
  | .ip T :: ps, x => .iptr T x.1 :: encs ps x.2
  | .lp g i q :: ps, x => .lobj g i x.1.1 (q.enc x.1.2) :: encs ps x.2
  | .vec k b T :: ps, x => .vec k b T x.1 :: encs ps x.2
  | .vrow k T :: ps, x => .vrow k T x.1 :: encs ps x.2
  | .optp b :: ps, x => .optp b :: encs ps x
  | .siter :: ps, x => .siter x.1.1 x.1.2 :: encs ps x.2
  | .fnp f p q :: ps, x => .func f (p.enc x.1.1) (q.enc x.1.2) :: encs ps x.2
  | .tbox t p :: ps, x => .tbox t (p.enc x.1) :: encs ps x.2
def decs : (ps : List PTy) → List AVal → Option (Els ps × List (Nat × Nat))
  | [], _ => some ((), [])
  | _ :: _, [] => none
  | .any :: ps, a :: az => match PTy.any.dec a, decs ps az with
    | some (_, l), some (y, m) => some (y, l ++ m)
    | _, _ => none
  | .fix b :: ps, a :: az => match (PTy.fix b).dec a, decs ps az with
    | some (_, l), some (y, m) => some (y, l ++ m)
    | _, _ => none
  | .nil :: ps, a :: az => match PTy.nil.dec a, decs ps az with
    | some (_, l), some (y, m) => some (y, l ++ m)
    | _, _ => none
  | .dat T :: ps, a :: az => match (PTy.dat T).dec a, decs ps az with
    | some (x, l), some (y, m) => some ((x, y), l ++ m)
    | _, _ => none
  | .own k T :: ps, a :: az => match (PTy.own k T).dec a, decs ps az with
    | some (x, l), some (y, m) => some ((x, y), l ++ m)
    | _, _ => none
  | .cons h t :: ps, a :: az => match (PTy.cons h t).dec a, decs ps az with
    | some (x, l), some (y, m) => some ((x, y), l ++ m)
    | _, _ => none
  | .tup p :: ps, a :: az => match (PTy.tup p).dec a, decs ps az with
    | some (x, l), some (y, m) => some ((x, y), l ++ m)
    | _, _ => none
  | .map K V :: ps, a :: az => match (PTy.map K V).dec a, decs ps az with
    | some (x, l), some (y, m) => some ((x, y), l ++ m)
    | _, _ => none
  | .ip T :: ps, a :: az => match (PTy.ip T).dec a, decs ps az with
    | some (x, l), some (y, m) => some ((x, y), l ++ m)
    | _, _ => none
  | .lp g i q :: ps, a :: az => match (PTy.lp g i q).dec a, decs ps az with
    | some (x, l), some (y, m) => some ((x, y), l ++ m)
    | _, _ => none
  | .vec k b T :: ps, a :: az => match (PTy.vec k b T).dec a, decs ps az with
    | some (x, l), some (y, m) => some ((x, y), l ++ m)
    | _, _ => none
  | .vrow k T :: ps, a :: az => match (PTy.vrow k T).dec a, decs ps az with
    | some (x, l), some (y, m) => some ((x, y), l ++ m)
    | _, _ => none
  | .optp b :: ps, a :: az => match (PTy.optp b).dec a, decs ps az with
    | some (_, l), some (y, m) => some (y, l ++ m)
    | _, _ => none
  | .siter :: ps, a :: az => match PTy.siter.dec a, decs ps az with
    | some (x, l), some (y, m) => some ((x, y), l ++ m)
    | _, _ => none
  | .fnp f p q :: ps, a :: az => match (PTy.fnp f p q).dec a, decs ps az with
    | some (x, l), some (y, m) => some ((x, y), l ++ m)
    | _, _ => none
  | .tbox t p :: ps, a :: az => match (PTy.tbox t p).dec a, decs ps az with
    | some (x, l), some (y, m) => some ((x, y), l ++ m)
    | _, _ => none
theorem decs_cons {p : PTy} {ps : List PTy} {a : AVal} {az : List AVal} {x : Els (p :: ps)} {l : List (Nat × Nat)} (h : decs (p :: ps) (a :: az) = some (x, l)) :
    ∃ (y : p.El) (l1 : List (Nat × Nat)) (z : Els ps) (l2 : List (Nat × Nat)), p.dec a = some (y, l1) ∧ decs ps az = some (z, l2) ∧ l = l1 ++ l2 ∧ encs (p :: ps) x = p.enc y :: encs ps z := by
  cases p
  all_goals
    simp only [decs] at h
    split at h
    · rename_i y l1 z l2 h1 h2
      simp only [Option.some.injEq, Prod.mk.injEq] at h
      obtain ⟨rfl, rfl⟩ := h
      exact ⟨_, l1, z, l2, h1, h2, rfl, rfl⟩
    · cases h
theorem decs_len : {ps : List PTy} → {az : List AVal} → {x : Els ps} → {l : List (Nat × Nat)} → decs ps az = some (x, l) → ps.length ≤ az.length
  | [], _, _, _, _ => by simp
  | p :: ps, a :: az, x, l, h => by
    obtain ⟨y, l1, z, l2, h1, h2, _⟩ := decs_cons h
    have := decs_len h2
    simp only [List.length_cons]
    omega
  | p :: ps, [], x, l, h => by simp [decs] at h
theorem encs_len : {ps : List PTy} → {x : Els ps} → (encs ps x).length = ps.length
  | [], _ => rfl
  | p :: ps, x => by cases p <;> simp [encs, encs_len (ps := ps)]
theorem decs_get : {ps : List PTy} → {az : List AVal} → {x : Els ps} → {l : List (Nat × Nat)} → decs ps az = some (x, l) → ∀ i, i < ps.length → ∃ (p : PTy) (a : AVal) (y : p.El) (m : List (Nat × Nat)), ps[i]? = some p ∧ az[i]? = some a ∧ p.dec a = some (y, m) ∧ (encs ps x)[i]? = some (p.enc y) ∧ (∀ q ∈ m, q ∈ l)
  | p :: ps, a :: az, x, l, h, i, hi => by
    obtain ⟨y, l1, z, l2, h1, h2, rfl, he⟩ := decs_cons h
    cases i with
    | zero => exact ⟨p, a, y, l1, rfl, rfl, h1, by rw [he]; rfl, fun q hq => by simp [hq]⟩
    | succ i =>
      obtain ⟨p', a', y', m, g1, g2, g3, g4, g5⟩ := decs_get h2 i (by simpa using hi)
      exact ⟨p', a', y', m, by simpa using g1, by simpa using g2, g3, by rw [he]; simpa using g4, fun q hq => by simp [g5 q hq]⟩
  | [], _, _, _, _, i, hi => by simp at hi
  | p :: ps, [], x, l, h, _, _ => by simp [decs] at h
def okToks (dead : List Nat) : List (Nat × Nat) → Bool
  | [] => true
  | (k, t) :: l => !dead.contains t && (l.all fun q => (q.1 == k && q.2 == t) || (q.1 != k && q.2 != t)) && okToks dead l
theorem okToks_spec {dead : List Nat} : {l : List (Nat × Nat)} → okToks dead l = true → (∀ k t, (k, t) ∈ l → t ∉ dead) ∧ (∀ k t t', (k, t) ∈ l → (k, t') ∈ l → t = t') ∧ (∀ k k' t, (k, t) ∈ l → (k', t) ∈ l → k = k')
  | [], _ => ⟨fun _ _ h => by simp at h, fun _ _ _ h => by simp at h, fun _ _ _ h => by simp at h⟩
  | (k, t) :: l, h => by
    simp only [okToks, Bool.and_eq_true, Bool.not_eq_true'] at h
    obtain ⟨⟨h1, h2⟩, h3⟩ := h
    obtain ⟨g1, g2, g3⟩ := okToks_spec h3
    have ne : ∀ q ∈ l, (q.1 = k ∧ q.2 = t) ∨ (q.1 ≠ k ∧ q.2 ≠ t) := fun q hq => by
      have := List.all_eq_true.1 h2 q hq
      simpa using this
    refine ⟨fun k' t' hm => ?_, fun k' t1 t2 hm1 hm2 => ?_, fun k1 k2 t' hm1 hm2 => ?_⟩
    · rcases List.mem_cons.1 hm with hm | hm
      · simp only [Prod.mk.injEq] at hm
        obtain ⟨rfl, rfl⟩ := hm
        intro hd
        have := List.contains_iff_mem.2 hd
        rw [h1] at this; cases this
      · exact g1 _ _ hm
    · rcases List.mem_cons.1 hm1 with hm1 | hm1 <;> rcases List.mem_cons.1 hm2 with hm2 | hm2
      · simp only [Prod.mk.injEq] at hm1 hm2; rw [hm1.2, hm2.2]
      · simp only [Prod.mk.injEq] at hm1
        rcases ne _ hm2 with e | e
        · exact hm1.2.trans e.2.symm
        · exact absurd hm1.1 e.1
      · simp only [Prod.mk.injEq] at hm2
        rcases ne _ hm1 with e | e
        · exact e.2.trans hm2.2.symm
        · exact absurd hm2.1 e.1
      · exact g2 _ _ _ hm1 hm2
    · rcases List.mem_cons.1 hm1 with hm1 | hm1 <;> rcases List.mem_cons.1 hm2 with hm2 | hm2
      · simp only [Prod.mk.injEq] at hm1 hm2; rw [hm1.1, hm2.1]
      · simp only [Prod.mk.injEq] at hm1
        rcases ne _ hm2 with e | e
        · exact hm1.1.trans e.1.symm
        · exact absurd hm1.2 e.2
      · simp only [Prod.mk.injEq] at hm2
        rcases ne _ hm1 with e | e
        · exact e.1.trans hm2.1.symm
        · exact absurd hm2.2 e.2
      · exact g3 _ _ _ hm1 hm2
end Go.Proofs.YtibmgbalfhfcdaaDoor.Abs
set_option linter.unusedVariables false
set_option linter.unusedSimpArgs false
namespace Go.Proofs.YtibmgbalfhfcdaaDoor.Abs
structure SPat where
  env : List PTy
  box : List PTy
  nt : Nat
@[reducible] def SPat.El (S : SPat) : Type := Els S.env × Els S.box
def SPat.encE (S : SPat) (x : S.El) : List AVal := encs S.env x.1
def SPat.encB (S : SPat) (x : S.El) : Bx := ⟨encs S.box x.2, [], S.nt⟩
def SPat.ok (S : SPat) : Bool := S.env.all (·.top S.box.length) && S.box.all (·.under S.box.length)
def SPat.dec (S : SPat) (env : List AVal) (B : Bx) : Option S.El :=
  match decs S.env env, decs S.box B.box with
  | some (x, l), some (y, m) => bif okToks B.dead (l ++ m) && env.length == S.env.length && (l ++ m).all (fun q => decide (q.1 < S.nt)) then some (x, y) else none
  | _, _ => none
def SPat.toks (S : SPat) (env : List AVal) (B : Bx) : List Nat :=
  match decs S.env env, decs S.box B.box with
  | some (_, l), some (_, m) => (l ++ m).map (·.2)
  | _, _ => []
theorem find_tok {l : List (Nat × Nat)} {k t : Nat} (hu : ∀ k t t', (k, t) ∈ l → (k, t') ∈ l → t = t') (h : (k, t) ∈ l) : (l.find? fun q => q.1 == k) = some (k, t) := by
  cases hf : l.find? fun q => q.1 == k with
  | none =>
    have := List.find?_eq_none.1 hf (k, t) h
    simp at this
  | some q =>
    have h1 := List.find?_some hf
    have h2 := List.mem_of_find?_eq_some hf
    obtain ⟨k', t'⟩ := q
    simp only [beq_iff_eq] at h1
    subst h1
    rw [hu _ _ _ h2 h]
theorem norm_sound' {S : SPat} {n : Nat} {env : List AVal} {B : Bx} {x : S.El} {G : Gh} {a : Act} {w : World} (hS : S.ok = true) (hn : n ≤ S.box.length) (h : S.dec env B = some x) (hok : Ok G B env a w) :
    ∃ G', Goes n G a w G' (S.encB x) (S.encE x) a w ∧ G'.imm = G.imm ∧ G'.addr = G.addr.take S.box.length ∧ S.box.length ≤ G.addr.length ∧ (∀ k b c, G'.own k = some (b, c) → ∃ t, t ∈ S.toks env B ∧ G.own t = some (b, c)) := by
  unfold SPat.dec at h
  split at h
  · rename_i x1 l y1 m h1 h2
    cases hb : okToks B.dead (l ++ m) && env.length == S.env.length && (l ++ m).all (fun q => decide (q.1 < S.nt)) with
    | false => rw [hb] at h; cases h
    | true =>
      simp only [hb, cond_true, Option.some.injEq] at h
      subst h
      simp only [Bool.and_eq_true, beq_iff_eq] at hb
      obtain ⟨⟨ht, hlen⟩, hnt⟩ := hb
      obtain ⟨t1, t2, t3⟩ := okToks_spec ht
      simp only [SPat.ok, Bool.and_eq_true] at hS
      have hbl := decs_len h2
      have haddr : S.box.length ≤ G.addr.length := by rw [hok.w.len]; exact hbl
      let G' : Gh := { imm := G.imm, own := fun k => ((l ++ m).find? fun q => q.1 == k).bind fun q => G.own q.2, addr := G.addr.take S.box.length }
      have hr : ReTok G B.dead G' S.box.length (l ++ m) := ⟨rfl, rfl, fun k t hk => ⟨t1 k t hk, by
        show ((l ++ m).find? fun q => q.1 == k).bind (fun q => G.own q.2) = _
        rw [find_tok t2 hk]; rfl⟩⟩
      have hown : ∀ k b c, G'.own k = some (b, c) → ∃ t, (k, t) ∈ l ++ m ∧ G.own t = some (b, c) := fun k b c hk => by
        have hk' : ((l ++ m).find? fun q => q.1 == k).bind (fun q => G.own q.2) = some (b, c) := hk
        cases hf : (l ++ m).find? fun q => q.1 == k with
        | none => rw [hf] at hk'; cases hk'
        | some q =>
          rw [hf] at hk'
          have e1 := List.find?_some hf
          have e2 := List.mem_of_find?_eq_some hf
          simp only [beq_iff_eq] at e1
          exact ⟨q.2, by rw [← e1]; exact e2, hk'⟩
      have htoks : S.toks env B = (l ++ m).map (·.2) := by unfold SPat.toks; rw [h1, h2]
      refine ⟨G', ?_, rfl, rfl, haddr, fun k b c hk => by
        obtain ⟨t, hm, ho⟩ := hown k b c hk
        exact ⟨t, by rw [htoks]; exact List.mem_map.2 ⟨(k, t), hm, rfl⟩, ho⟩⟩
      have hext : Ext G w G' w := by
        refine ⟨rfl, rfl, rfl, Nat.le_refl _, fun _ _ _ _ => rfl, ImmLe.refl _, fun _ _ _ => rfl, fun b hb => .inl (List.mem_of_mem_take hb), fun k b c hk => ?_⟩
        obtain ⟨t, hm, ho⟩ := hown k b c hk
        exact .inl ⟨t, ho⟩
      refine ⟨⟨⟨?_, fun t => ?_⟩, ⟨?_, ?_, fun i b c hb hc => ?_, hok.w.imm, fun b hb => hok.w.disj b (List.mem_of_mem_take hb), fun k b c hk => ?_, fun k k' b c c' hk hk' => ?_, hok.w.tab.ext hext, ?_⟩, hok.marks.ext hext⟩, hext, fun _ hd => .inl hd, fun i b hi hb => ?_⟩
      · rw [hok.env.len, hlen]; simp [SPat.encE, encs_len]
      · by_cases hlt : t < S.env.length
        · obtain ⟨p, a', y, q, g1, g2, g3, g4, g5⟩ := decs_get h1 t hlt
          have hv := hok.env.val t
          rw [List.getD_eq_getElem?_getD, g2] at hv
          have hu : p.top S.box.length = true := List.all_eq_true.1 hS.1 p (List.mem_of_getElem? g1)
          have := dec_v hr g3 hu (fun z hz => List.mem_append_left _ (g5 z hz)) hv
          show Rv G' [] ((encs S.env x1).getD t .any) _
          rw [List.getD_eq_getElem?_getD, g4]
          exact this
        · have : (S.encE (x1, y1)).getD t .any = .any := by
            rw [List.getD_eq_getElem?_getD, List.getElem?_eq_none (by simp [SPat.encE, encs_len]; omega)]; rfl
          rw [this]
          exact any_v _
      · simp [G', SPat.encB, encs_len]; omega
      · exact hok.w.nodup.sublist (List.take_sublist _ _)
      · have hi : i < S.box.length := by
          have := (List.getElem?_eq_some_iff.1 hb).1
          simp [G'] at this; omega
        have hb' : G.addr[i]? = some b := by
          have : (G.addr.take S.box.length)[i]? = some b := hb
          rwa [List.getElem?_take_of_lt hi] at this
        obtain ⟨p, a', y, q, g1, g2, g3, g4, g5⟩ := decs_get h2 i hi
        obtain ⟨o, cs, k1, k0, k2⟩ := hok.w.boxes i b a' hb' g2
        have hu : p.under S.box.length = true := List.all_eq_true.1 hS.2 p (List.mem_of_getElem? g1)
        have hc' : (encs S.box y1)[i]? = some c := hc
        rw [g4] at hc'
        cases hc'
        exact ⟨o, cs, k1, by rw [dec_knd g3 hu]; exact k0, dec_spec hr g3 hu (fun z hz => List.mem_append_right _ (g5 z hz)) _ k2⟩
      · obtain ⟨t, hm, ho⟩ := hown k b c hk
        obtain ⟨_, k2, k3⟩ := hok.w.own t b c ho
        refine ⟨by have := List.all_eq_true.1 hnt (k, t) hm; simpa [SPat.encB] using this, k2.of rfl fun i d e1 e2 => ?_, k3⟩
        have hi : i < S.box.length := by
          have := (List.getElem?_eq_some_iff.1 e1).1
          simp [G'] at this; omega
        have e1' : G.addr[i]? = some b := by
          have : (G.addr.take S.box.length)[i]? = some b := e1
          rwa [List.getElem?_take_of_lt hi] at this
        obtain ⟨p, a', y, q, g1, g2, g3, g4, g5⟩ := decs_get h2 i hi
        have hu : p.under S.box.length = true := List.all_eq_true.1 hS.2 p (List.mem_of_getElem? g1)
        have e2' : (encs S.box y1)[i]? = some d := e2
        rw [g4] at e2'
        cases e2'
        exact .inr ⟨i, a', e1', g2, fun h => by
          obtain ⟨T, xs, rfl⟩ := isT_form h
          obtain ⟨k', e3, e4⟩ := vrow_enc g3 hu
          have := t3 k' k t (List.mem_append_right _ (g5 _ e4)) hm
          subst this
          rw [e3]
          exact isT_self _ _ _⟩
      · obtain ⟨t, hm, ho⟩ := hown k b c hk
        obtain ⟨t', hm', ho'⟩ := hown k' b c' hk'
        have := hok.w.inj t t' b c c' ho ho'
        subst this
        exact t3 k k' t hm hm'
      · intro i t T xs hx
        have hi : i < S.box.length := by
          have := (List.getElem?_eq_some_iff.1 hx).1
          simpa [SPat.encB, encs_len] using this
        obtain ⟨p, a', y, q, g1, g2, g3, g4, g5⟩ := decs_get h2 i hi
        have hx' : (encs S.box y1)[i]? = some (.vrow t T xs) := hx
        rw [g4] at hx'
        obtain ⟨t0, rfl, hk⟩ := enc_vrow g3 (Option.some.inj hx')
        obtain ⟨v1, v2, v3⟩ := hok.w.vec i t0 T xs g2
        have hkm := List.mem_append_right l (g5 _ hk)
        refine ⟨List.not_mem_nil, fun j T' ys hj => ?_, ?_⟩
        · have hjl : j < S.box.length := by
            have := (List.getElem?_eq_some_iff.1 hj).1
            simpa [SPat.encB, encs_len] using this
          obtain ⟨p2, a2, y2, q2, f1, f2, f3, f4, f5⟩ := decs_get h2 j hjl
          have hj' : (encs S.box y1)[j]? = some (.vrow t T' ys) := hj
          rw [f4] at hj'
          obtain ⟨t2', rfl, hk2⟩ := enc_vrow f3 (Option.some.inj hj')
          have := t2 t t2' t0 (List.mem_append_right l (f5 _ hk2)) hkm
          subst this
          exact v2 j T' ys f2
        · obtain ⟨blk, n, cells, e, w1, w2⟩ := v3
          refine ⟨blk, n, cells, e, ?_, w2⟩
          exact (hr.own t t0 hkm).2.trans w1
      · show (G.addr.take S.box.length)[i]? = some b
        rw [List.getElem?_take_of_lt (by omega)]
        exact hb
  · cases h
theorem norm_sound {S : SPat} {n : Nat} {env : List AVal} {B : Bx} {x : S.El} {G : Gh} {a : Act} {w : World} (hS : S.ok = true) (hn : n ≤ S.box.length) (h : S.dec env B = some x) (hok : Ok G B env a w) :
    ∃ G', Goes n G a w G' (S.encB x) (S.encE x) a w := by
  obtain ⟨G', h1, _⟩ := norm_sound' hS hn h hok
  exact ⟨G', h1⟩
def sameX : AExit → AExit → Bool
  | .normal, .normal => true
  | .exit i, .exit j => i == j
  | .ret, .ret => true
  | _, _ => false
theorem sameX_eq {a b : AExit} (h : sameX a b = true) : a = b := by
  cases a <;> cases b <;> simp [sameX] at h
  · rfl
  · rw [h]
  · rfl
def codeX : List AExit → AExit → Option Nat
  | _, .normal => some 0
  | [], _ => none
  | x :: xs, e => bif sameX x e then some 1 else match codeX xs e with
    | some n => some (n + 1)
    | none => none
def nthX (xs : List AExit) : Nat → AExit
  | 0 => .normal
  | n + 1 => xs.getD n .normal
theorem codeX_spec : {xs : List AExit} → {e : AExit} → {n : Nat} → codeX xs e = some n → (n = 0 ∧ e = .normal) ∨ (∃ m, n = m + 1 ∧ xs[m]? = some e)
  | _, .normal, n, h => by
    simp only [codeX, Option.some.injEq] at h
    exact .inl ⟨h.symm, rfl⟩
  | [], .exit _, n, h | [], .ret, n, h => by simp [codeX] at h
  | x :: xs, .exit i, n, h => by
    simp only [codeX] at h
    cases hb : sameX x (.exit i) with
    | true =>
      simp only [hb, cond_true, Option.some.injEq] at h
      exact .inr ⟨0, h.symm, by rw [sameX_eq hb]; rfl⟩
    | false =>
      simp only [hb, cond_false] at h
      split at h
      · rename_i m hm
        simp only [Option.some.injEq] at h
        rcases codeX_spec hm with ⟨_, h2⟩ | ⟨q, h1, h2⟩
        · cases h2
        · exact .inr ⟨q + 1, by omega, by simpa using h2⟩
      · cases h
  | x :: xs, .ret, n, h => by
    simp only [codeX] at h
    cases hb : sameX x .ret with
    | true =>
      simp only [hb, cond_true, Option.some.injEq] at h
      exact .inr ⟨0, h.symm, by rw [sameX_eq hb]; rfl⟩
    | false =>
      simp only [hb, cond_false] at h
      split at h
      · rename_i m hm
        simp only [Option.some.injEq] at h
        rcases codeX_spec hm with ⟨_, h2⟩ | ⟨q, h1, h2⟩
        · cases h2
        · exact .inr ⟨q + 1, by omega, by simpa using h2⟩
      · cases h
def kst (S : SPat) (xs : List AExit) (e : AExit) (env : List AVal) (B : Bx) : Option (Nat × S.El) :=
  match codeX xs e with
  | some n => match S.dec env B with
    | some s => some (n, s)
    | none => none
  | none => none
def iter {α : Type} (step : α → Option (Nat × α)) : Nat → α → Option (Nat × α)
  | 0, _ => none
  | f + 1, x => (step x).bind fun r => match r.1 with
    | 0 => iter step f r.2
    | n + 1 => some (n, r.2)
theorem iter_rounds {n : Nat} {rd : Bool} {P : Program} {C : CalT} {Ls : List LoopT} {c : Code} {S : SPat} {xs : List AExit} {step : S.El → Option (Nat × S.El)} (hm : P.follows .mixedOrders = true) (hC : CV P C) (hL : LV n P rd (loopsOf c) Ls) (hS : S.ok = true) (hn : n ≤ S.box.length)
    (hbody : ∀ s, codeR P C c Ls (S.encE s) (S.encB s) (kst S xs) = step s) : ∀ (fuel : Nat) (s : S.El) (q : Nat) (s' : S.El), iter step fuel s = some (q, s') → ∀ (ro : Option Nat), ro.isSome = rd → ∀ (G : Gh) (a : Act) (w : World) (Q : Exit → Act → World → Prop),
      Ok G (S.encB s) (S.encE s) a w → (∀ G1 a1 w1, Goes n G a w G1 (S.encB s') (S.encE s') a1 w1 → Q (nthX xs (q + 1)).real a1 w1) → (∀ q, q < xs.length → xs[q]? ≠ some .normal) → Code.roundsIn (Fr ro) 0 P c Q fuel a w
  | 0, _, _, _, h, _, _, _, _, _, _, _, _, _ => by simp [iter] at h
  | fuel + 1, s, q, s', h, ro, hro, G, a, w, Q, hok, hQ, hxs => by
    simp only [iter] at h
    cases hst : step s with
    | none => rw [hst] at h; cases h
    | some r =>
      rw [hst] at h
      simp only [Option.bind_some] at h
      have hb := (hbody s).trans hst
      obtain ⟨e, env', B', hk, haw⟩ := codeR_sound hm hC c hL hb
      unfold kst at hk
      split at hk
      · rename_i m hc
        split at hk
        · rename_i s1 hd
          simp only [Option.some.injEq] at hk
          subst hk
          rw [roundsIn_succ]
          refine haw ro hro G a w _ hok fun G1 a1 w1 g1 => ?_
          obtain ⟨G2, g2⟩ := norm_sound (n := n) hS hn hd g1.ok
          rcases codeX_spec hc with ⟨rfl, rfl⟩ | ⟨p, rfl, hp⟩
          · simp only at h
            exact iter_rounds hm hC hL hS hn hbody fuel s1 q s' h ro hro G2 a1 w1 Q g2.ok (fun G3 a3 w3 g3 => hQ G3 a3 w3 ((g1.trans g2).trans g3)) hxs
          · simp only [Option.some.injEq, Prod.mk.injEq] at h
            obtain ⟨rfl, rfl⟩ := h
            have he : e = nthX xs (p + 1) := by simp [nthX, List.getD_eq_getElem?_getD, hp]
            have hne : e ≠ .normal := fun h0 => hxs p (List.getElem?_eq_some_iff.1 hp).1 (by rw [hp, h0])
            have := hQ G2 a1 w1 (g1.trans g2)
            rw [← he] at this
            cases e with
            | normal => exact absurd rfl hne
            | exit i => exact this
            | ret => exact this
        · cases hk
      · cases hk
def realXs : List AExit → Bool
  | [] => true
  | .normal :: _ => false
  | _ :: xs => realXs xs
theorem realXs_spec : {xs : List AExit} → realXs xs = true → ∀ q, q < xs.length → xs[q]? ≠ some .normal
  | [], _, q, hq => by simp at hq
  | .exit i :: xs, h, 0, _ => by simp
  | .ret :: xs, h, 0, _ => by simp
  | .exit i :: xs, h, q + 1, hq => by simpa using realXs_spec (xs := xs) h q (by simpa using hq)
  | .ret :: xs, h, q + 1, hq => by simpa using realXs_spec (xs := xs) h q (by simpa using hq)
def natK {X : Type} (n : Nat) (a : X) (b : Nat → X) : X := match n with
  | 0 => a
  | m + 1 => b m
def selX {X : Type} (k : AExit → Option X) : List AExit → Nat → Option X
  | [], _ => none
  | [x], _ => k x
  | x :: xs, n => natK n (k x) fun m => selX k xs m
theorem selX_spec {X : Type} {k : AExit → Option X} {r : X} : {xs : List AExit} → {n : Nat} → selX k xs n = some r → n < xs.length → k (nthX xs (n + 1)) = some r
  | [x], 0, h, _ => h
  | x :: y :: xs, 0, h, _ => h
  | x :: y :: xs, n + 1, h, hn => by
    have : selX k (y :: xs) n = some r := h
    have := selX_spec this (by simpa using hn)
    exact this
theorem iter_lt {P : Program} {C : CalT} {Ls : List LoopT} {c : Code} {S : SPat} {xs : List AExit} {step : S.El → Option (Nat × S.El)} (hbody : ∀ s, codeR P C c Ls (S.encE s) (S.encB s) (kst S xs) = step s) (hm : P.follows .mixedOrders = true) (hC : CV P C) {n : Nat} {rd : Bool} (hL : LV n P rd (loopsOf c) Ls) :
    ∀ (fuel : Nat) (s : S.El) (q : Nat) (s' : S.El), iter step fuel s = some (q, s') → q < xs.length
  | 0, _, _, _, h => by simp [iter] at h
  | fuel + 1, s, q, s', h => by
    simp only [iter] at h
    cases hst : step s with
    | none => rw [hst] at h; cases h
    | some r =>
      rw [hst] at h
      simp only [Option.bind_some] at h
      obtain ⟨e, env', B', hk, _⟩ := codeR_sound hm hC c hL ((hbody s).trans hst)
      unfold kst at hk
      split at hk
      · rename_i m hc
        split at hk
        · simp only [Option.some.injEq] at hk
          subst hk
          rcases codeX_spec hc with ⟨rfl, rfl⟩ | ⟨p, rfl, hp⟩
          · exact iter_lt hbody hm hC hL fuel _ q s' h
          · simp only [Option.some.injEq, Prod.mk.injEq] at h
            obtain ⟨rfl, _⟩ := h
            exact (List.getElem?_eq_some_iff.1 hp).1
        · cases hk
      · cases hk
def loopT (S : SPat) (xs : List AExit) (run : S.El → Option (Nat × S.El)) : LoopT :=
  ⟨fun X env B k => match S.dec env B with
    | some s => (run s).bind fun r => selX (fun e => k e (S.encE r.2) (S.encB r.2)) xs r.1
    | none => none⟩
theorem loopT_valid {n : Nat} {rd : Bool} {P : Program} {C : CalT} {Ls : List LoopT} {c : Code} {S : SPat} {xs : List AExit} {step run : S.El → Option (Nat × S.El)} {fuel : S.El → Nat} (hm : P.follows .mixedOrders = true) (hC : CV P C) (hL : LV n P rd (loopsOf c) Ls) (hS : S.ok = true) (hn : n ≤ S.box.length) (hx : realXs xs = true)
    (hbody : ∀ s, codeR P C c Ls (S.encE s) (S.encB s) (kst S xs) = step s) (hrun : ∀ s r, run s = some r → iter step (fuel s) s = some r) : LValid n P (.loop c) (loopT S xs run) rd := by
  intro X env B k r h
  unfold loopT at h
  simp only at h
  split at h
  · rename_i s hd
    cases hr : run s with
    | none => rw [hr] at h; cases h
    | some q =>
      rw [hr] at h
      simp only [Option.bind_some] at h
      have hi := hrun s q hr
      have hlt := iter_lt hbody hm hC hL (fuel s) s q.1 q.2 hi
      refine ⟨nthX xs (q.1 + 1), S.encE q.2, S.encB q.2, selX_spec h hlt, fun ro hro G a w Q hok hQ => ?_⟩
      obtain ⟨G1, g1⟩ := norm_sound (n := n) hS hn hd hok
      exact wpIn_loop_rounds (fuel s) (iter_rounds hm hC hL hS hn hbody (fuel s) s q.1 q.2 hi ro hro G1 a w Q g1.ok (fun G2 a2 w2 g2 => hQ G2 a2 w2 (g1.trans g2)) (realXs_spec hx))
  · cases h
end Go.Proofs.YtibmgbalfhfcdaaDoor.Abs
set_option linter.unusedVariables false
set_option linter.unusedSimpArgs false
namespace Go.Proofs.YtibmgbalfhfcdaaDoor.Abs
def AVal.ren (fb : Nat → Option Nat) (ft : Nat → Nat) : AVal → AVal
  | .own t T xs => .own (ft t) T xs
  | .cons a b => .cons (a.ren fb ft) (b.ren fb ft)
  | .bptr b p => match fb b with
    | some c => .bptr c p
    | none => .any
  | .func fn a b => .func fn (a.ren fb ft) (b.ren fb ft)
  | .mref b => match fb b with
    | some c => .mref c
    | none => .any
  | .yref b => match fb b with
    | some c => .yref c
    | none => .any
  | .lobj g i k env => .lobj g i k (env.ren fb ft)
  | .iface t v => .iface t (v.ren fb ft)
  | .tuple v => .tuple (v.ren fb ft)
  | .vec t b T n => match fb b with
    | some c => .vec (ft t) c T n
    | none => .any
  | .vptr t b T i p => match fb b with
    | some c => .vptr (ft t) c T i p
    | none => .any
  | .vrow t T xs => .vrow (ft t) T xs
  | .optp b => match fb b with
    | some c => .optp c
    | none => .any
  | .bsl b p T n => match fb b with
    | some c => .bsl c p T n
    | none => .any
  | .tbox t a => .tbox t (a.ren fb ft)
  | a => a
structure GRen (G : Gh) (dead : List Nat) (G' : Gh) (dead' : List Nat) (fb : Nat → Option Nat) (ft : Nat → Nat) : Prop where
  imm : G'.imm = G.imm
  addr : ∀ b c, fb b = some c → ∀ blk, G.addr[b]? = some blk → G'.addr[c]? = some blk
  own : ∀ t, t ∉ dead → G'.own (ft t) = G.own t
  dead : ∀ t, t ∈ dead → ft t ∈ dead'
theorem ren_agg (fb : Nat → Option Nat) (ft : Nat → Nat) (a : AVal) : (a.ren fb ft).agg = a.agg := by
  cases a <;> try rfl
  all_goals
    simp only [AVal.ren]
    split <;> rfl
theorem ren_knd (fb : Nat → Option Nat) (ft : Nat → Nat) (a : AVal) : (a.ren fb ft).knd = a.knd := by
  cases a <;> try rfl
  all_goals
    simp only [AVal.ren]
    split <;> rfl
theorem ren_rp {G G' : Gh} {dead dead' : List Nat} {fb : Nat → Option Nat} {ft : Nat → Nat} (g : GRen G dead G' dead' fb ft) : (a : AVal) → (∀ cs, (Rp G dead a).1 cs → (Rp G' dead' (a.ren fb ft)).1 cs) ∧ (∀ vs, (Rp G dead a).2 vs → (Rp G' dead' (a.ren fb ft)).2 vs)
  | .d T x => ⟨fun cs h => by show RD G'.imm T x cs; rw [g.imm]; exact h, fun _ h => h⟩
  | .own tok T xs => ⟨fun cs h => by
      obtain ⟨hr, A, cap, rfl, h⟩ := h
      refine ⟨by rw [g.imm]; exact hr, A, cap, rfl, ?_⟩
      by_cases hd : tok ∈ dead
      · exact .inl (g.dead tok hd)
      · rcases h with h | h | ⟨b, row, rfl, h1, h2, h3⟩
        · exact absurd h hd
        · exact .inr (.inl h)
        · exact .inr (.inr ⟨b, row, rfl, by rw [g.own tok hd]; exact h1, by rw [g.imm]; exact h2, h3⟩), fun _ h => h⟩
  | .nil => ⟨fun _ h => h, fun _ h => h⟩
  | .cons a t => by
    have m1 := ren_rp g a
    have m2 := ren_rp g t
    exact ⟨fun cs h => by
      obtain ⟨c1, c2, rfl, h1, h2⟩ := h
      exact ⟨c1, c2, rfl, m1.1 _ h1, m2.1 _ h2⟩, fun vs h => by
      obtain ⟨v, l, rfl, ⟨cs, hc, hv⟩, hl⟩ := h
      exact ⟨v, l, rfl, ⟨cs, m1.1 _ hc, by rw [ren_agg]; exact hv⟩, m2.2 _ hl⟩⟩
  | .pnil => ⟨fun _ h => h, fun _ h => h⟩
  | .bptr b p => ⟨fun cs h => by
      obtain ⟨blk, hb, ho, rfl⟩ := h
      simp only [AVal.ren]
      cases hf : fb b with
      | none => rfl
      | some c => exact ⟨blk, g.addr b c hf blk hb, ho, rfl⟩, fun _ h => h.elim⟩
  | .iptr T x => ⟨fun cs h => by
      obtain ⟨b, off, row, rfl, hb, hl, hr⟩ := h
      exact ⟨b, off, row, rfl, by rw [g.imm]; exact hb, hl, by rw [g.imm]; exact hr⟩, fun _ h => h⟩
  | .func fn f c => by
    have m1 := ren_rp g f
    have m2 := ren_rp g c
    exact ⟨fun cs h => by
      obtain ⟨fv, cv, rfl, h1, h2⟩ := h
      exact ⟨fv, cv, rfl, m1.2 _ h1, m2.2 _ h2⟩, fun _ h => h⟩
  | .fnil => ⟨fun _ h => h, fun _ h => h⟩
  | .snil => ⟨fun _ h => h, fun _ h => h⟩
  | .iface t v => by
    have m1 := ren_rp g v
    exact ⟨fun cs h => by
      obtain ⟨v', rfl, c, hc, hv⟩ := h
      exact ⟨v', rfl, c, m1.1 _ hc, by rw [ren_agg]; exact hv⟩, fun _ h => h⟩
  | .inil => ⟨fun _ h => h, fun _ h => h⟩
  | .tuple vs => by
    have m1 := ren_rp g vs
    exact ⟨fun cs h => by
      obtain ⟨l, rfl, hl⟩ := h
      exact ⟨l, rfl, m1.2 _ hl⟩, fun _ h => h⟩
  | .any => ⟨fun _ h => h, fun _ h => h⟩
  | .mnil => ⟨fun _ h => h, fun _ h => h⟩
  | .mref b => ⟨fun cs h => by
      obtain ⟨blk, hb, rfl⟩ := h
      simp only [AVal.ren]
      cases hf : fb b with
      | none => rfl
      | some c => exact ⟨blk, g.addr b c hf blk hb, rfl⟩, fun _ h => h.elim⟩
  | .mobj K V xs => ⟨fun cs h => by show RM G'.imm K V xs cs; rw [g.imm]; exact h, fun _ h => h⟩
  | .yref b => ⟨fun cs h => by
      obtain ⟨blk, hb, rfl⟩ := h
      simp only [AVal.ren]
      cases hf : fb b with
      | none => rfl
      | some c => exact ⟨blk, g.addr b c hf blk hb, rfl⟩, fun _ h => h.elim⟩
  | .lobj _ _ _ env => ⟨(ren_rp g env).2, fun _ h => h.elim⟩
  | .vec t b T n => ⟨fun cs h => by
      obtain ⟨A, cap, rfl, h⟩ := h
      simp only [AVal.ren]
      cases hf : fb b with
      | none => rfl
      | some c =>
        refine ⟨A, cap, rfl, ?_⟩
        by_cases hd : t ∈ dead
        · exact .inl (g.dead t hd)
        · rcases h with h | ⟨h1, h2⟩
          · exact absurd h hd
          · exact .inr ⟨by rw [g.own t hd]; exact h1, h2⟩, fun _ h => h.elim⟩
  | .vptr t b T i p => ⟨fun cs h => by
      obtain ⟨blk, off, rfl, h⟩ := h
      simp only [AVal.ren]
      cases hf : fb b with
      | none => rfl
      | some c =>
        refine ⟨blk, off, rfl, ?_⟩
        by_cases hd : t ∈ dead
        · exact .inl (g.dead t hd)
        · rcases h with h | ⟨⟨n, h1⟩, h2⟩
          · exact absurd h hd
          · exact .inr ⟨⟨n, by rw [g.own t hd]; exact h1⟩, h2⟩, fun _ h => h.elim⟩
  | .vrow t T xs => ⟨fun _ h => h, fun _ h => h⟩
  | .optp b => ⟨fun cs h => by
      simp only [AVal.ren]
      cases hf : fb b with
      | none => rcases h with rfl | ⟨_, _, rfl⟩ <;> rfl
      | some c =>
        rcases h with rfl | ⟨blk, hb, rfl⟩
        · exact .inl rfl
        · exact .inr ⟨blk, g.addr b c hf blk hb, rfl⟩, fun _ h => h.elim⟩
  | .bsl b p T n => ⟨fun cs h => by
      obtain ⟨blk, hb, ho, rfl⟩ := h
      simp only [AVal.ren]
      cases hf : fb b with
      | none => rfl
      | some c => exact ⟨blk, g.addr b c hf blk hb, ho, rfl⟩, fun _ h => h.elim⟩
  | .siter _ _ => ⟨fun _ h => h, fun _ h => h⟩
  | .pan _ => ⟨fun _ h => h, fun _ h => h⟩
  | .tbox t a => ⟨(ren_rp g a).1, fun _ h => h⟩
theorem ren_v {G G' : Gh} {dead dead' : List Nat} {fb : Nat → Option Nat} {ft : Nat → Nat} (g : GRen G dead G' dead' fb ft) {a : AVal} {v : Value} (h : Rv G dead a v) : Rv G' dead' (a.ren fb ft) v := by
  obtain ⟨cs, hc, hv⟩ := h
  exact ⟨cs, (ren_rp g a).1 cs hc, by rw [ren_agg]; exact hv⟩
structure CSpec where
  A : List PTy
  I : List PTy
  nt : Nat
  O : List PTy
  ntO : Nat
  R : PTy
@[reducible] def CSpec.In (S : CSpec) : Type := Els S.A × Els S.I
@[reducible] def CSpec.Out (S : CSpec) : Type := S.R.El × Els S.O
def unif : AVal → AVal → List (Nat × Nat)
  | .bptr j _, .bptr b _ => [(j, b)]
  | .mref j, .mref b => [(j, b)]
  | .yref j, .yref b => [(j, b)]
  | .cons a t, .cons b u => unif a b ++ unif t u
  | .func _ a t, .func _ b u => unif a b ++ unif t u
  | _, _ => []
def PTy.unif : PTy → AVal → List (Nat × Nat)
  | .fix a, v => Abs.unif a v
  | .cons p q, .cons a b => p.unif a ++ q.unif b
  | .tup p, .tuple a => p.unif a
  | .lp _ _ p, .lobj _ _ _ env => p.unif env
  | .vec _ j _, .vec _ b _ _ => [(j, b)]
  | .optp j, .bptr b _ => [(j, b)]
  | .optp j, .optp b => [(j, b)]
  | .tbox _ p, .tbox _ a => p.unif a
  | .fnp _ p q, .func _ a b => p.unif a ++ q.unif b
  | _, _ => []
def unifs : List PTy → List AVal → List (Nat × Nat)
  | p :: ps, a :: az => p.unif a ++ unifs ps az
  | _, _ => []
def lookN (j : Nat) : List (Nat × Nat) → Option Nat
  | [] => none
  | q :: l => bif q.1 == j then some q.2 else lookN j l
def selI (box : List AVal) : List PTy → Nat → List (Nat × Nat) → List Nat
  | [], _, _ => []
  | p :: ps, j, l => match lookN j l with
    | some b => b :: selI box ps (j + 1) (l ++ p.unif (box.getD b .any))
    | none => []
def selA (S : CSpec) (args : List AVal) (B : Bx) : List Nat := selI B.box S.I 0 (unifs S.A args)
def idxIn (b : Nat) : List Nat → Option Nat
  | [] => none
  | c :: l => bif b == c then some 0 else match idxIn b l with
    | some i => some (i + 1)
    | none => none
theorem idxIn_spec {b : Nat} : {l : List Nat} → {i : Nat} → idxIn b l = some i → l[i]? = some b
  | [], i, h => by simp [idxIn] at h
  | c :: l, i, h => by
    simp only [idxIn] at h
    cases hb : b == c with
    | true =>
      simp only [hb, cond_true, Option.some.injEq] at h
      subst h
      have : b = c := by simpa using hb
      simp [this]
    | false =>
      simp only [hb, cond_false] at h
      split at h
      · rename_i j hj
        simp only [Option.some.injEq] at h
        subst h
        simpa using idxIn_spec hj
      · cases h
def nodupB : List Nat → Bool
  | [] => true
  | b :: l => !l.contains b && nodupB l
theorem nodupB_spec : {l : List Nat} → nodupB l = true → l.Nodup
  | [], _ => List.nodup_nil
  | b :: l, h => by
    simp only [nodupB, Bool.and_eq_true, Bool.not_eq_true'] at h
    refine List.nodup_cons.2 ⟨fun hm => ?_, nodupB_spec h.2⟩
    have := List.contains_iff_mem.2 hm
    rw [h.1] at this; cases this
def setSel : List AVal → List Nat → List AVal → List AVal
  | bs, s :: ss, a :: az => setSel (bs.set s a) ss az
  | bs, _, _ => bs
theorem setSel_len : {bs : List AVal} → {ss : List Nat} → {az : List AVal} → (setSel bs ss az).length = bs.length
  | bs, [], az => by cases az <;> rfl
  | bs, s :: ss, [] => rfl
  | bs, s :: ss, a :: az => by simp [setSel, setSel_len (bs := bs.set s a)]
theorem setSel_other {i : Nat} : {bs : List AVal} → {ss : List Nat} → {az : List AVal} → i ∉ ss → (setSel bs ss az)[i]? = bs[i]?
  | bs, [], az, _ => by cases az <;> rfl
  | bs, s :: ss, [], _ => rfl
  | bs, s :: ss, a :: az, h => by
    simp only [List.mem_cons, not_or] at h
    simp only [setSel]
    rw [setSel_other h.2, List.getElem?_set_ne (Ne.symm h.1)]
theorem setSel_at {i b : Nat} : {bs : List AVal} → {ss : List Nat} → {az : List AVal} → ss.Nodup → ss.length ≤ az.length → ss[i]? = some b → b < bs.length → (setSel bs ss az)[b]? = az[i]?
  | bs, [], az, _, _, h, _ => by simp at h
  | bs, s :: ss, [], _, hl, _, _ => by simp at hl
  | bs, s :: ss, a :: az, hn, hl, h, hb => by
    simp only [setSel]
    obtain ⟨h1, h2⟩ := List.nodup_cons.1 hn
    cases i with
    | zero =>
      simp only [List.getElem?_cons_zero, Option.some.injEq] at h
      subst h
      rw [setSel_other h1]
      simp [hb]
    | succ i =>
      simp only [List.getElem?_cons_succ] at h ⊢
      exact setSel_at h2 (by simpa using hl) h (by simpa using hb)
def backB (sel : List Nat) (n : Nat) (i : Nat) : Option Nat := match sel[i]? with
  | some b => some b
  | none => some (n + (i - sel.length))
def callB (S : CSpec) (args : List AVal) (B : Bx) (r : S.Out) : AVal × Bx :=
  let sel := selA S args B
  let fb := fun b => idxIn b sel
  let outs := (encs S.O r.2).map fun a => a.ren (backB sel B.box.length) (B.nt + ·)
  (((S.R.enc r.1).ren (backB sel B.box.length) (B.nt + ·)),
    ⟨setSel B.box sel outs ++ outs.drop sel.length, SPat.toks ⟨S.A, S.I, S.nt⟩ (args.map fun a => a.ren fb id) ⟨sel.map fun b => (B.box.getD b .any).ren fb id, B.dead, B.nt⟩ ++ B.dead, B.nt + S.ntO⟩)
def vecFree (B : Bx) (sel toks : List Nat) : Bool := (toks ++ B.dead).all (fun t => decide (t < B.nt)) && B.box.zipIdx.all fun (c, i) => match c with
  | .vrow t _ _ => sel.contains i == toks.contains t
  | _ => true
theorem vecFree_lt {B : Bx} {sel toks : List Nat} (h : vecFree B sel toks = true) {t : Nat} (ht : t ∈ toks ++ B.dead) : t < B.nt := by
  simp only [vecFree, Bool.and_eq_true] at h
  simpa using List.all_eq_true.1 h.1 t ht
theorem vecFree_iff {B : Bx} {sel toks : List Nat} (h : vecFree B sel toks = true) {i t : Nat} {T : DTy} {xs : List T.El} (hi : B.box[i]? = some (.vrow t T xs)) : i ∈ sel ↔ t ∈ toks := by
  simp only [vecFree, Bool.and_eq_true] at h
  have := List.all_eq_true.1 h.2 (.vrow t T xs, i) (by rw [List.mem_zipIdx_iff_getElem?]; exact hi)
  simp only [beq_iff_eq] at this
  rw [← List.contains_iff_mem, ← List.contains_iff_mem, this]
theorem ren_isT {fb : Nat → Option Nat} {ft : Nat → Nat} {t : Nat} {a : AVal} (h : a.isT t = true) : (a.ren fb ft).isT (ft t) = true := by
  obtain ⟨T, xs, rfl⟩ := isT_form h
  exact isT_self _ _ _
theorem ren_vrow {fb : Nat → Option Nat} {ft : Nat → Nat} {t : Nat} {T : DTy} {xs : List T.El} {a : AVal} (h : a.ren fb ft = .vrow t T xs) : ∃ t', ft t' = t ∧ a = .vrow t' T xs := by
  cases a with
  | vrow t' T' ys =>
    simp only [AVal.ren, AVal.vrow.injEq] at h
    obtain ⟨h1, rfl, h3⟩ := h
    exact ⟨t', h1, by rw [eq_of_heq h3]⟩
  | bptr b p => simp only [AVal.ren] at h; split at h <;> cases h
  | mref b => simp only [AVal.ren] at h; split at h <;> cases h
  | yref b => simp only [AVal.ren] at h; split at h <;> cases h
  | vec t b T n => simp only [AVal.ren] at h; split at h <;> cases h
  | vptr t b T i p => simp only [AVal.ren] at h; split at h <;> cases h
  | optp b => simp only [AVal.ren] at h; split at h <;> cases h
  | bsl b p T n => simp only [AVal.ren] at h; split at h <;> cases h
  | _ => simp [AVal.ren] at h
def callK {X : Type} (S : CSpec) (f : S.In → Option S.Out) (args : List AVal) (B : Bx) (k : AVal → Bx → Option X) : Option X :=
  let sel := selA S args B
  let fb := fun b => idxIn b sel
  bif nodupB sel && sel.length == S.I.length && sel.all (fun b => decide (b < B.box.length)) && args.length == S.A.length then
    match SPat.dec ⟨S.A, S.I, S.nt⟩ (args.map fun a => a.ren fb id) ⟨sel.map fun b => (B.box.getD b .any).ren fb id, B.dead, B.nt⟩ with
    | some x => bif vecFree B sel (SPat.toks ⟨S.A, S.I, S.nt⟩ (args.map fun a => a.ren fb id) ⟨sel.map fun b => (B.box.getD b .any).ren fb id, B.dead, B.nt⟩) then (f x).bind fun r => k (callB S args B r).1 (callB S args B r).2 else none
    | none => none
  else none
def CSpec.ok (S : CSpec) : Bool := SPat.ok ⟨S.A, S.I, S.nt⟩ && decide (S.I.length ≤ S.O.length)
end Go.Proofs.YtibmgbalfhfcdaaDoor.Abs
set_option linter.unusedVariables false
set_option linter.unusedSimpArgs false
namespace Go.Proofs.YtibmgbalfhfcdaaDoor.Abs
theorem vals_of_env {G : Gh} {dead : List Nat} : {az : List AVal} → {vs : List Value} → az.length = vs.length → (∀ t, t < az.length → Rv G dead (az.getD t .any) (vs.getD t undef)) → Vals G dead az vs
  | [], [], _, _ => .nil
  | a :: az, v :: vs, hl, h => .cons (by simpa using h 0 (by simp)) (vals_of_env (by simpa using hl) fun t ht => by simpa using h (t + 1) (by simpa using ht))
theorem call_sound {P : Program} {g : FuncId} {S : CSpec} {f : S.In → Option S.Out} (hS : S.ok = true) (hent : Ent' P g)
    (hcall : ∀ x r, f x = some r → LCall S.I.length P g (encs S.A x.1) ⟨encs S.I x.2, [], S.nt⟩ (S.R.enc r.1) ⟨encs S.O r.2, [], S.ntO⟩)
    {X : Type} {args : List AVal} {B : Bx} {k : AVal → Bx → Option X} {res : X} (h : callK S f args B k = some res) : ∃ r, k (callB S args B r).1 (callB S args B r).2 = some res ∧ ACall P g args B (callB S args B r).1 (callB S args B r).2 := by
  unfold callK at h
  simp only at h
  generalize hsel : selA S args B = sel at h
  cases hb : nodupB sel && sel.length == S.I.length && sel.all (fun b => decide (b < B.box.length)) && args.length == S.A.length with
  | false => rw [hb] at h; cases h
  | true =>
    rw [hb] at h
    simp only [cond_true] at h
    simp only [Bool.and_eq_true, beq_iff_eq] at hb
    obtain ⟨⟨⟨hnd, hslen⟩, hin⟩, halen⟩ := hb
    have hnd := nodupB_spec hnd
    have hin : ∀ b ∈ sel, b < B.box.length := fun b hb => by simpa using List.all_eq_true.1 hin b hb
    split at h
    · rename_i x hdec
      cases hvf : vecFree B sel (SPat.toks ⟨S.A, S.I, S.nt⟩ (args.map fun a => a.ren (fun b => idxIn b sel) id) ⟨sel.map fun b => (B.box.getD b .any).ren (fun b => idxIn b sel) id, B.dead, B.nt⟩) with
      | false => rw [hvf] at h; cases h
      | true =>
      rw [hvf] at h
      simp only [cond_true] at h
      cases hfx : f x with
      | none => rw [hfx] at h; cases h
      | some r =>
        rw [hfx] at h
        simp only [Option.bind_some] at h
        refine ⟨r, h, hent, fun G w vs hvs hw => ?_⟩
        simp only [CSpec.ok, Bool.and_eq_true, decide_eq_true_eq] at hS
        obtain ⟨hSok, hIO⟩ := hS
        let fb := fun b => idxIn b sel
        let Bl : Bx := ⟨sel.map fun b => (B.box.getD b .any).ren fb id, B.dead, B.nt⟩
        let Gl : Gh := { imm := G.imm, own := G.own, addr := sel.map fun b => G.addr.getD b 0 }
        have haddrlt : ∀ b, b ∈ sel → b < G.addr.length := fun b hb => by rw [hw.len]; exact hin b hb
        have hgl : GRen G B.dead Gl B.dead fb id := ⟨rfl, fun b c hc blk hblk => by
          have := idxIn_spec hc
          show (sel.map fun b => G.addr.getD b 0)[c]? = some blk
          rw [List.getElem?_map, this]
          simp [List.getD_eq_getElem?_getD, hblk], fun _ _ => rfl, fun _ h => h⟩
        have hgladdr : ∀ (i b : Nat), Gl.addr[i]? = some b → ∃ (s : Nat), sel[i]? = some s ∧ G.addr[s]? = some b := fun i b hib => by
          have hib' : (sel.map fun b => G.addr.getD b 0)[i]? = some b := hib
          rw [List.getElem?_map] at hib'
          cases hs : sel[i]? with
          | none => rw [hs] at hib'; cases hib'
          | some s =>
            rw [hs] at hib'
            simp only [Option.map_some, Option.some.injEq] at hib'
            have hlt := haddrlt s (List.mem_of_getElem? hs)
            refine ⟨s, rfl, ?_⟩
            rw [← hib', List.getD_eq_getElem?_getD, List.getElem?_eq_getElem hlt]; rfl
        have hglmem : ∀ b, b ∈ Gl.addr → b ∈ G.addr := fun b hb => by
          obtain ⟨i, hi, he⟩ := List.mem_iff_getElem.1 hb
          obtain ⟨s, _, h2⟩ := hgladdr i b (by rw [← he]; exact List.getElem?_eq_getElem hi)
          exact List.mem_of_getElem? h2
        have hglbox : ∀ (i : Nat) (c : AVal), Bl.box[i]? = some c → ∀ {s : Nat}, sel[i]? = some s → ∃ c', B.box[s]? = some c' ∧ c'.ren fb id = c := fun i c hc {s} h1 => by
          have hc' : (sel.map fun b => (B.box.getD b .any).ren fb id)[i]? = some c := hc
          rw [List.getElem?_map, h1] at hc'
          simp only [Option.map_some, Option.some.injEq] at hc'
          have hlt := hin s (List.mem_of_getElem? h1)
          exact ⟨B.box.getD s .any, by rw [List.getD_eq_getElem?_getD, List.getElem?_eq_getElem hlt]; rfl, hc'⟩
        have hwl : WOk Gl Bl w := by
          refine ⟨by simp [Gl, Bl], ?_, fun i b c hib hc => ?_, hw.imm, fun b hb => hw.disj b (hglmem b hb), fun t b n ht => ?_, hw.inj, fun q hq => ⟨(hw.tab q hq).1, fun hm => (hw.tab q hq).2.1 (hglmem _ hm), (hw.tab q hq).2.2⟩, ?_⟩
          · refine List.pairwise_iff_getElem.2 fun i j hi hj hij => ?_
            have e1 := List.getElem?_eq_getElem hi
            have e2 := List.getElem?_eq_getElem hj
            obtain ⟨s1, a1, a2⟩ := hgladdr i _ e1
            obtain ⟨s2, b1, b2⟩ := hgladdr j _ e2
            intro he
            rw [← he] at b2
            obtain ⟨l1, q1⟩ := List.getElem?_eq_some_iff.1 a2
            obtain ⟨l2, q2⟩ := List.getElem?_eq_some_iff.1 b2
            have hss : s1 = s2 := (List.getElem_inj hw.nodup).mp (q1.trans q2.symm)
            subst hss
            obtain ⟨l3, q3⟩ := List.getElem?_eq_some_iff.1 a1
            obtain ⟨l4, q4⟩ := List.getElem?_eq_some_iff.1 b1
            have := (List.getElem_inj hnd).mp (q3.trans q4.symm)
            omega
          · obtain ⟨s, h1, h2⟩ := hgladdr i b hib
            have hc' : (sel.map fun b => (B.box.getD b .any).ren fb id)[i]? = some c := hc
            rw [List.getElem?_map, h1] at hc'
            simp only [Option.map_some, Option.some.injEq] at hc'
            have hlt := hin s (List.mem_of_getElem? h1)
            have hbs : B.box[s]? = some (B.box.getD s .any) := by rw [List.getD_eq_getElem?_getD, List.getElem?_eq_getElem hlt]; rfl
            obtain ⟨o, cs, k1, k0, k2⟩ := hw.boxes s b _ h2 hbs
            exact ⟨o, cs, k1, by rw [← hc', ren_knd]; exact k0, by rw [← hc']; exact (ren_rp hgl _).1 _ k2⟩
          · obtain ⟨k1, k2, k3⟩ := hw.own t b n ht
            refine ⟨k1, k2.of rfl fun i c e1 e2 => ?_, k3⟩
            obtain ⟨s, h1, h2⟩ := hgladdr i b e1
            obtain ⟨c', h3, h4⟩ := hglbox i c e2 h1
            exact .inr ⟨s, c', h2, h3, fun h => by rw [← h4]; exact ren_isT (ft := id) h⟩
          · intro i t T xs hx
            have hil : i < sel.length := by
              have := (List.getElem?_eq_some_iff.1 hx).1
              simpa [Bl] using this
            have hs := List.getElem?_eq_getElem hil
            obtain ⟨c', h3, h4⟩ := hglbox i _ hx hs
            obtain ⟨t', rfl, rfl⟩ := ren_vrow h4
            obtain ⟨v1, v2, v3⟩ := hw.vec _ _ _ _ h3
            refine ⟨v1, fun j T' ys hj => ?_, v3⟩
            have hjl : j < sel.length := by
              have := (List.getElem?_eq_some_iff.1 hj).1
              simpa [Bl] using this
            obtain ⟨c2, h5, h6⟩ := hglbox j _ hj (List.getElem?_eq_getElem hjl)
            obtain ⟨t2, e2, rfl⟩ := ren_vrow h6
            have e2 : t2 = t' := e2
            subst e2
            exact (List.getElem_inj hnd).mp (v2 _ _ _ h5)
        have hvlen := vals_len hvs
        have hokl : Ok Gl Bl (args.map fun a => a.ren fb id) { tmps := vs.toArray, defers := [] } w := by
          refine ⟨⟨by simp [hvlen], fun t => ?_⟩, hwl, trivial⟩
          by_cases ht : t < args.length
          · obtain ⟨v, hv1, hv2⟩ := vals_get hvs (List.getElem?_eq_getElem ht)
            have : (args.map fun a => a.ren fb id).getD t .any = args[t].ren fb id := by simp [List.getD_eq_getElem?_getD, ht]
            rw [this]
            have h2 : (vs.toArray).getD t undef = v := by rw [Array.getD_eq_getD_getElem?]; simp [hv1]
            show Rv Gl B.dead _ ((vs.toArray).getD t undef)
            rw [h2]
            exact ren_v hgl hv2
          · have : (args.map fun a => a.ren fb id).getD t .any = .any := by rw [List.getD_eq_getElem?_getD, List.getElem?_eq_none (by simp; omega)]; rfl
            rw [this]
            exact any_v _
        obtain ⟨Gn, gn, nimm, naddr, nlen, nown⟩ := norm_sound' (S := ⟨S.A, S.I, S.nt⟩) (n := S.I.length) hSok (Nat.le_refl _) hdec hokl
        have hgnaddr : Gn.addr = Gl.addr := by
          rw [naddr]
          refine List.take_of_length_le ?_
          show (sel.map _).length ≤ S.I.length
          simp [hslen]
        have hvn : Vals Gn [] (encs S.A x.1) vs := by
          refine vals_of_env (by rw [encs_len, ← halen, hvlen]) fun t ht => ?_
          have := gn.ok.env.val t
          have h2 : (vs.toArray).getD t undef = vs.getD t undef := by rw [Array.getD_eq_getD_getElem?, List.getD_eq_getElem?_getD]; simp
          rw [← h2]
          exact this
        refine ((hcall x r hfx).2 Gn w vs hvn gn.ok.w).mono ?_
        rintro e w' ⟨cv, Gc, rfl, hcv, hwc, hext, hheld⟩
        have hclen : Gc.addr.length = S.O.length := by rw [hwc.len]; simp [encs_len]
        have hcaddr : ∀ (i b : Nat), Gl.addr[i]? = some b → Gc.addr[i]? = some b := fun i b hib => hheld i b (by
          have := (List.getElem?_eq_some_iff.1 hib).1
          simp [Gl] at this; omega) (by rw [hgnaddr]; exact hib)
        have hgllen : Gl.addr.length = sel.length := by simp [Gl]
        have hnew : ∀ b, b ∈ Gc.addr.drop sel.length → w.heap.size ≤ b := fun b hb => by
          obtain ⟨i, hi, he⟩ := List.mem_iff_getElem.1 hb
          rw [List.getElem_drop] at he
          rcases hext.addr b (List.mem_of_mem_drop hb) with hm | hm
          · rw [hgnaddr] at hm
            obtain ⟨j, hj, hje⟩ := List.mem_iff_getElem.1 hm
            have hcj := hcaddr j b (by rw [← hje]; exact List.getElem?_eq_getElem hj)
            obtain ⟨lj, qj⟩ := List.getElem?_eq_some_iff.1 hcj
            have := (List.getElem_inj hwc.nodup).mp (qj.trans he.symm)
            rw [hgllen] at hj
            omega
          · exact hm
        generalize htk : SPat.toks ⟨S.A, S.I, S.nt⟩ (args.map fun a => a.ren fb id) ⟨sel.map fun b => (B.box.getD b .any).ren fb id, B.dead, B.nt⟩ = toks at nown
        have nown' : ∀ k b c, Gn.own k = some (b, c) → ∃ t, t ∈ toks ∧ G.own t = some (b, c) := nown
        let Go : Gh := { imm := Gc.imm, addr := G.addr ++ Gc.addr.drop sel.length, own := fun t => if t < B.nt then (if t ∈ toks then none else G.own t) else Gc.own (t - B.nt) }
        have ownlt : ∀ t b c, G.own t = some (b, c) → t < B.nt := fun t b c h => (hw.own t b c h).1
        have ownsz : ∀ t b c, G.own t = some (b, c) → b < w.heap.size := fun t b c h => by
          obtain ⟨_, _, cells, e, hh, _⟩ := hw.own t b c h
          exact heap_lt hh
        have nnot : ∀ t b c, t ∉ toks → G.own t = some (b, c) → ∀ k c', Gn.own k ≠ some (b, c') := fun t b c ht ho k c' hk => by
          obtain ⟨t', h1, h2⟩ := nown' k b c' hk
          have := hw.inj t t' b c c' ho h2
          subst this
          exact ht h1
        have hvf' : vecFree B sel toks = true := by rw [← htk]; exact hvf
        have boxAt : ∀ (s b : Nat), G.addr[s]? = some b → ∃ c, B.box[s]? = some c := fun s b hs => by
          have hl := (List.getElem?_eq_some_iff.1 hs).1
          exact ⟨_, List.getElem?_eq_getElem (by rw [← hw.len]; exact hl)⟩
        have addrinj : ∀ (s s' b : Nat), G.addr[s]? = some b → G.addr[s']? = some b → s = s' := fun s s' b h1 h2 => by
          obtain ⟨l1, q1⟩ := List.getElem?_eq_some_iff.1 h1
          obtain ⟨l2, q2⟩ := List.getElem?_eq_some_iff.1 h2
          exact (List.getElem_inj hw.nodup).mp (q1.trans q2.symm)
        have nameT : ∀ (t s b n : Nat), G.own t = some (b, n) → G.addr[s]? = some b → ∃ T xs, B.box[s]? = some (.vrow t T xs) := fun t s b n ho hs => by
          obtain ⟨c, hc⟩ := boxAt s b hs
          rcases (hw.own t b n ho).2.1 with ⟨row, hr⟩ | ⟨_, hr⟩
          · rw [hw.disj b (List.mem_of_getElem? hs)] at hr; cases hr
          · obtain ⟨T, xs, rfl⟩ := isT_form (hr s c hs hc)
            exact ⟨T, xs, hc⟩
        have addrsel : ∀ (s b : Nat), G.addr[s]? = some b → ∀ k c, Gn.own k = some (b, c) → s ∈ sel := fun s b hs k c hk => by
          obtain ⟨t', h1, h2⟩ := nown' k b c hk
          obtain ⟨T, xs, hx⟩ := nameT t' s b c h2 hs
          exact (vecFree_iff hvf' hx).2 h1
        have glnot : ∀ (t b n : Nat), t ∉ toks → G.own t = some (b, n) → b ∉ Gl.addr := fun t b n ht ho hm => by
          obtain ⟨j, hj, hje⟩ := List.mem_iff_getElem.1 hm
          obtain ⟨s, h1, h2⟩ := hgladdr j b (by rw [← hje]; exact List.getElem?_eq_getElem hj)
          obtain ⟨T, xs, hx⟩ := nameT t s b n ho h2
          exact ht ((vecFree_iff hvf' hx).1 (List.mem_of_getElem? h1))
        have selgl : ∀ (s b : Nat), s ∈ sel → G.addr[s]? = some b → ∃ j, sel[j]? = some s ∧ Gl.addr[j]? = some b := fun s b hs hb => by
          obtain ⟨j, hj, hje⟩ := List.mem_iff_getElem.1 hs
          have hsj : sel[j]? = some s := by rw [← hje]; exact List.getElem?_eq_getElem hj
          refine ⟨j, hsj, ?_⟩
          show (sel.map fun b => G.addr.getD b 0)[j]? = _
          rw [List.getElem?_map, hsj]
          simp [List.getD_eq_getElem?_getD, hb]
        have hexti : ∀ b, b < w.heap.size → (∀ k c, Gn.own k ≠ some (b, c)) → Gc.imm b = G.imm b := fun b hb ho => by
          rw [hext.same b hb ho, nimm]
        have hdead : (callB S args B r).2.dead = toks ++ B.dead := by
          simp only [callB, hsel]
          rw [← htk]
        have hnt : (callB S args B r).2.nt = B.nt + S.ntO := rfl
        have hbox : (callB S args B r).2.box = setSel B.box sel ((encs S.O r.2).map fun a => a.ren (backB sel B.box.length) (B.nt + ·)) ++ ((encs S.O r.2).map fun a => a.ren (backB sel B.box.length) (B.nt + ·)).drop sel.length := by
          simp only [callB, hsel]
        have hval : (callB S args B r).1 = (S.R.enc r.1).ren (backB sel B.box.length) (B.nt + ·) := by simp only [callB, hsel]
        have hback : GRen Gc [] Go (toks ++ B.dead) (backB sel B.box.length) (B.nt + ·) := by
          refine ⟨rfl, fun i c hc blk hblk => ?_, fun t _ => ?_, fun t h => by cases h⟩
          · unfold backB at hc
            split at hc
            · rename_i s hs
              simp only [Option.some.injEq] at hc
              subst hc
              have hlt := haddrlt s (List.mem_of_getElem? hs)
              have hg : Gl.addr[i]? = some G.addr[s] := by
                show (sel.map fun b => G.addr.getD b 0)[i]? = _
                rw [List.getElem?_map, hs]
                simp [List.getD_eq_getElem?_getD, hlt]
              have := hcaddr i _ hg
              rw [hblk] at this
              show (G.addr ++ _)[s]? = _
              rw [List.getElem?_append_left hlt, List.getElem?_eq_getElem hlt]
              exact this.symm
            · rename_i hs
              simp only [Option.some.injEq] at hc
              subst hc
              have hge : sel.length ≤ i := by
                rcases Nat.lt_or_ge i sel.length with h | h
                · rw [List.getElem?_eq_getElem h] at hs; cases hs
                · exact h
              show (G.addr ++ Gc.addr.drop sel.length)[B.box.length + (i - sel.length)]? = some blk
              rw [List.getElem?_append_right (by rw [hw.len]; omega), hw.len, List.getElem?_drop]
              have : sel.length + (B.box.length + (i - sel.length) - B.box.length) = i := by omega
              rw [this]
              exact hblk
          · show (if B.nt + t < B.nt then _ else Gc.own (B.nt + t - B.nt)) = Gc.own t
            rw [if_neg (by omega)]
            congr 1
            omega
        have hgle : GLe G B.dead Go (toks ++ B.dead) := by
          refine ⟨by have := hext.imm; rw [nimm] at this; exact this, List.prefix_append _ _, fun t h => List.mem_append_right _ h, fun t b c ht ho => ?_⟩
          have htk' : t ∉ toks := fun h => ht (List.mem_append_left _ h)
          refine ⟨?_, fun row hi => ?_⟩
          · show (if t < B.nt then (if t ∈ toks then none else G.own t) else Gc.own (t - B.nt)) = _
            rw [if_pos (ownlt t b c ho), if_neg htk']
            exact ho
          · show Gc.imm b = some row
            rw [hexti b (ownsz t b c ho) (nnot t b c htk' ho)]
            exact hi
        have hOlen : ((encs S.O r.2).map fun a => a.ren (backB sel B.box.length) (B.nt + ·)).length = S.O.length := by simp [encs_len]
        have hfr : ∀ b, b < w.heap.size → b ∉ Gl.addr → (∀ k c, Gn.own k ≠ some (b, c)) → w'.heap[b]? = w.heap[b]? := fun b h1 h2 h3 => hext.frame b h1 (by rw [hgnaddr]; exact h2) h3
        refine ⟨cv, Go, rfl, ?_, ?_, ?_, ?_⟩
        · rw [hval, hdead]
          exact ren_v hback hcv
        · refine ⟨?_, ?_, fun i b c hib hc => ?_, hwc.imm, fun b hb => ?_, fun t b c ht => ?_, fun t t' b c c' ht ht' => ?_, fun q hq => ?_, ?_⟩
          · rw [hbox]
            simp only [Go, List.length_append, List.length_drop, setSel_len, hOlen, hclen, hw.len]
          · refine List.nodup_append.2 ⟨hw.nodup, hwc.nodup.sublist (List.drop_sublist _ _), fun a ha b hb => ?_⟩
            have := hw.addr_lt ha
            have := hnew b hb
            omega
          · rw [hbox] at hc
            rw [hdead]
            have hib' : (G.addr ++ Gc.addr.drop sel.length)[i]? = some b := hib
            by_cases hi : i < B.box.length
            · rw [List.getElem?_append_left (by rw [hw.len]; exact hi)] at hib'
              rw [List.getElem?_append_left (by rw [setSel_len]; exact hi)] at hc
              by_cases his : i ∈ sel
              · obtain ⟨j, hj, hje⟩ := List.mem_iff_getElem.1 his
                have hsj : sel[j]? = some i := by rw [← hje]; exact List.getElem?_eq_getElem hj
                rw [setSel_at hnd (by rw [hOlen]; omega) hsj hi] at hc
                rw [List.getElem?_map] at hc
                cases hoj : (encs S.O r.2)[j]? with
                | none => rw [hoj] at hc; cases hc
                | some o =>
                  rw [hoj] at hc
                  simp only [Option.map_some, Option.some.injEq] at hc
                  have hg : Gl.addr[j]? = some b := by
                    show (sel.map fun b => G.addr.getD b 0)[j]? = _
                    rw [List.getElem?_map, hsj]
                    simp [List.getD_eq_getElem?_getD, hib']
                  obtain ⟨o', cs, k1, k0, k2⟩ := hwc.boxes j b o (hcaddr j b hg) hoj
                  exact ⟨o', cs, k1, by rw [← hc, ren_knd]; exact k0, by rw [← hc]; exact (ren_rp hback _).1 _ k2⟩
              · rw [setSel_other his] at hc
                have hbo := hw.boxes i b c hib' hc
                obtain ⟨o', cs, k1, _, _⟩ := id hbo
                have hbm := List.mem_of_getElem? hib'
                refine hbo.mono hgle ?_
                rw [hfr b (heap_lt k1) (fun hm => ?_) (fun k c' hk => his (addrsel i b hib' k c' hk))]
                · obtain ⟨j, hj, hje⟩ := List.mem_iff_getElem.1 hm
                  obtain ⟨s, h1, h2⟩ := hgladdr j b (by rw [← hje]; exact List.getElem?_eq_getElem hj)
                  obtain ⟨l1, q1⟩ := List.getElem?_eq_some_iff.1 h2
                  obtain ⟨l2, q2⟩ := List.getElem?_eq_some_iff.1 hib'
                  have := (List.getElem_inj hw.nodup).mp (q1.trans q2.symm)
                  subst this
                  exact his (List.mem_of_getElem? h1)
            · rw [List.getElem?_append_right (by rw [hw.len]; omega), List.getElem?_drop, hw.len] at hib'
              rw [List.getElem?_append_right (by rw [setSel_len]; omega), List.getElem?_drop, setSel_len, List.getElem?_map] at hc
              cases hoj : (encs S.O r.2)[sel.length + (i - B.box.length)]? with
              | none => rw [hoj] at hc; cases hc
              | some o =>
                rw [hoj] at hc
                simp only [Option.map_some, Option.some.injEq] at hc
                obtain ⟨o', cs, k1, k0, k2⟩ := hwc.boxes _ b o hib' hoj
                exact ⟨o', cs, k1, by rw [← hc, ren_knd]; exact k0, by rw [← hc]; exact (ren_rp hback _).1 _ k2⟩
          · rcases List.mem_append.1 hb with hb | hb
            · show Gc.imm b = none
              by_cases hex : ∃ k c, Gn.own k = some (b, c)
              · obtain ⟨k, c, hk⟩ := hex
                obtain ⟨s, hs, hse⟩ := List.mem_iff_getElem.1 hb
                have hs' : G.addr[s]? = some b := by rw [← hse]; exact List.getElem?_eq_getElem hs
                obtain ⟨j, _, hj⟩ := selgl s b (addrsel s b hs' k c hk) hs'
                exact hwc.disj b (List.mem_of_getElem? (hcaddr j b hj))
              · rw [hexti b (hw.addr_lt hb) (fun k c hk => hex ⟨k, c, hk⟩)]
                exact hw.disj b hb
            · exact hwc.disj b (List.mem_of_mem_drop hb)
          · have ht' : (if t < B.nt then (if t ∈ toks then none else G.own t) else Gc.own (t - B.nt)) = some (b, c) := ht
            rw [hnt]
            by_cases hlt : t < B.nt
            · rw [if_pos hlt] at ht'
              split at ht'
              · cases ht'
              · rename_i htk'
                obtain ⟨_, k2, cells, e, k3, k4⟩ := hw.own t b c ht'
                have hnb := nnot t b c htk' ht'
                refine ⟨by omega, k2.of (hexti b (heap_lt k3) hnb) fun i d e1 e2 => ?_, cells, e, by rw [hfr b (heap_lt k3) (glnot t b c htk' ht') hnb]; exact k3, k4.1, (hexti b (heap_lt k3) hnb) ▸ k4.2⟩
                have e1' : (G.addr ++ Gc.addr.drop sel.length)[i]? = some b := e1
                by_cases hi : i < B.box.length
                · rw [List.getElem?_append_left (by rw [hw.len]; exact hi)] at e1'
                  obtain ⟨T, xs, hx⟩ := nameT t i b c ht' e1'
                  have his : i ∉ sel := fun h => htk' ((vecFree_iff hvf' hx).1 h)
                  rw [hbox, List.getElem?_append_left (by rw [setSel_len]; exact hi), setSel_other his] at e2
                  exact .inr ⟨i, d, e1', e2, fun h => h⟩
                · rw [List.getElem?_append_right (by rw [hw.len]; omega)] at e1'
                  have := hnew b (List.mem_of_getElem? e1')
                  have := heap_lt k3
                  omega
            · rw [if_neg hlt] at ht'
              obtain ⟨k1, k2, k3⟩ := hwc.own _ b c ht'
              have k1' : t - B.nt < S.ntO := k1
              refine ⟨by omega, k2.of rfl fun i d e1 e2 => ?_, k3⟩
              have et : B.nt + (t - B.nt) = t := by omega
              have e1' : (G.addr ++ Gc.addr.drop sel.length)[i]? = some b := e1
              by_cases hi : i < B.box.length
              · rw [List.getElem?_append_left (by rw [hw.len]; exact hi)] at e1'
                have his : i ∈ sel := by
                  rcases hext.own _ b c ht' with ⟨q, hq⟩ | hq
                  · exact addrsel i b e1' q c hq
                  · have := hw.addr_lt (List.mem_of_getElem? e1')
                    omega
                obtain ⟨j, hsj, hj⟩ := selgl i b his e1'
                have hjl : j < S.O.length := by
                  have := (List.getElem?_eq_some_iff.1 hsj).1
                  omega
                rw [hbox, List.getElem?_append_left (by rw [setSel_len]; exact hi), setSel_at hnd (by rw [hOlen]; omega) hsj hi, List.getElem?_map] at e2
                cases hoj : (encs S.O r.2)[j]? with
                | none => rw [hoj] at e2; cases e2
                | some o =>
                  rw [hoj] at e2
                  simp only [Option.map_some, Option.some.injEq] at e2
                  refine .inr ⟨j, o, hcaddr j b hj, hoj, fun h => ?_⟩
                  have := ren_isT (fb := backB sel B.box.length) (ft := (B.nt + ·)) h
                  rw [e2] at this
                  simpa only [et] using this
              · rw [List.getElem?_append_right (by rw [hw.len]; omega), List.getElem?_drop, hw.len] at e1'
                rw [hbox, List.getElem?_append_right (by rw [setSel_len]; omega), List.getElem?_drop, setSel_len, List.getElem?_map] at e2
                cases hoj : (encs S.O r.2)[sel.length + (i - B.box.length)]? with
                | none => rw [hoj] at e2; cases e2
                | some o =>
                  rw [hoj] at e2
                  simp only [Option.map_some, Option.some.injEq] at e2
                  refine .inr ⟨_, o, e1', hoj, fun h => ?_⟩
                  have := ren_isT (fb := backB sel B.box.length) (ft := (B.nt + ·)) h
                  rw [e2] at this
                  simpa only [et] using this
          · have inv : ∀ t c, Go.own t = some (b, c) → (t < B.nt ∧ t ∉ toks ∧ G.own t = some (b, c)) ∨ (¬ t < B.nt ∧ Gc.own (t - B.nt) = some (b, c)) := fun t c ht => by
              have ht' : (if t < B.nt then (if t ∈ toks then none else G.own t) else Gc.own (t - B.nt)) = some (b, c) := ht
              by_cases hlt : t < B.nt
              · rw [if_pos hlt] at ht'
                split at ht'
                · cases ht'
                · rename_i htk'; exact .inl ⟨hlt, htk', ht'⟩
              · rw [if_neg hlt] at ht'
                exact .inr ⟨hlt, ht'⟩
            have mix : ∀ t t' c c', t ∉ toks → G.own t = some (b, c) → Gc.own t' = some (b, c') → False := fun t t' c c' h1 h2 h3 => by
              rcases hext.own t' b c' h3 with ⟨q, hq⟩ | hq
              · exact nnot t b c h1 h2 q c' hq
              · have := ownsz t b c h2; omega
            rcases inv t c ht with ⟨a1, a2, a3⟩ | ⟨a1, a2⟩ <;> rcases inv t' c' ht' with ⟨b1, b2, b3⟩ | ⟨b1, b2⟩
            · exact hw.inj t t' b c c' a3 b3
            · exact (mix t _ c c' a2 a3 b2).elim
            · exact (mix t' _ c' c b2 b3 a2).elim
            · have := hwc.inj _ _ b c c' a2 b2
              omega
          · refine ⟨(hwc.tab q hq).1, fun hm => ?_, fun t n ht => ?_⟩
            · rcases List.mem_append.1 hm with hm | hm
              · exact (hw.tab q hq).2.1 hm
              · exact (hwc.tab q hq).2.1 (List.mem_of_mem_drop hm)
            · have ht' : (if t < B.nt then (if t ∈ toks then none else G.own t) else Gc.own (t - B.nt)) = some (q.1, n) := ht
              by_cases hlt : t < B.nt
              · rw [if_pos hlt] at ht'
                split at ht'
                · cases ht'
                · exact (hw.tab q hq).2.2 t n ht'
              · rw [if_neg hlt] at ht'
                exact (hwc.tab q hq).2.2 _ n ht'
          ·
            have src : ∀ (i t : Nat) (T : DTy) (xs : List T.El), (callB S args B r).2.box[i]? = some (.vrow t T xs) → (i < B.box.length ∧ i ∉ sel ∧ B.box[i]? = some (.vrow t T xs)) ∨ (∃ j k, t = B.nt + k ∧ (encs S.O r.2)[j]? = some (.vrow k T xs) ∧ (sel[j]? = some i ∨ (sel.length ≤ j ∧ B.box.length ≤ i ∧ i = B.box.length + (j - sel.length)))) := fun i t T xs hx => by
              rw [hbox] at hx
              by_cases hi : i < B.box.length
              · rw [List.getElem?_append_left (by rw [setSel_len]; exact hi)] at hx
                by_cases his : i ∈ sel
                · obtain ⟨j, hj, hje⟩ := List.mem_iff_getElem.1 his
                  have hsj : sel[j]? = some i := by rw [← hje]; exact List.getElem?_eq_getElem hj
                  rw [setSel_at hnd (by rw [hOlen]; omega) hsj hi, List.getElem?_map] at hx
                  cases hoj : (encs S.O r.2)[j]? with
                  | none => rw [hoj] at hx; cases hx
                  | some o =>
                    rw [hoj] at hx
                    simp only [Option.map_some, Option.some.injEq] at hx
                    obtain ⟨k, rfl, rfl⟩ := ren_vrow hx
                    exact .inr ⟨j, k, rfl, hoj, .inl hsj⟩
                · rw [setSel_other his] at hx
                  exact .inl ⟨hi, his, hx⟩
              · rw [List.getElem?_append_right (by rw [setSel_len]; omega), List.getElem?_drop, setSel_len, List.getElem?_map] at hx
                cases hoj : (encs S.O r.2)[sel.length + (i - B.box.length)]? with
                | none => rw [hoj] at hx; cases hx
                | some o =>
                  rw [hoj] at hx
                  simp only [Option.map_some, Option.some.injEq] at hx
                  obtain ⟨k, rfl, rfl⟩ := ren_vrow hx
                  exact .inr ⟨_, k, rfl, hoj, .inr ⟨by omega, by omega, by omega⟩⟩
            intro i t T xs hx
            rw [hdead]
            rcases src i t T xs hx with ⟨h1, h2, h3⟩ | ⟨j, k, rfl, h2, h3⟩
            · obtain ⟨v1, v2, blk, n, cells, e, v3, v4, v5, v6, v7, v8⟩ := hw.vec i t T xs h3
              have htk' : t ∉ toks := fun h => h2 ((vecFree_iff hvf' h3).2 h)
              have hlt := (hw.own t blk n v3).1
              have hnb := nnot t blk n htk' v3
              refine ⟨fun hm => (List.mem_append.1 hm).elim htk' v1, fun j T' ys hj => ?_, blk, n, cells, e, ?_, ?_, v5, v6, ?_, ?_⟩
              · rcases src j t T' ys hj with ⟨_, _, g3⟩ | ⟨_, k, g1, _, _⟩
                · exact v2 j T' ys g3
                · omega
              · show (if t < B.nt then (if t ∈ toks then none else G.own t) else Gc.own (t - B.nt)) = _
                rw [if_pos hlt, if_neg htk']
                exact v3
              · rw [hfr blk (heap_lt v4) (glnot t blk n htk' v3) hnb]
                exact v4
              · show Gc.imm blk = none
                rw [hexti blk (heap_lt v4) hnb]
                exact v7
              · exact RD.mono hgle.imm v8
            · obtain ⟨v1, v2, blk, n, cells, e, v3, v4, v5, v6, v7, v8⟩ := hwc.vec j k T xs h2
              refine ⟨fun hm => by have := vecFree_lt hvf' hm; omega, fun j' T' ys hj => ?_, blk, n, cells, e, ?_, v4, v5, v6, v7, v8⟩
              · rcases src j' _ T' ys hj with ⟨_, _, g3⟩ | ⟨j2, k2, g1, g2, g3⟩
                · obtain ⟨_, _, b2, n2, _, _, q3, _⟩ := hw.vec j' _ T' ys g3
                  have := (hw.own _ b2 n2 q3).1
                  omega
                · have : k2 = k := by omega
                  subst this
                  have hjj := v2 j2 T' ys g2
                  subst hjj
                  rcases h3 with h3 | ⟨a1, a2, a3⟩ <;> rcases g3 with g3 | ⟨b1, b2, b3⟩
                  · rw [h3] at g3
                    exact (Option.some.inj g3).symm
                  · have := (List.getElem?_eq_some_iff.1 h3).1
                    omega
                  · have := (List.getElem?_eq_some_iff.1 g3).1
                    omega
                  · omega
              · show (if B.nt + k < B.nt then _ else Gc.own (B.nt + k - B.nt)) = _
                rw [if_neg (by omega), Nat.add_sub_cancel_left]
                exact v3
        · rw [hdead]; exact hgle
        · refine ⟨hext.os, hext.tape, hext.output, hext.size, fun b hb ha ho => hfr b hb (fun hm => ha (hglmem b hm)) fun k c hk => ?_, by have := hext.imm; rw [nimm] at this; exact this, fun b hb ho => hexti b hb fun k c hk => ?_, fun b hb => ?_, fun t b c ht => ?_⟩
          · obtain ⟨t', _, h2⟩ := nown' k b c hk
            exact ho t' c h2
          · obtain ⟨t', _, h2⟩ := nown' k b c hk
            exact ho t' c h2
          · rcases List.mem_append.1 hb with hb | hb
            · exact .inl hb
            · exact .inr (hnew b hb)
          · have ht' : (if t < B.nt then (if t ∈ toks then none else G.own t) else Gc.own (t - B.nt)) = some (b, c) := ht
            by_cases hlt : t < B.nt
            · rw [if_pos hlt] at ht'
              split at ht'
              · cases ht'
              · exact .inl ⟨t, ht'⟩
            · rw [if_neg hlt] at ht'
              rcases hext.own _ b c ht' with ⟨q, hq⟩ | hq
              · obtain ⟨t', _, h2⟩ := nown' q b c hq
                exact .inl ⟨t', h2⟩
              · exact .inr hq
    · cases h
end Go.Proofs.YtibmgbalfhfcdaaDoor.Abs
set_option linter.unusedVariables false
set_option linter.unusedSimpArgs false
namespace Go.Proofs.YtibmgbalfhfcdaaDoor.Abs
def oneE : (p : PTy) → Els [p] → p.El
  | .any, _ => ()
  | .fix _, _ => ()
  | .nil, _ => ()
  | .dat _, x => x.1
  | .own _ _, x => x.1
  | .cons _ _, x => x.1
  | .tup _, x => x.1
  | .map _ _, x => x.1
  | .ip _, x => x.1
  | .lp _ _ _, x => x.1
  | .vec _ _ _, x => x.1
  | .vrow _ _, x => x.1
  | .optp _, _ => ()
  | .siter, x => x.1
  | .fnp _ _ _, x => x.1
  | .tbox _ _, x => x.1
theorem oneE_enc (p : PTy) (x : Els [p]) : encs [p] x = [p.enc (oneE p x)] := by
  cases p <;> rfl
def finK (S : CSpec) (v : AVal) (B : Bx) : Option S.Out :=
  match SPat.dec ⟨[S.R], S.O, S.ntO⟩ [v] B with
  | some x => some (oneE S.R x.1, x.2)
  | none => none
def CSpec.ok2 (S : CSpec) : Bool := SPat.ok ⟨[S.R], S.O, S.ntO⟩
theorem fn_lcall {P : Program} {C : CalT} {Ls : List LoopT} {g : FuncId} {fn : Func} {c : Code} {S : CSpec} {f : S.In → Option S.Out} (hm : P.follows .mixedOrders = true) (hf : P.funcs[g]? = some fn) (hb : fn.body = some c) (hent : Ent P g) (hC : CV P C)
    (hL : LV S.I.length P false (loopsOf c) Ls) (hS : S.ok = true) (hS2 : S.ok2 = true) (hev : ∀ x, fnR P C Ls fn c (encs S.A x.1) ⟨encs S.I x.2, [], S.nt⟩ (finK S) = f x) :
    ∀ x r, f x = some r → LCall S.I.length P g (encs S.A x.1) ⟨encs S.I x.2, [], S.nt⟩ (S.R.enc r.1) ⟨encs S.O r.2, [], S.ntO⟩ := by
  intro x r hr
  obtain ⟨v, B', hk, hl⟩ := fnR_sound hm hf hb hent hC hL ((hev x).trans hr)
  unfold finK at hk
  split at hk
  · rename_i z hz
    simp only [Option.some.injEq] at hk
    subst hk
    simp only [CSpec.ok, Bool.and_eq_true, decide_eq_true_eq] at hS
    refine ⟨hl.1, fun G w vs hvs hw => (hl.2 G w vs hvs hw).mono ?_⟩
    rintro e w' ⟨cv, G1, rfl, h1, h2, h3, h4⟩
    have hok : Ok G1 B' [v] { tmps := #[cv], defers := [] } w' := ⟨⟨rfl, fun t => by
      cases t with
      | zero => exact h1
      | succ t => exact any_v _⟩, h2, trivial⟩
    obtain ⟨G2, g2⟩ := norm_sound (n := S.I.length) hS2 hS.2 hz hok
    refine ⟨cv, G2, rfl, by have := g2.ok.env.val 0; unfold SPat.encE at this; rw [oneE_enc] at this; exact this, g2.ok.w, h3.trans g2.ext, fun i b hi hb => g2.held i b hi (h4 i b hi hb)⟩
  · cases hk
def PTy.pure : PTy → Bool
  | .dat _ => true
  | .fix a => Abs.under 0 a && sameA a a
  | .cons h t => h.pure && t.pure
  | .nil => true
  | .tup p => p.pure
  | .ip _ => true
  | _ => false
theorem pure_under : {p : PTy} → p.pure = true → p.under 0 = true
  | .dat _, _ => rfl
  | .fix a, h => h
  | .cons a b, h => by
    simp only [PTy.pure, Bool.and_eq_true] at h
    simp only [PTy.under, Bool.and_eq_true]
    exact ⟨pure_under h.1, pure_under h.2⟩
  | .nil, _ => rfl
  | .tup p, h => pure_under (p := p) h
  | .ip _, _ => rfl
  | .any, h | .own _ _, h | .map _ _, h | .lp _ _ _, h | .vec _ _ _, h | .vrow _ _, h | .optp _, h | .siter, h | .tbox _ _, h | .fnp _ _ _, h => by simp [PTy.pure] at h
theorem pure_toks : {p : PTy} → p.pure = true → {a : AVal} → {x : p.El} → {l : List (Nat × Nat)} → p.dec a = some (x, l) → l = []
  | .dat T, _, a, x, l, h => by
    simp only [PTy.dec] at h
    split at h
    · simp only [Option.some.injEq, Prod.mk.injEq] at h; exact h.2.symm
    · cases h
  | .fix b, _, a, x, l, h => by
    simp only [PTy.dec] at h
    cases hb : sameA b a with
    | false => rw [hb] at h; cases h
    | true => simp only [hb, cond_true, Option.some.injEq, Prod.mk.injEq] at h; exact h.2.symm
  | .cons p q, hp, a, x, l, h => by
    simp only [PTy.pure, Bool.and_eq_true] at hp
    cases a with
    | cons a b =>
      simp only [PTy.dec] at h
      split at h
      · rename_i y l1 z l2 h1 h2
        simp only [Option.some.injEq, Prod.mk.injEq] at h
        rw [← h.2, pure_toks hp.1 h1, pure_toks hp.2 h2]; rfl
      · cases h
    | d T w =>
      cases T with
      | cons T U =>
        simp only [PTy.dec] at h
        split at h
        · rename_i y l1 z l2 h1 h2
          simp only [Option.some.injEq, Prod.mk.injEq] at h
          rw [← h.2, pure_toks hp.1 h1, pure_toks hp.2 h2]; rfl
        · cases h
      | _ => simp [PTy.dec] at h
    | _ => simp [PTy.dec] at h
  | .nil, _, a, x, l, h => by
    cases a with
    | nil => simp only [PTy.dec, Option.some.injEq, Prod.mk.injEq] at h; exact h.2.symm
    | d T w => cases T <;> simp [PTy.dec] at h; exact h
    | _ => simp [PTy.dec] at h
  | .tup p, hp, a, x, l, h => by
    cases a with
    | tuple a =>
      simp only [PTy.dec] at h
      cases hb : p.lst with
      | false => rw [hb] at h; cases h
      | true =>
        simp only [hb, cond_true] at h
        exact pure_toks (p := p) hp h
    | _ => simp [PTy.dec] at h
  | .ip T, _, a, x, l, h => (dec_ip h).2
  | .fnp _ _ _, hp, _, _, _, _ | .tbox _ _, hp, _, _, _, _ | .optp _, hp, _, _, _, _ | .siter, hp, _, _, _, _ | .any, hp, _, _, _, _ | .own _ _, hp, _, _, _, _ | .map _ _, hp, _, _, _, _ | .lp _ _ _, hp, _, _, _, _ | .vec _ _ _, hp, _, _, _, _ | .vrow _ _, hp, _, _, _, _ => by simp [PTy.pure] at hp
def pureS (A : List PTy) (R : PTy) : CSpec := ⟨A, [], 0, [], 0, R⟩
def pureK {X : Type} (A : List PTy) (R : PTy) (f : Els A → Option R.El) (args : List AVal) (B : Bx) (k : AVal → Bx → Option X) : Option X :=
  bif args.length == A.length then
    match decs A args with
    | some x => (f x.1).bind fun r => k (R.enc r) B
    | none => none
  else none
theorem enc_pure {G G' : Gh} {d d' : List Nat} (hi : G'.imm = G.imm) : {p : PTy} → p.pure = true → (x : p.El) → (∀ cs, Rc G d (p.enc x) cs → Rc G' d' (p.enc x) cs) ∧ (∀ vs, Rl G d (p.enc x) vs → Rl G' d' (p.enc x) vs)
  | .dat T, _, x => ⟨fun cs h => by show RD G'.imm T x cs; rw [hi]; exact h, fun _ h => h⟩
  | .fix a, h, x => by
    simp only [PTy.pure, Bool.and_eq_true] at h
    have := ren0 a h.1 h.2
    exact this
  | .cons p q, h, x => by
    simp only [PTy.pure, Bool.and_eq_true] at h
    have m1 := enc_pure (d := d) (d' := d') hi h.1 x.1
    have m2 := enc_pure (d := d) (d' := d') hi h.2 x.2
    exact ⟨fun cs h => by
      obtain ⟨c1, c2, rfl, h1, h2⟩ := h
      exact ⟨c1, c2, rfl, m1.1 _ h1, m2.1 _ h2⟩, fun vs h => by
      obtain ⟨v, l, rfl, ⟨cs, hc, hv⟩, hl⟩ := h
      exact ⟨v, l, rfl, ⟨cs, m1.1 _ hc, hv⟩, m2.2 _ hl⟩⟩
  | .nil, _, x => ⟨fun _ h => h, fun _ h => h⟩
  | .tup p, h, x => by
    have m1 := enc_pure (p := p) (d := d) (d' := d') hi h x
    exact ⟨fun cs h => by
      obtain ⟨l, rfl, hl⟩ := h
      exact ⟨l, rfl, m1.2 _ hl⟩, fun _ h => h⟩
  | .ip T, _, x => ⟨fun cs h => by
      obtain ⟨b, off, row, e, h1, h2, h3⟩ := h
      exact ⟨b, off, row, e, by rw [hi]; exact h1, h2, by rw [hi]; exact h3⟩, fun _ h => h.elim⟩
  | .fnp _ _ _, h, _ | .tbox _ _, h, _ | .optp _, h, _ | .siter, h, _ | .any, h, _ | .own _ _, h, _ | .map _ _, h, _ | .lp _ _ _, h, _ | .vec _ _ _, h, _ | .vrow _ _, h, _ => by simp [PTy.pure] at h
where
  ren0 : (a : AVal) → Abs.under 0 a = true → sameA a a = true → (∀ cs, (Rp G d a).1 cs → (Rp G' d' a).1 cs) ∧ (∀ vs, (Rp G d a).2 vs → (Rp G' d' a).2 vs)
  | .nil, _, _ => ⟨fun _ h => h, fun _ h => h⟩
  | .cons a b, hu, hs => by
    simp only [Abs.under, Bool.and_eq_true] at hu
    simp only [sameA, Bool.and_eq_true] at hs
    have m1 := ren0 a hu.1 hs.1
    have m2 := ren0 b hu.2 hs.2
    exact ⟨fun cs h => by
      obtain ⟨c1, c2, rfl, h1, h2⟩ := h
      exact ⟨c1, c2, rfl, m1.1 _ h1, m2.1 _ h2⟩, fun vs h => by
      obtain ⟨v, l, rfl, ⟨cs, hc, hv⟩, hl⟩ := h
      exact ⟨v, l, rfl, ⟨cs, m1.1 _ hc, hv⟩, m2.2 _ hl⟩⟩
  | .pnil, _, _ => ⟨fun _ h => h, fun _ h => h⟩
  | .fnil, _, _ => ⟨fun _ h => h, fun _ h => h⟩
  | .snil, _, _ => ⟨fun _ h => h, fun _ h => h⟩
  | .pan _, _, _ => ⟨fun _ h => h, fun _ h => h⟩
  | .mnil, _, _ => ⟨fun _ h => h, fun _ h => h⟩
  | .mref b, hu, _ => by simp [Abs.under] at hu
  | .yref b, hu, _ => by simp [Abs.under] at hu
  | .inil, _, _ => ⟨fun _ h => h, fun _ h => h⟩
  | .bptr b p, hu, _ => by simp [Abs.under] at hu
  | .func fn f c, hu, hs => by
    simp only [Abs.under, Bool.and_eq_true] at hu
    simp only [sameA, Bool.and_eq_true] at hs
    have m1 := ren0 f hu.1 hs.1.2
    have m2 := ren0 c hu.2 hs.2
    exact ⟨fun cs h => by
      obtain ⟨fv, cv, rfl, h1, h2⟩ := h
      exact ⟨fv, cv, rfl, m1.2 _ h1, m2.2 _ h2⟩, fun _ h => h⟩
  | .d .., _, hs | .own .., _, hs | .iptr .., _, hs | .iface .., _, hs | .tuple .., _, hs | .any, _, hs | .mobj .., _, hs | .lobj .., _, hs => by simp [sameA] at hs
theorem decs_vals {G G' : Gh} {dead : List Nat} {l0 : List (Nat × Nat)} (hr : ReTok G dead G' 0 l0) : {A : List PTy} → {args : List AVal} → {x : Els A} → {l : List (Nat × Nat)} → A.all PTy.pure = true → args.length = A.length → decs A args = some (x, l) → ∀ vs, Vals G dead args vs → Vals G' [] (encs A x) vs
  | [], [], _, _, _, _, _, _, .nil => .nil
  | p :: ps, a :: az, x, l, hp, hl, h, _, .cons (vs := vs) hv t => by
    simp only [List.all_cons, Bool.and_eq_true] at hp
    obtain ⟨y, l1, z, l2, h1, h2, _, he⟩ := decs_cons h
    have e := pure_toks hp.1 h1
    subst e
    rw [he]
    exact .cons (dec_v hr h1 (under_top (pure_under hp.1)) (fun q hq => by cases hq) hv) (decs_vals hr hp.2 (by simpa using hl) h2 vs t)
theorem pure_sound {P : Program} {g : FuncId} {A : List PTy} {R : PTy} {f : Els A → Option R.El} (hA : A.all PTy.pure = true) (hR : R.pure = true) (hent : Ent P g)
    (hcall : ∀ x r, f x = some r → LCall 0 P g (encs A x) ⟨[], [], 0⟩ (R.enc r) ⟨[], [], 0⟩)
    {X : Type} {args : List AVal} {B : Bx} {k : AVal → Bx → Option X} {res : X} (h : pureK A R f args B k = some res) : ∃ r, k (R.enc r) B = some res ∧ ACall P g args B (R.enc r) B := by
  unfold pureK at h
  cases hb : args.length == A.length with
  | false => rw [hb] at h; cases h
  | true =>
    rw [hb] at h
    simp only [cond_true] at h
    have hlen : args.length = A.length := by simpa using hb
    split at h
    · rename_i x hd
      obtain ⟨x, l⟩ := x
      cases hfx : f x with
      | none => simp only [hfx] at h; cases h
      | some r =>
        simp only [hfx, Option.bind_some] at h
        refine ⟨r, h, .inr hent, fun G w vs hvs hw => ?_⟩
        let Gn : Gh := { imm := G.imm, own := fun _ => none, addr := [] }
        have hr : ReTok G B.dead Gn 0 [] := ⟨rfl, by simp [Gn], fun k t h => by cases h⟩
        have hvn := decs_vals hr hA hlen hd vs hvs
        have hwn : WOk Gn ⟨[], [], 0⟩ w := ⟨rfl, List.nodup_nil, fun i b c h => by simp [Gn] at h, hw.imm, (fun b h => by cases h), (fun t b n h => by cases h), (fun t t' b n n' h => by cases h), fun q hq => ⟨(hw.tab q hq).1, (fun h => by cases h), (fun t n h => by cases h)⟩, fun i t T xs h => by simp at h⟩
        refine ((hcall x r hfx).2 Gn w vs hvn hwn).mono ?_
        rintro e w' ⟨cv, Gc, rfl, hcv, hwc, hext, _⟩
        have noown : ∀ b t n, Gn.own t ≠ some (b, n) := fun b t n h => by cases h
        have hsame : ∀ b, b < w.heap.size → Gc.imm b = G.imm b := fun b hb => hext.same b hb (noown b)
        have hfr : ∀ b, b < w.heap.size → w'.heap[b]? = w.heap[b]? := fun b hb => hext.frame b hb (by simp [Gn]) (noown b)
        let Go : Gh := { G with imm := Gc.imm }
        have hgle : GLe G B.dead Go B.dead := ⟨hext.imm, List.prefix_refl _, fun _ h => h, fun t b n _ ho => ⟨ho, fun row hi => by
          obtain ⟨_, _, cells, e, hh, _⟩ := hw.own t b n ho
          show Gc.imm b = some row
          rw [hsame b (heap_lt hh)]; exact hi⟩⟩
        refine ⟨cv, Go, rfl, ?_, ?_, hgle, ?_⟩
        · obtain ⟨cs, h1, h2⟩ := hcv
          exact ⟨cs, (enc_pure (G := Gc) (G' := Go) rfl hR r).1 cs h1, h2⟩
        · refine ⟨hw.len, hw.nodup, fun i b c hib hc => ?_, hwc.imm, fun b hb => ?_, fun t b n ht => ?_, hw.inj, fun q hq => ⟨(hwc.tab q hq).1, (hw.tab q hq).2⟩, ?_⟩
          · have hbo := hw.boxes i b c hib hc
            obtain ⟨o', cs, k1, _, _⟩ := id hbo
            exact hbo.mono hgle (hfr b (heap_lt k1))
          · show Gc.imm b = none
            rw [hsame b (hw.addr_lt hb)]; exact hw.disj b hb
          · obtain ⟨k1, k2, cells, e, k3, k4⟩ := hw.own t b n ht
            exact ⟨k1, k2.of (hsame b (heap_lt k3)) fun i c e1 e2 => .inr ⟨i, c, e1, e2, fun h => h⟩, cells, e, by rw [hfr b (heap_lt k3)]; exact k3, k4.1, by show ByR (Gc.imm b) e; rw [hsame b (heap_lt k3)]; exact k4.2⟩
          · refine hw.vec.mono (fun _ _ _ _ hx => hx) (fun _ h => .inl h) (fun t b n _ h1 h2 => ?_) hext.imm
            obtain ⟨_, _, cells, e, hh, _⟩ := hw.own t b n h1
            exact ⟨h1, by show Gc.imm b = none; rw [hsame b (heap_lt hh)]; exact h2, hfr b (heap_lt hh)⟩
        · exact ⟨hext.os, hext.tape, hext.output, hext.size, fun b hb _ _ => hfr b hb, hext.imm, fun b hb _ => hsame b hb, fun b hb => .inl hb, fun t b n ht => .inl ⟨t, ht⟩⟩
    · cases h
theorem pure_lcall {P : Program} {C : CalT} {Ls : List LoopT} {g : FuncId} {fn : Func} {c : Code} {A : List PTy} {R : PTy} {f : Els A → Option R.El} (hm : P.follows .mixedOrders = true) (hf : P.funcs[g]? = some fn) (hb : fn.body = some c) (hent : Ent P g) (hC : CV P C)
    (hL : LV 0 P false (loopsOf c) Ls) (hA : A.all PTy.pure = true) (hR : R.pure = true) (hev : ∀ x, fnR P C Ls fn c (encs A x) ⟨[], [], 0⟩ (fun v B => match R.dec v with | some y => some y.1 | none => none) = f x) :
    ∀ x r, f x = some r → LCall 0 P g (encs A x) ⟨[], [], 0⟩ (R.enc r) ⟨[], [], 0⟩ := by
  intro x r hr
  obtain ⟨v, B', hk, hl⟩ := fnR_sound (n := 0) hm hf hb hent hC hL ((hev x).trans hr)
  split at hk
  · rename_i y hy
    obtain ⟨y, l⟩ := y
    simp only [Option.some.injEq] at hk
    subst hk
    refine ⟨hl.1, fun G w vs hvs hw => (hl.2 G w vs hvs hw).mono ?_⟩
    rintro e w' ⟨cv, G1, rfl, h1, h2, h3, h4⟩
    let G2 : Gh := { imm := G1.imm, own := fun _ => none, addr := [] }
    have hr : ReTok G1 B'.dead G2 0 [] := ⟨rfl, by simp [G2], fun k t h => by cases h⟩
    have e := pure_toks hR hy
    subst e
    refine ⟨cv, G2, rfl, dec_v hr hy (under_top (pure_under hR)) (fun q hq => by cases hq) h1, ⟨rfl, List.nodup_nil, fun i b c h => by simp [G2] at h, h2.imm, (fun b h => by cases h), (fun t b n h => by cases h), (fun t t' b n n' h => by cases h), fun q hq => ⟨(h2.tab q hq).1, (fun h => by cases h), (fun t n h => by cases h)⟩, fun i t T xs h => by simp at h⟩, ?_, fun i b hi => by omega⟩
    exact ⟨h3.os, h3.tape, h3.output, h3.size, h3.frame, h3.imm, h3.same, (fun b hb => by cases hb), (fun t b n h => by cases h)⟩
  · cases hk
end Go.Proofs.YtibmgbalfhfcdaaDoor.Abs
set_option linter.unusedVariables false
set_option linter.unusedSimpArgs false
namespace Go.Proofs.YtibmgbalfhfcdaaDoor.Abs
def DTy.flat : DTy → Bool
  | .int _ => true
  | .bool => true
  | .str => true
  | .list _ => false
  | .nil => true
  | .cons h t => h.flat && t.flat
  | .arr _ e => e.flat
  | .mapr => true
theorem RD.flat {imm imm' : Nat → Option (List Value)} : {T : DTy} → T.flat = true → {x : T.El} → {cs : List Value} → RD imm T x cs → RD imm' T x cs
  | .int k, _, n, cs, h => h
  | .bool, _, b, cs, h => h
  | .str, _, s, cs, h => h
  | .nil, _, _, cs, h => h
  | .cons a t, hf, x, cs, h => by
    simp only [DTy.flat, Bool.and_eq_true] at hf
    obtain ⟨c1, c2, rfl, h1, h2⟩ := h
    exact ⟨c1, c2, rfl, RD.flat hf.1 h1, RD.flat hf.2 h2⟩
  | .arr n e, hf, xs, cs, h => ⟨h.1, h.2.1, fun i x hx => RD.flat (T := e) hf (h.2.2 i x hx)⟩
  | .mapr, _, _, cs, h => h
  | .list e, hf, xs, cs, h => by simp [DTy.flat] at hf
def PTy.flat : PTy → Bool
  | .dat T => T.flat
  | .cons h t => h.flat && t.flat
  | .nil => true
  | .tup p => p.flat
  | _ => false
theorem enc_flat {G G' : Gh} {d d' : List Nat} : {p : PTy} → p.flat = true → (x : p.El) → (∀ cs, Rc G d (p.enc x) cs → Rc G' d' (p.enc x) cs) ∧ (∀ vs, Rl G d (p.enc x) vs → Rl G' d' (p.enc x) vs)
  | .dat T, h, x => ⟨fun cs hc => RD.flat (T := T) h hc, fun _ h => h⟩
  | .cons p q, h, x => by
    simp only [PTy.flat, Bool.and_eq_true] at h
    have m1 := enc_flat (G := G) (G' := G') (d := d) (d' := d') h.1 x.1
    have m2 := enc_flat (G := G) (G' := G') (d := d) (d' := d') h.2 x.2
    exact ⟨fun cs h => by
      obtain ⟨c1, c2, rfl, h1, h2⟩ := h
      exact ⟨c1, c2, rfl, m1.1 _ h1, m2.1 _ h2⟩, fun vs h => by
      obtain ⟨v, l, rfl, ⟨cs, hc, hv⟩, hl⟩ := h
      exact ⟨v, l, rfl, ⟨cs, m1.1 _ hc, hv⟩, m2.2 _ hl⟩⟩
  | .nil, _, x => ⟨fun _ h => h, fun _ h => h⟩
  | .tup p, h, x => by
    have m1 := enc_flat (p := p) (G := G) (G' := G') (d := d) (d' := d') h x
    exact ⟨fun cs h => by
      obtain ⟨l, rfl, hl⟩ := h
      exact ⟨l, rfl, m1.2 _ hl⟩, fun _ h => h⟩
  | .tbox _ _, h, _ | .optp _, h, _ | .siter, h, _ | .fnp _ _ _, h, _ | .any, h, _ | .fix _, h, _ | .own _ _, h, _ | .map _ _, h, _ | .ip _, h, _ | .lp _ _ _, h, _ | .vec _ _ _, h, _ | .vrow _ _, h, _ => by simp [PTy.flat] at h
def viewOne (B : Bx) : PTy → AVal → AVal
  | .ip T, .bptr b p => match B.box[b]? with
    | some c => match getP c p with
      | some c' => match asData c' T with
        | some x => .iptr T x
        | none => .bptr b p
      | none => .bptr b p
    | none => .bptr b p
  | _, a => a
def viewA (B : Bx) : List PTy → List AVal → List AVal
  | p :: ps, a :: az => viewOne B p a :: viewA B ps az
  | _, az => az
theorem viewA_len {B : Bx} : {ps : List PTy} → {az : List AVal} → (viewA B ps az).length = az.length
  | [], az => by cases az <;> rfl
  | p :: ps, [] => rfl
  | p :: ps, a :: az => by simp [viewA, viewA_len (ps := ps) (az := az)]
def frzG (G : Gh) (w : World) : Gh := { G with imm := fun b => if b ∈ G.addr then (match w.heap[b]? with | some (.cells c _ _) => some c.toList | _ => none) else G.imm b }
theorem frzG_le {G : Gh} {B : Bx} {w : World} (hw : WOk G B w) : GLe G B.dead (frzG G w) B.dead := by
  have key : ∀ b row, G.imm b = some row → (frzG G w).imm b = some row := fun b row h => by
    have : b ∉ G.addr := fun hm => by rw [hw.disj b hm] at h; cases h
    simp [frzG, this, h]
  exact ⟨fun b row h => ⟨row, key b row h, List.prefix_refl _⟩, List.prefix_refl _, fun _ h => h, fun t b n _ h => ⟨h, fun row h' => key b row h'⟩⟩
theorem asData_notM {a : AVal} {T : DTy} {x : T.El} (h : asData a T = some x) : a.isM = false := by
  cases a <;> first | rfl | simp [asData] at h
theorem viewOne_v {G : Gh} {B : Bx} {w : World} (hw : WOk G B w) {p : PTy} {a : AVal} {v : Value} (h : Rv G B.dead a v) : Rv (frzG G w) B.dead (viewOne B p a) v := by
  have hg := frzG_le hw
  have base := h.mono hg
  unfold viewOne
  split
  · rename_i T b q
    split
    · rename_i c hc
      split
      · rename_i c' hc'
        split
        · rename_i x hx
          obtain ⟨blk, hb, hq, rfl⟩ := ptr_form h
          obtain ⟨cells, e, hh, hrc⟩ := (hw.boxes b blk c hb hc).cells (getP_notM hc' (asData_notM hx))
          obtain ⟨hle, hr⟩ := getP_spec hc' hq _ hrc
          have hl := Rc.len hr
          have hd := asData_spec hx _ hr
          have hdl := RD.len hd
          have hmem : blk ∈ G.addr := List.mem_of_getElem? hb
          have himm : (frzG G w).imm blk = some cells.toList := by simp [frzG, hmem, hh]
          refine leaf_v rfl ⟨blk, offP q, cells.toList, rfl, himm, by omega, ?_⟩
          have : T.sz = c'.size := by omega
          rw [this]
          exact RD.mono hg.imm hd
        · exact base
      · exact base
    · exact base
  · exact base
theorem viewA_vals {G : Gh} {B : Bx} {w : World} (hw : WOk G B w) : {ps : List PTy} → {az : List AVal} → {vs : List Value} → Vals G B.dead az vs → Vals (frzG G w) B.dead (viewA B ps az) vs
  | _, _, _, .nil => by
    rename_i ps
    cases ps <;> exact .nil
  | ps, _, _, .cons h t => by
    cases ps with
    | nil => exact .cons (h.mono (frzG_le hw)) (by have := viewA_vals hw (ps := []) t; rename_i az _; cases az <;> exact this)
    | cons p ps => exact .cons (viewOne_v hw h) (viewA_vals hw t)
def viewK {X : Type} (A : List PTy) (R : PTy) (f : Els A → Option R.El) (args : List AVal) (B : Bx) (k : AVal → Bx → Option X) : Option X :=
  bif args.length == A.length then
    match decs A (viewA B A args) with
    | some x => (f x.1).bind fun r => k (R.enc r) B
    | none => none
  else none
theorem view_sound {P : Program} {g : FuncId} {A : List PTy} {R : PTy} {f : Els A → Option R.El} (hA : A.all PTy.pure = true) (hR : R.flat = true) (hent : Ent P g)
    (hcall : ∀ x r, f x = some r → LCall 0 P g (encs A x) ⟨[], [], 0⟩ (R.enc r) ⟨[], [], 0⟩)
    {X : Type} {args : List AVal} {B : Bx} {k : AVal → Bx → Option X} {res : X} (h : viewK A R f args B k = some res) : ∃ r, k (R.enc r) B = some res ∧ ACall P g args B (R.enc r) B := by
  unfold viewK at h
  cases hb : args.length == A.length with
  | false => rw [hb] at h; cases h
  | true =>
    rw [hb] at h
    simp only [cond_true] at h
    have hlen : args.length = A.length := by simpa using hb
    split at h
    · rename_i x hd
      obtain ⟨x, l⟩ := x
      cases hfx : f x with
      | none => simp only [hfx] at h; cases h
      | some r =>
        simp only [hfx, Option.bind_some] at h
        refine ⟨r, h, .inr hent, fun G w vs hvs hw => ?_⟩
        have hvs' := viewA_vals hw (ps := A) hvs
        let Gn : Gh := { imm := (frzG G w).imm, own := fun _ => none, addr := [] }
        have hr : ReTok (frzG G w) B.dead Gn 0 [] := ⟨rfl, by simp [Gn], fun k t h => by cases h⟩
        have hvn := decs_vals hr hA (by rw [viewA_len]; exact hlen) hd vs hvs'
        have hwn : WOk Gn ⟨[], [], 0⟩ w := ⟨rfl, List.nodup_nil, fun i b c h => by simp [Gn] at h, fun b row hb => by
          have hb' : (if b ∈ G.addr then (match w.heap[b]? with | some (.cells c _ _) => some c.toList | _ => none) else G.imm b) = some row := hb
          split at hb'
          · split at hb'
            · rename_i c e fr hc
              simp only [Option.some.injEq] at hb'
              exact ⟨c, e, fr, hc, by rw [hb']; exact List.prefix_refl _⟩
            · cases hb'
          · exact hw.imm b row hb', (fun b h => by cases h), (fun t b n h => by cases h), (fun t t' b n n' h => by cases h), fun q hq => ⟨(hw.tab q hq).1, (fun h => by cases h), (fun t n h => by cases h)⟩, fun i t T xs h => by simp at h⟩
        refine ((hcall x r hfx).2 Gn w vs hvn hwn).mono ?_
        rintro e w' ⟨cv, Gc, rfl, hcv, hwc, hext, _⟩
        have noown : ∀ b t n, Gn.own t ≠ some (b, n) := fun b t n h => by cases h
        have hsame : ∀ b, b < w.heap.size → b ∉ G.addr → Gc.imm b = G.imm b := fun b hb ha => by
          rw [hext.same b hb (noown b)]
          show (if b ∈ G.addr then _ else G.imm b) = _
          rw [if_neg ha]
        have hfr : ∀ b, b < w.heap.size → w'.heap[b]? = w.heap[b]? := fun b hb => hext.frame b hb (by simp [Gn]) (noown b)
        let Go : Gh := { G with imm := fun b => if b ∈ G.addr then none else Gc.imm b }
        have hGo : ∀ b, b ∉ G.addr → Go.imm b = Gc.imm b := fun b hb => by show (if b ∈ G.addr then none else Gc.imm b) = _; rw [if_neg hb]
        have hGi : ∀ b, b ∈ G.addr → Go.imm b = none := fun b hb => by show (if b ∈ G.addr then none else Gc.imm b) = _; rw [if_pos hb]
        have nota : ∀ b row, G.imm b = some row → b ∉ G.addr := fun b row hb hm => by rw [hw.disj b hm] at hb; cases hb
        have hle : ImmLe G.imm Go.imm := fun b row hb => by
          have hna := nota b row hb
          obtain ⟨row', h1, h2⟩ := hext.imm b row (by show (if b ∈ G.addr then _ else G.imm b) = _; rw [if_neg hna]; exact hb)
          exact ⟨row', by rw [hGo b hna]; exact h1, h2⟩
        have hgle : GLe G B.dead Go B.dead := ⟨hle, List.prefix_refl _, fun _ h => h, fun t b n _ ho => ⟨ho, fun row hi => by
          obtain ⟨_, _, cells, e, hh, _⟩ := hw.own t b n ho
          rw [hGo b (nota b row hi), hsame b (heap_lt hh) (nota b row hi)]; exact hi⟩⟩
        have hGs : ∀ b, b < w.heap.size → Go.imm b = G.imm b := fun b hb => by
          by_cases hm : b ∈ G.addr
          · rw [hGi b hm, hw.disj b hm]
          · rw [hGo b hm, hsame b hb hm]
        refine ⟨cv, Go, rfl, ?_, ?_, hgle, ?_⟩
        · obtain ⟨cs, h1, h2⟩ := hcv
          exact ⟨cs, (enc_flat (G := Gc) (G' := Go) hR r).1 cs h1, h2⟩
        · refine ⟨hw.len, hw.nodup, fun i b c hib hc => ?_, fun b row hb => ?_, fun b hb => hGi b hb, fun t b n ht => ?_, hw.inj, fun q hq => ⟨(hwc.tab q hq).1, (hw.tab q hq).2⟩, ?_⟩
          · have hbo := hw.boxes i b c hib hc
            obtain ⟨o', cs, k1, _, _⟩ := id hbo
            exact hbo.mono hgle (hfr b (heap_lt k1))
          · have hna : b ∉ G.addr := fun hm => by rw [hGi b hm] at hb; cases hb
            rw [hGo b hna] at hb
            exact hwc.imm b row hb
          · obtain ⟨k1, k2, cells, e, k3, k4⟩ := hw.own t b n ht
            exact ⟨k1, k2.of (hGs b (heap_lt k3)) fun i c e1 e2 => .inr ⟨i, c, e1, e2, fun h => h⟩, cells, e, by rw [hfr b (heap_lt k3)]; exact k3, k4.1, by rw [hGs b (heap_lt k3)]; exact k4.2⟩
          · refine hw.vec.mono (fun _ _ _ _ hx => hx) (fun _ h => .inl h) (fun t b n _ h1 h2 => ?_) hle
            obtain ⟨_, _, cells, e, k3, _⟩ := hw.own t b n h1
            exact ⟨h1, by rw [hGs b (heap_lt k3)]; exact h2, hfr b (heap_lt k3)⟩
        · refine ⟨hext.os, hext.tape, hext.output, hext.size, fun b hb _ _ => hfr b hb, hle, fun b hb _ => ?_, fun b hb => .inl hb, fun t b n ht => .inl ⟨t, ht⟩⟩
          by_cases hm : b ∈ G.addr
          · rw [hGi b hm, hw.disj b hm]
          · rw [hGo b hm, hsame b hb hm]
    · cases h
end Go.Proofs.YtibmgbalfhfcdaaDoor.Abs
set_option linter.unusedVariables false
set_option linter.unusedSimpArgs false
namespace Go.Proofs.YtibmgbalfhfcdaaDoor.Abs
structure CEnt where
  g : FuncId
  ok : List AVal → Bx → Bool
  run : (X : Type) → List AVal → Bx → (AVal → Bx → Option X) → Option X
  ro : Bool
  any : Bool
def CEnt.Valid (P : Program) (e : CEnt) : Prop := ∀ (X : Type) (args : List AVal) (B : Bx) (k : AVal → Bx → Option X) (r : X), e.run X args B k = some r → ∃ v B', k v B' = some r ∧ ACall P e.g args B v B' ∧ (e.ro = true → B' = B ∧ ∀ B0, Sim B B0 → ACall P e.g args B0 v B0) ∧ (e.any = true → ∀ B0, ACall P e.g args B0 v B0) ∧ B.box.length ≤ B'.box.length
def tabGo {X : Type} (g : FuncId) (args : List AVal) (B : Bx) (k : AVal → Bx → Option X) : List CEnt → Option X
  | [] => none
  | e :: l => bif e.g == g && e.ok args B then e.run X args B k else tabGo g args B k l
def roGo (g : FuncId) : List CEnt → Bool
  | [] => true
  | e :: l => (bif e.g == g then e.ro else true) && roGo g l
def anyGo (g : FuncId) : List CEnt → Bool
  | [] => true
  | e :: l => (bif e.g == g then e.any else true) && anyGo g l
def tabC (l : List CEnt) : CalT := ⟨fun _ g args B k => tabGo g args B k l, fun g => roGo g l, fun g => anyGo g l, false, fun _ => false, false⟩
def AllV (P : Program) : List CEnt → Prop
  | [] => True
  | e :: l => e.Valid P ∧ AllV P l
theorem tabC_valid {P : Program} {l : List CEnt} (h : AllV P l) : CV P (tabC l) := by
  intro X g args B k r hr
  have main : ∀ l, AllV P l → tabGo g args B k l = some r → ∃ v B', k v B' = some r ∧ ACall P g args B v B' ∧ (roGo g l = true → B' = B ∧ ∀ B0, Sim B B0 → ACall P g args B0 v B0) ∧ (anyGo g l = true → ∀ B0, ACall P g args B0 v B0) ∧ B.box.length ≤ B'.box.length := by
    intro l
    induction l with
    | nil => intro _ h; cases h
    | cons e l ih =>
      intro hv h
      simp only [tabGo] at h
      cases hb : e.g == g && e.ok args B with
      | true =>
        simp only [hb, cond_true] at h
        simp only [Bool.and_eq_true] at hb
        have he : e.g = g := by simpa using hb.1
        obtain ⟨v, B', h1, h2, h3, h5, h6⟩ := hv.1 X args B k r h
        rw [he] at h2 h3 h5
        refine ⟨v, B', h1, h2, fun h4 => h3 ?_, fun h4 => h5 ?_, h6⟩
        · simp only [roGo, hb.1, cond_true, Bool.and_eq_true] at h4
          exact h4.1
        · simp only [anyGo, hb.1, cond_true, Bool.and_eq_true] at h4
          exact h4.1
      | false =>
        simp only [hb, cond_false] at h
        obtain ⟨v, B', h1, h2, h3, h5, h6⟩ := ih hv.2 h
        refine ⟨v, B', h1, h2, fun h4 => h3 ?_, fun h4 => h5 ?_, h6⟩
        · simp only [roGo, Bool.and_eq_true] at h4
          exact h4.2
        · simp only [anyGo, Bool.and_eq_true] at h4
          exact h4.2
  obtain ⟨v, B', h1, h2, h3, h5, h6⟩ := main l h hr
  exact ⟨v, B', h1, h2, h3, h5, h6⟩
def fits (S : CSpec) (args : List AVal) (B : Bx) : Bool :=
  let sel := selA S args B
  let fb := fun b => idxIn b sel
  nodupB sel && sel.length == S.I.length && args.length == S.A.length &&
    match SPat.dec ⟨S.A, S.I, S.nt⟩ (args.map fun a => a.ren fb id) ⟨sel.map fun b => (B.box.getD b .any).ren fb id, B.dead, B.nt⟩ with
    | some _ => true
    | none => false
def pureE (g : FuncId) (A : List PTy) (R : PTy) (f : Els A → Option R.El) : CEnt := ⟨g, fun args B => fits (pureS A R) args B, fun _ args B k => pureK A R f args B k, true, true⟩
def boxE (g : FuncId) (S : CSpec) (f : S.In → Option S.Out) : CEnt := ⟨g, fun args B => fits S args B, fun _ args B k => callK S f args B k, false, false⟩
def viewE (g : FuncId) (A : List PTy) (R : PTy) (f : Els A → Option R.El) : CEnt := ⟨g, fun args B => args.length == A.length && (match decs A (viewA B A args) with | some _ => true | none => false), fun _ args B k => viewK A R f args B k, true, false⟩
theorem pureK_at {X : Type} {A : List PTy} {R : PTy} {f : Els A → Option R.El} {args : List AVal} {B : Bx} {k : AVal → Bx → Option X} {res : X} (h : pureK A R f args B k = some res) : ∃ q, k (R.enc q) B = some res ∧ ∀ B0, pureK A R f args B0 (fun v _ => some v) = some (R.enc q) := by
  unfold pureK at h ⊢
  cases hb : args.length == A.length with
  | false => rw [hb] at h; cases h
  | true =>
    rw [hb] at h
    simp only [cond_true] at h ⊢
    split at h
    · rename_i x hd
      cases hf : f x.1 with
      | none => rw [hf] at h; cases h
      | some q =>
        rw [hf] at h
        exact ⟨q, h, fun B0 => rfl⟩
    · cases h
theorem pureE_valid {P : Program} {g : FuncId} {A : List PTy} {R : PTy} {f : Els A → Option R.El} (hA : A.all PTy.pure = true) (hR : R.pure = true) (hent : Ent P g)
    (hcall : ∀ x r, f x = some r → LCall 0 P g (encs A x) ⟨[], [], 0⟩ (R.enc r) ⟨[], [], 0⟩) : (pureE g A R f).Valid P := by
  intro X args B k r h
  obtain ⟨q, h1, h2⟩ := pureK_at h
  have hac : ∀ B0, ACall P g args B0 (R.enc q) B0 := fun B0 => by
    obtain ⟨q', e, hac⟩ := pure_sound hA hR hent hcall (h2 B0)
    simp only [Option.some.injEq] at e
    rw [e] at hac
    exact hac
  exact ⟨_, _, h1, hac B, fun _ => ⟨rfl, fun B0 _ => hac B0⟩, fun _ => hac, Nat.le_refl _⟩
theorem boxE_valid {P : Program} {g : FuncId} {S : CSpec} {f : S.In → Option S.Out} (hS : S.ok = true) (hent : Ent' P g)
    (hcall : ∀ x r, f x = some r → LCall S.I.length P g (encs S.A x.1) ⟨encs S.I x.2, [], S.nt⟩ (S.R.enc r.1) ⟨encs S.O r.2, [], S.ntO⟩) : (boxE g S f).Valid P := by
  intro X args B k r h
  obtain ⟨q, h1, h2⟩ := call_sound hS hent hcall h
  exact ⟨_, _, h1, h2, (fun h => by cases h), (fun h => by cases h), by simp only [callB, List.length_append, setSel_len]; omega⟩
theorem viewA_sim {B B0 : Bx} (hs : Sim B B0) : {ps : List PTy} → {az : List AVal} → viewA B0 ps az = viewA B ps az
  | [], az => by cases az <;> rfl
  | p :: ps, [] => rfl
  | p :: ps, a :: az => by
    have : viewOne B0 p a = viewOne B p a := by unfold viewOne; rw [hs.1]
    simp only [viewA, this, viewA_sim hs (ps := ps) (az := az)]
theorem viewK_at {X : Type} {A : List PTy} {R : PTy} {f : Els A → Option R.El} {args : List AVal} {B : Bx} {k : AVal → Bx → Option X} {res : X} (h : viewK A R f args B k = some res) : ∃ q, k (R.enc q) B = some res ∧ ∀ B0, Sim B B0 → viewK A R f args B0 (fun v _ => some v) = some (R.enc q) := by
  have hv : ∀ B0, Sim B B0 → viewA B0 A args = viewA B A args := fun B0 hs => viewA_sim hs
  unfold viewK at h ⊢
  cases hb : args.length == A.length with
  | false => rw [hb] at h; cases h
  | true =>
    rw [hb] at h
    simp only [cond_true] at h ⊢
    split at h
    · rename_i x hd
      cases hf : f x.1 with
      | none => rw [hf] at h; cases h
      | some q =>
        rw [hf] at h
        refine ⟨q, h, fun B0 hs => ?_⟩
        rw [hv B0 hs, hd]
        simp only [hf]
        rfl
    · cases h
theorem viewE_valid {P : Program} {g : FuncId} {A : List PTy} {R : PTy} {f : Els A → Option R.El} (hA : A.all PTy.pure = true) (hR : R.flat = true) (hent : Ent P g)
    (hcall : ∀ x r, f x = some r → LCall 0 P g (encs A x) ⟨[], [], 0⟩ (R.enc r) ⟨[], [], 0⟩) : (viewE g A R f).Valid P := by
  intro X args B k r h
  obtain ⟨q, h1, h2⟩ := viewK_at h
  have hac : ∀ B0, Sim B B0 → ACall P g args B0 (R.enc q) B0 := fun B0 hs => by
    obtain ⟨q', e, hac⟩ := view_sound hA hR hent hcall (h2 B0 hs)
    simp only [Option.some.injEq] at e
    rw [e] at hac
    exact hac
  exact ⟨_, _, h1, hac B (Sim.refl _), (fun _ => ⟨rfl, hac⟩), (fun h => by cases h), Nat.le_refl _⟩
def loopAt (c : Code) (i : Nat) : Code := match (loopsOf c)[i]? with
  | some (.loop b) => b
  | _ => .skip
def bodyOf (f : Func) : Code := f.body.getD .skip
def noL : LoopT := ⟨fun _ _ _ _ => none⟩
theorem noL_valid {n : Nat} {P : Program} {c : Code} {rd : Bool} : LValid n P c noL rd := fun _ _ _ _ _ h => by cases h
def pureF (R : PTy) (v : AVal) (B : Bx) : Option R.El := match R.dec v with
  | some y => some y.1
  | none => none
end Go.Proofs.YtibmgbalfhfcdaaDoor.Abs
set_option linter.unusedVariables false
set_option linter.unusedSimpArgs false
namespace Go.Proofs.YtibmgbalfhfcdaaDoor.Abs
def frzF : (R : PTy) → AVal → Bx → Option R.El
  | .ip T, .bptr b [], B => match B.box[b]? with
    | some c => bif c.isM then none else asData c T
    | none => none
  | R, v, _ => match R.dec v with
    | some y => some y.1
    | none => none
theorem frz_lcall {P : Program} {C : CalT} {Ls : List LoopT} {g : FuncId} {fn : Func} {c : Code} {A : List PTy} {R : PTy} {f : Els A → Option R.El} (hm : P.follows .mixedOrders = true) (hf : P.funcs[g]? = some fn) (hb : fn.body = some c) (hent : Ent P g) (hC : CV P C)
    (hL : LV 0 P false (loopsOf c) Ls) (hA : A.all PTy.pure = true) (hR : R.pure = true) (hev : ∀ x, fnR P C Ls fn c (encs A x) ⟨[], [], 0⟩ (frzF R) = f x) :
    ∀ x r, f x = some r → LCall 0 P g (encs A x) ⟨[], [], 0⟩ (R.enc r) ⟨[], [], 0⟩ := by
  intro x r hr
  obtain ⟨v, B', hk, hl⟩ := fnR_sound (n := 0) hm hf hb hent hC hL ((hev x).trans hr)
  unfold frzF at hk
  split at hk
  · rename_i T b
    split at hk
    · rename_i c hc
      cases hnm : c.isM with
      | true => rw [hnm] at hk; cases hk
      | false =>
        rw [hnm] at hk
        simp only [cond_false] at hk
        refine ⟨hl.1, fun G w vs hvs hw => (hl.2 G w vs hvs hw).mono ?_⟩
        rintro e w' ⟨cv, G1, rfl, h1, h2, h3, h4⟩
        obtain ⟨blk, hblk, _, rfl⟩ := ptr_form h1
        obtain ⟨cells, e, hh, hrc⟩ := (h2.boxes b blk c hblk hc).cells (isC_of hnm)
        have hrd := asData_spec hk _ hrc
        have hmem : blk ∈ G1.addr := List.mem_of_getElem? hblk
        have hge : w.heap.size ≤ blk := by
          rcases h3.addr blk hmem with h | h
          · have := hw.len
            have h0 : G.addr = [] := List.length_eq_zero_iff.1 this
            rw [h0] at h; cases h
          · exact h
        have hnone := h2.disj blk hmem
        let G2 : Gh := { imm := fun x => if x = blk then some cells.toList else G1.imm x, own := fun _ => none, addr := [] }
        have himm : ImmLe G1.imm G2.imm := fun b' row h => by
          have hne : b' ≠ blk := fun he => by subst he; rw [hnone] at h; cases h
          exact ⟨row, by simp [G2, hne, h], List.prefix_refl _⟩
        have hself : G2.imm blk = some cells.toList := by simp [G2]
        have hlen := RD.len hrd
        refine ⟨_, G2, rfl, leaf_v rfl ⟨blk, 0, cells.toList, rfl, hself, by omega, ?_⟩, ⟨rfl, List.nodup_nil, fun i b c h => by simp [G2] at h, fun b' row h => ?_, (fun b h => by cases h), (fun t b n h => by cases h), (fun t t' b n n' h => by cases h), fun q hq => ⟨(h2.tab q hq).1, (fun h => by cases h), (fun t n h => by cases h)⟩, fun i t T xs h => by simp at h⟩,
          ⟨h3.os, h3.tape, h3.output, h3.size, h3.frame, h3.imm.trans himm, fun b' hb' ho => ?_, (fun b hb => by cases hb), (fun t b n h => by cases h)⟩, fun i b hi => by omega⟩
        · rw [List.drop_zero, List.take_of_length_le (by omega)]
          exact RD.mono himm hrd
        · by_cases hbe : b' = blk
          · subst hbe
            rw [hself] at h
            cases h
            exact ⟨cells, e, (0, 0), hh, List.prefix_refl _⟩
          · exact h2.imm b' row (by simpa [G2, hbe] using h)
        · have hne : b' ≠ blk := by omega
          show (if b' = blk then some cells.toList else G1.imm b') = G.imm b'
          rw [if_neg hne]
          exact h3.same b' hb' ho
    · cases hk
  · split at hk
    · rename_i y hy
      obtain ⟨y, l⟩ := y
      simp only [Option.some.injEq] at hk
      subst hk
      refine ⟨hl.1, fun G w vs hvs hw => (hl.2 G w vs hvs hw).mono ?_⟩
      rintro e w' ⟨cv, G1, rfl, h1, h2, h3, h4⟩
      let G2 : Gh := { imm := G1.imm, own := fun _ => none, addr := [] }
      have hr : ReTok G1 B'.dead G2 0 [] := ⟨rfl, by simp [G2], fun k t h => by cases h⟩
      have e := pure_toks hR hy
      subst e
      refine ⟨cv, G2, rfl, dec_v hr hy (under_top (pure_under hR)) (fun q hq => by cases hq) h1, ⟨rfl, List.nodup_nil, fun i b c h => by simp [G2] at h, h2.imm, (fun b h => by cases h), (fun t b n h => by cases h), (fun t t' b n n' h => by cases h), fun q hq => ⟨(h2.tab q hq).1, (fun h => by cases h), (fun t n h => by cases h)⟩, fun i t T xs h => by simp at h⟩, ?_, fun i b hi => by omega⟩
      exact ⟨h3.os, h3.tape, h3.output, h3.size, h3.frame, h3.imm, h3.same, (fun b hb => by cases hb), (fun t b n h => by cases h)⟩
    · cases hk
end Go.Proofs.YtibmgbalfhfcdaaDoor.Abs
set_option linter.unusedVariables false
set_option linter.unusedSimpArgs false
namespace Go.Proofs.YtibmgbalfhfcdaaDoor.Abs
def jumpNo : AExit → Nat
  | .normal => 0
  | .ret => 3
  | .exit id => id + 4
theorem jump_st (e : AExit) : stOf (jumpNo e) = if (pendOf (jumpNo e)).isNone then .ready else .done := by
  cases e <;> rfl
def setK (B : Bx) (b : Nat) (from' to : Nat) : Option Bx := match B.box[b]? with
  | some (.lobj g i k env) => bif k == from' then some { B with box := B.box.set b (.lobj g i to env) } else none
  | _ => none
def setKK {X : Type} (B : Bx) (b : Nat) (from' to : Nat) (k : Bx → Option X) : Option X := match B.box[b]? with
  | some (.lobj g i q env) => bif q == from' then k { B with box := B.box.set b (.lobj g i to env) } else none
  | _ => none
theorem setKK_spec {X : Type} {B : Bx} {b from' to : Nat} {k : Bx → Option X} {r : X} (h : setKK B b from' to k = some r) : ∃ B', setK B b from' to = some B' ∧ k B' = some r := by
  unfold setKK at h
  unfold setK
  split at h
  · rename_i g i q env hb
    cases hq : q == from' with
    | false => rw [hq] at h; cases h
    | true =>
      rw [hq] at h
      exact ⟨_, rfl, h⟩
  · cases h
def setPs : List AVal → List Tmp → List AVal → List AVal
  | env, p :: ps, a :: az => setPs (env.set p a) ps az
  | env, _, _ => env
noncomputable def roundR (P : Program) (C : CalT) {X : Type} (Ls : List LoopT) (g i : Nat) (args : List AVal) (B : Bx) (fin : AVal → Bx → Option X) : Option X :=
  match args with
  | .yref b :: az => match B.box[b]? with
    | some (.lobj g' i' k env) => bif g' == g && i' == i then natK k (match lcode g i with
      | .rangeFunc _ ps asg bd => bif ps.size == az.length then
          codeR P C asg [] (setPs (unchain env) ps.toList az) { B with box := B.box.set b (.lobj g' i' 0 env) } fun e env2 B2 => match e with
            | .normal => match setK B2 b 0 1 with
              | some B3 => codeR P C bd Ls env2 B3 fun e env4 B4 => setKK B4 b 1 (jumpNo e) fun B5 => fin (.d .bool (natK (jumpNo e) true fun _ => false)) B5
              | none => none
            | _ => none
        else none
      | _ => none) (fun _ => none) else none
    | _ => none
  | _ => none
theorem setPs_ok {G : Gh} {dead : List Nat} : {ps : List Tmp} → {az : List AVal} → {vs : List Value} → {env : List AVal} → {tm : Array Value} → Vals G dead az vs → EnvOk G dead env tm →
    EnvOk G dead (setPs env ps az) ((ps.zip vs).foldl (fun t (q : Tmp × Value) => t.setIfInBounds q.1 q.2) tm)
  | [], az, vs, env, tm, _, h => by cases az <;> exact h
  | p :: ps, _, _, env, tm, .nil, h => h
  | p :: ps, _, _, env, tm, .cons (a := a) (v := v) hv t, h => by
    have := EnvOk.put (a := { tmps := tm, defers := [] }) h (some p) hv
    exact setPs_ok (ps := ps) (env := env.set p a) (tm := tm.setIfInBounds p v) t this
theorem chain_env {G : Gh} {dead : List Nat} {env : AVal} {vs : List Value} (h : Rl G dead env vs) : EnvOk G dead (unchain env) vs.toArray := by
  have hv := vals_chain h
  refine ⟨by have := vals_len hv; simp [this], fun t => ?_⟩
  rcases Nat.lt_or_ge t (unchain env).length with ht | ht
  · obtain ⟨v, h1, h2⟩ := vals_get hv (List.getElem?_eq_getElem ht)
    have e1 : (unchain env).getD t .any = (unchain env)[t] := by simp [List.getD_eq_getElem?_getD, ht]
    have e2 : (vs.toArray).getD t undef = v := by rw [Array.getD_eq_getD_getElem?]; simp [h1]
    rw [e1, e2]; exact h2
  · have e1 : (unchain env).getD t .any = .any := by rw [List.getD_eq_getElem?_getD, List.getElem?_eq_none ht]; rfl
    rw [e1]; exact any_v _
theorem natK_some {X : Type} {k : Nat} {a : Option X} {r : X} (h : natK k a (fun _ => none) = some r) : k = 0 ∧ a = some r := by
  cases k with
  | zero => exact ⟨rfl, h⟩
  | succ k => cases h
theorem setK_dead {B B' : Bx} {b from' to : Nat} (h : setK B b from' to = some B') : B'.dead = B.dead := by
  unfold setK at h
  split at h
  · rename_i g i k env hbx
    cases hk : k == from' with
    | false => rw [hk] at h; cases h
    | true =>
      rw [hk] at h
      simp only [cond_true, Option.some.injEq] at h
      subst h
      rfl
  · cases h
theorem setK_ok {G : Gh} {B B' : Bx} {w : World} {b l from' to : Nat} (hw : WOk G B w) (h : setK B b from' to = some B') (hb : G.addr[b]? = some l) :
    ∃ r g i, w.heap[l]? = some (.loop r) ∧ LoopIs g i from' r ∧ ∀ r' : Loop, r'.tmps = r.tmps → LoopIs g i to r' → WOk G B' (putO w l (.loop r')) ∧ Ext G w G (putO w l (.loop r')) := by
  unfold setK at h
  split at h
  · rename_i g i k env hbx
    cases hk : k == from' with
    | false => rw [hk] at h; cases h
    | true =>
      rw [hk] at h
      simp only [cond_true, Option.some.injEq] at h
      subst h
      have hk : k = from' := by simpa using hk
      subst hk
      obtain ⟨o, cs, h1, ⟨r, rfl, h2, h3⟩, h4⟩ := hw.boxes b l _ hb hbx
      refine ⟨r, g, i, h1, h2, fun r' ht hl => ?_⟩
      exact upd_obj (c' := .lobj g i to env) (o' := .loop r') hw hb hbx rfl rfl h1 ⟨r', rfl, hl, by rw [ht, ← h3]⟩ h4
  · cases h
theorem round_sound {n : Nat} {P : Program} {C : CalT} {X : Type} {Ls : List LoopT} {g i : Nat} {args : List AVal} {B : Bx} {fin : AVal → Bx → Option X} {res : X} {f : Operand} {ps : Array Tmp} {asg bd : Code} (hm : P.follows .mixedOrders = true) (hC : CV P C)
    (hc : lcode g i = .rangeFunc f ps asg bd) (hL : LV n P true (loopsOf bd) Ls) (hn : ∀ b az, args = .yref b :: az → b < n) (h : roundR P C Ls g i args B fin = some res) : ∃ v B', fin v B' = some res ∧ LCall n P YLD args B v B' := by
  unfold roundR at h
  split at h
  · rename_i b az
    have hbn := hn b az rfl
    split at h
    · rename_i g' i' k env hbx
      cases hgi : g' == g && i' == i with
      | false => rw [hgi] at h; cases h
      | true =>
        rw [hgi] at h
        simp only [cond_true] at h
        simp only [Bool.and_eq_true, beq_iff_eq] at hgi
        obtain ⟨rfl, rfl⟩ := hgi
        obtain ⟨rfl, h⟩ := natK_some h
        have hsame : ({ B with box := B.box.set b (.lobj g' i' 0 env) } : Bx) = B := by
          obtain ⟨hlt, he⟩ := List.getElem?_eq_some_iff.1 hbx
          rw [← he, List.set_getElem_self]
        rw [hsame] at h
        rw [hc] at h
        simp only at h
        cases hps : ps.size == az.length with
        | false => rw [hps] at h; cases h
        | true =>
          rw [hps] at h
          simp only [cond_true] at h
          have hps : ps.size = az.length := by simpa using hps
          obtain ⟨e, env2, B2, h1, w1⟩ := codeR_sound (n := n) (rd := true) hm hC asg (by unfold LV; cases loopsOf asg <;> trivial) h
          cases e with
          | exit id => cases h1
          | ret => cases h1
          | normal =>
            simp only at h1
            split at h1
            · rename_i B3 hB3
              obtain ⟨e, env4, B4, h2, w2⟩ := codeR_sound (n := n) (rd := true) hm hC bd hL h1
              obtain ⟨B5, hB5, h2⟩ := setKK_spec h2
              · refine ⟨_, _, h2, .inl rfl, fun G w vs hvs hw => ⟨(fun hne => absurd rfl hne), fun _ l vs' hvse => ?_⟩⟩
                subst hvse
                cases hvs with
                | cons hyv hargs =>
                  have hl : G.addr[b]? = some l := by
                    obtain ⟨cs, ⟨blk, hb, rfl⟩, hh | hh⟩ := hyv
                    · cases hh.1
                    · have := hh.2
                      simp only [List.cons.injEq, Value.func.injEq, Fn.yield.injEq, and_true] at this
                      rw [← this]; exact hb
                  obtain ⟨o, cs, k1, ⟨r, rfl, hr, rfl⟩, k3⟩ := hw.boxes b l _ hl hbx
                  obtain ⟨⟨f', hf'⟩, hst, hpe⟩ := id hr
                  rw [hc] at hf'
                  injection hf' with e1 e2 e3 e4
                  subst e2 e3 e4
                  have hlen := vals_len hargs
                  refine ⟨r.fn, _, r.assign, r.body, run_yield k1 (by simp [← hlen, hps]), ?_⟩
                  refine roundIn_of_wpIn trivial ?_
                  have henv : EnvOk G B.dead (setPs (unchain env) r.params.toList az) ((r.params.zip vs'.toArray).foldl (fun tmps (t, a) => tmps.setIfInBounds t a) r.tmps) := by
                    have h0 := chain_env (G := G) (dead := B.dead) k3
                    have := setPs_ok (ps := r.params.toList) hargs h0
                    have e : (r.params.zip vs'.toArray).foldl (fun tmps (t, a) => tmps.setIfInBounds t a) r.tmps = (r.params.toList.zip vs').foldl (fun t (q : Tmp × Value) => t.setIfInBounds q.1 q.2) r.tmps.toList.toArray := by
                      rw [← Array.foldl_toList, Array.toList_zip]
                    rw [e]
                    exact this
                  refine w1 (some l) rfl G _ w _ ⟨henv, hw, trivial⟩ fun G2 a2 w2' g2 => ?_
                  have hl2 : G2.addr[b]? = some l := g2.held b l hbn hl
                  obtain ⟨r2, gg, ii, q1, q2, q3⟩ := setK_ok g2.ok.w hB3 hl2
                  obtain ⟨q3, q4⟩ := q3 { r2 with state := .busy } rfl ⟨q2.1, rfl, fun _ => q2.2.2 (by decide)⟩
                  refine ⟨_, run_beginRound q1 q2.2.1, ?_⟩
                  refine w2 (some l) rfl G2 a2 _ _ ⟨by rw [setK_dead hB3]; exact g2.ok.env, q3, g2.ok.marks.ext q4⟩ fun G4 a4 w4 g4 => ?_
                  have hl4 : G4.addr[b]? = some l := g4.held b l hbn hl2
                  obtain ⟨r4, gg4, ii4, p1, p2, p3⟩ := setK_ok g4.ok.w hB5 hl4
                  have fin' : ∀ (jump : Option Code), jump = pendOf (jumpNo e) → ∃ v w', (Instr.endRound l jump).run P w4 = .ok v w' ∧ ∃ cv G', Ending.returned v = .returned cv ∧ Rv G' B5.dead (.d .bool (natK (jumpNo e) true fun _ => false)) cv ∧ WOk G' B5 w' ∧ Ext G w G' w' ∧ ∀ i b, i < n → G.addr[i]? = some b → G'.addr[i]? = some b := by
                    intro jump hj
                    have hrun := run_endRound (P := P) jump p1
                    obtain ⟨p4, p5⟩ := p3 { r4 with state := if jump.isNone then .ready else .done, pending := jump } rfl ⟨p2.1, by rw [jump_st, ← hj], fun _ => hj⟩
                    refine ⟨_, _, hrun, _, G4, rfl, ?_, p4, ((g2.ext.trans q4).trans g4.ext).trans p5, fun j c hj' hc' => g4.held j c hj' (g2.held j c hj' hc')⟩
                    rw [hj]
                    cases e <;> exact leaf_v rfl rfl
                  cases e with
                  | normal => exact fin' none rfl
                  | ret => exact fin' (some .ret) rfl
                  | exit id => exact fin' (some (.exit id)) rfl
            · cases h1
    · cases h
  · cases h
theorem rd_lcall {P : Program} {C : CalT} {Ls : List LoopT} {g i : Nat} {S : CSpec} {f : S.In → Option S.Out} {fo : Operand} {ps : Array Tmp} {asg bd : Code} (hm : P.follows .mixedOrders = true) (hC : CV P C) (hc : lcode g i = .rangeFunc fo ps asg bd)
    (hL : LV S.I.length P true (loopsOf bd) Ls) (hn : ∃ A', S.A = .fix (.yref 0) :: A') (hI : 0 < S.I.length) (hS : S.ok = true) (hS2 : S.ok2 = true) (hev : ∀ x, roundR P C Ls g i (encs S.A x.1) ⟨encs S.I x.2, [], S.nt⟩ (finK S) = f x) :
    ∀ x r, f x = some r → LCall S.I.length P YLD (encs S.A x.1) ⟨encs S.I x.2, [], S.nt⟩ (S.R.enc r.1) ⟨encs S.O r.2, [], S.ntO⟩ := by
  intro x r hr
  obtain ⟨v, B', hk, hl⟩ := round_sound (n := S.I.length) hm hC hc hL (fun b az he => by
    obtain ⟨A', hA⟩ := hn
    have : ∀ (A : List PTy) (y : Els A), A = .fix (.yref 0) :: A' → encs A y = .yref b :: az → b = 0 := by
      intro A y hA hy
      subst hA
      simp only [encs, List.cons.injEq, AVal.yref.injEq] at hy
      exact hy.1.symm
    rw [this S.A x.1 hA he]
    exact hI) ((hev x).trans hr)
  unfold finK at hk
  split at hk
  · rename_i z hz
    simp only [Option.some.injEq] at hk
    subst hk
    simp only [CSpec.ok, Bool.and_eq_true, decide_eq_true_eq] at hS
    refine ⟨hl.1, fun G w vs hvs hw => (hl.2 G w vs hvs hw).mono ?_⟩
    rintro e w' ⟨cv, G1, rfl, h1, h2, h3, h4⟩
    have hok : Ok G1 B' [v] { tmps := #[cv], defers := [] } w' := ⟨⟨rfl, fun t => by
      cases t with
      | zero => exact h1
      | succ t => exact any_v _⟩, h2, trivial⟩
    obtain ⟨G2, g2⟩ := norm_sound (n := S.I.length) hS2 hS.2 hz hok
    refine ⟨cv, G2, rfl, by have := g2.ok.env.val 0; unfold SPat.encE at this; rw [oneE_enc] at this; exact this, g2.ok.w, h3.trans g2.ext, fun i b hi hb => g2.held i b hi (h4 i b hi hb)⟩
  · cases hk
end Go.Proofs.YtibmgbalfhfcdaaDoor.Abs
set_option linter.unusedVariables false
set_option linter.unusedSimpArgs false
set_option maxRecDepth 100000
namespace Go.Proofs.YtibmgbalfhfcdaaDoor.Abs
def frzA : AVal → AVal
  | .own _ T xs => .d (.list T) xs
  | .cons h t => .cons (frzA h) (frzA t)
  | .func fn a b => .func fn (frzA a) (frzA b)
  | .iface t v => .iface t (frzA v)
  | .tuple v => .tuple (frzA v)
  | a => a
theorem frzA_agg (a : AVal) : (frzA a).agg = a.agg := by cases a <;> rfl
theorem frzA_rp {G : Gh} {dead : List Nat} : (a : AVal) → (∀ cs, (Rp G dead a).1 cs → (Rp G dead (frzA a)).1 cs) ∧ (∀ vs, (Rp G dead a).2 vs → (Rp G dead (frzA a)).2 vs)
  | .own tok T xs => ⟨fun cs h => h.1, fun _ h => h.elim⟩
  | .cons a t => by
    have m1 := frzA_rp (G := G) (dead := dead) a
    have m2 := frzA_rp (G := G) (dead := dead) t
    exact ⟨fun cs h => by
      obtain ⟨c1, c2, rfl, h1, h2⟩ := h
      exact ⟨c1, c2, rfl, m1.1 _ h1, m2.1 _ h2⟩, fun vs h => by
      obtain ⟨v, l, rfl, ⟨cs, hc, hv⟩, hl⟩ := h
      exact ⟨v, l, rfl, ⟨cs, m1.1 _ hc, by rw [frzA_agg]; exact hv⟩, m2.2 _ hl⟩⟩
  | .func fn f c => by
    have m1 := frzA_rp (G := G) (dead := dead) f
    have m2 := frzA_rp (G := G) (dead := dead) c
    exact ⟨fun cs h => by
      obtain ⟨fv, cv, rfl, h1, h2⟩ := h
      exact ⟨fv, cv, rfl, m1.2 _ h1, m2.2 _ h2⟩, fun _ h => h⟩
  | .iface t v => by
    have m1 := frzA_rp (G := G) (dead := dead) v
    exact ⟨fun cs h => by
      obtain ⟨v', rfl, c, hc, hv⟩ := h
      exact ⟨v', rfl, c, m1.1 _ hc, by rw [frzA_agg]; exact hv⟩, fun _ h => h⟩
  | .tuple vs => by
    have m1 := frzA_rp (G := G) (dead := dead) vs
    exact ⟨fun cs h => by
      obtain ⟨l, rfl, hl⟩ := h
      exact ⟨l, rfl, m1.2 _ hl⟩, fun _ h => h⟩
  | .d .. => ⟨fun _ h => h, fun _ h => h⟩
  | .nil => ⟨fun _ h => h, fun _ h => h⟩
  | .pnil => ⟨fun _ h => h, fun _ h => h⟩
  | .bptr .. => ⟨fun _ h => h, fun _ h => h⟩
  | .iptr .. => ⟨fun _ h => h, fun _ h => h⟩
  | .fnil => ⟨fun _ h => h, fun _ h => h⟩
  | .snil => ⟨fun _ h => h, fun _ h => h⟩
  | .inil => ⟨fun _ h => h, fun _ h => h⟩
  | .any => ⟨fun _ h => h, fun _ h => h⟩
  | .mnil => ⟨fun _ h => h, fun _ h => h⟩
  | .mref _ => ⟨fun _ h => h, fun _ h => h⟩
  | .mobj .. => ⟨fun _ h => h, fun _ h => h⟩
  | .yref _ => ⟨fun _ h => h, fun _ h => h⟩
  | .lobj .. => ⟨fun _ h => h, fun _ h => h⟩
  | .vec .. => ⟨fun _ h => h, fun _ h => h⟩
  | .vptr .. => ⟨fun _ h => h, fun _ h => h⟩
  | .vrow .. => ⟨fun _ h => h, fun _ h => h⟩
  | .optp _ => ⟨fun _ h => h, fun _ h => h⟩
  | .bsl .. => ⟨fun _ h => h, fun _ h => h⟩
  | .siter .. => ⟨fun _ h => h, fun _ h => h⟩
  | .pan _ => ⟨fun _ h => h, fun _ h => h⟩
  | .tbox .. => ⟨fun _ h => h, fun _ h => h⟩
def selJ {X : Type} (k : AExit → Option X) : List AExit → Nat → Option X
  | [], _ => none
  | x :: xs, j => bif j == jumpNo x then k x else selJ k xs j
theorem selJ_spec {X : Type} {k : AExit → Option X} {r : X} : {xs : List AExit} → {j : Nat} → selJ k xs j = some r → ∃ x, j = jumpNo x ∧ k x = some r
  | x :: xs, j, h => by
    simp only [selJ] at h
    cases hb : j == jumpNo x with
    | true =>
      rw [hb] at h
      exact ⟨x, by simpa using hb, h⟩
    | false =>
      rw [hb] at h
      exact selJ_spec h
def rangeR {X : Type} (C : CalT) (g i : Nat) (f : Operand) (xs : List AExit) (env : List AVal) (B : Bx) (k : AExit → List AVal → Bx → Option X) : Option X :=
  match opA env f with
  | .func (.func gf) first cap => bif gf == YLD then none else
      C.run X gf (unchain first ++ [.yref B.box.length] ++ unchain cap) (B.push (.lobj g i 0 (chain (env.map frzA)))) fun _ B2 =>
        match B2.box[B.box.length]? with
        | some (.lobj g' i' j env') => selJ (fun e => k e env { B2 with box := B2.box.set B.box.length (.lobj g' i' 2 env') }) xs j
        | _ => none
  | _ => none
def rfT (C : CalT) (g i : Nat) (f : Operand) (xs : List AExit) : LoopT := ⟨fun X env B k => rangeR C g i f xs env B k⟩
theorem env_chain {G : Gh} {dead : List Nat} : {env : List AVal} → {vs : List Value} → env.length = vs.length → (∀ t, t < env.length → Rv G dead (env.getD t .any) (vs.getD t undef)) → Rl G dead (chain (env.map frzA)) vs
  | [], [], _, _ => rfl
  | a :: env, v :: vs, hl, h => by
    have h0 := h 0 (by simp)
    refine ⟨v, vs, rfl, ?_, env_chain (by simpa using hl) fun t ht => by simpa using h (t + 1) (by simpa using ht)⟩
    obtain ⟨cs, h1, h2⟩ := h0
    simp only [List.getD_cons_zero] at h1 h2
    exact ⟨cs, (frzA_rp a).1 cs h1, by rw [frzA_agg]; exact h2⟩
theorem rfT_valid {n : Nat} {P : Program} {C : CalT} {g i : Nat} {f : Operand} {ps : Array Tmp} {asg bd : Code} {xs : List AExit} (hC : CV P C) (hc : lcode g i = .rangeFunc f ps asg bd) : LValid n P (.rangeFunc f ps asg bd) (rfT C g i f xs) := by
  intro X env B k r h
  simp only [rfT] at h
  unfold rangeR at h
  split at h
  · rename_i gf first cap hf
    cases hgy : gf == YLD with
    | true => rw [hgy] at h; cases h
    | false =>
      rw [hgy] at h
      simp only [cond_false] at h
      have hgy : gf ≠ YLD := by simpa using hgy
      obtain ⟨v, B2, hk, hcr⟩ := hC _ _ _ _ _ _ h
      split at hk
      · rename_i g' i' j env' hbx
        obtain ⟨e, hj, hk⟩ := selJ_spec hk
        refine ⟨e, env, _, hk, fun ro hro G a w Q hok hQ => ?_⟩
        have hro : ro = none := by cases ro <;> simp at hro; rfl
        subst hro
        obtain ⟨hent, hcall⟩ := hcr.call
        replace hent := (hent.resolve_left hgy).2
        refine wpIn_rangeFunc ?_
        intro fn _
        obtain ⟨w1, hw1⟩ : ∃ w1, w.alloc (.deferred (some [])) = w1 := ⟨_, rfl⟩
        obtain ⟨r0, hr0⟩ : ∃ r0 : Loop, r0 = { state := .ready, pending := none, fn, tmps := a.tmps, params := ps, assign := asg, body := bd, defers := w.heap.size } := ⟨_, rfl⟩
        have hg1 : Grew w w1 := by rw [← hw1]; exact grew_alloc _ _
        have hwok1 := hok.w.grew hg1
        have hsz1 : w1.heap.size = w.heap.size + 1 := by rw [← hw1]; simp
        have hK : w1.heap[w.heap.size]? = some (.deferred (some [])) := by rw [← hw1]; exact World.alloc_heap_new w _
        have hlen := hok.env.len
        have hch : Rc G B.dead (.lobj g i 0 (chain (env.map frzA))) a.tmps.toList := by
          refine env_chain (by simpa using hlen.symm) fun t ht => ?_
          have := hok.env.val t
          rw [Array.getD_eq_getD_getElem?] at this
          rw [List.getD_eq_getElem?_getD (l := a.tmps.toList), Array.getElem?_toList]
          exact this
        obtain ⟨G1, ha1, hwok2, hle1, hext1⟩ := new_obj (o := .loop r0) (c := .lobj g i 0 (chain (env.map frzA))) (cs := a.tmps.toList) hwok1 rfl ⟨r0, rfl, ⟨⟨f, by rw [hr0]; exact hc⟩, by rw [hr0]; rfl, fun _ => by rw [hr0]; rfl⟩, by rw [hr0]⟩ hch
        have hfv := hok.env.op (a := a) f
        rw [hf] at hfv
        obtain ⟨cs, ⟨fv, cv, rfl, h1, h2⟩, hh | hh⟩ := hfv
        · cases hh.1
        have hfe : a.eval f = .func (.func gf) fv.toArray cv.toArray := by simpa using hh.2.symm
        have hyv : Rv G1 B.dead (.yref B.box.length) (.func (.yield w1.heap.size) #[] #[]) := leaf_v rfl ⟨_, ha1, rfl⟩
        have hvals := ((vals_chain (Rl.mono hle1 h1)).append (Vals.cons hyv .nil)).append (vals_chain (Rl.mono hle1 h2))
        refine ⟨w1.heap.size, [{ target := .collected w.heap.size, args := #[] }], w1.alloc (.loop r0), { target := .fn (.func gf) cv.toArray, args := (fv ++ [Value.func (.yield w1.heap.size) #[] #[]]).toArray }, w1.alloc (.loop r0), gf, (fv ++ [Value.func (.yield w1.heap.size) #[] #[]] ++ cv).toArray, w1.alloc (.loop r0), ?_, ?_, fun _ _ => trivial, ?_, (fun h => by cases h), ?_⟩
        · have := run_enterLoop_outer (P := P) (w := w) fn a.tmps ps asg bd
          rw [hr0, hsz1, ← hw1]
          exact this
        · unfold resolve
          simp only [hfe, Deferred.ofValue, Sem.run_bind, Sem.run_pure, Result.andThen_ok]
          refine congrArg (fun z => Result.ok ({ target := Target.fn (Fn.func gf) cv.toArray, args := z } : Deferred) (w1.alloc (.loop r0))) ?_
          apply Array.ext'
          simp [Act.eval]
        · simp only [invoke]
          rw [hent]
          refine congrArg (fun z => Result.ok (Next.enter gf z) (w1.alloc (.loop r0))) ?_
          apply Array.ext'
          simp
        · refine callsIn_wide.2 (((hcall G1 _ _ hvals hwok2).1 hgy).mono ?_)
          rintro e' w3 ⟨cv', G2, rfl, g1, g2, g3, g4⟩
          have hl2 : G2.addr[B.box.length]? = some w1.heap.size := prefix_getElem? g3.addr ha1
          obtain ⟨o, cs3, k1, ⟨r3, rfl, hr3, hcs⟩, k3⟩ := g2.boxes _ _ _ hl2 hbx
          have hnb : r3.state ≠ .busy := by
            rw [hr3.2.1, hj]
            cases e <;> simp [jumpNo, stOf]
          obtain ⟨p1, p2⟩ := upd_obj (c' := .lobj g' i' 2 env') (o' := .loop { r3 with state := .exhausted }) g2 hl2 hbx rfl rfl k1 ⟨_, rfl, ⟨hr3.1, rfl, fun h => absurd rfl h⟩, hcs⟩ k3
          have hend := run_endLoop (P := P) k1 hnb
          have hpe : r3.pending = pendOf (jumpNo e) := by rw [hr3.2.2 (by rw [hj]; cases e <;> simp [jumpNo]), hj]
          have hx14 : Ext G1 (w1.alloc (.loop r0)) G2 (putO w3 w1.heap.size (.loop { r3 with state := .exhausted })) := g4.trans p2
          have hx04 : Ext G w G2 (putO w3 w1.heap.size (.loop { r3 with state := .exhausted })) := (hg1.ext G).trans (hext1.trans hx14)
          have hDlt : w.heap.size < w1.heap.size := by omega
          have hDne : w.heap.size ∉ G1.addr := fun hm => by
            rcases hext1.addr _ hm with hm | hm
            · have := hok.w.addr_lt hm; omega
            · omega
          have hDown : ∀ t n, G1.own t ≠ some (w.heap.size, n) := fun t n hn => by
            rcases hext1.own _ _ _ hn with ⟨t', ht⟩ | hm
            · obtain ⟨_, _, c, e, hh, _⟩ := hok.w.own _ _ _ ht
              have := heap_lt hh; omega
            · omega
          have hDheap : (w1.alloc (.loop r0)).heap[w.heap.size]? = some (.deferred (some [])) := by
            rw [← hK]; exact heap_push_lt hDlt
          have hm1 : Marks G1 (w1.alloc (.loop r0)) ({ target := .collected w.heap.size, args := #[] } :: a.defers) := by
            refine ⟨⟨w.heap.size, rfl, hDheap, hDne, hDown, fun d' hd' he => ?_⟩, hok.marks.ext ((hg1.ext G).trans hext1)⟩
            have key : ∀ ds, Marks G w ds → ∀ d' ∈ ds, d'.target ≠ .collected w.heap.size := by
              intro ds
              induction ds with
              | nil => intro _ d' h; cases h
              | cons d ds ih =>
                intro hm d' hd'
                rcases List.mem_cons.1 hd' with rfl | hd'
                · obtain ⟨⟨D, e1, e2, _⟩, _⟩ := hm
                  intro e3
                  rw [e1] at e3
                  cases e3
                  have := heap_lt e2
                  omega
                · exact ih hm.2 d' hd'
            exact key _ hok.marks d' hd' he
          have hgoes : Goes n G a w G2 { B2 with box := B2.box.set B.box.length (.lobj g' i' 2 env') } env { a with defers := [{ target := .collected w.heap.size, args := #[] }] ++ a.defers } (putO w3 w1.heap.size (.loop { r3 with state := .exhausted })) := by
            refine ⟨⟨(hok.env.mono hle1).mono g3, p1, hm1.ext hx14⟩, hx04, fun d hd => ?_, fun q b _ hb => prefix_getElem? g3.addr (prefix_getElem? hle1.addr hb)⟩
            rcases List.mem_cons.1 hd with rfl | hd
            · exact .inr ⟨_, rfl, Nat.le_refl _⟩
            · exact .inl hd
          refine ⟨_, _, hend, ?_⟩
          split
          · rename_i hp
            rw [hpe] at hp
            cases e with
            | normal => exact hQ G2 _ _ hgoes
            | ret => cases hp
            | exit id => cases hp
          · rename_i c hp
            rw [hpe] at hp
            cases e with
            | normal => cases hp
            | ret => cases hp; exact wpIn_ret (hQ G2 _ _ hgoes)
            | exit id => cases hp; exact wpIn_exit (hQ G2 _ _ hgoes)
      · cases hk
  · cases h
theorem rf_form : {c : Code} → {f : Operand} → rfOp c = some f → ∃ ps asg bd, c = .rangeFunc f ps asg bd
  | .rangeFunc f' ps asg bd, f, h => by
    simp only [rfOp, Option.some.injEq] at h
    subst h
    exact ⟨ps, asg, bd, rfl⟩
theorem isRf_form : {c : Code} → isRf c = true → ∃ f ps asg bd, c = .rangeFunc f ps asg bd
  | .rangeFunc f ps asg bd, _ => ⟨f, ps, asg, bd, rfl⟩
theorem rfT_valid' {n : Nat} {P : Program} {C : CalT} {g i : Nat} {f : Operand} {xs : List AExit} (hC : CV P C) (hf : rfOp (lcode g i) = some f) : LValid n P (lcode g i) (rfT C g i f xs) := by
  obtain ⟨ps, asg, bd, hc⟩ := rf_form hf
  have := rfT_valid (n := n) (P := P) (C := C) (xs := xs) hC hc
  rw [← hc] at this
  exact this
theorem rd_lcall' {P : Program} {C : CalT} {Ls : List LoopT} {g i : Nat} {S : CSpec} {f : S.In → Option S.Out} (hm : P.follows .mixedOrders = true) (hC : CV P C) (hc : isRf (lcode g i) = true)
    (hL : LV S.I.length P true (loopsOf (rfBody (lcode g i))) Ls) (hn : ∃ A', S.A = .fix (.yref 0) :: A') (hI : 0 < S.I.length) (hS : S.ok = true) (hS2 : S.ok2 = true) (hev : ∀ x, roundR P C Ls g i (encs S.A x.1) ⟨encs S.I x.2, [], S.nt⟩ (finK S) = f x) :
    ∀ x r, f x = some r → LCall S.I.length P YLD (encs S.A x.1) ⟨encs S.I x.2, [], S.nt⟩ (S.R.enc r.1) ⟨encs S.O r.2, [], S.ntO⟩ := by
  obtain ⟨f', ps, asg, bd, hcc⟩ := isRf_form hc
  rw [hcc] at hL
  exact rd_lcall hm hC hcc hL hn hI hS hS2 hev
end Go.Proofs.YtibmgbalfhfcdaaDoor.Abs
set_option linter.unusedVariables false
set_option linter.unusedSimpArgs false
namespace Go.Proofs.YtibmgbalfhfcdaaDoor.Abs
def seqL : Code → Code
  | .seq a _ => a
  | c => c
def seqR : Code → Code
  | .seq _ b => b
  | c => c
def conL : Code → Code
  | .cond _ a _ => a
  | c => c
def conR : Code → Code
  | .cond _ _ b => b
  | c => c
def blkC : Code → Code
  | .block _ c => c
  | c => c
def scpC : Code → Code
  | .scope c => c
  | c => c
def isSeq : Code → Bool
  | .seq _ _ => true
  | _ => false
def isCon : Code → Bool
  | .cond _ _ _ => true
  | _ => false
def isBlk : Code → Bool
  | .block _ _ => true
  | _ => false
def isScp : Code → Bool
  | .scope _ => true
  | _ => false
inductive Jn
  | whole (Ls : List LoopT)
  | cut (L : LoopT)
  | seq (x y : Jn)
  | cond (x y : Jn)
  | block (x : Jn)
  | scope (x : Jn)
def codeJ (P : Program) (C : CalT) {X : Type} : Jn → Code → List AVal → Bx → (AExit → List AVal → Bx → Option X) → Option X
  | .whole Ls, c, env, B, k => codeR P C c Ls env B k
  | .cut L, _, env, B, k => L.run X env B k
  | .seq x y, .seq a b, env, B, k => codeJ P C x a env B fun e env' B' => match e with
    | .normal => codeJ P C y b env' B' k
    | e => k e env' B'
  | .cond x y, .cond c a b, env, B, k => match opA env c with
    | .d .bool t => bif t then codeJ P C x a env B k else codeJ P C y b env B k
    | _ => none
  | .block x, .block id c, env, B, k => codeJ P C x c env B (blockK id k)
  | .scope x, .scope c, env, B, k => codeJ P C x c env B k
  | _, _, _, _, _ => none
def JV (n : Nat) (P : Program) (rd : Bool) : Jn → Code → Prop
  | .whole Ls, c => LV n P rd (loopsOf c) Ls
  | .cut L, c => LValid n P c L rd
  | .seq x y, c => isSeq c = true ∧ JV n P rd x (seqL c) ∧ JV n P rd y (seqR c)
  | .cond x y, c => isCon c = true ∧ JV n P rd x (conL c) ∧ JV n P rd y (conR c)
  | .block x, c => isBlk c = true ∧ JV n P rd x (blkC c)
  | .scope x, c => isScp c = true ∧ JV n P rd x (scpC c)
theorem lv_nil {n : Nat} {P : Program} {rd : Bool} (cs : List Code) : LV n P rd cs [] := by unfold LV; cases cs <;> trivial
section
variable {n : Nat} {P : Program} {rd : Bool} {x y : Jn} {c : Code}
theorem jv_whole {Ls : List LoopT} (h : LV n P rd (loopsOf c) Ls) : JV n P rd (.whole Ls) c := h
theorem jv_nil : JV n P rd (.whole []) c := lv_nil _
theorem jv_cut {L : LoopT} (h : LValid n P c L rd) : JV n P rd (.cut L) c := h
theorem jv_seq (h : isSeq c = true) (h1 : JV n P rd x (seqL c)) (h2 : JV n P rd y (seqR c)) : JV n P rd (.seq x y) c := ⟨h, h1, h2⟩
theorem jv_con (h : isCon c = true) (h1 : JV n P rd x (conL c)) (h2 : JV n P rd y (conR c)) : JV n P rd (.cond x y) c := ⟨h, h1, h2⟩
theorem jv_blk (h : isBlk c = true) (h1 : JV n P rd x (blkC c)) : JV n P rd (.block x) c := ⟨h, h1⟩
theorem jv_scp (h : isScp c = true) (h1 : JV n P rd x (scpC c)) : JV n P rd (.scope x) c := ⟨h, h1⟩
end
theorem codeJ_sound {n : Nat} {P : Program} {rd : Bool} {C : CalT} {X : Type} {r : X} (hm : P.follows .mixedOrders = true) (hC : CV P C) : (J : Jn) → (c : Code) → {env : List AVal} → {B : Bx} → {k : AExit → List AVal → Bx → Option X} → JV n P rd J c → codeJ P C J c env B k = some r →
    ∃ e env' B', k e env' B' = some r ∧ AW n P c env B e env' B' rd
  | .whole Ls, c, env, B, k, hJ, h => by
    unfold codeJ at h
    exact codeR_sound hm hC c hJ h
  | .cut L, c, env, B, k, hJ, h => by
    unfold codeJ at h
    exact hJ _ _ _ _ _ h
  | .seq x y, c, env, B, k, hJ, h => by
    obtain ⟨hs, h1, h2⟩ := hJ
    cases c with
    | seq a b =>
      simp only [codeJ] at h
      obtain ⟨e, env1, B1, k1, w1⟩ := codeJ_sound hm hC x a h1 h
      cases e with
      | normal =>
        simp only at k1
        obtain ⟨e2, env2, B2, k2, w2⟩ := codeJ_sound hm hC y b h2 k1
        refine ⟨e2, env2, B2, k2, fun ro hro G a w Q hok hQ => wpIn_seq (w1 ro hro G a w _ hok fun G1 a1 w1' g1 => ?_)⟩
        exact w2 ro hro G1 a1 w1' Q g1.ok fun G2 a2 w2' g2 => hQ G2 a2 w2' (g1.trans g2)
      | exit id => exact ⟨.exit id, env1, B1, k1, fun ro hro G a w Q hok hQ => wpIn_seq (w1 ro hro G a w _ hok fun G1 a1 w1' g1 => hQ G1 a1 w1' g1)⟩
      | ret => exact ⟨.ret, env1, B1, k1, fun ro hro G a w Q hok hQ => wpIn_seq (w1 ro hro G a w _ hok fun G1 a1 w1' g1 => hQ G1 a1 w1' g1)⟩
    | _ => simp [isSeq] at hs
  | .cond x y, c, env, B, k, hJ, h => by
    obtain ⟨hs, h1, h2⟩ := hJ
    cases c with
    | cond c a b =>
      simp only [codeJ] at h
      split at h
      · rename_i t ht
        cases t with
        | true =>
          obtain ⟨e, env1, B1, k1, w1⟩ := codeJ_sound hm hC x a h1 h
          refine ⟨e, env1, B1, k1, fun ro hro G a w Q hok hQ => wpIn_cond_true ?_ (w1 ro hro G a w Q hok hQ)⟩
          have := hok.env.op c
          rw [ht] at this
          exact bool_form this
        | false =>
          obtain ⟨e, env1, B1, k1, w1⟩ := codeJ_sound hm hC y b h2 h
          refine ⟨e, env1, B1, k1, fun ro hro G a w Q hok hQ => wpIn_cond_false ?_ (w1 ro hro G a w Q hok hQ)⟩
          have := hok.env.op c
          rw [ht] at this
          exact bool_form this
      · cases h
    | _ => simp [isCon] at hs
  | .block x, c, env, B, k, hJ, h => by
    obtain ⟨hs, hJ⟩ := hJ
    cases c with
    | block id c =>
      simp only [codeJ] at h
      obtain ⟨e, env1, B1, h1, w1⟩ := codeJ_sound hm hC x c hJ h
      cases e with
      | normal => exact ⟨.normal, env1, B1, h1, fun ro hro G a w Q hok hQ => wpIn_block (w1 ro hro G a w _ hok fun G1 a1 w1' g1 => hQ G1 a1 w1' g1)⟩
      | ret => exact ⟨.ret, env1, B1, h1, fun ro hro G a w Q hok hQ => wpIn_block (w1 ro hro G a w _ hok fun G1 a1 w1' g1 => hQ G1 a1 w1' g1)⟩
      | exit i =>
        simp only [blockK] at h1
        by_cases hi : i = id
        · simp only [hi, beq_self_eq_true, cond_true] at h1
          exact ⟨.normal, env1, B1, h1, fun ro hro G a w Q hok hQ => wpIn_block (w1 ro hro G a w _ hok fun G1 a1 w1' g1 => by
            simp only [AExit.real, Exit.inBlock, hi, if_true]
            exact hQ G1 a1 w1' g1)⟩
        · have hb : (i == id) = false := by simpa using hi
          simp only [hb, cond_false] at h1
          exact ⟨.exit i, env1, B1, h1, fun ro hro G a w Q hok hQ => wpIn_block (w1 ro hro G a w _ hok fun G1 a1 w1' g1 => by
            simp only [AExit.real, Exit.inBlock, hi, if_false]
            exact hQ G1 a1 w1' g1)⟩
    | _ => simp [isBlk] at hs
  | .scope x, c, env, B, k, hJ, h => by
    obtain ⟨hs, hJ⟩ := hJ
    cases c with
    | scope c =>
      simp only [codeJ] at h
      obtain ⟨e, env1, B1, h1, w1⟩ := codeJ_sound hm hC x c hJ h
      exact ⟨e, env1, B1, h1, fun ro hro G a w Q hok hQ => wpIn_scope_straight (w1 ro hro G a w _ hok fun G1 a1 w1' g1 => by
        cases e <;> exact hQ G1 a1 w1' g1)⟩
    | _ => simp [isScp] at hs
def jnT (P : Program) (C : CalT) (J : Jn) (c : Code) : LoopT := ⟨fun _ env B k => codeJ P C J c env B k⟩
theorem jnT_valid {n : Nat} {P : Program} {rd : Bool} {C : CalT} {J : Jn} {c : Code} (hm : P.follows .mixedOrders = true) (hC : CV P C) (hJ : JV n P rd J c) : LValid n P c (jnT P C J c) rd :=
  fun _ _ _ _ _ h => codeJ_sound hm hC J c hJ h
def idxX : List AExit → AExit → Option Nat
  | [], _ => none
  | x :: xs, e => bif sameX x e then some 0 else match idxX xs e with
    | some n => some (n + 1)
    | none => none
theorem idxX_spec : {xs : List AExit} → {e : AExit} → {n : Nat} → idxX xs e = some n → xs[n]? = some e
  | x :: xs, e, n, h => by
    simp only [idxX] at h
    cases hb : sameX x e with
    | true =>
      simp only [hb, cond_true, Option.some.injEq] at h
      subst h
      rw [sameX_eq hb]; rfl
    | false =>
      simp only [hb, cond_false] at h
      split at h
      · rename_i m hm
        simp only [Option.some.injEq] at h
        subst h
        simpa using idxX_spec hm
      · cases h
  | [], e, n, h => by simp [idxX] at h
def kstJ (S : SPat) (xs : List AExit) (e : AExit) (env : List AVal) (B : Bx) : Option (Nat × S.El) :=
  match idxX xs e with
  | some n => match S.dec env B with
    | some s => some (n, s)
    | none => none
  | none => none
def cutT (S0 S1 : SPat) (xs : List AExit) (run : S0.El → Option (Nat × S1.El)) : LoopT :=
  ⟨fun X env B k => match S0.dec env B with
    | some s => (run s).bind fun r => selX (fun e => k e (S1.encE r.2) (S1.encB r.2)) xs r.1
    | none => none⟩
theorem cutT_valid {n : Nat} {rd : Bool} {P : Program} {ev : LoopT} {c : Code} {S0 S1 : SPat} {xs : List AExit} {run : S0.El → Option (Nat × S1.El)} (hE : LValid n P c ev rd) (h0 : S0.ok = true) (h1 : S1.ok = true) (hn0 : n ≤ S0.box.length) (hn1 : n ≤ S1.box.length)
    (hbody : ∀ s, ev.run (Nat × S1.El) (S0.encE s) (S0.encB s) (kstJ S1 xs) = run s) : LValid n P c (cutT S0 S1 xs run) rd := by
  intro X env B k r h
  unfold cutT at h
  simp only at h
  split at h
  · rename_i s hd
    cases hr : run s with
    | none => rw [hr] at h; cases h
    | some q =>
      rw [hr] at h
      simp only [Option.bind_some] at h
      obtain ⟨e, env1, B1, hk, haw⟩ := hE _ _ _ _ _ ((hbody s).trans hr)
      unfold kstJ at hk
      split at hk
      · rename_i m hi
        split at hk
        · rename_i s1 hd1
          simp only [Option.some.injEq] at hk
          subst hk
          have hx := idxX_spec hi
          have hlt := (List.getElem?_eq_some_iff.1 hx).1
          have he : nthX xs (m + 1) = e := by simp [nthX, List.getD_eq_getElem?_getD, hx]
          have hsel := selX_spec h hlt
          rw [he] at hsel
          refine ⟨e, S1.encE s1, S1.encB s1, hsel, fun ro hro G a w Q hok hQ => ?_⟩
          obtain ⟨G1, g1⟩ := norm_sound (n := n) h0 hn0 hd hok
          refine haw ro hro G1 a w Q g1.ok fun G2 a2 w2 g2 => ?_
          obtain ⟨G3, g3⟩ := norm_sound (n := n) h1 hn1 hd1 g2.ok
          exact hQ G3 a2 w2 ((g1.trans g2).trans g3)
        · cases hk
      · cases hk
  · cases h
def fnE (ev : LoopT) (P : Program) {X : Type} (fn : Func) (args : List AVal) (B : Bx) (k : AVal → Bx → Option X) : Option X :=
  ev.run X (args ++ List.replicate (fn.ntmps - args.length) .any) B fun e env B' => match e with
    | .exit _ => none
    | _ => match resA P env B' fn.results.toList with
      | some l => k (oneOf l) B'
      | none => none
theorem fnE_sound {n : Nat} {P : Program} {ev : LoopT} {X : Type} {f : FuncId} {fn : Func} {c : Code} {args : List AVal} {B : Bx} {k : AVal → Bx → Option X} {r : X} (hf : P.funcs[f]? = some fn) (hb : fn.body = some c) (hent : Ent P f)
    (hE : LValid n P c ev false) (h : fnE ev P fn args B k = some r) : ∃ v B', k v B' = some r ∧ LCall n P f args B v B' := by
  unfold fnE at h
  obtain ⟨e, env, B', h1, w1⟩ := hE _ _ _ _ _ h
  have main : ∀ l, resA P env B' fn.results.toList = some l → (e.real = .normal ∨ e.real = .ret) → LCall n P f args B (oneOf l) B' := by
    intro l hl he
    refine ⟨.inr hent, fun G w vs hvs hw => Run.call hent.1 ((callsIn_wide (n := 0)).1 ?_)⟩
    refine callsIn_of_wp_marks hf hb trivial ?_
    have hok : Ok G B (args ++ List.replicate (fn.ntmps - args.length) .any) { tmps := vs.toArray ++ Array.replicate (fn.ntmps - vs.toArray.size) undef, defers := [] } w := by
      have hlen := vals_len hvs
      refine ⟨⟨by simp [hlen], fun t => ?_⟩, hw, trivial⟩
      rw [List.getD_eq_getElem?_getD, Array.getD_eq_getD_getElem?]
      simp only [List.size_toArray, ← hlen]
      by_cases ht : t < args.length
      · rw [List.getElem?_append_left ht, Array.getElem?_append_left (by simpa [← hlen] using ht), List.getElem?_eq_getElem ht]
        obtain ⟨v, hv1, hv2⟩ := vals_get hvs (List.getElem?_eq_getElem ht)
        simp only [Option.getD_some]
        have : vs.toArray[t]? = some v := by simpa using hv1
        rw [this]
        exact hv2
      · rw [List.getElem?_append_right (by omega)]
        have : ((List.replicate (fn.ntmps - args.length) AVal.any)[t - args.length]?).getD .any = .any := by
          cases hq : (List.replicate (fn.ntmps - args.length) AVal.any)[t - args.length]? with
          | none => rfl
          | some q =>
            have := List.mem_of_getElem? hq
            rw [List.mem_replicate] at this
            simp [this.2]
        rw [this]
        exact any_v _
    refine w1 none rfl G _ w _ hok fun G1 a1 w1' g => ?_
    have leave : ∀ (ds : List Deferred) (w2 : World), WOk G1 B' w2 → Ext G w G1 w2 → Marks G1 w2 ds → (∀ d ∈ ds, ∃ D, d.target = .collected D ∧ w.heap.size ≤ D) →
        LeavesInM Fence.wide 0 P fn a1.tmps (fun e w' => ∃ cv G', e = .returned cv ∧ Rv G' B'.dead (oneOf l) cv ∧ WOk G' B' w' ∧ Ext G w G' w' ∧ ∀ i b, i < n → G.addr[i]? = some b → G'.addr[i]? = some b) ds .returning w2 := by
      intro ds
      induction ds with
      | nil =>
        intro w2 hw2 hx2 _ _
        obtain ⟨rv, hr1, hr2⟩ := resA_run (P := P) hw2 g.ok.env hl
        have hres : ∃ cv, (results fn a1.tmps).run P w2 = .ok cv w2 ∧ Rv G1 B'.dead (oneOf l) cv := by
          rw [results_eq]
          have hmap : (fn.results.mapM (rvSem a1.tmps)).run P w2 = .ok rv.toArray w2 := by
            rw [Array.mapM_eq_mapM_toList]
            simp only [Sem.run_map, hr1, Result.andThen_ok]
          have hl2 := vals_len hr2
          refine ⟨if h : rv.toArray.size = 1 then rv.toArray[0] else .tuple rv.toArray, ?_, ?_⟩
          · rw [Sem.run_bind, hmap]
            rfl
          · match l, rv, hr2 with
            | [], [], .nil => exact leaf_v rfl ⟨[], rfl, rfl⟩
            | [v], [u], .cons hv .nil => exact hv
            | v1 :: v2 :: l, u1 :: u2 :: us, hv => exact leaf_v rfl ⟨_, by simp, chain_vals hv⟩
        obtain ⟨cv, hc1, hc2⟩ := hres
        exact ⟨cv, hc1, cv, G1, rfl, hc2, hw2, hx2, g.held⟩
      | cons d ds ih =>
        intro w2 hw2 hx2 hm hd
        obtain ⟨⟨D, h1, h2, h3, h4, h5⟩, h6⟩ := hm
        have hge : w.heap.size ≤ D := by
          obtain ⟨D', e1, e2⟩ := hd d (by simp)
          rw [h1] at e1
          cases e1
          exact e2
        have hput : ∀ b, b ≠ D → (w2.putObj D (.deferred none)).heap[b]? = w2.heap[b]? := fun b hb => World.putObj_heap_other hb
        have hcell : ∀ b c e fr, w2.heap[b]? = some (.cells c e fr) → b ≠ D := fun b c e fr hb hbD => by subst hbD; rw [h2] at hb; cases hb
        refine ⟨by simp, .inl ⟨D, _, h1, run_takeDeferred h2, ih _ ⟨hw2.len, hw2.nodup, fun i b c hb hc => ?_, fun b row hb => ?_, hw2.disj, fun t b n ht => ?_, hw2.inj, fun q hq => ?_, ?_⟩ ⟨hx2.os, hx2.tape, hx2.output, by rw [World.putObj_size]; exact hx2.size, fun b hb ha ho => ?_, hx2.imm, hx2.same, hx2.addr, hx2.own⟩ ?_ (fun d' hd' => hd d' (by simp [hd']))⟩⟩
        · exact (hw2.boxes i b c hb hc).mono (GLe.refl _ _) (hput b (fun e => h3 (by rw [← e]; exact List.mem_of_getElem? hb)))
        · obtain ⟨c, e, fr, k1, k2⟩ := hw2.imm b row hb
          exact ⟨c, e, fr, by rw [hput b (hcell b c e fr k1)]; exact k1, k2⟩
        · obtain ⟨k1, k2, c, e, k3, k4⟩ := hw2.own t b n ht
          exact ⟨k1, k2, c, e, by rw [hput b (hcell b c e _ k3)]; exact k3, k4⟩
        · obtain ⟨⟨e, fr, k1⟩, k2, k3⟩ := hw2.tab q hq
          exact ⟨⟨e, fr, by rw [hput q.1 (hcell _ _ e fr k1)]; exact k1⟩, k2, k3⟩
        · refine hw2.vec.mono (fun _ _ _ _ hx => hx) (fun _ h => .inl h) (fun t b n _ h1 h2 => ⟨h1, h2, ?_⟩) (ImmLe.refl _)
          obtain ⟨_, _, c, e, k3, _⟩ := hw2.own t b n h1
          exact hput b (hcell b c e _ k3)
        · rw [hput b (by omega)]
          exact hx2.frame b hb ha ho
        · have key : ∀ ds', (∀ d' ∈ ds', d'.target ≠ .collected D) → Marks G1 w2 ds' → Marks G1 (w2.putObj D (.deferred none)) ds' := by
            intro ds'
            induction ds' with
            | nil => intro _ _; trivial
            | cons d' ds' ih' =>
              intro hn hm'
              obtain ⟨⟨D', a1, a2, a3, a4, a5⟩, a6⟩ := hm'
              have hne : D' ≠ D := fun e => hn d' (by simp) (by rw [a1, e])
              exact ⟨⟨D', a1, by rw [hput D' hne]; exact a2, a3, a4, a5⟩, ih' (fun d2 hd2 => hn d2 (by simp [hd2])) a6⟩
          exact key ds h5 h6
    have hpost := leave a1.defers w1' g.ok.w g.ext g.ok.marks (fun d hd => by
      rcases g.defers d hd with hd | hd
      · cases hd
      · exact hd)
    rcases he with he | he <;> rw [he] <;> exact hpost
  cases e with
  | exit id => cases h1
  | normal =>
    simp only at h1
    split at h1
    · rename_i l hl; exact ⟨_, _, h1, main l hl (.inl rfl)⟩
    · cases h1
  | ret =>
    simp only at h1
    split at h1
    · rename_i l hl; exact ⟨_, _, h1, main l hl (.inr rfl)⟩
    · cases h1
theorem fn_lcallE {P : Program} {ev : LoopT} {g : FuncId} {fn : Func} {c : Code} {S : CSpec} {f : S.In → Option S.Out} (hf : P.funcs[g]? = some fn) (hb : fn.body = some c) (hent : Ent P g) (hE : LValid S.I.length P c ev false) (hS : S.ok = true) (hS2 : S.ok2 = true) (hev : ∀ x, fnE ev P fn (encs S.A x.1) ⟨encs S.I x.2, [], S.nt⟩ (finK S) = f x) :
    ∀ x r, f x = some r → LCall S.I.length P g (encs S.A x.1) ⟨encs S.I x.2, [], S.nt⟩ (S.R.enc r.1) ⟨encs S.O r.2, [], S.ntO⟩ := by
  intro x r hr
  obtain ⟨v, B', hk, hl⟩ := fnE_sound hf hb hent hE ((hev x).trans hr)
  unfold finK at hk
  split at hk
  · rename_i z hz
    simp only [Option.some.injEq] at hk
    subst hk
    simp only [CSpec.ok, Bool.and_eq_true, decide_eq_true_eq] at hS
    refine ⟨hl.1, fun G w vs hvs hw => (hl.2 G w vs hvs hw).mono ?_⟩
    rintro e w' ⟨cv, G1, rfl, h1, h2, h3, h4⟩
    have hok : Ok G1 B' [v] { tmps := #[cv], defers := [] } w' := ⟨⟨rfl, fun t => by
      cases t with
      | zero => exact h1
      | succ t => exact any_v _⟩, h2, trivial⟩
    obtain ⟨G2, g2⟩ := norm_sound (n := S.I.length) hS2 hS.2 hz hok
    refine ⟨cv, G2, rfl, by have := g2.ok.env.val 0; unfold SPat.encE at this; rw [oneE_enc] at this; exact this, g2.ok.w, h3.trans g2.ext, fun i b hi hb => g2.held i b hi (h4 i b hi hb)⟩
  · cases hk
theorem frz_lcallE {P : Program} {ev : LoopT} {g : FuncId} {fn : Func} {c : Code} {A : List PTy} {R : PTy} {f : Els A → Option R.El} (hf : P.funcs[g]? = some fn) (hb : fn.body = some c) (hent : Ent P g) (hE : LValid 0 P c ev false) (hA : A.all PTy.pure = true) (hR : R.pure = true) (hev : ∀ x, fnE ev P fn (encs A x) ⟨[], [], 0⟩ (frzF R) = f x) :
    ∀ x r, f x = some r → LCall 0 P g (encs A x) ⟨[], [], 0⟩ (R.enc r) ⟨[], [], 0⟩ := by
  intro x r hr
  obtain ⟨v, B', hk, hl⟩ := fnE_sound (n := 0) hf hb hent hE ((hev x).trans hr)
  unfold frzF at hk
  split at hk
  · rename_i T b
    split at hk
    · rename_i c hc
      cases hnm : c.isM with
      | true => rw [hnm] at hk; cases hk
      | false =>
        rw [hnm] at hk
        simp only [cond_false] at hk
        refine ⟨hl.1, fun G w vs hvs hw => (hl.2 G w vs hvs hw).mono ?_⟩
        rintro e w' ⟨cv, G1, rfl, h1, h2, h3, h4⟩
        obtain ⟨blk, hblk, _, rfl⟩ := ptr_form h1
        obtain ⟨cells, e, hh, hrc⟩ := (h2.boxes b blk c hblk hc).cells (isC_of hnm)
        have hrd := asData_spec hk _ hrc
        have hmem : blk ∈ G1.addr := List.mem_of_getElem? hblk
        have hge : w.heap.size ≤ blk := by
          rcases h3.addr blk hmem with h | h
          · have := hw.len
            have h0 : G.addr = [] := List.length_eq_zero_iff.1 this
            rw [h0] at h; cases h
          · exact h
        have hnone := h2.disj blk hmem
        let G2 : Gh := { imm := fun x => if x = blk then some cells.toList else G1.imm x, own := fun _ => none, addr := [] }
        have himm : ImmLe G1.imm G2.imm := fun b' row h => by
          have hne : b' ≠ blk := fun he => by subst he; rw [hnone] at h; cases h
          exact ⟨row, by simp [G2, hne, h], List.prefix_refl _⟩
        have hself : G2.imm blk = some cells.toList := by simp [G2]
        have hlen := RD.len hrd
        refine ⟨_, G2, rfl, leaf_v rfl ⟨blk, 0, cells.toList, rfl, hself, by omega, ?_⟩, ⟨rfl, List.nodup_nil, fun i b c h => by simp [G2] at h, fun b' row h => ?_, (fun b h => by cases h), (fun t b n h => by cases h), (fun t t' b n n' h => by cases h), fun q hq => ⟨(h2.tab q hq).1, (fun h => by cases h), (fun t n h => by cases h)⟩, fun i t T xs h => by simp at h⟩,
          ⟨h3.os, h3.tape, h3.output, h3.size, h3.frame, h3.imm.trans himm, fun b' hb' ho => ?_, (fun b hb => by cases hb), (fun t b n h => by cases h)⟩, fun i b hi => by omega⟩
        · rw [List.drop_zero, List.take_of_length_le (by omega)]
          exact RD.mono himm hrd
        · by_cases hbe : b' = blk
          · subst hbe
            rw [hself] at h
            cases h
            exact ⟨cells, e, (0, 0), hh, List.prefix_refl _⟩
          · exact h2.imm b' row (by simpa [G2, hbe] using h)
        · have hne : b' ≠ blk := by omega
          show (if b' = blk then some cells.toList else G1.imm b') = G.imm b'
          rw [if_neg hne]
          exact h3.same b' hb' ho
    · cases hk
  · split at hk
    · rename_i y hy
      obtain ⟨y, l⟩ := y
      simp only [Option.some.injEq] at hk
      subst hk
      refine ⟨hl.1, fun G w vs hvs hw => (hl.2 G w vs hvs hw).mono ?_⟩
      rintro e w' ⟨cv, G1, rfl, h1, h2, h3, h4⟩
      let G2 : Gh := { imm := G1.imm, own := fun _ => none, addr := [] }
      have hr : ReTok G1 B'.dead G2 0 [] := ⟨rfl, by simp [G2], fun k t h => by cases h⟩
      have e := pure_toks hR hy
      subst e
      refine ⟨cv, G2, rfl, dec_v hr hy (under_top (pure_under hR)) (fun q hq => by cases hq) h1, ⟨rfl, List.nodup_nil, fun i b c h => by simp [G2] at h, h2.imm, (fun b h => by cases h), (fun t b n h => by cases h), (fun t t' b n n' h => by cases h), fun q hq => ⟨(h2.tab q hq).1, (fun h => by cases h), (fun t n h => by cases h)⟩, fun i t T xs h => by simp at h⟩, ?_, fun i b hi => by omega⟩
      exact ⟨h3.os, h3.tape, h3.output, h3.size, h3.frame, h3.imm, h3.same, (fun b hb => by cases hb), (fun t b n h => by cases h)⟩
    · cases hk
end Go.Proofs.YtibmgbalfhfcdaaDoor.Abs
set_option linter.unusedVariables false
set_option linter.unusedSimpArgs false
namespace Go.Proofs.YtibmgbalfhfcdaaDoor.Abs
def vecA (B : Bx) : AVal → Bool × AVal
  | .vec t b T n => match B.box[b]? with
    | some (.vrow t' T' xs) => if h : T' = T then (bif t' == t then (decide (n ≤ xs.length), .d (.list T) ((h ▸ xs).take n)) else (false, .any)) else (false, .any)
    | _ => (false, .any)
  | .cons h t => ((vecA B h).1 && (vecA B t).1, .cons (vecA B h).2 (vecA B t).2)
  | .tuple v => ((vecA B v).1, .tuple (vecA B v).2)
  | a => (true, a)
open Classical in
noncomputable def sealG (G : Gh) (w : World) : Gh := { G with imm := fun c => match G.imm c with
  | some r => some r
  | none => if ∃ t n, G.own t = some (c, n) then (match w.heap[c]? with | some (.cells cs _ _) => some cs.toList | _ => none) else none }
theorem sealG_old {G : Gh} {w : World} {c : Nat} {r : List Value} (h : G.imm c = some r) : (sealG G w).imm c = some r := by
  simp [sealG, h]
theorem sealG_new {G : Gh} {w : World} {c t n : Nat} {cells : Array Value} {e : TypeId} {fr : Nat × Nat} (h : G.imm c = none) (ho : G.own t = some (c, n)) (hh : w.heap[c]? = some (.cells cells e fr)) : (sealG G w).imm c = some cells.toList := by
  have : ∃ t n, G.own t = some (c, n) := ⟨t, n, ho⟩
  simp [sealG, h, hh, this]
theorem sealG_inv {G : Gh} {w : World} {c : Nat} {r : List Value} (h : (sealG G w).imm c = some r) : G.imm c = some r ∨ (G.imm c = none ∧ (∃ t n, G.own t = some (c, n)) ∧ ∃ cells e fr, w.heap[c]? = some (.cells cells e fr) ∧ r = cells.toList) := by
  unfold sealG at h
  simp only at h
  split at h
  · rename_i r' hr
    exact .inl (hr.trans h)
  · rename_i hn
    split at h
    · rename_i ho
      split at h
      · rename_i cs e fr hh
        simp only [Option.some.injEq] at h
        exact .inr ⟨hn, ho, cs, e, fr, hh, h.symm⟩
      · cases h
    · cases h
theorem sealG_le {G : Gh} {w : World} (dead : List Nat) : GLe G dead (sealG G w) dead :=
  ⟨fun b row h => ⟨row, sealG_old h, List.prefix_refl _⟩, List.prefix_refl _, fun _ h => h, fun t b n _ h => ⟨h, fun row h' => sealG_old h'⟩⟩
theorem vecA_agg {B : Bx} (a : AVal) (h : (vecA B a).1 = true) : (vecA B a).2.agg = a.agg := by
  cases a with
  | vec t b T n =>
    unfold vecA at h ⊢
    split
    · rename_i t' T' xs hb
      rw [hb] at h
      simp only at h
      split
      · rename_i hT
        subst hT
        cases ht : t' == t with
        | false => simp [ht] at h
        | true => simp [AVal.agg, DTy.agg]
      · rename_i hT
        simp [hT] at h
    · rename_i hno
      split at h
      · rename_i hb
        exact absurd hb (hno _ _ _)
      · cases h
  | _ => rfl
theorem vecA_rp {G : Gh} {B : Bx} {w : World} (hw : WOk G B w) : (a : AVal) → (vecA B a).1 = true → (∀ cs, (Rp G B.dead a).1 cs → (Rp (sealG G w) B.dead (vecA B a).2).1 cs) ∧ (∀ vs, (Rp G B.dead a).2 vs → (Rp (sealG G w) B.dead (vecA B a).2).2 vs)
  | .vec t b T n, h => by
    unfold vecA at h ⊢
    split at h
    · rename_i t' T' xs hb
      split at h
      · rename_i hT
        subst hT
        cases ht : t' == t with
        | false => simp [ht] at h
        | true =>
          have ht' : t' = t := by simpa using ht
          subst ht'
          simp only [ht, cond_true, decide_eq_true_eq] at h
          simp only [hb, dif_pos, ht, cond_true]
          obtain ⟨v1, v2, blk0, n0, cells, e, v3, v4, v5, v6, v7, v8⟩ := hw.vec b t' T' xs hb
          refine ⟨fun cs hc => ?_, fun vs hv => hv.elim⟩
          obtain ⟨blk, cap, rfl, hd⟩ := hc
          obtain ⟨ho, hn⟩ := hd.resolve_left v1
          rw [ho] at v3
          obtain ⟨rfl, rfl⟩ : blk = blk0 ∧ cap * T'.sz = n0 := by simpa using v3
          have himm : (sealG G w).imm blk = some cells.toList := sealG_new v7 ho v4
          have hl : (xs.take n).length = n := by simp; omega
          refine ⟨some ⟨blk, 0, none⟩, cap, by rw [hl], by rw [hl]; exact hn, fun _ => ⟨blk, 0, cells.toList, rfl, himm, ?_, fun i x hi => ?_⟩⟩
          · rw [hl, Nat.zero_add, Array.length_toList, v6]
            exact Nat.mul_le_mul_right _ hn
          · have hi2 : xs[i]? = some x := by
              rw [List.getElem?_take] at hi
              split at hi
              · exact hi
              · cases hi
            have hil := (List.getElem?_eq_some_iff.1 hi2).1
            have hm := mul_room (s := T'.sz) hil
            have := v8.2.2 i x hi2
            rw [List.drop_take, List.take_take, Nat.min_eq_left (by omega)] at this
            rw [Nat.zero_add]
            exact RD.mono (sealG_le (w := w) B.dead).imm this
      · cases h
    · cases h
  | .cons a t, h => by
    simp only [vecA, Bool.and_eq_true] at h
    have m1 := vecA_rp hw a h.1
    have m2 := vecA_rp hw t h.2
    exact ⟨fun cs h => by
      obtain ⟨c1, c2, rfl, h1, h2⟩ := h
      exact ⟨c1, c2, rfl, m1.1 _ h1, m2.1 _ h2⟩, fun vs hvs => by
      obtain ⟨v, l, rfl, ⟨cs, hc, hv⟩, hl⟩ := hvs
      exact ⟨v, l, rfl, ⟨cs, m1.1 _ hc, by rw [vecA_agg a h.1]; exact hv⟩, m2.2 _ hl⟩⟩
  | .tuple v, h => by
    have m := vecA_rp hw v h
    exact ⟨fun cs h => by
      obtain ⟨l, rfl, hl⟩ := h
      exact ⟨l, rfl, m.2 _ hl⟩, fun _ h => h⟩
  | .d .., _ => Rp.mono (sealG_le (w := w) (G := G) B.dead) _
  | .own .., _ => Rp.mono (sealG_le (w := w) (G := G) B.dead) _
  | .nil .., _ => Rp.mono (sealG_le (w := w) (G := G) B.dead) _
  | .pnil .., _ => Rp.mono (sealG_le (w := w) (G := G) B.dead) _
  | .bptr .., _ => Rp.mono (sealG_le (w := w) (G := G) B.dead) _
  | .iptr .., _ => Rp.mono (sealG_le (w := w) (G := G) B.dead) _
  | .func .., _ => Rp.mono (sealG_le (w := w) (G := G) B.dead) _
  | .fnil .., _ => Rp.mono (sealG_le (w := w) (G := G) B.dead) _
  | .snil .., _ => Rp.mono (sealG_le (w := w) (G := G) B.dead) _
  | .iface .., _ => Rp.mono (sealG_le (w := w) (G := G) B.dead) _
  | .inil .., _ => Rp.mono (sealG_le (w := w) (G := G) B.dead) _
  | .any .., _ => Rp.mono (sealG_le (w := w) (G := G) B.dead) _
  | .mnil .., _ => Rp.mono (sealG_le (w := w) (G := G) B.dead) _
  | .mref .., _ => Rp.mono (sealG_le (w := w) (G := G) B.dead) _
  | .mobj .., _ => Rp.mono (sealG_le (w := w) (G := G) B.dead) _
  | .yref .., _ => Rp.mono (sealG_le (w := w) (G := G) B.dead) _
  | .lobj .., _ => Rp.mono (sealG_le (w := w) (G := G) B.dead) _
  | .vptr .., _ => Rp.mono (sealG_le (w := w) (G := G) B.dead) _
  | .vrow .., _ => Rp.mono (sealG_le (w := w) (G := G) B.dead) _
  | .tbox .., _ => Rp.mono (sealG_le (w := w) (G := G) B.dead) _
  | .optp _, _ => Rp.mono (sealG_le (w := w) (G := G) B.dead) _
  | .bsl .., _ => Rp.mono (sealG_le (w := w) (G := G) B.dead) _
  | .siter .., _ => Rp.mono (sealG_le (w := w) (G := G) B.dead) _
  | .pan _, _ => Rp.mono (sealG_le (w := w) (G := G) B.dead) _
theorem vecA_v {G : Gh} {B : Bx} {w : World} (hw : WOk G B w) {a : AVal} (h : (vecA B a).1 = true) {v : Value} (hv : Rv G B.dead a v) : Rv (sealG G w) B.dead (vecA B a).2 v := by
  obtain ⟨cs, hc, hh⟩ := hv
  exact ⟨cs, (vecA_rp hw a h).1 _ hc, by rw [vecA_agg a h]; exact hh⟩
def frzV (R : PTy) (v : AVal) (B : Bx) : Option R.El :=
  match R.dec (vecA B v).2 with
  | some y => bif (vecA B v).1 then some y.1 else none
  | none => none
theorem seal_out {R : PTy} {y : R.El} {B' : Bx} {v : AVal} {G G1 : Gh} {w w' : World} {cv : Value} (hR : R.pure = true) (hk : frzV R v B' = some y) (h1 : Rv G1 B'.dead v cv) (h2 : WOk G1 B' w') (h3 : Ext G w G1 w') :
    ∃ G2, Rv G2 [] (R.enc y) cv ∧ WOk G2 ⟨[], [], 0⟩ w' ∧ Ext G w G2 w' := by
  unfold frzV at hk
  split at hk
  · rename_i z hz
    cases hc : (vecA B' v).1 with
    | false => rw [hc] at hk; cases hk
    | true =>
      rw [hc] at hk
      simp only [cond_true, Option.some.injEq] at hk
      subst hk
      obtain ⟨z, l⟩ := z
      let G2 : Gh := { imm := (sealG G1 w').imm, own := fun _ => none, addr := [] }
      have hr : ReTok (sealG G1 w') B'.dead G2 0 [] := ⟨rfl, by simp [G2], fun k t h => by cases h⟩
      have e := pure_toks hR hz
      subst e
      have hle := sealG_le (G := G1) (w := w') B'.dead
      refine ⟨G2, dec_v hr hz (under_top (pure_under hR)) (fun q hq => by cases hq) (vecA_v h2 hc h1), ⟨rfl, List.nodup_nil, fun i b c h => by simp [G2] at h, fun b row h => ?_, (fun b h => by cases h), (fun t b n h => by cases h), (fun t t' b n n' h => by cases h), fun q hq => ⟨(h2.tab q hq).1, (fun h => by cases h), (fun t n h => by cases h)⟩, fun i t T xs h => by simp at h⟩,
        ⟨h3.os, h3.tape, h3.output, h3.size, h3.frame, h3.imm.trans hle.imm, fun b hb ho => ?_, (fun b hb => by cases hb), (fun t b n h => by cases h)⟩⟩
      · rcases sealG_inv h with h | ⟨_, _, cells, e, fr, hh, rfl⟩
        · exact h2.imm b row h
        · exact ⟨cells, e, fr, hh, List.prefix_refl _⟩
      · rw [← h3.same b hb ho]
        cases hi : G1.imm b with
        | some r => exact sealG_old hi
        | none =>
          cases hs : (sealG G1 w').imm b with
          | none => rfl
          | some r =>
            rcases sealG_inv hs with h | ⟨_, ⟨t, n, ht⟩, _⟩
            · rw [hi] at h; cases h
            · rcases h3.own t b n ht with ⟨t', ht'⟩ | hge
              · exact absurd ht' (ho t' n)
              · omega
  · cases hk
theorem frzV_lcallE {P : Program} {ev : LoopT} {g : FuncId} {fn : Func} {c : Code} {A : List PTy} {R : PTy} {f : Els A → Option R.El} (hf : P.funcs[g]? = some fn) (hb : fn.body = some c) (hent : Ent P g) (hE : LValid 0 P c ev false) (hA : A.all PTy.pure = true) (hR : R.pure = true) (hev : ∀ x, fnE ev P fn (encs A x) ⟨[], [], 0⟩ (frzV R) = f x) :
    ∀ x r, f x = some r → LCall 0 P g (encs A x) ⟨[], [], 0⟩ (R.enc r) ⟨[], [], 0⟩ := by
  intro x r hr
  obtain ⟨v, B', hk, hl⟩ := fnE_sound (n := 0) hf hb hent hE ((hev x).trans hr)
  refine ⟨hl.1, fun G w vs hvs hw => (hl.2 G w vs hvs hw).mono ?_⟩
  rintro e w' ⟨cv, G1, rfl, h1, h2, h3, h4⟩
  obtain ⟨G2, k1, k2, k3⟩ := seal_out hR hk h1 h2 h3
  exact ⟨cv, G2, rfl, k1, k2, k3, fun i b hi => by omega⟩
theorem frzV_lcall {P : Program} {C : CalT} {Ls : List LoopT} {g : FuncId} {fn : Func} {c : Code} {A : List PTy} {R : PTy} {f : Els A → Option R.El} (hm : P.follows .mixedOrders = true) (hf : P.funcs[g]? = some fn) (hb : fn.body = some c) (hent : Ent P g) (hC : CV P C)
    (hL : LV 0 P false (loopsOf c) Ls) (hA : A.all PTy.pure = true) (hR : R.pure = true) (hev : ∀ x, fnR P C Ls fn c (encs A x) ⟨[], [], 0⟩ (frzV R) = f x) :
    ∀ x r, f x = some r → LCall 0 P g (encs A x) ⟨[], [], 0⟩ (R.enc r) ⟨[], [], 0⟩ := by
  intro x r hr
  obtain ⟨v, B', hk, hl⟩ := fnR_sound (n := 0) hm hf hb hent hC hL ((hev x).trans hr)
  refine ⟨hl.1, fun G w vs hvs hw => (hl.2 G w vs hvs hw).mono ?_⟩
  rintro e w' ⟨cv, G1, rfl, h1, h2, h3, h4⟩
  obtain ⟨G2, k1, k2, k3⟩ := seal_out hR hk h1 h2 h3
  exact ⟨cv, G2, rfl, k1, k2, k3, fun i b hi => by omega⟩
end Go.Proofs.YtibmgbalfhfcdaaDoor.Abs
set_option linter.unusedVariables false
set_option linter.unusedSimpArgs false
namespace Go.Proofs.YtibmgbalfhfcdaaDoor.Abs
def immOf (w : World) : Nat → Option (List Value) := fun b => match w.heap[b]? with
  | some (.cells c _ _) => some c.toList
  | _ => none
def layFs (P : Program) (rec : TypeId → DTy → Bool) : List Field → DTy → Nat → Bool
  | [], .nil, _ => true
  | f :: fs, .cons h t, o => f.offset == o && P.cellsOf f.type == h.sz && rec f.type h && layFs P rec fs t (o + h.sz)
  | _, _, _ => false
def layT (P : Program) : Nat → TypeId → DTy → Bool
  | 0, _, _ => false
  | n + 1, t, T => P.cellsOf t == T.sz && match P.underlying t with
    | some .bool => match T with
      | .bool => true
      | _ => false
    | some (.int k) => match T with
      | .int k' => k == k'
      | _ => false
    | some .string => match T with
      | .str => true
      | _ => false
    | some (.slice e) => match T with
      | .list E => decide (0 < E.sz) && layT P n e E
      | _ => false
    | some (.array m e) => match T with
      | .arr m' E => m == m' && layT P n e E
      | _ => false
    | some (.struct fs) => layFs P (layT P n) fs.toList T 0
    | _ => false
theorem layT_sz {P : Program} {n : Nat} {t : TypeId} {T : DTy} (h : layT P n t T = true) : P.cellsOf t = T.sz := by
  cases n with
  | zero => simp [layT] at h
  | succ n =>
    simp only [layT, Bool.and_eq_true, beq_iff_eq] at h
    exact h.1
variable {H : Type} {enc : TypeId × Value → H} {P : Program} {w : World} {base : Nat} {sp : Nat → Bool} {held : Bool}
theorem cells_imm {a : Addr} {n : Nat} {cs : List Value} (hn : 0 < n) (h : w.cells? base a n = some cs) : ∃ b off row, a = ⟨b, off, none⟩ ∧ immOf w b = some row ∧ off + n ≤ row.length ∧ cs = (row.drop off).take n := by
  unfold World.cells? at h
  split at h
  · have hlen := mapM_some_length h
    simp only [List.length_range] at hlen
    have hget : ∀ i, i < n → w.cell? (a.add i) = cs[i]? := fun i hi => mapM_some_get h i i (by simp [hi])
    obtain ⟨b, off, spot⟩ := a
    have h0 := hget 0 hn
    have hcs0 : cs[0]? = some (cs[0]'(by omega)) := List.getElem?_eq_getElem (by omega)
    rw [hcs0] at h0
    have hadd0 : (⟨b, off, spot⟩ : Addr).add 0 = ⟨b, off, spot⟩ := by unfold Addr.add; rw [if_pos rfl]
    rw [hadd0] at h0
    unfold World.cell? at h0
    simp only at h0
    split at h0
    · rename_i c e fr hb
      cases hsp : spot.isSome with
      | true => rw [hsp] at h0; simp at h0
      | false =>
        have hnone : spot = none := by cases spot <;> simp at hsp; rfl
        subst hnone
        have hcell : ∀ i, i < n → c[off + i]? = cs[i]? := fun i hi => by
          have := hget i hi
          rw [addr_add] at this
          unfold World.cell? at this
          simp only [hb] at this
          simpa using this
        have hroom : off + n ≤ c.size := by
          have := hcell (n - 1) (by omega)
          rw [List.getElem?_eq_getElem (by omega : n - 1 < cs.length)] at this
          have := (Array.getElem?_eq_some_iff.1 this).1
          omega
        refine ⟨b, off, c.toList, rfl, by unfold immOf; rw [hb], by simpa using hroom, ?_⟩
        apply List.ext_getElem?
        intro i
        by_cases hi : i < n
        · rw [List.getElem?_take_of_lt hi, List.getElem?_drop, ← hcell i hi]
          simp
        · rw [List.getElem?_eq_none (by omega), List.getElem?_eq_none (by simp; omega)]
    · cases h0
  · cases h
theorem choose_list {α : Type} {p : Nat → α → Prop} : (n : Nat) → (∀ i, i < n → ∃ x, p i x) → ∃ xs : List α, xs.length = n ∧ ∀ i x, xs[i]? = some x → p i x
  | 0, _ => ⟨[], rfl, fun i x h => by simp at h⟩
  | n + 1, h => by
    obtain ⟨xs, h1, h2⟩ := choose_list n fun i hi => h i (by omega)
    obtain ⟨x, hx⟩ := h n (by omega)
    refine ⟨xs ++ [x], by simp [h1], fun i y hy => ?_⟩
    rw [List.getElem?_append] at hy
    split at hy
    · exact h2 i y hy
    · have hi : i = n := by
        have := (List.getElem?_eq_some_iff.1 hy).1
        simp at this; omega
      subst hi
      simp [h1] at hy
      subst hy
      exact hx
theorem trod_RD : ∀ (n : Nat) (fuel : Nat) (t : TypeId) (T : DTy) (cs : List Value) (x : DataW H × List MemPlace), layT P n t T = true → DataW.trod enc P w base sp held fuel t cs = some x → ∃ y : T.El, RD (immOf w) T y cs := by
  intro n
  induction n with
  | zero => intro fuel t T cs x h _; simp [layT] at h
  | succ n ih =>
    intro fuel t T cs x hl ht
    have hsz := layT_sz hl
    simp only [layT, Bool.and_eq_true] at hl
    replace hl := hl.2
    cases fuel with
    | zero => simp [DataW.trod] at ht
    | succ fuel =>
    split at hl
    · rename_i hu
      cases T <;> simp only [Bool.false_eq_true] at hl
      unfold DataW.trod at ht
      rw [hu] at ht
      split at ht <;> simp_all
      rename_i b
      cases b
      · exact .inl rfl
      · exact .inr rfl
    · rename_i k hu
      cases T <;> simp only [Bool.false_eq_true, beq_iff_eq] at hl
      subst hl
      obtain ⟨m, rfl, _⟩ := DataW.trod_int hu ht
      exact ⟨m, rfl⟩
    · rename_i hu
      cases T <;> simp only [Bool.false_eq_true] at hl
      unfold DataW.trod at ht
      rw [hu] at ht
      split at ht <;> simp_all
      rename_i s
      exact ⟨s, rfl⟩
    · rename_i e hu
      cases T <;> simp only [Bool.false_eq_true, Bool.and_eq_true, decide_eq_true_eq] at hl
      rename_i E
      have hes := layT_sz hl.2
      rcases DataW.trod_slice hu ht with ⟨rfl, _⟩ | ⟨a, len, cap, elems, rest, m, _, rfl, _, _, hlc, _, hlen, hel, _, _⟩
      · exact ⟨[], none, 0, rfl, Nat.le_refl _, fun h => absurd rfl h⟩
      · by_cases h0 : len = 0
        · subst h0
          exact ⟨[], some a, cap, rfl, Nat.zero_le _, fun h => absurd rfl h⟩
        · have each : ∀ i, i < len → ∃ (cs : List Value) (y : E.El), w.cells? base (a.add (i * E.sz)) E.sz = some cs ∧ RD (immOf w) E y cs := fun i hi => by
            have h1 := hel i hi
            rw [List.getElem?_eq_getElem (by omega), hes] at h1
            cases hc : w.cells? base (a.add (i * E.sz)) E.sz with
            | none => rw [hc] at h1; cases h1
            | some cs =>
              rw [hc] at h1
              simp only [Option.bind_some] at h1
              obtain ⟨y, hy⟩ := ih m e E cs _ hl.2 h1
              exact ⟨cs, y, rfl, hy⟩
          obtain ⟨c0, _, hc0, _⟩ := each 0 (by omega)
          obtain ⟨b, off, row, ha, hrow, _, _⟩ := cells_imm hl.1 hc0
          have ha' : a = ⟨b, off, none⟩ := by
            have : a.add (0 * E.sz) = a := by unfold Addr.add; rw [Nat.zero_mul, if_pos rfl]
            rw [this] at ha; exact ha
          subst ha'
          have each2 : ∀ i, i < len → ∃ y : E.El, off + i * E.sz + E.sz ≤ row.length ∧ RD (immOf w) E y ((row.drop (off + i * E.sz)).take E.sz) := fun i hi => by
            obtain ⟨cs, y, h1, h2⟩ := each i hi
            rw [addr_add] at h1
            obtain ⟨b', off', row', e1, e2, e3, e4⟩ := cells_imm hl.1 h1
            simp only [Addr.mk.injEq, and_true] at e1
            obtain ⟨rfl, rfl⟩ := e1
            rw [hrow] at e2
            cases e2
            exact ⟨y, e3, by rw [← e4]; exact h2⟩
          obtain ⟨ys, hy1, hy2⟩ := choose_list len each2
          refine ⟨ys, some ⟨b, off, none⟩, cap, by rw [hy1], by rw [hy1]; exact hlc, fun _ => ⟨b, off, row, rfl, hrow, ?_, fun i y hy => (hy2 i y hy).2⟩⟩
          have hlast := hy2 (len - 1) _ (List.getElem?_eq_getElem (by omega))
          have : (len - 1) * E.sz + E.sz = len * E.sz := by
            have h1 : len - 1 + 1 = len := by omega
            rw [← Nat.succ_mul]; show (len - 1 + 1) * E.sz = _; rw [h1]
          rw [hy1]
          omega
    · rename_i q e hu
      cases T <;> simp only [Bool.false_eq_true, Bool.and_eq_true, beq_iff_eq] at hl
      rename_i q' E
      obtain ⟨rfl, hle⟩ := hl
      have hes := layT_sz hle
      obtain ⟨xs, m, _, _, hlen, hxl, hf⟩ := DataW.trod_array hu ht
      rw [hsz] at hlen
      have each : ∀ i, i < q → ∃ y : E.El, RD (immOf w) E y ((cs.drop (i * E.sz)).take E.sz) := fun i hi => by
        have h1 := hf i hi
        rw [List.getElem?_eq_getElem (by omega), hes] at h1
        exact ih m e E _ _ hle h1
      obtain ⟨ys, hy1, hy2⟩ := choose_list q each
      exact ⟨ys, hy1, hlen, hy2⟩
    · rename_i fs hu
      obtain ⟨xs, m, _, _, hlen, hxl, hf⟩ := DataW.trod_struct hu ht
      rw [hsz] at hlen
      have main : ∀ (l : List Field) (T : DTy) (o : Nat), layFs P (layT P n) l T o = true → (∀ f ∈ l, ∃ z, DataW.trod enc P w base sp held m f.type ((cs.drop f.offset).take (P.cellsOf f.type)) = some z) → o + T.sz ≤ cs.length → ∃ y : T.El, RD (immOf w) T y ((cs.drop o).take T.sz) := by
        intro l
        induction l with
        | nil => intro T o h _ _; cases T <;> simp [layFs] at h; exact ⟨(), by simp [DTy.sz]; rfl⟩
        | cons f fs ihf =>
          intro T o h hz hr
          cases T with
          | cons a b =>
            simp only [layFs, Bool.and_eq_true, beq_iff_eq] at h
            obtain ⟨⟨⟨rfl, hcs⟩, hrec⟩, hrest⟩ := h
            obtain ⟨z, hz1⟩ := hz f (by simp)
            rw [hcs] at hz1
            obtain ⟨y1, hy1⟩ := ih m f.type a _ z hrec hz1
            have hs : (DTy.cons a b).sz = a.sz + b.sz := rfl
            rw [hs] at hr
            obtain ⟨y2, hy2⟩ := ihf b (f.offset + a.sz) hrest (fun g hg => hz g (by simp [hg])) (by omega)
            refine ⟨(y1, y2), _, _, ?_, hy1, hy2⟩
            rw [hs, List.take_add, List.drop_drop]
          | _ => simp [layFs] at h
      obtain ⟨y, hy⟩ := main fs.toList T 0 hl (fun f hf' => by
        obtain ⟨i, hi, he⟩ := List.mem_iff_getElem.1 hf'
        have hfi : fs[i]? = some f := by
          rw [← Array.getElem?_toList, List.getElem?_eq_getElem hi, he]
        have := hf i f hfi
        rw [List.getElem?_eq_getElem (by rw [hxl]; simpa using hi)] at this
        exact ⟨_, this⟩) (by omega)
      rw [List.drop_zero, List.take_of_length_le (by omega)] at hy
      exact ⟨y, hy⟩
    · cases hl
open Go.ChangeShapes Go.WideShapes Go.RowKit
theorem lay_agg {P : Program} {n : Nat} {t : TypeId} {T : DTy} (h : layT P n t T = true) : (T.agg = true → (∃ fs, P.underlying t = some (.struct fs)) ∨ ∃ m e, P.underlying t = some (.array m e)) ∧
    (T.agg = false → (P.underlying t = some .bool ∨ (∃ k, P.underlying t = some (.int k)) ∨ P.underlying t = some .string ∨ ∃ e, P.underlying t = some (.slice e))) := by
  cases n with
  | zero => simp [layT] at h
  | succ n =>
    simp only [layT, Bool.and_eq_true] at h
    replace h := h.2
    split at h
    · rename_i hu
      cases T <;> simp only [Bool.false_eq_true] at h
      exact ⟨fun h => by simp [DTy.agg] at h, fun _ => .inl hu⟩
    · rename_i k hu
      cases T <;> simp only [Bool.false_eq_true] at h
      exact ⟨fun h => by simp [DTy.agg] at h, fun _ => .inr (.inl ⟨k, hu⟩)⟩
    · rename_i hu
      cases T <;> simp only [Bool.false_eq_true] at h
      exact ⟨fun h => by simp [DTy.agg] at h, fun _ => .inr (.inr (.inl hu))⟩
    · rename_i e hu
      cases T <;> simp only [Bool.false_eq_true] at h
      exact ⟨fun h => by simp [DTy.agg] at h, fun _ => .inr (.inr (.inr ⟨e, hu⟩))⟩
    · rename_i m e hu
      cases T <;> simp only [Bool.false_eq_true] at h
      exact ⟨fun _ => .inr ⟨m, e, hu⟩, fun h => by simp [DTy.agg] at h⟩
    · rename_i fs hu
      refine ⟨fun _ => .inl ⟨fs, hu⟩, fun ha => ?_⟩
      generalize fs.toList = l at h
      generalize (0 : Nat) = o at h
      cases l <;> cases T <;> simp [layFs, DTy.agg] at h ha
    · cases h
theorem arg_v {H : Type} {enc : TypeId × Value → H} {P : Program} {W : World} {base base' n : Nat} {sp : Nat → Bool} {held : Bool} {t : TypeId} {T : DTy} {v : Value} {d : DataW H} {ps : List MemPlace} (hl : layT P n t T = true) (hok : Value.okWide P W .any base' t v) (h : DataW.Trod enc P W base sp held t v d ps) : ∃ y : T.El, VD (immOf W) T y v := by
  obtain ⟨fuel, hf⟩ := h
  obtain ⟨y, hy⟩ := trod_RD n fuel t T _ _ hl hf
  refine ⟨y, v.cells.toList, hy, ?_⟩
  obtain ⟨h1, h2⟩ := lay_agg hl
  cases ha : T.agg with
  | true =>
    refine .inl ⟨rfl, ?_⟩
    have : ∃ cs, v = .agg cs := by
      rcases h1 ha with ⟨fs, hu⟩ | ⟨m, e, hu⟩
      · unfold Value.okWide at hok
        rw [hu] at hok
        obtain ⟨cs, h, _⟩ := hok
        exact ⟨cs, h⟩
      · unfold Value.okWide at hok
        rw [hu] at hok
        obtain ⟨cs, h, _⟩ := hok
        exact ⟨cs, h⟩
    obtain ⟨cs, rfl⟩ := this
    simp [Value.cells]
  | false =>
    refine .inr ⟨rfl, ?_⟩
    have hna : ∀ cs, v ≠ .agg cs := fun cs hv => by
      subst hv
      rcases h2 ha with hu | ⟨k, hu⟩ | hu | ⟨e, hu⟩ <;> simp [Value.okWide, hu, Cell.okWide, Cell.ok] at hok
    cases v <;> first | rfl | exact absurd rfl (hna _)
def layA (P : Program) (n : Nat) : List TypeId → List PTy → Bool
  | [], [] => true
  | t :: ts, .dat T :: A => layT P n t T && layA P n ts A
  | _, _ => false
def wfD : (T : DTy) → T.El → Prop
  | .arr n e, xs => xs.length = n ∧ ∀ x ∈ xs, wfD e x
  | .list e, xs => ∀ x ∈ xs, wfD e x
  | .cons h t, x => wfD h x.1 ∧ wfD t x.2
  | .int _, _ => True
  | .bool, _ => True
  | .str, _ => True
  | .nil, _ => True
  | .mapr, _ => True
theorem RD.wf {imm : Nat → Option (List Value)} : {T : DTy} → {x : T.El} → {cs : List Value} → RD imm T x cs → wfD T x
  | .int _, _, _, _ => by simp [wfD]
  | .bool, _, _, _ => by simp [wfD]
  | .str, _, _, _ => by simp [wfD]
  | .nil, _, _, _ => by simp [wfD]
  | .mapr, _, _, _ => by simp [wfD]
  | .cons a t, x, cs, h => by
    obtain ⟨c1, c2, rfl, h1, h2⟩ := h
    simp only [wfD]
    exact ⟨RD.wf h1, RD.wf h2⟩
  | .arr n e, xs, cs, h => by
    obtain ⟨h1, h2, h3⟩ := h
    simp only [wfD]
    refine ⟨h1, fun x hx => ?_⟩
    obtain ⟨i, hi⟩ := List.mem_iff_getElem?.1 hx
    have := RD.wf (T := e) (h3 i x hi)
    exact this
  | .list e, xs, cs, h => by
    obtain ⟨A, cap, rfl, _, h3⟩ := h
    simp only [wfD]
    intro x hx
    obtain ⟨i, hi⟩ := List.mem_iff_getElem?.1 hx
    obtain ⟨b, off, row, _, _, _, h4⟩ := h3 (by intro h0; subst h0; simp at hi)
    have := RD.wf (T := e) (h4 i x hi)
    exact this
def wfs : (ps : List PTy) → Els ps → Prop
  | .dat T :: ps, x => wfD T x.1 ∧ wfs ps x.2
  | _, _ => True
theorem args_vals {H : Type} {enc : TypeId × Value → H} {P : Program} {W : World} {base base' n : Nat} {sp : Nat → Bool} {held : Bool} {G : Gh} (hG : G.imm = immOf W) : {ts : List TypeId} → {A : List PTy} → {vs : List Value} → {ds : List (DataW H)} → {ps : List MemPlace} → layA P n ts A = true →
    (∀ (j : Nat) t v, ts[j]? = some t → vs[j]? = some v → Value.okWide P W .any base' t v) → DataW.TrodAll enc P W base sp held ts vs ds ps → ∃ x : Els A, Vals G [] (encs A x) vs ∧ wfs A x
  | [], [], vs, ds, ps, _, _, h => by
    obtain ⟨rfl, _, _⟩ := trodAll_nil h
    exact ⟨(), .nil, trivial⟩
  | t :: ts, .dat T :: A, vs, ds, ps, hl, hok, h => by
    simp only [layA, Bool.and_eq_true] at hl
    obtain ⟨v, vs', d, ds', p, q, rfl, rfl, rfl, h1, h2⟩ := trodAll_cons h
    obtain ⟨y, hy⟩ := arg_v hl.1 (hok 0 t v rfl rfl) h1
    obtain ⟨x, hx, hwx⟩ := args_vals hG hl.2 (fun j t' v' ht hv => hok (j + 1) t' v' (by simpa using ht) (by simpa using hv)) h2
    rw [← hG] at hy
    refine ⟨(y, x), .cons hy hx, ?_, hwx⟩
    obtain ⟨cs, h, _⟩ := hy
    exact h.wf
  | [], .dat _ :: _, _, _, _, hl, _, _ => by simp [layA] at hl
  | [], .any :: _, _, _, _, hl, _, _ => by simp [layA] at hl
  | [], .fix _ :: _, _, _, _, hl, _, _ => by simp [layA] at hl
  | [], .own _ _ :: _, _, _, _, hl, _, _ => by simp [layA] at hl
  | [], .cons _ _ :: _, _, _, _, hl, _, _ => by simp [layA] at hl
  | [], .nil :: _, _, _, _, hl, _, _ => by simp [layA] at hl
  | [], .tup _ :: _, _, _, _, hl, _, _ => by simp [layA] at hl
  | [], .map _ _ :: _, _, _, _, hl, _, _ => by simp [layA] at hl
  | [], .ip _ :: _, _, _, _, hl, _, _ => by simp [layA] at hl
  | [], .lp _ _ _ :: _, _, _, _, hl, _, _ => by simp [layA] at hl
  | _ :: _, [], _, _, _, hl, _, _ => by simp [layA] at hl
  | _ :: _, .any :: _, _, _, _, hl, _, _ => by simp [layA] at hl
  | _ :: _, .fix _ :: _, _, _, _, hl, _, _ => by simp [layA] at hl
  | _ :: _, .own _ _ :: _, _, _, _, hl, _, _ => by simp [layA] at hl
  | _ :: _, .cons _ _ :: _, _, _, _, hl, _, _ => by simp [layA] at hl
  | _ :: _, .nil :: _, _, _, _, hl, _, _ => by simp [layA] at hl
  | _ :: _, .tup _ :: _, _, _, _, hl, _, _ => by simp [layA] at hl
  | _ :: _, .map _ _ :: _, _, _, _, hl, _, _ => by simp [layA] at hl
  | _ :: _, .ip _ :: _, _, _, _, hl, _, _ => by simp [layA] at hl
  | _ :: _, .lp _ _ _ :: _, _, _, _, hl, _, _ => by simp [layA] at hl
theorem trodAll_len {H : Type} {enc : TypeId × Value → H} {P : Program} {W : World} {base : Nat} {sp : Nat → Bool} {held : Bool} : {ts : List TypeId} → {vs : List Value} → {ds : List (DataW H)} → {ps : List MemPlace} → DataW.TrodAll enc P W base sp held ts vs ds ps → ds.length = ts.length
  | [], vs, ds, ps, h => by
    obtain ⟨rfl, rfl, rfl⟩ := trodAll_nil h
    rfl
  | t :: ts, vs, ds, ps, h => by
    obtain ⟨v, vs', d, ds', p, q, rfl, rfl, rfl, h1, h2⟩ := trodAll_cons h
    simp [trodAll_len h2]
theorem trodAll_stays {H : Type} {enc : TypeId × Value → H} {P : Program} (hlo : laidOutB P = true) {W W' : World} {sp' : Nat → Bool} : {ts : List TypeId} → {vs : List Value} → {ds : List (DataW H)} → {ps : List MemPlace} → (∀ t ∈ ts, P.readableRec t = true ∧ t < P.types.size) → DataW.TrodAll enc P W 0 (fun _ => true) true ts vs ds ps → (∀ p ∈ ps, W.sameAt W' p) → (∀ p ∈ ps, sp' p.block = true) → DataW.TrodAll enc P W' 0 sp' true ts vs ds ps
  | [], vs, ds, ps, _, h, _, _ => by
    obtain ⟨rfl, rfl, rfl⟩ := trodAll_nil h
    rfl
  | t :: ts, vs, ds, ps, hr, h, hs, hsp => by
    obtain ⟨v, vs', d, ds', p, q, rfl, rfl, rfl, h1, h2⟩ := trodAll_cons h
    have ht := hr t (by simp)
    exact ⟨p, q, WideElems.Trod_stays hlo ht.1 ht.2 h1 (fun x hx => hs x (by simp [hx])) (fun x hx => hsp x (by simp [hx])), trodAll_stays hlo (fun t' ht' => hr t' (by simp [ht'])) h2 (fun x hx => hs x (by simp [hx])) (fun x hx => hsp x (by simp [hx])), rfl⟩
theorem law_contract {P : Program} {g : FuncId} {fn : Func} {A : List PTy} {f : Els A → Option Bool} {n : Nat} {s : ChangeSpec} {tb : TypeId} (hl : ∀ x r, f x = some r → LCall 0 P g (encs A x) ⟨[], [], 0⟩ (.d .bool r) ⟨[], [], 0⟩) (hf : ∀ x, wfs A x → f x = some true) (hg : g ≠ YLD)
    (hrt : fn.resultTypes = #[tb]) (hub : P.underlying tb = some .bool) (hlay : layA P n fn.params.toList A = true) (hlo : laidOutB P = true) (hread : ∀ t ∈ fn.params.toList, P.readableRec t = true ∧ t < P.types.size)
    (hvars : s.vars = []) (hfn : ∀ (H : Type) (ds : List (DataW H)), ds.length = fn.params.toList.length → (s.fn H ds).results = [.lit (.bool true)] ∧ (s.fn H ds).args = ds ∧ (s.fn H ds).vars = [])
    {H : Type} {enc : TypeId × Value → H} {W : World} {base : Nat} {args : Array Value} {ds gs : List (DataW H)} {before : List MemPlace} {apart fresh handsOn again : Bool}
    (hval : ∀ (j : Nat) t v, fn.params[j]? = some t → args[j]? = some v → Value.okWide P W .any base t v)
    (hW : DataW.Whole enc P fn.params.toList s.vars apart W args.toList ds gs before) (htab : ∀ q ∈ TABS, ∃ e fr, W.heap[q.1]? = some (.cells q.2 e fr)) :
    Calls P g args W fun e W' => ∃ v, e = .returned v ∧ s.post enc P fn apart fresh handsOn again W args v W' := by
  have hW0 := hW
  obtain ⟨p, q, hA, hV, rfl, hfz, hnd⟩ := hW
  rw [hvars] at hV
  obtain ⟨rfl, rfl⟩ := trodVars_none hV
  let G : Gh := { imm := immOf W, own := fun _ => none, addr := [] }
  obtain ⟨x, hx, hwx⟩ := args_vals (G := G) (n := n) (base' := base) rfl hlay (fun j t v ht hv => hval j t v (by rw [← Array.getElem?_toList]; exact ht) (by rw [← Array.getElem?_toList]; exact hv)) hA
  have himm : ∀ b row, G.imm b = some row → ∃ cells e fr, W.heap[b]? = some (.cells cells e fr) ∧ row <+: cells.toList := fun b row hb => by
    have hb' : immOf W b = some row := hb
    unfold immOf at hb'
    split at hb'
    · rename_i c e fr hc
      simp only [Option.some.injEq] at hb'
      exact ⟨c, e, fr, hc, by rw [hb']; exact List.prefix_refl _⟩
    · cases hb'
  have hwok : WOk G ⟨[], [], 0⟩ W := ⟨rfl, List.nodup_nil, (fun i b c h => by simp [G] at h), himm, (fun b h => by cases h), (fun t b n h => by cases h), (fun t t' b n n' h => by cases h), fun q hq => ⟨htab q hq, (fun h => by cases h), (fun t n h => by cases h)⟩, fun i t T xs h => by simp at h⟩
  have hcall := ((hl x true (hf x hwx)).2 G W args.toList hx hwok).1 hg
  refine Calls.mono hcall ?_
  rintro e W' ⟨cv, G', rfl, hcv, hw', hext, _⟩
  have hsame : ∀ b, b < W.heap.size → W'.heap[b]? = W.heap[b]? := fun b hb => hext.frame b hb (by simp [G]) (fun t n h => by cases h)
  have hcv' := bool_form hcv
  subst hcv'
  refine ⟨_, rfl, ?_⟩
  have hlen : ds.length = fn.params.toList.length := (trodAll_len hA)
  obtain ⟨e1, e2, e3⟩ := hfn H (ds ++ []) (by simpa using hlen)
  have hlt : ∀ p' ∈ p, p'.block < W.heap.size := fun p' hp' => hA.lt p' hp'
  have hsa : ∀ p' ∈ p, W.sameAt W' p' := fun p' hp' => by
    have hb := hsame p'.block (hlt p' hp')
    cases p' with
    | cell b off =>
      show W'.cell? ⟨b, off, none⟩ = W.cell? ⟨b, off, none⟩
      unfold World.cell?
      rw [show W'.heap[b]? = W.heap[b]? from hb]
    | map b => exact hb
  have hargs : ∀ sp : Nat → Bool, (∀ p' ∈ p, sp p'.block = true) → DataW.TrodAll enc P W' 0 sp true fn.params.toList args.toList ds p := fun sp hsp => trodAll_stays hlo hread hA hsa hsp
  have hres : ∀ (b : Nat) (sp : Nat → Bool) (hd : Bool), DataW.TrodAll enc P W' b sp hd fn.resultTypes.toList ((Value.bool true).resultList fn.resultTypes.size) [.lit (.bool true)] [] := fun b sp hd => by
    rw [hrt]
    exact trodAll_cons_mk (shut_bool hub _) trodAll_mk0
  have hvv : ∀ sp : Nat → Bool, DataW.TrodVars enc P W' sp s.vars ([] : List (DataW H)) [] := fun sp => by rw [hvars]; rfl
  have hold : ∀ p' ∈ p, (fun b => decide (b < W.heap.size)) p'.block = true := fun p' hp' => by simpa using hlt p' hp'
  refine ⟨ds, [], p ++ [], [], p, [], hW0, ?_, ?_, ?_, ?_, fun _ => ?_⟩
  · rw [e1]; exact hres _ _ _
  · rw [e2, List.append_nil]; exact hargs _ hold
  · rw [e3]; exact hvv _
  · have hk : W.keptBut W' (fun _ => False) := ⟨hext.os, hext.output, fun i hi => by
      rw [hsame i hi]
      exact (World.keptBut_refl W (fun _ => False)).2.2 i hi⟩
    exact World.keptBut_mono (fun _ f => f.elim) hk
  · refine ⟨ok_one hrt rfl (okWide_bool_mk hub _), _, _, ([] ++ p) ++ [], ⟨[] ++ p, [], trodAll_append (hargs _ (fun _ _ => rfl)) (hres _ _ _), hvv _, rfl, ?_, ?_⟩, ?_⟩
    · intro b off hp
      have hp' : MemPlace.cell b off ∈ p := by simpa using hp
      have hz := hfz b off (by simpa using hp')
      have hb := hsame b (hlt _ hp')
      unfold World.frozen? at hz ⊢
      rw [show W'.heap[b]? = W.heap[b]? from hb]
      exact hz
    · intro ha
      have := hnd ha
      simpa using this
    · intro p' hp' _
      simpa using hp'
end Go.Proofs.YtibmgbalfhfcdaaDoor.Abs
set_option linter.unusedVariables false
set_option linter.unusedSimpArgs false
namespace Go.Proofs.YtibmgbalfhfcdaaDoor.Abs
def peelT (P : Program) (C : CalT) (Ls : List LoopT) (c : Code) (S : SPat) (xs : List AExit) (run : S.El → Option (Nat × S.El)) : LoopT :=
  ⟨fun X env B k => codeR P C c Ls env B fun e env' B' => match e with
    | .normal => (loopT S xs run).run X env' B' k
    | e => k e env' B'⟩
theorem peelT_valid {n : Nat} {rd : Bool} {P : Program} {C : CalT} {Ls : List LoopT} {c : Code} {S : SPat} {xs : List AExit} {step run : S.El → Option (Nat × S.El)} {fuel : S.El → Nat} (hm : P.follows .mixedOrders = true) (hC : CV P C) (hL : LV n P rd (loopsOf c) Ls) (hS : S.ok = true) (hn : n ≤ S.box.length) (hx : realXs xs = true)
    (hbody : ∀ s, codeR P C c Ls (S.encE s) (S.encB s) (kst S xs) = step s) (hrun : ∀ s r, run s = some r → iter step (fuel s) s = some r) : LValid n P (.loop c) (peelT P C Ls c S xs run) rd := by
  intro X env B k r h
  unfold peelT at h
  simp only at h
  obtain ⟨e, env', B', hk, haw⟩ := codeR_sound hm hC c hL h
  cases e with
  | normal =>
    simp only [loopT] at hk
    split at hk
    · rename_i s hd
      cases hr : run s with
      | none => rw [hr] at hk; cases hk
      | some q =>
        rw [hr] at hk
        simp only [Option.bind_some] at hk
        have hi := hrun s q hr
        have hlt := iter_lt hbody hm hC hL (fuel s) s q.1 q.2 hi
        refine ⟨nthX xs (q.1 + 1), S.encE q.2, S.encB q.2, selX_spec hk hlt, fun ro hro G a w Q hok hQ => ?_⟩
        refine wpIn_loop_rounds (fuel s + 1) ?_
        rw [roundsIn_succ]
        refine haw ro hro G a w _ hok fun G1 a1 w1 g1 => ?_
        obtain ⟨G2, g2⟩ := norm_sound (n := n) hS hn hd g1.ok
        exact iter_rounds hm hC hL hS hn hbody (fuel s) s q.1 q.2 hi ro hro G2 a1 w1 Q g2.ok (fun G3 a3 w3 g3 => hQ G3 a3 w3 ((g1.trans g2).trans g3)) (realXs_spec hx)
    · cases hk
  | exit i =>
    refine ⟨.exit i, env', B', hk, fun ro hro G a w Q hok hQ => wpIn_loop_rounds 1 ?_⟩
    rw [roundsIn_succ]
    exact haw ro hro G a w _ hok fun G1 a1 w1 g1 => hQ G1 a1 w1 g1
  | ret =>
    refine ⟨.ret, env', B', hk, fun ro hro G a w Q hok hQ => wpIn_loop_rounds 1 ?_⟩
    rw [roundsIn_succ]
    exact haw ro hro G a w _ hok fun G1 a1 w1 g1 => hQ G1 a1 w1 g1
def orT (ok : List AVal → Bx → Bool) (L M : LoopT) : LoopT := ⟨fun X env B k => bif ok env B then L.run X env B k else M.run X env B k⟩
theorem orT_valid {n : Nat} {P : Program} {c : Code} {ok : List AVal → Bx → Bool} {L M : LoopT} {rd : Bool} (hL : LValid n P c L rd) (hM : LValid n P c M rd) : LValid n P c (orT ok L M) rd := by
  intro X env B k r h
  unfold orT at h
  simp only at h
  cases hb : ok env B with
  | true => rw [hb] at h; exact hL X env B k r h
  | false => rw [hb] at h; exact hM X env B k r h
def SPat.fit (S : SPat) (env : List AVal) (B : Bx) : Bool := (S.dec env B).isSome
end Go.Proofs.YtibmgbalfhfcdaaDoor.Abs
set_option linter.unusedVariables false
set_option linter.unusedSimpArgs false
namespace Go.Proofs.YtibmgbalfhfcdaaDoor.Abs
def altK {A B X : Type} (v : A ⊕ B) (f : A → Option X) (g : B → Option X) : Option X := match v with
  | .inl a => f a
  | .inr b => g b
@[reducible] def CSpec.alt (S : CSpec) (O : List PTy) (ntO : Nat) (R : PTy) : CSpec := ⟨S.A, S.I, S.nt, O, ntO, R⟩
def callK2 {X : Type} (S : CSpec) (O : List PTy) (ntO : Nat) (R : PTy) (f : S.In → Option (S.Out ⊕ (S.alt O ntO R).Out)) (args : List AVal) (B : Bx) (k : AVal → Bx → Option X) : Option X :=
  let sel := selA S args B
  let fb := fun b => idxIn b sel
  bif nodupB sel && sel.length == S.I.length && sel.all (fun b => decide (b < B.box.length)) && args.length == S.A.length then
    match SPat.dec ⟨S.A, S.I, S.nt⟩ (args.map fun a => a.ren fb id) ⟨sel.map fun b => (B.box.getD b .any).ren fb id, B.dead, B.nt⟩ with
    | some x => bif vecFree B sel (SPat.toks ⟨S.A, S.I, S.nt⟩ (args.map fun a => a.ren fb id) ⟨sel.map fun b => (B.box.getD b .any).ren fb id, B.dead, B.nt⟩) then
        (f x).bind fun r => altK r (fun r => k (callB S args B r).1 (callB S args B r).2) (fun r => k (callB (S.alt O ntO R) args B r).1 (callB (S.alt O ntO R) args B r).2) else none
    | none => none
  else none
def altE (g : FuncId) (S : CSpec) (O : List PTy) (ntO : Nat) (R : PTy) (f : S.In → Option (S.Out ⊕ (S.alt O ntO R).Out)) : CEnt := ⟨g, fun args B => fits S args B, fun _ args B k => callK2 S O ntO R f args B k, false, false⟩
def inlF {A B : Type} : Option (A ⊕ B) → Option A
  | some (.inl a) => some a
  | _ => none
def inrF {A B : Type} : Option (A ⊕ B) → Option B
  | some (.inr a) => some a
  | _ => none
theorem inlF_spec {A B : Type} {v : Option (A ⊕ B)} {a : A} (h : inlF v = some a) : v = some (.inl a) := by
  unfold inlF at h
  split at h
  · simp only [Option.some.injEq] at h; subst h; rfl
  · cases h
theorem inrF_spec {A B : Type} {v : Option (A ⊕ B)} {a : B} (h : inrF v = some a) : v = some (.inr a) := by
  unfold inrF at h
  split at h
  · simp only [Option.some.injEq] at h; subst h; rfl
  · cases h
theorem callK2_spec {X : Type} {S : CSpec} {O : List PTy} {ntO : Nat} {R : PTy} {f : S.In → Option (S.Out ⊕ (S.alt O ntO R).Out)} {args : List AVal} {B : Bx} {k : AVal → Bx → Option X} {res : X} (h : callK2 S O ntO R f args B k = some res) :
    callK S (fun x => inlF (f x)) args B k = some res ∨ callK (S.alt O ntO R) (fun x => inrF (f x)) args B k = some res := by
  unfold callK2 at h
  simp only at h
  unfold callK
  simp only
  have hsel : selA (S.alt O ntO R) args B = selA S args B := rfl
  rw [hsel]
  generalize selA S args B = sel at h ⊢
  cases hb : nodupB sel && sel.length == S.I.length && sel.all (fun b => decide (b < B.box.length)) && args.length == S.A.length with
  | false => rw [hb] at h; cases h
  | true =>
    rw [hb] at h
    simp only [cond_true] at h ⊢
    split at h
    · rename_i x hdec
      cases hvf : vecFree B sel (SPat.toks ⟨S.A, S.I, S.nt⟩ (args.map fun a => a.ren (fun b => idxIn b sel) id) ⟨sel.map fun b => (B.box.getD b .any).ren (fun b => idxIn b sel) id, B.dead, B.nt⟩) with
      | false => rw [hvf] at h; cases h
      | true =>
        rw [hvf] at h
        simp only [cond_true] at h ⊢
        cases hfx : f x with
        | none => rw [hfx] at h; cases h
        | some r =>
          rw [hfx] at h
          simp only [Option.bind_some] at h
          cases r with
          | inl a => left; simp only [hdec, hvf, cond_true, hfx, inlF, Option.bind_some]; exact h
          | inr a => right; simp only [hdec, hvf, cond_true, hfx, inrF, Option.bind_some]; exact h
    · cases h
theorem altE_valid {P : Program} {g : FuncId} {S : CSpec} {O : List PTy} {ntO : Nat} {R : PTy} {f : S.In → Option (S.Out ⊕ (S.alt O ntO R).Out)} (hS : S.ok = true) (hT : (S.alt O ntO R).ok = true) (hent : Ent' P g)
    (hcall : (∀ x r, f x = some (.inl r) → LCall S.I.length P g (encs S.A x.1) ⟨encs S.I x.2, [], S.nt⟩ (S.R.enc r.1) ⟨encs S.O r.2, [], S.ntO⟩) ∧
      (∀ x r, f x = some (.inr r) → LCall S.I.length P g (encs S.A x.1) ⟨encs S.I x.2, [], S.nt⟩ (R.enc r.1) ⟨encs O r.2, [], ntO⟩)) : (altE g S O ntO R f).Valid P := by
  intro X args B k r h
  rcases callK2_spec h with h | h
  · obtain ⟨q, h1, h2⟩ := call_sound hS hent (fun x r hr => hcall.1 x r (inlF_spec hr)) h
    exact ⟨_, _, h1, h2, (fun h => by cases h), (fun h => by cases h), by simp only [callB, List.length_append, setSel_len]; omega⟩
  · obtain ⟨q, h1, h2⟩ := call_sound (S := S.alt O ntO R) hT hent (fun x r hr => hcall.2 x r (inrF_spec hr)) h
    exact ⟨_, _, h1, h2, (fun h => by cases h), (fun h => by cases h), by simp only [callB, List.length_append, setSel_len]; omega⟩
def finK2 (S : CSpec) (O : List PTy) (ntO : Nat) (R : PTy) (v : AVal) (B : Bx) : Option (S.Out ⊕ (S.alt O ntO R).Out) :=
  match finK S v B with
  | some r => some (.inl r)
  | none => match finK (S.alt O ntO R) v B with
    | some r => some (.inr r)
    | none => none
theorem fin_lcall {n : Nat} {P : Program} {g : FuncId} {S : CSpec} {args : List AVal} {B B' : Bx} {v : AVal} {r : S.Out} (hn : n ≤ S.O.length) (hS2 : S.ok2 = true) (hk : finK S v B' = some r) (hl : LCall n P g args B v B') :
    LCall n P g args B (S.R.enc r.1) ⟨encs S.O r.2, [], S.ntO⟩ := by
  unfold finK at hk
  split at hk
  · rename_i z hz
    simp only [Option.some.injEq] at hk
    subst hk
    refine ⟨hl.1, fun G w vs hvs hw => (hl.2 G w vs hvs hw).mono ?_⟩
    rintro e w' ⟨cv, G1, rfl, h1, h2, h3, h4⟩
    have hok : Ok G1 B' [v] { tmps := #[cv], defers := [] } w' := ⟨⟨rfl, fun t => by
      cases t with
      | zero => exact h1
      | succ t => exact any_v _⟩, h2, trivial⟩
    obtain ⟨G2, g2⟩ := norm_sound (n := n) hS2 hn hz hok
    refine ⟨cv, G2, rfl, by have := g2.ok.env.val 0; unfold SPat.encE at this; rw [oneE_enc] at this; exact this, g2.ok.w, h3.trans g2.ext, fun i b hi hb => g2.held i b hi (h4 i b hi hb)⟩
  · cases hk
theorem finK2_lcall {n : Nat} {P : Program} {g : FuncId} {S : CSpec} {O : List PTy} {ntO : Nat} {R : PTy} {args : List AVal} {B B' : Bx} {v : AVal} (hn : n ≤ S.O.length) (hn2 : n ≤ O.length) (hS2 : S.ok2 = true) (hT2 : (S.alt O ntO R).ok2 = true) (hl : LCall n P g args B v B') :
    (∀ r, finK2 S O ntO R v B' = some (.inl r) → LCall n P g args B (S.R.enc r.1) ⟨encs S.O r.2, [], S.ntO⟩) ∧ (∀ r, finK2 S O ntO R v B' = some (.inr r) → LCall n P g args B (R.enc r.1) ⟨encs O r.2, [], ntO⟩) := by
  refine ⟨fun r hr => ?_, fun r hr => ?_⟩
  · unfold finK2 at hr
    split at hr
    · rename_i q hq
      simp only [Option.some.injEq, Sum.inl.injEq] at hr
      subst hr
      exact fin_lcall hn hS2 hq hl
    · split at hr <;> cases hr
  · unfold finK2 at hr
    split at hr
    · cases hr
    · split at hr
      · rename_i q hq
        simp only [Option.some.injEq, Sum.inr.injEq] at hr
        subst hr
        exact fin_lcall (S := S.alt O ntO R) hn2 hT2 hq hl
      · cases hr
theorem alt_lcall {P : Program} {C : CalT} {Ls : List LoopT} {g : FuncId} {fn : Func} {c : Code} {S : CSpec} {O : List PTy} {ntO : Nat} {R : PTy} {f : S.In → Option (S.Out ⊕ (S.alt O ntO R).Out)} (hm : P.follows .mixedOrders = true) (hf : P.funcs[g]? = some fn) (hb : fn.body = some c) (hent : Ent P g) (hC : CV P C)
    (hL : LV S.I.length P false (loopsOf c) Ls) (hS : S.ok = true) (hS2 : S.ok2 = true) (hT : (S.alt O ntO R).ok = true) (hT2 : (S.alt O ntO R).ok2 = true) (hev : ∀ x, fnR P C Ls fn c (encs S.A x.1) ⟨encs S.I x.2, [], S.nt⟩ (finK2 S O ntO R) = f x) :
    (∀ x r, f x = some (.inl r) → LCall S.I.length P g (encs S.A x.1) ⟨encs S.I x.2, [], S.nt⟩ (S.R.enc r.1) ⟨encs S.O r.2, [], S.ntO⟩) ∧
      (∀ x r, f x = some (.inr r) → LCall S.I.length P g (encs S.A x.1) ⟨encs S.I x.2, [], S.nt⟩ (R.enc r.1) ⟨encs O r.2, [], ntO⟩) := by
  simp only [CSpec.ok, Bool.and_eq_true, decide_eq_true_eq] at hS hT
  refine ⟨fun x r hr => ?_, fun x r hr => ?_⟩
  all_goals
    obtain ⟨v, B', hk, hl⟩ := fnR_sound hm hf hb hent hC hL ((hev x).trans hr)
    have := finK2_lcall (n := S.I.length) hS.2 hT.2 hS2 hT2 hl
  · exact this.1 r hk
  · exact this.2 r hk
theorem alt_lcallE {P : Program} {ev : LoopT} {g : FuncId} {fn : Func} {c : Code} {S : CSpec} {O : List PTy} {ntO : Nat} {R : PTy} {f : S.In → Option (S.Out ⊕ (S.alt O ntO R).Out)} (hf : P.funcs[g]? = some fn) (hb : fn.body = some c) (hent : Ent P g) (hE : LValid S.I.length P c ev false)
    (hS : S.ok = true) (hS2 : S.ok2 = true) (hT : (S.alt O ntO R).ok = true) (hT2 : (S.alt O ntO R).ok2 = true) (hev : ∀ x, fnE ev P fn (encs S.A x.1) ⟨encs S.I x.2, [], S.nt⟩ (finK2 S O ntO R) = f x) :
    (∀ x r, f x = some (.inl r) → LCall S.I.length P g (encs S.A x.1) ⟨encs S.I x.2, [], S.nt⟩ (S.R.enc r.1) ⟨encs S.O r.2, [], S.ntO⟩) ∧
      (∀ x r, f x = some (.inr r) → LCall S.I.length P g (encs S.A x.1) ⟨encs S.I x.2, [], S.nt⟩ (R.enc r.1) ⟨encs O r.2, [], ntO⟩) := by
  simp only [CSpec.ok, Bool.and_eq_true, decide_eq_true_eq] at hS hT
  refine ⟨fun x r hr => ?_, fun x r hr => ?_⟩
  all_goals
    obtain ⟨v, B', hk, hl⟩ := fnE_sound hf hb hent hE ((hev x).trans hr)
    have := finK2_lcall (n := S.I.length) hS.2 hT.2 hS2 hT2 hl
  · exact this.1 r hk
  · exact this.2 r hk
def recF {In Out : Type} (body : (In → Option Out) → In → Option Out) : Nat → In → Option Out
  | 0, _ => none
  | n + 1, x => body (recF body n) x
theorem rec_valid {P : Program} {g : FuncId} {S : CSpec} {body : (S.In → Option S.Out) → S.In → Option S.Out} (hS : S.ok = true) (hent : Ent' P g)
    (h : ∀ rc, (boxE g S rc).Valid P → ∀ x r, body rc x = some r → LCall S.I.length P g (encs S.A x.1) ⟨encs S.I x.2, [], S.nt⟩ (S.R.enc r.1) ⟨encs S.O r.2, [], S.ntO⟩) : ∀ n, (boxE g S (recF body n)).Valid P
  | 0 => boxE_valid hS hent fun x r hr => by cases hr
  | n + 1 => boxE_valid hS hent (h _ (rec_valid hS hent h n))
end Go.Proofs.YtibmgbalfhfcdaaDoor.Abs
set_option linter.unusedVariables false
set_option linter.unusedSimpArgs false
namespace Go.Proofs.YtibmgbalfhfcdaaDoor.Abs
def PTy.fresh : PTy → Bool
  | .dat T => T.flat
  | .own _ T => T.flat
  | .cons h t => h.fresh && t.fresh
  | .nil => true
  | .tup p => p.fresh
  | _ => false
theorem enc_fresh {G G' : Gh} {d' : List Nat} (hi : ∀ t b n, G.own t = some (b, n) → ∀ row, G.imm b = some row → G'.imm b = some row) : {p : PTy} → p.fresh = true → (x : p.El) → (∀ cs, Rc G [] (p.enc x) cs → Rc G' d' (frzA (p.enc x)) cs) ∧ (∀ vs, Rl G [] (p.enc x) vs → Rl G' d' (frzA (p.enc x)) vs)
  | .dat T, h, x => ⟨fun cs hc => RD.flat (T := T) h hc, fun _ h => h⟩
  | .own t T, h, xs => ⟨fun cs hc => by
      obtain ⟨hr, A, cap, rfl, hor⟩ := hc
      obtain ⟨A', cap', e, hcap, hq⟩ := hr
      simp only [List.cons.injEq, Value.slice.injEq, and_true, true_and] at e
      obtain ⟨rfl, rfl⟩ := e
      refine ⟨A, cap, rfl, hcap, fun hne => ?_⟩
      obtain ⟨b, off, row, rfl, k1, k2, k3⟩ := hq hne
      rcases hor with hor | hor | ⟨b', row', e, ho, hm, _⟩
      · cases hor
      · exact absurd hor.1 hne
      · simp only [Option.some.injEq, Addr.mk.injEq] at e
        obtain ⟨rfl, rfl, _⟩ := e
        exact ⟨b, 0, row, rfl, hi t b _ ho row k1, k2, fun i x hx => RD.flat (T := T) h (k3 i x hx)⟩, fun _ h => h.elim⟩
  | .cons p q, h, x => by
    simp only [PTy.fresh, Bool.and_eq_true] at h
    have m1 := enc_fresh (d' := d') hi h.1 x.1
    have m2 := enc_fresh (d' := d') hi h.2 x.2
    exact ⟨fun cs h => by
      obtain ⟨c1, c2, rfl, h1, h2⟩ := h
      exact ⟨c1, c2, rfl, m1.1 _ h1, m2.1 _ h2⟩, fun vs h => by
      obtain ⟨v, l, rfl, ⟨cs, hc, hv⟩, hl⟩ := h
      exact ⟨v, l, rfl, ⟨cs, m1.1 _ hc, by rw [frzA_agg]; exact hv⟩, m2.2 _ hl⟩⟩
  | .nil, _, x => ⟨fun _ h => h, fun _ h => h⟩
  | .tup p, h, x => by
    have m1 := enc_fresh (p := p) (d' := d') hi h x
    exact ⟨fun cs h => by
      obtain ⟨l, rfl, hl⟩ := h
      exact ⟨l, rfl, m1.2 _ hl⟩, fun _ h => h⟩
  | .tbox _ _, h, _ | .optp _, h, _ | .siter, h, _ | .fnp _ _ _, h, _ | .any, h, _ | .fix _, h, _ | .map _ _, h, _ | .ip _, h, _ | .lp _ _ _, h, _ | .vec _ _ _, h, _ | .vrow _ _, h, _ => by simp [PTy.fresh] at h
def view2K {X : Type} (A : List PTy) (R : PTy) (f : Els A → Option R.El) (args : List AVal) (B : Bx) (k : AVal → Bx → Option X) : Option X :=
  bif args.length == A.length then
    match decs A (viewA B A args) with
    | some x => (f x.1).bind fun r => k (frzA (R.enc r)) B
    | none => none
  else none
theorem view2_sound {P : Program} {g : FuncId} {A : List PTy} {nt : Nat} {R : PTy} {f : Els A → Option R.El} (hA : A.all PTy.pure = true) (hR : R.fresh = true) (hent : Ent P g)
    (hcall : ∀ x r, f x = some r → LCall 0 P g (encs A x) ⟨[], [], 0⟩ (R.enc r) ⟨[], [], nt⟩)
    {X : Type} {args : List AVal} {B : Bx} {k : AVal → Bx → Option X} {res : X} (h : view2K A R f args B k = some res) : ∃ r, k (frzA (R.enc r)) B = some res ∧ ACall P g args B (frzA (R.enc r)) B := by
  unfold view2K at h
  cases hb : args.length == A.length with
  | false => rw [hb] at h; cases h
  | true =>
    rw [hb] at h
    simp only [cond_true] at h
    have hlen : args.length = A.length := by simpa using hb
    split at h
    · rename_i x hd
      obtain ⟨x, l⟩ := x
      cases hfx : f x with
      | none => simp only [hfx] at h; cases h
      | some r =>
        simp only [hfx, Option.bind_some] at h
        refine ⟨r, h, .inr hent, fun G w vs hvs hw => ?_⟩
        have hvs' := viewA_vals hw (ps := A) hvs
        let Gn : Gh := { imm := (frzG G w).imm, own := fun _ => none, addr := [] }
        have hr : ReTok (frzG G w) B.dead Gn 0 [] := ⟨rfl, by simp [Gn], fun k t h => by cases h⟩
        have hvn := decs_vals hr hA (by rw [viewA_len]; exact hlen) hd vs hvs'
        have hwn : WOk Gn ⟨[], [], 0⟩ w := ⟨rfl, List.nodup_nil, fun i b c h => by simp [Gn] at h, fun b row hb => by
          have hb' : (if b ∈ G.addr then (match w.heap[b]? with | some (.cells c _ _) => some c.toList | _ => none) else G.imm b) = some row := hb
          split at hb'
          · split at hb'
            · rename_i c e fr hc
              simp only [Option.some.injEq] at hb'
              exact ⟨c, e, fr, hc, by rw [hb']; exact List.prefix_refl _⟩
            · cases hb'
          · exact hw.imm b row hb', (fun b h => by cases h), (fun t b n h => by cases h), (fun t t' b n n' h => by cases h), fun q hq => ⟨(hw.tab q hq).1, (fun h => by cases h), (fun t n h => by cases h)⟩, fun i t T xs h => by simp at h⟩
        refine ((hcall x r hfx).2 Gn w vs hvn hwn).mono ?_
        rintro e w' ⟨cv, Gc, rfl, hcv, hwc, hext, _⟩
        have noown : ∀ b t n, Gn.own t ≠ some (b, n) := fun b t n h => by cases h
        have hsame : ∀ b, b < w.heap.size → b ∉ G.addr → Gc.imm b = G.imm b := fun b hb ha => by
          rw [hext.same b hb (noown b)]
          show (if b ∈ G.addr then _ else G.imm b) = _
          rw [if_neg ha]
        have hfr : ∀ b, b < w.heap.size → w'.heap[b]? = w.heap[b]? := fun b hb => hext.frame b hb (by simp [Gn]) (noown b)
        let Go : Gh := { G with imm := fun b => if b ∈ G.addr then none else Gc.imm b }
        have hGo : ∀ b, b ∉ G.addr → Go.imm b = Gc.imm b := fun b hb => by show (if b ∈ G.addr then none else Gc.imm b) = _; rw [if_neg hb]
        have hGi : ∀ b, b ∈ G.addr → Go.imm b = none := fun b hb => by show (if b ∈ G.addr then none else Gc.imm b) = _; rw [if_pos hb]
        have nota : ∀ b row, G.imm b = some row → b ∉ G.addr := fun b row hb hm => by rw [hw.disj b hm] at hb; cases hb
        have hle : ImmLe G.imm Go.imm := fun b row hb => by
          have hna := nota b row hb
          obtain ⟨row', h1, h2⟩ := hext.imm b row (by show (if b ∈ G.addr then _ else G.imm b) = _; rw [if_neg hna]; exact hb)
          exact ⟨row', by rw [hGo b hna]; exact h1, h2⟩
        have hgle : GLe G B.dead Go B.dead := ⟨hle, List.prefix_refl _, fun _ h => h, fun t b n _ ho => ⟨ho, fun row hi => by
          obtain ⟨_, _, cells, e, hh, _⟩ := hw.own t b n ho
          rw [hGo b (nota b row hi), hsame b (heap_lt hh) (nota b row hi)]; exact hi⟩⟩
        have hGs : ∀ b, b < w.heap.size → Go.imm b = G.imm b := fun b hb => by
          by_cases hm : b ∈ G.addr
          · rw [hGi b hm, hw.disj b hm]
          · rw [hGo b hm, hsame b hb hm]
        refine ⟨cv, Go, rfl, ?_, ?_, hgle, ?_⟩
        · obtain ⟨cs, h1, h2⟩ := hcv
          refine ⟨cs, (enc_fresh (G := Gc) (G' := Go) (fun t b n ho row hrow => ?_) hR r).1 cs h1, by rw [frzA_agg]; exact h2⟩
          have hge : w.heap.size ≤ b := by
            rcases hext.own t b n ho with ⟨t', ht'⟩ | h
            · exact absurd ht' (noown b t' n)
            · exact h
          rw [hGo b (fun hm => by have := hw.addr_lt hm; omega)]
          exact hrow
        · refine ⟨hw.len, hw.nodup, fun i b c hib hc => ?_, fun b row hb => ?_, fun b hb => hGi b hb, fun t b n ht => ?_, hw.inj, fun q hq => ⟨(hwc.tab q hq).1, (hw.tab q hq).2⟩, ?_⟩
          · have hbo := hw.boxes i b c hib hc
            obtain ⟨o', cs, k1, _, _⟩ := id hbo
            exact hbo.mono hgle (hfr b (heap_lt k1))
          · have hna : b ∉ G.addr := fun hm => by rw [hGi b hm] at hb; cases hb
            rw [hGo b hna] at hb
            exact hwc.imm b row hb
          · obtain ⟨k1, k2, cells, e, k3, k4⟩ := hw.own t b n ht
            exact ⟨k1, k2.of (hGs b (heap_lt k3)) fun i c e1 e2 => .inr ⟨i, c, e1, e2, fun h => h⟩, cells, e, by rw [hfr b (heap_lt k3)]; exact k3, k4.1, by rw [hGs b (heap_lt k3)]; exact k4.2⟩
          · refine hw.vec.mono (fun _ _ _ _ hx => hx) (fun _ h => .inl h) (fun t b n _ h1 h2 => ?_) hle
            obtain ⟨_, _, cells, e, k3, _⟩ := hw.own t b n h1
            exact ⟨h1, by rw [hGs b (heap_lt k3)]; exact h2, hfr b (heap_lt k3)⟩
        · refine ⟨hext.os, hext.tape, hext.output, hext.size, fun b hb _ _ => hfr b hb, hle, fun b hb _ => ?_, fun b hb => .inl hb, fun t b n ht => .inl ⟨t, ht⟩⟩
          by_cases hm : b ∈ G.addr
          · rw [hGi b hm, hw.disj b hm]
          · rw [hGo b hm, hsame b hb hm]
    · cases h
def view2E (g : FuncId) (A : List PTy) (R : PTy) (f : Els A → Option R.El) : CEnt := ⟨g, fun args B => args.length == A.length && (match decs A (viewA B A args) with | some _ => true | none => false), fun _ args B k => view2K A R f args B k, true, false⟩
theorem view2K_at {X : Type} {A : List PTy} {R : PTy} {f : Els A → Option R.El} {args : List AVal} {B : Bx} {k : AVal → Bx → Option X} {res : X} (h : view2K A R f args B k = some res) : ∃ q, k (frzA (R.enc q)) B = some res ∧ ∀ B0, Sim B B0 → view2K A R f args B0 (fun v _ => some v) = some (frzA (R.enc q)) := by
  have hv : ∀ B0, Sim B B0 → viewA B0 A args = viewA B A args := fun B0 hs => viewA_sim hs
  unfold view2K at h ⊢
  cases hb : args.length == A.length with
  | false => rw [hb] at h; cases h
  | true =>
    rw [hb] at h
    simp only [cond_true] at h ⊢
    split at h
    · rename_i x hd
      cases hf : f x.1 with
      | none => rw [hf] at h; cases h
      | some q =>
        rw [hf] at h
        refine ⟨q, h, fun B0 hs => ?_⟩
        rw [hv B0 hs, hd]
        simp only [hf]
        rfl
    · cases h
theorem view2E_valid {P : Program} {g : FuncId} {A : List PTy} {nt : Nat} {R : PTy} {f : Els A → Option R.El} (hA : A.all PTy.pure = true) (hR : R.fresh = true) (hent : Ent P g)
    (hcall : ∀ x r, f x = some r → LCall 0 P g (encs A x) ⟨[], [], 0⟩ (R.enc r) ⟨[], [], nt⟩) : (view2E g A R f).Valid P := by
  intro X args B k r h
  obtain ⟨q, h1, h2⟩ := view2K_at h
  have hac : ∀ B0, Sim B B0 → ACall P g args B0 (frzA (R.enc q)) B0 := fun B0 hs => by
    obtain ⟨q', e, hac⟩ := view2_sound hA hR hent hcall (h2 B0 hs)
    simp only [Option.some.injEq] at e
    rw [e] at hac
    exact hac
  exact ⟨_, _, h1, hac B (Sim.refl _), (fun _ => ⟨rfl, hac⟩), (fun h => by cases h), Nat.le_refl _⟩
def finO (A : List PTy) (nt : Nat) (R : PTy) (v : AVal) (B : Bx) : Option R.El := match finK ⟨A, [], 0, [], nt, R⟩ v B with
  | some q => some q.1
  | none => none
theorem finO_lcall {P : Program} {g : FuncId} {A : List PTy} {nt : Nat} {R : PTy} {args : List AVal} {B B' : Bx} {v : AVal} {r : R.El} (hS2 : SPat.ok ⟨[R], [], nt⟩ = true) (hk : finO A nt R v B' = some r) (hl : LCall 0 P g args B v B') : LCall 0 P g args B (R.enc r) ⟨[], [], nt⟩ := by
  unfold finO at hk
  split at hk
  · rename_i q hq
    simp only [Option.some.injEq] at hk
    subst hk
    exact fin_lcall (S := ⟨A, [], 0, [], nt, R⟩) (Nat.le_refl _) hS2 hq hl
  · cases hk
theorem own_lcall {P : Program} {C : CalT} {Ls : List LoopT} {g : FuncId} {fn : Func} {c : Code} {A : List PTy} {nt : Nat} {R : PTy} {f : Els A → Option R.El} (hm : P.follows .mixedOrders = true) (hf : P.funcs[g]? = some fn) (hb : fn.body = some c) (hent : Ent P g) (hC : CV P C)
    (hL : LV 0 P false (loopsOf c) Ls) (hS2 : SPat.ok ⟨[R], [], nt⟩ = true) (hev : ∀ x, fnR P C Ls fn c (encs A x) ⟨[], [], 0⟩ (finO A nt R) = f x) :
    ∀ x r, f x = some r → LCall 0 P g (encs A x) ⟨[], [], 0⟩ (R.enc r) ⟨[], [], nt⟩ := by
  intro x r hr
  obtain ⟨v, B', hk, hl⟩ := fnR_sound (n := 0) hm hf hb hent hC hL ((hev x).trans hr)
  exact finO_lcall hS2 hk hl
theorem own_lcallE {P : Program} {ev : LoopT} {g : FuncId} {fn : Func} {c : Code} {A : List PTy} {nt : Nat} {R : PTy} {f : Els A → Option R.El} (hf : P.funcs[g]? = some fn) (hb : fn.body = some c) (hent : Ent P g) (hE : LValid 0 P c ev false)
    (hS2 : SPat.ok ⟨[R], [], nt⟩ = true) (hev : ∀ x, fnE ev P fn (encs A x) ⟨[], [], 0⟩ (finO A nt R) = f x) :
    ∀ x r, f x = some r → LCall 0 P g (encs A x) ⟨[], [], 0⟩ (R.enc r) ⟨[], [], nt⟩ := by
  intro x r hr
  obtain ⟨v, B', hk, hl⟩ := fnE_sound (n := 0) hf hb hent hE ((hev x).trans hr)
  exact finO_lcall hS2 hk hl
end Go.Proofs.YtibmgbalfhfcdaaDoor.Abs
