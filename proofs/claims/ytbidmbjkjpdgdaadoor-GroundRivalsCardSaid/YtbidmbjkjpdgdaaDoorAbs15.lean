/-
  The abstract semantics, fifteenth part: regions, in the text's order.
-/
import Derived.Test.YtbidmbjkjpdgdaaDoorAbs14
set_option linter.unusedVariables false
set_option linter.unusedSimpArgs false
namespace Go.Proofs.YtbidmbjkjpdgdaaDoor.Abs

def guardTmp (ops : Array Oper) (j : Nat) : Option Tmp := (ops[j]?).bind (·.dst)
/-- Whether an operation is carried out. -/
def wantedA (ops : Array Oper) (env : List AVal) (o : Oper) : Option Bool :=
  match o.guard with
  | none => some true
  | some (j, want) => match guardTmp ops j with
    | some t => match env.getD t .any with
      | .d .bool b => some (b == want)
      | .tuple .nil => some false
      | _ => none
    | none => none

theorem wantedA_spec {G : Gh} {dead : List Nat} {ops : Array Oper} {env : List AVal} {tm : Array Value} {o : Oper} {b : Bool} (he : EnvOk G dead env tm) (h : wantedA ops env o = some b) : Region.wanted o (yielded ops tm) = b := by
  unfold wantedA at h
  unfold Region.wanted
  split at h
  · rename_i hg
    simp only [Option.some.injEq] at h
    rw [hg, ← h]
  · rename_i j want hg
    rw [hg]
    split at h
    · rename_i t ht
      split at h
      · rename_i c hc
        simp only [Option.some.injEq] at h
        have hv := he.val t
        rw [hc] at hv
        have hb := bool_form hv
        have ht' : (ops[j]?).bind (·.dst) = some t := ht
        have hy : yielded ops tm j = some c := by
          unfold yielded
          rw [ht']
          have : tm[t]? = some (.bool c) := by
            rw [Array.getD_eq_getD_getElem?] at hb
            cases hq : tm[t]? with
            | none => rw [hq] at hb; simp [undef] at hb
            | some q => rw [hq] at hb; simp at hb; rw [hb]
          simp [this]
        simp only [hy, ← h]
        cases c <;> cases want <;> rfl
      · rename_i hc
        simp only [Option.some.injEq] at h
        have hv := he.val t
        rw [hc] at hv
        obtain ⟨cs, ⟨l, rfl, hl⟩, hh | hh⟩ := hv
        · cases hh.1
        · have hl : l = [] := hl
          subst hl
          have hb : tm.getD t undef = .tuple #[] := by simpa using hh.2.symm
          have ht' : (ops[j]?).bind (·.dst) = some t := ht
          have hy : yielded ops tm j = none := by
            unfold yielded
            rw [ht']
            show (match tm[t]? with | some (.bool b) => some b | _ => none) = none
            rw [Array.getD_eq_getD_getElem?] at hb
            cases hq : tm[t]? with
            | none => rfl
            | some q => rw [hq] at hb; simp at hb; rw [hb]
          simp only [hy, ← h]
          cases want <;> rfl
      · cases h
    · cases h

/-- A region, operation by operation. -/
def regR (P : Program) (C : CalT) {X : Type} (ops : Array Oper) : List Oper → List AVal → Bx → (List AVal → Bx → Option X) → Option X
  | [], env, B, k => k env B
  | o :: rest, env, B, k =>
    match o.guard with
    | none => opR P C o (opA env) B fun v B' => regR P C ops rest (setA env o.dst v) B' k
    | some (j, want) => match guardTmp ops j with
      | some t => match env.getD t .any with
        | .d .bool b =>
          bif b then
            (bif want then opR P C o (opA (env.set t (.d .bool true))) B fun v B' => regR P C ops rest (setA (env.set t (.d .bool true)) o.dst v) B' k
             else regR P C ops rest (setA (env.set t (.d .bool true)) o.dst (.tuple .nil)) B k)
          else
            (bif want then regR P C ops rest (setA (env.set t (.d .bool false)) o.dst (.tuple .nil)) B k
             else opR P C o (opA (env.set t (.d .bool false))) B fun v B' => regR P C ops rest (setA (env.set t (.d .bool false)) o.dst v) B' k)
        | .tuple .nil => regR P C ops rest (setA env o.dst (.tuple .nil)) B k
        | _ => none
      | none => none

inductive Tr (P : Program) (C : CalT) (ops : Array Oper) : List Oper → List AVal → Bx → List AVal → Bx → Prop where
  | nil {env B} : Tr P C ops [] env B env B
  | run {o rest env B v B' env' B''} : wantedA ops env o = some true → OpQ P C o (opA env) B v B' →
      Tr P C ops rest (setA env o.dst v) B' env' B'' → Tr P C ops (o :: rest) env B env' B''
  | skip {o rest env B env' B''} : wantedA ops env o = some false → Tr P C ops rest (setA env o.dst (.tuple .nil)) B env' B'' → Tr P C ops (o :: rest) env B env' B''

theorem set_same {env : List AVal} {t : Nat} {x : AVal} (h : env.getD t .any = x) (hx : x ≠ .any) : env.set t x = env := by
  have hl : t < env.length := by
    rcases Nat.lt_or_ge t env.length with h1 | h1
    · exact h1
    · rw [List.getD_eq_getElem?_getD, List.getElem?_eq_none h1] at h
      exact absurd h.symm hx
  apply List.ext_getElem?
  intro i
  rw [List.getElem?_set]
  split
  · subst_vars
    first
      | (rw [List.getD_eq_getElem?_getD, List.getElem?_eq_getElem hl]; rfl)
      | (rw [if_pos hl, List.getD_eq_getElem?_getD, List.getElem?_eq_getElem hl]; rfl)
  · rfl

theorem regR_tr {P : Program} {C : CalT} {X : Type} {ops : Array Oper} {k : List AVal → Bx → Option X} {r : X} (hC : CV P C) : {l : List Oper} → {env : List AVal} → {B : Bx} → regR P C ops l env B k = some r → ∃ env' B', Tr P C ops l env B env' B' ∧ k env' B' = some r
  | [], env, B, h => ⟨env, B, .nil, h⟩
  | o :: rest, env, B, h => by
    simp only [regR] at h
    have go : ∀ env, wantedA ops env o = some true → (opR P C o (opA env) B fun v B' => regR P C ops rest (setA env o.dst v) B' k) = some r → ∃ env' B', Tr P C ops (o :: rest) env B env' B' ∧ k env' B' = some r := by
      intro env hw h
      obtain ⟨v, B', h1, h2⟩ := opR_sound (ρ := opA env) hC (fun _ => rfl) h
      obtain ⟨env', B'', h5, h6⟩ := regR_tr hC h1
      exact ⟨env', B'', .run hw h2 h5, h6⟩
    have no : ∀ env, wantedA ops env o = some false → regR P C ops rest (setA env o.dst (.tuple .nil)) B k = some r → ∃ env' B', Tr P C ops (o :: rest) env B env' B' ∧ k env' B' = some r := by
      intro env hw h
      obtain ⟨env', B'', h5, h6⟩ := regR_tr hC h
      exact ⟨env', B'', .skip hw h5, h6⟩
    split at h
    · rename_i hg
      exact go env (by simp [wantedA, hg]) h
    · rename_i j want hg
      split at h
      · rename_i t ht
        split at h
        · rename_i b hb
          have hs := set_same hb (by simp)
          have hwa : wantedA ops env o = some (b == want) := by
            unfold wantedA
            rw [hg]
            simp only
            rw [ht]
            simp only
            rw [hb]
          cases b <;> cases want <;> simp only [cond_true, cond_false] at h <;> rw [hs] at h
          · exact go env hwa h
          · exact no env hwa h
          · exact no env hwa h
          · exact go env hwa h
        · rename_i hb
          refine no env ?_ h
          unfold wantedA
          rw [hg]
          simp only
          rw [ht]
          simp only
          rw [hb]
        · cases h
      · cases h

/-- The marks of the ranges over functions that have been, among what is yet to be done at the function's end. -/
def Marks (G : Gh) (w : World) : List Deferred → Prop
  | [] => True
  | d :: ds => (∃ D, d.target = .collected D ∧ w.heap[D]? = some (.deferred (some [])) ∧ D ∉ G.addr ∧ (∀ t n, G.own t ≠ some (D, n)) ∧ ∀ d' ∈ ds, d'.target ≠ .collected D) ∧ Marks G w ds
theorem Marks.ext {G G' : Gh} {w w' : World} : {ds : List Deferred} → Marks G w ds → Ext G w G' w' → Marks G' w' ds
  | [], _, _ => trivial
  | d :: ds, ⟨⟨D, h1, h2, h3, h4, h5⟩, h6⟩, x => by
    have hlt : D < w.heap.size := heap_lt h2
    refine ⟨⟨D, h1, by rw [x.frame D hlt h3 h4]; exact h2, fun hm => ?_, fun t n hn => ?_, h5⟩, h6.ext x⟩
    · rcases x.addr D hm with hm | hm
      · exact h3 hm
      · omega
    · rcases x.own t D n hn with ⟨t', ht⟩ | hm
      · exact h4 t' n ht
      · omega
/-- A state is one that an abstract state stands for. -/
structure Ok (G : Gh) (B : Bx) (env : List AVal) (a : Act) (wd : World) : Prop where
  env : EnvOk G B.dead env a.tmps
  w : WOk G B wd
  marks : Marks G wd a.defers
/-- From a state to another one; the first boxes stay. -/
structure Goes (n : Nat) (G : Gh) (a : Act) (w : World) (G' : Gh) (B' : Bx) (env' : List AVal) (a' : Act) (w' : World) : Prop where
  ok : Ok G' B' env' a' w'
  ext : Ext G w G' w'
  defers : ∀ d ∈ a'.defers, d ∈ a.defers ∨ ∃ D, d.target = .collected D ∧ w.heap.size ≤ D
  held : ∀ i b, i < n → G.addr[i]? = some b → G'.addr[i]? = some b
theorem Goes.trans {n : Nat} {G G1 G2 : Gh} {B1 B2 : Bx} {e1 e2 : List AVal} {a a1 a2 : Act} {w w1 w2 : World} (h : Goes n G a w G1 B1 e1 a1 w1) (k : Goes n G1 a1 w1 G2 B2 e2 a2 w2) : Goes n G a w G2 B2 e2 a2 w2 :=
  ⟨k.ok, h.ext.trans k.ext, fun d hd => by
    rcases k.defers d hd with hd | ⟨D, h1, h2⟩
    · exact h.defers d hd
    · exact .inr ⟨D, h1, Nat.le_trans h.ext.size h2⟩, fun i b hi hb => k.held i b hi (h.held i b hi hb)⟩
theorem Goes.refl {n : Nat} {G : Gh} {B : Bx} {env : List AVal} {a : Act} {w : World} (h : Ok G B env a w) : Goes n G a w G B env a w := ⟨h, Ext.refl _ _, fun _ hd => .inl hd, fun _ _ _ h => h⟩
theorem put_defers' (a : Act) (d : Option Tmp) (v : Value) : (a.put d v).defers = a.defers := by cases d <;> rfl

theorem undef_v (G : Gh) (dead : List Nat) : Rv G dead (.tuple .nil) undef := leaf_v (a := .tuple .nil) rfl ⟨[], rfl, rfl⟩
theorem tr_list {P : Program} {C : CalT} {ops : Array Oper} : {l : List Oper} → {env env' : List AVal} → {B B' : Bx} → Tr P C ops l env B env' B' → ∀ {n : Nat} {G : Gh} {a : Act} {w : World} {Q : Exit → Act → World → Prop} (r : Option Nat), Ok G B env a w →
    (∀ G1 a1 w1, Goes n G a w G1 B' env' a1 w1 → Q .normal a1 w1) → wpListIn (Fr r) 0 P ops Q l a w
  | _, _, _, _, _, .nil, n, G, a, w, Q, r, hok, hQ => hQ G a w (Goes.refl hok)
  | _, _, _, _, _, .run (o := o) (rest := rest) hw hop ht, n, G, a, w, Q, r, hok, hQ => by
    unfold wpListIn
    rw [if_pos (wantedA_spec hok.env hw)]
    refine hop.op G a w (fun x _ => hok.env.op x) hok.w _ Q (fun cv G1 w1 h1 h2 h3 h4 => ?_) r
    have hok1 : Ok G1 _ _ (a.put o.dst cv) w1 := ⟨(hok.env.mono h3).put o.dst h1, h2, by rw [put_defers']; exact hok.marks.ext h4⟩
    exact tr_list ht r hok1 fun G2 a2 w2 h => hQ G2 a2 w2 (Goes.trans ⟨hok1, h4, (fun d hd => .inl (by rw [put_defers'] at hd; exact hd)), fun i b _ hb => prefix_getElem? h3.addr hb⟩ h)
  | _, _, _, _, _, .skip (o := o) (rest := rest) hw ht, n, G, a, w, Q, r, hok, hQ => by
    unfold wpListIn
    rw [if_neg (by rw [wantedA_spec hok.env hw]; simp)]
    have hok1 : Ok G _ _ (a.put o.dst undef) w := ⟨hok.env.put o.dst (undef_v G _), hok.w, by rw [put_defers']; exact hok.marks⟩
    exact ⟨fun _ _ => trivial, tr_list ht r hok1 fun G2 a2 w2 h => hQ G2 a2 w2 (Goes.trans ⟨hok1, Ext.refl _ _, (fun d hd => .inl (by rw [put_defers'] at hd; exact hd)), fun _ _ _ h => h⟩ h)⟩

end Go.Proofs.YtbidmbjkjpdgdaaDoor.Abs
