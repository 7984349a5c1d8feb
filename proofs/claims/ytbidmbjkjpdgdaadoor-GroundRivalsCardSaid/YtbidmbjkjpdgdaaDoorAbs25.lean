/-
  The abstract semantics, twenty-fifth part: tables of the functions that are called.
-/
import Derived.Test.YtbidmbjkjpdgdaaDoorAbs24
set_option linter.unusedVariables false
set_option linter.unusedSimpArgs false
namespace Go.Proofs.YtbidmbjkjpdgdaaDoor.Abs

/-- A function that may be called. -/
structure CEnt where
  g : FuncId
  ok : List AVal → Bx → Bool
  run : (X : Type) → List AVal → Bx → (AVal → Bx → Option X) → Option X
  ro : Bool
  any : Bool
def CEnt.Valid (P : Program) (e : CEnt) : Prop := ∀ (X : Type) (args : List AVal) (B : Bx) (k : AVal → Bx → Option X) (r : X), e.run X args B k = some r → ∃ v B', k v B' = some r ∧ ACall P e.g args B v B' ∧ (e.ro = true → B' = B ∧ ∀ B0, Sim B B0 → ACall P e.g args B0 v B0) ∧ (e.any = true → ∀ B0, ACall P e.g args B0 v B0) ∧ B.box.length ≤ B'.box.length
def tabGo {X : Type} (g : FuncId) (args : List AVal) (B : Bx) (k : AVal → Bx → Option X) : List CEnt → Option X
  | [] => none
  | e :: l => bif e.g == g && e.ok args B then e.run X args B k else tabGo g args B k l
def roGo (g : FuncId) : List CEnt → Bool
  | [] => true
  | e :: l => (bif e.g == g then e.ro else true) && roGo g l
def anyGo (g : FuncId) : List CEnt → Bool
  | [] => true
  | e :: l => (bif e.g == g then e.any else true) && anyGo g l
def tabC (l : List CEnt) : CalT := ⟨fun _ g args B k => tabGo g args B k l, fun g => roGo g l, fun g => anyGo g l, false⟩
def AllV (P : Program) : List CEnt → Prop
  | [] => True
  | e :: l => e.Valid P ∧ AllV P l
theorem tabC_valid {P : Program} {l : List CEnt} (h : AllV P l) : CV P (tabC l) := by
  intro X g args B k r hr
  have main : ∀ l, AllV P l → tabGo g args B k l = some r → ∃ v B', k v B' = some r ∧ ACall P g args B v B' ∧ (roGo g l = true → B' = B ∧ ∀ B0, Sim B B0 → ACall P g args B0 v B0) ∧ (anyGo g l = true → ∀ B0, ACall P g args B0 v B0) ∧ B.box.length ≤ B'.box.length := by
    intro l
    induction l with
    | nil => intro _ h; cases h
    | cons e l ih =>
      intro hv h
      simp only [tabGo] at h
      cases hb : e.g == g && e.ok args B with
      | true =>
        simp only [hb, cond_true] at h
        simp only [Bool.and_eq_true] at hb
        have he : e.g = g := by simpa using hb.1
        obtain ⟨v, B', h1, h2, h3, h5, h6⟩ := hv.1 X args B k r h
        rw [he] at h2 h3 h5
        refine ⟨v, B', h1, h2, fun h4 => h3 ?_, fun h4 => h5 ?_, h6⟩
        · simp only [roGo, hb.1, cond_true, Bool.and_eq_true] at h4
          exact h4.1
        · simp only [anyGo, hb.1, cond_true, Bool.and_eq_true] at h4
          exact h4.1
      | false =>
        simp only [hb, cond_false] at h
        obtain ⟨v, B', h1, h2, h3, h5, h6⟩ := ih hv.2 h
        refine ⟨v, B', h1, h2, fun h4 => h3 ?_, fun h4 => h5 ?_, h6⟩
        · simp only [roGo, Bool.and_eq_true] at h4
          exact h4.2
        · simp only [anyGo, Bool.and_eq_true] at h4
          exact h4.2
  obtain ⟨v, B', h1, h2, h3, h5, h6⟩ := main l h hr
  exact ⟨v, B', h1, h2, h3, h5, h6⟩


def fits (S : CSpec) (args : List AVal) (B : Bx) : Bool :=
  let sel := selA S args B
  let fb := fun b => idxIn b sel
  nodupB sel && sel.length == S.I.length && args.length == S.A.length &&
    match SPat.dec ⟨S.A, S.I, S.nt⟩ (args.map fun a => a.ren fb id) ⟨sel.map fun b => (B.box.getD b .any).ren fb id, B.dead, B.nt⟩ with
    | some _ => true
    | none => false

def pureE (g : FuncId) (A : List PTy) (R : PTy) (f : Els A → Option R.El) : CEnt := ⟨g, fun args B => fits (pureS A R) args B, fun _ args B k => pureK A R f args B k, true, true⟩
def boxE (g : FuncId) (S : CSpec) (f : S.In → Option S.Out) : CEnt := ⟨g, fun args B => fits S args B, fun _ args B k => callK S f args B k, false, false⟩
def viewE (g : FuncId) (A : List PTy) (R : PTy) (f : Els A → Option R.El) : CEnt := ⟨g, fun args B => args.length == A.length && (match decs A (viewA B A args) with | some _ => true | none => false), fun _ args B k => viewK A R f args B k, true, false⟩

theorem pureK_at {X : Type} {A : List PTy} {R : PTy} {f : Els A → Option R.El} {args : List AVal} {B : Bx} {k : AVal → Bx → Option X} {res : X} (h : pureK A R f args B k = some res) : ∃ q, k (R.enc q) B = some res ∧ ∀ B0, pureK A R f args B0 (fun v _ => some v) = some (R.enc q) := by
  unfold pureK at h ⊢
  cases hb : args.length == A.length with
  | false => rw [hb] at h; cases h
  | true =>
    rw [hb] at h
    simp only [cond_true] at h ⊢
    split at h
    · rename_i x hd
      cases hf : f x.1 with
      | none => rw [hf] at h; cases h
      | some q =>
        rw [hf] at h
        exact ⟨q, h, fun B0 => rfl⟩
    · cases h
theorem pureE_valid {P : Program} {g : FuncId} {A : List PTy} {R : PTy} {f : Els A → Option R.El} (hA : A.all PTy.pure = true) (hR : R.pure = true) (hent : Ent P g)
    (hcall : ∀ x r, f x = some r → LCall 0 P g (encs A x) ⟨[], [], 0⟩ (R.enc r) ⟨[], [], 0⟩) : (pureE g A R f).Valid P := by
  intro X args B k r h
  obtain ⟨q, h1, h2⟩ := pureK_at h
  have hac : ∀ B0, ACall P g args B0 (R.enc q) B0 := fun B0 => by
    obtain ⟨q', e, hac⟩ := pure_sound hA hR hent hcall (h2 B0)
    simp only [Option.some.injEq] at e
    rw [e] at hac
    exact hac
  exact ⟨_, _, h1, hac B, fun _ => ⟨rfl, fun B0 _ => hac B0⟩, fun _ => hac, Nat.le_refl _⟩
theorem boxE_valid {P : Program} {g : FuncId} {S : CSpec} {f : S.In → Option S.Out} (hS : S.ok = true) (hent : Ent' P g)
    (hcall : ∀ x r, f x = some r → LCall S.I.length P g (encs S.A x.1) ⟨encs S.I x.2, [], S.nt⟩ (S.R.enc r.1) ⟨encs S.O r.2, [], S.ntO⟩) : (boxE g S f).Valid P := by
  intro X args B k r h
  obtain ⟨q, h1, h2⟩ := call_sound hS hent hcall h
  exact ⟨_, _, h1, h2, (fun h => by cases h), (fun h => by cases h), by simp only [callB, List.length_append, setSel_len]; omega⟩
theorem viewA_sim {B B0 : Bx} (hs : Sim B B0) : {ps : List PTy} → {az : List AVal} → viewA B0 ps az = viewA B ps az
  | [], az => by cases az <;> rfl
  | p :: ps, [] => rfl
  | p :: ps, a :: az => by
    have : viewOne B0 p a = viewOne B p a := by unfold viewOne; rw [hs.1]
    simp only [viewA, this, viewA_sim hs (ps := ps) (az := az)]
theorem viewK_at {X : Type} {A : List PTy} {R : PTy} {f : Els A → Option R.El} {args : List AVal} {B : Bx} {k : AVal → Bx → Option X} {res : X} (h : viewK A R f args B k = some res) : ∃ q, k (R.enc q) B = some res ∧ ∀ B0, Sim B B0 → viewK A R f args B0 (fun v _ => some v) = some (R.enc q) := by
  have hv : ∀ B0, Sim B B0 → viewA B0 A args = viewA B A args := fun B0 hs => viewA_sim hs
  unfold viewK at h ⊢
  cases hb : args.length == A.length with
  | false => rw [hb] at h; cases h
  | true =>
    rw [hb] at h
    simp only [cond_true] at h ⊢
    split at h
    · rename_i x hd
      cases hf : f x.1 with
      | none => rw [hf] at h; cases h
      | some q =>
        rw [hf] at h
        refine ⟨q, h, fun B0 hs => ?_⟩
        rw [hv B0 hs, hd]
        simp only [hf]
        rfl
    · cases h
theorem viewE_valid {P : Program} {g : FuncId} {A : List PTy} {R : PTy} {f : Els A → Option R.El} (hA : A.all PTy.pure = true) (hR : R.flat = true) (hent : Ent P g)
    (hcall : ∀ x r, f x = some r → LCall 0 P g (encs A x) ⟨[], [], 0⟩ (R.enc r) ⟨[], [], 0⟩) : (viewE g A R f).Valid P := by
  intro X args B k r h
  obtain ⟨q, h1, h2⟩ := viewK_at h
  have hac : ∀ B0, Sim B B0 → ACall P g args B0 (R.enc q) B0 := fun B0 hs => by
    obtain ⟨q', e, hac⟩ := view_sound hA hR hent hcall (h2 B0 hs)
    simp only [Option.some.injEq] at e
    rw [e] at hac
    exact hac
  exact ⟨_, _, h1, hac B (Sim.refl _), (fun _ => ⟨rfl, hac⟩), (fun h => by cases h), Nat.le_refl _⟩

def loopAt (c : Code) (i : Nat) : Code := match (loopsOf c)[i]? with
  | some (.loop b) => b
  | _ => .skip
def bodyOf (f : Func) : Code := f.body.getD .skip
/-- A loop of which nothing is known. -/
def noL : LoopT := ⟨fun _ _ _ _ => none⟩
theorem noL_valid {n : Nat} {P : Program} {c : Code} {rd : Bool} : LValid n P c noL rd := fun _ _ _ _ _ h => by cases h
def pureF (R : PTy) (v : AVal) (B : Bx) : Option R.El := match R.dec v with
  | some y => some y.1
  | none => none

end Go.Proofs.YtbidmbjkjpdgdaaDoor.Abs
