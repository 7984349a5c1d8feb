import Derived.Test.YtibmgbalfhfcdaaDoorP1
set_option linter.unusedVariables false
set_option linter.unusedSimpArgs false
set_option maxRecDepth 100000
namespace Go.Proofs.YtibmgbalfhfcdaaDoor.Abs
open Classical
inductive Feed {U : Type} (E : Nat → Prop) (V : Nat → U → Bool → U → Prop) : List Nat → U → Bool → U → Prop
  | nil (u : U) : Feed E V [] u true u
  | skip {b : Nat} {bs : List Nat} {u u' : U} {r : Bool} : ¬ E b → Feed E V bs u r u' → Feed E V (b :: bs) u r u'
  | go {b : Nat} {bs : List Nat} {u u1 u' : U} {r : Bool} : E b → V b u true u1 → Feed E V bs u1 r u' → Feed E V (b :: bs) u r u'
  | stop {b : Nat} {bs : List Nat} {u u' : U} : E b → V b u false u' → Feed E V (b :: bs) u false u'
theorem Feed.app {U : Type} {E : Nat → Prop} {V : Nat → U → Bool → U → Prop} {xs ys : List Nat} {u u1 u' : U} {r r' : Bool} (h : Feed E V xs u r u1) (hr : r = true) (h' : Feed E V ys u1 r' u') : Feed E V (xs ++ ys) u r' u' := by
  induction h with
  | nil u => exact h'
  | skip a _ ih => exact .skip a (ih hr h')
  | go a b _ ih => exact .go a b (ih hr h')
  | stop _ _ => cases hr
theorem Feed.cut {U : Type} {E : Nat → Prop} {V : Nat → U → Bool → U → Prop} {xs : List Nat} (ys : List Nat) {u u' : U} {r : Bool} (h : Feed E V xs u r u') (hr : r = false) : Feed E V (xs ++ ys) u false u' := by
  induction h with
  | nil u => cases hr
  | skip a _ ih => exact .skip a (ih hr)
  | go a b _ ih => exact .go a b (ih hr)
  | stop a b => exact .stop a b
def srchStp {B : Type} (n : Nat) (rc : (Int × (Int × (Int × Unit))) × B → Option (Bool × B)) (s : (Int × (Int × (Bool × (Int × Unit)))) × B) : Option (Nat × ((Int × (Int × (Bool × (Int × Unit)))) × B)) :=
  bif decide (s.1.2.2.2.1 < (n : Int)) then
    (bif (!decide (s.1.2.2.2.1 < 0)) then
      (Option.bind (rc ((IntKind.wrap .i64 (s.1.1 - 1), (IntKind.wrap .i64 (s.1.2.2.2.1 + 1), (IntKind.wrap .i64 ((BitVec.toNat ((BitVec.ofInt (IntKind.bits .i64) s.1.2.1) ||| (BitVec.ofInt (IntKind.bits .i64) (IntKind.wrap .i64 (1 * 2 ^ (min (Int.toNat s.1.2.2.2.1) (IntKind.bits .i64)))))) : Nat) : Int), ()))), s.2)) fun r4 =>
        (bif (!r4.1) then some (1, ((s.1.1, (s.1.2.1, (false, (s.1.2.2.2.1, ())))), r4.2))
        else some (0, ((s.1.1, (s.1.2.1, (s.1.2.2.1, (IntKind.wrap .i64 (s.1.2.2.2.1 + 1), ())))), r4.2))))
    else none)
  else some (2, s)
structure Srch {B U : Type} (n : Nat) (OK : List (E56 × E94) → Prop) (Pre : Nat → U → Prop) (E : Nat → Prop) (V : Nat → U → Bool → U → Prop) (pk : List (E56 × E94) → U → B) (fx : Nat → (Int × (Int × (Int × Unit))) × B → Option (Bool × B)) (stp : ((Int × (Int × (Int × Unit))) × B → Option (Bool × B)) → ((Int × (Int × (Bool × (Int × Unit)))) × B) → Option (Nat × ((Int × (Int × (Bool × (Int × Unit)))) × B))) : Prop where
  hn : n ≤ 20
  base : ∀ f (from_ : Int) now M u k, low now n → OK M → Pre (k + 1) u → ∃ r u' M', fx (f + 1) ((0, (from_, ((now : Nat), ()))), pk M u) = some (r, pk M' u') ∧ OK M' ∧ ((¬ E now ∧ r = true ∧ u' = u) ∨ (E now ∧ V now u r u'))
  pre : ∀ b u u' k, V b u true u' → Pre (k + 1) u → Pre k u'
  mono : ∀ u k, Pre (k + 1) u → Pre k u
  step : ∀ f (left from_ now : Int) M u, left ≠ 0 → fx (f + 1) ((left, (from_, (now, ()))), pk M u) = Option.bind (iter (stp (fx f)) 100000 ((left, (now, (false, (from_, ())))), pk M u)) fun q5 => natK q5.1 (some (q5.2.1.2.2.1, q5.2.2)) fun _ => some (true, q5.2.2)
  stp_ : ∀ rc x M u, stp rc (x, pk M u) = srchStp n rc (x, pk M u)
theorem Srch.run {B U : Type} {n : Nat} {OK : List (E56 × E94) → Prop} {Pre : Nat → U → Prop} {E : Nat → Prop} {V : Nat → U → Bool → U → Prop} {pk : List (E56 × E94) → U → B} {fx : Nat → (Int × (Int × (Int × Unit))) × B → Option (Bool × B)} {stp : ((Int × (Int × (Int × Unit))) × B → Option (Bool × B)) → ((Int × (Int × (Bool × (Int × Unit)))) × B) → Option (Nat × ((Int × (Int × (Bool × (Int × Unit)))) × B))} (h : Srch n OK Pre E V pk fx stp) :
    ∀ (f left rem now : Nat) (M : List (E56 × E94)) (u : U) (k : Nat), left < f → left ≤ 1000 → rem ≤ n → low now (n - rem) → OK M → Pre ((comb n rem left now).length + k) u → ∃ r u' M', fx f (((left : Int), (((n - rem : Nat) : Int), ((now : Int), ()))), pk M u) = some (r, pk M' u') ∧ OK M' ∧ Feed E V (comb n rem left now) u r u' ∧ (r = true → Pre k u')
  | 0, left, _, _, _, _, _, hf, _, _, _, _, _ => by omega
  | f + 1, 0, rem, now, M, u, k, hf, hl, hr, hlow, hM, hP => by
    rw [comb_zero] at hP ⊢
    rw [show ([now] : List Nat).length + k = k + 1 by simp; omega] at hP
    obtain ⟨r, u', M', e, hM', hv⟩ := h.base f ((n - rem : Nat) : Int) now M u k (low_mono hlow (by omega)) hM hP
    refine ⟨r, u', M', e, hM', ?_⟩
    rcases hv with ⟨a, rfl, rfl⟩ | ⟨a, b⟩
    · exact ⟨.skip a (.nil _), fun _ => h.mono _ _ hP⟩
    · cases r with
      | true => exact ⟨.go a b (.nil _), fun _ => h.pre _ _ _ _ b hP⟩
      | false => exact ⟨.stop a b, fun h => by cases h⟩
  | f + 1, left + 1, rem, now, M, u, k, hf, hl, hr, hlow, hM, hP => by
    have hn := h.hn
    have loop : ∀ (rem fuel : Nat) (M : List (E56 × E94)) (u : U) (ret : Bool), rem ≤ n → rem < fuel → low now (n - rem) → OK M → Pre ((comb n rem (left + 1) now).length + k) u →
        ∃ r u' M' k' i ret', iter (stp (fx f)) fuel ((((left + 1 : Nat) : Int), ((now : Int), (ret, (((n - rem : Nat) : Int), ())))), pk M u) = some (k', (((((left + 1 : Nat) : Int), ((now : Int), (ret', (i, ()))))), pk M' u')) ∧ OK M' ∧ Feed E V (comb n rem (left + 1) now) u r u' ∧ (r = true → Pre k u') ∧ ((r = false ∧ k' = 0 ∧ ret' = false) ∨ (r = true ∧ k' = 1)) := by
      intro rem
      induction rem with
      | zero =>
        intro fuel M u ret hr hfu hlow hM hP
        obtain ⟨fuel, rfl⟩ : ∃ fu, fuel = fu + 1 := ⟨fuel - 1, by omega⟩
        have hstep : stp (fx f) ((((left + 1 : Nat) : Int), ((now : Int), (ret, (((n - 0 : Nat) : Int), ())))), pk M u) = some (1 + 1, ((((left + 1 : Nat) : Int), ((now : Int), (ret, (((n - 0 : Nat) : Int), ())))), pk M u)) := by
          rw [h.stp_]
          unfold srchStp
          have : decide (((n - 0 : Nat) : Int) < (n : Int)) = false := decide_eq_false (by omega)
          simp only [this, cond_false]
        refine ⟨true, u, M, 1, _, ret, iter_out hstep, hM, ?_, fun _ => ?_, .inr ⟨rfl, rfl⟩⟩
        · simp only [comb, if_neg (Nat.succ_ne_zero left)]; exact .nil u
        · simpa only [comb, if_neg (Nat.succ_ne_zero left), List.length_nil, Nat.zero_add] using hP
      | succ rem ih =>
        intro fuel M u ret hr hfu hlow hM hP
        obtain ⟨fuel, rfl⟩ : ∃ fu, fuel = fu + 1 := ⟨fuel - 1, by omega⟩
        have hlow' : low (now ||| 2 ^ (n - (rem + 1))) (n - rem) := by
          have := low_or hlow
          have e : n - (rem + 1) + 1 = n - rem := by omega
          rwa [e] at this
        have hP' : Pre ((comb n rem left (now ||| 2 ^ (n - (rem + 1)))).length + ((comb n rem (left + 1) now).length + k)) u := by
          simp only [comb, List.length_append] at hP
          rwa [Nat.add_assoc] at hP
        obtain ⟨r, u1, M1, e1, hM1, hF1, hP1⟩ := h.run f left rem (now ||| 2 ^ (n - (rem + 1))) M u _ (by omega) (by omega) (by omega) hlow' hM hP'
        have hnow : now < 2 ^ 62 := Nat.lt_of_lt_of_le (low_lt hlow) (Nat.pow_le_pow_right (by decide) (by omega))
        have hstep : stp (fx f) ((((left + 1 : Nat) : Int), ((now : Int), (ret, (((n - (rem + 1) : Nat) : Int), ())))), pk M u) = some (bif (!r) then (1, ((((left + 1 : Nat) : Int), ((now : Int), (false, (((n - (rem + 1) : Nat) : Int), ())))), pk M1 u1)) else (0, ((((left + 1 : Nat) : Int), ((now : Int), (ret, (((n - rem : Nat) : Int), ())))), pk M1 u1))) := by
          rw [h.stp_]
          unfold srchStp
          have a1 : decide (((n - (rem + 1) : Nat) : Int) < (n : Int)) = true := decide_eq_true (by omega)
          have a2 : (!decide (((n - (rem + 1) : Nat) : Int) < 0)) = true := by rw [decide_eq_false (by omega)]; rfl
          have a3 : IntKind.wrap .i64 (((left + 1 : Nat) : Int) - 1) = (left : Int) := by rw [wr (by omega) (by omega)]; omega
          have a4 : IntKind.wrap .i64 (((n - (rem + 1) : Nat) : Int) + 1) = ((n - rem : Nat) : Int) := by rw [wr (by omega) (by omega)]; omega
          simp only [a1, a2, a3, a4, cond_true, Int.toNat_natCast]
          rw [shl_nat (by omega), or_nat hnow (Nat.pow_lt_pow_right (by decide) (by omega)), e1]
          cases r <;> rfl
        cases r with
        | false =>
          refine ⟨false, u1, M1, 0, _, false, iter_out hstep, hM1, ?_, (fun h => by cases h), .inl ⟨rfl, rfl, rfl⟩⟩
          simp only [comb]
          exact hF1.cut _ rfl
        | true =>
          obtain ⟨r2, u2, M2, k2, i2, ret2, e2, hM2, hF2, hP2, hc⟩ := ih fuel M1 u1 ret (by omega) (by omega) (low_mono hlow (by omega)) hM1 (hP1 rfl)
          refine ⟨r2, u2, M2, k2, i2, ret2, ?_, hM2, ?_, hP2, hc⟩
          · rw [iter_one hstep]; exact e2
          · simp only [comb]
            exact hF1.app rfl hF2
    obtain ⟨r, u', M', k', i, ret', e, hM', hF, hPk, hc⟩ := loop rem 100000 M u false hr (by omega) hlow hM hP
    refine ⟨r, u', M', ?_, hM', hF, hPk⟩
    rw [h.step f ((left + 1 : Nat) : Int) _ _ M u (by omega), e]
    simp only [Option.bind_some]
    rcases hc with ⟨rfl, rfl, rfl⟩ | ⟨rfl, rfl⟩ <;> rfl
def allC (n most : Nat) : List Nat := (List.range (most + 1)).flatMap fun m => comb n n m 0
theorem low_zero (i : Nat) : low 0 i := fun j _ => by simp
theorem allC_succ (n m : Nat) : ((List.range (m + 1)).flatMap fun m => comb n n m 0) = ((List.range m).flatMap fun m => comb n n m 0) ++ comb n n m 0 := by
  rw [List.range_succ, List.flatMap_append]; simp
theorem Srch.all {B U C : Type} {n : Nat} {OK : List (E56 × E94) → Prop} {Pre : Nat → U → Prop} {E : Nat → Prop} {V : Nat → U → Bool → U → Prop} {pk : List (E56 × E94) → U → B} {fx : Nat → (Int × (Int × (Int × Unit))) × B → Option (Bool × B)} {stp : ((Int × (Int × (Int × Unit))) × B → Option (Bool × B)) → ((Int × (Int × (Bool × (Int × Unit)))) × B) → Option (Nat × ((Int × (Int × (Bool × (Int × Unit)))) × B))} (h : Srch n OK Pre E V pk fx stp)
    (p93 : List (E56 × E94) → U → C) (st93 : (Int × (Int × Unit)) × C → Option (Nat × ((Int × (Int × Unit)) × C))) (most : Nat) (hmost : most ≤ n)
    (h1 : ∀ (m1 many : Nat) M u r u' M', many < m1 → m1 ≤ 1000 → fx 64 (((many : Int), (0, (0, ()))), pk M u) = some (r, pk M' u') → st93 (((m1 : Int), ((many : Int), ())), p93 M u) = some (bif (!r) then (1, (((m1 : Int), ((many : Int), ())), p93 M' u')) else (0, (((m1 : Int), (((many + 1 : Nat) : Int), ())), p93 M' u'))))
    (h2 : ∀ (m1 : Nat) M u, st93 (((m1 : Int), ((m1 : Int), ())), p93 M u) = some (2, (((m1 : Int), ((m1 : Int), ())), p93 M u)))
    (M : List (E56 × E94)) (u : U) (hM : OK M) (hP : Pre (allC n most).length u) (fuel : Nat) (hfu : most + 1 < fuel) :
    ∃ k x r u' M', iter st93 fuel ((((most + 1 : Nat) : Int), (0, ())), p93 M u) = some (k, (x, p93 M' u')) ∧ OK M' ∧ Feed E V (allC n most) u r u' := by
  have hn := h.hn
  obtain ⟨k, q, e, x, r, u', M', rfl, hM', hF⟩ := iter_ex (step := st93) (n := most + 1)
    (fun i st => ∃ u' M', st = ((((most + 1 : Nat) : Int), ((i : Int), ())), p93 M' u') ∧ OK M' ∧ i ≤ most + 1 ∧ Feed E V ((List.range i).flatMap fun m => comb n n m 0) u true u' ∧ ∃ j, Pre j u' ∧ j + ((List.range i).flatMap fun m => comb n n m 0).length = (allC n most).length)
    (fun k q => ∃ x r u' M', q = (x, p93 M' u') ∧ OK M' ∧ Feed E V (allC n most) u r u')
    (by
      rintro i st ⟨u1, M1, rfl, hM1, hi', hF1, j, hj, hjl⟩ hi
      have hsplit : ∃ rest, (allC n most) = ((List.range i).flatMap fun m => comb n n m 0) ++ comb n n i 0 ++ rest := by
        unfold allC
        have : List.range (most + 1) = List.range (i + 1) ++ (List.range' (i + 1) (most - i)) := by
          rw [List.range_eq_range', List.range_eq_range', show most + 1 = (i + 1) + (most - i) by omega, ← List.range'_append]
          simp
        rw [this, List.flatMap_append, allC_succ]
        exact ⟨_, rfl⟩
      obtain ⟨rest, hrest⟩ := hsplit
      have hlen : j = (comb n n i 0).length + rest.length := by
        rw [hrest] at hjl
        simp only [List.length_append] at hjl
        omega
      have hcall := h.run 64 i n 0 M1 u1 rest.length (by omega) (by omega) (Nat.le_refl _) (low_zero _) hM1 (by rw [← hlen]; exact hj)
      rw [Nat.sub_self] at hcall
      obtain ⟨r, u2, M2, e2, hM2, hF2, hP2⟩ := hcall
      have hst := h1 (most + 1) i M1 u1 r u2 M2 hi (by omega) e2
      cases r with
      | false =>
        refine .inr ⟨0, _, hst, _, false, u2, M2, rfl, hM2, ?_⟩
        rw [hrest]
        exact (hF1.app rfl hF2).cut _ rfl
      | true =>
        refine .inl ⟨_, hst, u2, M2, rfl, hM2, by omega, ?_, rest.length, hP2 rfl, ?_⟩
        · rw [allC_succ]; exact hF1.app rfl hF2
        · rw [allC_succ, hrest]
          simp only [List.length_append]
          omega)
    (by
      rintro st ⟨u1, M1, rfl, hM1, _, hF1, _⟩
      exact ⟨1, _, h2 _ _ _, _, true, u1, M1, rfl, hM1, hF1⟩)
    (most + 1) 0 fuel ((((most + 1 : Nat) : Int), (((0 : Nat) : Int), ())), p93 M u) (by omega) hfu ⟨u, M, rfl, hM, by omega, .nil u, _, hP, by simp⟩
  exact ⟨k, x, r, u', M', e, hM', hF⟩
end Go.Proofs.YtibmgbalfhfcdaaDoor.Abs
set_option linter.unusedVariables false
set_option linter.unusedSimpArgs false
set_option maxRecDepth 100000
namespace Go.Proofs.YtibmgbalfhfcdaaDoor.Abs
open Classical
theorem beqn_f {a b : Int} (h : a = b) : (a != b) = false := by simp [h]
theorem beqn_t {a b : Int} (h : a ≠ b) : (a != b) = true := by simp [h]
def atN (s : E23) (i : Nat) : Nat := ((s.2.2.2.2.1).getD i 0).toNat
theorem at_ok {s : E23} (hs : StrOk s) {i : Nat} (hi : i < (s.2.2.2.2.1).length) : (((atN s i : Nat) : Int) = (s.2.2.2.2.1).getD i 0) ∧ atN s i < (s.2.2.2.1).toNat := by
  have := hs.at_ _ (getD_mem hi (d := 0))
  unfold atN
  omega
theorem rd_i {s : E23} {r : E72} (hr : RdOk s r) : ∃ i : Nat, r.1 = (i : Int) ∧ i < (s.2.2.2.2.1).length := ⟨(r.1).toNat, by have := hr.1; omega, by have := hr.1; have := hr.2.1; omega⟩
end Go.Proofs.YtibmgbalfhfcdaaDoor.Abs
set_option linter.unusedVariables false
set_option linter.unusedSimpArgs false
set_option maxRecDepth 100000
namespace Go.Proofs.YtibmgbalfhfcdaaDoor.Abs
open Classical
def LeastT (s : E23) (l : List E72) (b d : Nat) (T : Int) : Prop := (∃ m, DC s l b d m T) ∧ ∀ m T', DC s l b d m T' → T ≤ T'
def LeastR (s : E23) (l : List E72) (b d : Nat) (T R : Int) : Prop := DC s l b d R T ∧ ∀ m, DC s l b d m T → R ≤ m
def LeastD (s : E23) (l : List E72) (b i : Nat) (T R q : Int) : Prop := (-(moS s b i) ≤ q ∧ q ≤ moS s b i) ∧ agr s l i T (R + q) = true ∧ ∀ q', -(moS s b i) ≤ q' → agr s l i T (R + q') = true → q' ≤ moS s b i → q ≤ q'
theorem DC.bd {s : E23} {l : List E72} (hs : StrOk s) {b d : Nat} {m T : Int} (h : DC s l b d m T) : (-20 ≤ m ∧ m ≤ 20) ∧ 2000 ≤ T ∧ T ≤ 3200 := by
  have := moD_bd hs b d
  have h1 := h.1
  exact ⟨by omega, h.2.1⟩
theorem SpanIs.low {s : E23} {l : List E72} (hs : StrOk s) {b d : Nat} {m : Int} {q : E56} (h : SpanIs s l b d m q) : (0 ≤ q.1 ∧ DC s l b d m q.1 ∧ ∀ T, DC s l b d m T → q.1 ≤ T) ∨ (q.1 = -1 ∧ ∀ T, ¬ DC s l b d m T) := by
  rcases h with ⟨h1, h2, h3⟩ | ⟨h1, rfl⟩
  · exact .inl ⟨by have := (h1.bd hs).2; omega, h1, fun T hT => (h3 T hT).1⟩
  · exact .inr ⟨rfl, h1⟩
theorem getD_snoc {α : Type} (xs : List α) (x d : α) (j : Nat) : (xs ++ [x]).getD j d = if j < xs.length then xs.getD j d else if j = xs.length then x else d := by
  simp only [List.getD_eq_getElem?_getD]
  by_cases h : j < xs.length
  · rw [if_pos h, List.getElem?_append_left h]
  · rw [if_neg h, List.getElem?_append_right (by omega)]
    by_cases h2 : j = xs.length
    · subst h2; simp
    · rw [if_neg h2, List.getElem?_eq_none (by simp; omega)]; rfl
end Go.Proofs.YtibmgbalfhfcdaaDoor.Abs
set_option linter.unusedVariables false
set_option linter.unusedSimpArgs false
set_option maxRecDepth 100000
namespace Go.Proofs.YtibmgbalfhfcdaaDoor.Abs
open Classical
theorem rising_mem {L : List Int} {B x : Int} (h : Rising L B) (hx : x ∈ L) : 0 ≤ x ∧ x < B := by
  obtain ⟨i, hi, rfl⟩ := mem_getD.1 hx
  exact (h i hi).1
theorem bit_s {s : E23} {c : E26} (hc : CauseOk s c) {i : Nat} (hi : i < (s.2.2.2.2.1).length) : (bitsOf s c).testBit i = decide ((i : Int) ∈ c.1) := by
  rw [bitsOf_bit hc]
  have : decide ((s.2.2.2.2.1).length ≤ i ∧ ((i - (s.2.2.2.2.1).length : Nat) : Int) ∈ c.2.1) = false := decide_eq_false fun h => by omega
  rw [this, Bool.or_false]
theorem bit_d {s : E23} {c : E26} (hc : CauseOk s c) (d : Nat) : (bitsOf s c).testBit ((s.2.2.2.2.1).length + d) = decide ((d : Int) ∈ c.2.1) := by
  rw [bitsOf_bit hc]
  have h1 : decide ((((s.2.2.2.2.1).length + d : Nat) : Int) ∈ c.1) = false := decide_eq_false fun h => by have := rising_mem hc.1 h; omega
  have h2 : (s.2.2.2.2.1).length + d - (s.2.2.2.2.1).length = d := by omega
  rw [h1, h2, Bool.false_or, decide_eq_decide]
  exact ⟨fun h => h.2, fun h => ⟨by omega, h⟩⟩
theorem moS_c {s : E23} {c : E26} (hc : CauseOk s c) {i : Nat} (hi : i < (s.2.2.2.2.1).length) : moS s (bitsOf s c) i = if (i : Int) ∈ c.1 then s.2.1 else 0 := by
  unfold moS
  rw [bit_s hc hi]
  by_cases h : (i : Int) ∈ c.1
  · rw [decide_eq_true h, if_pos h]; rfl
  · rw [decide_eq_false h, if_neg h]; rfl
theorem moD_c {s : E23} {c : E26} (hc : CauseOk s c) (d : Nat) : moD s (bitsOf s c) d = if (d : Int) ∈ c.2.1 then s.2.2.1 else 0 := by
  unfold moD
  rw [bit_d hc]
  by_cases h : (d : Int) ∈ c.2.1
  · rw [decide_eq_true h, if_pos h]; rfl
  · rw [decide_eq_false h, if_neg h]; rfl
inductive Pos
  | t (k : Nat)
  | r (k : Nat)
  | d (i : Nat)
def Pos.val (t : E30) : Pos → Int
  | .t k => (t.1).getD k 0
  | .r k => (t.2.1).getD k 0
  | .d i => (t.2.2.1).getD i 0
def Pos.need (s : E23) : Pos → List Pos
  | .t _ => []
  | .r k => [.t k]
  | .d i => [.t (atN s i), .r (atN s i)]
def Pos.ok (s : E23) : Pos → Prop
  | .t k => k < (s.2.2.2.1).toNat
  | .r k => k < (s.2.2.2.1).toNat
  | .d i => i < (s.2.2.2.2.1).length
end Go.Proofs.YtibmgbalfhfcdaaDoor.Abs
set_option linter.unusedVariables false
set_option linter.unusedSimpArgs false
set_option maxRecDepth 100000
namespace Go.Proofs.YtibmgbalfhfcdaaDoor.Abs
open Classical
abbrev UL : Type := Nat × (List E26 × Int)
def pkL (s : E23) (l : List E72) (M : List (E56 × E94)) (u : UL) : E123 × ((Nat × UT45) × ((List (E56 × E94)) × ((List E26) × (Int × Unit)))) := (XX s l, ((u.1, UC45), (M, (u.2.1, (u.2.2, ())))))
def VL (s : E23) (b : Nat) (u : UL) (r : Bool) (u' : UL) : Prop := (0 ≤ u.2.2 ∧ u.2.2 < ((cnt b 60 : Nat) : Int) ∧ r = false ∧ u' = (4, u.2)) ∨ (¬ (0 ≤ u.2.2 ∧ u.2.2 < ((cnt b 60 : Nat) : Int)) ∧ r = true ∧ u' = (0, (u.2.1 ++ [causeOf s b], ((cnt b 60 : Nat) : Int))))
def PreL (k : Nat) (u : UL) : Prop := u.1 = 0 ∧ u.2.1.length + k ≤ 5000
theorem low_60 {b n : Nat} (h : low b n) (hn : n ≤ 20) : low b 60 ∧ b < 2 ^ 62 := ⟨low_mono h (by omega), Nat.lt_of_lt_of_le (low_lt h) (Nat.pow_le_pow_right (by decide) (by omega))⟩
theorem r0L {s : E23} (hs : StrOk s) (l : List E72) {b n : Nat} (hb : low b n) (hn : n ≤ 20) (M : List (E56 × E94)) (out : List E26) (least : Int) (ho : out.length ≤ 5000) :
    ∃ r u', G25 b (0, UC45) out least (XX s l) M = some (r, ((u'.1, UC45), (u'.2.1, (u'.2.2, (XX s l, (M, ())))))) ∧ VL s b (0, (out, least)) r u' := by
  obtain ⟨h60, h62⟩ := low_60 hb hn
  have hsz := size_eq h60
  have hca := cause_eq hs l h62
  have hl : decide (out.length + List.length [causeOf s b] ≤ LIM) = true := lim_ok (by omega) (by simp)
  unfold G25
  simp only [natK]
  by_cases h0 : least ≥ 0
  · rw [decide_eq_true h0, cond_true, hsz]
    simp only [Option.bind_some]
    by_cases h1 : ((cnt b 60 : Nat) : Int) > least
    · rw [decide_eq_true h1, cond_true]
      exact ⟨false, (4, (out, least)), rfl, .inl ⟨h0, h1, rfl, rfl⟩⟩
    · rw [decide_eq_false h1, cond_false]
      rw [show G66 ((XX s l).1, ((XX s l).2.1, ((), (XX s l).2.2.2))) (b : Int) = _ from hca]
      simp only [Option.bind_some, hl, cond_true]
      exact ⟨true, (0, (out ++ [causeOf s b], ((cnt b 60 : Nat) : Int))), rfl, .inr ⟨fun h => h1 h.2, rfl, rfl⟩⟩
  · rw [decide_eq_false h0, cond_false, hsz]
    simp only [Option.bind_some]
    rw [show G66 ((XX s l).1, ((XX s l).2.1, ((), (XX s l).2.2.2))) (b : Int) = _ from hca]
    simp only [Option.bind_some, hl, cond_true]
    exact ⟨true, (0, (out ++ [causeOf s b], ((cnt b 60 : Nat) : Int))), rfl, .inr ⟨fun h => h0 h.1, rfl, rfl⟩⟩
theorem nC_le {s : E23} (hs : StrOk s) : nC s ≤ 10 := by
  have h1 := hs.len
  have h2 := hs.depths
  unfold nC; omega
theorem srchL {s : E23} {l : List E72} (hs : StrOk s) (hl : RdsOk s l) (hn : l.length ≤ 1000) : Srch (nC s) (MemoOk s l) PreL (Ex s l) (VL s) (pkL s l) G94_fix G94_l0_step where
  hn := by have := nC_le hs; omega
  base := by
    rintro f from_ now M ⟨k0, out, least⟩ k hlow hM ⟨hk0, hP⟩
    have hn10 := nC_le hs
    obtain ⟨h60, h62⟩ := low_60 hlow (by omega)
    simp only at hk0 hP
    subst hk0
    obtain ⟨r, M', e, hr, hM'⟩ := explains_eq hs hl hn h62 hM
    show ∃ r u' M', G94_b (G94_fix f) 0 from_ now (XX s l) (0, UC45) M out least = some (r, pkL s l M' u') ∧ _
    unfold G94_b
    have e0 : ((0 : Int) == 0) = true := rfl
    simp only [e0, cond_true]
    rw [show G52 (now : Int) ((XX s l).1, ((XX s l).2.1, ((), (XX s l).2.2.2))) M = _ from e]
    simp only [Option.bind_some]
    cases r with
    | false => exact ⟨true, (0, (out, least)), M', rfl, hM', .inl ⟨(fun h => by have := hr.2 h; cases this), rfl, rfl⟩⟩
    | true =>
      simp only [Bool.not_true, cond_false]
      obtain ⟨r2, u', e2, hv⟩ := r0L hs l hlow (by omega) M' out least (by omega)
      rw [show G25 (now : Int) (0, UC45) out least ((XX s l).1, ((XX s l).2.1, ((), (XX s l).2.2.2))) M' = _ from e2]
      exact ⟨r2, u', M', rfl, hM', .inr ⟨hr.1 rfl, hv⟩⟩
  pre := by
    rintro b ⟨k0, out, least⟩ u' k hv ⟨hk0, hP⟩
    rcases hv with ⟨_, _, h, _⟩ | ⟨_, _, rfl⟩
    · cases h
    · exact ⟨rfl, by simp only [List.length_append, List.length_singleton]; simp only at hP; omega⟩
  mono := fun u k h => ⟨h.1, by have := h.2; omega⟩
  step := by
    rintro f left from_ now M ⟨k0, out, least⟩ hleft
    show G94_b (G94_fix f) left from_ now (XX s l) (k0, UC45) M out least = _
    unfold G94_b
    rw [beq_eq_false_iff_ne.2 hleft, cond_false]
    rfl
  stp_ := by
    rintro rc ⟨left, now, ret, i, _⟩ M ⟨k0, out, least⟩
    unfold G94_l0_step srchStp pkL
    rw [show G64 ((XX s l).1, ((XX s l).2.1, ((), (XX s l).2.2.2))) = _ from many_eq hs l]
    rfl
def p93L (s : E23) (l : List E72) (most : Int) (M : List (E56 × E94)) (u : UL) : (Nat × UT45) × (Int × ((List E26) × (Int × (E123 × ((List (E56 × E94)) × Unit))))) := ((u.1, UC45), (most, (u.2.1, (u.2.2, (XX s l, (M, ()))))))
theorem allC_len : ∀ n, n ≤ 10 → ∀ most, most ≤ n → (allC n most).length ≤ 3000 := by
  intro n hn most hm
  have h1 : ∀ m, ((List.range m).flatMap fun m => comb n n m 0).length ≤ m * 2 ^ n := by
    intro m
    induction m with
    | zero => simp
    | succ m ih =>
      rw [allC_succ, List.length_append, Nat.succ_mul]
      have := comb_len n n m 0
      omega
  have h2 := h1 (most + 1)
  unfold allC
  by_cases hn8 : n ≤ 8
  · have h3 : 2 ^ n ≤ 2 ^ 8 := Nat.pow_le_pow_right (by decide) hn8
    have h4 : (most + 1) * 2 ^ n ≤ 9 * 2 ^ 8 := Nat.mul_le_mul (by omega) h3
    omega
  · exact Nat.le_trans (Nat.le_refl _) (by
      have : n = 9 ∨ n = 10 := by omega
      rcases this with rfl | rfl
      · have : most = 0 ∨ most = 1 ∨ most = 2 ∨ most = 3 ∨ most = 4 ∨ most = 5 ∨ most = 6 ∨ most = 7 ∨ most = 8 ∨ most = 9 := by omega
        rcases this with rfl | rfl | rfl | rfl | rfl | rfl | rfl | rfl | rfl | rfl <;> decide +kernel
      · have : most = 0 ∨ most = 1 ∨ most = 2 ∨ most = 3 ∨ most = 4 ∨ most = 5 ∨ most = 6 ∨ most = 7 ∨ most = 8 ∨ most = 9 ∨ most = 10 := by omega
        rcases this with rfl | rfl | rfl | rfl | rfl | rfl | rfl | rfl | rfl | rfl | rfl <;> decide +kernel)
theorem all93L {s : E23} {l : List E72} (hs : StrOk s) (hl : RdsOk s l) (hn : l.length ≤ 1000) {M : List (E56 × E94)} (hM : MemoOk s l M) :
    ∃ r u' M', G93 (0, UC45) ((nC s : Nat) : Int) [] (-1) (XX s l) M = some ((), p93L s l ((nC s : Nat) : Int) M' u') ∧ Feed (Ex s l) (VL s) (allC (nC s) (nC s)) (0, ([], -1)) r u' := by
  have hn10 := nC_le hs
  have hlen := allC_len (nC s) hn10 (nC s) (Nat.le_refl _)
  obtain ⟨k, x, r, u', M', e, hM', hF⟩ := (srchL hs hl hn).all (p93L s l ((nC s : Nat) : Int)) G93_l0_step (nC s) (Nat.le_refl _)
    (by
      rintro m1 many M ⟨k0, out, least⟩ r ⟨k1, out1, least1⟩ M' hlt hm1 e
      unfold G93_l0_step p93L
      simp only [lt_int hlt, cond_true]
      rw [show G94 (many : Int) 0 0 ((XX s l).1, ((XX s l).2.1, ((), (XX s l).2.2.2))) (k0, UC45) M out least = _ from e]
      simp only [Option.bind_some, wr1 (i := many) (by omega)]
      cases r <;> rfl)
    (by
      rintro m1 M ⟨k0, out, least⟩
      unfold G93_l0_step p93L
      simp only [nlt_int, cond_false]) M (0, ([], -1)) hM ⟨rfl, by simp only [List.length_nil]; omega⟩ (nC s + 2) (by omega)
  unfold G93
  rw [wr1 (i := nC s) (by omega)]
  have hfu : G93_l0_fuel ((((nC s + 1 : Nat) : Int), (0, ())), ((0, UC45), (((nC s : Nat) : Int), ([], (-1, (XX s l, (M, ()))))))) = nC s + 2 := by unfold G93_l0_fuel; simp only; omega
  rw [show G93_l0_run ((((nC s + 1 : Nat) : Int), (0, ())), ((0, UC45), (((nC s : Nat) : Int), ([], (-1, (((XX s l).1, ((XX s l).2.1, ((), (XX s l).2.2.2))), (M, ()))))))) = iter G93_l0_step (G93_l0_fuel ((((nC s + 1 : Nat) : Int), (0, ())), ((0, UC45), (((nC s : Nat) : Int), ([], (-1, (XX s l, (M, ())))))))) ((((nC s + 1 : Nat) : Int), (0, ())), p93L s l ((nC s : Nat) : Int) M (0, ([], -1))) from rfl, hfu, e]
  refine ⟨r, u', M', ?_, hF⟩
  obtain ⟨k1, out1, least1⟩ := u'
  cases k <;> rfl
theorem Feed.split {U : Type} {E : Nat → Prop} {V : Nat → U → Bool → U → Prop} : ∀ {xs ys : List Nat} {u u' : U} {r : Bool}, Feed E V (xs ++ ys) u r u' → (∃ u1, Feed E V xs u true u1 ∧ Feed E V ys u1 r u') ∨ (r = false ∧ Feed E V xs u false u')
  | [], ys, u, u', r, h => .inl ⟨u, .nil u, h⟩
  | x :: xs, ys, u, u', r, h => by
    cases h with
    | skip a h =>
      rcases Feed.split h with ⟨u1, h1, h2⟩ | ⟨rfl, h1⟩
      · exact .inl ⟨u1, .skip a h1, h2⟩
      · exact .inr ⟨rfl, .skip a h1⟩
    | go a b h =>
      rcases Feed.split h with ⟨u1, h1, h2⟩ | ⟨rfl, h1⟩
      · exact .inl ⟨u1, .go a b h1, h2⟩
      · exact .inr ⟨rfl, .go a b h1⟩
    | stop a b => exact .inr ⟨rfl, .stop a b⟩
noncomputable def exs (s : E23) (l : List E72) (xs : List Nat) : List Nat := xs.filter fun b => decide (Ex s l b)
theorem exs_mem {s : E23} {l : List E72} {xs : List Nat} {b : Nat} : b ∈ exs s l xs ↔ b ∈ xs ∧ Ex s l b := by unfold exs; simp
theorem feedL_new {s : E23} {l : List E72} {m : Nat} : ∀ (xs : List Nat), (∀ b ∈ xs, cnt b 60 = m) → ∀ (out : List E26) (least : Int) (r : Bool) (u' : UL), ¬ (0 ≤ least ∧ least < (m : Int)) → Feed (Ex s l) (VL s) xs (0, (out, least)) r u' → r = true ∧ u' = (0, (out ++ (exs s l xs).map (causeOf s), if exs s l xs = [] then least else (m : Int)))
  | [], _, out, least, r, u', _, h => by
    cases h
    exact ⟨rfl, by simp [exs]⟩
  | x :: xs, hx, out, least, r, u', hl, h => by
    have hxs := fun b hb => hx b (List.mem_cons_of_mem _ hb)
    have hm := hx x (List.mem_cons_self ..)
    cases h with
    | skip a h =>
      have e : exs s l (x :: xs) = exs s l xs := by unfold exs; rw [List.filter_cons_of_neg (by simpa using a)]
      rw [e]
      exact feedL_new xs hxs out least r u' hl h
    | go a b h =>
      have e : exs s l (x :: xs) = x :: exs s l xs := by unfold exs; rw [List.filter_cons_of_pos (by simpa using a)]
      rw [e]
      rcases b with ⟨_, _, h', _⟩ | ⟨_, _, rfl⟩
      · cases h'
      · rw [hm] at h
        obtain ⟨h1, h2⟩ := feedL_new xs hxs _ _ r u' (by omega) h
        refine ⟨h1, ?_⟩
        rw [h2]
        simp only [List.map_cons, List.append_assoc, List.singleton_append, if_neg (List.cons_ne_nil _ _)]
        split <;> rfl
    | stop a b =>
      rcases b with ⟨h1, h2, _, _⟩ | ⟨_, h', _⟩
      · simp only [hm] at h1 h2
        exact absurd ⟨h1, h2⟩ hl
      · cases h'
theorem feedL_old {s : E23} {l : List E72} {m : Nat} : ∀ (xs : List Nat), (∀ b ∈ xs, cnt b 60 = m) → ∀ (out : List E26) (least : Int) (r : Bool) (u' : UL), (0 ≤ least ∧ least < (m : Int)) → Feed (Ex s l) (VL s) xs (0, (out, least)) r u' → (r = true ∧ u' = (0, (out, least))) ∨ (r = false ∧ u' = (4, (out, least)))
  | [], _, out, least, r, u', _, h => by
    cases h
    exact .inl ⟨rfl, rfl⟩
  | x :: xs, hx, out, least, r, u', hl, h => by
    have hxs := fun b hb => hx b (List.mem_cons_of_mem _ hb)
    have hm := hx x (List.mem_cons_self ..)
    cases h with
    | skip a h => exact feedL_old xs hxs out least r u' hl h
    | go a b h =>
      rcases b with ⟨_, _, h', _⟩ | ⟨h', _, _⟩
      · cases h'
      · exact absurd (by rw [hm]; exact hl) h'
    | stop a b =>
      rcases b with ⟨h1, h2, _, h3⟩ | ⟨_, h', _⟩
      · exact .inr ⟨rfl, h3⟩
      · cases h'
theorem comb_in {n m b : Nat} (hn : n ≤ 20) (h : b ∈ comb n n m 0) : low b n ∧ cnt b n = m ∧ cnt b 60 = m := by
  have h1 := comb_low n n m 0 (Nat.le_refl _) (low_zero _) b h
  have h2 := comb_cnt n n m 0 (Nat.le_refl _) (low_zero _) b h
  have h3 : cnt 0 n = 0 := by
    have : ∀ k, cnt 0 k = 0 := fun k => by
      induction k with
      | zero => rfl
      | succ k ih => simp [cnt, ih]
    exact this n
  have h4 := cnt_low h1 60 (by omega)
  exact ⟨h1, by omega, by omega⟩
theorem feedL_all {s : E23} {l : List E72} {n : Nat} (hn : n ≤ 20) : ∀ (i : Nat) (r : Bool) (u' : UL), Feed (Ex s l) (VL s) ((List.range i).flatMap fun m => comb n n m 0) (0, ([], -1)) r u' →
    (r = true ∧ u' = (0, ([], -1)) ∧ ∀ m, m < i → exs s l (comb n n m 0) = []) ∨ (∃ m, m < i ∧ (∀ m', m' < m → exs s l (comb n n m' 0) = []) ∧ exs s l (comb n n m 0) ≠ [] ∧ ((r = true ∧ u' = (0, ((exs s l (comb n n m 0)).map (causeOf s), (m : Int)))) ∨ (r = false ∧ u' = (4, ((exs s l (comb n n m 0)).map (causeOf s), (m : Int))))))
  | 0, r, u', h => by
    simp only [List.range_zero, List.flatMap_nil] at h
    cases h
    exact .inl ⟨rfl, rfl, fun m hm => absurd hm (by omega)⟩
  | i + 1, r, u', h => by
    rw [allC_succ] at h
    have hc : ∀ b ∈ comb n n i 0, cnt b 60 = i := fun b hb => (comb_in hn hb).2.2
    rcases Feed.split h with ⟨u1, h1, h2⟩ | ⟨rfl, h1⟩
    · rcases feedL_all hn i true u1 h1 with ⟨_, rfl, h3⟩ | ⟨m, hm, h3, h4, ⟨_, rfl⟩ | ⟨h5, _⟩⟩
      · obtain ⟨rfl, h5⟩ := feedL_new _ hc [] (-1) r u' (by omega) h2
        by_cases he : exs s l (comb n n i 0) = []
        · left
          rw [if_pos he, he] at h5
          refine ⟨rfl, h5, fun m hm => ?_⟩
          rcases Nat.lt_succ_iff_lt_or_eq.1 hm with h | h
          · exact h3 m h
          · subst h; exact he
        · right
          rw [if_neg he] at h5
          exact ⟨i, by omega, h3, he, .inl ⟨rfl, by rw [h5]; rfl⟩⟩
      · right
        refine ⟨m, by omega, h3, h4, ?_⟩
        exact feedL_old _ hc _ _ r u' (by omega) h2
      · cases h5
    · rcases feedL_all hn i false u' h1 with ⟨h3, _⟩ | ⟨m, hm, h3, h4, h5⟩
      · cases h3
      · exact .inr ⟨m, by omega, h3, h4, h5⟩
theorem given2_eq (s : E23) (l : List E72) (h0 : l.length < 2 ^ 62) :
    (24 < l.length ∧ G49_v2 s l = some (.inl (((), (3, ())), ()))) ∨ (l.length ≤ 24 ∧ ¬ SlOk s l ∧ G49_v2 s l = some (.inl (((), (2, ())), ()))) ∨ (SlOk s l ∧ G49_v2 s l = some (.inr (((), (0, ())), (s, ([], (XX s l, ())))))) := by
  unfold G49_v2
  by_cases hl : l.length ≤ 24
  case neg =>
    rw [decide_eq_true (p := (l.length : Int) > 24) (by omega)]
    exact .inl ⟨by omega, rfl⟩
  right
  rw [decide_eq_false (p := (l.length : Int) > 24) (by omega), cond_false]
  by_cases hs : StrOk s
  case neg =>
    rw [(valid_tells s).nval hs]
    exact .inl ⟨hl, fun h => hs h.2.1, rfl⟩
  rw [(valid_tells s).val hs]
  simp only [Option.bind_some, Bool.not_true, cond_false]
  rw [cf81 l s hs h0]
  simp only [Option.bind_some]
  cases ha : l.any (fun r => !decide (RdOk s r)) with
  | true =>
    refine .inl ⟨hl, fun h => ?_, rfl⟩
    rw [List.any_eq_true] at ha
    obtain ⟨x, hx, hx'⟩ := ha
    rw [decide_eq_true (h.2.2 x hx)] at hx'
    cases hx'
  | false =>
    have hr : RdsOk s l := by
      intro r hr
      have := List.any_eq_false.1 ha r hr
      simpa using this
    exact .inr ⟨⟨hl, hs, hr⟩, rfl⟩
def LeastOut (s : E23) (l : List E72) (out : List E26) : Prop := ∃ m, m ≤ nC s ∧ (∀ m', m' < m → exs s l (comb (nC s) (nC s) m' 0) = []) ∧ exs s l (comb (nC s) (nC s) m 0) ≠ [] ∧ out = (exs s l (comb (nC s) (nC s) m 0)).map (causeOf s)
theorem sleast_eq (s : E23) (l : List E72) (h0 : l.length < 2 ^ 62) :
    (24 < l.length ∧ g25_sense_Least s l = some ([], (3, ()))) ∨ (l.length ≤ 24 ∧ ¬ SlOk s l ∧ g25_sense_Least s l = some ([], (2, ()))) ∨ (SlOk s l ∧ (((∀ m, m ≤ nC s → exs s l (comb (nC s) (nC s) m 0) = []) ∧ g25_sense_Least s l = some ([], (5, ()))) ∨ (∃ out, LeastOut s l out ∧ g25_sense_Least s l = some (out, (0, ()))))) := by
  unfold g25_sense_Least
  rcases given2_eq s l h0 with ⟨h, e⟩ | ⟨h, h', e⟩ | ⟨hsl, e⟩
  · rw [e]; exact .inl ⟨h, rfl⟩
  · rw [e]; exact .inr (.inl ⟨h, h', rfl⟩)
  · rw [e]
    refine .inr (.inr ⟨hsl, ?_⟩)
    have hn : l.length ≤ 1000 := by have := hsl.1; omega
    obtain ⟨r, u', M', e2, hF⟩ := all93L hsl.2.1 hsl.2.2 hn (memo_nil s l)
    have hn10 := nC_le hsl.2.1
    simp only [Option.bind_some, altK]
    have e0 : ((0 : Int) != 0) = false := rfl
    simp only [e0, cond_false]
    rw [show G64 ((XX s l).1, ((XX s l).2.1, ((), (XX s l).2.2.2))) = _ from many_eq hsl.2.1 l]
    simp only [Option.bind_some, G63]
    rw [show G93 (0, UC45) ((nC s : Nat) : Int) [] (-1) ((XX s l).1, ((XX s l).2.1, ((), (XX s l).2.2.2))) [] = _ from e2]
    simp only [Option.bind_some, p93L]
    have e00 : ((0 : Nat) == 0) = true := rfl
    have e40 : ((4 : Nat) == 0) = false := rfl
    have e44 : ((4 : Nat) == 4) = true := rfl
    rcases feedL_all (n := nC s) (by omega) (nC s + 1) r u' hF with ⟨_, rfl, h3⟩ | ⟨m, hm, h3, h4, h5⟩
    · left
      refine ⟨fun m hm => h3 m (by omega), ?_⟩
      rfl
    · right
      refine ⟨_, ⟨m, by omega, h3, h4, rfl⟩, ?_⟩
      have hne : (((exs s l (comb (nC s) (nC s) m 0)).map (causeOf s)).length : Int) ≠ 0 := by
        rw [List.length_map]
        have := List.length_pos_iff.2 h4
        omega
      rcases h5 with ⟨_, rfl⟩ | ⟨_, rfl⟩
      · simp only [e00, cond_true, beq_eq_false_iff_ne.2 hne, cond_false]
      · simp only [e40, e44, cond_true, beq_eq_false_iff_ne.2 hne, cond_false]
end Go.Proofs.YtibmgbalfhfcdaaDoor.Abs
set_option linter.unusedVariables false
set_option linter.unusedSimpArgs false
set_option maxRecDepth 100000
namespace Go.Proofs.YtibmgbalfhfcdaaDoor.Abs
open Classical
def farOf (s : E23) (r : E72) : Int := s.1 + (s.2.1 + s.2.2.1) * r.2.1
theorem far_bd {s : E23} (hs : StrOk s) {r : E72} (hr : RdOk s r) : 0 ≤ farOf s r ∧ farOf s r ≤ 12100 := by
  have h1 := hs.err
  have h2 := hs.drift
  have h3 := hs.warm
  have h4 := mulb (m := s.2.1 + s.2.2.1) (w := r.2.1) (by omega) (by omega) hr.2.2.1 hr.2.2.2.1
  have h5 : 0 ≤ (s.2.1 + s.2.2.1) * r.2.1 := Int.mul_nonneg (by omega) hr.2.2.1
  unfold farOf
  omega
theorem agr1_far {s : E23} (hs : StrOk s) {r : E72} (hr : RdOk s r) {T m : Int} (hm : -(s.2.1 + s.2.2.1) ≤ m ∧ m ≤ s.2.1 + s.2.2.1) (h : agr1 s r T m = true) : r.2.2.1 - farOf s r ≤ T ∧ T ≤ r.2.2.1 + farOf s r := by
  unfold agr1 at h
  simp only [Bool.and_eq_true, decide_eq_true_eq] at h
  have a1 := Int.mul_le_mul_of_nonneg_right hm.1 hr.2.2.1
  have a2 := Int.mul_le_mul_of_nonneg_right hm.2 hr.2.2.1
  rw [Int.neg_mul] at a1
  unfold farOf
  omega
def InB (s : E23) (l : List E72) (d : Nat) (q : E56) : Prop := (2000 ≤ q.1 ∧ q.1 ≤ 20000) ∧ (-20000 ≤ q.2.1 ∧ q.2.1 ≤ 3200) ∧ ∀ b m T, DC s l b d m T → q.1 ≤ T ∧ T ≤ q.2.1
theorem dc_far {s : E23} {l : List E72} (hs : StrOk s) (hl : RdsOk s l) {b d : Nat} {m T : Int} (h : DC s l b d m T) {r : E72} (hr : r ∈ l) {i : Nat} (hi : r.1 = (i : Int)) (hi' : i < (s.2.2.2.2.1).length) (he : (s.2.2.2.2.1).getD i 0 = (d : Int)) : r.2.2.1 - farOf s r ≤ T ∧ T ≤ r.2.2.1 + farOf s r := by
  obtain ⟨q, q1, q2, q3⟩ := h.2.2 i hi' he
  have h1 := h.1
  have hS : moS s b i ≤ s.2.1 := by have := hs.drift; unfold moS; cases b.testBit i <;> simp <;> omega
  have hD : moD s b d ≤ s.2.2.1 := by have := hs.warm; unfold moD; cases b.testBit ((s.2.2.2.2.1).length + d) <;> simp <;> omega
  unfold agr at q3
  rw [List.all_eq_true] at q3
  have := q3 r hr
  rw [beq_iff_eq.2 hi] at this
  exact agr1_far hs (hl r hr) (m := m + q) (by omega) (by simpa using this)
theorem bounds_eq {s : E23} {l : List E72} (hs : StrOk s) (hl : RdsOk s l) (hn : l.length ≤ 1000) (d : Nat) : ∃ q, G84 s l d = some q ∧ InB s l d q := by
  unfold G84
  obtain ⟨st, e, q, i, rfl, h1, h2, h3⟩ := iter_inv (step := G84_l0_step) (k := 0) (n := l.length)
    (fun i st => ∃ q : E56, st = ((l, ((d : Int), ((i : Int), ()))), (s, ((0, (0, ())), (q, ())))) ∧ InB s l d q)
    (fun st => ∃ (q : E56) (i : Int), st = ((l, ((d : Int), (i, ()))), (s, ((0, (0, ())), (q, ())))) ∧ InB s l d q)
    (by
      rintro i st ⟨q, rfl, h1, h2, h3⟩ hi
      have hr := hl _ (getD_mem hi (d := (0, (0, (0, ())))))
      have hm := getD_mem hi (d := ((0, (0, (0, ()))) : E72))
      unfold G84_l0_step
      simp only [lt_int hi, ge0, Bool.and_self, cond_true, getD_toNat, wr1 (i := i) (by omega)]
      generalize l.getD i (0, (0, (0, ()))) = r at hr hm ⊢
      obtain ⟨j, hj, hj'⟩ := rd_i hr
      have hf := far_bd hs hr
      have e1 := hs.err
      have e2 := hs.drift
      have e3 := hs.warm
      have e4 := mulb (m := s.2.1 + s.2.2.1) (w := r.2.1) (by omega) (by omega) hr.2.2.1 hr.2.2.2.1
      have e5 := hr.2.2.2.2
      simp only [hj, ge0, lt_int hj', Bool.and_self, cond_true, getD_toNat]
      by_cases he : (s.2.2.2.2.1).getD j 0 = (d : Int)
      · rw [beq_iff_eq.2 he, cond_true]
        rw [wr (n := s.2.1 + s.2.2.1) (by omega) (by omega), wr (n := (s.2.1 + s.2.2.1) * r.2.1) (by omega) (by omega), wr (n := s.1 + (s.2.1 + s.2.2.1) * r.2.1) (by omega) (by omega)]
        rw [show s.1 + (s.2.1 + s.2.2.1) * r.2.1 = farOf s r from rfl]
        rw [wr (n := r.2.2.1 - farOf s r) (by omega) (by omega), wr (n := r.2.2.1 + farOf s r) (by omega) (by omega)]
        refine ⟨_, rfl, _, rfl, ⟨?_, ?_⟩, ⟨?_, ?_⟩, fun b m T hT => ?_⟩
        · simp only; split <;> omega
        · simp only; split <;> omega
        · simp only; split <;> omega
        · simp only; split <;> omega
        · have a1 := h3 b m T hT
          have a2 := dc_far hs hl hT hm hj hj' he
          constructor
          · simp only
            split <;> omega
          · simp only
            split <;> omega
      · rw [beq_eq_false_iff_ne.2 he, cond_false]
        exact ⟨_, rfl, _, rfl, h1, h2, h3⟩)
    (by
      rintro st ⟨q, rfl, h⟩
      unfold G84_l0_step
      simp only [nlt_int, cond_false]
      exact ⟨_, rfl, q, _, rfl, h⟩)
    l.length 0 (G84_l0_fuel ((l, ((d : Int), (0, ()))), (s, ((0, (0, ())), ((2000, (3200, ())), ()))))) ((l, ((d : Int), (0, ()))), (s, ((0, (0, ())), ((2000, (3200, ())), ())))) (by omega) (by unfold G84_l0_fuel; simp) ⟨_, rfl, ⟨by simp, by simp⟩, ⟨by simp, by simp⟩, fun b m T hT => (hT.bd hs).2⟩
  rw [show G84_l0_run ((l, ((d : Int), (0, ()))), (s, ((0, (0, ())), ((2000, (3200, ())), ())))) = _ from e]
  exact ⟨q, rfl, h1, h2, h3⟩
theorem work_some {s : E23} {l : List E72} (hs : StrOk s) (hl : RdsOk s l) (hn : l.length ≤ 1000) : ∃ n, G44 s l = some n := by
  have hdep := hs.depths
  unfold G44
  obtain ⟨st, e, h⟩ := iter_inv (step := G44_l0_step) (k := 0) (n := (s.2.2.2.1).toNat)
    (fun i st => ∃ n : Int, st = ((l, (n, ((i : Int), ()))), (s, ())))
    (fun st => True)
    (by
      rintro i st ⟨n, rfl⟩ hi
      obtain ⟨q, e, _⟩ := bounds_eq hs hl hn i
      have hlt : decide ((i : Int) < s.2.2.2.1) = true := decide_eq_true (by omega)
      unfold G44_l0_step
      simp only [hlt, cond_true, e, Option.bind_some, wr1 (i := i) (by omega)]
      exact ⟨_, rfl, _, rfl⟩)
    (by
      rintro st ⟨n, rfl⟩
      have hlt : decide (((s.2.2.2.1.toNat : Nat) : Int) < s.2.2.2.1) = false := decide_eq_false (by omega)
      unfold G44_l0_step
      simp only [hlt, cond_false]
      exact ⟨_, rfl, trivial⟩)
    (s.2.2.2.1).toNat 0 (G44_l0_fuel ((l, (1, (0, ()))), (s, ()))) ((l, (1, (0, ()))), (s, ())) (by omega) (by unfold G44_l0_fuel; simp only; omega) ⟨1, rfl⟩
  rw [show G44_l0_run ((l, (1, (0, ()))), (s, ())) = _ from e]
  exact ⟨_, rfl⟩
theorem light_some {s : E23} {l : List E72} (hs : StrOk s) (hl : RdsOk s l) (hn : l.length ≤ 1000) {n : Int} (h0 : n ≠ 0) : ∃ b, G14 s l n = some b := by
  unfold G14
  obtain ⟨w, e⟩ := work_some hs hl hn
  rw [e, decide_eq_false h0]
  exact ⟨_, rfl⟩
def okR (s : E23) (i T m : Int) (r : E72) : Bool := !(r.1 == i) || agr1 s r T m
theorem agr_idx {s : E23} {l : List E72} {i T m : Int} (d : E72) : agr s l i T m = true ↔ ∀ j, j < l.length → okR s i T m (l.getD j d) = true := by
  unfold agr
  rw [List.all_eq_true]
  exact (forall_getD d).symm
theorem rdrift_l1 {s : E23} {l : List E72} (hs : StrOk s) (hl : RdsOk s l) (hn : l.length ≤ 1000) {T m : Int} (hT : 2000 ≤ T ∧ T ≤ 3200) {q : Int} (hm : -60 ≤ m + q ∧ m + q ≤ 60) (hm2 : -40 ≤ m ∧ m ≤ 40) (i : Nat) (x1 x2 : Int) (x3 : Bool) :
    ∃ k u, G92_l1_run ((l, ((i : Int), (T, (m, (x1, (x2, (x3, (q, (true, (0, ())))))))))), (s, ())) = some (k, ((l, ((i : Int), (T, (m, (x1, (x2, (x3, (q, (agr s l i T (m + q), (u, ())))))))))), (s, ()))) := by
  have hw3 := hs.err
  unfold G92_l1_run
  obtain ⟨k, st, e, a, u, rfl, ha⟩ := iter_ex (step := G92_l1_step) (n := l.length)
    (fun j st => ∃ a, st = ((l, ((i : Int), (T, (m, (x1, (x2, (x3, (q, (a, ((j : Int), ())))))))))), (s, ())) ∧ (a = true ↔ ∀ j', j' < j → okR s i T (m + q) (l.getD j' (0, (0, (0, ())))) = true))
    (fun k st => ∃ a u, st = ((l, ((i : Int), (T, (m, (x1, (x2, (x3, (q, (a, (u, ())))))))))), (s, ())) ∧ (a = true ↔ ∀ j', j' < l.length → okR s i T (m + q) (l.getD j' (0, (0, (0, ())))) = true))
    (by
      rintro j st ⟨a, rfl, ha⟩ hj
      have hr := hl _ (getD_mem hj (d := (0, (0, (0, ())))))
      cases a with
      | false =>
        unfold G92_l1_step
        simp only [lt_int hj, cond_true, cond_false]
        refine .inr ⟨0, _, rfl, false, _, rfl, ⟨fun h => (by cases h), fun h => ?_⟩⟩
        exact ha.2 fun j' hj' => h j' (by omega)
      | true =>
        have hall := ha.1 rfl
        left
        unfold G92_l1_step
        simp only [lt_int hj, ge0, Bool.and_self, cond_true, getD_toNat, wr1 (i := j) (by omega)]
        have nxt : ∀ b, (b = true ↔ okR s i T (m + q) (l.getD j (0, (0, (0, ())))) = true) → (b = true ↔ ∀ j', j' < j + 1 → okR s i T (m + q) (l.getD j' (0, (0, (0, ())))) = true) := fun b hb => by
          rw [hb]
          refine ⟨fun h j' hj' => ?_, fun h => h j (by omega)⟩
          rcases Nat.lt_succ_iff_lt_or_eq.1 hj' with h' | h'
          · exact hall j' h'
          · rw [h']; exact h
        by_cases he : (l.getD j (0, (0, (0, ())))).1 = (i : Int)
        · rw [beq_iff_eq.2 he, cond_true]
          have hmm := mulb (m := m + q) (w := (l.getD j (0, (0, (0, ())))).2.1) (by omega) (by omega) hr.2.2.1 hr.2.2.2.1
          rw [wr (n := m + q) (by omega) (by omega), wr (n := (m + q) * (l.getD j (0, (0, (0, ())))).2.1) (by omega) (by omega), wr (n := T + (m + q) * (l.getD j (0, (0, (0, ())))).2.1) (by omega) (by omega), wr (by omega) (by omega), wr (by omega) (by omega), rin_tells]
          refine ⟨_, rfl, _, rfl, nxt _ ?_⟩
          unfold okR agr1
          rw [beq_iff_eq.2 he]
          simp only [Bool.not_true, Bool.false_or, Bool.and_eq_true, decide_eq_true_eq]
          omega
        · rw [beq_eq_false_iff_ne.2 he, cond_false]
          refine ⟨_, rfl, _, rfl, nxt _ ?_⟩
          unfold okR
          rw [beq_eq_false_iff_ne.2 he]
          simp)
    (by
      rintro st ⟨a, rfl, ha⟩
      unfold G92_l1_step
      simp only [nlt_int, cond_false]
      exact ⟨0, _, rfl, a, _, rfl, ha⟩)
    l.length 0 (G92_l1_fuel ((l, ((i : Int), (T, (m, (x1, (x2, (x3, (q, (true, (0, ())))))))))), (s, ()))) ((l, ((i : Int), (T, (m, (x1, (x2, (x3, (q, (true, (0, ())))))))))), (s, ())) (by omega) (by unfold G92_l1_fuel; simp) ⟨true, rfl, by simp⟩
  have : a = agr s l i T (m + q) := Bool.eq_iff_iff.2 (ha.trans (agr_idx _).symm)
  subst this
  exact ⟨k, u, e⟩
theorem rdrift_eq {s : E23} {l : List E72} (hs : StrOk s) (hl : RdsOk s l) (hn : l.length ≤ 1000) (i : Nat) {T m mo : Int} (hT : 2000 ≤ T ∧ T ≤ 3200) (hm : -40 ≤ m ∧ m ≤ 40) (hmo : 0 ≤ mo ∧ mo ≤ 20) :
    (∃ q, -mo ≤ q ∧ q ≤ mo ∧ agr s l i T (m + q) = true ∧ (∀ q', -mo ≤ q' → q' < q → agr s l i T (m + q') = false) ∧ G92 s l i T m mo = some (q, (true, ()))) ∨
      ((∀ q, -mo ≤ q → q ≤ mo → agr s l i T (m + q) = false) ∧ G92 s l i T m mo = some (0, (false, ()))) := by
  unfold G92
  rw [wr (n := 0 - mo) (by omega) (by omega)]
  have key := iter_fn (step := G92_l0_step) (n := (2 * mo + 1).toNat) (k1 := 0) (k2 := 1) (fuel := G92_l0_fuel ((l, ((i : Int), (T, (m, (mo, (0, (false, (0 - mo, ())))))))), (s, ())))
    (bad := fun k => agr s l i T (m + ((k : Int) - mo)))
    (fun k => ((l, ((i : Int), (T, (m, (mo, (0, (false, ((k : Int) - mo, ())))))))), (s, ())))
    (fun k => ((l, ((i : Int), (T, (m, (mo, ((k : Int) - mo, (true, ((k : Int) - mo, ())))))))), (s, ())))
    ((l, ((i : Int), (T, (m, (mo, (0, (false, ((((2 * mo + 1).toNat : Nat) : Int) - mo, ())))))))), (s, ())) (fun k hk => by
      have hk' : (k : Int) ≤ 2 * mo := by omega
      have hle : decide ((k : Int) - mo ≤ mo) = true := decide_eq_true (by omega)
      obtain ⟨k', u, e⟩ := rdrift_l1 hs hl hn hT (q := (k : Int) - mo) (by omega) hm i mo 0 false
      unfold G92_l0_step
      simp only [hle, cond_true]
      rw [e]
      simp only [Option.bind_some]
      rw [wr (n := (k : Int) - mo + 1) (by omega) (by omega)]
      cases agr s l i T (m + ((k : Int) - mo)) with
      | true => rfl
      | false =>
        have e : (k : Int) - mo + 1 = ((k + 1 : Nat) : Int) - mo := by omega
        rw [e]; rfl) (by
      have hle : decide ((((2 * mo + 1).toNat : Nat) : Int) - mo ≤ mo) = false := decide_eq_false (by omega)
      unfold G92_l0_step
      simp only [hle, cond_false]) (by unfold G92_l0_fuel; omega)
  have e0 : (((0 : Nat) : Int) - mo) = 0 - mo := rfl
  rcases key with ⟨k, hk, hb, hbelow, he⟩ | ⟨hall, he⟩
  · left
    rw [show G92_l0_run ((l, ((i : Int), (T, (m, (mo, (0, (false, (0 - mo, ())))))))), (s, ())) = _ from he]
    refine ⟨(k : Int) - mo, by omega, by omega, hb, fun q' h1 h2 => ?_, rfl⟩
    have := hbelow (q' + mo).toNat (by omega)
    have e : (((q' + mo).toNat : Nat) : Int) - mo = q' := by omega
    rw [e] at this
    exact this
  · right
    rw [show G92_l0_run ((l, ((i : Int), (T, (m, (mo, (0, (false, (0 - mo, ())))))))), (s, ())) = _ from he]
    refine ⟨fun q h1 h2 => ?_, rfl⟩
    have := hall (q + mo).toNat (by omega)
    have e : (((q + mo).toNat : Nat) : Int) - mo = q := by omega
    rw [e] at this
    exact this
def cntA (s : E23) (d : Nat) : Nat → Nat
  | 0 => 0
  | i + 1 => cntA s d i + (if atN s i = d then 1 else 0)
theorem cntA_le (s : E23) (d : Nat) : ∀ i, cntA s d i ≤ i
  | 0 => Nat.le_refl _
  | i + 1 => by have := cntA_le s d i; simp only [cntA]; split <;> omega
theorem cntA_mono (s : E23) (d : Nat) {i : Nat} : ∀ j, i ≤ j → cntA s d i ≤ cntA s d j
  | 0, h => by have : i = 0 := by omega
               subst this; exact Nat.le_refl _
  | j + 1, h => by
    rcases Nat.lt_or_eq_of_le h with h | h
    · have := cntA_mono s d (i := i) j (by omega)
      simp only [cntA]; omega
    · subst h; exact Nat.le_refl _
def LeastL (s : E23) (l : List E72) (b d : Nat) (T m : Int) (L : List Int) (n : Nat) : Prop := L.length = cntA s d n ∧ ∀ i, i < n → atN s i = d → LeastD s l b i T m (L.getD (cntA s d i) 0)
theorem least_eq {s : E23} {l : List E72} (hs : StrOk s) (hl : RdsOk s l) (hn : l.length ≤ 1000) {c : E26} (hc : CauseOk s c) (h3 : (c.1).length < 2 ^ 62) (d : Nat) {T m : Int} (hT : 2000 ≤ T ∧ T ≤ 3200) (hm : -40 ≤ m ∧ m ≤ 40) :
    (Can s l (bitsOf s c) d T m ∧ ∃ L, G59 s l c d T m = some (L, (true, ())) ∧ LeastL s l (bitsOf s c) d T m L (s.2.2.2.2.1).length) ∨ (¬ Can s l (bitsOf s c) d T m ∧ G59 s l c d T m = some ([], (false, ()))) := by
  have hlen := hs.len
  unfold G59
  obtain ⟨k, st, e, h⟩ := iter_ex (step := G59_l0_step) (n := (s.2.2.2.2.1).length)
    (fun i st => ∃ L, st = ((l, ((d : Int), (T, (m, ([], (false, (L, ((i : Int), ())))))))), (s, (c, ()))) ∧ LeastL s l (bitsOf s c) d T m L i)
    (fun k st => (∃ L i, k = 1 ∧ st = ((l, ((d : Int), (T, (m, ([], (false, (L, ((i : Int), ())))))))), (s, (c, ()))) ∧ LeastL s l (bitsOf s c) d T m L (s.2.2.2.2.1).length) ∨ (∃ L i, k = 0 ∧ st = ((l, ((d : Int), (T, (m, ([], (false, (L, ((i : Int), ())))))))), (s, (c, ()))) ∧ ¬ Can s l (bitsOf s c) d T m))
    (by
      rintro i st ⟨L, rfl, h1, h2⟩ hi
      obtain ⟨ha, ha'⟩ := at_ok hs hi
      unfold G59_l0_step
      simp only [lt_int hi, ge0, Bool.and_self, cond_true, getD_toNat, wr1 (i := i) (by omega)]
      by_cases he : atN s i = d
      case neg =>
        rw [beqn_t (a := (s.2.2.2.2.1).getD i 0) (b := (d : Int)) (by omega), cond_true]
        refine .inl ⟨_, rfl, L, rfl, by simp only [cntA, if_neg he]; omega, fun j hj hp => ?_⟩
        rcases Nat.lt_succ_iff_lt_or_eq.1 hj with h | h
        · exact h2 j h hp
        · subst h; exact absurd hp he
      rw [beqn_f (a := (s.2.2.2.2.1).getD i 0) (b := (d : Int)) (by omega), cond_false]
      have hcl := cntA_le s d i
      have fin : ∀ mo, moS s (bitsOf s c) i = mo →
          (∃ s' : TY92, (Option.bind (G92 s l (i : Int) T m mo) fun r2 => (bif (!r2.2.1) then some (1, ((l, ((d : Int), (T, (m, ([], (false, (L, ((i : Int), ())))))))), (s, (c, ())))) else (bif (decide (List.length L + List.length [r2.1] ≤ LIM)) then some (0, ((l, ((d : Int), (T, (m, ([], (false, (L ++ [r2.1], (((i + 1 : Nat) : Int), ())))))))), (s, (c, ())))) else none))) = some (0, s') ∧ ∃ L, s' = ((l, ((d : Int), (T, (m, ([], (false, (L, (((i + 1 : Nat) : Int), ())))))))), (s, (c, ()))) ∧ LeastL s l (bitsOf s c) d T m L (i + 1)) ∨
          (∃ (k : Nat) (s' : TY92), (Option.bind (G92 s l (i : Int) T m mo) fun r2 => (bif (!r2.2.1) then some (1, ((l, ((d : Int), (T, (m, ([], (false, (L, ((i : Int), ())))))))), (s, (c, ())))) else (bif (decide (List.length L + List.length [r2.1] ≤ LIM)) then some (0, ((l, ((d : Int), (T, (m, ([], (false, (L ++ [r2.1], (((i + 1 : Nat) : Int), ())))))))), (s, (c, ())))) else none))) = some (k + 1, s') ∧ ((∃ L i, k = 1 ∧ s' = ((l, ((d : Int), (T, (m, ([], (false, (L, ((i : Int), ())))))))), (s, (c, ()))) ∧ LeastL s l (bitsOf s c) d T m L (s.2.2.2.2.1).length) ∨ (∃ L i, k = 0 ∧ s' = ((l, ((d : Int), (T, (m, ([], (false, (L, ((i : Int), ())))))))), (s, (c, ()))) ∧ ¬ Can s l (bitsOf s c) d T m))) := by
        intro mo hmo
        have hb := moS_bd hs (bitsOf s c) i
        rcases rdrift_eq hs hl hn i hT hm (mo := mo) (by omega) with ⟨q, q1, q2, q3, q4, q5⟩ | ⟨q1, q2⟩
        · left
          rw [q5]
          simp only [Option.bind_some, Bool.not_true, cond_false, lim_ok (n := L.length) (m := List.length [q]) (by omega) (by simp), cond_true]
          refine ⟨_, rfl, _, rfl, by simp only [List.length_append, List.length_singleton, cntA, if_pos he]; omega, fun j hj hp => ?_⟩
          rw [getD_snoc]
          rcases Nat.lt_succ_iff_lt_or_eq.1 hj with h | h
          · have hlt : cntA s d j < cntA s d i := by
              have := cntA_mono s d (i := j + 1) i (by omega)
              simp only [cntA, if_pos hp] at this
              omega
            rw [if_pos (by omega)]
            exact h2 j h hp
          · subst h
            rw [if_neg (by omega), if_pos (by omega)]
            subst hmo
            refine ⟨⟨q1, q2⟩, q3, fun q' a1 a2 a3 => ?_⟩
            apply Classical.byContradiction
            intro hq
            rw [q4 q' a1 (by omega)] at a2
            cases a2
        · right
          rw [q2]
          refine ⟨0, _, rfl, .inr ⟨_, _, rfl, rfl, fun hcan => ?_⟩⟩
          obtain ⟨q, a1, a2, a3⟩ := hcan i hi (by omega)
          rw [q1 q (by omega) (by omega)] at a3
          cases a3
      by_cases hm' : (i : Int) ∈ c.1
      · rw [(has_tells _ _ h3).val hm']
        exact fin _ (by rw [moS_c hc hi, if_pos hm'])
      · rw [(has_tells _ _ h3).nval hm']
        exact fin _ (by rw [moS_c hc hi, if_neg hm']))
    (by
      rintro st ⟨L, rfl, h⟩
      unfold G59_l0_step
      simp only [nlt_int, cond_false]
      exact ⟨1, _, rfl, .inl ⟨L, _, rfl, rfl, h⟩⟩)
    (s.2.2.2.2.1).length 0 (G59_l0_fuel ((l, ((d : Int), (T, (m, ([], (false, ([], (0, ())))))))), (s, (c, ())))) ((l, ((d : Int), (T, (m, ([], (false, ([], (0, ())))))))), (s, (c, ()))) (by omega) (by unfold G59_l0_fuel; simp) ⟨[], rfl, rfl, fun j hj => absurd hj (by omega)⟩
  rw [show G59_l0_run ((l, ((d : Int), (T, (m, ([], (false, ([], (0, ())))))))), (s, (c, ()))) = _ from e]
  rcases h with ⟨L, i, rfl, rfl, h⟩ | ⟨L, i, rfl, rfl, h⟩
  · refine .inl ⟨fun j hj hp => ?_, L, rfl, h⟩
    obtain ⟨ha, ha'⟩ := at_ok hs hj
    have := h.2 j hj (by omega)
    exact ⟨_, this.1.1, this.1.2, this.2.1⟩
  · exact .inr ⟨h, rfl⟩
end Go.Proofs.YtibmgbalfhfcdaaDoor.Abs
set_option linter.unusedVariables false
set_option linter.unusedSimpArgs false
set_option maxRecDepth 100000
namespace Go.Proofs.YtibmgbalfhfcdaaDoor.Abs
open Classical
theorem hc_can {s : E23} {l : List E72} {b d : Nat} {m T : Int} : DC s l b d m T ↔ (-(moD s b d) ≤ m ∧ m ≤ moD s b d) ∧ (2000 ≤ T ∧ T ≤ 3200) ∧ Can s l b d T m := Iff.rfl
theorem first_l1 {s : E23} {l : List E72} (hs : StrOk s) (hl : RdsOk s l) (hn : l.length ≤ 1000) {c : E26} (hc : CauseOk s c) (h3 : (c.1).length < 2 ^ 62) (d : Nat) {T : Int} (hT : 2000 ≤ T ∧ T ≤ 3200) (B : E56) :
    (∃ m, LeastR s l (bitsOf s c) d T m ∧ ∃ m', G58_l1_run ((l, ((d : Int), (false, (moD s (bitsOf s c) d, (T, (0 - moD s (bitsOf s c) d, ())))))), (s, (c, ((0, (0, ())), (B, ()))))) = some (0, ((l, ((d : Int), (true, (moD s (bitsOf s c) d, (T, (m', ())))))), (s, (c, ((T, (m, ())), (B, ()))))))) ∨
    ((∀ m, ¬ DC s l (bitsOf s c) d m T) ∧ ∃ m', G58_l1_run ((l, ((d : Int), (false, (moD s (bitsOf s c) d, (T, (0 - moD s (bitsOf s c) d, ())))))), (s, (c, ((0, (0, ())), (B, ()))))) = some (1, ((l, ((d : Int), (false, (moD s (bitsOf s c) d, (T, (m', ())))))), (s, (c, ((0, (0, ())), (B, ()))))))) := by
  have hmo := moD_bd hs (bitsOf s c) d
  have hdc : ∀ m, DC s l (bitsOf s c) d m T ↔ (-(moD s (bitsOf s c) d) ≤ m ∧ m ≤ moD s (bitsOf s c) d) ∧ Can s l (bitsOf s c) d T m := fun m => by
    rw [hc_can]; exact ⟨fun h => ⟨h.1, h.2.2⟩, fun h => ⟨h.1, hT, h.2⟩⟩
  unfold LeastR
  simp only [hdc]
  generalize moD s (bitsOf s c) d = mo at hmo ⊢
  have key := iter_fn (step := G58_l1_step) (n := (2 * mo + 1).toNat) (k1 := 0) (k2 := 1) (fuel := G58_l1_fuel ((l, ((d : Int), (false, (mo, (T, (0 - mo, ())))))), (s, (c, ((0, (0, ())), (B, ()))))))
    (bad := fun k => decide (Can s l (bitsOf s c) d T ((k : Int) - mo)))
    (fun k => ((l, ((d : Int), (false, (mo, (T, ((k : Int) - mo, ())))))), (s, (c, ((0, (0, ())), (B, ()))))))
    (fun k => ((l, ((d : Int), (true, (mo, (T, ((k : Int) - mo, ())))))), (s, (c, ((T, ((k : Int) - mo, ())), (B, ()))))))
    ((l, ((d : Int), (false, (mo, (T, ((((2 * mo + 1).toNat : Nat) : Int) - mo, ())))))), (s, (c, ((0, (0, ())), (B, ()))))) (fun k hk => by
      have hk' : (k : Int) ≤ 2 * mo := by omega
      have hle : decide ((k : Int) - mo ≤ mo) = true := decide_eq_true (by omega)
      unfold G58_l1_step
      simp only [hle, cond_true]
      rw [wr (n := (k : Int) - mo + 1) (by omega) (by omega)]
      rcases least_eq hs hl hn hc h3 d hT (m := (k : Int) - mo) (by omega) with ⟨h1, L, h2, _⟩ | ⟨h1, h2⟩
      · rw [h2, decide_eq_true h1]; rfl
      · rw [h2, decide_eq_false h1]
        have e : (k : Int) - mo + 1 = ((k + 1 : Nat) : Int) - mo := by omega
        rw [e]; rfl) (by
      have hle : decide ((((2 * mo + 1).toNat : Nat) : Int) - mo ≤ mo) = false := decide_eq_false (by omega)
      unfold G58_l1_step
      simp only [hle, cond_false]) (by unfold G58_l1_fuel; omega)
  have e0 : (((0 : Nat) : Int) - mo) = 0 - mo := rfl
  rcases key with ⟨k, hk, hb, hbelow, he⟩ | ⟨hall, he⟩
  · left
    refine ⟨(k : Int) - mo, ⟨⟨⟨by omega, by omega⟩, of_decide_eq_true hb⟩, fun m hm => ?_⟩, _, he⟩
    apply Classical.byContradiction
    intro hlt
    have := of_decide_eq_false (hbelow (m + mo).toNat (by omega))
    have e : (((m + mo).toNat : Nat) : Int) - mo = m := by omega
    rw [e] at this
    exact this hm.2
  · right
    refine ⟨fun m hm => ?_, _, he⟩
    have := of_decide_eq_false (hall (m + mo).toNat (by omega))
    have e : (((m + mo).toNat : Nat) : Int) - mo = m := by omega
    rw [e] at this
    exact this hm.2
theorem first_eq {s : E23} {l : List E72} (hs : StrOk s) (hl : RdsOk s l) (hn : l.length ≤ 1000) {c : E26} (hc : CauseOk s c) (h3 : (c.1).length < 2 ^ 62) (h4 : (c.2.1).length < 2 ^ 62) (d : Nat) :
    (∃ T m, LeastT s l (bitsOf s c) d T ∧ LeastR s l (bitsOf s c) d T m ∧ G58 s l c d = some ((T, (m, ())), (true, ()))) ∨ ((∀ m T, ¬ DC s l (bitsOf s c) d m T) ∧ G58 s l c d = some ((0, (0, ())), (false, ()))) := by
  have hmo := moD_bd hs (bitsOf s c) d
  obtain ⟨B, eB, hB1, hB2, hB3⟩ := bounds_eq hs hl hn d
  have main : (∃ T m, LeastT s l (bitsOf s c) d T ∧ LeastR s l (bitsOf s c) d T m ∧ (Option.bind (G58_l0_run ((l, ((d : Int), (false, (moD s (bitsOf s c) d, (B.1, ()))))), (s, (c, ((0, (0, ())), (B, ())))))) fun q5 => (natK q5.1 (some (q5.2.2.2.2.1, (q5.2.1.2.2.1, ()))) (fun _ => some (((0 : Int), ((0 : Int), ())), (false, ()))))) = some ((T, (m, ())), (true, ()))) ∨
      ((∀ m T, ¬ DC s l (bitsOf s c) d m T) ∧ (Option.bind (G58_l0_run ((l, ((d : Int), (false, (moD s (bitsOf s c) d, (B.1, ()))))), (s, (c, ((0, (0, ())), (B, ())))))) fun q5 => (natK q5.1 (some (q5.2.2.2.2.1, (q5.2.1.2.2.1, ()))) (fun _ => some (((0 : Int), ((0 : Int), ())), (false, ()))))) = some ((0, (0, ())), (false, ()))) := by
    have hall : ∀ k : Nat, k < (B.2.1 - B.1 + 1).toNat → 2000 ≤ B.1 + (k : Int) ∧ B.1 + (k : Int) ≤ 3200 := fun k hk => by omega
    have R : ∀ k : Nat, ∃ X : TY96, k < (B.2.1 - B.1 + 1).toNat → (¬ (∃ m, DC s l (bitsOf s c) d m (B.1 + (k : Int))) → G58_l0_step ((l, ((d : Int), (false, (moD s (bitsOf s c) d, (B.1 + (k : Int), ()))))), (s, (c, ((0, (0, ())), (B, ()))))) = some (0, ((l, ((d : Int), (false, (moD s (bitsOf s c) d, (B.1 + ((k + 1 : Nat) : Int), ()))))), (s, (c, ((0, (0, ())), (B, ()))))))) ∧ ((∃ m, DC s l (bitsOf s c) d m (B.1 + (k : Int))) → G58_l0_step ((l, ((d : Int), (false, (moD s (bitsOf s c) d, (B.1 + (k : Int), ()))))), (s, (c, ((0, (0, ())), (B, ()))))) = some (1, X) ∧ X.1.2.2.1 = true ∧ ∃ m, X.2.2.2.1 = (B.1 + (k : Int), (m, ())) ∧ LeastR s l (bitsOf s c) d (B.1 + (k : Int)) m) := by
      intro k
      by_cases hk : k < (B.2.1 - B.1 + 1).toNat
      case neg => exact ⟨((l, ((d : Int), (false, (0, (0, ()))))), (s, (c, ((0, (0, ())), (B, ()))))), fun h => absurd h hk⟩
      have hT := hall k hk
      have hle : decide (B.1 + (k : Int) ≤ B.2.1) = true := decide_eq_true (by omega)
      unfold G58_l0_step
      simp only [hle, cond_true]
      rw [wr (n := 0 - moD s (bitsOf s c) d) (by omega) (by omega)]
      rcases first_l1 hs hl hn hc h3 d hT B with ⟨m, h1, m', h2⟩ | ⟨h1, m', h2⟩
      · rw [h2]
        exact ⟨_, fun _ => ⟨fun h => absurd ⟨m, h1.1⟩ h, fun _ => ⟨rfl, rfl, m, rfl, h1⟩⟩⟩
      · rw [h2]
        refine ⟨((l, ((d : Int), (false, (0, (0, ()))))), (s, (c, ((0, (0, ())), (B, ()))))), fun _ => ⟨fun _ => ?_, fun ⟨m, hm⟩ => absurd hm (h1 m)⟩⟩
        simp only [Option.bind_some, natK]
        rw [wr (n := B.1 + (k : Int) + 1) (by omega) (by omega)]
        have e : B.1 + (k : Int) + 1 = B.1 + ((k + 1 : Nat) : Int) := by omega
        rw [e]
    have key := iter_fn (step := G58_l0_step) (n := (B.2.1 - B.1 + 1).toNat) (k1 := 0) (k2 := 1) (fuel := G58_l0_fuel ((l, ((d : Int), (false, (moD s (bitsOf s c) d, (B.1, ()))))), (s, (c, ((0, (0, ())), (B, ()))))))
      (bad := fun k => decide (∃ m, DC s l (bitsOf s c) d m (B.1 + (k : Int))))
      (fun k => ((l, ((d : Int), (false, (moD s (bitsOf s c) d, (B.1 + (k : Int), ()))))), (s, (c, ((0, (0, ())), (B, ()))))))
      (fun k => (R k).choose)
      ((l, ((d : Int), (false, (moD s (bitsOf s c) d, (B.1 + (((B.2.1 - B.1 + 1).toNat : Nat) : Int), ()))))), (s, (c, ((0, (0, ())), (B, ()))))) (fun k hk => by
        have := (R k).choose_spec hk
        by_cases h : ∃ m, DC s l (bitsOf s c) d m (B.1 + (k : Int))
        · rw [decide_eq_true h]; exact (this.2 h).1
        · rw [decide_eq_false h]; exact this.1 h) (by
        have hle : decide (B.1 + (((B.2.1 - B.1 + 1).toNat : Nat) : Int) ≤ B.2.1) = false := decide_eq_false (by omega)
        unfold G58_l0_step
        simp only [hle, cond_false]) (by unfold G58_l0_fuel; omega)
    have e0 : B.1 + ((0 : Nat) : Int) = B.1 := by omega
    simp only [e0] at key
    rcases key with ⟨k, hk, hb, hbelow, he⟩ | ⟨hno, he⟩
    · left
      rw [show G58_l0_run ((l, ((d : Int), (false, (moD s (bitsOf s c) d, (B.1, ()))))), (s, (c, ((0, (0, ())), (B, ()))))) = _ from he]
      have hex := of_decide_eq_true hb
      obtain ⟨_, h2, m, h5, h6⟩ := ((R k).choose_spec hk).2 hex
      refine ⟨B.1 + (k : Int), m, ⟨hex, fun m' T' hT' => ?_⟩, h6, ?_⟩
      · apply Classical.byContradiction
        intro hlt
        have hin := hB3 _ _ _ hT'
        have := of_decide_eq_false (hbelow (T' - B.1).toNat (by omega))
        have e : B.1 + (((T' - B.1).toNat : Nat) : Int) = T' := by omega
        rw [e] at this
        exact this ⟨m', hT'⟩
      · simp only [Option.bind_some, natK]
        rw [h2, h5]
    · right
      rw [show G58_l0_run ((l, ((d : Int), (false, (moD s (bitsOf s c) d, (B.1, ()))))), (s, (c, ((0, (0, ())), (B, ()))))) = _ from he]
      refine ⟨fun m T hT => ?_, rfl⟩
      have hin := hB3 _ _ _ hT
      have := of_decide_eq_false (hno (T - B.1).toNat (by omega))
      have e : B.1 + (((T - B.1).toNat : Nat) : Int) = T := by omega
      rw [e] at this
      exact this ⟨m, hT⟩
  unfold G58
  by_cases hm : (d : Int) ∈ c.2.1
  · rw [(has_tells _ _ h4).val hm]
    simp only [Option.bind_some, cond_true, eB]
    have : moD s (bitsOf s c) d = s.2.2.1 := by rw [moD_c hc, if_pos hm]
    rw [this] at main
    exact main
  · rw [(has_tells _ _ h4).nval hm]
    simp only [Option.bind_some, cond_false, eB]
    have : moD s (bitsOf s c) d = 0 := by rw [moD_c hc, if_neg hm]
    rw [this] at main
    exact main
theorem rexplains_tells {s : E23} {l : List E72} (hs : StrOk s) (hl : RdsOk s l) (hn : l.length ≤ 1000) {c : E26} (hc : CauseOk s c) (h3 : (c.1).length < 2 ^ 62) (h4 : (c.2.1).length < 2 ^ 62) : Tells (G75 s l c) (Ex s l (bitsOf s c)) := by
  have hdep := hs.depths
  unfold G75
  have key := iter_fn (step := G75_l0_step) (n := (s.2.2.2.1).toNat) (k1 := 0) (k2 := 1) (fuel := G75_l0_fuel ((l, (false, (0, ()))), (s, (c, ()))))
    (bad := fun k => decide (∀ m T, ¬ DC s l (bitsOf s c) k m T))
    (fun k => ((l, (false, ((k : Int), ()))), (s, (c, ())))) (fun k => ((l, (false, ((k : Int), ()))), (s, (c, ())))) ((l, (false, ((((s.2.2.2.1).toNat : Nat) : Int), ()))), (s, (c, ()))) (fun k hk => by
      have hlt : decide ((k : Int) < s.2.2.2.1) = true := decide_eq_true (by omega)
      unfold G75_l0_step
      simp only [hlt, cond_true, wr1 (i := k) (by omega)]
      rcases first_eq hs hl hn hc h3 h4 k with ⟨T, m, h1, h2, h5⟩ | ⟨h1, h2⟩
      · rw [h5, decide_eq_false (fun h => h _ _ h2.1)]; rfl
      · rw [h2, decide_eq_true h1]; rfl) (by
      have hlt : decide (((s.2.2.2.1.toNat : Nat) : Int) < s.2.2.2.1) = false := decide_eq_false (by omega)
      unfold G75_l0_step
      simp only [hlt, cond_false]) (by unfold G75_l0_fuel; simp only; omega)
  rcases key with ⟨k, hk, hb, _, he⟩ | ⟨hall, he⟩
  · rw [show G75_l0_run ((l, (false, (0, ()))), (s, (c, ()))) = _ from he]
    refine tells_f fun h => ?_
    obtain ⟨m, T, hT⟩ := h k (by omega)
    exact of_decide_eq_true hb m T hT
  · rw [show G75_l0_run ((l, (false, (0, ()))), (s, (c, ()))) = _ from he]
    refine tells_t fun d hd => ?_
    have := of_decide_eq_false (hall d (by omega))
    exact Classical.byContradiction fun h => this fun m T hT => h ⟨m, T, hT⟩
theorem list_eq {a b : List Int} (h : a.length = b.length) (h2 : ∀ i, i < a.length → a.getD i 0 = b.getD i 0) : a = b := by
  apply List.ext_getElem h
  intro i h1 h3
  have := h2 i h1
  rwa [List.getD_eq_getElem?_getD, List.getD_eq_getElem?_getD, List.getElem?_eq_getElem h1, List.getElem?_eq_getElem h3] at this
theorem same_tells (a b : List Int) (h1 : a.length < 2 ^ 62) : Tells (G57 a b) (a = b) := by
  unfold G57
  by_cases h : a.length = b.length
  case neg =>
    rw [beqn_t (a := (a.length : Int)) (b := (b.length : Int)) (by omega)]
    exact tells_f fun e => h (by rw [e])
  rw [beqn_f (a := (a.length : Int)) (b := (b.length : Int)) (by omega), cond_false]
  have key := iter_fn (step := G57_l0_step) (n := a.length) (k1 := 0) (k2 := 1) (fuel := G57_l0_fuel ((a, (b, (false, (0, ())))), ()))
    (bad := fun i => a.getD i 0 != b.getD i 0)
    (fun i => ((a, (b, (false, ((i : Int), ())))), ())) (fun i => ((a, (b, (false, ((i : Int), ())))), ())) ((a, (b, (false, ((a.length : Int), ())))), ()) (fun i hi => by
      unfold G57_l0_step
      simp only [lt_int hi, lt_int (show i < b.length by omega), ge0, Bool.and_self, cond_true, getD_toNat, wr1 (i := i) (by omega)]
      cases a.getD i 0 != b.getD i 0 <;> rfl) (by
      unfold G57_l0_step
      simp only [nlt_int, cond_false]) (by unfold G57_l0_fuel; simp)
  rcases key with ⟨j, hj, hb, _, he⟩ | ⟨hall, he⟩
  · rw [show G57_l0_run ((a, (b, (false, (0, ())))), ()) = _ from he]
    refine tells_f fun e => ?_
    subst e
    simp at hb
  · rw [show G57_l0_run ((a, (b, (false, (0, ())))), ()) = _ from he]
    exact tells_t (list_eq h fun i hi => by simpa using hall i hi)
end Go.Proofs.YtibmgbalfhfcdaaDoor.Abs
set_option linter.unusedVariables false
set_option linter.unusedSimpArgs false
set_option maxRecDepth 100000
namespace Go.Proofs.YtibmgbalfhfcdaaDoor.Abs
open Classical
theorem strict_ext : ∀ {L L' : List Int}, L.Pairwise (· < ·) → L'.Pairwise (· < ·) → (∀ x, x ∈ L ↔ x ∈ L') → L = L'
  | [], [], _, _, _ => rfl
  | [], b :: t, _, _, h => absurd ((h b).2 (List.mem_cons_self ..)) (by simp)
  | a :: t, [], _, _, h => absurd ((h a).1 (List.mem_cons_self ..)) (by simp)
  | a :: t, b :: t', h1, h2, h => by
    obtain ⟨h3, h4⟩ := List.pairwise_cons.1 h1
    obtain ⟨h5, h6⟩ := List.pairwise_cons.1 h2
    have e : a = b := by
      rcases List.mem_cons.1 ((h a).1 (List.mem_cons_self ..)) with e | ha
      · exact e
      · rcases List.mem_cons.1 ((h b).2 (List.mem_cons_self ..)) with e | hb
        · exact e.symm
        · have := h3 b hb
          have := h5 a ha
          omega
    subst e
    congr 1
    refine strict_ext h4 h6 fun x => ⟨fun hx => ?_, fun hx => ?_⟩
    · rcases List.mem_cons.1 ((h x).1 (List.mem_cons_of_mem _ hx)) with e | h'
      · have := h3 x hx; omega
      · exact h'
    · rcases List.mem_cons.1 ((h x).2 (List.mem_cons_of_mem _ hx)) with e | h'
      · have := h5 x hx; omega
      · exact h'
theorem rising_pw {L : List Int} {B : Int} (h : Rising L B) : L.Pairwise (· < ·) := by
  have hg : ∀ i (hi : i < L.length), L.getD i 0 = L[i] := fun i hi => by rw [List.getD_eq_getElem?_getD, List.getElem?_eq_getElem hi]; rfl
  rw [List.pairwise_iff_getElem]
  intro i j hi hj hij
  induction j with
  | zero => omega
  | succ j ih =>
    have h1 := (h (j + 1) hj).2 (by omega)
    rw [show j + 1 - 1 = j by omega, hg j (by omega), hg (j + 1) hj] at h1
    rcases Nat.lt_succ_iff_lt_or_eq.1 hij with h2 | h2
    · have := ih (by omega) h2; omega
    · subst h2; exact h1
theorem ups_pw (n : Nat) (p : Nat → Bool) : (ups n p).Pairwise (· < ·) := by
  unfold ups
  rw [List.pairwise_map]
  refine (List.Pairwise.filter p List.pairwise_lt_range).imp fun h => ?_
  omega
theorem ups_rising {n : Nat} {p : Nat → Bool} {B : Int} (hB : (n : Int) ≤ B) : Rising (ups n p) B := by
  intro i hi
  have hg : ∀ i (hi : i < (ups n p).length), (ups n p).getD i 0 = (ups n p)[i] := fun i hi => by rw [List.getD_eq_getElem?_getD, List.getElem?_eq_getElem hi]; rfl
  constructor
  · obtain ⟨j, hj, _, e⟩ := ups_mem.1 (getD_mem hi (d := 0))
    rw [e]; omega
  · intro h0
    rw [hg i hi, hg (i - 1) (by omega)]
    exact List.pairwise_iff_getElem.1 (ups_pw n p) (i - 1) i (by omega) hi (by omega)
theorem causeOf_ok {s : E23} (hs : StrOk s) (b : Nat) : CauseOk s (causeOf s b) := by
  have := hs.depths
  exact ⟨ups_rising (by omega), ups_rising (by omega)⟩
theorem bits_cause {s : E23} (hs : StrOk s) {b : Nat} (hb : low b (nC s)) : bitsOf s (causeOf s b) = b := by
  have hdep := hs.depths
  apply Nat.eq_of_testBit_eq
  intro j
  rw [bitsOf_bit (causeOf_ok hs b)]
  unfold causeOf
  by_cases h1 : j < (s.2.2.2.2.1).length
  · have e2 : decide ((s.2.2.2.2.1).length ≤ j ∧ ((j - (s.2.2.2.2.1).length : Nat) : Int) ∈ (ups (s.2.2.2.1).toNat fun i => b.testBit ((s.2.2.2.2.1).length + i))) = false := decide_eq_false fun h => by omega
    simp only [e2, Bool.or_false]
    cases hj : b.testBit j with
    | true => exact decide_eq_true (ups_mem.2 ⟨j, h1, hj, rfl⟩)
    | false =>
      refine decide_eq_false fun h => ?_
      obtain ⟨i, _, hi, e⟩ := ups_mem.1 h
      have : j = i := by omega
      subst this
      rw [hj] at hi; cases hi
  · have e1 : decide ((j : Int) ∈ ups (s.2.2.2.2.1).length b.testBit) = false := decide_eq_false fun h => by
      obtain ⟨i, hi, _, e⟩ := ups_mem.1 h; omega
    simp only [e1, Bool.false_or]
    cases hj : b.testBit j with
    | true =>
      refine decide_eq_true ⟨by omega, ups_mem.2 ⟨j - (s.2.2.2.2.1).length, ?_, ?_, rfl⟩⟩
      · apply Classical.byContradiction
        intro hn
        have := hb j (by unfold nC; omega)
        rw [hj] at this; cases this
      · rw [show (s.2.2.2.2.1).length + (j - (s.2.2.2.2.1).length) = j by omega]; exact hj
    | false =>
      refine decide_eq_false fun h => ?_
      obtain ⟨i, _, hi, e⟩ := ups_mem.1 h.2
      have : (s.2.2.2.2.1).length + i = j := by omega
      rw [this, hj] at hi; cases hi
theorem cause_bits {s : E23} (hs : StrOk s) {c : E26} (hc : CauseOk s c) : causeOf s (bitsOf s c) = c := by
  have hdep := hs.depths
  obtain ⟨S, D, u⟩ := c
  have e1 : ups (s.2.2.2.2.1).length (bitsOf s (S, (D, u))).testBit = S := by
    refine strict_ext (ups_pw _ _) (rising_pw hc.1) fun x => ?_
    rw [ups_mem]
    constructor
    · rintro ⟨i, hi, hb, rfl⟩
      rw [bit_s hc hi] at hb
      exact of_decide_eq_true hb
    · intro hx
      have := rising_mem hc.1 hx
      refine ⟨x.toNat, by omega, ?_, by omega⟩
      rw [bit_s hc (by omega)]
      refine decide_eq_true ?_
      have e : ((x.toNat : Nat) : Int) = x := by omega
      rw [e]; exact hx
  have e2 : ups (s.2.2.2.1).toNat (fun i => (bitsOf s (S, (D, u))).testBit ((s.2.2.2.2.1).length + i)) = D := by
    refine strict_ext (ups_pw _ _) (rising_pw hc.2) fun x => ?_
    rw [ups_mem]
    constructor
    · rintro ⟨i, hi, hb, rfl⟩
      rw [bit_d hc] at hb
      exact of_decide_eq_true hb
    · intro hx
      have := rising_mem hc.2 hx
      refine ⟨x.toNat, by omega, ?_, by omega⟩
      rw [bit_d hc]
      refine decide_eq_true ?_
      have e : ((x.toNat : Nat) : Int) = x := by omega
      rw [e]; exact hx
  unfold causeOf
  rw [e1, e2]
theorem ups_cnt (p : Nat → Bool) (b : Nat) (k : Nat) (h : ∀ i, p i = b.testBit (k + i)) : ∀ n, (ups n p).length + cnt b k = cnt b (k + n)
  | 0 => by simp [ups]
  | n + 1 => by
    rw [ups_succ, List.length_append]
    have := ups_cnt p b k h n
    rw [show k + (n + 1) = (k + n) + 1 by omega]
    simp only [cnt, h n]
    cases b.testBit (k + n) <;> simp <;> omega
theorem cause_cnt (s : E23) (b : Nat) : ((causeOf s b).1).length + ((causeOf s b).2.1).length = cnt b (nC s) := by
  unfold causeOf nC
  have h1 := ups_cnt b.testBit b 0 (fun i => by simp) (s.2.2.2.2.1).length
  have h2 := ups_cnt (fun i => b.testBit ((s.2.2.2.2.1).length + i)) b (s.2.2.2.2.1).length (fun i => rfl) (s.2.2.2.1).toNat
  simp only [cnt, Nat.zero_add, Nat.add_zero] at h1
  simp only
  omega
theorem samecause_tells (a b : E26) (h1 : (a.1).length < 2 ^ 62) (h2 : (a.2.1).length < 2 ^ 62) : Tells (G33 a b) (a = b) := by
  unfold G33
  refine (tells_and (same_tells a.1 b.1 h1) fun _ => tells_bind (same_tells a.2.1 b.2.1 h2)).iff ⟨fun ⟨e1, e2⟩ => ?_, fun e => by rw [e]; exact ⟨rfl, rfl⟩⟩
  obtain ⟨S, D, u⟩ := a
  obtain ⟨S', D', u'⟩ := b
  simp only at e1 e2
  subst e1; subst e2
  rfl
theorem least_mem {s : E23} {l : List E72} (hs : StrOk s) {out : List E26} {m : Nat} (ho : out = (exs s l (comb (nC s) (nC s) m 0)).map (causeOf s)) {c : E26} (hc : c ∈ out) : CauseOk s c ∧ (c.1).length + (c.2.1).length = m ∧ Ex s l (bitsOf s c) := by
  have hn := nC_le hs
  rw [ho] at hc
  obtain ⟨b, hb, rfl⟩ := List.mem_map.1 hc
  obtain ⟨h1, h2⟩ := exs_mem.1 hb
  obtain ⟨h3, h4, _⟩ := comb_in (by omega) h1
  refine ⟨causeOf_ok hs b, by rw [cause_cnt]; exact h4, ?_⟩
  rw [bits_cause hs h3]; exact h2
theorem cause_len {s : E23} {c : E26} (hs : StrOk s) (hc : CauseOk s c) : (c.1).length + (c.2.1).length ≤ nC s := by
  have h1 := cause_cnt s (bitsOf s c)
  rw [cause_bits hs hc] at h1
  have := cnt_le (bitsOf s c) (nC s)
  omega
end Go.Proofs.YtibmgbalfhfcdaaDoor.Abs
set_option linter.unusedVariables false
set_option linter.unusedSimpArgs false
set_option maxRecDepth 100000
namespace Go.Proofs.YtibmgbalfhfcdaaDoor.Abs
open Classical
def fr (L : List Int) : Nat := match L.getLast? with
  | none => 0
  | some x => (x + 1).toNat
theorem fr_nil : fr [] = 0 := rfl
theorem fr_snoc (L : List Int) (x : Nat) : fr (L ++ [(x : Int)]) = x + 1 := by
  unfold fr
  rw [List.getLast?_concat]
  show ((x : Int) + 1).toNat = x + 1
  omega
def extF (L : List Int) : Nat → Nat → List (List Int)
  | _, 0 => []
  | i, k + 1 => (L ++ [(i : Int)]) :: extF L (i + 1) k
theorem extF_len (L : List Int) : ∀ k i, (extF L i k).length = k
  | 0, _ => rfl
  | k + 1, i => by simp [extF, extF_len L k (i + 1)]
theorem extF_snoc (L : List Int) : ∀ k i, extF L i (k + 1) = extF L i k ++ [L ++ [((i + k : Nat) : Int)]]
  | 0, i => by simp [extF]
  | k + 1, i => by
    rw [extF, extF_snoc L k (i + 1)]
    simp only [extF, List.cons_append]
    rw [show i + 1 + k = i + (k + 1) by omega]
def ext (n : Nat) (L : List Int) : List (List Int) := extF L (fr L) (n - fr L)
def setsS (n : Nat) : Nat → List (List Int)
  | 0 => [[]]
  | i + 1 => (setsS n i).flatMap (ext n)
def setsD (n : Nat) : Nat → List Int → List (List Int)
  | 0, L => [L]
  | j + 1, L => (ext n L).flatMap (setsD n j)
theorem setsD_ext (n : Nat) : ∀ j L, (setsD n j L).flatMap (ext n) = setsD n (j + 1) L
  | 0, L => by simp [setsD]
  | j + 1, L => by
    show ((ext n L).flatMap (setsD n j)).flatMap (ext n) = (ext n L).flatMap (setsD n (j + 1))
    rw [List.flatMap_assoc]
    congr 1
    funext x
    exact setsD_ext n j x
theorem setsS_D (n : Nat) : ∀ i, setsS n i = setsD n i []
  | 0 => rfl
  | i + 1 => by rw [setsS, setsS_D n i, setsD_ext]
def bitsL (L : List Int) : Nat := L.foldl (fun b x => b ||| 2 ^ x.toNat) 0
theorem bitsL_snoc (L : List Int) (x : Nat) : bitsL (L ++ [(x : Int)]) = bitsL L ||| 2 ^ x := by
  unfold bitsL
  rw [List.foldl_append]
  simp
theorem bitsL_bit (L : List Int) (j : Nat) : (bitsL L).testBit j = true ↔ ∃ x ∈ L, x.toNat = j := by
  have gen : ∀ (L : List Int) (b : Nat), (L.foldl (fun b x => b ||| 2 ^ x.toNat) b).testBit j = true ↔ b.testBit j = true ∨ ∃ x ∈ L, x.toNat = j := by
    intro L
    induction L with
    | nil => intro b; simp
    | cons y t ih =>
      intro b
      rw [List.foldl_cons, ih, Nat.testBit_or, Nat.testBit_two_pow]
      simp only [Bool.or_eq_true, decide_eq_true_eq, List.mem_cons, exists_eq_or_imp, or_assoc]
  unfold bitsL
  rw [gen]
  simp
theorem setsD_comb (n : Nat) : ∀ j rem L, rem ≤ n → fr L = n - rem → (setsD n j L).map bitsL = comb n rem j (bitsL L)
  | 0, rem, L, _, _ => by rw [comb_zero]; rfl
  | j + 1, rem, L, hr, hf => by
    have gen : ∀ rem, rem ≤ n → ((extF L (n - rem) rem).flatMap (setsD n j)).map bitsL = comb n rem (j + 1) (bitsL L) := by
      intro rem
      induction rem with
      | zero => intro _; simp [extF, comb]
      | succ rem ih =>
        intro hr
        have e : n - (rem + 1) + 1 = n - rem := by omega
        rw [extF, List.flatMap_cons, List.map_append, e, ih (by omega), setsD_comb n j rem _ (by omega) (by rw [fr_snoc]; omega), bitsL_snoc]
        rfl
    show ((ext n L).flatMap (setsD n j)).map bitsL = _
    unfold ext
    rw [hf, show n - (n - rem) = rem by omega]
    exact gen rem hr
theorem setsS_comb (n m : Nat) : (setsS n m).map bitsL = comb n n m 0 := by
  rw [setsS_D]
  have := setsD_comb n m n [] (Nat.le_refl _) (by rw [fr_nil]; omega)
  exact this
theorem setsS_len {n : Nat} (hn : n ≤ 10) (m : Nat) : (setsS n m).length ≤ 1024 := by
  have h1 := congrArg List.length (setsS_comb n m)
  rw [List.length_map] at h1
  have h2 := comb_len n n m 0
  have h3 : 2 ^ n ≤ 2 ^ 10 := Nat.pow_le_pow_right (by decide) hn
  omega
structure GoodL (n m : Nat) (L : List Int) : Prop where
  len : L.length = m
  pw : L.Pairwise (· < ·)
  bd : ∀ x ∈ L, 0 ≤ x ∧ x < (fr L : Int)
  fr : fr L ≤ n
  last : 0 < m → ((Abs.fr L : Nat) : Int) = L.getD (m - 1) 0 + 1
theorem extF_mem {L M : List Int} : ∀ {k i : Nat}, M ∈ extF L i k → ∃ x : Nat, i ≤ x ∧ x < i + k ∧ M = L ++ [(x : Int)]
  | 0, i, h => by cases h
  | k + 1, i, h => by
    rcases List.mem_cons.1 h with h | h
    · exact ⟨i, Nat.le_refl _, by omega, h⟩
    · obtain ⟨x, h1, h2, h3⟩ := extF_mem h
      exact ⟨x, by omega, by omega, h3⟩
theorem good_ext {n m : Nat} {L M : List Int} (h : GoodL n m L) (hM : M ∈ ext n L) : GoodL n (m + 1) M := by
  obtain ⟨x, h1, h2, rfl⟩ := extF_mem hM
  have hfr := h.fr
  have e := fr_snoc L x
  refine ⟨by simp [h.len], ?_, fun y hy => ?_, by rw [e]; omega, fun _ => ?_⟩
  · rw [List.pairwise_append]
    refine ⟨h.pw, by simp, fun a ha b hb => ?_⟩
    simp only [List.mem_singleton] at hb
    subst hb
    have := h.bd a ha
    omega
  · rw [e]
    rcases List.mem_append.1 hy with hy | hy
    · have := h.bd y hy; omega
    · simp only [List.mem_singleton] at hy; subst hy; omega
  · rw [e, show m + 1 - 1 = m by omega, getD_snoc, if_neg (by rw [h.len]; omega), if_pos h.len.symm]
    omega
theorem setsS_good (n : Nat) : ∀ m, ∀ L ∈ setsS n m, GoodL n m L
  | 0, L, hL => by
    simp only [setsS, List.mem_singleton] at hL
    subst hL
    exact ⟨rfl, List.Pairwise.nil, fun x hx => (by cases hx), by rw [fr_nil]; omega, fun h => absurd h (by omega)⟩
  | m + 1, L, hL => by
    obtain ⟨K, hK, hL⟩ := List.mem_flatMap.1 hL
    exact good_ext (setsS_good n m K hK) hL
theorem sets_l2 {n : Nat} (hn : n ≤ 10) (S : List (List Int)) (k m : Nat) (hk : k < S.length) (hS : S.length ≤ 1024) (hL : (S.getD k []).length ≤ 1000) (next : List (List Int)) (hx : next.length + (n - fr (S.getD k [])) ≤ 2000) (hf : fr (S.getD k []) ≤ n) (x1 x2 : Int) :
    ∃ i, G73_l2_run (((n : Int), (x1, (S, (x2, (next, ((k : Int), (((fr (S.getD k []) : Nat) : Int), ()))))))), ()) = some (0, (((n : Int), (x1, (S, (x2, (next ++ ext n (S.getD k []), ((k : Int), (i, ()))))))), ())) := by
  generalize hLd : S.getD k [] = L at hL hx hf
  have h := iter_run (step := G73_l2_step) (n := n - fr L) (k := 0) (fuel := G73_l2_fuel (((n : Int), (x1, (S, (x2, (next, ((k : Int), (((fr L : Nat) : Int), ()))))))), ()))
    (fun t => (((n : Int), (x1, (S, (x2, (next ++ extF L (fr L) t, ((k : Int), (((fr L + t : Nat) : Int), ()))))))), ())) (((n : Int), (x1, (S, (x2, (next ++ ext n L, ((k : Int), (((fr L + (n - fr L) : Nat) : Int), ()))))))), ()) (fun t ht => by
      have hlt : decide (((fr L + t : Nat) : Int) < (n : Int)) = true := decide_eq_true (by omega)
      have hl := extF_len L t (fr L)
      unfold G73_l2_step
      simp only [hlt, lt_int hk, ge0, Bool.and_self, cond_true, getD_toNat, hLd, List.nil_append, wr1 (i := fr L + t) (by omega)]
      rw [lim_ok (n := List.length ([] : List Int)) (m := L.length) (by simp) (by omega), cond_true, lim_ok (n := L.length) (m := List.length [((fr L + t : Nat) : Int)]) (by omega) (by simp), cond_true, lim_ok (n := (next ++ extF L (fr L) t).length) (m := List.length [L ++ [((fr L + t : Nat) : Int)]]) (by rw [List.length_append]; omega) (by simp), cond_true, extF_snoc, List.append_assoc]
      rfl) (by
      have hlt : decide (((fr L + (n - fr L) : Nat) : Int) < (n : Int)) = false := decide_eq_false (by omega)
      unfold G73_l2_step
      simp only [hlt, cond_false]
      rfl) (by unfold G73_l2_fuel; simp only; omega)
  simp only [extF, List.append_nil, Nat.add_zero] at h
  exact ⟨_, h⟩
theorem flat_len {n : Nat} : ∀ (S : List (List Int)) (k : Nat), ((S.take k).flatMap (ext n)).length ≤ (S.flatMap (ext n)).length
  | S, k => by
    have : S.flatMap (ext n) = (S.take k).flatMap (ext n) ++ (S.drop k).flatMap (ext n) := by rw [← List.flatMap_append, List.take_append_drop]
    rw [this, List.length_append]
    omega
theorem sets_l1 {n : Nat} (hn : n ≤ 10) (m : Nat) (hm : m ≤ 900) (x1 : Int) :
    ∃ i, G73_l1_run (((n : Int), (x1, (setsS n m, ((m : Int), ([], (0, ())))))), ()) = some (0, (((n : Int), (x1, (setsS n m, ((m : Int), (setsS n (m + 1), (i, ())))))), ())) := by
  have hlen := setsS_len hn m
  have hlen1 := setsS_len hn (m + 1)
  refine ⟨_, iter_run (step := G73_l1_step) (n := (setsS n m).length) (k := 0) (fuel := G73_l1_fuel (((n : Int), (x1, (setsS n m, ((m : Int), ([], (0, ())))))), ()))
    (fun k => (((n : Int), (x1, (setsS n m, ((m : Int), (((setsS n m).take k).flatMap (ext n), ((k : Int), ())))))), ())) (((n : Int), (x1, (setsS n m, ((m : Int), (setsS n (m + 1), (((setsS n m).length : Int), ())))))), ()) (fun k hk => ?_) ?_ (by unfold G73_l1_fuel; simp)⟩
  · have hg := setsS_good n m _ (getD_mem hk (d := []))
    have hfl := flat_len (n := n) (setsS n m) k
    have hsz : ((setsS n m).flatMap (ext n)).length ≤ 1024 := hlen1
    have hfr := hg.fr
    have hgl := hg.len
    obtain ⟨i, e⟩ := sets_l2 hn (setsS n m) k m hk hlen (by omega) (((setsS n m).take k).flatMap (ext n)) (by omega) hg.fr x1 (m : Int)
    have hnext : ((setsS n m).take k).flatMap (ext n) ++ ext n ((setsS n m).getD k []) = ((setsS n m).take (k + 1)).flatMap (ext n) := by
      rw [List.take_add_one, List.getElem?_eq_getElem hk, List.flatMap_append, List.getD_eq_getElem?_getD, List.getElem?_eq_getElem hk]
      simp
    rw [hnext] at e
    unfold G73_l1_step
    simp only [lt_int hk, cond_true]
    by_cases h0 : 0 < m
    · have hd : decide ((m : Int) > 0) = true := decide_eq_true (by omega)
      have hl := hg.last h0
      have hw : IntKind.wrap .i64 (((setsS n m).getD k []).getD (m - 1) 0 + 1) = ((fr ((setsS n m).getD k []) : Nat) : Int) := by rw [wr (by omega) (by omega)]; omega
      simp only [hd, cond_true, toNat_pred h0 (by omega), ge0, lt_int hk, Bool.and_self, getD_toNat, lt_int (show m - 1 < ((setsS n m).getD k []).length by omega), hw]
      rw [e]
      simp only [Option.bind_some, wr1 (i := k) (by omega)]
    · have hd : decide ((m : Int) > 0) = false := decide_eq_false (by omega)
      have h00 : fr ((setsS n m).getD k []) = 0 := by
        have : (setsS n m).getD k [] = [] := List.length_eq_zero_iff.1 (by omega)
        rw [this, fr_nil]
      rw [h00] at e
      simp only [hd, cond_false]
      rw [show G73_l2_run (((n : Int), (x1, (setsS n m, ((m : Int), (((setsS n m).take k).flatMap (ext n), ((k : Int), (0, ()))))))), ()) = _ from e]
      simp only [Option.bind_some, wr1 (i := k) (by omega)]
  · unfold G73_l1_step
    simp only [nlt_int, cond_false, List.take_length]
    rfl
theorem sets_eq {n : Nat} (hn : n ≤ 10) (m : Nat) (hm : m ≤ 900) : G73 (n : Int) (m : Int) = some (setsS n m) := by
  unfold G73
  have h : G73_l0_run (((n : Int), ((m : Int), ([[]], (0, ())))), ()) = some (0, (((n : Int), ((m : Int), (setsS n m, ((m : Int), ())))), ())) :=
    iter_run (step := G73_l0_step) (n := m) (k := 0) (fuel := G73_l0_fuel (((n : Int), ((m : Int), ([[]], (0, ())))), ()))
      (fun i => (((n : Int), ((m : Int), (setsS n i, ((i : Int), ())))), ())) _ (fun i hi => by
        obtain ⟨j, e⟩ := sets_l1 hn i (by omega) (m : Int)
        unfold G73_l0_step
        simp only [lt_int hi, cond_true]
        rw [e]
        simp only [Option.bind_some, wr1 (i := i) (by omega)]) (by
        unfold G73_l0_step
        simp only [nlt_int, cond_false]) (by unfold G73_l0_fuel; simp)
  rw [h]
  rfl
theorem told_eq {s : E23} (hs : StrOk s) {m : Nat} {L : List Int} (h : GoodL (nC s) m L) : G74 s L = some (causeOf s (bitsL L)) := by
  have hn := nC_le hs
  have hdep := hs.depths
  have hlen := hs.len
  have hfr := h.fr
  have hL : L.length ≤ 10 := by
    have h1 : L.length = m := h.len
    apply Classical.byContradiction
    intro hc
    have gen : ∀ k, k < L.length → (k : Int) ≤ L.getD k 0 := by
      intro k
      induction k with
      | zero => intro hk; have := (h.bd _ (getD_mem hk (d := 0))).1; omega
      | succ k ih =>
        intro hk
        have h2 := ih (by omega)
        have hg : ∀ i (hi : i < L.length), L.getD i 0 = L[i] := fun i hi => by rw [List.getD_eq_getElem?_getD, List.getElem?_eq_getElem hi]; rfl
        have := List.pairwise_iff_getElem.1 h.pw k (k + 1) (by omega) hk (by omega)
        rw [hg k (by omega)] at h2
        rw [hg (k + 1) hk]
        omega
    have h2 := gen (L.length - 1) (by omega)
    have h3 := h.bd _ (getD_mem (show L.length - 1 < L.length by omega) (d := 0))
    omega
  have hfl : ∀ k, ((L.take k).filter fun x => decide (x < ((s.2.2.2.2.1).length : Int))).length ≤ k ∧ ((L.take k).filter fun x => !decide (x < ((s.2.2.2.2.1).length : Int))).length ≤ k := fun k => by
    have h1 := List.length_filter_le (fun x => decide (x < ((s.2.2.2.2.1).length : Int))) (L.take k)
    have h2 := List.length_filter_le (fun x => !decide (x < ((s.2.2.2.2.1).length : Int))) (L.take k)
    rw [List.length_take] at h1 h2
    omega
  unfold G74
  have hrun : G74_l0_run ((L, (0, ())), (s, (([], ([], ())), (([], ([], ())), ())))) = some (0, ((L, ((L.length : Int), ())), (s, (([], ([], ())), (((L.take L.length).filter fun x => decide (x < ((s.2.2.2.2.1).length : Int)), (((L.take L.length).filter fun x => !decide (x < ((s.2.2.2.2.1).length : Int))).map (fun x => x - ((s.2.2.2.2.1).length : Int)), ())), ()))))) :=
    iter_run (step := G74_l0_step) (n := L.length) (k := 0) (fuel := G74_l0_fuel ((L, (0, ())), (s, (([], ([], ())), (([], ([], ())), ())))))
      (fun k => ((L, ((k : Int), ())), (s, (([], ([], ())), (((L.take k).filter fun x => decide (x < ((s.2.2.2.2.1).length : Int)), (((L.take k).filter fun x => !decide (x < ((s.2.2.2.2.1).length : Int))).map (fun x => x - ((s.2.2.2.2.1).length : Int)), ())), ()))))) _ (fun k hk => by
        have hb := h.bd _ (getD_mem hk (d := 0))
        have ht : L.take (k + 1) = L.take k ++ [L.getD k 0] := by
          rw [List.take_add_one, List.getElem?_eq_getElem hk, List.getD_eq_getElem?_getD, List.getElem?_eq_getElem hk]; rfl
        have hl := hfl k
        unfold G74_l0_step
        simp only [lt_int hk, ge0, Bool.and_self, cond_true, getD_toNat, wr1 (i := k) (by omega), ht, List.filter_append, List.map_append]
        generalize L.getD k 0 = x at hb ⊢
        by_cases hx : x < ((s.2.2.2.2.1).length : Int)
        · rw [decide_eq_true hx, cond_true, lim_ok (by omega) (by simp), cond_true]
          simp [hx]
        · rw [decide_eq_false hx, cond_false, wr (by omega) (by omega), lim_ok (by rw [List.length_map]; omega) (by simp), cond_true]
          simp [hx]) (by
        unfold G74_l0_step
        simp only [nlt_int, cond_false]) (by unfold G74_l0_fuel; simp)
  rw [hrun]
  simp only [Option.bind_some, List.take_length]
  unfold causeOf
  congr 1
  have e1 : (L.filter fun x => decide (x < ((s.2.2.2.2.1).length : Int))) = ups (s.2.2.2.2.1).length (bitsL L).testBit := by
    refine strict_ext (h.pw.filter _) (ups_pw _ _) fun x => ?_
    rw [List.mem_filter, ups_mem]
    constructor
    · rintro ⟨hx, hd⟩
      have hb := h.bd x hx
      have := of_decide_eq_true hd
      exact ⟨x.toNat, by omega, (bitsL_bit L _).2 ⟨x, hx, rfl⟩, by omega⟩
    · rintro ⟨i, hi, hb, rfl⟩
      obtain ⟨y, hy, e⟩ := (bitsL_bit L i).1 hb
      have := h.bd y hy
      have : y = (i : Int) := by omega
      subst this
      exact ⟨hy, decide_eq_true (by omega)⟩
  have e2 : ((L.filter fun x => !decide (x < ((s.2.2.2.2.1).length : Int))).map fun x => x - ((s.2.2.2.2.1).length : Int)) = ups (s.2.2.2.1).toNat (fun i => (bitsL L).testBit ((s.2.2.2.2.1).length + i)) := by
    refine strict_ext ?_ (ups_pw _ _) fun x => ?_
    · rw [List.pairwise_map]
      exact (h.pw.filter _).imp fun h => by omega
    · rw [List.mem_map, ups_mem]
      constructor
      · rintro ⟨y, hy, rfl⟩
        obtain ⟨hy, hd⟩ := List.mem_filter.1 hy
        have hb := h.bd y hy
        have hd' : ¬ y < ((s.2.2.2.2.1).length : Int) := by simpa using hd
        refine ⟨(y - ((s.2.2.2.2.1).length : Int)).toNat, by unfold nC at hfr; omega, (bitsL_bit L _).2 ⟨y, hy, by omega⟩, by omega⟩
      · rintro ⟨i, hi, hb, rfl⟩
        obtain ⟨y, hy, e⟩ := (bitsL_bit L _).1 hb
        have := h.bd y hy
        refine ⟨y, List.mem_filter.2 ⟨hy, ?_⟩, by omega⟩
        have : ¬ y < ((s.2.2.2.2.1).length : Int) := by omega
        simpa using this
  rw [e1, e2]
theorem sets_low {s : E23} {m : Nat} {L : List Int} (h : GoodL (nC s) m L) : low (bitsL L) (nC s) := by
  intro j hj
  cases hb : (bitsL L).testBit j with
  | false => rfl
  | true =>
    obtain ⟨y, hy, e⟩ := (bitsL_bit L j).1 hb
    have := h.bd y hy
    have := h.fr
    omega
theorem rex_set {s : E23} {l : List E72} (hs : StrOk s) (hl : RdsOk s l) (hn : l.length ≤ 1000) {m : Nat} {L : List Int} (h : GoodL (nC s) m L) : Tells (G75 s l (causeOf s (bitsL L))) (Ex s l (bitsL L)) := by
  have hc := causeOf_ok hs (bitsL L)
  have hcl := cause_len hs hc
  have := nC_le hs
  have h1 := rexplains_tells hs hl hn hc (by omega) (by omega)
  rw [bits_cause hs (sets_low h)] at h1
  exact h1
theorem exs_snoc (s : E23) (l : List E72) (xs : List Nat) (x : Nat) : exs s l (xs ++ [x]) = exs s l xs ++ (if Ex s l x then [x] else []) := by
  unfold exs
  rw [List.filter_append]
  by_cases h : Ex s l x <;> simp [h]
theorem exs_len (s : E23) (l : List E72) (xs : List Nat) : (exs s l xs).length ≤ xs.length := List.length_filter_le _ _
theorem rleast_l1 {s : E23} {l : List E72} (hs : StrOk s) (hl : RdsOk s l) (hn : l.length ≤ 1000) (m : Nat) (x1 : List E26) (x2 : Int) :
    ∃ i, G31_l1_run ((l, (x1, (x2, ([], (setsS (nC s) m, (0, ())))))), (s, ())) = some (0, ((l, (x1, (x2, ((exs s l (comb (nC s) (nC s) m 0)).map (causeOf s), (setsS (nC s) m, (i, ())))))), (s, ()))) := by
  have hn10 := nC_le hs
  have hlen := setsS_len hn10 m
  refine ⟨_, iter_run (step := G31_l1_step) (n := (setsS (nC s) m).length) (k := 0) (fuel := G31_l1_fuel ((l, (x1, (x2, ([], (setsS (nC s) m, (0, ())))))), (s, ())))
    (fun k => ((l, (x1, (x2, ((exs s l (((setsS (nC s) m).take k).map bitsL)).map (causeOf s), (setsS (nC s) m, ((k : Int), ())))))), (s, ()))) ((l, (x1, (x2, ((exs s l (comb (nC s) (nC s) m 0)).map (causeOf s), (setsS (nC s) m, (((setsS (nC s) m).length : Int), ())))))), (s, ())) (fun k hk => ?_) ?_ (by unfold G31_l1_fuel; simp)⟩
  · have hg := setsS_good (nC s) m _ (getD_mem hk (d := []))
    have ht : (setsS (nC s) m).take (k + 1) = (setsS (nC s) m).take k ++ [(setsS (nC s) m).getD k []] := by
      rw [List.take_add_one, List.getElem?_eq_getElem hk, List.getD_eq_getElem?_getD, List.getElem?_eq_getElem hk]; rfl
    have hsz : ((exs s l (((setsS (nC s) m).take k).map bitsL)).map (causeOf s)).length ≤ 1024 := by
      rw [List.length_map]
      have h1 := exs_len s l (((setsS (nC s) m).take k).map bitsL)
      rw [List.length_map, List.length_take] at h1
      omega
    have hex := rex_set hs hl hn hg
    unfold G31_l1_step
    simp only [lt_int hk, ge0, Bool.and_self, cond_true, getD_toNat, told_eq hs hg, Option.bind_some, wr1 (i := k) (by omega), ht, List.map_append, List.map_cons, List.map_nil, exs_snoc]
    by_cases hE : Ex s l (bitsL ((setsS (nC s) m).getD k []))
    · rw [hex.val hE, if_pos hE]
      simp only [Option.bind_some, cond_true, lim_ok (n := ((exs s l (((setsS (nC s) m).take k).map bitsL)).map (causeOf s)).length) (m := List.length [causeOf s (bitsL ((setsS (nC s) m).getD k []))]) (by omega) (by simp), List.map_cons, List.map_nil]
    · rw [hex.nval hE, if_neg hE]
      simp only [Option.bind_some, cond_false, List.map_nil, List.append_nil]
  · unfold G31_l1_step
    simp only [nlt_int, cond_false, List.take_length, setsS_comb]
theorem causes_eq {s : E23} (hs : StrOk s) : G23 s = some ((nC s : Nat) : Int) := by
  have hdep := hs.depths
  have hlen := hs.len
  unfold G23 nC
  rw [wr (by omega) (by omega)]
  congr 1
  omega
theorem rleast_eq {s : E23} {l : List E72} (hs : StrOk s) (hl : RdsOk s l) (hn : l.length ≤ 1000) :
    ((∀ m, m ≤ nC s → exs s l (comb (nC s) (nC s) m 0) = []) ∧ G31 s l = some []) ∨ (∃ out, LeastOut s l out ∧ out ≠ [] ∧ G31 s l = some out) := by
  have hn10 := nC_le hs
  unfold G31
  have key := iter_fn (step := G31_l0_step) (n := nC s + 1) (k1 := 0) (k2 := 1) (fuel := G31_l0_fuel ((l, ([], (0, ()))), (s, ())))
    (bad := fun m => decide (exs s l (comb (nC s) (nC s) m 0) ≠ []))
    (fun m => ((l, ([], ((m : Int), ()))), (s, ()))) (fun m => ((l, ((exs s l (comb (nC s) (nC s) m 0)).map (causeOf s), ((m : Int), ()))), (s, ()))) ((l, ([], (((nC s + 1 : Nat) : Int), ()))), (s, ())) (fun m hm => by
      have hle : decide ((m : Int) ≤ ((nC s : Nat) : Int)) = true := decide_eq_true (by omega)
      obtain ⟨i, e⟩ := rleast_l1 hs hl hn m [] (m : Int)
      unfold G31_l0_step
      simp only [causes_eq hs, Option.bind_some, hle, cond_true, sets_eq hn10 m (by omega)]
      rw [e]
      simp only [Option.bind_some, List.length_map, wr1 (i := m) (by omega)]
      by_cases hE : exs s l (comb (nC s) (nC s) m 0) = []
      · rw [hE]; simp
      · have h1 := List.length_pos_iff.2 hE
        rw [decide_eq_true (show ((exs s l (comb (nC s) (nC s) m 0)).length : Int) > 0 by omega), decide_eq_true hE]
        rfl) (by
      have hle : decide (((nC s + 1 : Nat) : Int) ≤ ((nC s : Nat) : Int)) = false := decide_eq_false (by omega)
      unfold G31_l0_step
      simp only [causes_eq hs, Option.bind_some, hle, cond_false]) (by unfold G31_l0_fuel; omega)
  rcases key with ⟨m, hm, hb, hbef, he⟩ | ⟨hall, he⟩
  · right
    rw [show G31_l0_run ((l, ([], (0, ()))), (s, ())) = _ from he]
    have hne := of_decide_eq_true hb
    refine ⟨_, ⟨m, by omega, fun m' hm' => ?_, hne, rfl⟩, fun h => hne (List.map_eq_nil_iff.1 h), rfl⟩
    have := of_decide_eq_false (hbef m' hm')
    exact Classical.byContradiction fun h => this h
  · left
    rw [show G31_l0_run ((l, ([], (0, ()))), (s, ())) = _ from he]
    refine ⟨fun m hm => ?_, rfl⟩
    have := of_decide_eq_false (hall m (by omega))
    exact Classical.byContradiction fun h => this h
theorem leastOut_unique {s : E23} {l : List E72} {o o' : List E26} (h : LeastOut s l o) (h' : LeastOut s l o') : o = o' := by
  obtain ⟨m, h1, h2, h3, rfl⟩ := h
  obtain ⟨m', h1', h2', h3', rfl⟩ := h'
  have : m = m' := by
    rcases Nat.lt_trichotomy m m' with h | h | h
    · exact absurd (h2' m h) h3
    · exact h
    · exact absurd (h2 m' h) h3'
  rw [this]
theorem samecauses_self (a : List E26) (h1 : a.length < 2 ^ 62) (h2 : ∀ c ∈ a, (c.1).length < 2 ^ 62 ∧ (c.2.1).length < 2 ^ 62) : G32 a a = some true := by
  unfold G32
  rw [beqn_f (a := (a.length : Int)) (b := (a.length : Int)) rfl, cond_false]
  have h := iter_run (step := G32_l0_step) (n := a.length) (k := 1) (fuel := G32_l0_fuel ((a, (a, (false, (0, ())))), ()))
    (fun i => ((a, (a, (false, ((i : Int), ())))), ())) ((a, (a, (false, ((a.length : Int), ())))), ()) (fun i hi => by
      obtain ⟨h3, h4⟩ := h2 _ (getD_mem hi (d := ([], ([], ()))))
      unfold G32_l0_step
      simp only [lt_int hi, ge0, Bool.and_self, cond_true, getD_toNat, wr1 (i := i) (by omega), (samecause_tells _ _ h3 h4).val rfl, Option.bind_some, Bool.not_true, cond_false]) (by
      unfold G32_l0_step
      simp only [nlt_int, cond_false]) (by unfold G32_l0_fuel; simp)
  rw [show G32_l0_run ((a, (a, (false, (0, ())))), ()) = _ from h]
  rfl
theorem power_eq {n : Nat} (hn : n ≤ 10) : G30 (n : Int) = some (((2 ^ n : Nat) : Int)) := by
  unfold G30
  have h : G30_l0_run (((n : Int), (1, (0, ()))), ()) = some (0, (((n : Int), (((2 ^ n : Nat) : Int), ((n : Int), ()))), ())) :=
    iter_run (step := G30_l0_step) (n := n) (k := 0) (fuel := G30_l0_fuel (((n : Int), (1, (0, ()))), ()))
      (fun i => (((n : Int), (((2 ^ i : Nat) : Int), ((i : Int), ()))), ())) _ (fun i hi => by
        have hp : 2 ^ i ≤ 2 ^ 10 := Nat.pow_le_pow_right (by decide) (by omega)
        have he : 2 ^ (i + 1) = 2 * 2 ^ i := by rw [Nat.pow_succ]; omega
        unfold G30_l0_step
        simp only [lt_int hi, cond_true, wr1 (i := i) (by omega), he]
        rw [wr (by omega) (by omega)]
        simp) (by
        unfold G30_l0_step
        simp only [nlt_int, cond_false]) (by unfold G30_l0_fuel; simp)
  rw [h]
  rfl
end Go.Proofs.YtibmgbalfhfcdaaDoor.Abs
