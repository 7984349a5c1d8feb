import Derived.Test.YtibmgbalfhfcdaaDoorP1
set_option linter.unusedVariables false
set_option linter.unusedSimpArgs false
set_option maxRecDepth 100000
namespace Go.Proofs.YtibmgbalfhfcdaaDoor.Abs
open Classical
inductive Feed {U : Type} (E : Nat → Prop) (V : Nat → U → Bool → U → Prop) : List Nat → U → Bool → U → Prop
  | nil (u : U) : Feed E V [] u true u
  | skip {b : Nat} {bs : List Nat} {u u' : U} {r : Bool} : ¬ E b → Feed E V bs u r u' → Feed E V (b :: bs) u r u'
  | go {b : Nat} {bs : List Nat} {u u1 u' : U} {r : Bool} : E b → V b u true u1 → Feed E V bs u1 r u' → Feed E V (b :: bs) u r u'
  | stop {b : Nat} {bs : List Nat} {u u' : U} : E b → V b u false u' → Feed E V (b :: bs) u false u'
theorem Feed.app {U : Type} {E : Nat → Prop} {V : Nat → U → Bool → U → Prop} {xs ys : List Nat} {u u1 u' : U} {r r' : Bool} (h : Feed E V xs u r u1) (hr : r = true) (h' : Feed E V ys u1 r' u') : Feed E V (xs ++ ys) u r' u' := by
  induction h with
  | nil u => exact h'
  | skip a _ ih => exact .skip a (ih hr h')
  | go a b _ ih => exact .go a b (ih hr h')
  | stop _ _ => cases hr
theorem Feed.cut {U : Type} {E : Nat → Prop} {V : Nat → U → Bool → U → Prop} {xs : List Nat} (ys : List Nat) {u u' : U} {r : Bool} (h : Feed E V xs u r u') (hr : r = false) : Feed E V (xs ++ ys) u false u' := by
  induction h with
  | nil u => cases hr
  | skip a _ ih => exact .skip a (ih hr)
  | go a b _ ih => exact .go a b (ih hr)
  | stop a b => exact .stop a b
def srchStp {B : Type} (n : Nat) (rc : (Int × (Int × (Int × Unit))) × B → Option (Bool × B)) (s : (Int × (Int × (Bool × (Int × Unit)))) × B) : Option (Nat × ((Int × (Int × (Bool × (Int × Unit)))) × B)) :=
  bif decide (s.1.2.2.2.1 < (n : Int)) then
    (bif (!decide (s.1.2.2.2.1 < 0)) then
      (Option.bind (rc ((IntKind.wrap .i64 (s.1.1 - 1), (IntKind.wrap .i64 (s.1.2.2.2.1 + 1), (IntKind.wrap .i64 ((BitVec.toNat ((BitVec.ofInt (IntKind.bits .i64) s.1.2.1) ||| (BitVec.ofInt (IntKind.bits .i64) (IntKind.wrap .i64 (1 * 2 ^ (min (Int.toNat s.1.2.2.2.1) (IntKind.bits .i64)))))) : Nat) : Int), ()))), s.2)) fun r4 =>
        (bif (!r4.1) then some (1, ((s.1.1, (s.1.2.1, (false, (s.1.2.2.2.1, ())))), r4.2))
        else some (0, ((s.1.1, (s.1.2.1, (s.1.2.2.1, (IntKind.wrap .i64 (s.1.2.2.2.1 + 1), ())))), r4.2))))
    else none)
  else some (2, s)
structure Srch {B U : Type} (n : Nat) (OK : List (E56 × E94) → Prop) (Pre : Nat → U → Prop) (E : Nat → Prop) (V : Nat → U → Bool → U → Prop) (pk : List (E56 × E94) → U → B) (fx : Nat → (Int × (Int × (Int × Unit))) × B → Option (Bool × B)) (stp : ((Int × (Int × (Int × Unit))) × B → Option (Bool × B)) → ((Int × (Int × (Bool × (Int × Unit)))) × B) → Option (Nat × ((Int × (Int × (Bool × (Int × Unit)))) × B))) : Prop where
  hn : n ≤ 20
  base : ∀ f (from_ : Int) now M u k, low now n → OK M → Pre (k + 1) u → ∃ r u' M', fx (f + 1) ((0, (from_, ((now : Nat), ()))), pk M u) = some (r, pk M' u') ∧ OK M' ∧ ((¬ E now ∧ r = true ∧ u' = u) ∨ (E now ∧ V now u r u'))
  pre : ∀ b u u' k, V b u true u' → Pre (k + 1) u → Pre k u'
  mono : ∀ u k, Pre (k + 1) u → Pre k u
  step : ∀ f (left from_ now : Int) M u, left ≠ 0 → fx (f + 1) ((left, (from_, (now, ()))), pk M u) = Option.bind (iter (stp (fx f)) 100000 ((left, (now, (false, (from_, ())))), pk M u)) fun q5 => natK q5.1 (some (q5.2.1.2.2.1, q5.2.2)) fun _ => some (true, q5.2.2)
  stp_ : ∀ rc x M u, stp rc (x, pk M u) = srchStp n rc (x, pk M u)
theorem Srch.run {B U : Type} {n : Nat} {OK : List (E56 × E94) → Prop} {Pre : Nat → U → Prop} {E : Nat → Prop} {V : Nat → U → Bool → U → Prop} {pk : List (E56 × E94) → U → B} {fx : Nat → (Int × (Int × (Int × Unit))) × B → Option (Bool × B)} {stp : ((Int × (Int × (Int × Unit))) × B → Option (Bool × B)) → ((Int × (Int × (Bool × (Int × Unit)))) × B) → Option (Nat × ((Int × (Int × (Bool × (Int × Unit)))) × B))} (h : Srch n OK Pre E V pk fx stp) :
    ∀ (f left rem now : Nat) (M : List (E56 × E94)) (u : U) (k : Nat), left < f → left ≤ 1000 → rem ≤ n → low now (n - rem) → OK M → Pre ((comb n rem left now).length + k) u → ∃ r u' M', fx f (((left : Int), (((n - rem : Nat) : Int), ((now : Int), ()))), pk M u) = some (r, pk M' u') ∧ OK M' ∧ Feed E V (comb n rem left now) u r u' ∧ (r = true → Pre k u')
  | 0, left, _, _, _, _, _, hf, _, _, _, _, _ => by omega
  | f + 1, 0, rem, now, M, u, k, hf, hl, hr, hlow, hM, hP => by
    rw [comb_zero] at hP ⊢
    rw [show ([now] : List Nat).length + k = k + 1 by simp; omega] at hP
    obtain ⟨r, u', M', e, hM', hv⟩ := h.base f ((n - rem : Nat) : Int) now M u k (low_mono hlow (by omega)) hM hP
    refine ⟨r, u', M', e, hM', ?_⟩
    rcases hv with ⟨a, rfl, rfl⟩ | ⟨a, b⟩
    · exact ⟨.skip a (.nil _), fun _ => h.mono _ _ hP⟩
    · cases r with
      | true => exact ⟨.go a b (.nil _), fun _ => h.pre _ _ _ _ b hP⟩
      | false => exact ⟨.stop a b, fun h => by cases h⟩
  | f + 1, left + 1, rem, now, M, u, k, hf, hl, hr, hlow, hM, hP => by
    have hn := h.hn
    have loop : ∀ (rem fuel : Nat) (M : List (E56 × E94)) (u : U) (ret : Bool), rem ≤ n → rem < fuel → low now (n - rem) → OK M → Pre ((comb n rem (left + 1) now).length + k) u →
        ∃ r u' M' k' i ret', iter (stp (fx f)) fuel ((((left + 1 : Nat) : Int), ((now : Int), (ret, (((n - rem : Nat) : Int), ())))), pk M u) = some (k', (((((left + 1 : Nat) : Int), ((now : Int), (ret', (i, ()))))), pk M' u')) ∧ OK M' ∧ Feed E V (comb n rem (left + 1) now) u r u' ∧ (r = true → Pre k u') ∧ ((r = false ∧ k' = 0 ∧ ret' = false) ∨ (r = true ∧ k' = 1)) := by
      intro rem
      induction rem with
      | zero =>
        intro fuel M u ret hr hfu hlow hM hP
        obtain ⟨fuel, rfl⟩ : ∃ fu, fuel = fu + 1 := ⟨fuel - 1, by omega⟩
        have hstep : stp (fx f) ((((left + 1 : Nat) : Int), ((now : Int), (ret, (((n - 0 : Nat) : Int), ())))), pk M u) = some (1 + 1, ((((left + 1 : Nat) : Int), ((now : Int), (ret, (((n - 0 : Nat) : Int), ())))), pk M u)) := by
          rw [h.stp_]
          unfold srchStp
          have : decide (((n - 0 : Nat) : Int) < (n : Int)) = false := decide_eq_false (by omega)
          simp only [this, cond_false]
        refine ⟨true, u, M, 1, _, ret, iter_out hstep, hM, ?_, fun _ => ?_, .inr ⟨rfl, rfl⟩⟩
        · simp only [comb, if_neg (Nat.succ_ne_zero left)]; exact .nil u
        · simpa only [comb, if_neg (Nat.succ_ne_zero left), List.length_nil, Nat.zero_add] using hP
      | succ rem ih =>
        intro fuel M u ret hr hfu hlow hM hP
        obtain ⟨fuel, rfl⟩ : ∃ fu, fuel = fu + 1 := ⟨fuel - 1, by omega⟩
        have hlow' : low (now ||| 2 ^ (n - (rem + 1))) (n - rem) := by
          have := low_or hlow
          have e : n - (rem + 1) + 1 = n - rem := by omega
          rwa [e] at this
        have hP' : Pre ((comb n rem left (now ||| 2 ^ (n - (rem + 1)))).length + ((comb n rem (left + 1) now).length + k)) u := by
          simp only [comb, List.length_append] at hP
          rwa [Nat.add_assoc] at hP
        obtain ⟨r, u1, M1, e1, hM1, hF1, hP1⟩ := h.run f left rem (now ||| 2 ^ (n - (rem + 1))) M u _ (by omega) (by omega) (by omega) hlow' hM hP'
        have hnow : now < 2 ^ 62 := Nat.lt_of_lt_of_le (low_lt hlow) (Nat.pow_le_pow_right (by decide) (by omega))
        have hstep : stp (fx f) ((((left + 1 : Nat) : Int), ((now : Int), (ret, (((n - (rem + 1) : Nat) : Int), ())))), pk M u) = some (bif (!r) then (1, ((((left + 1 : Nat) : Int), ((now : Int), (false, (((n - (rem + 1) : Nat) : Int), ())))), pk M1 u1)) else (0, ((((left + 1 : Nat) : Int), ((now : Int), (ret, (((n - rem : Nat) : Int), ())))), pk M1 u1))) := by
          rw [h.stp_]
          unfold srchStp
          have a1 : decide (((n - (rem + 1) : Nat) : Int) < (n : Int)) = true := decide_eq_true (by omega)
          have a2 : (!decide (((n - (rem + 1) : Nat) : Int) < 0)) = true := by rw [decide_eq_false (by omega)]; rfl
          have a3 : IntKind.wrap .i64 (((left + 1 : Nat) : Int) - 1) = (left : Int) := by rw [wr (by omega) (by omega)]; omega
          have a4 : IntKind.wrap .i64 (((n - (rem + 1) : Nat) : Int) + 1) = ((n - rem : Nat) : Int) := by rw [wr (by omega) (by omega)]; omega
          simp only [a1, a2, a3, a4, cond_true, Int.toNat_natCast]
          rw [shl_nat (by omega), or_nat hnow (Nat.pow_lt_pow_right (by decide) (by omega)), e1]
          cases r <;> rfl
        cases r with
        | false =>
          refine ⟨false, u1, M1, 0, _, false, iter_out hstep, hM1, ?_, (fun h => by cases h), .inl ⟨rfl, rfl, rfl⟩⟩
          simp only [comb]
          exact hF1.cut _ rfl
        | true =>
          obtain ⟨r2, u2, M2, k2, i2, ret2, e2, hM2, hF2, hP2, hc⟩ := ih fuel M1 u1 ret (by omega) (by omega) (low_mono hlow (by omega)) hM1 (hP1 rfl)
          refine ⟨r2, u2, M2, k2, i2, ret2, ?_, hM2, ?_, hP2, hc⟩
          · rw [iter_one hstep]; exact e2
          · simp only [comb]
            exact hF1.app rfl hF2
    obtain ⟨r, u', M', k', i, ret', e, hM', hF, hPk, hc⟩ := loop rem 100000 M u false hr (by omega) hlow hM hP
    refine ⟨r, u', M', ?_, hM', hF, hPk⟩
    rw [h.step f ((left + 1 : Nat) : Int) _ _ M u (by omega), e]
    simp only [Option.bind_some]
    rcases hc with ⟨rfl, rfl, rfl⟩ | ⟨rfl, rfl⟩ <;> rfl
def allC (n most : Nat) : List Nat := (List.range (most + 1)).flatMap fun m => comb n n m 0
theorem low_zero (i : Nat) : low 0 i := fun j _ => by simp
theorem allC_succ (n m : Nat) : ((List.range (m + 1)).flatMap fun m => comb n n m 0) = ((List.range m).flatMap fun m => comb n n m 0) ++ comb n n m 0 := by
  rw [List.range_succ, List.flatMap_append]; simp
theorem Srch.all {B U C : Type} {n : Nat} {OK : List (E56 × E94) → Prop} {Pre : Nat → U → Prop} {E : Nat → Prop} {V : Nat → U → Bool → U → Prop} {pk : List (E56 × E94) → U → B} {fx : Nat → (Int × (Int × (Int × Unit))) × B → Option (Bool × B)} {stp : ((Int × (Int × (Int × Unit))) × B → Option (Bool × B)) → ((Int × (Int × (Bool × (Int × Unit)))) × B) → Option (Nat × ((Int × (Int × (Bool × (Int × Unit)))) × B))} (h : Srch n OK Pre E V pk fx stp)
    (p93 : List (E56 × E94) → U → C) (st93 : (Int × (Int × Unit)) × C → Option (Nat × ((Int × (Int × Unit)) × C))) (most : Nat) (hmost : most ≤ n)
    (h1 : ∀ (m1 many : Nat) M u r u' M', many < m1 → m1 ≤ 1000 → fx 64 (((many : Int), (0, (0, ()))), pk M u) = some (r, pk M' u') → st93 (((m1 : Int), ((many : Int), ())), p93 M u) = some (bif (!r) then (1, (((m1 : Int), ((many : Int), ())), p93 M' u')) else (0, (((m1 : Int), (((many + 1 : Nat) : Int), ())), p93 M' u'))))
    (h2 : ∀ (m1 : Nat) M u, st93 (((m1 : Int), ((m1 : Int), ())), p93 M u) = some (2, (((m1 : Int), ((m1 : Int), ())), p93 M u)))
    (M : List (E56 × E94)) (u : U) (hM : OK M) (hP : Pre (allC n most).length u) (fuel : Nat) (hfu : most + 1 < fuel) :
    ∃ k x r u' M', iter st93 fuel ((((most + 1 : Nat) : Int), (0, ())), p93 M u) = some (k, (x, p93 M' u')) ∧ OK M' ∧ Feed E V (allC n most) u r u' := by
  have hn := h.hn
  obtain ⟨k, q, e, x, r, u', M', rfl, hM', hF⟩ := iter_ex (step := st93) (n := most + 1)
    (fun i st => ∃ u' M', st = ((((most + 1 : Nat) : Int), ((i : Int), ())), p93 M' u') ∧ OK M' ∧ i ≤ most + 1 ∧ Feed E V ((List.range i).flatMap fun m => comb n n m 0) u true u' ∧ ∃ j, Pre j u' ∧ j + ((List.range i).flatMap fun m => comb n n m 0).length = (allC n most).length)
    (fun k q => ∃ x r u' M', q = (x, p93 M' u') ∧ OK M' ∧ Feed E V (allC n most) u r u')
    (by
      rintro i st ⟨u1, M1, rfl, hM1, hi', hF1, j, hj, hjl⟩ hi
      have hsplit : ∃ rest, (allC n most) = ((List.range i).flatMap fun m => comb n n m 0) ++ comb n n i 0 ++ rest := by
        unfold allC
        have : List.range (most + 1) = List.range (i + 1) ++ (List.range' (i + 1) (most - i)) := by
          rw [List.range_eq_range', List.range_eq_range', show most + 1 = (i + 1) + (most - i) by omega, ← List.range'_append]
          simp
        rw [this, List.flatMap_append, allC_succ]
        exact ⟨_, rfl⟩
      obtain ⟨rest, hrest⟩ := hsplit
      have hlen : j = (comb n n i 0).length + rest.length := by
        rw [hrest] at hjl
        simp only [List.length_append] at hjl
        omega
      have hcall := h.run 64 i n 0 M1 u1 rest.length (by omega) (by omega) (Nat.le_refl _) (low_zero _) hM1 (by rw [← hlen]; exact hj)
      rw [Nat.sub_self] at hcall
      obtain ⟨r, u2, M2, e2, hM2, hF2, hP2⟩ := hcall
      have hst := h1 (most + 1) i M1 u1 r u2 M2 hi (by omega) e2
      cases r with
      | false =>
        refine .inr ⟨0, _, hst, _, false, u2, M2, rfl, hM2, ?_⟩
        rw [hrest]
        exact (hF1.app rfl hF2).cut _ rfl
      | true =>
        refine .inl ⟨_, hst, u2, M2, rfl, hM2, by omega, ?_, rest.length, hP2 rfl, ?_⟩
        · rw [allC_succ]; exact hF1.app rfl hF2
        · rw [allC_succ, hrest]
          simp only [List.length_append]
          omega)
    (by
      rintro st ⟨u1, M1, rfl, hM1, _, hF1, _⟩
      exact ⟨1, _, h2 _ _ _, _, true, u1, M1, rfl, hM1, hF1⟩)
    (most + 1) 0 fuel ((((most + 1 : Nat) : Int), (((0 : Nat) : Int), ())), p93 M u) (by omega) hfu ⟨u, M, rfl, hM, by omega, .nil u, _, hP, by simp⟩
  exact ⟨k, x, r, u', M', e, hM', hF⟩
end Go.Proofs.YtibmgbalfhfcdaaDoor.Abs
set_option linter.unusedVariables false
set_option linter.unusedSimpArgs false
set_option maxRecDepth 100000
namespace Go.Proofs.YtibmgbalfhfcdaaDoor.Abs
open Classical
theorem beqn_f {a b : Int} (h : a = b) : (a != b) = false := by simp [h]
theorem beqn_t {a b : Int} (h : a ≠ b) : (a != b) = true := by simp [h]
def atN (s : E23) (i : Nat) : Nat := ((s.2.2.2.2.1).getD i 0).toNat
theorem at_ok {s : E23} (hs : StrOk s) {i : Nat} (hi : i < (s.2.2.2.2.1).length) : (((atN s i : Nat) : Int) = (s.2.2.2.2.1).getD i 0) ∧ atN s i < (s.2.2.2.1).toNat := by
  have := hs.at_ _ (getD_mem hi (d := 0))
  unfold atN
  omega
theorem rd_i {s : E23} {r : E72} (hr : RdOk s r) : ∃ i : Nat, r.1 = (i : Int) ∧ i < (s.2.2.2.2.1).length := ⟨(r.1).toNat, by have := hr.1; omega, by have := hr.1; have := hr.2.1; omega⟩
end Go.Proofs.YtibmgbalfhfcdaaDoor.Abs
set_option linter.unusedVariables false
set_option linter.unusedSimpArgs false
set_option maxRecDepth 100000
namespace Go.Proofs.YtibmgbalfhfcdaaDoor.Abs
open Classical
def LeastT (s : E23) (l : List E72) (b d : Nat) (T : Int) : Prop := (∃ m, DC s l b d m T) ∧ ∀ m T', DC s l b d m T' → T ≤ T'
def LeastR (s : E23) (l : List E72) (b d : Nat) (T R : Int) : Prop := DC s l b d R T ∧ ∀ m, DC s l b d m T → R ≤ m
def LeastD (s : E23) (l : List E72) (b i : Nat) (T R q : Int) : Prop := (-(moS s b i) ≤ q ∧ q ≤ moS s b i) ∧ agr s l i T (R + q) = true ∧ ∀ q', -(moS s b i) ≤ q' → agr s l i T (R + q') = true → q' ≤ moS s b i → q ≤ q'
theorem DC.bd {s : E23} {l : List E72} (hs : StrOk s) {b d : Nat} {m T : Int} (h : DC s l b d m T) : (-20 ≤ m ∧ m ≤ 20) ∧ 2000 ≤ T ∧ T ≤ 3200 := by
  have := moD_bd hs b d
  have h1 := h.1
  exact ⟨by omega, h.2.1⟩
theorem rate_k {m : Int} (h : -20 ≤ m ∧ m ≤ 20) : ∃ k : Nat, k < 41 ∧ m = (k : Int) - 20 := ⟨(m + 20).toNat, by omega, by omega⟩
theorem SpanIs.low {s : E23} {l : List E72} (hs : StrOk s) {b d : Nat} {m : Int} {q : E56} (h : SpanIs s l b d m q) : (0 ≤ q.1 ∧ DC s l b d m q.1 ∧ ∀ T, DC s l b d m T → q.1 ≤ T) ∨ (q.1 = -1 ∧ ∀ T, ¬ DC s l b d m T) := by
  rcases h with ⟨h1, h2, h3⟩ | ⟨h1, rfl⟩
  · exact .inl ⟨by have := (h1.bd hs).2; omega, h1, fun T hT => (h3 T hT).1⟩
  · exact .inr ⟨rfl, h1⟩
theorem getD_snoc {α : Type} (xs : List α) (x d : α) (j : Nat) : (xs ++ [x]).getD j d = if j < xs.length then xs.getD j d else if j = xs.length then x else d := by
  simp only [List.getD_eq_getElem?_getD]
  by_cases h : j < xs.length
  · rw [if_pos h, List.getElem?_append_left h]
  · rw [if_neg h, List.getElem?_append_right (by omega)]
    by_cases h2 : j = xs.length
    · subst h2; simp
    · rw [if_neg h2, List.getElem?_eq_none (by simp; omega)]; rfl
end Go.Proofs.YtibmgbalfhfcdaaDoor.Abs
set_option linter.unusedVariables false
set_option linter.unusedSimpArgs false
set_option maxRecDepth 100000
namespace Go.Proofs.YtibmgbalfhfcdaaDoor.Abs
open Classical
theorem rising_mem {L : List Int} {B x : Int} (h : Rising L B) (hx : x ∈ L) : 0 ≤ x ∧ x < B := by
  obtain ⟨i, hi, rfl⟩ := mem_getD.1 hx
  exact (h i hi).1
theorem bit_s {s : E23} {c : E26} (hc : CauseOk s c) {i : Nat} (hi : i < (s.2.2.2.2.1).length) : (bitsOf s c).testBit i = decide ((i : Int) ∈ c.1) := by
  rw [bitsOf_bit hc]
  have : decide ((s.2.2.2.2.1).length ≤ i ∧ ((i - (s.2.2.2.2.1).length : Nat) : Int) ∈ c.2.1) = false := decide_eq_false fun h => by omega
  rw [this, Bool.or_false]
theorem bit_d {s : E23} {c : E26} (hc : CauseOk s c) (d : Nat) : (bitsOf s c).testBit ((s.2.2.2.2.1).length + d) = decide ((d : Int) ∈ c.2.1) := by
  rw [bitsOf_bit hc]
  have h1 : decide ((((s.2.2.2.2.1).length + d : Nat) : Int) ∈ c.1) = false := decide_eq_false fun h => by have := rising_mem hc.1 h; omega
  have h2 : (s.2.2.2.2.1).length + d - (s.2.2.2.2.1).length = d := by omega
  rw [h1, h2, Bool.false_or, decide_eq_decide]
  exact ⟨fun h => h.2, fun h => ⟨by omega, h⟩⟩
theorem moS_c {s : E23} {c : E26} (hc : CauseOk s c) {i : Nat} (hi : i < (s.2.2.2.2.1).length) : moS s (bitsOf s c) i = if (i : Int) ∈ c.1 then s.2.1 else 0 := by
  unfold moS
  rw [bit_s hc hi]
  by_cases h : (i : Int) ∈ c.1
  · rw [decide_eq_true h, if_pos h]; rfl
  · rw [decide_eq_false h, if_neg h]; rfl
theorem moD_c {s : E23} {c : E26} (hc : CauseOk s c) (d : Nat) : moD s (bitsOf s c) d = if (d : Int) ∈ c.2.1 then s.2.2.1 else 0 := by
  unfold moD
  rw [bit_d hc]
  by_cases h : (d : Int) ∈ c.2.1
  · rw [decide_eq_true h, if_pos h]; rfl
  · rw [decide_eq_false h, if_neg h]; rfl
inductive Pos
  | t (k : Nat)
  | r (k : Nat)
  | d (i : Nat)
def Pos.val (t : E30) : Pos → Int
  | .t k => (t.1).getD k 0
  | .r k => (t.2.1).getD k 0
  | .d i => (t.2.2.1).getD i 0
def Pos.need (s : E23) : Pos → List Pos
  | .t _ => []
  | .r k => [.t k]
  | .d i => [.t (atN s i), .r (atN s i)]
def Pos.ok (s : E23) : Pos → Prop
  | .t k => k < (s.2.2.2.1).toNat
  | .r k => k < (s.2.2.2.1).toNat
  | .d i => i < (s.2.2.2.2.1).length
end Go.Proofs.YtibmgbalfhfcdaaDoor.Abs
set_option linter.unusedVariables false
set_option linter.unusedSimpArgs false
set_option maxRecDepth 100000
namespace Go.Proofs.YtibmgbalfhfcdaaDoor.Abs
open Classical
theorem low_60 {b n : Nat} (h : low b n) (hn : n ≤ 20) : low b 60 ∧ b < 2 ^ 62 := ⟨low_mono h (by omega), Nat.lt_of_lt_of_le (low_lt h) (Nat.pow_le_pow_right (by decide) (by omega))⟩
theorem nC_le {s : E23} (hs : StrOk s) : nC s ≤ 10 := by
  have h1 := hs.len
  have h2 := hs.depths
  unfold nC; omega
theorem allC_len : ∀ n, n ≤ 10 → ∀ most, most ≤ n → (allC n most).length ≤ 3000 := by
  intro n hn most hm
  have h1 : ∀ m, ((List.range m).flatMap fun m => comb n n m 0).length ≤ m * 2 ^ n := by
    intro m
    induction m with
    | zero => simp
    | succ m ih =>
      rw [allC_succ, List.length_append, Nat.succ_mul]
      have := comb_len n n m 0
      omega
  have h2 := h1 (most + 1)
  unfold allC
  by_cases hn8 : n ≤ 8
  · have h3 : 2 ^ n ≤ 2 ^ 8 := Nat.pow_le_pow_right (by decide) hn8
    have h4 : (most + 1) * 2 ^ n ≤ 9 * 2 ^ 8 := Nat.mul_le_mul (by omega) h3
    omega
  · exact Nat.le_trans (Nat.le_refl _) (by
      have : n = 9 ∨ n = 10 := by omega
      rcases this with rfl | rfl
      · have : most = 0 ∨ most = 1 ∨ most = 2 ∨ most = 3 ∨ most = 4 ∨ most = 5 ∨ most = 6 ∨ most = 7 ∨ most = 8 ∨ most = 9 := by omega
        rcases this with rfl | rfl | rfl | rfl | rfl | rfl | rfl | rfl | rfl | rfl <;> decide +kernel
      · have : most = 0 ∨ most = 1 ∨ most = 2 ∨ most = 3 ∨ most = 4 ∨ most = 5 ∨ most = 6 ∨ most = 7 ∨ most = 8 ∨ most = 9 ∨ most = 10 := by omega
        rcases this with rfl | rfl | rfl | rfl | rfl | rfl | rfl | rfl | rfl | rfl | rfl <;> decide +kernel)
theorem Feed.split {U : Type} {E : Nat → Prop} {V : Nat → U → Bool → U → Prop} : ∀ {xs ys : List Nat} {u u' : U} {r : Bool}, Feed E V (xs ++ ys) u r u' → (∃ u1, Feed E V xs u true u1 ∧ Feed E V ys u1 r u') ∨ (r = false ∧ Feed E V xs u false u')
  | [], ys, u, u', r, h => .inl ⟨u, .nil u, h⟩
  | x :: xs, ys, u, u', r, h => by
    cases h with
    | skip a h =>
      rcases Feed.split h with ⟨u1, h1, h2⟩ | ⟨rfl, h1⟩
      · exact .inl ⟨u1, .skip a h1, h2⟩
      · exact .inr ⟨rfl, .skip a h1⟩
    | go a b h =>
      rcases Feed.split h with ⟨u1, h1, h2⟩ | ⟨rfl, h1⟩
      · exact .inl ⟨u1, .go a b h1, h2⟩
      · exact .inr ⟨rfl, .go a b h1⟩
    | stop a b => exact .inr ⟨rfl, .stop a b⟩
noncomputable def exs (s : E23) (l : List E72) (xs : List Nat) : List Nat := xs.filter fun b => decide (Ex s l b)
theorem exs_mem {s : E23} {l : List E72} {xs : List Nat} {b : Nat} : b ∈ exs s l xs ↔ b ∈ xs ∧ Ex s l b := by unfold exs; simp
theorem comb_in {n m b : Nat} (hn : n ≤ 20) (h : b ∈ comb n n m 0) : low b n ∧ cnt b n = m ∧ cnt b 60 = m := by
  have h1 := comb_low n n m 0 (Nat.le_refl _) (low_zero _) b h
  have h2 := comb_cnt n n m 0 (Nat.le_refl _) (low_zero _) b h
  have h3 : cnt 0 n = 0 := by
    have : ∀ k, cnt 0 k = 0 := fun k => by
      induction k with
      | zero => rfl
      | succ k ih => simp [cnt, ih]
    exact this n
  have h4 := cnt_low h1 60 (by omega)
  exact ⟨h1, by omega, by omega⟩
end Go.Proofs.YtibmgbalfhfcdaaDoor.Abs
set_option linter.unusedVariables false
set_option linter.unusedSimpArgs false
set_option maxRecDepth 100000
namespace Go.Proofs.YtibmgbalfhfcdaaDoor.Abs
open Classical
def farOf (s : E23) (r : E72) : Int := s.1 + (s.2.1 + s.2.2.1) * r.2.1
theorem far_bd {s : E23} (hs : StrOk s) {r : E72} (hr : RdOk s r) : 0 ≤ farOf s r ∧ farOf s r ≤ 12100 := by
  have h1 := hs.err
  have h2 := hs.drift
  have h3 := hs.warm
  have h4 := mulb (m := s.2.1 + s.2.2.1) (w := r.2.1) (by omega) (by omega) hr.2.2.1 hr.2.2.2.1
  have h5 : 0 ≤ (s.2.1 + s.2.2.1) * r.2.1 := Int.mul_nonneg (by omega) hr.2.2.1
  unfold farOf
  omega
theorem agr1_far {s : E23} (hs : StrOk s) {r : E72} (hr : RdOk s r) {T m : Int} (hm : -(s.2.1 + s.2.2.1) ≤ m ∧ m ≤ s.2.1 + s.2.2.1) (h : agr1 s r T m = true) : r.2.2.1 - farOf s r ≤ T ∧ T ≤ r.2.2.1 + farOf s r := by
  unfold agr1 at h
  simp only [Bool.and_eq_true, decide_eq_true_eq] at h
  have a1 := Int.mul_le_mul_of_nonneg_right hm.1 hr.2.2.1
  have a2 := Int.mul_le_mul_of_nonneg_right hm.2 hr.2.2.1
  rw [Int.neg_mul] at a1
  unfold farOf
  omega
def InB (s : E23) (l : List E72) (d : Nat) (q : E56) : Prop := (2000 ≤ q.1 ∧ q.1 ≤ 20000) ∧ (-20000 ≤ q.2.1 ∧ q.2.1 ≤ 3200) ∧ ∀ b m T, DC s l b d m T → q.1 ≤ T ∧ T ≤ q.2.1
theorem dc_far {s : E23} {l : List E72} (hs : StrOk s) (hl : RdsOk s l) {b d : Nat} {m T : Int} (h : DC s l b d m T) {r : E72} (hr : r ∈ l) {i : Nat} (hi : r.1 = (i : Int)) (hi' : i < (s.2.2.2.2.1).length) (he : (s.2.2.2.2.1).getD i 0 = (d : Int)) : r.2.2.1 - farOf s r ≤ T ∧ T ≤ r.2.2.1 + farOf s r := by
  obtain ⟨q, q1, q2, q3⟩ := h.2.2 i hi' he
  have h1 := h.1
  have hS : moS s b i ≤ s.2.1 := by have := hs.drift; unfold moS; cases b.testBit i <;> simp <;> omega
  have hD : moD s b d ≤ s.2.2.1 := by have := hs.warm; unfold moD; cases b.testBit ((s.2.2.2.2.1).length + d) <;> simp <;> omega
  unfold agr at q3
  rw [List.all_eq_true] at q3
  have := q3 r hr
  rw [beq_iff_eq.2 hi] at this
  exact agr1_far hs (hl r hr) (m := m + q) (by omega) (by simpa using this)
theorem bounds_eq {s : E23} {l : List E72} (hs : StrOk s) (hl : RdsOk s l) (hn : l.length ≤ 1000) (d : Nat) : ∃ q, G84 s l d = some q ∧ InB s l d q := by
  unfold G84
  obtain ⟨st, e, q, i, rfl, h1, h2, h3⟩ := iter_inv (step := G84_l0_step) (k := 0) (n := l.length)
    (fun i st => ∃ q : E56, st = ((l, ((d : Int), ((i : Int), ()))), (s, ((0, (0, ())), (q, ())))) ∧ InB s l d q)
    (fun st => ∃ (q : E56) (i : Int), st = ((l, ((d : Int), (i, ()))), (s, ((0, (0, ())), (q, ())))) ∧ InB s l d q)
    (by
      rintro i st ⟨q, rfl, h1, h2, h3⟩ hi
      have hr := hl _ (getD_mem hi (d := (0, (0, (0, ())))))
      have hm := getD_mem hi (d := ((0, (0, (0, ()))) : E72))
      unfold G84_l0_step
      simp only [lt_int hi, ge0, Bool.and_self, cond_true, getD_toNat, wr1 (i := i) (by omega)]
      generalize l.getD i (0, (0, (0, ()))) = r at hr hm ⊢
      obtain ⟨j, hj, hj'⟩ := rd_i hr
      have hf := far_bd hs hr
      have e1 := hs.err
      have e2 := hs.drift
      have e3 := hs.warm
      have e4 := mulb (m := s.2.1 + s.2.2.1) (w := r.2.1) (by omega) (by omega) hr.2.2.1 hr.2.2.2.1
      have e5 := hr.2.2.2.2
      simp only [hj, ge0, lt_int hj', Bool.and_self, cond_true, getD_toNat]
      by_cases he : (s.2.2.2.2.1).getD j 0 = (d : Int)
      · rw [beq_iff_eq.2 he, cond_true]
        rw [wr (n := s.2.1 + s.2.2.1) (by omega) (by omega), wr (n := (s.2.1 + s.2.2.1) * r.2.1) (by omega) (by omega), wr (n := s.1 + (s.2.1 + s.2.2.1) * r.2.1) (by omega) (by omega)]
        rw [show s.1 + (s.2.1 + s.2.2.1) * r.2.1 = farOf s r from rfl]
        rw [wr (n := r.2.2.1 - farOf s r) (by omega) (by omega), wr (n := r.2.2.1 + farOf s r) (by omega) (by omega)]
        refine ⟨_, rfl, _, rfl, ⟨?_, ?_⟩, ⟨?_, ?_⟩, fun b m T hT => ?_⟩
        · simp only; split <;> omega
        · simp only; split <;> omega
        · simp only; split <;> omega
        · simp only; split <;> omega
        · have a1 := h3 b m T hT
          have a2 := dc_far hs hl hT hm hj hj' he
          constructor
          · simp only
            split <;> omega
          · simp only
            split <;> omega
      · rw [beq_eq_false_iff_ne.2 he, cond_false]
        exact ⟨_, rfl, _, rfl, h1, h2, h3⟩)
    (by
      rintro st ⟨q, rfl, h⟩
      unfold G84_l0_step
      simp only [nlt_int, cond_false]
      exact ⟨_, rfl, q, _, rfl, h⟩)
    l.length 0 (G84_l0_fuel ((l, ((d : Int), (0, ()))), (s, ((0, (0, ())), ((2000, (3200, ())), ()))))) ((l, ((d : Int), (0, ()))), (s, ((0, (0, ())), ((2000, (3200, ())), ())))) (by omega) (by unfold G84_l0_fuel; simp) ⟨_, rfl, ⟨by simp, by simp⟩, ⟨by simp, by simp⟩, fun b m T hT => (hT.bd hs).2⟩
  rw [show G84_l0_run ((l, ((d : Int), (0, ()))), (s, ((0, (0, ())), ((2000, (3200, ())), ())))) = _ from e]
  exact ⟨q, rfl, h1, h2, h3⟩
theorem work_some {s : E23} {l : List E72} (hs : StrOk s) (hl : RdsOk s l) (hn : l.length ≤ 1000) : ∃ n, G44 s l = some n := by
  have hdep := hs.depths
  unfold G44
  obtain ⟨st, e, h⟩ := iter_inv (step := G44_l0_step) (k := 0) (n := (s.2.2.2.1).toNat)
    (fun i st => ∃ n : Int, st = ((l, (n, ((i : Int), ()))), (s, ())))
    (fun st => True)
    (by
      rintro i st ⟨n, rfl⟩ hi
      obtain ⟨q, e, _⟩ := bounds_eq hs hl hn i
      have hlt : decide ((i : Int) < s.2.2.2.1) = true := decide_eq_true (by omega)
      unfold G44_l0_step
      simp only [hlt, cond_true, e, Option.bind_some, wr1 (i := i) (by omega)]
      exact ⟨_, rfl, _, rfl⟩)
    (by
      rintro st ⟨n, rfl⟩
      have hlt : decide (((s.2.2.2.1.toNat : Nat) : Int) < s.2.2.2.1) = false := decide_eq_false (by omega)
      unfold G44_l0_step
      simp only [hlt, cond_false]
      exact ⟨_, rfl, trivial⟩)
    (s.2.2.2.1).toNat 0 (G44_l0_fuel ((l, (1, (0, ()))), (s, ()))) ((l, (1, (0, ()))), (s, ())) (by omega) (by unfold G44_l0_fuel; simp only; omega) ⟨1, rfl⟩
  rw [show G44_l0_run ((l, (1, (0, ()))), (s, ())) = _ from e]
  exact ⟨_, rfl⟩
theorem light_some {s : E23} {l : List E72} (hs : StrOk s) (hl : RdsOk s l) (hn : l.length ≤ 1000) {n : Int} (h0 : n ≠ 0) : ∃ b, G14 s l n = some b := by
  unfold G14
  obtain ⟨w, e⟩ := work_some hs hl hn
  rw [e, decide_eq_false h0]
  exact ⟨_, rfl⟩
def okR (s : E23) (i T m : Int) (r : E72) : Bool := !(r.1 == i) || agr1 s r T m
theorem agr_idx {s : E23} {l : List E72} {i T m : Int} (d : E72) : agr s l i T m = true ↔ ∀ j, j < l.length → okR s i T m (l.getD j d) = true := by
  unfold agr
  rw [List.all_eq_true]
  exact (forall_getD d).symm
theorem rdrift_l1 {s : E23} {l : List E72} (hs : StrOk s) (hl : RdsOk s l) (hn : l.length ≤ 1000) {T m : Int} (hT : 2000 ≤ T ∧ T ≤ 3200) {q : Int} (hm : -60 ≤ m + q ∧ m + q ≤ 60) (hm2 : -40 ≤ m ∧ m ≤ 40) (i : Nat) (x1 x2 : Int) (x3 : Bool) :
    ∃ k u, G92_l1_run ((l, ((i : Int), (T, (m, (x1, (x2, (x3, (q, (true, (0, ())))))))))), (s, ())) = some (k, ((l, ((i : Int), (T, (m, (x1, (x2, (x3, (q, (agr s l i T (m + q), (u, ())))))))))), (s, ()))) := by
  have hw3 := hs.err
  unfold G92_l1_run
  obtain ⟨k, st, e, a, u, rfl, ha⟩ := iter_ex (step := G92_l1_step) (n := l.length)
    (fun j st => ∃ a, st = ((l, ((i : Int), (T, (m, (x1, (x2, (x3, (q, (a, ((j : Int), ())))))))))), (s, ())) ∧ (a = true ↔ ∀ j', j' < j → okR s i T (m + q) (l.getD j' (0, (0, (0, ())))) = true))
    (fun k st => ∃ a u, st = ((l, ((i : Int), (T, (m, (x1, (x2, (x3, (q, (a, (u, ())))))))))), (s, ())) ∧ (a = true ↔ ∀ j', j' < l.length → okR s i T (m + q) (l.getD j' (0, (0, (0, ())))) = true))
    (by
      rintro j st ⟨a, rfl, ha⟩ hj
      have hr := hl _ (getD_mem hj (d := (0, (0, (0, ())))))
      cases a with
      | false =>
        unfold G92_l1_step
        simp only [lt_int hj, cond_true, cond_false]
        refine .inr ⟨0, _, rfl, false, _, rfl, ⟨fun h => (by cases h), fun h => ?_⟩⟩
        exact ha.2 fun j' hj' => h j' (by omega)
      | true =>
        have hall := ha.1 rfl
        left
        unfold G92_l1_step
        simp only [lt_int hj, ge0, Bool.and_self, cond_true, getD_toNat, wr1 (i := j) (by omega)]
        have nxt : ∀ b, (b = true ↔ okR s i T (m + q) (l.getD j (0, (0, (0, ())))) = true) → (b = true ↔ ∀ j', j' < j + 1 → okR s i T (m + q) (l.getD j' (0, (0, (0, ())))) = true) := fun b hb => by
          rw [hb]
          refine ⟨fun h j' hj' => ?_, fun h => h j (by omega)⟩
          rcases Nat.lt_succ_iff_lt_or_eq.1 hj' with h' | h'
          · exact hall j' h'
          · rw [h']; exact h
        by_cases he : (l.getD j (0, (0, (0, ())))).1 = (i : Int)
        · rw [beq_iff_eq.2 he, cond_true]
          have hmm := mulb (m := m + q) (w := (l.getD j (0, (0, (0, ())))).2.1) (by omega) (by omega) hr.2.2.1 hr.2.2.2.1
          rw [wr (n := m + q) (by omega) (by omega), wr (n := (m + q) * (l.getD j (0, (0, (0, ())))).2.1) (by omega) (by omega), wr (n := T + (m + q) * (l.getD j (0, (0, (0, ())))).2.1) (by omega) (by omega), wr (by omega) (by omega), wr (by omega) (by omega), rin_tells]
          refine ⟨_, rfl, _, rfl, nxt _ ?_⟩
          unfold okR agr1
          rw [beq_iff_eq.2 he]
          simp only [Bool.not_true, Bool.false_or, Bool.and_eq_true, decide_eq_true_eq]
          omega
        · rw [beq_eq_false_iff_ne.2 he, cond_false]
          refine ⟨_, rfl, _, rfl, nxt _ ?_⟩
          unfold okR
          rw [beq_eq_false_iff_ne.2 he]
          simp)
    (by
      rintro st ⟨a, rfl, ha⟩
      unfold G92_l1_step
      simp only [nlt_int, cond_false]
      exact ⟨0, _, rfl, a, _, rfl, ha⟩)
    l.length 0 (G92_l1_fuel ((l, ((i : Int), (T, (m, (x1, (x2, (x3, (q, (true, (0, ())))))))))), (s, ()))) ((l, ((i : Int), (T, (m, (x1, (x2, (x3, (q, (true, (0, ())))))))))), (s, ())) (by omega) (by unfold G92_l1_fuel; simp) ⟨true, rfl, by simp⟩
  have : a = agr s l i T (m + q) := Bool.eq_iff_iff.2 (ha.trans (agr_idx _).symm)
  subst this
  exact ⟨k, u, e⟩
theorem rdrift_eq {s : E23} {l : List E72} (hs : StrOk s) (hl : RdsOk s l) (hn : l.length ≤ 1000) (i : Nat) {T m mo : Int} (hT : 2000 ≤ T ∧ T ≤ 3200) (hm : -40 ≤ m ∧ m ≤ 40) (hmo : 0 ≤ mo ∧ mo ≤ 20) :
    (∃ q, -mo ≤ q ∧ q ≤ mo ∧ agr s l i T (m + q) = true ∧ (∀ q', -mo ≤ q' → q' < q → agr s l i T (m + q') = false) ∧ G92 s l i T m mo = some (q, (true, ()))) ∨
      ((∀ q, -mo ≤ q → q ≤ mo → agr s l i T (m + q) = false) ∧ G92 s l i T m mo = some (0, (false, ()))) := by
  unfold G92
  rw [wr (n := 0 - mo) (by omega) (by omega)]
  have key := iter_fn (step := G92_l0_step) (n := (2 * mo + 1).toNat) (k1 := 0) (k2 := 1) (fuel := G92_l0_fuel ((l, ((i : Int), (T, (m, (mo, (0, (false, (0 - mo, ())))))))), (s, ())))
    (bad := fun k => agr s l i T (m + ((k : Int) - mo)))
    (fun k => ((l, ((i : Int), (T, (m, (mo, (0, (false, ((k : Int) - mo, ())))))))), (s, ())))
    (fun k => ((l, ((i : Int), (T, (m, (mo, ((k : Int) - mo, (true, ((k : Int) - mo, ())))))))), (s, ())))
    ((l, ((i : Int), (T, (m, (mo, (0, (false, ((((2 * mo + 1).toNat : Nat) : Int) - mo, ())))))))), (s, ())) (fun k hk => by
      have hk' : (k : Int) ≤ 2 * mo := by omega
      have hle : decide ((k : Int) - mo ≤ mo) = true := decide_eq_true (by omega)
      obtain ⟨k', u, e⟩ := rdrift_l1 hs hl hn hT (q := (k : Int) - mo) (by omega) hm i mo 0 false
      unfold G92_l0_step
      simp only [hle, cond_true]
      rw [e]
      simp only [Option.bind_some]
      rw [wr (n := (k : Int) - mo + 1) (by omega) (by omega)]
      cases agr s l i T (m + ((k : Int) - mo)) with
      | true => rfl
      | false =>
        have e : (k : Int) - mo + 1 = ((k + 1 : Nat) : Int) - mo := by omega
        rw [e]; rfl) (by
      have hle : decide ((((2 * mo + 1).toNat : Nat) : Int) - mo ≤ mo) = false := decide_eq_false (by omega)
      unfold G92_l0_step
      simp only [hle, cond_false]) (by unfold G92_l0_fuel; omega)
  have e0 : (((0 : Nat) : Int) - mo) = 0 - mo := rfl
  rcases key with ⟨k, hk, hb, hbelow, he⟩ | ⟨hall, he⟩
  · left
    rw [show G92_l0_run ((l, ((i : Int), (T, (m, (mo, (0, (false, (0 - mo, ())))))))), (s, ())) = _ from he]
    refine ⟨(k : Int) - mo, by omega, by omega, hb, fun q' h1 h2 => ?_, rfl⟩
    have := hbelow (q' + mo).toNat (by omega)
    have e : (((q' + mo).toNat : Nat) : Int) - mo = q' := by omega
    rw [e] at this
    exact this
  · right
    rw [show G92_l0_run ((l, ((i : Int), (T, (m, (mo, (0, (false, (0 - mo, ())))))))), (s, ())) = _ from he]
    refine ⟨fun q h1 h2 => ?_, rfl⟩
    have := hall (q + mo).toNat (by omega)
    have e : (((q + mo).toNat : Nat) : Int) - mo = q := by omega
    rw [e] at this
    exact this
def cntA (s : E23) (d : Nat) : Nat → Nat
  | 0 => 0
  | i + 1 => cntA s d i + (if atN s i = d then 1 else 0)
theorem cntA_le (s : E23) (d : Nat) : ∀ i, cntA s d i ≤ i
  | 0 => Nat.le_refl _
  | i + 1 => by have := cntA_le s d i; simp only [cntA]; split <;> omega
theorem cntA_mono (s : E23) (d : Nat) {i : Nat} : ∀ j, i ≤ j → cntA s d i ≤ cntA s d j
  | 0, h => by have : i = 0 := by omega
               subst this; exact Nat.le_refl _
  | j + 1, h => by
    rcases Nat.lt_or_eq_of_le h with h | h
    · have := cntA_mono s d (i := i) j (by omega)
      simp only [cntA]; omega
    · subst h; exact Nat.le_refl _
def LeastL (s : E23) (l : List E72) (b d : Nat) (T m : Int) (L : List Int) (n : Nat) : Prop := L.length = cntA s d n ∧ ∀ i, i < n → atN s i = d → LeastD s l b i T m (L.getD (cntA s d i) 0)
theorem least_eq {s : E23} {l : List E72} (hs : StrOk s) (hl : RdsOk s l) (hn : l.length ≤ 1000) {c : E26} (hc : CauseOk s c) (h3 : (c.1).length < 2 ^ 62) (d : Nat) {T m : Int} (hT : 2000 ≤ T ∧ T ≤ 3200) (hm : -40 ≤ m ∧ m ≤ 40) :
    (Can s l (bitsOf s c) d T m ∧ ∃ L, G59 s l c d T m = some (L, (true, ())) ∧ LeastL s l (bitsOf s c) d T m L (s.2.2.2.2.1).length) ∨ (¬ Can s l (bitsOf s c) d T m ∧ G59 s l c d T m = some ([], (false, ()))) := by
  have hlen := hs.len
  unfold G59
  obtain ⟨k, st, e, h⟩ := iter_ex (step := G59_l0_step) (n := (s.2.2.2.2.1).length)
    (fun i st => ∃ L, st = ((l, ((d : Int), (T, (m, ([], (false, (L, ((i : Int), ())))))))), (s, (c, ()))) ∧ LeastL s l (bitsOf s c) d T m L i)
    (fun k st => (∃ L i, k = 1 ∧ st = ((l, ((d : Int), (T, (m, ([], (false, (L, ((i : Int), ())))))))), (s, (c, ()))) ∧ LeastL s l (bitsOf s c) d T m L (s.2.2.2.2.1).length) ∨ (∃ L i, k = 0 ∧ st = ((l, ((d : Int), (T, (m, ([], (false, (L, ((i : Int), ())))))))), (s, (c, ()))) ∧ ¬ Can s l (bitsOf s c) d T m))
    (by
      rintro i st ⟨L, rfl, h1, h2⟩ hi
      obtain ⟨ha, ha'⟩ := at_ok hs hi
      unfold G59_l0_step
      simp only [lt_int hi, ge0, Bool.and_self, cond_true, getD_toNat, wr1 (i := i) (by omega)]
      by_cases he : atN s i = d
      case neg =>
        rw [beqn_t (a := (s.2.2.2.2.1).getD i 0) (b := (d : Int)) (by omega), cond_true]
        refine .inl ⟨_, rfl, L, rfl, by simp only [cntA, if_neg he]; omega, fun j hj hp => ?_⟩
        rcases Nat.lt_succ_iff_lt_or_eq.1 hj with h | h
        · exact h2 j h hp
        · subst h; exact absurd hp he
      rw [beqn_f (a := (s.2.2.2.2.1).getD i 0) (b := (d : Int)) (by omega), cond_false]
      have hcl := cntA_le s d i
      have fin : ∀ mo, moS s (bitsOf s c) i = mo →
          (∃ s' : TY92, (Option.bind (G92 s l (i : Int) T m mo) fun r2 => (bif (!r2.2.1) then some (1, ((l, ((d : Int), (T, (m, ([], (false, (L, ((i : Int), ())))))))), (s, (c, ())))) else (bif (decide (List.length L + List.length [r2.1] ≤ LIM)) then some (0, ((l, ((d : Int), (T, (m, ([], (false, (L ++ [r2.1], (((i + 1 : Nat) : Int), ())))))))), (s, (c, ())))) else none))) = some (0, s') ∧ ∃ L, s' = ((l, ((d : Int), (T, (m, ([], (false, (L, (((i + 1 : Nat) : Int), ())))))))), (s, (c, ()))) ∧ LeastL s l (bitsOf s c) d T m L (i + 1)) ∨
          (∃ (k : Nat) (s' : TY92), (Option.bind (G92 s l (i : Int) T m mo) fun r2 => (bif (!r2.2.1) then some (1, ((l, ((d : Int), (T, (m, ([], (false, (L, ((i : Int), ())))))))), (s, (c, ())))) else (bif (decide (List.length L + List.length [r2.1] ≤ LIM)) then some (0, ((l, ((d : Int), (T, (m, ([], (false, (L ++ [r2.1], (((i + 1 : Nat) : Int), ())))))))), (s, (c, ())))) else none))) = some (k + 1, s') ∧ ((∃ L i, k = 1 ∧ s' = ((l, ((d : Int), (T, (m, ([], (false, (L, ((i : Int), ())))))))), (s, (c, ()))) ∧ LeastL s l (bitsOf s c) d T m L (s.2.2.2.2.1).length) ∨ (∃ L i, k = 0 ∧ s' = ((l, ((d : Int), (T, (m, ([], (false, (L, ((i : Int), ())))))))), (s, (c, ()))) ∧ ¬ Can s l (bitsOf s c) d T m))) := by
        intro mo hmo
        have hb := moS_bd hs (bitsOf s c) i
        rcases rdrift_eq hs hl hn i hT hm (mo := mo) (by omega) with ⟨q, q1, q2, q3, q4, q5⟩ | ⟨q1, q2⟩
        · left
          rw [q5]
          simp only [Option.bind_some, Bool.not_true, cond_false, lim_ok (n := L.length) (m := List.length [q]) (by omega) (by simp), cond_true]
          refine ⟨_, rfl, _, rfl, by simp only [List.length_append, List.length_singleton, cntA, if_pos he]; omega, fun j hj hp => ?_⟩
          rw [getD_snoc]
          rcases Nat.lt_succ_iff_lt_or_eq.1 hj with h | h
          · have hlt : cntA s d j < cntA s d i := by
              have := cntA_mono s d (i := j + 1) i (by omega)
              simp only [cntA, if_pos hp] at this
              omega
            rw [if_pos (by omega)]
            exact h2 j h hp
          · subst h
            rw [if_neg (by omega), if_pos (by omega)]
            subst hmo
            refine ⟨⟨q1, q2⟩, q3, fun q' a1 a2 a3 => ?_⟩
            apply Classical.byContradiction
            intro hq
            rw [q4 q' a1 (by omega)] at a2
            cases a2
        · right
          rw [q2]
          refine ⟨0, _, rfl, .inr ⟨_, _, rfl, rfl, fun hcan => ?_⟩⟩
          obtain ⟨q, a1, a2, a3⟩ := hcan i hi (by omega)
          rw [q1 q (by omega) (by omega)] at a3
          cases a3
      by_cases hm' : (i : Int) ∈ c.1
      · rw [(has_tells _ _ h3).val hm']
        exact fin _ (by rw [moS_c hc hi, if_pos hm'])
      · rw [(has_tells _ _ h3).nval hm']
        exact fin _ (by rw [moS_c hc hi, if_neg hm']))
    (by
      rintro st ⟨L, rfl, h⟩
      unfold G59_l0_step
      simp only [nlt_int, cond_false]
      exact ⟨1, _, rfl, .inl ⟨L, _, rfl, rfl, h⟩⟩)
    (s.2.2.2.2.1).length 0 (G59_l0_fuel ((l, ((d : Int), (T, (m, ([], (false, ([], (0, ())))))))), (s, (c, ())))) ((l, ((d : Int), (T, (m, ([], (false, ([], (0, ())))))))), (s, (c, ()))) (by omega) (by unfold G59_l0_fuel; simp) ⟨[], rfl, rfl, fun j hj => absurd hj (by omega)⟩
  rw [show G59_l0_run ((l, ((d : Int), (T, (m, ([], (false, ([], (0, ())))))))), (s, (c, ()))) = _ from e]
  rcases h with ⟨L, i, rfl, rfl, h⟩ | ⟨L, i, rfl, rfl, h⟩
  · refine .inl ⟨fun j hj hp => ?_, L, rfl, h⟩
    obtain ⟨ha, ha'⟩ := at_ok hs hj
    have := h.2 j hj (by omega)
    exact ⟨_, this.1.1, this.1.2, this.2.1⟩
  · exact .inr ⟨h, rfl⟩
end Go.Proofs.YtibmgbalfhfcdaaDoor.Abs
set_option linter.unusedVariables false
set_option linter.unusedSimpArgs false
set_option maxRecDepth 100000
namespace Go.Proofs.YtibmgbalfhfcdaaDoor.Abs
open Classical
theorem hc_can {s : E23} {l : List E72} {b d : Nat} {m T : Int} : DC s l b d m T ↔ (-(moD s b d) ≤ m ∧ m ≤ moD s b d) ∧ (2000 ≤ T ∧ T ≤ 3200) ∧ Can s l b d T m := Iff.rfl
theorem first_l1 {s : E23} {l : List E72} (hs : StrOk s) (hl : RdsOk s l) (hn : l.length ≤ 1000) {c : E26} (hc : CauseOk s c) (h3 : (c.1).length < 2 ^ 62) (d : Nat) {T : Int} (hT : 2000 ≤ T ∧ T ≤ 3200) (B : E56) :
    (∃ m, LeastR s l (bitsOf s c) d T m ∧ ∃ m', G58_l1_run ((l, ((d : Int), (false, (moD s (bitsOf s c) d, (T, (0 - moD s (bitsOf s c) d, ())))))), (s, (c, ((0, (0, ())), (B, ()))))) = some (0, ((l, ((d : Int), (true, (moD s (bitsOf s c) d, (T, (m', ())))))), (s, (c, ((T, (m, ())), (B, ()))))))) ∨
    ((∀ m, ¬ DC s l (bitsOf s c) d m T) ∧ ∃ m', G58_l1_run ((l, ((d : Int), (false, (moD s (bitsOf s c) d, (T, (0 - moD s (bitsOf s c) d, ())))))), (s, (c, ((0, (0, ())), (B, ()))))) = some (1, ((l, ((d : Int), (false, (moD s (bitsOf s c) d, (T, (m', ())))))), (s, (c, ((0, (0, ())), (B, ()))))))) := by
  have hmo := moD_bd hs (bitsOf s c) d
  have hdc : ∀ m, DC s l (bitsOf s c) d m T ↔ (-(moD s (bitsOf s c) d) ≤ m ∧ m ≤ moD s (bitsOf s c) d) ∧ Can s l (bitsOf s c) d T m := fun m => by
    rw [hc_can]; exact ⟨fun h => ⟨h.1, h.2.2⟩, fun h => ⟨h.1, hT, h.2⟩⟩
  unfold LeastR
  simp only [hdc]
  generalize moD s (bitsOf s c) d = mo at hmo ⊢
  have key := iter_fn (step := G58_l1_step) (n := (2 * mo + 1).toNat) (k1 := 0) (k2 := 1) (fuel := G58_l1_fuel ((l, ((d : Int), (false, (mo, (T, (0 - mo, ())))))), (s, (c, ((0, (0, ())), (B, ()))))))
    (bad := fun k => decide (Can s l (bitsOf s c) d T ((k : Int) - mo)))
    (fun k => ((l, ((d : Int), (false, (mo, (T, ((k : Int) - mo, ())))))), (s, (c, ((0, (0, ())), (B, ()))))))
    (fun k => ((l, ((d : Int), (true, (mo, (T, ((k : Int) - mo, ())))))), (s, (c, ((T, ((k : Int) - mo, ())), (B, ()))))))
    ((l, ((d : Int), (false, (mo, (T, ((((2 * mo + 1).toNat : Nat) : Int) - mo, ())))))), (s, (c, ((0, (0, ())), (B, ()))))) (fun k hk => by
      have hk' : (k : Int) ≤ 2 * mo := by omega
      have hle : decide ((k : Int) - mo ≤ mo) = true := decide_eq_true (by omega)
      unfold G58_l1_step
      simp only [hle, cond_true]
      rw [wr (n := (k : Int) - mo + 1) (by omega) (by omega)]
      rcases least_eq hs hl hn hc h3 d hT (m := (k : Int) - mo) (by omega) with ⟨h1, L, h2, _⟩ | ⟨h1, h2⟩
      · rw [h2, decide_eq_true h1]; rfl
      · rw [h2, decide_eq_false h1]
        have e : (k : Int) - mo + 1 = ((k + 1 : Nat) : Int) - mo := by omega
        rw [e]; rfl) (by
      have hle : decide ((((2 * mo + 1).toNat : Nat) : Int) - mo ≤ mo) = false := decide_eq_false (by omega)
      unfold G58_l1_step
      simp only [hle, cond_false]) (by unfold G58_l1_fuel; omega)
  have e0 : (((0 : Nat) : Int) - mo) = 0 - mo := rfl
  rcases key with ⟨k, hk, hb, hbelow, he⟩ | ⟨hall, he⟩
  · left
    refine ⟨(k : Int) - mo, ⟨⟨⟨by omega, by omega⟩, of_decide_eq_true hb⟩, fun m hm => ?_⟩, _, he⟩
    apply Classical.byContradiction
    intro hlt
    have := of_decide_eq_false (hbelow (m + mo).toNat (by omega))
    have e : (((m + mo).toNat : Nat) : Int) - mo = m := by omega
    rw [e] at this
    exact this hm.2
  · right
    refine ⟨fun m hm => ?_, _, he⟩
    have := of_decide_eq_false (hall (m + mo).toNat (by omega))
    have e : (((m + mo).toNat : Nat) : Int) - mo = m := by omega
    rw [e] at this
    exact this hm.2
theorem first_eq {s : E23} {l : List E72} (hs : StrOk s) (hl : RdsOk s l) (hn : l.length ≤ 1000) {c : E26} (hc : CauseOk s c) (h3 : (c.1).length < 2 ^ 62) (h4 : (c.2.1).length < 2 ^ 62) (d : Nat) :
    (∃ T m, LeastT s l (bitsOf s c) d T ∧ LeastR s l (bitsOf s c) d T m ∧ G58 s l c d = some ((T, (m, ())), (true, ()))) ∨ ((∀ m T, ¬ DC s l (bitsOf s c) d m T) ∧ G58 s l c d = some ((0, (0, ())), (false, ()))) := by
  have hmo := moD_bd hs (bitsOf s c) d
  obtain ⟨B, eB, hB1, hB2, hB3⟩ := bounds_eq hs hl hn d
  have main : (∃ T m, LeastT s l (bitsOf s c) d T ∧ LeastR s l (bitsOf s c) d T m ∧ (Option.bind (G58_l0_run ((l, ((d : Int), (false, (moD s (bitsOf s c) d, (B.1, ()))))), (s, (c, ((0, (0, ())), (B, ())))))) fun q5 => (natK q5.1 (some (q5.2.2.2.2.1, (q5.2.1.2.2.1, ()))) (fun _ => some (((0 : Int), ((0 : Int), ())), (false, ()))))) = some ((T, (m, ())), (true, ()))) ∨
      ((∀ m T, ¬ DC s l (bitsOf s c) d m T) ∧ (Option.bind (G58_l0_run ((l, ((d : Int), (false, (moD s (bitsOf s c) d, (B.1, ()))))), (s, (c, ((0, (0, ())), (B, ())))))) fun q5 => (natK q5.1 (some (q5.2.2.2.2.1, (q5.2.1.2.2.1, ()))) (fun _ => some (((0 : Int), ((0 : Int), ())), (false, ()))))) = some ((0, (0, ())), (false, ()))) := by
    have hall : ∀ k : Nat, k < (B.2.1 - B.1 + 1).toNat → 2000 ≤ B.1 + (k : Int) ∧ B.1 + (k : Int) ≤ 3200 := fun k hk => by omega
    have R : ∀ k : Nat, ∃ X : TY96, k < (B.2.1 - B.1 + 1).toNat → (¬ (∃ m, DC s l (bitsOf s c) d m (B.1 + (k : Int))) → G58_l0_step ((l, ((d : Int), (false, (moD s (bitsOf s c) d, (B.1 + (k : Int), ()))))), (s, (c, ((0, (0, ())), (B, ()))))) = some (0, ((l, ((d : Int), (false, (moD s (bitsOf s c) d, (B.1 + ((k + 1 : Nat) : Int), ()))))), (s, (c, ((0, (0, ())), (B, ()))))))) ∧ ((∃ m, DC s l (bitsOf s c) d m (B.1 + (k : Int))) → G58_l0_step ((l, ((d : Int), (false, (moD s (bitsOf s c) d, (B.1 + (k : Int), ()))))), (s, (c, ((0, (0, ())), (B, ()))))) = some (1, X) ∧ X.1.2.2.1 = true ∧ ∃ m, X.2.2.2.1 = (B.1 + (k : Int), (m, ())) ∧ LeastR s l (bitsOf s c) d (B.1 + (k : Int)) m) := by
      intro k
      by_cases hk : k < (B.2.1 - B.1 + 1).toNat
      case neg => exact ⟨((l, ((d : Int), (false, (0, (0, ()))))), (s, (c, ((0, (0, ())), (B, ()))))), fun h => absurd h hk⟩
      have hT := hall k hk
      have hle : decide (B.1 + (k : Int) ≤ B.2.1) = true := decide_eq_true (by omega)
      unfold G58_l0_step
      simp only [hle, cond_true]
      rw [wr (n := 0 - moD s (bitsOf s c) d) (by omega) (by omega)]
      rcases first_l1 hs hl hn hc h3 d hT B with ⟨m, h1, m', h2⟩ | ⟨h1, m', h2⟩
      · rw [h2]
        exact ⟨_, fun _ => ⟨fun h => absurd ⟨m, h1.1⟩ h, fun _ => ⟨rfl, rfl, m, rfl, h1⟩⟩⟩
      · rw [h2]
        refine ⟨((l, ((d : Int), (false, (0, (0, ()))))), (s, (c, ((0, (0, ())), (B, ()))))), fun _ => ⟨fun _ => ?_, fun ⟨m, hm⟩ => absurd hm (h1 m)⟩⟩
        simp only [Option.bind_some, natK]
        rw [wr (n := B.1 + (k : Int) + 1) (by omega) (by omega)]
        have e : B.1 + (k : Int) + 1 = B.1 + ((k + 1 : Nat) : Int) := by omega
        rw [e]
    have key := iter_fn (step := G58_l0_step) (n := (B.2.1 - B.1 + 1).toNat) (k1 := 0) (k2 := 1) (fuel := G58_l0_fuel ((l, ((d : Int), (false, (moD s (bitsOf s c) d, (B.1, ()))))), (s, (c, ((0, (0, ())), (B, ()))))))
      (bad := fun k => decide (∃ m, DC s l (bitsOf s c) d m (B.1 + (k : Int))))
      (fun k => ((l, ((d : Int), (false, (moD s (bitsOf s c) d, (B.1 + (k : Int), ()))))), (s, (c, ((0, (0, ())), (B, ()))))))
      (fun k => (R k).choose)
      ((l, ((d : Int), (false, (moD s (bitsOf s c) d, (B.1 + (((B.2.1 - B.1 + 1).toNat : Nat) : Int), ()))))), (s, (c, ((0, (0, ())), (B, ()))))) (fun k hk => by
        have := (R k).choose_spec hk
        by_cases h : ∃ m, DC s l (bitsOf s c) d m (B.1 + (k : Int))
        · rw [decide_eq_true h]; exact (this.2 h).1
        · rw [decide_eq_false h]; exact this.1 h) (by
        have hle : decide (B.1 + (((B.2.1 - B.1 + 1).toNat : Nat) : Int) ≤ B.2.1) = false := decide_eq_false (by omega)
        unfold G58_l0_step
        simp only [hle, cond_false]) (by unfold G58_l0_fuel; omega)
    have e0 : B.1 + ((0 : Nat) : Int) = B.1 := by omega
    simp only [e0] at key
    rcases key with ⟨k, hk, hb, hbelow, he⟩ | ⟨hno, he⟩
    · left
      rw [show G58_l0_run ((l, ((d : Int), (false, (moD s (bitsOf s c) d, (B.1, ()))))), (s, (c, ((0, (0, ())), (B, ()))))) = _ from he]
      have hex := of_decide_eq_true hb
      obtain ⟨_, h2, m, h5, h6⟩ := ((R k).choose_spec hk).2 hex
      refine ⟨B.1 + (k : Int), m, ⟨hex, fun m' T' hT' => ?_⟩, h6, ?_⟩
      · apply Classical.byContradiction
        intro hlt
        have hin := hB3 _ _ _ hT'
        have := of_decide_eq_false (hbelow (T' - B.1).toNat (by omega))
        have e : B.1 + (((T' - B.1).toNat : Nat) : Int) = T' := by omega
        rw [e] at this
        exact this ⟨m', hT'⟩
      · simp only [Option.bind_some, natK]
        rw [h2, h5]
    · right
      rw [show G58_l0_run ((l, ((d : Int), (false, (moD s (bitsOf s c) d, (B.1, ()))))), (s, (c, ((0, (0, ())), (B, ()))))) = _ from he]
      refine ⟨fun m T hT => ?_, rfl⟩
      have hin := hB3 _ _ _ hT
      have := of_decide_eq_false (hno (T - B.1).toNat (by omega))
      have e : B.1 + (((T - B.1).toNat : Nat) : Int) = T := by omega
      rw [e] at this
      exact this ⟨m, hT⟩
  unfold G58
  by_cases hm : (d : Int) ∈ c.2.1
  · rw [(has_tells _ _ h4).val hm]
    simp only [Option.bind_some, cond_true, eB]
    have : moD s (bitsOf s c) d = s.2.2.1 := by rw [moD_c hc, if_pos hm]
    rw [this] at main
    exact main
  · rw [(has_tells _ _ h4).nval hm]
    simp only [Option.bind_some, cond_false, eB]
    have : moD s (bitsOf s c) d = 0 := by rw [moD_c hc, if_neg hm]
    rw [this] at main
    exact main
theorem rexplains_tells {s : E23} {l : List E72} (hs : StrOk s) (hl : RdsOk s l) (hn : l.length ≤ 1000) {c : E26} (hc : CauseOk s c) (h3 : (c.1).length < 2 ^ 62) (h4 : (c.2.1).length < 2 ^ 62) : Tells (G75 s l c) (Ex s l (bitsOf s c)) := by
  have hdep := hs.depths
  unfold G75
  have key := iter_fn (step := G75_l0_step) (n := (s.2.2.2.1).toNat) (k1 := 0) (k2 := 1) (fuel := G75_l0_fuel ((l, (false, (0, ()))), (s, (c, ()))))
    (bad := fun k => decide (∀ m T, ¬ DC s l (bitsOf s c) k m T))
    (fun k => ((l, (false, ((k : Int), ()))), (s, (c, ())))) (fun k => ((l, (false, ((k : Int), ()))), (s, (c, ())))) ((l, (false, ((((s.2.2.2.1).toNat : Nat) : Int), ()))), (s, (c, ()))) (fun k hk => by
      have hlt : decide ((k : Int) < s.2.2.2.1) = true := decide_eq_true (by omega)
      unfold G75_l0_step
      simp only [hlt, cond_true, wr1 (i := k) (by omega)]
      rcases first_eq hs hl hn hc h3 h4 k with ⟨T, m, h1, h2, h5⟩ | ⟨h1, h2⟩
      · rw [h5, decide_eq_false (fun h => h _ _ h2.1)]; rfl
      · rw [h2, decide_eq_true h1]; rfl) (by
      have hlt : decide (((s.2.2.2.1.toNat : Nat) : Int) < s.2.2.2.1) = false := decide_eq_false (by omega)
      unfold G75_l0_step
      simp only [hlt, cond_false]) (by unfold G75_l0_fuel; simp only; omega)
  rcases key with ⟨k, hk, hb, _, he⟩ | ⟨hall, he⟩
  · rw [show G75_l0_run ((l, (false, (0, ()))), (s, (c, ()))) = _ from he]
    refine tells_f fun h => ?_
    obtain ⟨m, T, hT⟩ := h k (by omega)
    exact of_decide_eq_true hb m T hT
  · rw [show G75_l0_run ((l, (false, (0, ()))), (s, (c, ()))) = _ from he]
    refine tells_t fun d hd => ?_
    have := of_decide_eq_false (hall d (by omega))
    exact Classical.byContradiction fun h => this fun m T hT => h ⟨m, T, hT⟩
theorem list_eq {a b : List Int} (h : a.length = b.length) (h2 : ∀ i, i < a.length → a.getD i 0 = b.getD i 0) : a = b := by
  apply List.ext_getElem h
  intro i h1 h3
  have := h2 i h1
  rwa [List.getD_eq_getElem?_getD, List.getD_eq_getElem?_getD, List.getElem?_eq_getElem h1, List.getElem?_eq_getElem h3] at this
end Go.Proofs.YtibmgbalfhfcdaaDoor.Abs
set_option linter.unusedVariables false
set_option linter.unusedSimpArgs false
set_option maxRecDepth 100000
namespace Go.Proofs.YtibmgbalfhfcdaaDoor.Abs
open Classical
theorem strict_ext : ∀ {L L' : List Int}, L.Pairwise (· < ·) → L'.Pairwise (· < ·) → (∀ x, x ∈ L ↔ x ∈ L') → L = L'
  | [], [], _, _, _ => rfl
  | [], b :: t, _, _, h => absurd ((h b).2 (List.mem_cons_self ..)) (by simp)
  | a :: t, [], _, _, h => absurd ((h a).1 (List.mem_cons_self ..)) (by simp)
  | a :: t, b :: t', h1, h2, h => by
    obtain ⟨h3, h4⟩ := List.pairwise_cons.1 h1
    obtain ⟨h5, h6⟩ := List.pairwise_cons.1 h2
    have e : a = b := by
      rcases List.mem_cons.1 ((h a).1 (List.mem_cons_self ..)) with e | ha
      · exact e
      · rcases List.mem_cons.1 ((h b).2 (List.mem_cons_self ..)) with e | hb
        · exact e.symm
        · have := h3 b hb
          have := h5 a ha
          omega
    subst e
    congr 1
    refine strict_ext h4 h6 fun x => ⟨fun hx => ?_, fun hx => ?_⟩
    · rcases List.mem_cons.1 ((h x).1 (List.mem_cons_of_mem _ hx)) with e | h'
      · have := h3 x hx; omega
      · exact h'
    · rcases List.mem_cons.1 ((h x).2 (List.mem_cons_of_mem _ hx)) with e | h'
      · have := h5 x hx; omega
      · exact h'
theorem rising_pw {L : List Int} {B : Int} (h : Rising L B) : L.Pairwise (· < ·) := by
  have hg : ∀ i (hi : i < L.length), L.getD i 0 = L[i] := fun i hi => by rw [List.getD_eq_getElem?_getD, List.getElem?_eq_getElem hi]; rfl
  rw [List.pairwise_iff_getElem]
  intro i j hi hj hij
  induction j with
  | zero => omega
  | succ j ih =>
    have h1 := (h (j + 1) hj).2 (by omega)
    rw [show j + 1 - 1 = j by omega, hg j (by omega), hg (j + 1) hj] at h1
    rcases Nat.lt_succ_iff_lt_or_eq.1 hij with h2 | h2
    · have := ih (by omega) h2; omega
    · subst h2; exact h1
theorem ups_pw (n : Nat) (p : Nat → Bool) : (ups n p).Pairwise (· < ·) := by
  unfold ups
  rw [List.pairwise_map]
  refine (List.Pairwise.filter p List.pairwise_lt_range).imp fun h => ?_
  omega
theorem ups_rising {n : Nat} {p : Nat → Bool} {B : Int} (hB : (n : Int) ≤ B) : Rising (ups n p) B := by
  intro i hi
  have hg : ∀ i (hi : i < (ups n p).length), (ups n p).getD i 0 = (ups n p)[i] := fun i hi => by rw [List.getD_eq_getElem?_getD, List.getElem?_eq_getElem hi]; rfl
  constructor
  · obtain ⟨j, hj, _, e⟩ := ups_mem.1 (getD_mem hi (d := 0))
    rw [e]; omega
  · intro h0
    rw [hg i hi, hg (i - 1) (by omega)]
    exact List.pairwise_iff_getElem.1 (ups_pw n p) (i - 1) i (by omega) hi (by omega)
theorem causeOf_ok {s : E23} (hs : StrOk s) (b : Nat) : CauseOk s (causeOf s b) := by
  have := hs.depths
  exact ⟨ups_rising (by omega), ups_rising (by omega)⟩
theorem bits_cause {s : E23} (hs : StrOk s) {b : Nat} (hb : low b (nC s)) : bitsOf s (causeOf s b) = b := by
  have hdep := hs.depths
  apply Nat.eq_of_testBit_eq
  intro j
  rw [bitsOf_bit (causeOf_ok hs b)]
  unfold causeOf
  by_cases h1 : j < (s.2.2.2.2.1).length
  · have e2 : decide ((s.2.2.2.2.1).length ≤ j ∧ ((j - (s.2.2.2.2.1).length : Nat) : Int) ∈ (ups (s.2.2.2.1).toNat fun i => b.testBit ((s.2.2.2.2.1).length + i))) = false := decide_eq_false fun h => by omega
    simp only [e2, Bool.or_false]
    cases hj : b.testBit j with
    | true => exact decide_eq_true (ups_mem.2 ⟨j, h1, hj, rfl⟩)
    | false =>
      refine decide_eq_false fun h => ?_
      obtain ⟨i, _, hi, e⟩ := ups_mem.1 h
      have : j = i := by omega
      subst this
      rw [hj] at hi; cases hi
  · have e1 : decide ((j : Int) ∈ ups (s.2.2.2.2.1).length b.testBit) = false := decide_eq_false fun h => by
      obtain ⟨i, hi, _, e⟩ := ups_mem.1 h; omega
    simp only [e1, Bool.false_or]
    cases hj : b.testBit j with
    | true =>
      refine decide_eq_true ⟨by omega, ups_mem.2 ⟨j - (s.2.2.2.2.1).length, ?_, ?_, rfl⟩⟩
      · apply Classical.byContradiction
        intro hn
        have := hb j (by unfold nC; omega)
        rw [hj] at this; cases this
      · rw [show (s.2.2.2.2.1).length + (j - (s.2.2.2.2.1).length) = j by omega]; exact hj
    | false =>
      refine decide_eq_false fun h => ?_
      obtain ⟨i, _, hi, e⟩ := ups_mem.1 h.2
      have : (s.2.2.2.2.1).length + i = j := by omega
      rw [this, hj] at hi; cases hi
theorem cause_bits {s : E23} (hs : StrOk s) {c : E26} (hc : CauseOk s c) : causeOf s (bitsOf s c) = c := by
  have hdep := hs.depths
  obtain ⟨S, D, u⟩ := c
  have e1 : ups (s.2.2.2.2.1).length (bitsOf s (S, (D, u))).testBit = S := by
    refine strict_ext (ups_pw _ _) (rising_pw hc.1) fun x => ?_
    rw [ups_mem]
    constructor
    · rintro ⟨i, hi, hb, rfl⟩
      rw [bit_s hc hi] at hb
      exact of_decide_eq_true hb
    · intro hx
      have := rising_mem hc.1 hx
      refine ⟨x.toNat, by omega, ?_, by omega⟩
      rw [bit_s hc (by omega)]
      refine decide_eq_true ?_
      have e : ((x.toNat : Nat) : Int) = x := by omega
      rw [e]; exact hx
  have e2 : ups (s.2.2.2.1).toNat (fun i => (bitsOf s (S, (D, u))).testBit ((s.2.2.2.2.1).length + i)) = D := by
    refine strict_ext (ups_pw _ _) (rising_pw hc.2) fun x => ?_
    rw [ups_mem]
    constructor
    · rintro ⟨i, hi, hb, rfl⟩
      rw [bit_d hc] at hb
      exact of_decide_eq_true hb
    · intro hx
      have := rising_mem hc.2 hx
      refine ⟨x.toNat, by omega, ?_, by omega⟩
      rw [bit_d hc]
      refine decide_eq_true ?_
      have e : ((x.toNat : Nat) : Int) = x := by omega
      rw [e]; exact hx
  unfold causeOf
  rw [e1, e2]
theorem ups_cnt (p : Nat → Bool) (b : Nat) (k : Nat) (h : ∀ i, p i = b.testBit (k + i)) : ∀ n, (ups n p).length + cnt b k = cnt b (k + n)
  | 0 => by simp [ups]
  | n + 1 => by
    rw [ups_succ, List.length_append]
    have := ups_cnt p b k h n
    rw [show k + (n + 1) = (k + n) + 1 by omega]
    simp only [cnt, h n]
    cases b.testBit (k + n) <;> simp <;> omega
theorem cause_cnt (s : E23) (b : Nat) : ((causeOf s b).1).length + ((causeOf s b).2.1).length = cnt b (nC s) := by
  unfold causeOf nC
  have h1 := ups_cnt b.testBit b 0 (fun i => by simp) (s.2.2.2.2.1).length
  have h2 := ups_cnt (fun i => b.testBit ((s.2.2.2.2.1).length + i)) b (s.2.2.2.2.1).length (fun i => rfl) (s.2.2.2.1).toNat
  simp only [cnt, Nat.zero_add, Nat.add_zero] at h1
  simp only
  omega
theorem cnt_mono (b i : Nat) : ∀ k, i ≤ k → cnt b i ≤ cnt b k
  | 0, h => by have : i = 0 := by omega
               subst this; exact Nat.le_refl _
  | k + 1, h => by
    rcases Nat.lt_or_eq_of_le h with h | h
    · have := cnt_mono b i k (by omega)
      simp only [cnt]; omega
    · subst h; exact Nat.le_refl _
theorem cnt_same {b c : Nat} : ∀ k, (∀ j, j < k → b.testBit j = c.testBit j) → cnt b k = cnt c k
  | 0, _ => rfl
  | k + 1, h => by simp only [cnt, cnt_same k (fun j hj => h j (by omega)), h k (by omega)]
theorem low_of_cnt {b i n : Nat} (hb : low b n) (hin : i ≤ n) (h : cnt b n = cnt b i) : low b i := by
  intro j hj
  by_cases hjn : n ≤ j
  · exact hb j hjn
  · cases ht : b.testBit j with
    | false => rfl
    | true =>
      have h1 := cnt_mono b i j hj
      have h2 := cnt_mono b (j + 1) n (by omega)
      simp only [cnt, ht, cond_true] at h2
      omega
theorem eq_low {b c i : Nat} (hb : low b i) (hc : low c i) (h : ∀ j, j < i → b.testBit j = c.testBit j) : b = c := by
  apply Nat.eq_of_testBit_eq
  intro j
  by_cases hj : j < i
  · exact h j hj
  · rw [hb j (by omega), hc j (by omega)]
theorem comb_mem (n : Nat) : ∀ rem left now, rem ≤ n → low now (n - rem) → ∀ b, low b n → (∀ j, j < n - rem → b.testBit j = now.testBit j) → cnt b n = cnt now n + left → b ∈ comb n rem left now
  | 0, left, now, hr, h, b, hb, hp, hc => by
    have e := eq_low hb h hp
    subst e
    simp only [comb, if_pos (show left = 0 by omega), List.mem_singleton]
  | rem + 1, 0, now, hr, h, b, hb, hp, hc => by
    have h1 := cnt_low h n (by omega)
    have h2 := cnt_same _ hp
    have h3 : low b (n - (rem + 1)) := low_of_cnt hb (by omega) (by omega)
    have e := eq_low h3 h hp
    subst e
    simp only [comb, List.mem_singleton]
  | rem + 1, left + 1, now, hr, h, b, hb, hp, hc => by
    have e : n - (rem + 1) + 1 = n - rem := by omega
    simp only [comb, List.mem_append]
    have h0 := h _ (Nat.le_refl _)
    cases ht : b.testBit (n - (rem + 1)) with
    | true =>
      left
      have hl := low_or h
      rw [e] at hl
      refine comb_mem n rem left _ (by omega) hl b hb (fun j hj => ?_) ?_
      · rw [Nat.testBit_or, Nat.testBit_two_pow]
        by_cases hj2 : j = n - (rem + 1)
        · subst hj2; rw [ht]; simp
        · rw [hp j (by omega)]; simp; omega
      · rw [cnt_or h0, if_pos (by omega)]; omega
    | false =>
      right
      refine comb_mem n rem (left + 1) now (by omega) (low_mono h (by omega)) b hb (fun j hj => ?_) hc
      by_cases hj2 : j = n - (rem + 1)
      · subst hj2; rw [ht, h0]
      · exact hp j (by omega)
theorem cnt_zero (k : Nat) : cnt 0 k = 0 := by
  induction k with
  | zero => rfl
  | succ k ih => simp [cnt, ih]
theorem comb_all {n b : Nat} (hb : low b n) : b ∈ comb n n (cnt b n) 0 :=
  comb_mem n n _ 0 (Nat.le_refl _) (low_zero _) b hb (fun j hj => by omega) (by rw [cnt_zero]; omega)
theorem cause_len {s : E23} {c : E26} (hs : StrOk s) (hc : CauseOk s c) : (c.1).length + (c.2.1).length ≤ nC s := by
  have h1 := cause_cnt s (bitsOf s c)
  rw [cause_bits hs hc] at h1
  have := cnt_le (bitsOf s c) (nC s)
  omega
end Go.Proofs.YtibmgbalfhfcdaaDoor.Abs
set_option linter.unusedVariables false
set_option linter.unusedSimpArgs false
set_option maxRecDepth 100000
namespace Go.Proofs.YtibmgbalfhfcdaaDoor.Abs
open Classical
abbrev UW : Type := Nat × (Int × (Int × (E56 × Bool)))
def pkW (s : E23) (l : List E72) (M : List (E56 × E94)) (u : UW) : E123 × ((Nat × UT79) × ((List (E56 × E94)) × (Int × (Int × ((Int × (Int × Unit)) × (Bool × Unit)))))) := (XX s l, ((u.1, UC79), (M, (u.2.1, (u.2.2.1, (u.2.2.2.1, (u.2.2.2.2, ())))))))
def Val (s : E23) (l : List E72) (b d : Nat) (w x : Int) : Prop := ∃ m T, DC s l b d m T ∧ x = T + m * w
def Lim (P : Int → Prop) (q : E56) (found : Bool) : Prop := (found = true → P q.1 ∧ P q.2.1 ∧ ∀ x, P x → q.1 ≤ x ∧ x ≤ q.2.1) ∧ (found = false → ∀ x, ¬ P x)
theorem Lim.iff {P Q : Int → Prop} {q : E56} {f : Bool} (h : Lim P q f) (e : ∀ x, P x ↔ Q x) : Lim Q q f := ⟨fun hf => ⟨(e _).1 (h.1 hf).1, (e _).1 (h.1 hf).2.1, fun x hx => (h.1 hf).2.2 x ((e x).2 hx)⟩, fun hf x hx => h.2 hf x ((e x).2 hx)⟩
def VW (s : E23) (l : List E72) (b : Nat) (u : UW) (r : Bool) (u' : UW) : Prop := r = true ∧ u'.1 = 0 ∧ u'.2.1 = u.2.1 ∧ u'.2.2.1 = u.2.2.1 ∧ ∀ P, Lim P u.2.2.2.1 u.2.2.2.2 → Lim (fun x => P x ∨ Val s l b u.2.1.toNat u.2.2.1 x) u'.2.2.2.1 u'.2.2.2.2
def PreW (k : Nat) (u : UW) : Prop := u.1 = 0 ∧ (∃ d : Nat, u.2.1 = (d : Int) ∧ d < 4) ∧ 0 ≤ u.2.2.1 ∧ u.2.2.1 ≤ 200
def ValK (s : E23) (l : List E72) (b d : Nat) (w : Int) (i : Nat) (x : Int) : Prop := ∃ j, j < i ∧ ∃ T, DC s l b d ((j : Int) - 20) T ∧ x = T + ((j : Int) - 20) * w
theorem val_k {s : E23} {l : List E72} (hs : StrOk s) {b d : Nat} {w x : Int} : Val s l b d w x ↔ ValK s l b d w 41 x := by
  constructor
  · rintro ⟨m, T, h, rfl⟩
    obtain ⟨k, hk, rfl⟩ := rate_k (h.bd hs).1
    exact ⟨k, hk, T, h, rfl⟩
  · rintro ⟨j, hj, T, h, rfl⟩
    exact ⟨_, T, h, rfl⟩
theorem where_l0 {s : E23} {l : List E72} (hs : StrOk s) {b d : Nat} {v : E94} (hv : AnsIs s l b d v) {w : Int} (hw : 0 ≤ w ∧ w ≤ 200) (M : List (E56 × E94)) (out : E56) (found : Bool) :
    ∃ out' found' i, G28_l0_run ((v.1, (0, ())), ((1, UC79), ((d : Int), (w, (out, (found, (XX s l, (M, ())))))))) = some (0, ((v.1, (i, ())), ((1, UC79), ((d : Int), (w, (out', (found', (XX s l, (M, ()))))))))) ∧ ∀ P, Lim P out found → Lim (fun x => P x ∨ Val s l b d w x) out' found' := by
  unfold G28_l0_run
  obtain ⟨st, e, out', found', i, rfl, h⟩ := iter_inv (step := G28_l0_step) (k := 0) (n := 41)
    (fun i st => ∃ out' found', st = ((v.1, ((i : Int), ())), ((1, UC79), ((d : Int), (w, (out', (found', (XX s l, (M, ())))))))) ∧ ∀ P, Lim P out found → Lim (fun x => P x ∨ ValK s l b d w i x) out' found')
    (fun st => ∃ (out' : E56) (found' : Bool) (i : Int), st = ((v.1, (i, ())), ((1, UC79), ((d : Int), (w, (out', (found', (XX s l, (M, ())))))))) ∧ ∀ P, Lim P out found → Lim (fun x => P x ∨ ValK s l b d w 41 x) out' found')
    (by
      rintro i st ⟨out1, found1, rfl, hL⟩ hi
      have e0 : decide ((i : Int) < 41) = true := decide_eq_true (by omega)
      unfold G28_l0_step
      simp only [e0, ge0, Bool.and_self, cond_true, getD_toNat, wr1 (i := i) (by omega)]
      have hsp := hv.span i hi
      have step : ∀ x, ValK s l b d w (i + 1) x ↔ ValK s l b d w i x ∨ ∃ T, DC s l b d ((i : Int) - 20) T ∧ x = T + ((i : Int) - 20) * w := fun x => by
        constructor
        · rintro ⟨j, hj, T, h, rfl⟩
          rcases Nat.lt_succ_iff_lt_or_eq.1 hj with h' | h'
          · exact .inl ⟨j, h', T, h, rfl⟩
          · subst h'; exact .inr ⟨T, h, rfl⟩
        · rintro (⟨j, hj, T, h, rfl⟩ | ⟨T, h, rfl⟩)
          · exact ⟨j, by omega, T, h, rfl⟩
          · exact ⟨i, by omega, T, h, rfl⟩
      generalize v.1.getD i (0, (0, ())) = q at hsp ⊢
      rcases hsp with ⟨a1, a2, a3⟩ | ⟨a1, rfl⟩
      · have b1 := (a1.bd hs).2
        have b2 := (a2.bd hs).2
        have hm := mulb (m := (i : Int) - 20) (w := w) (by omega) (by omega) hw.1 hw.2
        have hneg : decide (q.1 < 0) = false := decide_eq_false (by omega)
        have new : ∀ x, (∃ T, DC s l b d ((i : Int) - 20) T ∧ x = T + ((i : Int) - 20) * w) → q.1 + ((i : Int) - 20) * w ≤ x ∧ x ≤ q.2.1 + ((i : Int) - 20) * w := fun x ⟨T, hT, hx⟩ => by
          have := a3 T hT
          omega
        have n1 : ∃ T, DC s l b d ((i : Int) - 20) T ∧ q.1 + ((i : Int) - 20) * w = T + ((i : Int) - 20) * w := ⟨_, a1, rfl⟩
        have n2 : ∃ T, DC s l b d ((i : Int) - 20) T ∧ q.2.1 + ((i : Int) - 20) * w = T + ((i : Int) - 20) * w := ⟨_, a2, rfl⟩
        simp only [hneg, cond_false]
        rw [wr (n := (i : Int) - 20) (by omega) (by omega), wr (n := ((i : Int) - 20) * w) (by omega) (by omega), wr (n := q.1 + ((i : Int) - 20) * w) (by omega) (by omega), wr (n := q.2.1 + ((i : Int) - 20) * w) (by omega) (by omega)]
        generalize q.1 + ((i : Int) - 20) * w = y1 at new n1 ⊢
        generalize q.2.1 + ((i : Int) - 20) * w = y2 at new n2 ⊢
        cases found1 with
        | false =>
          simp only [Bool.not_false, cond_true]
          have f1 : (if y1 < y1 then y1 else y1) = y1 := by split <;> rfl
          have f2 : (if y2 > y2 then y2 else y2) = y2 := by split <;> rfl
          rw [f1, f2]
          refine ⟨_, rfl, (y1, (y2, ())), true, rfl, fun P hP => ?_⟩
          have hno := (hL P hP).2 rfl
          refine ⟨fun _ => ⟨.inr ((step _).2 (.inr n1)), .inr ((step _).2 (.inr n2)), fun x hx => ?_⟩, fun h => by cases h⟩
          rcases hx with hx | hx
          · exact absurd (.inl hx) (hno x)
          · rcases (step x).1 hx with hx | hx
            · exact absurd (.inr hx) (hno x)
            · exact new x hx
        | true =>
          simp only [Bool.not_true, cond_false]
          refine ⟨_, rfl, (if y1 < out1.1 then y1 else out1.1, (if y2 > out1.2.1 then y2 else out1.2.1, ())), true, rfl, fun P hP => ?_⟩
          obtain ⟨c1, c2, c3⟩ := (hL P hP).1 rfl
          have up : ∀ x, (P x ∨ ValK s l b d w i x) → (P x ∨ ValK s l b d w (i + 1) x) := fun x hx => hx.imp id fun h => (step x).2 (.inl h)
          refine ⟨fun _ => ⟨?_, ?_, fun x hx => ?_⟩, fun h => by cases h⟩
          · simp only
            split
            · exact .inr ((step _).2 (.inr n1))
            · exact up _ c1
          · simp only
            split
            · exact .inr ((step _).2 (.inr n2))
            · exact up _ c2
          · have hx' : (P x ∨ ValK s l b d w i x) ∨ ∃ T, DC s l b d ((i : Int) - 20) T ∧ x = T + ((i : Int) - 20) * w := by
              rcases hx with hx | hx
              · exact .inl (.inl hx)
              · rcases (step x).1 hx with hx | hx
                · exact .inl (.inr hx)
                · exact .inr hx
            simp only
            rcases hx' with hx | hx
            · have := c3 x hx
              constructor <;> split <;> omega
            · have := new x hx
              constructor <;> split <;> omega
      · have hneg : decide ((-1 : Int) < 0) = true := rfl
        simp only [hneg, cond_true]
        refine ⟨_, rfl, out1, found1, rfl, fun P hP => (hL P hP).iff fun x => or_congr_right ?_⟩
        rw [step x]
        exact ⟨.inl, fun h => h.elim id fun ⟨T, hT, _⟩ => absurd hT (a1 T)⟩)
    (by
      rintro st ⟨out1, found1, rfl, hL⟩
      have e0 : decide (((41 : Nat) : Int) < 41) = false := by decide
      unfold G28_l0_step
      simp only [e0, cond_false]
      exact ⟨_, rfl, out1, found1, _, rfl, hL⟩)
    41 0 (G28_l0_fuel ((v.1, (0, ())), ((1, UC79), ((d : Int), (w, (out, (found, (XX s l, (M, ()))))))))) ((v.1, (0, ())), ((1, UC79), ((d : Int), (w, (out, (found, (XX s l, (M, ())))))))) (by omega) (by unfold G28_l0_fuel; simp) ⟨out, found, rfl, fun P hP => hP.iff fun x => ⟨.inl, fun h => h.elim id fun ⟨j, hj, _⟩ => absurd hj (by omega)⟩⟩
  exact ⟨out', found', i, e, fun P hP => (h P hP).iff fun x => or_congr_right (val_k hs).symm⟩
theorem r0W {s : E23} {l : List E72} (hs : StrOk s) (hl : RdsOk s l) (hn : l.length ≤ 1000) {b : Nat} (hb : b < 2 ^ 62) {M : List (E56 × E94)} (hM : MemoOk s l M) (u : UW) (k : Nat) (hu : PreW k u) :
    ∃ u' M', G28 b (u.1, UC79) u.2.1 u.2.2.1 u.2.2.2.1 u.2.2.2.2 (XX s l) M = some (true, ((u'.1, UC79), (u'.2.1, (u'.2.2.1, (u'.2.2.2.1, (u'.2.2.2.2, (XX s l, (M', ())))))))) ∧ VW s l b u true u' ∧ MemoOk s l M' := by
  obtain ⟨k0, d0, w, out, found⟩ := u
  obtain ⟨h1, ⟨d, h2, h3⟩, h4, h5⟩ := hu
  simp only at h1 h2 h4 h5
  subst h1; subst h2
  obtain ⟨v, M', e1, e2, e3⟩ := depth_eq hs hl hn hb h3 hM
  obtain ⟨out', found', i, e4, e5⟩ := where_l0 hs e2 (w := w) ⟨h4, h5⟩ M' out found
  unfold G28
  simp only [natK]
  rw [show G54 (d : Int) (b : Int) ((XX s l).1, ((XX s l).2.1, ((), (XX s l).2.2.2))) M = _ from e1]
  simp only [Option.bind_some]
  rw [show G28_l0_run ((v.1, (0, ())), ((1, UC79), ((d : Int), (w, (out, (found, (((XX s l).1, ((XX s l).2.1, ((), (XX s l).2.2.2))), (M', ())))))))) = _ from e4]
  refine ⟨(0, ((d : Int), (w, (out', found')))), M', rfl, ⟨rfl, rfl, rfl, rfl, ?_⟩, e3⟩
  simp only [Int.toNat_natCast]
  exact e5
theorem srchW {s : E23} {l : List E72} (hs : StrOk s) (hl : RdsOk s l) (hn : l.length ≤ 1000) : Srch (nC s) (MemoOk s l) PreW (Ex s l) (VW s l) (pkW s l) G94_v2_fix G94_v2_l0_step where
  hn := by have := nC_le hs; omega
  base := by
    rintro f from_ now M u k hlow hM hP
    have hn10 := nC_le hs
    obtain ⟨h60, h62⟩ := low_60 hlow (by omega)
    obtain ⟨r, M', e, hr, hM'⟩ := explains_eq hs hl hn h62 hM
    show ∃ r u' M', G94_v2_b (G94_v2_fix f) 0 from_ now (XX s l) (u.1, UC79) M u.2.1 u.2.2.1 u.2.2.2.1 u.2.2.2.2 = some (r, pkW s l M' u') ∧ _
    unfold G94_v2_b
    have e0 : ((0 : Int) == 0) = true := rfl
    simp only [e0, cond_true]
    rw [show G52 (now : Int) ((XX s l).1, ((XX s l).2.1, ((), (XX s l).2.2.2))) M = _ from e]
    simp only [Option.bind_some]
    cases r with
    | false => exact ⟨true, u, M', rfl, hM', .inl ⟨(fun h => by have := hr.2 h; cases this), rfl, rfl⟩⟩
    | true =>
      simp only [Bool.not_true, cond_false]
      obtain ⟨u', M2, e2, hv, hM2⟩ := r0W hs hl hn h62 hM' u (k + 1) hP
      rw [show G28 (now : Int) (u.1, UC79) u.2.1 u.2.2.1 u.2.2.2.1 u.2.2.2.2 ((XX s l).1, ((XX s l).2.1, ((), (XX s l).2.2.2))) M' = _ from e2]
      exact ⟨true, u', M2, rfl, hM2, .inr ⟨hr.1 rfl, hv⟩⟩
  pre := by
    rintro b u u' k ⟨_, h1, h2, h3, _⟩ ⟨hk0, hd, hw⟩
    exact ⟨h1, by rw [h2]; exact hd, by rw [h3]; exact hw⟩
  mono := fun u k h => h
  step := by
    rintro f left from_ now M u hleft
    show G94_v2_b (G94_v2_fix f) left from_ now (XX s l) (u.1, UC79) M u.2.1 u.2.2.1 u.2.2.2.1 u.2.2.2.2 = _
    unfold G94_v2_b
    rw [beq_eq_false_iff_ne.2 hleft, cond_false]
    rfl
  stp_ := by
    rintro rc ⟨left, now, ret, i, _⟩ M u
    unfold G94_v2_l0_step srchStp pkW
    rw [show G64 ((XX s l).1, ((XX s l).2.1, ((), (XX s l).2.2.2))) = _ from many_eq hs l]
    rfl
def p93W (s : E23) (l : List E72) (most : Int) (M : List (E56 × E94)) (u : UW) : (Nat × UT79) × (Int × (Int × (Int × ((Int × (Int × Unit)) × (Bool × (E123 × ((List (E56 × E94)) × Unit))))))) := ((u.1, UC79), (most, (u.2.1, (u.2.2.1, (u.2.2.2.1, (u.2.2.2.2, (XX s l, (M, ()))))))))
theorem all93W {s : E23} {l : List E72} (hs : StrOk s) (hl : RdsOk s l) (hn : l.length ≤ 1000) {M : List (E56 × E94)} (hM : MemoOk s l M) (most : Nat) (hmost : most ≤ nC s) (u : UW) (hu : ∀ k, PreW k u) :
    ∃ r u' M', G93_v4 (u.1, UC79) (most : Int) u.2.1 u.2.2.1 u.2.2.2.1 u.2.2.2.2 (XX s l) M = some ((), p93W s l (most : Int) M' u') ∧ Feed (Ex s l) (VW s l) (allC (nC s) most) u r u' := by
  have hn10 := nC_le hs
  obtain ⟨k, x, r, u', M', e, hM', hF⟩ := (srchW hs hl hn).all (p93W s l (most : Int)) G93_v4_l0_step most hmost
    (by
      rintro m1 many M u r u1 M' hlt hm1 e
      unfold G93_v4_l0_step p93W
      simp only [lt_int hlt, cond_true]
      rw [show G94_v2 (many : Int) 0 0 ((XX s l).1, ((XX s l).2.1, ((), (XX s l).2.2.2))) (u.1, UC79) M u.2.1 u.2.2.1 u.2.2.2.1 u.2.2.2.2 = _ from e]
      simp only [Option.bind_some, wr1 (i := many) (by omega)]
      cases r <;> rfl)
    (by
      rintro m1 M u
      unfold G93_v4_l0_step p93W
      simp only [nlt_int, cond_false]) M u hM (hu _) (most + 2) (by omega)
  unfold G93_v4
  rw [wr1 (i := most) (by omega)]
  have hfu : G93_v4_l0_fuel ((((most + 1 : Nat) : Int), (0, ())), p93W s l (most : Int) M u) = most + 2 := by unfold G93_v4_l0_fuel; simp only; omega
  rw [show G93_v4_l0_run ((((most + 1 : Nat) : Int), (0, ())), ((u.1, UC79), ((most : Int), (u.2.1, (u.2.2.1, (u.2.2.2.1, (u.2.2.2.2, (((XX s l).1, ((XX s l).2.1, ((), (XX s l).2.2.2))), (M, ()))))))))) = iter G93_v4_l0_step (G93_v4_l0_fuel ((((most + 1 : Nat) : Int), (0, ())), p93W s l (most : Int) M u)) ((((most + 1 : Nat) : Int), (0, ())), p93W s l (most : Int) M u) from rfl, hfu, e]
  refine ⟨r, u', M', ?_, hF⟩
  cases k <;> rfl
theorem feedW {s : E23} {l : List E72} {d : Int} {w : Int} : ∀ (xs : List Nat) (u : UW) (r : Bool) (u' : UW) (P : Int → Prop), u.1 = 0 → u.2.1 = d → u.2.2.1 = w → Feed (Ex s l) (VW s l) xs u r u' → Lim P u.2.2.2.1 u.2.2.2.2 → u'.1 = 0 ∧ Lim (fun x => P x ∨ ∃ b ∈ xs, Ex s l b ∧ Val s l b d.toNat w x) u'.2.2.2.1 u'.2.2.2.2
  | [], u, r, u', P, h0, hd, hw, h, hP => by
    cases h
    exact ⟨h0, hP.iff fun x => by simp⟩
  | y :: xs, u, r, u', P, h0, hd, hw, h, hP => by
    cases h with
    | skip a h =>
      obtain ⟨h1, h2⟩ := feedW xs u r u' P h0 hd hw h hP
      refine ⟨h1, h2.iff fun x => or_congr_right ⟨fun ⟨b, hb, hh⟩ => ⟨b, List.mem_cons_of_mem _ hb, hh⟩, fun ⟨b, hb, hE, hh⟩ => ?_⟩⟩
      rcases List.mem_cons.1 hb with rfl | hb
      · exact absurd hE a
      · exact ⟨b, hb, hE, hh⟩
    | go a b h =>
      obtain ⟨_, b1, b2, b3, b4⟩ := b
      have hP1 := b4 P hP
      obtain ⟨h1, h2⟩ := feedW xs _ r u' _ b1 (b2.trans hd) (b3.trans hw) h hP1
      rw [hd, hw] at h2
      refine ⟨h1, h2.iff fun x => ?_⟩
      rw [or_assoc]
      refine or_congr_right ⟨fun hx => ?_, fun ⟨b, hb, hE, hh⟩ => ?_⟩
      · rcases hx with hx | ⟨b, hb, hh⟩
        · exact ⟨y, List.mem_cons_self .., a, hx⟩
        · exact ⟨b, List.mem_cons_of_mem _ hb, hh⟩
      · rcases List.mem_cons.1 hb with rfl | hb
        · exact .inl hh
        · exact .inr ⟨b, hb, hE, hh⟩
    | stop a b => exact absurd b.1 (by decide)
def WhOk (s : E23) (most d w : Int) : Prop := (0 ≤ most ∧ most ≤ ((nC s : Nat) : Int)) ∧ (0 ≤ d ∧ d < s.2.2.2.1) ∧ (0 ≤ w ∧ w ≤ 200)
theorem fineW {s : E23} (hs : StrOk s) (l : List E72) (most d w : Int) : ∃ b, G72 (XX s l) most d s w [] = some (b, (XX s l, (most, (d, (s, (w, ([], ()))))))) ∧ (b = true ↔ WhOk s most d w) := by
  have hdep := hs.depths
  unfold G72
  rw [show G64 ((XX s l).1, ((XX s l).2.1, ((), (XX s l).2.2.2))) = _ from many_eq hs l]
  rw [wr (n := s.2.2.2.1 - 1) (by omega) (by omega)]
  simp only [Option.bind_some, in_tells]
  unfold WhOk
  by_cases h1 : 0 ≤ most ∧ most ≤ ((nC s : Nat) : Int)
  · rw [decide_eq_true h1, cond_true]
    by_cases h2 : 0 ≤ d ∧ d ≤ s.2.2.2.1 - 1
    · rw [decide_eq_true h2, cond_true]
      exact ⟨_, rfl, by rw [decide_eq_true_iff]; exact ⟨fun h => ⟨h1, ⟨h2.1, by omega⟩, h⟩, fun h => h.2.2⟩⟩
    · rw [decide_eq_false h2, cond_false]
      exact ⟨false, rfl, by simp only [Bool.false_eq_true, false_iff]; intro h; exact h2 ⟨h.2.1.1, by have := h.2.1.2; omega⟩⟩
  · rw [decide_eq_false h1, cond_false]
    exact ⟨false, rfl, by simp only [Bool.false_eq_true, false_iff]; intro h; exact h1 h.1⟩
theorem given4_eq (s : E23) (l : List E72) (most d w : Int) (h0 : l.length < 2 ^ 62) :
    (24 < l.length ∧ G49_v4 s l most d s w = some (.inl (((), (3, ())), (most, (d, (s, (w, ()))))))) ∨ (l.length ≤ 24 ∧ ¬ (SlOk s l ∧ WhOk s most d w) ∧ G49_v4 s l most d s w = some (.inl (((), (2, ())), (most, (d, (s, (w, ()))))))) ∨ (SlOk s l ∧ WhOk s most d w ∧ G49_v4 s l most d s w = some (.inr (((), (0, ())), (most, (d, (s, (w, (s, ([], (XX s l, ())))))))))) := by
  unfold G49_v4
  by_cases hl : l.length ≤ 24
  case neg =>
    rw [decide_eq_true (p := (l.length : Int) > 24) (by omega)]
    exact .inl ⟨by omega, rfl⟩
  right
  rw [decide_eq_false (p := (l.length : Int) > 24) (by omega), cond_false]
  by_cases hs : StrOk s
  case neg =>
    rw [(valid_tells s).nval hs]
    exact .inl ⟨hl, fun h => hs h.1.2.1, rfl⟩
  rw [(valid_tells s).val hs]
  simp only [Option.bind_some, Bool.not_true, cond_false]
  rw [cf81 l s hs h0]
  simp only [Option.bind_some]
  cases ha : l.any (fun r => !decide (RdOk s r)) with
  | true =>
    refine .inl ⟨hl, fun h => ?_, rfl⟩
    rw [List.any_eq_true] at ha
    obtain ⟨x, hx, hx'⟩ := ha
    rw [decide_eq_true (h.1.2.2 x hx)] at hx'
    cases hx'
  | false =>
    have hr : RdsOk s l := by
      intro r hr
      have := List.any_eq_false.1 ha r hr
      simpa using this
    simp only [cond_false]
    obtain ⟨b, e, hb⟩ := fineW hs l most d w
    rw [e]
    cases b with
    | true => exact .inr ⟨⟨hl, hs, hr⟩, hb.1 rfl, rfl⟩
    | false => exact .inl ⟨hl, fun h => (by have := hb.2 h.2; cases this), rfl⟩
def ValA (s : E23) (l : List E72) (most d w x : Int) : Prop := ∃ b ∈ allC (nC s) most.toNat, Ex s l b ∧ Val s l b d.toNat w x
theorem swhere_eq (s : E23) (l : List E72) (most d w : Int) (h0 : l.length < 2 ^ 62) :
    (24 < l.length ∧ g28_sense_Where s l most d w = some ((0, (0, ())), (3, ()))) ∨ (l.length ≤ 24 ∧ ¬ (SlOk s l ∧ WhOk s most d w) ∧ g28_sense_Where s l most d w = some ((0, (0, ())), (2, ()))) ∨ (SlOk s l ∧ WhOk s most d w ∧ (((∀ x, ¬ ValA s l most d w x) ∧ g28_sense_Where s l most d w = some ((0, (0, ())), (5, ()))) ∨ ∃ q, Lim (ValA s l most d w) q true ∧ g28_sense_Where s l most d w = some (q, (0, ())))) := by
  unfold g28_sense_Where
  rcases given4_eq s l most d w h0 with ⟨h, e⟩ | ⟨h, h', e⟩ | ⟨hsl, hw, e⟩
  · rw [e]; exact .inl ⟨h, rfl⟩
  · rw [e]; exact .inr (.inl ⟨h, h', rfl⟩)
  · rw [e]
    refine .inr (.inr ⟨hsl, hw, ?_⟩)
    have hn : l.length ≤ 1000 := by have := hsl.1; omega
    have hs := hsl.2.1
    have hdep := hs.depths
    have hn10 := nC_le hs
    obtain ⟨w1, w2, w3⟩ := hw
    obtain ⟨r, u', M', e2, hF⟩ := all93W hs hsl.2.2 hn (memo_nil s l) most.toNat (by omega) (0, (d, (w, ((0, (0, ())), false)))) (fun k => ⟨rfl, ⟨d.toNat, by simp only; omega, by omega⟩, w3.1, w3.2⟩)
    have em : ((most.toNat : Nat) : Int) = most := by omega
    rw [em] at e2
    simp only [Option.bind_some, altK]
    have e0 : ((0 : Int) != 0) = false := rfl
    simp only [e0, cond_false, G63, Option.bind_some]
    rw [show G93_v4 (0, UC79) most d w (0, (0, ())) false ((XX s l).1, ((XX s l).2.1, ((), (XX s l).2.2.2))) [] = _ from e2]
    obtain ⟨f1, f2⟩ := feedW (d := d) (w := w) (allC (nC s) most.toNat) _ r u' (fun _ => False) rfl rfl rfl hF ⟨fun h => (by cases h), fun _ x h => h⟩
    obtain ⟨k, d', w', q, found⟩ := u'
    simp only at f1 f2
    subst f1
    have f3 : Lim (ValA s l most d w) q found := f2.iff fun x => ⟨fun h => h.elim (fun h => h.elim) id, .inr⟩
    cases found with
    | false => exact .inl ⟨f3.2 rfl, rfl⟩
    | true => exact .inr ⟨q, f3, rfl⟩
theorem allC_mem {n most b : Nat} (hn : n ≤ 20) : b ∈ allC n most ↔ low b n ∧ cnt b n ≤ most := by
  unfold allC
  rw [List.mem_flatMap]
  constructor
  · rintro ⟨m, hm, hb⟩
    obtain ⟨h1, h2, _⟩ := comb_in hn hb
    have := List.mem_range.1 hm
    exact ⟨h1, by omega⟩
  · rintro ⟨h1, h2⟩
    exact ⟨cnt b n, List.mem_range.2 (by omega), comb_all h1⟩
end Go.Proofs.YtibmgbalfhfcdaaDoor.Abs
set_option linter.unusedVariables false
set_option linter.unusedSimpArgs false
set_option maxRecDepth 100000
namespace Go.Proofs.YtibmgbalfhfcdaaDoor.Abs
open Classical
abbrev UK : Type := Nat × (Nat × (Option Nat × Bool))
def evI : Option Nat → Int
  | none => -1
  | some e => (e : Int)
def pkK (s : E23) (l : List E72) (M : List (E56 × E94)) (u : UK) : E123 × ((Nat × UT73) × ((List (E56 × E94)) × ((Int × (Int × Unit)) × (Bool × Unit)))) := (XX s l, ((u.1, UC73), (M, (((u.2.1 : Int), (evI u.2.2.1, ())), (u.2.2.2, ())))))
def evN : Option Nat → Nat → Nat
  | none, b => b
  | some e, b => e &&& b
def VK (b : Nat) (u : UK) (r : Bool) (u' : UK) : Prop := r = true ∧ u' = (0, (u.2.1 ||| b, (some (evN u.2.2.1 b), true))) ∧ b < 2 ^ 62
def PreK (k : Nat) (u : UK) : Prop := u.1 = 0 ∧ u.2.1 < 2 ^ 62 ∧ ∀ e, u.2.2.1 = some e → e < 2 ^ 62
theorem evN_lt {o : Option Nat} {b : Nat} (hb : b < 2 ^ 62) : evN o b < 2 ^ 62 := by
  cases o with
  | none => exact hb
  | some e => exact Nat.lt_of_le_of_lt Nat.and_le_right hb
theorem r0K {b : Nat} (hb : b < 2 ^ 62) (u : UK) (k : Nat) (hu : PreK k u) :
    ∃ u' : UK, G26 b (u.1, UC73) ((u.2.1 : Int), (evI u.2.2.1, ())) u.2.2.2 = some (true, ((u'.1, UC73), (((u'.2.1 : Int), (evI u'.2.2.1, ())), (u'.2.2.2, ())))) ∧ VK b u true u' := by
  obtain ⟨k0, so, ev, found⟩ := u
  obtain ⟨h1, h2, h3⟩ := hu
  simp only at h1 h2 h3
  subst h1
  unfold G26
  simp only [natK]
  rw [or_nat h2 hb]
  have e2 : IntKind.wrap .i64 ((BitVec.toNat ((BitVec.ofInt (IntKind.bits .i64) (evI ev)) &&& (BitVec.ofInt (IntKind.bits .i64) (b : Int))) : Nat) : Int) = ((evN ev b : Nat) : Int) := by
    cases ev with
    | none => exact and_m1 hb
    | some e => exact and_nat (h3 e rfl) hb
  rw [e2]
  exact ⟨(0, (so ||| b, (some (evN ev b), true))), rfl, rfl, rfl, hb⟩
theorem srchK {s : E23} {l : List E72} (hs : StrOk s) (hl : RdsOk s l) (hn : l.length ≤ 1000) : Srch (nC s) (MemoOk s l) PreK (Ex s l) VK (pkK s l) G94_v1_fix G94_v1_l0_step where
  hn := by have := nC_le hs; omega
  base := by
    rintro f from_ now M u k hlow hM hP
    have hn10 := nC_le hs
    obtain ⟨h60, h62⟩ := low_60 hlow (by omega)
    obtain ⟨r, M', e, hr, hM'⟩ := explains_eq hs hl hn h62 hM
    show ∃ r u' M', G94_v1_b (G94_v1_fix f) 0 from_ now (XX s l) (u.1, UC73) M ((u.2.1 : Int), (evI u.2.2.1, ())) u.2.2.2 = some (r, pkK s l M' u') ∧ _
    unfold G94_v1_b
    have e0 : ((0 : Int) == 0) = true := rfl
    simp only [e0, cond_true]
    rw [show G52 (now : Int) ((XX s l).1, ((XX s l).2.1, ((), (XX s l).2.2.2))) M = _ from e]
    simp only [Option.bind_some]
    cases r with
    | false => exact ⟨true, u, M', rfl, hM', .inl ⟨(fun h => by have := hr.2 h; cases this), rfl, rfl⟩⟩
    | true =>
      simp only [Bool.not_true, cond_false]
      obtain ⟨u', e2, hv⟩ := r0K h62 u (k + 1) hP
      rw [e2]
      exact ⟨true, u', M', rfl, hM', .inr ⟨hr.1 rfl, hv⟩⟩
  pre := by
    rintro b u u' k ⟨_, rfl, hb⟩ ⟨hk0, h2, h3⟩
    refine ⟨rfl, Nat.or_lt_two_pow h2 hb, fun e he => ?_⟩
    simp only [Option.some.injEq] at he
    subst he
    exact evN_lt hb
  mono := fun u k h => h
  step := by
    rintro f left from_ now M u hleft
    show G94_v1_b (G94_v1_fix f) left from_ now (XX s l) (u.1, UC73) M ((u.2.1 : Int), (evI u.2.2.1, ())) u.2.2.2 = _
    unfold G94_v1_b
    rw [beq_eq_false_iff_ne.2 hleft, cond_false]
    rfl
  stp_ := by
    rintro rc ⟨left, now, ret, i, _⟩ M u
    unfold G94_v1_l0_step srchStp pkK
    rw [show G64 ((XX s l).1, ((XX s l).2.1, ((), (XX s l).2.2.2))) = _ from many_eq hs l]
    rfl
def p93K (s : E23) (l : List E72) (most : Int) (M : List (E56 × E94)) (u : UK) : (Nat × UT73) × (Int × ((Int × (Int × Unit)) × (Bool × (E123 × ((List (E56 × E94)) × Unit))))) := ((u.1, UC73), (most, (((u.2.1 : Int), (evI u.2.2.1, ())), (u.2.2.2, (XX s l, (M, ()))))))
theorem all93K {s : E23} {l : List E72} (hs : StrOk s) (hl : RdsOk s l) (hn : l.length ≤ 1000) {M : List (E56 × E94)} (hM : MemoOk s l M) (most : Nat) (hmost : most ≤ nC s) :
    ∃ r u' M', G93_v2 (0, UC73) (most : Int) (0, (-1, ())) false (XX s l) M = some ((), p93K s l (most : Int) M' u') ∧ Feed (Ex s l) VK (allC (nC s) most) (0, (0, (none, false))) r u' := by
  have hn10 := nC_le hs
  obtain ⟨k, x, r, u', M', e, hM', hF⟩ := (srchK hs hl hn).all (p93K s l (most : Int)) G93_v2_l0_step most hmost
    (by
      rintro m1 many M u r u1 M' hlt hm1 e
      unfold G93_v2_l0_step p93K
      simp only [lt_int hlt, cond_true]
      rw [show G94_v1 (many : Int) 0 0 ((XX s l).1, ((XX s l).2.1, ((), (XX s l).2.2.2))) (u.1, UC73) M ((u.2.1 : Int), (evI u.2.2.1, ())) u.2.2.2 = _ from e]
      simp only [Option.bind_some, wr1 (i := many) (by omega)]
      cases r <;> rfl)
    (by
      rintro m1 M u
      unfold G93_v2_l0_step p93K
      simp only [nlt_int, cond_false]) M (0, (0, (none, false))) hM ⟨rfl, by simp, fun e h => by cases h⟩ (most + 2) (by omega)
  unfold G93_v2
  rw [wr1 (i := most) (by omega)]
  have hfu : G93_v2_l0_fuel ((((most + 1 : Nat) : Int), (0, ())), p93K s l (most : Int) M (0, (0, (none, false)))) = most + 2 := by unfold G93_v2_l0_fuel; simp only; omega
  rw [show G93_v2_l0_run ((((most + 1 : Nat) : Int), (0, ())), ((0, UC73), ((most : Int), ((0, (-1, ())), (false, (((XX s l).1, ((XX s l).2.1, ((), (XX s l).2.2.2))), (M, ()))))))) = iter G93_v2_l0_step (G93_v2_l0_fuel ((((most + 1 : Nat) : Int), (0, ())), p93K s l (most : Int) M (0, (0, (none, false))))) ((((most + 1 : Nat) : Int), (0, ())), p93K s l (most : Int) M (0, (0, (none, false)))) from rfl, hfu, e]
  refine ⟨r, u', M', ?_, hF⟩
  cases k <;> rfl
structure KnowsB (P : Nat → Prop) (u : UK) : Prop where
  k : u.1 = 0
  found : u.2.2.2 = true ↔ ∃ b, P b
  so : ∀ i, u.2.1.testBit i = true ↔ ∃ b, P b ∧ b.testBit i = true
  ev : (u.2.2.1 = none ∧ ¬ ∃ b, P b) ∨ ∃ e, u.2.2.1 = some e ∧ ∀ i, e.testBit i = true ↔ ∀ b, P b → b.testBit i = true
  lt : u.2.1 < 2 ^ 62 ∧ ∀ e, u.2.2.1 = some e → e < 2 ^ 62
theorem KnowsB.iff {P Q : Nat → Prop} {u : UK} (h : KnowsB P u) (e : ∀ b, P b ↔ Q b) : KnowsB Q u := by
  have : P = Q := funext fun b => propext (e b)
  rw [← this]; exact h
theorem feedK {s : E23} {l : List E72} : ∀ (xs : List Nat) (u : UK) (r : Bool) (u' : UK) (P : Nat → Prop), Feed (Ex s l) VK xs u r u' → KnowsB P u → KnowsB (fun b => P b ∨ (b ∈ xs ∧ Ex s l b)) u'
  | [], u, r, u', P, h, hP => by
    cases h
    exact hP.iff fun b => by simp
  | y :: xs, u, r, u', P, h, hP => by
    cases h with
    | skip a h =>
      refine (feedK xs u r u' P h hP).iff fun b => or_congr_right ⟨fun ⟨hb, hE⟩ => ⟨List.mem_cons_of_mem _ hb, hE⟩, fun ⟨hb, hE⟩ => ?_⟩
      rcases List.mem_cons.1 hb with rfl | hb
      · exact absurd hE a
      · exact ⟨hb, hE⟩
    | go a b h =>
      obtain ⟨_, rfl, hy⟩ := b
      have h1 : KnowsB (fun b => P b ∨ b = y) (0, (u.2.1 ||| y, (some (evN u.2.2.1 y), true))) := by
        refine ⟨rfl, ⟨fun _ => ⟨y, .inr rfl⟩, fun _ => rfl⟩, fun i => ?_, .inr ⟨_, rfl, fun i => ?_⟩, Nat.or_lt_two_pow hP.lt.1 hy, fun e he => ?_⟩
        · simp only [Nat.testBit_or, Bool.or_eq_true, hP.so i]
          exact ⟨fun h => h.elim (fun ⟨b, hb, hh⟩ => ⟨b, .inl hb, hh⟩) fun h => ⟨y, .inr rfl, h⟩, fun ⟨b, hb, hh⟩ => hb.elim (fun hb => .inl ⟨b, hb, hh⟩) fun hb => .inr (hb ▸ hh)⟩
        · rcases hP.ev with ⟨e1, e2⟩ | ⟨e, e1, e2⟩
          · rw [e1]
            exact ⟨fun h b hb => hb.elim (fun hb => absurd ⟨b, hb⟩ e2) fun hb => hb ▸ h, fun h => h y (.inr rfl)⟩
          · rw [e1]
            simp only [evN, Nat.testBit_and, Bool.and_eq_true, e2 i]
            exact ⟨fun h b hb => hb.elim (fun hb => h.1 b hb) fun hb => hb ▸ h.2, fun h => ⟨fun b hb => h b (.inl hb), h y (.inr rfl)⟩⟩
        · simp only [Option.some.injEq] at he
          subst he
          exact evN_lt hy
      refine (feedK xs _ r u' _ h h1).iff fun b => ?_
      rw [or_assoc]
      refine or_congr_right ⟨fun hb => hb.elim (fun hb => ⟨hb ▸ List.mem_cons_self .., hb ▸ a⟩) fun hb => ⟨List.mem_cons_of_mem _ hb.1, hb.2⟩, fun ⟨hb, hE⟩ => ?_⟩
      rcases List.mem_cons.1 hb with rfl | hb
      · exact .inl rfl
      · exact .inr ⟨hb, hE⟩
    | stop a b => exact absurd b.1 (by decide)
theorem bit_and1 {a k : Nat} (ha : a < 2 ^ 62) (hk : k < 62) : IntKind.wrap .i64 ((BitVec.toNat ((BitVec.ofInt (IntKind.bits .i64) (Int.fdiv (a : Int) (2 ^ (min (Int.toNat (k : Int)) (IntKind.bits .i64))))) &&& (BitVec.ofInt (IntKind.bits .i64) 1)) : Nat) : Int) = bif a.testBit k then 1 else 0 := by
  rw [Int.toNat_natCast, shr_nat hk]
  have hq : a / 2 ^ k < 2 ^ 62 := Nat.lt_of_le_of_lt (Nat.div_le_self _ _) ha
  have e1 : BitVec.ofInt (IntKind.bits .i64) 1 = BitVec.ofInt (IntKind.bits .i64) ((1 : Nat) : Int) := rfl
  rw [e1, and_nat hq (by decide), Nat.and_one_is_mod]
  cases ht : a.testBit k with
  | true =>
    have : a / 2 ^ k % 2 = 1 := by
      rw [Nat.testBit_eq_decide_div_mod_eq] at ht
      simpa using ht
    rw [this]; rfl
  | false =>
    have : a / 2 ^ k % 2 = 0 := by
      rw [Nat.testBit_eq_decide_div_mod_eq] at ht
      have : ¬ (a / 2 ^ k % 2 = 1) := by simpa using ht
      omega
    rw [this]; rfl
theorem not_eq {so e k : Nat} (h1 : so < 2 ^ 62) (hk : k < 62) : G69 ((so : Int), ((e : Int), ())) k = some (!so.testBit k) := by
  unfold G69
  rw [decide_eq_false (show ¬ ((k : Int) < 0) by omega)]
  simp only [Bool.not_false, cond_true]
  rw [bit_and1 h1 hk]
  cases so.testBit k <;> rfl
theorem surely_eq {so e k : Nat} (h1 : e < 2 ^ 62) (hk : k < 62) : G71 ((so : Int), ((e : Int), ())) k = some (e.testBit k) := by
  unfold G71
  rw [decide_eq_false (show ¬ ((k : Int) < 0) by omega)]
  simp only [Bool.not_false, cond_true]
  rw [bit_and1 h1 hk]
  cases e.testBit k <;> rfl
theorem may_eq {so e k : Nat} (h1 : so < 2 ^ 62) (h2 : e < 2 ^ 62) (hk : k < 62) : G70 ((so : Int), ((e : Int), ())) k = some (so.testBit k && !e.testBit k) := by
  unfold G70
  rw [not_eq h1 hk, surely_eq h2 hk]
  cases so.testBit k <;> rfl
def wordB (so e i : Nat) : Int := bif !so.testBit i then 1 else bif e.testBit i then 3 else 2
def wordsB (so e : Nat) : Nat → List Int
  | 0 => []
  | n + 1 => wordsB so e n ++ [wordB so e n]
theorem wordsB_len (so e : Nat) : ∀ n, (wordsB so e n).length = n
  | 0 => rfl
  | n + 1 => by simp [wordsB, wordsB_len so e n]
theorem wordsB_get (so e : Nat) : ∀ n i, i < n → (wordsB so e n).getD i 0 = wordB so e i
  | 0, i, h => by omega
  | n + 1, i, h => by
    simp only [wordsB]
    rw [getD_snoc, wordsB_len]
    by_cases hi : i < n
    · rw [if_pos hi]; exact wordsB_get so e n i hi
    · rw [if_neg hi, if_pos (by omega), show i = n by omega]
abbrev FN3 (so e : Nat) : ((((Int × (Int × Unit)) × Unit) × Unit) × ((((Int × (Int × Unit)) × Unit) × Unit) × ((((Int × (Int × Unit)) × Unit) × Unit) × Unit))) := (((((so : Int), ((e : Int), ())), ()), ()), (((((so : Int), ((e : Int), ())), ()), ()), (((((so : Int), ((e : Int), ())), ()), ()), ())))
theorem known_l1 {so e i : Nat} (h1 : so < 2 ^ 62) (h2 : e < 2 ^ 62) (hsub : e.testBit i = true → so.testBit i = true) (hi : i < 62) (out : List Int) (ho : out.length ≤ 1000) (x1 x2 : Int) (R : TY60) :
    ∃ k, g26_sense_Known_l1_run ((out, ((i : Int), (x1, (x2, (FN3 so e, (0, ())))))), R.2) = some (0, ((out ++ [wordB so e i], ((i : Int), (x1, (x2, (FN3 so e, (k, ())))))), R.2)) := by
  unfold g26_sense_Known_l1_run
  refine ⟨3, ?_⟩
  have hf : g26_sense_Known_l1_fuel ((out, ((i : Int), (x1, (x2, (FN3 so e, (0, ())))))), R.2) = 4 := rfl
  rw [hf]
  have ho1 : ∀ (L : List Int) (x : Int), L.length ≤ 1001 → decide (L.length + List.length [x] ≤ LIM) = true := fun L x h => lim_ok (by omega) (by simp)
  have s0 : ∀ L : List Int, L.length ≤ 1001 → g26_sense_Known_l1_step ((L, ((i : Int), (x1, (x2, (FN3 so e, (0, ())))))), R.2) = some (0, ((bif !so.testBit i then L ++ [1] else L, ((i : Int), (x1, (x2, (FN3 so e, (1, ())))))), R.2)) := fun L hL => by
    unfold g26_sense_Known_l1_step
    have a1 : decide ((0 : Int) < 3) = true := rfl
    have a2 : decide ((0 : Int) = 0) = true := rfl
    have w1 : IntKind.wrap .i64 ((1 : Int) + 0) = 1 := by decide
    have w2 : IntKind.wrap .i64 ((0 : Int) + 1) = 1 := by decide
    simp only [a1, a2, cond_true, w1, w2, ho1 L _ hL]
    rw [show G69 ((so : Int), ((e : Int), ())) (i : Int) = _ from not_eq h1 hi]
    cases so.testBit i <;> rfl
  have s1 : ∀ L : List Int, L.length ≤ 1001 → g26_sense_Known_l1_step ((L, ((i : Int), (x1, (x2, (FN3 so e, (1, ())))))), R.2) = some (0, ((bif so.testBit i && !e.testBit i then L ++ [2] else L, ((i : Int), (x1, (x2, (FN3 so e, (2, ())))))), R.2)) := fun L hL => by
    unfold g26_sense_Known_l1_step
    have a1 : decide ((1 : Int) < 3) = true := rfl
    have a2 : decide ((1 : Int) = 0) = false := rfl
    have a3 : decide ((1 : Int) = 1) = true := rfl
    have w1 : IntKind.wrap .i64 ((1 : Int) + 1) = 2 := by decide
    simp only [a1, a2, a3, cond_true, cond_false, w1, ho1 L _ hL]
    rw [show G70 ((so : Int), ((e : Int), ())) (i : Int) = _ from may_eq h1 h2 hi]
    cases so.testBit i <;> cases e.testBit i <;> rfl
  have s2 : ∀ L : List Int, L.length ≤ 1001 → g26_sense_Known_l1_step ((L, ((i : Int), (x1, (x2, (FN3 so e, (2, ())))))), R.2) = some (0, ((bif e.testBit i then L ++ [3] else L, ((i : Int), (x1, (x2, (FN3 so e, (3, ())))))), R.2)) := fun L hL => by
    unfold g26_sense_Known_l1_step
    have a1 : decide ((2 : Int) < 3) = true := rfl
    have a2 : decide ((2 : Int) = 0) = false := rfl
    have a3 : decide ((2 : Int) = 1) = false := rfl
    have a4 : decide ((2 : Int) = 2) = true := rfl
    have w1 : IntKind.wrap .i64 ((1 : Int) + 2) = 3 := by decide
    have w2 : IntKind.wrap .i64 ((2 : Int) + 1) = 3 := by decide
    simp only [a1, a2, a3, a4, cond_true, cond_false, w1, w2, ho1 L _ hL]
    rw [show G71 ((so : Int), ((e : Int), ())) (i : Int) = _ from surely_eq h2 hi]
    cases e.testBit i <;> rfl
  have s3 : ∀ L : List Int, g26_sense_Known_l1_step ((L, ((i : Int), (x1, (x2, (FN3 so e, (3, ())))))), R.2) = some (1, ((L, ((i : Int), (x1, (x2, (FN3 so e, (3, ())))))), R.2)) := fun L => by
    unfold g26_sense_Known_l1_step
    have a1 : decide ((3 : Int) < 3) = false := rfl
    simp only [a1, cond_false]
  rw [iter_one (s0 out (by omega))]
  unfold wordB
  cases hs : so.testBit i with
  | false =>
    have he : e.testBit i = false := by
      cases he : e.testBit i with
      | false => rfl
      | true => have := hsub he; rw [hs] at this; cases this
    simp only [Bool.not_false, cond_true]
    rw [iter_one (s1 _ (by simp; omega)), hs, he]
    simp only [Bool.false_and, cond_false]
    rw [iter_one (s2 _ (by simp; omega)), he, cond_false, iter_out (s3 _)]
  | true =>
    simp only [Bool.not_true, cond_false]
    cases he : e.testBit i with
    | false =>
      rw [iter_one (s1 _ (by omega)), hs, he]
      simp only [Bool.true_and, Bool.not_false, cond_true, cond_false]
      rw [iter_one (s2 _ (by simp; omega)), he, cond_false, iter_out (s3 _)]
    | true =>
      rw [iter_one (s1 _ (by omega)), hs, he]
      simp only [Bool.true_and, Bool.not_true, cond_true, cond_false]
      rw [iter_one (s2 _ (by omega)), he, cond_true, iter_out (s3 _)]
theorem given3_eq (s : E23) (l : List E72) (most : Int) (h0 : l.length < 2 ^ 62) :
    (24 < l.length ∧ G49_v3 s l most = some (.inl (((), (3, ())), (most, ())))) ∨ (l.length ≤ 24 ∧ ¬ (SlOk s l ∧ (0 ≤ most ∧ most ≤ ((nC s : Nat) : Int))) ∧ G49_v3 s l most = some (.inl (((), (2, ())), (most, ())))) ∨ (SlOk s l ∧ (0 ≤ most ∧ most ≤ ((nC s : Nat) : Int)) ∧ G49_v3 s l most = some (.inr (((), (0, ())), (most, (s, ([], (XX s l, ()))))))) := by
  unfold G49_v3
  by_cases hl : l.length ≤ 24
  case neg =>
    rw [decide_eq_true (p := (l.length : Int) > 24) (by omega)]
    exact .inl ⟨by omega, rfl⟩
  right
  rw [decide_eq_false (p := (l.length : Int) > 24) (by omega), cond_false]
  by_cases hs : StrOk s
  case neg =>
    rw [(valid_tells s).nval hs]
    exact .inl ⟨hl, fun h => hs h.1.2.1, rfl⟩
  rw [(valid_tells s).val hs]
  simp only [Option.bind_some, Bool.not_true, cond_false]
  rw [cf81 l s hs h0]
  simp only [Option.bind_some]
  cases ha : l.any (fun r => !decide (RdOk s r)) with
  | true =>
    refine .inl ⟨hl, fun h => ?_, rfl⟩
    rw [List.any_eq_true] at ha
    obtain ⟨x, hx, hx'⟩ := ha
    rw [decide_eq_true (h.1.2.2 x hx)] at hx'
    cases hx'
  | false =>
    have hr : RdsOk s l := by
      intro r hr
      have := List.any_eq_false.1 ha r hr
      simpa using this
    simp only [cond_false, G67]
    rw [show G64 ((XX s l).1, ((XX s l).2.1, ((), (XX s l).2.2.2))) = _ from many_eq hs l]
    simp only [Option.bind_some, in_tells]
    by_cases hm : 0 ≤ most ∧ most ≤ ((nC s : Nat) : Int)
    · rw [decide_eq_true hm]
      exact .inr ⟨⟨hl, hs, hr⟩, hm, rfl⟩
    · rw [decide_eq_false hm]
      exact .inl ⟨hl, fun h => hm h.2, rfl⟩
def Fits (s : E23) (l : List E72) (most b : Nat) : Prop := b ∈ allC (nC s) most ∧ Ex s l b
theorem known_loop {s : E23} {l : List E72} (hs : StrOk s) {so e : Nat} (h1 : so < 2 ^ 62) (h2 : e < 2 ^ 62) (hsub : ∀ i, e.testBit i = true → so.testBit i = true) (R : TY60) (hR : R.2.2.2.2.2.2.2.2.2.2.1 = FN3 so e) :
    ∃ i, g26_sense_Known_l0_run (([], (((nC s : Nat) : Int), (0, ()))), R.2) = some (0, ((wordsB so e (nC s), (((nC s : Nat) : Int), (i, ()))), R.2)) := by
  have hn10 := nC_le hs
  unfold g26_sense_Known_l0_run
  refine ⟨_, iter_run (step := g26_sense_Known_l0_step) (n := nC s) (k := 0)
    (fun i => ((wordsB so e i, (((nC s : Nat) : Int), ((i : Int), ()))), R.2)) ((wordsB so e (nC s), (((nC s : Nat) : Int), (((nC s : Nat) : Int), ()))), R.2) (fun i hi => ?_) ?_ (by unfold g26_sense_Known_l0_fuel; simp)⟩
  · obtain ⟨k, e1⟩ := known_l1 h1 h2 (hsub i) (by omega) (wordsB so e i) (by rw [wordsB_len]; omega) ((nC s : Nat) : Int) (i : Int) R
    unfold g26_sense_Known_l0_step
    simp only [lt_int hi, cond_true]
    rw [← hR] at e1
    rw [show g26_sense_Known_l1_run _ = _ from e1]
    simp only [Option.bind_some, wr1 (i := i) (by omega)]
    rfl
  · unfold g26_sense_Known_l0_step
    simp only [nlt_int, cond_false]
structure KnowsW (P : Nat → Prop) (n : Nat) (w : List Int) : Prop where
  len : w.length = n
  word : ∀ i, i < n → (w.getD i 0 = 1 ∧ ∀ b, P b → b.testBit i = false) ∨ (w.getD i 0 = 3 ∧ (∃ b, P b) ∧ ∀ b, P b → b.testBit i = true) ∨ (w.getD i 0 = 2 ∧ (∃ b, P b ∧ b.testBit i = true) ∧ ∃ b, P b ∧ b.testBit i = false)
theorem sknown_eq (s : E23) (l : List E72) (most : Int) (h0 : l.length < 2 ^ 62) :
    (24 < l.length ∧ g26_sense_Known s l most = some ([], (3, ()))) ∨ (l.length ≤ 24 ∧ ¬ (SlOk s l ∧ (0 ≤ most ∧ most ≤ ((nC s : Nat) : Int))) ∧ g26_sense_Known s l most = some ([], (2, ()))) ∨ (SlOk s l ∧ (0 ≤ most ∧ most ≤ ((nC s : Nat) : Int)) ∧ (((∀ b, ¬ Fits s l most.toNat b) ∧ g26_sense_Known s l most = some ([], (5, ()))) ∨ ∃ w, (∃ b, Fits s l most.toNat b) ∧ KnowsW (Fits s l most.toNat) (nC s) w ∧ g26_sense_Known s l most = some (w, (0, ())))) := by
  unfold g26_sense_Known
  rcases given3_eq s l most h0 with ⟨h, e⟩ | ⟨h, h', e⟩ | ⟨hsl, hm, e⟩
  · rw [e]; exact .inl ⟨h, rfl⟩
  · rw [e]; exact .inr (.inl ⟨h, h', rfl⟩)
  · rw [e]
    refine .inr (.inr ⟨hsl, hm, ?_⟩)
    have hn : l.length ≤ 1000 := by have := hsl.1; omega
    have hs := hsl.2.1
    have hn10 := nC_le hs
    obtain ⟨r, u', M', e2, hF⟩ := all93K hs hsl.2.2 hn (memo_nil s l) most.toNat (by omega)
    have em : ((most.toNat : Nat) : Int) = most := by omega
    rw [em] at e2
    simp only [Option.bind_some, altK]
    have e0 : ((0 : Int) != 0) = false := rfl
    simp only [e0, cond_false, G63, Option.bind_some]
    rw [show G93_v2 (0, UC73) most (0, (-1, ())) false ((XX s l).1, ((XX s l).2.1, ((), (XX s l).2.2.2))) [] = _ from e2]
    have hk := feedK (allC (nC s) most.toNat) _ r u' (fun _ => False) hF ⟨rfl, ⟨fun h => (by cases h), fun ⟨b, h⟩ => h.elim⟩, fun i => by simp, .inl ⟨rfl, fun ⟨b, h⟩ => h⟩, by simp, fun e h => by cases h⟩
    have hk2 : KnowsB (Fits s l most.toNat) u' := hk.iff fun b => ⟨fun h => h.elim (fun h => h.elim) id, .inr⟩
    obtain ⟨k, so, ev, found⟩ := u'
    have hk0 := hk2.k
    simp only at hk0
    subst hk0
    cases found with
    | false =>
      left
      refine ⟨fun b hb => ?_, rfl⟩
      have := hk2.found.2 ⟨b, hb⟩
      cases this
    | true =>
      right
      obtain ⟨b0, hb0⟩ := hk2.found.1 rfl
      rcases hk2.ev with ⟨_, e4⟩ | ⟨e', e3, e4⟩
      · exact absurd ⟨b0, hb0⟩ e4
      simp only at e3
      subst e3
      have hso : ∀ i, so.testBit i = true ↔ ∃ b, Fits s l most.toNat b ∧ b.testBit i = true := hk2.so
      have hlt := hk2.lt
      have hsub : ∀ i, e'.testBit i = true → so.testBit i = true := fun i hi => (hso i).2 ⟨b0, hb0, (e4 i).1 hi b0 hb0⟩
      refine ⟨wordsB so e' (nC s), ⟨b0, hb0⟩, ⟨wordsB_len _ _ _, fun i hi => ?_⟩, ?_⟩
      · rw [wordsB_get _ _ _ _ hi]
        unfold wordB
        cases h1 : so.testBit i with
        | false =>
          refine .inl ⟨rfl, fun b hb => ?_⟩
          cases hbi : b.testBit i with
          | false => rfl
          | true => have := (hso i).2 ⟨b, hb, hbi⟩; rw [h1] at this; cases this
        | true =>
          cases h2 : e'.testBit i with
          | true => exact .inr (.inl ⟨rfl, ⟨b0, hb0⟩, (e4 i).1 h2⟩)
          | false =>
            refine .inr (.inr ⟨rfl, (hso i).1 h1, ?_⟩)
            apply Classical.byContradiction
            intro hno
            have : e'.testBit i = true := (e4 i).2 fun b hb => by
              cases hbi : b.testBit i with
              | true => rfl
              | false => exact absurd ⟨b, hb, hbi⟩ hno
            rw [h2] at this; cases this
      · obtain ⟨i, e5⟩ := known_loop (l := l) hs hlt.1 (hlt.2 e' rfl) hsub (([], (0, (0, ()))), (s, (most, (s, (M', (XX s l, (((so : Int), ((e' : Int), ())), (true, (most, ((2, UC73), (FN3 so e', ()))))))))))) rfl
        simp only [Option.bind_some, p93K]
        have e00 : ((0 : Nat) == 0) = true := rfl
        simp only [e00, cond_true, Bool.not_true, cond_false]
        rw [show G64 ((XX s l).1, ((XX s l).2.1, ((), (XX s l).2.2.2))) = _ from many_eq hs l]
        simp only [Option.bind_some]
        exact congrArg (fun o => Option.bind o fun q13 => some (q13.2.1.1, ((0 : Int), ()))) e5
end Go.Proofs.YtibmgbalfhfcdaaDoor.Abs
set_option linter.unusedVariables false
set_option linter.unusedSimpArgs false
set_option maxRecDepth 100000
namespace Go.Proofs.YtibmgbalfhfcdaaDoor.Abs
open Classical
def fr (L : List Int) : Nat := match L.getLast? with
  | none => 0
  | some x => (x + 1).toNat
theorem fr_nil : fr [] = 0 := rfl
theorem fr_snoc (L : List Int) (x : Nat) : fr (L ++ [(x : Int)]) = x + 1 := by
  unfold fr
  rw [List.getLast?_concat]
  show ((x : Int) + 1).toNat = x + 1
  omega
def extF (L : List Int) : Nat → Nat → List (List Int)
  | _, 0 => []
  | i, k + 1 => (L ++ [(i : Int)]) :: extF L (i + 1) k
theorem extF_len (L : List Int) : ∀ k i, (extF L i k).length = k
  | 0, _ => rfl
  | k + 1, i => by simp [extF, extF_len L k (i + 1)]
theorem extF_snoc (L : List Int) : ∀ k i, extF L i (k + 1) = extF L i k ++ [L ++ [((i + k : Nat) : Int)]]
  | 0, i => by simp [extF]
  | k + 1, i => by
    rw [extF, extF_snoc L k (i + 1)]
    simp only [extF, List.cons_append]
    rw [show i + 1 + k = i + (k + 1) by omega]
def ext (n : Nat) (L : List Int) : List (List Int) := extF L (fr L) (n - fr L)
def setsS (n : Nat) : Nat → List (List Int)
  | 0 => [[]]
  | i + 1 => (setsS n i).flatMap (ext n)
def setsD (n : Nat) : Nat → List Int → List (List Int)
  | 0, L => [L]
  | j + 1, L => (ext n L).flatMap (setsD n j)
theorem setsD_ext (n : Nat) : ∀ j L, (setsD n j L).flatMap (ext n) = setsD n (j + 1) L
  | 0, L => by simp [setsD]
  | j + 1, L => by
    show ((ext n L).flatMap (setsD n j)).flatMap (ext n) = (ext n L).flatMap (setsD n (j + 1))
    rw [List.flatMap_assoc]
    congr 1
    funext x
    exact setsD_ext n j x
theorem setsS_D (n : Nat) : ∀ i, setsS n i = setsD n i []
  | 0 => rfl
  | i + 1 => by rw [setsS, setsS_D n i, setsD_ext]
def bitsL (L : List Int) : Nat := L.foldl (fun b x => b ||| 2 ^ x.toNat) 0
theorem bitsL_snoc (L : List Int) (x : Nat) : bitsL (L ++ [(x : Int)]) = bitsL L ||| 2 ^ x := by
  unfold bitsL
  rw [List.foldl_append]
  simp
theorem bitsL_bit (L : List Int) (j : Nat) : (bitsL L).testBit j = true ↔ ∃ x ∈ L, x.toNat = j := by
  have gen : ∀ (L : List Int) (b : Nat), (L.foldl (fun b x => b ||| 2 ^ x.toNat) b).testBit j = true ↔ b.testBit j = true ∨ ∃ x ∈ L, x.toNat = j := by
    intro L
    induction L with
    | nil => intro b; simp
    | cons y t ih =>
      intro b
      rw [List.foldl_cons, ih, Nat.testBit_or, Nat.testBit_two_pow]
      simp only [Bool.or_eq_true, decide_eq_true_eq, List.mem_cons, exists_eq_or_imp, or_assoc]
  unfold bitsL
  rw [gen]
  simp
theorem setsD_comb (n : Nat) : ∀ j rem L, rem ≤ n → fr L = n - rem → (setsD n j L).map bitsL = comb n rem j (bitsL L)
  | 0, rem, L, _, _ => by rw [comb_zero]; rfl
  | j + 1, rem, L, hr, hf => by
    have gen : ∀ rem, rem ≤ n → ((extF L (n - rem) rem).flatMap (setsD n j)).map bitsL = comb n rem (j + 1) (bitsL L) := by
      intro rem
      induction rem with
      | zero => intro _; simp [extF, comb]
      | succ rem ih =>
        intro hr
        have e : n - (rem + 1) + 1 = n - rem := by omega
        rw [extF, List.flatMap_cons, List.map_append, e, ih (by omega), setsD_comb n j rem _ (by omega) (by rw [fr_snoc]; omega), bitsL_snoc]
        rfl
    show ((ext n L).flatMap (setsD n j)).map bitsL = _
    unfold ext
    rw [hf, show n - (n - rem) = rem by omega]
    exact gen rem hr
theorem setsS_comb (n m : Nat) : (setsS n m).map bitsL = comb n n m 0 := by
  rw [setsS_D]
  have := setsD_comb n m n [] (Nat.le_refl _) (by rw [fr_nil]; omega)
  exact this
theorem setsS_len {n : Nat} (hn : n ≤ 10) (m : Nat) : (setsS n m).length ≤ 1024 := by
  have h1 := congrArg List.length (setsS_comb n m)
  rw [List.length_map] at h1
  have h2 := comb_len n n m 0
  have h3 : 2 ^ n ≤ 2 ^ 10 := Nat.pow_le_pow_right (by decide) hn
  omega
structure GoodL (n m : Nat) (L : List Int) : Prop where
  len : L.length = m
  pw : L.Pairwise (· < ·)
  bd : ∀ x ∈ L, 0 ≤ x ∧ x < (fr L : Int)
  fr : fr L ≤ n
  last : 0 < m → ((Abs.fr L : Nat) : Int) = L.getD (m - 1) 0 + 1
theorem extF_mem {L M : List Int} : ∀ {k i : Nat}, M ∈ extF L i k → ∃ x : Nat, i ≤ x ∧ x < i + k ∧ M = L ++ [(x : Int)]
  | 0, i, h => by cases h
  | k + 1, i, h => by
    rcases List.mem_cons.1 h with h | h
    · exact ⟨i, Nat.le_refl _, by omega, h⟩
    · obtain ⟨x, h1, h2, h3⟩ := extF_mem h
      exact ⟨x, by omega, by omega, h3⟩
theorem good_ext {n m : Nat} {L M : List Int} (h : GoodL n m L) (hM : M ∈ ext n L) : GoodL n (m + 1) M := by
  obtain ⟨x, h1, h2, rfl⟩ := extF_mem hM
  have hfr := h.fr
  have e := fr_snoc L x
  refine ⟨by simp [h.len], ?_, fun y hy => ?_, by rw [e]; omega, fun _ => ?_⟩
  · rw [List.pairwise_append]
    refine ⟨h.pw, by simp, fun a ha b hb => ?_⟩
    simp only [List.mem_singleton] at hb
    subst hb
    have := h.bd a ha
    omega
  · rw [e]
    rcases List.mem_append.1 hy with hy | hy
    · have := h.bd y hy; omega
    · simp only [List.mem_singleton] at hy; subst hy; omega
  · rw [e, show m + 1 - 1 = m by omega, getD_snoc, if_neg (by rw [h.len]; omega), if_pos h.len.symm]
    omega
theorem setsS_good (n : Nat) : ∀ m, ∀ L ∈ setsS n m, GoodL n m L
  | 0, L, hL => by
    simp only [setsS, List.mem_singleton] at hL
    subst hL
    exact ⟨rfl, List.Pairwise.nil, fun x hx => (by cases hx), by rw [fr_nil]; omega, fun h => absurd h (by omega)⟩
  | m + 1, L, hL => by
    obtain ⟨K, hK, hL⟩ := List.mem_flatMap.1 hL
    exact good_ext (setsS_good n m K hK) hL
theorem sets_l2 {n : Nat} (hn : n ≤ 10) (S : List (List Int)) (k m : Nat) (hk : k < S.length) (hS : S.length ≤ 1024) (hL : (S.getD k []).length ≤ 1000) (next : List (List Int)) (hx : next.length + (n - fr (S.getD k [])) ≤ 2000) (hf : fr (S.getD k []) ≤ n) (x1 x2 : Int) :
    ∃ i, G73_l2_run (((n : Int), (x1, (S, (x2, (next, ((k : Int), (((fr (S.getD k []) : Nat) : Int), ()))))))), ()) = some (0, (((n : Int), (x1, (S, (x2, (next ++ ext n (S.getD k []), ((k : Int), (i, ()))))))), ())) := by
  generalize hLd : S.getD k [] = L at hL hx hf
  have h := iter_run (step := G73_l2_step) (n := n - fr L) (k := 0) (fuel := G73_l2_fuel (((n : Int), (x1, (S, (x2, (next, ((k : Int), (((fr L : Nat) : Int), ()))))))), ()))
    (fun t => (((n : Int), (x1, (S, (x2, (next ++ extF L (fr L) t, ((k : Int), (((fr L + t : Nat) : Int), ()))))))), ())) (((n : Int), (x1, (S, (x2, (next ++ ext n L, ((k : Int), (((fr L + (n - fr L) : Nat) : Int), ()))))))), ()) (fun t ht => by
      have hlt : decide (((fr L + t : Nat) : Int) < (n : Int)) = true := decide_eq_true (by omega)
      have hl := extF_len L t (fr L)
      unfold G73_l2_step
      simp only [hlt, lt_int hk, ge0, Bool.and_self, cond_true, getD_toNat, hLd, List.nil_append, wr1 (i := fr L + t) (by omega)]
      rw [lim_ok (n := List.length ([] : List Int)) (m := L.length) (by simp) (by omega), cond_true, lim_ok (n := L.length) (m := List.length [((fr L + t : Nat) : Int)]) (by omega) (by simp), cond_true, lim_ok (n := (next ++ extF L (fr L) t).length) (m := List.length [L ++ [((fr L + t : Nat) : Int)]]) (by rw [List.length_append]; omega) (by simp), cond_true, extF_snoc, List.append_assoc]
      rfl) (by
      have hlt : decide (((fr L + (n - fr L) : Nat) : Int) < (n : Int)) = false := decide_eq_false (by omega)
      unfold G73_l2_step
      simp only [hlt, cond_false]
      rfl) (by unfold G73_l2_fuel; simp only; omega)
  simp only [extF, List.append_nil, Nat.add_zero] at h
  exact ⟨_, h⟩
theorem flat_len {n : Nat} : ∀ (S : List (List Int)) (k : Nat), ((S.take k).flatMap (ext n)).length ≤ (S.flatMap (ext n)).length
  | S, k => by
    have : S.flatMap (ext n) = (S.take k).flatMap (ext n) ++ (S.drop k).flatMap (ext n) := by rw [← List.flatMap_append, List.take_append_drop]
    rw [this, List.length_append]
    omega
theorem sets_l1 {n : Nat} (hn : n ≤ 10) (m : Nat) (hm : m ≤ 900) (x1 : Int) :
    ∃ i, G73_l1_run (((n : Int), (x1, (setsS n m, ((m : Int), ([], (0, ())))))), ()) = some (0, (((n : Int), (x1, (setsS n m, ((m : Int), (setsS n (m + 1), (i, ())))))), ())) := by
  have hlen := setsS_len hn m
  have hlen1 := setsS_len hn (m + 1)
  refine ⟨_, iter_run (step := G73_l1_step) (n := (setsS n m).length) (k := 0) (fuel := G73_l1_fuel (((n : Int), (x1, (setsS n m, ((m : Int), ([], (0, ())))))), ()))
    (fun k => (((n : Int), (x1, (setsS n m, ((m : Int), (((setsS n m).take k).flatMap (ext n), ((k : Int), ())))))), ())) (((n : Int), (x1, (setsS n m, ((m : Int), (setsS n (m + 1), (((setsS n m).length : Int), ())))))), ()) (fun k hk => ?_) ?_ (by unfold G73_l1_fuel; simp)⟩
  · have hg := setsS_good n m _ (getD_mem hk (d := []))
    have hfl := flat_len (n := n) (setsS n m) k
    have hsz : ((setsS n m).flatMap (ext n)).length ≤ 1024 := hlen1
    have hfr := hg.fr
    have hgl := hg.len
    obtain ⟨i, e⟩ := sets_l2 hn (setsS n m) k m hk hlen (by omega) (((setsS n m).take k).flatMap (ext n)) (by omega) hg.fr x1 (m : Int)
    have hnext : ((setsS n m).take k).flatMap (ext n) ++ ext n ((setsS n m).getD k []) = ((setsS n m).take (k + 1)).flatMap (ext n) := by
      rw [List.take_add_one, List.getElem?_eq_getElem hk, List.flatMap_append, List.getD_eq_getElem?_getD, List.getElem?_eq_getElem hk]
      simp
    rw [hnext] at e
    unfold G73_l1_step
    simp only [lt_int hk, cond_true]
    by_cases h0 : 0 < m
    · have hd : decide ((m : Int) > 0) = true := decide_eq_true (by omega)
      have hl := hg.last h0
      have hw : IntKind.wrap .i64 (((setsS n m).getD k []).getD (m - 1) 0 + 1) = ((fr ((setsS n m).getD k []) : Nat) : Int) := by rw [wr (by omega) (by omega)]; omega
      simp only [hd, cond_true, toNat_pred h0 (by omega), ge0, lt_int hk, Bool.and_self, getD_toNat, lt_int (show m - 1 < ((setsS n m).getD k []).length by omega), hw]
      rw [e]
      simp only [Option.bind_some, wr1 (i := k) (by omega)]
    · have hd : decide ((m : Int) > 0) = false := decide_eq_false (by omega)
      have h00 : fr ((setsS n m).getD k []) = 0 := by
        have : (setsS n m).getD k [] = [] := List.length_eq_zero_iff.1 (by omega)
        rw [this, fr_nil]
      rw [h00] at e
      simp only [hd, cond_false]
      rw [show G73_l2_run (((n : Int), (x1, (setsS n m, ((m : Int), (((setsS n m).take k).flatMap (ext n), ((k : Int), (0, ()))))))), ()) = _ from e]
      simp only [Option.bind_some, wr1 (i := k) (by omega)]
  · unfold G73_l1_step
    simp only [nlt_int, cond_false, List.take_length]
    rfl
theorem sets_eq {n : Nat} (hn : n ≤ 10) (m : Nat) (hm : m ≤ 900) : G73 (n : Int) (m : Int) = some (setsS n m) := by
  unfold G73
  have h : G73_l0_run (((n : Int), ((m : Int), ([[]], (0, ())))), ()) = some (0, (((n : Int), ((m : Int), (setsS n m, ((m : Int), ())))), ())) :=
    iter_run (step := G73_l0_step) (n := m) (k := 0) (fuel := G73_l0_fuel (((n : Int), ((m : Int), ([[]], (0, ())))), ()))
      (fun i => (((n : Int), ((m : Int), (setsS n i, ((i : Int), ())))), ())) _ (fun i hi => by
        obtain ⟨j, e⟩ := sets_l1 hn i (by omega) (m : Int)
        unfold G73_l0_step
        simp only [lt_int hi, cond_true]
        rw [e]
        simp only [Option.bind_some, wr1 (i := i) (by omega)]) (by
        unfold G73_l0_step
        simp only [nlt_int, cond_false]) (by unfold G73_l0_fuel; simp)
  rw [h]
  rfl
theorem told_eq {s : E23} (hs : StrOk s) {m : Nat} {L : List Int} (h : GoodL (nC s) m L) : G74 s L = some (causeOf s (bitsL L)) := by
  have hn := nC_le hs
  have hdep := hs.depths
  have hlen := hs.len
  have hfr := h.fr
  have hL : L.length ≤ 10 := by
    have h1 : L.length = m := h.len
    apply Classical.byContradiction
    intro hc
    have gen : ∀ k, k < L.length → (k : Int) ≤ L.getD k 0 := by
      intro k
      induction k with
      | zero => intro hk; have := (h.bd _ (getD_mem hk (d := 0))).1; omega
      | succ k ih =>
        intro hk
        have h2 := ih (by omega)
        have hg : ∀ i (hi : i < L.length), L.getD i 0 = L[i] := fun i hi => by rw [List.getD_eq_getElem?_getD, List.getElem?_eq_getElem hi]; rfl
        have := List.pairwise_iff_getElem.1 h.pw k (k + 1) (by omega) hk (by omega)
        rw [hg k (by omega)] at h2
        rw [hg (k + 1) hk]
        omega
    have h2 := gen (L.length - 1) (by omega)
    have h3 := h.bd _ (getD_mem (show L.length - 1 < L.length by omega) (d := 0))
    omega
  have hfl : ∀ k, ((L.take k).filter fun x => decide (x < ((s.2.2.2.2.1).length : Int))).length ≤ k ∧ ((L.take k).filter fun x => !decide (x < ((s.2.2.2.2.1).length : Int))).length ≤ k := fun k => by
    have h1 := List.length_filter_le (fun x => decide (x < ((s.2.2.2.2.1).length : Int))) (L.take k)
    have h2 := List.length_filter_le (fun x => !decide (x < ((s.2.2.2.2.1).length : Int))) (L.take k)
    rw [List.length_take] at h1 h2
    omega
  unfold G74
  have hrun : G74_l0_run ((L, (0, ())), (s, (([], ([], ())), (([], ([], ())), ())))) = some (0, ((L, ((L.length : Int), ())), (s, (([], ([], ())), (((L.take L.length).filter fun x => decide (x < ((s.2.2.2.2.1).length : Int)), (((L.take L.length).filter fun x => !decide (x < ((s.2.2.2.2.1).length : Int))).map (fun x => x - ((s.2.2.2.2.1).length : Int)), ())), ()))))) :=
    iter_run (step := G74_l0_step) (n := L.length) (k := 0) (fuel := G74_l0_fuel ((L, (0, ())), (s, (([], ([], ())), (([], ([], ())), ())))))
      (fun k => ((L, ((k : Int), ())), (s, (([], ([], ())), (((L.take k).filter fun x => decide (x < ((s.2.2.2.2.1).length : Int)), (((L.take k).filter fun x => !decide (x < ((s.2.2.2.2.1).length : Int))).map (fun x => x - ((s.2.2.2.2.1).length : Int)), ())), ()))))) _ (fun k hk => by
        have hb := h.bd _ (getD_mem hk (d := 0))
        have ht : L.take (k + 1) = L.take k ++ [L.getD k 0] := by
          rw [List.take_add_one, List.getElem?_eq_getElem hk, List.getD_eq_getElem?_getD, List.getElem?_eq_getElem hk]; rfl
        have hl := hfl k
        unfold G74_l0_step
        simp only [lt_int hk, ge0, Bool.and_self, cond_true, getD_toNat, wr1 (i := k) (by omega), ht, List.filter_append, List.map_append]
        generalize L.getD k 0 = x at hb ⊢
        by_cases hx : x < ((s.2.2.2.2.1).length : Int)
        · rw [decide_eq_true hx, cond_true, lim_ok (by omega) (by simp), cond_true]
          simp [hx]
        · rw [decide_eq_false hx, cond_false, wr (by omega) (by omega), lim_ok (by rw [List.length_map]; omega) (by simp), cond_true]
          simp [hx]) (by
        unfold G74_l0_step
        simp only [nlt_int, cond_false]) (by unfold G74_l0_fuel; simp)
  rw [hrun]
  simp only [Option.bind_some, List.take_length]
  unfold causeOf
  congr 1
  have e1 : (L.filter fun x => decide (x < ((s.2.2.2.2.1).length : Int))) = ups (s.2.2.2.2.1).length (bitsL L).testBit := by
    refine strict_ext (h.pw.filter _) (ups_pw _ _) fun x => ?_
    rw [List.mem_filter, ups_mem]
    constructor
    · rintro ⟨hx, hd⟩
      have hb := h.bd x hx
      have := of_decide_eq_true hd
      exact ⟨x.toNat, by omega, (bitsL_bit L _).2 ⟨x, hx, rfl⟩, by omega⟩
    · rintro ⟨i, hi, hb, rfl⟩
      obtain ⟨y, hy, e⟩ := (bitsL_bit L i).1 hb
      have := h.bd y hy
      have : y = (i : Int) := by omega
      subst this
      exact ⟨hy, decide_eq_true (by omega)⟩
  have e2 : ((L.filter fun x => !decide (x < ((s.2.2.2.2.1).length : Int))).map fun x => x - ((s.2.2.2.2.1).length : Int)) = ups (s.2.2.2.1).toNat (fun i => (bitsL L).testBit ((s.2.2.2.2.1).length + i)) := by
    refine strict_ext ?_ (ups_pw _ _) fun x => ?_
    · rw [List.pairwise_map]
      exact (h.pw.filter _).imp fun h => by omega
    · rw [List.mem_map, ups_mem]
      constructor
      · rintro ⟨y, hy, rfl⟩
        obtain ⟨hy, hd⟩ := List.mem_filter.1 hy
        have hb := h.bd y hy
        have hd' : ¬ y < ((s.2.2.2.2.1).length : Int) := by simpa using hd
        refine ⟨(y - ((s.2.2.2.2.1).length : Int)).toNat, by unfold nC at hfr; omega, (bitsL_bit L _).2 ⟨y, hy, by omega⟩, by omega⟩
      · rintro ⟨i, hi, hb, rfl⟩
        obtain ⟨y, hy, e⟩ := (bitsL_bit L _).1 hb
        have := h.bd y hy
        refine ⟨y, List.mem_filter.2 ⟨hy, ?_⟩, by omega⟩
        have : ¬ y < ((s.2.2.2.2.1).length : Int) := by omega
        simpa using this
  rw [e1, e2]
theorem sets_low {s : E23} {m : Nat} {L : List Int} (h : GoodL (nC s) m L) : low (bitsL L) (nC s) := by
  intro j hj
  cases hb : (bitsL L).testBit j with
  | false => rfl
  | true =>
    obtain ⟨y, hy, e⟩ := (bitsL_bit L j).1 hb
    have := h.bd y hy
    have := h.fr
    omega
theorem rex_set {s : E23} {l : List E72} (hs : StrOk s) (hl : RdsOk s l) (hn : l.length ≤ 1000) {m : Nat} {L : List Int} (h : GoodL (nC s) m L) : Tells (G75 s l (causeOf s (bitsL L))) (Ex s l (bitsL L)) := by
  have hc := causeOf_ok hs (bitsL L)
  have hcl := cause_len hs hc
  have := nC_le hs
  have h1 := rexplains_tells hs hl hn hc (by omega) (by omega)
  rw [bits_cause hs (sets_low h)] at h1
  exact h1
theorem exs_snoc (s : E23) (l : List E72) (xs : List Nat) (x : Nat) : exs s l (xs ++ [x]) = exs s l xs ++ (if Ex s l x then [x] else []) := by
  unfold exs
  rw [List.filter_append]
  by_cases h : Ex s l x <;> simp [h]
theorem exs_len (s : E23) (l : List E72) (xs : List Nat) : (exs s l xs).length ≤ xs.length := List.length_filter_le _ _
theorem causes_eq {s : E23} (hs : StrOk s) : G23 s = some ((nC s : Nat) : Int) := by
  have hdep := hs.depths
  have hlen := hs.len
  unfold G23 nC
  rw [wr (by omega) (by omega)]
  congr 1
  omega
theorem power_eq {n : Nat} (hn : n ≤ 10) : G30 (n : Int) = some (((2 ^ n : Nat) : Int)) := by
  unfold G30
  have h : G30_l0_run (((n : Int), (1, (0, ()))), ()) = some (0, (((n : Int), (((2 ^ n : Nat) : Int), ((n : Int), ()))), ())) :=
    iter_run (step := G30_l0_step) (n := n) (k := 0) (fuel := G30_l0_fuel (((n : Int), (1, (0, ()))), ()))
      (fun i => (((n : Int), (((2 ^ i : Nat) : Int), ((i : Int), ()))), ())) _ (fun i hi => by
        have hp : 2 ^ i ≤ 2 ^ 10 := Nat.pow_le_pow_right (by decide) (by omega)
        have he : 2 ^ (i + 1) = 2 * 2 ^ i := by rw [Nat.pow_succ]; omega
        unfold G30_l0_step
        simp only [lt_int hi, cond_true, wr1 (i := i) (by omega), he]
        rw [wr (by omega) (by omega)]
        simp) (by
        unfold G30_l0_step
        simp only [nlt_int, cond_false]) (by unfold G30_l0_fuel; simp)
  rw [h]
  rfl
end Go.Proofs.YtibmgbalfhfcdaaDoor.Abs
set_option linter.unusedVariables false
set_option linter.unusedSimpArgs false
set_option maxRecDepth 100000
namespace Go.Proofs.YtibmgbalfhfcdaaDoor.Abs
open Classical
theorem exs_app (s : E23) (l : List E72) (xs ys : List Nat) : exs s l (xs ++ ys) = exs s l xs ++ exs s l ys := by
  unfold exs; rw [List.filter_append]
theorem all_l1 {s : E23} {l : List E72} (hs : StrOk s) (hl : RdsOk s l) (hn : l.length ≤ 1000) (m : Nat) (x1 : Int) (out : List E26) (ho : out.length ≤ 5000) :
    ∃ i, G34_l1_run ((l, (x1, (out, ((m : Int), (setsS (nC s) m, (0, ())))))), (s, ())) = some (0, ((l, (x1, (out ++ (exs s l (comb (nC s) (nC s) m 0)).map (causeOf s), ((m : Int), (setsS (nC s) m, (i, ())))))), (s, ()))) := by
  have hn10 := nC_le hs
  have hlen := setsS_len hn10 m
  have key := iter_run (step := G34_l1_step) (n := (setsS (nC s) m).length) (k := 0) (fuel := G34_l1_fuel ((l, (x1, (out, ((m : Int), (setsS (nC s) m, (0, ())))))), (s, ())))
    (fun k => ((l, (x1, (out ++ (exs s l (((setsS (nC s) m).take k).map bitsL)).map (causeOf s), ((m : Int), (setsS (nC s) m, ((k : Int), ())))))), (s, ()))) ((l, (x1, (out ++ (exs s l (comb (nC s) (nC s) m 0)).map (causeOf s), ((m : Int), (setsS (nC s) m, (((setsS (nC s) m).length : Int), ())))))), (s, ())) (fun k hk => by
      have hg := setsS_good (nC s) m _ (getD_mem hk (d := []))
      have ht : (setsS (nC s) m).take (k + 1) = (setsS (nC s) m).take k ++ [(setsS (nC s) m).getD k []] := by
        rw [List.take_add_one, List.getElem?_eq_getElem hk, List.getD_eq_getElem?_getD, List.getElem?_eq_getElem hk]; rfl
      have hsz : (out ++ (exs s l (((setsS (nC s) m).take k).map bitsL)).map (causeOf s)).length ≤ 7000 := by
        rw [List.length_append, List.length_map]
        have h1 := exs_len s l (((setsS (nC s) m).take k).map bitsL)
        rw [List.length_map, List.length_take] at h1
        omega
      have hex := rex_set hs hl hn hg
      unfold G34_l1_step
      simp only [lt_int hk, ge0, Bool.and_self, cond_true, getD_toNat, told_eq hs hg, Option.bind_some, wr1 (i := k) (by omega), ht, List.map_append, List.map_cons, List.map_nil, exs_snoc]
      by_cases hE : Ex s l (bitsL ((setsS (nC s) m).getD k []))
      · rw [hex.val hE, if_pos hE]
        simp only [Option.bind_some, cond_true, lim_ok (n := (out ++ (exs s l (((setsS (nC s) m).take k).map bitsL)).map (causeOf s)).length) (m := List.length [causeOf s (bitsL ((setsS (nC s) m).getD k []))]) (by omega) (by simp), List.map_cons, List.map_nil, List.append_assoc]
      · rw [hex.nval hE, if_neg hE]
        simp only [Option.bind_some, cond_false, List.map_nil, List.append_nil]) (by
      unfold G34_l1_step
      simp only [nlt_int, cond_false, List.take_length, setsS_comb]) (by unfold G34_l1_fuel; simp)
  have e0 : out ++ (exs s l (((setsS (nC s) m).take 0).map bitsL)).map (causeOf s) = out := by simp [exs]
  simp only [e0] at key
  exact ⟨_, key⟩
theorem all_eq {s : E23} {l : List E72} (hs : StrOk s) (hl : RdsOk s l) (hn : l.length ≤ 1000) {most : Nat} (hm : most ≤ nC s) : G34 s l (most : Int) = some ((exs s l (allC (nC s) most)).map (causeOf s)) := by
  have hn10 := nC_le hs
  have hall := allC_len (nC s) hn10 most hm
  unfold G34
  have hpre : ∀ m, m ≤ most + 1 → ((List.range m).flatMap fun m => comb (nC s) (nC s) m 0).length ≤ (allC (nC s) most).length := by
    intro m hm'
    unfold allC
    have : List.range (most + 1) = List.range m ++ (List.range' m (most + 1 - m)) := by
      rw [List.range_eq_range', List.range_eq_range', show most + 1 = m + (most + 1 - m) by omega, ← List.range'_append]
      simp
    rw [this, List.flatMap_append, List.length_append]
    omega
  have key : G34_l0_run ((l, ((most : Int), ([], (0, ())))), (s, ())) = some (0, ((l, ((most : Int), ((exs s l (allC (nC s) most)).map (causeOf s), (((most + 1 : Nat) : Int), ())))), (s, ()))) :=
    iter_run (step := G34_l0_step) (n := most + 1) (k := 0) (fuel := G34_l0_fuel ((l, ((most : Int), ([], (0, ())))), (s, ())))
      (fun m => ((l, ((most : Int), ((exs s l ((List.range m).flatMap fun m => comb (nC s) (nC s) m 0)).map (causeOf s), ((m : Int), ())))), (s, ()))) _ (fun m hm' => by
        have hle : decide ((m : Int) ≤ (most : Int)) = true := decide_eq_true (by omega)
        have h1 := exs_len s l ((List.range m).flatMap fun m => comb (nC s) (nC s) m 0)
        have h2 := hpre m (by omega)
        obtain ⟨i, e⟩ := all_l1 hs hl hn m (most : Int) ((exs s l ((List.range m).flatMap fun m => comb (nC s) (nC s) m 0)).map (causeOf s)) (by rw [List.length_map]; omega)
        unfold G34_l0_step
        simp only [hle, cond_true, causes_eq hs, Option.bind_some, sets_eq hn10 m (by omega)]
        rw [e]
        simp only [Option.bind_some, wr1 (i := m) (by omega), allC_succ, exs_app, List.map_append]) (by
        have hle : decide (((most + 1 : Nat) : Int) ≤ (most : Int)) = false := decide_eq_false (by omega)
        unfold G34_l0_step
        simp only [hle, cond_false]
        rfl) (by unfold G34_l0_fuel; omega)
  rw [key]
  rfl
theorem fits_mem {s : E23} {l : List E72} {most b : Nat} : b ∈ exs s l (allC (nC s) most) ↔ Fits s l most b := exs_mem
theorem count_bounds (p : Nat → Bool) : ∀ bs : List Nat, (bs.filter p).length ≤ bs.length ∧ ((bs.filter p).length = 0 ↔ ∀ b ∈ bs, p b = false) ∧ ((bs.filter p).length = bs.length ↔ ∀ b ∈ bs, p b = true)
  | [] => by simp
  | b :: bs => by
    obtain ⟨h1, h2, h3⟩ := count_bounds p bs
    cases hb : p b with
    | true =>
      rw [List.filter_cons_of_pos hb]
      refine ⟨by simp only [List.length_cons]; omega, ⟨fun h => by simp at h, fun h => ?_⟩, ⟨fun h x hx => ?_, fun h => ?_⟩⟩
      · have := h b (List.mem_cons_self ..)
        rw [hb] at this; cases this
      · rcases List.mem_cons.1 hx with rfl | hx
        · exact hb
        · exact h3.1 (by simp only [List.length_cons] at h; omega) x hx
      · simp only [List.length_cons]
        rw [h3.2 fun x hx => h x (List.mem_cons_of_mem _ hx)]
    | false =>
      rw [List.filter_cons_of_neg (by simp [hb])]
      refine ⟨by simp only [List.length_cons]; omega, ⟨fun h x hx => ?_, fun h => h2.2 fun x hx => h x (List.mem_cons_of_mem _ hx)⟩, ⟨fun h => ?_, fun h => ?_⟩⟩
      · rcases List.mem_cons.1 hx with rfl | hx
        · exact hb
        · exact h2.1 h x hx
      · simp only [List.length_cons] at h
        omega
      · have := h b (List.mem_cons_self ..)
        rw [hb] at this; cases this
theorem rknown_l1 {s : E23} (hs : StrOk s) {bs : List Nat} (hb : bs.length ≤ 5000) (hlow : ∀ b ∈ bs, low b (nC s)) {n : Nat} (hn : n < nC s) (x1 : List Int) :
    ∃ i, G36_l1_run ((bs.map (causeOf s), (x1, ((n : Int), (0, (0, ()))))), (s, ())) = some (0, ((bs.map (causeOf s), (x1, ((n : Int), ((((bs.filter fun b => Nat.testBit b n).length : Nat) : Int), (i, ()))))), (s, ()))) := by
  have hn10 := nC_le hs
  have hlen := hs.len
  refine ⟨_, iter_run (step := G36_l1_step) (n := bs.length) (k := 0) (fuel := G36_l1_fuel ((bs.map (causeOf s), (x1, ((n : Int), (0, (0, ()))))), (s, ())))
    (fun k => ((bs.map (causeOf s), (x1, ((n : Int), (((((bs.take k).filter fun b => Nat.testBit b n).length : Nat) : Int), ((k : Int), ()))))), (s, ()))) ((bs.map (causeOf s), (x1, ((n : Int), ((((bs.filter fun b => Nat.testBit b n).length : Nat) : Int), ((bs.length : Int), ()))))), (s, ())) (fun k hk => ?_) ?_ (by unfold G36_l1_fuel; simp)⟩
  · have hg : (bs.map (causeOf s)).getD k ([], ([], ())) = causeOf s (bs.getD k 0) := by
      rw [List.getD_eq_getElem?_getD, List.getD_eq_getElem?_getD, List.getElem?_map, List.getElem?_eq_getElem hk]; rfl
    have ht : bs.take (k + 1) = bs.take k ++ [bs.getD k 0] := by
      rw [List.take_add_one, List.getElem?_eq_getElem hk, List.getD_eq_getElem?_getD, List.getElem?_eq_getElem hk]; rfl
    have hl := hlow _ (getD_mem hk (d := 0))
    have hfl : ((bs.take k).filter fun b => Nat.testBit b n).length ≤ k := by
      have := List.length_filter_le (fun b => Nat.testBit b n) (bs.take k)
      rw [List.length_take] at this
      omega
    have hlk : decide ((k : Int) < ((bs.map (causeOf s)).length : Int)) = true := by rw [List.length_map]; exact lt_int hk
    rw [ht]
    generalize bs.getD k 0 = b at hg hl ⊢
    have hc := causeOf_ok hs b
    have hcl := cause_len hs hc
    have hbit := bits_cause hs hl
    have hcnt : ((bs.take k ++ [b]).filter fun b => Nat.testBit b n).length = ((bs.take k).filter fun b => Nat.testBit b n).length + (bif b.testBit n then 1 else 0) := by
      rw [List.filter_append, List.length_append]
      cases hbn : b.testBit n <;> simp [hbn]
    rw [hcnt]
    unfold G36_l1_step
    by_cases hin : n < (s.2.2.2.2.1).length
    · have d1 : decide ((n : Int) < ((s.2.2.2.2.1).length : Int)) = true := lt_int hin
      have d2 : decide ((n : Int) ≥ ((s.2.2.2.2.1).length : Int)) = false := decide_eq_false (by omega)
      have hbn : b.testBit n = decide ((n : Int) ∈ (causeOf s b).1) := by rw [← bit_s hc hin, hbit]
      simp only [hlk, d1, d2, ge0, Bool.and_self, cond_true, getD_toNat, hg]
      by_cases hm : (n : Int) ∈ (causeOf s b).1
      · rw [(has_tells (causeOf s b).1 (n : Int) (by omega)).val hm, hbn, decide_eq_true hm]
        simp only [Option.bind_some, cond_true, wr1 (i := k) (by omega), wr1 (i := ((bs.take k).filter fun b => Nat.testBit b n).length) (by omega)]
      · rw [(has_tells (causeOf s b).1 (n : Int) (by omega)).nval hm, hbn, decide_eq_false hm]
        simp only [Option.bind_some, cond_false, wr1 (i := k) (by omega), Nat.add_zero]
    · have d1 : decide ((n : Int) < ((s.2.2.2.2.1).length : Int)) = false := decide_eq_false (by omega)
      have d2 : decide ((n : Int) ≥ ((s.2.2.2.2.1).length : Int)) = true := decide_eq_true (by omega)
      have hw' : IntKind.wrap .i64 ((n : Int) - ((s.2.2.2.2.1).length : Int)) = ((n - (s.2.2.2.2.1).length : Nat) : Int) := by rw [wr (by omega) (by omega)]; omega
      have hbn : b.testBit n = decide (((n - (s.2.2.2.2.1).length : Nat) : Int) ∈ (causeOf s b).2.1) := by
        rw [← bit_d hc, hbit, show (s.2.2.2.2.1).length + (n - (s.2.2.2.2.1).length) = n by omega]
      simp only [hlk, d1, d2, ge0, Bool.and_self, cond_true, cond_false, getD_toNat, hg, hw']
      by_cases hm : ((n - (s.2.2.2.2.1).length : Nat) : Int) ∈ (causeOf s b).2.1
      · rw [(has_tells (causeOf s b).2.1 _ (by omega)).val hm, hbn, decide_eq_true hm]
        simp only [Option.bind_some, cond_true, wr1 (i := k) (by omega), wr1 (i := ((bs.take k).filter fun b => Nat.testBit b n).length) (by omega)]
      · rw [(has_tells (causeOf s b).2.1 _ (by omega)).nval hm, hbn, decide_eq_false hm]
        simp only [Option.bind_some, cond_false, wr1 (i := k) (by omega), Nat.add_zero]
  · have hlk : decide ((bs.length : Int) < ((bs.map (causeOf s)).length : Int)) = false := by rw [List.length_map]; exact nlt_int _
    unfold G36_l1_step
    simp only [hlk, cond_false, List.take_length]
def wordC (bs : List Nat) (n : Nat) : Int := if (bs.filter fun b => Nat.testBit b n).length = 0 then 1 else if (bs.filter fun b => Nat.testBit b n).length = bs.length then 3 else 2
theorem rknown_eq {s : E23} (hs : StrOk s) {bs : List Nat} (hb : bs.length ≤ 5000) (hne : bs ≠ []) (hlow : ∀ b ∈ bs, low b (nC s)) :
    ∃ w, G36 s (bs.map (causeOf s)) = some w ∧ KnowsW (fun b => b ∈ bs) (nC s) w := by
  have hn10 := nC_le hs
  unfold G36
  have hml : (((List.range (nC s)).map (wordC bs))).length = nC s := by simp
  have key : G36_l0_run ((bs.map (causeOf s), ([], (0, ()))), (s, ())) = some (0, ((bs.map (causeOf s), ((List.range (nC s)).map (wordC bs), (((nC s : Nat) : Int), ()))), (s, ()))) :=
    iter_run (step := G36_l0_step) (n := nC s) (k := 0) (fuel := G36_l0_fuel ((bs.map (causeOf s), ([], (0, ()))), (s, ())))
      (fun n => ((bs.map (causeOf s), ((List.range n).map (wordC bs), ((n : Int), ()))), (s, ()))) _ (fun n hn => by
        obtain ⟨i, e⟩ := rknown_l1 hs hb hlow hn ((List.range n).map (wordC bs))
        have hll : ((List.range n).map (wordC bs)).length = n := by simp
        unfold G36_l0_step
        simp only [causes_eq hs, Option.bind_some, lt_int hn, cond_true]
        rw [e]
        simp only [Option.bind_some, wr1 (i := n) (by omega), List.length_map, List.length_range, List.range_succ, List.map_append, List.map_cons, List.map_nil]
        have hw : wordC bs n = if (bs.filter fun b => Nat.testBit b n).length = 0 then 1 else if (bs.filter fun b => Nat.testBit b n).length = bs.length then 3 else 2 := rfl
        generalize (bs.filter fun b => Nat.testBit b n).length = c at hw ⊢
        by_cases h0 : c = 0
        · rw [beq_iff_eq.2 (show (c : Int) = 0 by omega), cond_true, lim_ok (n := n) (m := List.length [(1 : Nat)]) (by omega) (by simp), cond_true, hw, if_pos h0]
        · rw [beq_eq_false_iff_ne.2 (show (c : Int) ≠ 0 by omega), cond_false]
          by_cases h1 : c = bs.length
          · rw [beq_iff_eq.2 (show (c : Int) = (bs.length : Int) by omega), cond_true, lim_ok (n := n) (m := List.length [(3 : Nat)]) (by omega) (by simp), cond_true, hw, if_neg h0, if_pos h1]
          · rw [beq_eq_false_iff_ne.2 (show (c : Int) ≠ (bs.length : Int) by omega), cond_false, lim_ok (n := n) (m := List.length [(2 : Nat)]) (by omega) (by simp), cond_true, hw, if_neg h0, if_neg h1]) (by
        unfold G36_l0_step
        simp only [causes_eq hs, Option.bind_some, nlt_int, cond_false]) (by
        have hdep := hs.depths
        unfold G36_l0_fuel nC
        have hlen := hs.len
        first | omega | (simp only; omega))
  rw [key]
  refine ⟨_, rfl, hml, fun i hi => ?_⟩
  have hg : ((List.range (nC s)).map (wordC bs)).getD i 0 = wordC bs i := by
    rw [List.getD_eq_getElem?_getD, List.getElem?_map, List.getElem?_range hi]; rfl
  rw [hg]
  obtain ⟨b0, hb0⟩ := List.exists_mem_of_ne_nil _ hne
  obtain ⟨c1, c2, c3⟩ := count_bounds (fun b => Nat.testBit b i) bs
  unfold wordC
  by_cases h0 : (bs.filter fun b => Nat.testBit b i).length = 0
  · rw [if_pos h0]
    exact .inl ⟨rfl, c2.1 h0⟩
  · rw [if_neg h0]
    by_cases h1 : (bs.filter fun b => Nat.testBit b i).length = bs.length
    · rw [if_pos h1]
      exact .inr (.inl ⟨rfl, ⟨b0, hb0⟩, c3.1 h1⟩)
    · rw [if_neg h1]
      refine .inr (.inr ⟨rfl, ?_, ?_⟩)
      · apply Classical.byContradiction
        intro hno
        exact h0 (c2.2 fun b hb => by
          cases hbi : b.testBit i with
          | false => rfl
          | true => exact absurd ⟨b, hb, hbi⟩ hno)
      · apply Classical.byContradiction
        intro hno
        exact h1 (c3.2 fun b hb => by
          cases hbi : b.testBit i with
          | true => rfl
          | false => exact absurd ⟨b, hb, hbi⟩ hno)
theorem knowsW_unique {P : Nat → Prop} {n : Nat} {w w' : List Int} (h : KnowsW P n w) (h' : KnowsW P n w') : w = w' := by
  refine list_eq (h.len.trans h'.len.symm) fun i hi => ?_
  have hin : i < n := by rw [← h.len]; exact hi
  rcases h.word i hin with ⟨e, a⟩ | ⟨e, ⟨b0, hb0⟩, a⟩ | ⟨e, ⟨b1, hb1, a1⟩, b2, hb2, a2⟩
  · rcases h'.word i hin with ⟨e', a'⟩ | ⟨e', ⟨b0, hb0⟩, a'⟩ | ⟨e', ⟨b1, hb1, a1⟩, b2, hb2, a2⟩
    · rw [e, e']
    · have := a b0 hb0; rw [a' b0 hb0] at this; cases this
    · have := a b1 hb1; rw [a1] at this; cases this
  · rcases h'.word i hin with ⟨e', a'⟩ | ⟨e', _, a'⟩ | ⟨e', ⟨b1, hb1, a1⟩, b2, hb2, a2⟩
    · have := a b0 hb0; rw [a' b0 hb0] at this; cases this
    · rw [e, e']
    · have := a b2 hb2; rw [a2] at this; cases this
  · rcases h'.word i hin with ⟨e', a'⟩ | ⟨e', _, a'⟩ | ⟨e', _⟩
    · have := a' b1 hb1; rw [a1] at this; cases this
    · have := a' b2 hb2; rw [a2] at this; cases this
    · rw [e, e']
theorem samewords_self (a : List Int) (h1 : a.length < 2 ^ 62) : G35 a a = some true := by
  unfold G35
  rw [beqn_f (a := (a.length : Int)) (b := (a.length : Int)) rfl, cond_false]
  have h := iter_run (step := G35_l0_step) (n := a.length) (k := 1) (fuel := G35_l0_fuel ((a, (a, (false, (0, ())))), ()))
    (fun i => ((a, (a, (false, ((i : Int), ())))), ())) ((a, (a, (false, ((a.length : Int), ())))), ()) (fun i hi => by
      unfold G35_l0_step
      simp only [lt_int hi, ge0, Bool.and_self, cond_true, getD_toNat, wr1 (i := i) (by omega), beqn_f (a := a.getD i 0) (b := a.getD i 0) rfl, cond_false]) (by
      unfold G35_l0_step
      simp only [nlt_int, cond_false]) (by unfold G35_l0_fuel; simp)
  rw [show G35_l0_run ((a, (a, (false, (0, ())))), ()) = _ from h]
  rfl
theorem pairs_l1 {s : E23} {l : List E72} (hs : StrOk s) (hl : RdsOk s l) (hn : l.length ≤ 1000) {c : E26} (hc : CauseOk s c) (h3 : (c.1).length < 2 ^ 62) (d : Nat) {T mo : Int} (hT : 2000 ≤ T ∧ T ≤ 3200) (hmo : 0 ≤ mo ∧ mo ≤ 20) (B : E56) (out : List E56) (ho : out.length ≤ 60000) :
    ∃ out' i, G76_l1_run ((l, ((d : Int), (out, (mo, (T, (0 - mo, ())))))), (s, (c, (B, ())))) = some (0, ((l, ((d : Int), (out', (mo, (T, (i, ())))))), (s, (c, (B, ()))))) ∧ out'.length ≤ out.length + 41 ∧ ∀ x, x ∈ out' ↔ x ∈ out ∨ ∃ m, (-mo ≤ m ∧ m ≤ mo) ∧ Can s l (bitsOf s c) d T m ∧ x = (T, (m, ())) := by
  obtain ⟨st, e, out', i, rfl, h1, h2⟩ := iter_inv (step := G76_l1_step) (k := 0) (n := (2 * mo + 1).toNat)
    (fun k st => ∃ out', st = ((l, ((d : Int), (out', (mo, (T, ((k : Int) - mo, ())))))), (s, (c, (B, ())))) ∧ out'.length ≤ out.length + k ∧ ∀ x, x ∈ out' ↔ x ∈ out ∨ ∃ m, (-mo ≤ m ∧ m < (k : Int) - mo) ∧ Can s l (bitsOf s c) d T m ∧ x = (T, (m, ())))
    (fun st => ∃ out' i, st = ((l, ((d : Int), (out', (mo, (T, (i, ())))))), (s, (c, (B, ())))) ∧ out'.length ≤ out.length + 41 ∧ ∀ x, x ∈ out' ↔ x ∈ out ∨ ∃ m, (-mo ≤ m ∧ m ≤ mo) ∧ Can s l (bitsOf s c) d T m ∧ x = (T, (m, ())))
    (by
      rintro k st ⟨out', rfl, h1, h2⟩ hk
      have hk' : (k : Int) ≤ 2 * mo := by omega
      have hle : decide ((k : Int) - mo ≤ mo) = true := decide_eq_true (by omega)
      have e1 : (k : Int) - mo + 1 = ((k + 1 : Nat) : Int) - mo := by omega
      have step : ∀ x : E56, (∃ m, (-mo ≤ m ∧ m < ((k + 1 : Nat) : Int) - mo) ∧ Can s l (bitsOf s c) d T m ∧ x = (T, (m, ()))) ↔ (∃ m, (-mo ≤ m ∧ m < (k : Int) - mo) ∧ Can s l (bitsOf s c) d T m ∧ x = (T, (m, ()))) ∨ (Can s l (bitsOf s c) d T ((k : Int) - mo) ∧ x = (T, ((k : Int) - mo, ()))) := fun x => by
        constructor
        · rintro ⟨m, hm, hcan, hx⟩
          by_cases hlt : m < (k : Int) - mo
          · exact .inl ⟨m, ⟨hm.1, hlt⟩, hcan, hx⟩
          · have : m = (k : Int) - mo := by omega
            subst this
            exact .inr ⟨hcan, hx⟩
        · rintro (⟨m, hm, hcan, hx⟩ | ⟨hcan, hx⟩)
          · exact ⟨m, ⟨hm.1, by omega⟩, hcan, hx⟩
          · exact ⟨_, ⟨by omega, by omega⟩, hcan, hx⟩
      unfold G76_l1_step
      simp only [hle, cond_true]
      rw [wr (n := (k : Int) - mo + 1) (by omega) (by omega), e1]
      rcases least_eq hs hl hn hc h3 d hT (m := (k : Int) - mo) (by omega) with ⟨a1, L, a2, _⟩ | ⟨a1, a2⟩
      · rw [a2]
        simp only [Option.bind_some, cond_true, lim_ok (n := out'.length) (m := List.length [(T, ((k : Int) - mo, ()))]) (by omega) (by simp)]
        refine ⟨_, rfl, _, rfl, by simp only [List.length_append, List.length_singleton]; omega, fun x => ?_⟩
        rw [List.mem_append, h2 x, step x, List.mem_singleton, or_assoc]
        exact or_congr_right (or_congr_right ⟨fun hx => ⟨a1, hx⟩, fun hx => hx.2⟩)
      · rw [a2]
        simp only [Option.bind_some, cond_false]
        refine ⟨_, rfl, _, rfl, by omega, fun x => ?_⟩
        rw [h2 x, step x]
        exact or_congr_right ⟨.inl, fun h => h.elim id fun h => absurd h.1 a1⟩)
    (by
      rintro st ⟨out', rfl, h1, h2⟩
      have hle : decide ((((2 * mo + 1).toNat : Nat) : Int) - mo ≤ mo) = false := decide_eq_false (by omega)
      unfold G76_l1_step
      simp only [hle, cond_false]
      refine ⟨_, rfl, out', _, rfl, by omega, fun x => (h2 x).trans (or_congr_right ⟨fun ⟨m, hm, h⟩ => ⟨m, ⟨hm.1, by omega⟩, h⟩, fun ⟨m, hm, h⟩ => ⟨m, ⟨hm.1, by omega⟩, h⟩⟩)⟩)
    (2 * mo + 1).toNat 0 (G76_l1_fuel ((l, ((d : Int), (out, (mo, (T, (0 - mo, ())))))), (s, (c, (B, ()))))) ((l, ((d : Int), (out, (mo, (T, (((0 : Nat) : Int) - mo, ())))))), (s, (c, (B, ())))) (by omega) (by unfold G76_l1_fuel; omega) ⟨out, rfl, by omega, fun x => ⟨.inl, fun h => h.elim id fun ⟨m, hm, _⟩ => by omega⟩⟩
  exact ⟨out', i, e, h1, h2⟩
theorem pairs_eq {s : E23} {l : List E72} (hs : StrOk s) (hl : RdsOk s l) (hn : l.length ≤ 1000) {c : E26} (hc : CauseOk s c) (h3 : (c.1).length < 2 ^ 62) (h4 : (c.2.1).length < 2 ^ 62) (d : Nat) :
    ∃ L, G76 s l c d = some L ∧ L.length ≤ 60000 ∧ ∀ x, x ∈ L ↔ ∃ m T, DC s l (bitsOf s c) d m T ∧ x = (T, (m, ())) := by
  have hmo := moD_bd hs (bitsOf s c) d
  obtain ⟨B, eB, hB1, hB2, hB3⟩ := bounds_eq hs hl hn d
  have main : ∃ L, (Option.bind (G76_l0_run ((l, ((d : Int), ([], (moD s (bitsOf s c) d, (B.1, ()))))), (s, (c, (B, ()))))) fun q5 => some q5.2.1.2.2.1) = some L ∧ L.length ≤ 60000 ∧ ∀ x, x ∈ L ↔ ∃ m T, DC s l (bitsOf s c) d m T ∧ x = (T, (m, ())) := by
    have hdc : ∀ m T, DC s l (bitsOf s c) d m T ↔ (-(moD s (bitsOf s c) d) ≤ m ∧ m ≤ moD s (bitsOf s c) d) ∧ (2000 ≤ T ∧ T ≤ 3200) ∧ Can s l (bitsOf s c) d T m := fun m T => hc_can
    have hB4 : ∀ m T, DC s l (bitsOf s c) d m T → B.1 ≤ T ∧ T ≤ B.2.1 := fun m T => hB3 _ m T
    simp only [hdc] at hB4 ⊢
    generalize moD s (bitsOf s c) d = mo at hmo hB4 ⊢
    obtain ⟨st, e, out', i, rfl, h1, h2⟩ := iter_inv (step := G76_l0_step) (k := 0) (n := (B.2.1 - B.1 + 1).toNat)
      (fun k st => ∃ out', st = ((l, ((d : Int), (out', (mo, (B.1 + (k : Int), ()))))), (s, (c, (B, ())))) ∧ out'.length ≤ 41 * k ∧ ∀ x, x ∈ out' ↔ ∃ m T, T < B.1 + (k : Int) ∧ (B.1 ≤ T ∧ (-mo ≤ m ∧ m ≤ mo) ∧ Can s l (bitsOf s c) d T m) ∧ x = (T, (m, ())))
      (fun st => ∃ out' i, st = ((l, ((d : Int), (out', (mo, (i, ()))))), (s, (c, (B, ())))) ∧ out'.length ≤ 60000 ∧ ∀ x, x ∈ out' ↔ ∃ m T, T ≤ B.2.1 ∧ (B.1 ≤ T ∧ (-mo ≤ m ∧ m ≤ mo) ∧ Can s l (bitsOf s c) d T m) ∧ x = (T, (m, ())))
      (by
        rintro k st ⟨out', rfl, h1, h2⟩ hk
        have hle : decide (B.1 + (k : Int) ≤ B.2.1) = true := decide_eq_true (by omega)
        have e1 : B.1 + (k : Int) + 1 = B.1 + ((k + 1 : Nat) : Int) := by omega
        have hk2 : k ≤ 1201 := by omega
        obtain ⟨o2, i, e, g1, g2⟩ := pairs_l1 hs hl hn hc h3 d (T := B.1 + (k : Int)) (mo := mo) (by omega) (by omega) B out' (by omega)
        unfold G76_l0_step
        simp only [hle, cond_true]
        rw [wr (n := 0 - mo) (by omega) (by omega), e]
        simp only [Option.bind_some]
        rw [wr (n := B.1 + (k : Int) + 1) (by omega) (by omega), e1]
        refine ⟨_, rfl, _, rfl, by omega, fun x => ?_⟩
        rw [g2 x, h2 x]
        constructor
        · rintro (⟨m, T, a1, a2, a3⟩ | ⟨m, a1, a2, a3⟩)
          · exact ⟨m, T, by omega, a2, a3⟩
          · exact ⟨m, _, by omega, ⟨by omega, a1, a2⟩, a3⟩
        · rintro ⟨m, T, a1, a2, a3⟩
          by_cases hlt : T < B.1 + (k : Int)
          · exact .inl ⟨m, T, hlt, a2, a3⟩
          · have : T = B.1 + (k : Int) := by omega
            subst this
            exact .inr ⟨m, a2.2.1, a2.2.2, a3⟩)
      (by
        rintro st ⟨out', rfl, h1, h2⟩
        have hle : decide (B.1 + (((B.2.1 - B.1 + 1).toNat : Nat) : Int) ≤ B.2.1) = false := decide_eq_false (by omega)
        unfold G76_l0_step
        simp only [hle, cond_false]
        refine ⟨_, rfl, out', _, rfl, by omega, fun x => (h2 x).trans ⟨fun ⟨m, T, a1, a2, a3⟩ => ⟨m, T, by omega, a2, a3⟩, fun ⟨m, T, a1, a2, a3⟩ => ⟨m, T, by omega, a2, a3⟩⟩⟩)
      (B.2.1 - B.1 + 1).toNat 0 (G76_l0_fuel ((l, ((d : Int), ([], (mo, (B.1, ()))))), (s, (c, (B, ()))))) ((l, ((d : Int), ([], (mo, (B.1 + ((0 : Nat) : Int), ()))))), (s, (c, (B, ())))) (by omega) (by unfold G76_l0_fuel; omega) ⟨[], rfl, by simp, fun x => ⟨fun h => (by cases h), fun ⟨m, T, a1, a2, _⟩ => by omega⟩⟩
    have e0 : B.1 + ((0 : Nat) : Int) = B.1 := by omega
    rw [e0] at e
    rw [show G76_l0_run ((l, ((d : Int), ([], (mo, (B.1, ()))))), (s, (c, (B, ())))) = _ from e]
    refine ⟨out', rfl, h1, fun x => (h2 x).trans ⟨fun ⟨m, T, a1, a2, a3⟩ => ⟨m, T, ⟨a2.2.1, ⟨by omega, by omega⟩, a2.2.2⟩, a3⟩, fun ⟨m, T, a1, a3⟩ => ?_⟩⟩
    have := hB4 m T a1
    exact ⟨m, T, this.2, ⟨this.1, a1.1, a1.2.2⟩, a3⟩
  unfold G76
  by_cases hm : (d : Int) ∈ c.2.1
  · rw [(has_tells _ _ h4).val hm]
    simp only [Option.bind_some, cond_true, eB]
    have : moD s (bitsOf s c) d = s.2.2.1 := by rw [moD_c hc, if_pos hm]
    rw [this] at main
    exact main
  · rw [(has_tells _ _ h4).nval hm]
    simp only [Option.bind_some, cond_false, eB]
    have : moD s (bitsOf s c) d = 0 := by rw [moD_c hc, if_neg hm]
    rw [this] at main
    exact main
def LimF (P : Int → Prop) (q : E56) : Prop := ((∀ x, ¬ P x) ∧ q = (1000000, (-1000000, ()))) ∨ Lim P q true
theorem LimF.iff {P Q : Int → Prop} {q : E56} (h : LimF P q) (e : ∀ x, P x ↔ Q x) : LimF Q q := by
  have : P = Q := funext fun x => propext (e x)
  rw [← this]; exact h
theorem LimF.add {P : Int → Prop} {q : E56} {y : Int} (h : LimF P q) (hy : -100000 ≤ y ∧ y ≤ 100000) : LimF (fun x => P x ∨ x = y) ((if y < q.1 then y else q.1), ((if y > q.2.1 then y else q.2.1), ())) := by
  right
  refine ⟨fun _ => ?_, fun h => by cases h⟩
  rcases h with ⟨h1, rfl⟩ | h
  · simp only
    rw [if_pos (by omega), if_pos (by omega)]
    exact ⟨.inr rfl, .inr rfl, fun x hx => hx.elim (fun hx => absurd hx (h1 x)) fun hx => by omega⟩
  · obtain ⟨h1, h2, h3⟩ := h.1 rfl
    refine ⟨?_, ?_, fun x hx => ?_⟩
    · simp only
      split
      · exact .inr rfl
      · exact .inl h1
    · simp only
      split
      · exact .inr rfl
      · exact .inl h2
    · simp only
      rcases hx with hx | rfl
      · have := h3 x hx
        constructor <;> split <;> omega
      · have := h3 _ h1
        constructor <;> split <;> omega
theorem rwhere_l1 {s : E23} {w : Int} (hw : 0 ≤ w ∧ w ≤ 200) (l : List E72) (all : List E26) (d k : Int) (L : List E56) (hL : L.length ≤ 60000) (hb : ∀ x ∈ L, (2000 ≤ x.1 ∧ x.1 ≤ 3200) ∧ (-20 ≤ x.2.1 ∧ x.2.1 ≤ 20)) (P : Int → Prop) (q : E56) (z : E56) (hq : LimF P q) :
    ∃ q' i, G37_l1_run ((l, (all, (d, (w, (k, (L, (0, ()))))))), (s, (z, (q, ())))) = some (0, ((l, (all, (d, (w, (k, (L, (i, ()))))))), (s, (z, (q', ()))))) ∧ LimF (fun x => P x ∨ ∃ y ∈ L, x = y.1 + y.2.1 * w) q' := by
  obtain ⟨st, e, q', i, rfl, h⟩ := iter_inv (step := G37_l1_step) (k := 0) (n := L.length)
    (fun j st => ∃ q', st = ((l, (all, (d, (w, (k, (L, ((j : Int), ()))))))), (s, (z, (q', ())))) ∧ LimF (fun x => P x ∨ ∃ i, i < j ∧ x = (L.getD i (0, (0, ()))).1 + (L.getD i (0, (0, ()))).2.1 * w) q')
    (fun st => ∃ (q' : E56) (i : Int), st = ((l, (all, (d, (w, (k, (L, (i, ()))))))), (s, (z, (q', ())))) ∧ LimF (fun x => P x ∨ ∃ i, i < L.length ∧ x = (L.getD i (0, (0, ()))).1 + (L.getD i (0, (0, ()))).2.1 * w) q')
    (by
      rintro j st ⟨q', rfl, hq'⟩ hj
      obtain ⟨b1, b2⟩ := hb _ (getD_mem hj (d := (0, (0, ()))))
      have hm := mulb (m := (L.getD j (0, (0, ()))).2.1) (w := w) (by omega) (by omega) hw.1 hw.2
      have hadd := hq'.add (y := (L.getD j (0, (0, ()))).1 + (L.getD j (0, (0, ()))).2.1 * w) (by omega)
      unfold G37_l1_step
      simp only [lt_int hj, ge0, Bool.and_self, cond_true, getD_toNat, wr1 (i := j) (by omega)]
      rw [wr (n := (L.getD j (0, (0, ()))).2.1 * w) (by omega) (by omega), wr (n := (L.getD j (0, (0, ()))).1 + (L.getD j (0, (0, ()))).2.1 * w) (by omega) (by omega)]
      refine ⟨_, rfl, _, rfl, hadd.iff fun x => ?_⟩
      rw [or_assoc]
      refine or_congr_right ⟨fun h => h.elim (fun ⟨i, hi, hx⟩ => ⟨i, by omega, hx⟩) fun hx => ⟨j, by omega, hx⟩, fun ⟨i, hi, hx⟩ => ?_⟩
      rcases Nat.lt_succ_iff_lt_or_eq.1 hi with h | h
      · exact .inl ⟨i, h, hx⟩
      · subst h; exact .inr hx)
    (by
      rintro st ⟨q', rfl, hq'⟩
      unfold G37_l1_step
      simp only [nlt_int, cond_false]
      exact ⟨_, rfl, q', _, rfl, hq'⟩)
    L.length 0 (G37_l1_fuel ((l, (all, (d, (w, (k, (L, (0, ()))))))), (s, (z, (q, ()))))) ((l, (all, (d, (w, (k, (L, (0, ()))))))), (s, (z, (q, ())))) (by omega) (by unfold G37_l1_fuel; simp) ⟨q, rfl, hq.iff fun x => ⟨.inl, fun h => h.elim id fun ⟨i, hi, _⟩ => absurd hi (by omega)⟩⟩
  refine ⟨q', i, e, h.iff fun x => or_congr_right ⟨fun ⟨i, hi, hx⟩ => ⟨_, getD_mem hi, hx⟩, fun ⟨y, hy, hx⟩ => ?_⟩⟩
  obtain ⟨i, hi, rfl⟩ := List.mem_iff_getElem.1 hy
  refine ⟨i, hi, ?_⟩
  rw [List.getD_eq_getElem?_getD, List.getElem?_eq_getElem hi]
  exact hx
theorem rwhere_eq {s : E23} {l : List E72} (hs : StrOk s) (hl : RdsOk s l) (hn : l.length ≤ 1000) {bs : List Nat} (hb : bs.length ≤ 5000) (hlow : ∀ b ∈ bs, low b (nC s)) (d : Nat) {w : Int} (hw : 0 ≤ w ∧ w ≤ 200) :
    ∃ q, G37 s l (bs.map (causeOf s)) d w = some q ∧ LimF (fun x => ∃ b ∈ bs, Val s l b d w x) q := by
  unfold G37
  have hn10 := nC_le hs
  obtain ⟨st, e, q', i, rfl, h⟩ := iter_inv (step := G37_l0_step) (k := 0) (n := bs.length)
    (fun j st => ∃ q', st = ((l, (bs.map (causeOf s), ((d : Int), (w, ((j : Int), ()))))), (s, ((0, (0, ())), (q', ())))) ∧ LimF (fun x => ∃ i, i < j ∧ Val s l (bs.getD i 0) d w x) q')
    (fun st => ∃ (q' : E56) (i : Int), st = ((l, (bs.map (causeOf s), ((d : Int), (w, (i, ()))))), (s, ((0, (0, ())), (q', ())))) ∧ LimF (fun x => ∃ i, i < bs.length ∧ Val s l (bs.getD i 0) d w x) q')
    (by
      rintro j st ⟨q', rfl, hq'⟩ hj
      have hg : (bs.map (causeOf s)).getD j ([], ([], ())) = causeOf s (bs.getD j 0) := by
        rw [List.getD_eq_getElem?_getD, List.getD_eq_getElem?_getD, List.getElem?_map, List.getElem?_eq_getElem hj]; rfl
      have hlo := hlow _ (getD_mem hj (d := 0))
      have hlk : decide ((j : Int) < ((bs.map (causeOf s)).length : Int)) = true := by rw [List.length_map]; exact lt_int hj
      have hc := causeOf_ok hs (bs.getD j 0)
      have hcl := cause_len hs hc
      obtain ⟨L, e1, e2, e3⟩ := pairs_eq hs hl hn hc (by omega) (by omega) d
      rw [bits_cause hs hlo] at e3
      obtain ⟨q2, i, f1, f2⟩ := rwhere_l1 (s := s) hw l (bs.map (causeOf s)) (d : Int) (j : Int) L e2 (fun x hx => by
        obtain ⟨m, T, hT, rfl⟩ := (e3 x).1 hx
        have := hT.bd hs
        exact ⟨this.2, this.1⟩) _ q' (0, (0, ())) hq'
      unfold G37_l0_step
      simp only [hlk, ge0, Bool.and_self, cond_true, getD_toNat, hg, e1, Option.bind_some]
      rw [f1]
      simp only [Option.bind_some, wr1 (i := j) (by omega)]
      refine ⟨_, rfl, q2, rfl, f2.iff fun x => ⟨fun h => ?_, fun ⟨i, hi, hv⟩ => ?_⟩⟩
      · rcases h with ⟨i, hi, hv⟩ | ⟨y, hy, hx⟩
        · exact ⟨i, by omega, hv⟩
        · obtain ⟨m, T, hT, rfl⟩ := (e3 y).1 hy
          exact ⟨j, by omega, m, T, hT, hx⟩
      · rcases Nat.lt_succ_iff_lt_or_eq.1 hi with h | h
        · exact .inl ⟨i, h, hv⟩
        · subst h
          obtain ⟨m, T, hT, hx⟩ := hv
          exact .inr ⟨(T, (m, ())), (e3 _).2 ⟨m, T, hT, rfl⟩, hx⟩)
    (by
      rintro st ⟨q', rfl, hq'⟩
      have hlk : decide ((bs.length : Int) < ((bs.map (causeOf s)).length : Int)) = false := by rw [List.length_map]; exact nlt_int _
      unfold G37_l0_step
      simp only [hlk, cond_false]
      exact ⟨_, rfl, q', _, rfl, hq'⟩)
    bs.length 0 (G37_l0_fuel ((l, (bs.map (causeOf s), ((d : Int), (w, (0, ()))))), (s, ((0, (0, ())), ((1000000, (-1000000, ())), ()))))) ((l, (bs.map (causeOf s), ((d : Int), (w, (0, ()))))), (s, ((0, (0, ())), ((1000000, (-1000000, ())), ())))) (by omega) (by unfold G37_l0_fuel; simp) ⟨_, rfl, .inl ⟨fun x ⟨i, hi, _⟩ => absurd hi (by omega), rfl⟩⟩
  rw [show G37_l0_run ((l, (bs.map (causeOf s), ((d : Int), (w, (0, ()))))), (s, ((0, (0, ())), ((1000000, (-1000000, ())), ())))) = _ from e]
  refine ⟨q', rfl, h.iff fun x => ⟨fun ⟨i, hi, hv⟩ => ⟨_, getD_mem hi, hv⟩, fun ⟨b, hb, hv⟩ => ?_⟩⟩
  obtain ⟨i, hi, rfl⟩ := List.mem_iff_getElem.1 hb
  refine ⟨i, hi, ?_⟩
  rw [List.getD_eq_getElem?_getD, List.getElem?_eq_getElem hi]
  exact hv
end Go.Proofs.YtibmgbalfhfcdaaDoor.Abs
