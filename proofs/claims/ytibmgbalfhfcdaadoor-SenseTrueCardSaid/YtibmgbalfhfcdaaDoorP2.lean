import Derived.Test.YtibmgbalfhfcdaaDoorP1
set_option linter.unusedVariables false
set_option linter.unusedSimpArgs false
set_option maxRecDepth 100000
namespace Go.Proofs.YtibmgbalfhfcdaaDoor.Abs
open Classical
inductive Feed {U : Type} (E : Nat → Prop) (V : Nat → U → Bool → U → Prop) : List Nat → U → Bool → U → Prop
  | nil (u : U) : Feed E V [] u true u
  | skip {b : Nat} {bs : List Nat} {u u' : U} {r : Bool} : ¬ E b → Feed E V bs u r u' → Feed E V (b :: bs) u r u'
  | go {b : Nat} {bs : List Nat} {u u1 u' : U} {r : Bool} : E b → V b u true u1 → Feed E V bs u1 r u' → Feed E V (b :: bs) u r u'
  | stop {b : Nat} {bs : List Nat} {u u' : U} : E b → V b u false u' → Feed E V (b :: bs) u false u'
theorem Feed.app {U : Type} {E : Nat → Prop} {V : Nat → U → Bool → U → Prop} {xs ys : List Nat} {u u1 u' : U} {r r' : Bool} (h : Feed E V xs u r u1) (hr : r = true) (h' : Feed E V ys u1 r' u') : Feed E V (xs ++ ys) u r' u' := by
  induction h with
  | nil u => exact h'
  | skip a _ ih => exact .skip a (ih hr h')
  | go a b _ ih => exact .go a b (ih hr h')
  | stop _ _ => cases hr
theorem Feed.cut {U : Type} {E : Nat → Prop} {V : Nat → U → Bool → U → Prop} {xs : List Nat} (ys : List Nat) {u u' : U} {r : Bool} (h : Feed E V xs u r u') (hr : r = false) : Feed E V (xs ++ ys) u false u' := by
  induction h with
  | nil u => cases hr
  | skip a _ ih => exact .skip a (ih hr)
  | go a b _ ih => exact .go a b (ih hr)
  | stop a b => exact .stop a b
def srchStp {B : Type} (n : Nat) (rc : (Int × (Int × (Int × Unit))) × B → Option (Bool × B)) (s : (Int × (Int × (Bool × (Int × Unit)))) × B) : Option (Nat × ((Int × (Int × (Bool × (Int × Unit)))) × B)) :=
  bif decide (s.1.2.2.2.1 < (n : Int)) then
    (bif (!decide (s.1.2.2.2.1 < 0)) then
      (Option.bind (rc ((IntKind.wrap .i64 (s.1.1 - 1), (IntKind.wrap .i64 (s.1.2.2.2.1 + 1), (IntKind.wrap .i64 ((BitVec.toNat ((BitVec.ofInt (IntKind.bits .i64) s.1.2.1) ||| (BitVec.ofInt (IntKind.bits .i64) (IntKind.wrap .i64 (1 * 2 ^ (min (Int.toNat s.1.2.2.2.1) (IntKind.bits .i64)))))) : Nat) : Int), ()))), s.2)) fun r4 =>
        (bif (!r4.1) then some (1, ((s.1.1, (s.1.2.1, (false, (s.1.2.2.2.1, ())))), r4.2))
        else some (0, ((s.1.1, (s.1.2.1, (s.1.2.2.1, (IntKind.wrap .i64 (s.1.2.2.2.1 + 1), ())))), r4.2))))
    else none)
  else some (2, s)
structure Srch {B U : Type} (n : Nat) (OK : List (E56 × E94) → Prop) (Pre : Nat → U → Prop) (E : Nat → Prop) (V : Nat → U → Bool → U → Prop) (pk : List (E56 × E94) → U → B) (fx : Nat → (Int × (Int × (Int × Unit))) × B → Option (Bool × B)) (stp : ((Int × (Int × (Int × Unit))) × B → Option (Bool × B)) → ((Int × (Int × (Bool × (Int × Unit)))) × B) → Option (Nat × ((Int × (Int × (Bool × (Int × Unit)))) × B))) : Prop where
  hn : n ≤ 20
  base : ∀ f (from_ : Int) now M u k, low now n → OK M → Pre (k + 1) u → ∃ r u' M', fx (f + 1) ((0, (from_, ((now : Nat), ()))), pk M u) = some (r, pk M' u') ∧ OK M' ∧ ((¬ E now ∧ r = true ∧ u' = u) ∨ (E now ∧ V now u r u'))
  pre : ∀ b u u' k, V b u true u' → Pre (k + 1) u → Pre k u'
  mono : ∀ u k, Pre (k + 1) u → Pre k u
  step : ∀ f (left from_ now : Int) M u, left ≠ 0 → fx (f + 1) ((left, (from_, (now, ()))), pk M u) = Option.bind (iter (stp (fx f)) 100000 ((left, (now, (false, (from_, ())))), pk M u)) fun q5 => natK q5.1 (some (q5.2.1.2.2.1, q5.2.2)) fun _ => some (true, q5.2.2)
  stp_ : ∀ rc x M u, stp rc (x, pk M u) = srchStp n rc (x, pk M u)
theorem Srch.run {B U : Type} {n : Nat} {OK : List (E56 × E94) → Prop} {Pre : Nat → U → Prop} {E : Nat → Prop} {V : Nat → U → Bool → U → Prop} {pk : List (E56 × E94) → U → B} {fx : Nat → (Int × (Int × (Int × Unit))) × B → Option (Bool × B)} {stp : ((Int × (Int × (Int × Unit))) × B → Option (Bool × B)) → ((Int × (Int × (Bool × (Int × Unit)))) × B) → Option (Nat × ((Int × (Int × (Bool × (Int × Unit)))) × B))} (h : Srch n OK Pre E V pk fx stp) :
    ∀ (f left rem now : Nat) (M : List (E56 × E94)) (u : U) (k : Nat), left < f → left ≤ 1000 → rem ≤ n → low now (n - rem) → OK M → Pre ((comb n rem left now).length + k) u → ∃ r u' M', fx f (((left : Int), (((n - rem : Nat) : Int), ((now : Int), ()))), pk M u) = some (r, pk M' u') ∧ OK M' ∧ Feed E V (comb n rem left now) u r u' ∧ (r = true → Pre k u')
  | 0, left, _, _, _, _, _, hf, _, _, _, _, _ => by omega
  | f + 1, 0, rem, now, M, u, k, hf, hl, hr, hlow, hM, hP => by
    rw [comb_zero] at hP ⊢
    rw [show ([now] : List Nat).length + k = k + 1 by simp; omega] at hP
    obtain ⟨r, u', M', e, hM', hv⟩ := h.base f ((n - rem : Nat) : Int) now M u k (low_mono hlow (by omega)) hM hP
    refine ⟨r, u', M', e, hM', ?_⟩
    rcases hv with ⟨a, rfl, rfl⟩ | ⟨a, b⟩
    · exact ⟨.skip a (.nil _), fun _ => h.mono _ _ hP⟩
    · cases r with
      | true => exact ⟨.go a b (.nil _), fun _ => h.pre _ _ _ _ b hP⟩
      | false => exact ⟨.stop a b, fun h => by cases h⟩
  | f + 1, left + 1, rem, now, M, u, k, hf, hl, hr, hlow, hM, hP => by
    have hn := h.hn
    have loop : ∀ (rem fuel : Nat) (M : List (E56 × E94)) (u : U) (ret : Bool), rem ≤ n → rem < fuel → low now (n - rem) → OK M → Pre ((comb n rem (left + 1) now).length + k) u →
        ∃ r u' M' k' i ret', iter (stp (fx f)) fuel ((((left + 1 : Nat) : Int), ((now : Int), (ret, (((n - rem : Nat) : Int), ())))), pk M u) = some (k', (((((left + 1 : Nat) : Int), ((now : Int), (ret', (i, ()))))), pk M' u')) ∧ OK M' ∧ Feed E V (comb n rem (left + 1) now) u r u' ∧ (r = true → Pre k u') ∧ ((r = false ∧ k' = 0 ∧ ret' = false) ∨ (r = true ∧ k' = 1)) := by
      intro rem
      induction rem with
      | zero =>
        intro fuel M u ret hr hfu hlow hM hP
        obtain ⟨fuel, rfl⟩ : ∃ fu, fuel = fu + 1 := ⟨fuel - 1, by omega⟩
        have hstep : stp (fx f) ((((left + 1 : Nat) : Int), ((now : Int), (ret, (((n - 0 : Nat) : Int), ())))), pk M u) = some (1 + 1, ((((left + 1 : Nat) : Int), ((now : Int), (ret, (((n - 0 : Nat) : Int), ())))), pk M u)) := by
          rw [h.stp_]
          unfold srchStp
          have : decide (((n - 0 : Nat) : Int) < (n : Int)) = false := decide_eq_false (by omega)
          simp only [this, cond_false]
        refine ⟨true, u, M, 1, _, ret, iter_out hstep, hM, ?_, fun _ => ?_, .inr ⟨rfl, rfl⟩⟩
        · simp only [comb, if_neg (Nat.succ_ne_zero left)]; exact .nil u
        · simpa only [comb, if_neg (Nat.succ_ne_zero left), List.length_nil, Nat.zero_add] using hP
      | succ rem ih =>
        intro fuel M u ret hr hfu hlow hM hP
        obtain ⟨fuel, rfl⟩ : ∃ fu, fuel = fu + 1 := ⟨fuel - 1, by omega⟩
        have hlow' : low (now ||| 2 ^ (n - (rem + 1))) (n - rem) := by
          have := low_or hlow
          have e : n - (rem + 1) + 1 = n - rem := by omega
          rwa [e] at this
        have hP' : Pre ((comb n rem left (now ||| 2 ^ (n - (rem + 1)))).length + ((comb n rem (left + 1) now).length + k)) u := by
          simp only [comb, List.length_append] at hP
          rwa [Nat.add_assoc] at hP
        obtain ⟨r, u1, M1, e1, hM1, hF1, hP1⟩ := h.run f left rem (now ||| 2 ^ (n - (rem + 1))) M u _ (by omega) (by omega) (by omega) hlow' hM hP'
        have hnow : now < 2 ^ 62 := Nat.lt_of_lt_of_le (low_lt hlow) (Nat.pow_le_pow_right (by decide) (by omega))
        have hstep : stp (fx f) ((((left + 1 : Nat) : Int), ((now : Int), (ret, (((n - (rem + 1) : Nat) : Int), ())))), pk M u) = some (bif (!r) then (1, ((((left + 1 : Nat) : Int), ((now : Int), (false, (((n - (rem + 1) : Nat) : Int), ())))), pk M1 u1)) else (0, ((((left + 1 : Nat) : Int), ((now : Int), (ret, (((n - rem : Nat) : Int), ())))), pk M1 u1))) := by
          rw [h.stp_]
          unfold srchStp
          have a1 : decide (((n - (rem + 1) : Nat) : Int) < (n : Int)) = true := decide_eq_true (by omega)
          have a2 : (!decide (((n - (rem + 1) : Nat) : Int) < 0)) = true := by rw [decide_eq_false (by omega)]; rfl
          have a3 : IntKind.wrap .i64 (((left + 1 : Nat) : Int) - 1) = (left : Int) := by rw [wr (by omega) (by omega)]; omega
          have a4 : IntKind.wrap .i64 (((n - (rem + 1) : Nat) : Int) + 1) = ((n - rem : Nat) : Int) := by rw [wr (by omega) (by omega)]; omega
          simp only [a1, a2, a3, a4, cond_true, Int.toNat_natCast]
          rw [shl_nat (by omega), or_nat hnow (Nat.pow_lt_pow_right (by decide) (by omega)), e1]
          cases r <;> rfl
        cases r with
        | false =>
          refine ⟨false, u1, M1, 0, _, false, iter_out hstep, hM1, ?_, (fun h => by cases h), .inl ⟨rfl, rfl, rfl⟩⟩
          simp only [comb]
          exact hF1.cut _ rfl
        | true =>
          obtain ⟨r2, u2, M2, k2, i2, ret2, e2, hM2, hF2, hP2, hc⟩ := ih fuel M1 u1 ret (by omega) (by omega) (low_mono hlow (by omega)) hM1 (hP1 rfl)
          refine ⟨r2, u2, M2, k2, i2, ret2, ?_, hM2, ?_, hP2, hc⟩
          · rw [iter_one hstep]; exact e2
          · simp only [comb]
            exact hF1.app rfl hF2
    obtain ⟨r, u', M', k', i, ret', e, hM', hF, hPk, hc⟩ := loop rem 100000 M u false hr (by omega) hlow hM hP
    refine ⟨r, u', M', ?_, hM', hF, hPk⟩
    rw [h.step f ((left + 1 : Nat) : Int) _ _ M u (by omega), e]
    simp only [Option.bind_some]
    rcases hc with ⟨rfl, rfl, rfl⟩ | ⟨rfl, rfl⟩ <;> rfl
def allC (n most : Nat) : List Nat := (List.range (most + 1)).flatMap fun m => comb n n m 0
theorem low_zero (i : Nat) : low 0 i := fun j _ => by simp
theorem allC_succ (n m : Nat) : ((List.range (m + 1)).flatMap fun m => comb n n m 0) = ((List.range m).flatMap fun m => comb n n m 0) ++ comb n n m 0 := by
  rw [List.range_succ, List.flatMap_append]; simp
theorem Srch.all {B U C : Type} {n : Nat} {OK : List (E56 × E94) → Prop} {Pre : Nat → U → Prop} {E : Nat → Prop} {V : Nat → U → Bool → U → Prop} {pk : List (E56 × E94) → U → B} {fx : Nat → (Int × (Int × (Int × Unit))) × B → Option (Bool × B)} {stp : ((Int × (Int × (Int × Unit))) × B → Option (Bool × B)) → ((Int × (Int × (Bool × (Int × Unit)))) × B) → Option (Nat × ((Int × (Int × (Bool × (Int × Unit)))) × B))} (h : Srch n OK Pre E V pk fx stp)
    (p93 : List (E56 × E94) → U → C) (st93 : (Int × (Int × Unit)) × C → Option (Nat × ((Int × (Int × Unit)) × C))) (most : Nat) (hmost : most ≤ n)
    (h1 : ∀ (m1 many : Nat) M u r u' M', many < m1 → m1 ≤ 1000 → fx 64 (((many : Int), (0, (0, ()))), pk M u) = some (r, pk M' u') → st93 (((m1 : Int), ((many : Int), ())), p93 M u) = some (bif (!r) then (1, (((m1 : Int), ((many : Int), ())), p93 M' u')) else (0, (((m1 : Int), (((many + 1 : Nat) : Int), ())), p93 M' u'))))
    (h2 : ∀ (m1 : Nat) M u, st93 (((m1 : Int), ((m1 : Int), ())), p93 M u) = some (2, (((m1 : Int), ((m1 : Int), ())), p93 M u)))
    (M : List (E56 × E94)) (u : U) (hM : OK M) (hP : Pre (allC n most).length u) (fuel : Nat) (hfu : most + 1 < fuel) :
    ∃ k x r u' M', iter st93 fuel ((((most + 1 : Nat) : Int), (0, ())), p93 M u) = some (k, (x, p93 M' u')) ∧ OK M' ∧ Feed E V (allC n most) u r u' := by
  have hn := h.hn
  obtain ⟨k, q, e, x, r, u', M', rfl, hM', hF⟩ := iter_ex (step := st93) (n := most + 1)
    (fun i st => ∃ u' M', st = ((((most + 1 : Nat) : Int), ((i : Int), ())), p93 M' u') ∧ OK M' ∧ i ≤ most + 1 ∧ Feed E V ((List.range i).flatMap fun m => comb n n m 0) u true u' ∧ ∃ j, Pre j u' ∧ j + ((List.range i).flatMap fun m => comb n n m 0).length = (allC n most).length)
    (fun k q => ∃ x r u' M', q = (x, p93 M' u') ∧ OK M' ∧ Feed E V (allC n most) u r u')
    (by
      rintro i st ⟨u1, M1, rfl, hM1, hi', hF1, j, hj, hjl⟩ hi
      have hsplit : ∃ rest, (allC n most) = ((List.range i).flatMap fun m => comb n n m 0) ++ comb n n i 0 ++ rest := by
        unfold allC
        have : List.range (most + 1) = List.range (i + 1) ++ (List.range' (i + 1) (most - i)) := by
          rw [List.range_eq_range', List.range_eq_range', show most + 1 = (i + 1) + (most - i) by omega, ← List.range'_append]
          simp
        rw [this, List.flatMap_append, allC_succ]
        exact ⟨_, rfl⟩
      obtain ⟨rest, hrest⟩ := hsplit
      have hlen : j = (comb n n i 0).length + rest.length := by
        rw [hrest] at hjl
        simp only [List.length_append] at hjl
        omega
      have hcall := h.run 64 i n 0 M1 u1 rest.length (by omega) (by omega) (Nat.le_refl _) (low_zero _) hM1 (by rw [← hlen]; exact hj)
      rw [Nat.sub_self] at hcall
      obtain ⟨r, u2, M2, e2, hM2, hF2, hP2⟩ := hcall
      have hst := h1 (most + 1) i M1 u1 r u2 M2 hi (by omega) e2
      cases r with
      | false =>
        refine .inr ⟨0, _, hst, _, false, u2, M2, rfl, hM2, ?_⟩
        rw [hrest]
        exact (hF1.app rfl hF2).cut _ rfl
      | true =>
        refine .inl ⟨_, hst, u2, M2, rfl, hM2, by omega, ?_, rest.length, hP2 rfl, ?_⟩
        · rw [allC_succ]; exact hF1.app rfl hF2
        · rw [allC_succ, hrest]
          simp only [List.length_append]
          omega)
    (by
      rintro st ⟨u1, M1, rfl, hM1, _, hF1, _⟩
      exact ⟨1, _, h2 _ _ _, _, true, u1, M1, rfl, hM1, hF1⟩)
    (most + 1) 0 fuel ((((most + 1 : Nat) : Int), (((0 : Nat) : Int), ())), p93 M u) (by omega) hfu ⟨u, M, rfl, hM, by omega, .nil u, _, hP, by simp⟩
  exact ⟨k, x, r, u', M', e, hM', hF⟩
end Go.Proofs.YtibmgbalfhfcdaaDoor.Abs
set_option linter.unusedVariables false
set_option linter.unusedSimpArgs false
set_option maxRecDepth 100000
namespace Go.Proofs.YtibmgbalfhfcdaaDoor.Abs
open Classical
structure TrOk (s : E23) (t : E30) : Prop where
  lt : (t.1).length = (s.2.2.2.1).toNat
  lr : (t.2.1).length = (s.2.2.2.1).toNat
  ld : (t.2.2.1).length = (s.2.2.2.2.1).length
  temp : ∀ x ∈ t.1, 2000 ≤ x ∧ x ≤ 3200
  rate : ∀ x ∈ t.2.1, 0 - s.2.2.1 ≤ x ∧ x ≤ s.2.2.1
  drift : ∀ x ∈ t.2.2.1, 0 - s.2.1 ≤ x ∧ x ≤ s.2.1
theorem TrOk.t_ {s : E23} {t : E30} (h : TrOk s t) {k : Nat} (hk : k < (s.2.2.2.1).toNat) : 2000 ≤ (t.1).getD k 0 ∧ (t.1).getD k 0 ≤ 3200 := h.temp _ (getD_mem (by rw [h.lt]; exact hk))
theorem TrOk.r_ {s : E23} {t : E30} (h : TrOk s t) {k : Nat} (hk : k < (s.2.2.2.1).toNat) : 0 - s.2.2.1 ≤ (t.2.1).getD k 0 ∧ (t.2.1).getD k 0 ≤ s.2.2.1 := h.rate _ (getD_mem (by rw [h.lr]; exact hk))
theorem TrOk.d_ {s : E23} {t : E30} (h : TrOk s t) {k : Nat} (hk : k < (s.2.2.2.2.1).length) : 0 - s.2.1 ≤ (t.2.2.1).getD k 0 ∧ (t.2.2.1).getD k 0 ≤ s.2.1 := h.drift _ (getD_mem (by rw [h.ld]; exact hk))
theorem beqn_f {a b : Int} (h : a = b) : (a != b) = false := by simp [h]
theorem beqn_t {a b : Int} (h : a ≠ b) : (a != b) = true := by simp [h]
theorem truth_tells {s : E23} (hs : StrOk s) (t : E30) : Tells (G21 s t) (TrOk s t) := by
  have hlen := hs.len
  have hd := hs.depths
  have hw := hs.warm
  have hdr := hs.drift
  unfold G21
  by_cases h1 : (t.1).length = (s.2.2.2.1).toNat
  case neg =>
    rw [beqn_t (a := ((t.1).length : Int)) (b := s.2.2.2.1) (by omega)]
    exact tells_f fun h => h1 h.lt
  by_cases h2 : (t.2.1).length = (s.2.2.2.1).toNat
  case neg =>
    rw [beqn_f (a := ((t.1).length : Int)) (b := s.2.2.2.1) (by omega), beqn_t (a := ((t.2.1).length : Int)) (b := s.2.2.2.1) (by omega)]
    exact tells_f fun h => h2 h.lr
  by_cases h3 : (t.2.2.1).length = (s.2.2.2.2.1).length
  case neg =>
    rw [beqn_f (a := ((t.1).length : Int)) (b := s.2.2.2.1) (by omega), beqn_f (a := ((t.2.1).length : Int)) (b := s.2.2.2.1) (by omega), beqn_t (a := ((t.2.2.1).length : Int)) (b := ((s.2.2.2.2.1).length : Int)) (by omega)]
    exact tells_f fun h => h3 h.ld
  rw [beqn_f (a := ((t.1).length : Int)) (b := s.2.2.2.1) (by omega), beqn_f (a := ((t.2.1).length : Int)) (b := s.2.2.2.1) (by omega), beqn_f (a := ((t.2.2.1).length : Int)) (b := ((s.2.2.2.2.1).length : Int)) (by omega)]
  simp only [cond_false]
  have w1 : IntKind.wrap .i64 (0 - s.2.2.1) = 0 - s.2.2.1 := wr (by omega) (by omega)
  have w2 : IntKind.wrap .i64 (0 - s.2.1) = 0 - s.2.1 := wr (by omega) (by omega)
  have key0 := iter_fn (step := G21_l0_step) (n := (s.2.2.2.1).toNat) (k1 := 0) (k2 := 1) (fuel := G21_l0_fuel ((false, (0, ())), (s, (t, ()))))
    (bad := fun i => !(decide (2000 ≤ (t.1).getD i 0 ∧ (t.1).getD i 0 ≤ 3200) && decide (0 - s.2.2.1 ≤ (t.2.1).getD i 0 ∧ (t.2.1).getD i 0 ≤ s.2.2.1)))
    (fun i => ((false, ((i : Int), ())), (s, (t, ())))) (fun i => ((false, ((i : Int), ())), (s, (t, ())))) ((false, ((((s.2.2.2.1).toNat : Nat) : Int), ())), (s, (t, ()))) (fun i hi => by
      unfold G21_l0_step
      have e0 : decide ((i : Int) < s.2.2.2.1) = true := decide_eq_true (by omega)
      simp only [e0, cond_true, w1, lt_int (show i < t.1.length by omega), lt_int (show i < t.2.1.length by omega), ge0, Bool.and_self, getD_toNat, rin_tells, Option.bind_some, wr1 (i := i) (by omega)]
      cases decide (2000 ≤ t.1.getD i 0 ∧ t.1.getD i 0 ≤ 3200) <;> cases decide (0 - s.2.2.1 ≤ t.2.1.getD i 0 ∧ t.2.1.getD i 0 ≤ s.2.2.1) <;> rfl) (by
      unfold G21_l0_step
      have e0 : decide (((s.2.2.2.1.toNat : Nat) : Int) < s.2.2.2.1) = false := decide_eq_false (by omega)
      simp only [e0, cond_false]) (by unfold G21_l0_fuel; simp only; omega)
  have hfl : ∀ (l : List Int) (a b : Int), (∀ i, i < l.length → a ≤ l.getD i 0 ∧ l.getD i 0 ≤ b) → ∀ x ∈ l, a ≤ x ∧ x ≤ b := fun l a b h => (forall_getD 0).1 h
  rcases key0 with ⟨j, hj, hb, _, he⟩ | ⟨hall, he⟩
  · rw [show G21_l0_run ((false, (0, ())), (s, (t, ()))) = _ from he]
    refine tells_f fun h => ?_
    rw [decide_eq_true (h.t_ hj), decide_eq_true (h.r_ hj)] at hb
    cases hb
  · rw [show G21_l0_run ((false, (0, ())), (s, (t, ()))) = _ from he]
    simp only [Option.bind_some, natK]
    have key1 := iter_fn (step := G21_l1_step) (n := (s.2.2.2.2.1).length) (k1 := 0) (k2 := 1) (fuel := G21_l1_fuel ((false, (0, ())), (s, (t, ()))))
      (bad := fun i => !(decide (0 - s.2.1 ≤ (t.2.2.1).getD i 0 ∧ (t.2.2.1).getD i 0 ≤ s.2.1)))
      (fun i => ((false, ((i : Int), ())), (s, (t, ())))) (fun i => ((false, ((i : Int), ())), (s, (t, ())))) ((false, (((s.2.2.2.2.1).length : Int), ())), (s, (t, ()))) (fun i hi => by
        unfold G21_l1_step
        simp only [lt_int hi, cond_true, w2, lt_int (show i < t.2.2.1.length by omega), ge0, Bool.and_self, getD_toNat, rin_tells, Option.bind_some, wr1 (i := i) (by omega)]
        cases decide (0 - s.2.1 ≤ t.2.2.1.getD i 0 ∧ t.2.2.1.getD i 0 ≤ s.2.1) <;> rfl) (by
        unfold G21_l1_step
        simp only [nlt_int, cond_false]) (by unfold G21_l1_fuel; simp)
    rcases key1 with ⟨j, hj, hb, _, he⟩ | ⟨hall1, he⟩
    · rw [show G21_l1_run ((false, (0, ())), (s, (t, ()))) = _ from he]
      refine tells_f fun h => ?_
      rw [decide_eq_true (h.d_ hj)] at hb
      cases hb
    · rw [show G21_l1_run ((false, (0, ())), (s, (t, ()))) = _ from he]
      refine tells_t ⟨h1, h2, h3, hfl _ _ _ fun i hi => ?_, hfl _ _ _ fun i hi => ?_, hfl _ _ _ fun i hi => ?_⟩
      · have := hall i (by omega)
        simp only [Bool.not_eq_false', Bool.and_eq_true, decide_eq_true_eq] at this
        exact this.1
      · have := hall i (by omega)
        simp only [Bool.not_eq_false', Bool.and_eq_true, decide_eq_true_eq] at this
        exact this.2
      · have := hall1 i (by omega)
        simpa only [Bool.not_eq_false', decide_eq_true_eq] using this
def atN (s : E23) (i : Nat) : Nat := ((s.2.2.2.2.1).getD i 0).toNat
theorem at_ok {s : E23} (hs : StrOk s) {i : Nat} (hi : i < (s.2.2.2.2.1).length) : (((atN s i : Nat) : Int) = (s.2.2.2.2.1).getD i 0) ∧ atN s i < (s.2.2.2.1).toNat := by
  have := hs.at_ _ (getD_mem hi (d := 0))
  unfold atN
  omega
def AgR (s : E23) (t : E30) (r : E72) : Bool := agr1 s r ((t.1).getD (atN s (r.1).toNat) 0) ((t.2.1).getD (atN s (r.1).toNat) 0 + (t.2.2.1).getD (r.1).toNat 0)
def Ag (s : E23) (l : List E72) (t : E30) : Prop := ∀ r ∈ l, AgR s t r = true
theorem rd_i {s : E23} {r : E72} (hr : RdOk s r) : ∃ i : Nat, r.1 = (i : Int) ∧ i < (s.2.2.2.2.1).length := ⟨(r.1).toNat, by have := hr.1; omega, by have := hr.1; have := hr.2.1; omega⟩
theorem shows_ref {s : E23} {t : E30} (hs : StrOk s) (ht : TrOk s t) {i : Nat} (hi : i < (s.2.2.2.2.1).length) {w : Int} (hw : 0 ≤ w ∧ w ≤ 200) :
    G61 s t i w = some ((t.1).getD (atN s i) 0 + ((t.2.1).getD (atN s i) 0 + (t.2.2.1).getD i 0) * w) := by
  obtain ⟨ha, hb⟩ := at_ok hs hi
  have b1 := ht.t_ hb
  have b2 := ht.r_ hb
  have b3 := ht.d_ hi
  have hw1 := hs.warm
  have hw2 := hs.drift
  have hm := mulb (m := (t.2.1).getD (atN s i) 0 + (t.2.2.1).getD i 0) (w := w) (by omega) (by omega) hw.1 hw.2
  unfold G61
  simp only [ge0, lt_int hi, Bool.and_self, cond_true, getD_toNat, ← ha, lt_int (show atN s i < t.1.length by have := ht.lt; omega), lt_int (show atN s i < t.2.1.length by have := ht.lr; omega), lt_int (show i < t.2.2.1.length by have := ht.ld; omega)]
  rw [wr (n := t.2.1.getD (atN s i) 0 + t.2.2.1.getD i 0) (by omega) (by omega)]
  rw [wr (n := (t.2.1.getD (atN s i) 0 + t.2.2.1.getD i 0) * w) (by omega) (by omega)]
  rw [wr (by omega) (by omega)]
theorem ref_in {s : E23} {t : E30} (hs : StrOk s) (ht : TrOk s t) {r : E72} (hr : RdOk s r) {i : Nat} (hi : r.1 = (i : Int)) (hi' : i < (s.2.2.2.2.1).length) :
    G60 (r.2.2.1) (IntKind.wrap .i64 ((t.1).getD (atN s i) 0 + ((t.2.1).getD (atN s i) 0 + (t.2.2.1).getD i 0) * r.2.1 - s.1)) (IntKind.wrap .i64 ((t.1).getD (atN s i) 0 + ((t.2.1).getD (atN s i) 0 + (t.2.2.1).getD i 0) * r.2.1 + s.1)) = some (AgR s t r) := by
  have hw1 := hs.warm
  have hw2 := hs.drift
  have hw3 := hs.err
  obtain ⟨ha, hb⟩ := at_ok hs hi'
  have b1 := ht.t_ hb
  have b2 := ht.r_ hb
  have b3 := ht.d_ hi'
  have hm := mulb (m := (t.2.1).getD (atN s i) 0 + (t.2.2.1).getD i 0) (w := r.2.1) (by omega) (by omega) hr.2.2.1 hr.2.2.2.1
  unfold AgR agr1
  rw [hi, Int.toNat_natCast]
  generalize ((t.2.1).getD (atN s i) 0 + (t.2.2.1).getD i 0) * r.2.1 = x at hm ⊢
  rw [wr (by omega) (by omega), wr (by omega) (by omega), rin_tells]
  congr 1
  rw [← Bool.decide_and, decide_eq_decide]; omega
theorem ragrees_tells {s : E23} {l : List E72} {t : E30} (hs : StrOk s) (hl : RdsOk s l) (hn : l.length ≤ 1000) (ht : TrOk s t) : Tells (G22 s l t) (Ag s l t) := by
  have hw1 := hs.warm
  have hw2 := hs.drift
  have hw3 := hs.err
  unfold G22
  have key := iter_fn (step := G22_l0_step) (n := l.length) (k1 := 0) (k2 := 1) (fuel := G22_l0_fuel ((l, (false, (0, ()))), (s, (t, ()))))
    (bad := fun k => !(AgR s t (l.getD k (0, (0, (0, ()))))))
    (fun k => ((l, (false, ((k : Int), ()))), (s, (t, ())))) (fun k => ((l, (false, ((k : Int), ()))), (s, (t, ())))) ((l, (false, ((l.length : Int), ()))), (s, (t, ()))) (fun k hk => by
      unfold G22_l0_step
      simp only [lt_int hk, ge0, Bool.and_self, cond_true, getD_toNat, wr1 (i := k) (by omega)]
      have hr := hl _ (getD_mem hk (d := (0, (0, (0, ())))))
      generalize l.getD k (0, (0, (0, ()))) = r at hr ⊢
      obtain ⟨i, hi, hi'⟩ := rd_i hr
      have h2 := ref_in hs ht hr hi hi'
      rw [hi, shows_ref hs ht hi' ⟨hr.2.2.1, hr.2.2.2.1⟩]
      simp only [Option.bind_some]
      rw [h2]
      simp only [Option.bind_some]
      cases AgR s t r <;> rfl) (by
      unfold G22_l0_step
      simp only [nlt_int, cond_false]) (by unfold G22_l0_fuel; simp)
  rcases key with ⟨j, hj, hb, _, he⟩ | ⟨hall, he⟩
  · rw [show G22_l0_run ((l, (false, (0, ()))), (s, (t, ()))) = _ from he]
    refine tells_f fun h => ?_
    rw [h _ (getD_mem hj)] at hb
    cases hb
  · rw [show G22_l0_run ((l, (false, (0, ()))), (s, (t, ()))) = _ from he]
    refine tells_t ((forall_getD (0, (0, (0, ())))).1 fun i hi => ?_)
    simpa using hall i hi
structure Sized (c : E26) (t : E30) : Prop where
  s : (c.1).length ≤ 12
  d : (c.2.1).length ≤ 12
  tt : (t.1).length ≤ 12
  tr : (t.2.1).length ≤ 12
  td : (t.2.2.1).length ≤ 12
theorem sized_tells (c : E26) (t : E30) : Tells (G12 c t) (Sized c t) := by
  unfold G12
  have h := tells_cond (p := ((c.1).length : Int) ≤ 12) (fun _ => tells_cond (p := ((c.2.1).length : Int) ≤ 12) (fun _ => tells_cond (p := ((t.1).length : Int) ≤ 12) (fun _ => tells_cond (p := ((t.2.1).length : Int) ≤ 12) (fun _ => tells_dec (p := ((t.2.2.1).length : Int) ≤ 12)))))
  exact h.iff ⟨fun h => ⟨by omega, by omega, by omega, by omega, by omega⟩, fun h => by have := h.s; have := h.d; have := h.tt; have := h.tr; have := h.td; omega⟩
end Go.Proofs.YtibmgbalfhfcdaaDoor.Abs
set_option linter.unusedVariables false
set_option linter.unusedSimpArgs false
set_option maxRecDepth 100000
namespace Go.Proofs.YtibmgbalfhfcdaaDoor.Abs
open Classical
theorem given_eq (s : E23) (l : List E72) (c : E26) (h0 : l.length < 2 ^ 62) (h1 : (c.1).length < 2 ^ 62) (h2 : (c.2.1).length < 2 ^ 62) :
    (24 < l.length ∧ G49 s l c = some (.inl (((), (3, ())), (c, ())))) ∨ (l.length ≤ 24 ∧ ¬ (SlOk s l ∧ CauseOk s c) ∧ G49 s l c = some (.inl (((), (2, ())), (c, ())))) ∨ (SlOk s l ∧ CauseOk s c ∧ G49 s l c = some (.inr (((), (0, ())), (c, (s, ([], (XX s l, ()))))))) := by
  unfold G49
  by_cases hl : l.length ≤ 24
  case neg =>
    rw [decide_eq_true (p := (l.length : Int) > 24) (by omega)]
    exact .inl ⟨by omega, rfl⟩
  right
  rw [decide_eq_false (p := (l.length : Int) > 24) (by omega), cond_false]
  by_cases hs : StrOk s
  case neg =>
    rw [(valid_tells s).nval hs]
    exact .inl ⟨hl, fun h => hs h.1.2.1, rfl⟩
  rw [(valid_tells s).val hs]
  simp only [Option.bind_some, Bool.not_true, cond_false]
  rw [cf81 l s hs h0]
  simp only [Option.bind_some]
  cases ha : l.any (fun r => !decide (RdOk s r)) with
  | true =>
    refine .inl ⟨hl, fun h => ?_, rfl⟩
    rw [List.any_eq_true] at ha
    obtain ⟨x, hx, hx'⟩ := ha
    rw [decide_eq_true (h.1.2.2 x hx)] at hx'
    cases hx'
  | false =>
    have hr : RdsOk s l := by
      intro r hr
      have := List.any_eq_false.1 ha r hr
      simpa using this
    simp only [cond_false]
    rcases bits_eq hs l c h1 h2 with ⟨hc, e, _⟩ | ⟨hc, e⟩
    · have e' : G50 (s, (l, ((), ()))) c [] = some (true, (XX s l, (c, ([], ())))) := by
        unfold G50
        rw [show G51 ((s, (l, ((), ()))).1, ((s, (l, ((), ()))).2.1, ((), (s, (l, ((), ()))).2.2.2))) c = _ from e]
        rfl
      rw [e']
      exact .inr ⟨⟨hl, hs, hr⟩, hc, rfl⟩
    · have e' : G50 (s, (l, ((), ()))) c [] = some (false, (XX s l, (c, ([], ())))) := by
        unfold G50
        rw [show G51 ((s, (l, ((), ()))).1, ((s, (l, ((), ()))).2.1, ((), (s, (l, ((), ()))).2.2.2))) c = _ from e]
        rfl
      rw [e']
      exact .inl ⟨hl, fun h => hc h.2, rfl⟩
theorem sexplains_eq (s : E23) (l : List E72) (c : E26) (h0 : l.length < 2 ^ 62) (h1 : (c.1).length < 2 ^ 62) (h2 : (c.2.1).length < 2 ^ 62) :
    (24 < l.length ∧ G16 s l c = some (false, (3, ()))) ∨ (l.length ≤ 24 ∧ ¬ (SlOk s l ∧ CauseOk s c) ∧ G16 s l c = some (false, (2, ()))) ∨ (SlOk s l ∧ CauseOk s c ∧ ∃ b, G16 s l c = some (b, (0, ())) ∧ (b = true ↔ Ex s l (bitsOf s c))) := by
  unfold G16
  rcases given_eq s l c h0 h1 h2 with ⟨h, e⟩ | ⟨h, h', e⟩ | ⟨hsl, hc, e⟩
  · rw [e]; exact .inl ⟨h, rfl⟩
  · rw [e]; exact .inr (.inl ⟨h, h', rfl⟩)
  · rw [e]
    refine .inr (.inr ⟨hsl, hc, ?_⟩)
    rcases bits_eq hsl.2.1 l c h1 h2 with ⟨_, eb, hb⟩ | ⟨hn, _⟩
    · obtain ⟨r, M', ee, hr, _⟩ := explains_eq hsl.2.1 hsl.2.2 (by have := hsl.1; omega) hb (memo_nil s l)
      show ∃ b, (Option.bind (G51 (XX s l) c) fun r5 => Option.bind (G52 r5.1 (XX s l) []) fun r6 => some (r6.1, ((0 : Int), ()))) = some (b, (0, ())) ∧ (b = true ↔ Ex s l (bitsOf s c))
      rw [eb]
      simp only [Option.bind_some]
      rw [ee]
      exact ⟨r, rfl, hr⟩
    · exact absurd hc hn
theorem DC.bd {s : E23} {l : List E72} (hs : StrOk s) {b d : Nat} {m T : Int} (h : DC s l b d m T) : (-20 ≤ m ∧ m ≤ 20) ∧ 2000 ≤ T ∧ T ≤ 3200 := by
  have := moD_bd hs b d
  have h1 := h.1
  exact ⟨by omega, h.2.1⟩
theorem rate_k {m : Int} (h : -20 ≤ m ∧ m ≤ 20) : ∃ k : Nat, k < 41 ∧ m = (k : Int) - 20 := ⟨(m + 20).toNat, by omega, by omega⟩
theorem SpanIs.low {s : E23} {l : List E72} (hs : StrOk s) {b d : Nat} {m : Int} {q : E56} (h : SpanIs s l b d m q) : (0 ≤ q.1 ∧ DC s l b d m q.1 ∧ ∀ T, DC s l b d m T → q.1 ≤ T) ∨ (q.1 = -1 ∧ ∀ T, ¬ DC s l b d m T) := by
  rcases h with ⟨h1, h2, h3⟩ | ⟨h1, rfl⟩
  · exact .inl ⟨by have := (h1.bd hs).2; omega, h1, fun T hT => (h3 T hT).1⟩
  · exact .inr ⟨rfl, h1⟩
theorem getD_snoc {α : Type} (xs : List α) (x d : α) (j : Nat) : (xs ++ [x]).getD j d = if j < xs.length then xs.getD j d else if j = xs.length then x else d := by
  simp only [List.getD_eq_getElem?_getD]
  by_cases h : j < xs.length
  · rw [if_pos h, List.getElem?_append_left h]
  · rw [if_neg h, List.getElem?_append_right (by omega)]
    by_cases h2 : j = xs.length
    · subst h2; simp
    · rw [if_neg h2, List.getElem?_eq_none (by simp; omega)]; rfl
end Go.Proofs.YtibmgbalfhfcdaaDoor.Abs
set_option linter.unusedVariables false
set_option linter.unusedSimpArgs false
set_option maxRecDepth 100000
namespace Go.Proofs.YtibmgbalfhfcdaaDoor.Abs
open Classical
def Own (t : E30) (c : E26) : Prop := (∀ i, i < (t.2.2.1).length → (t.2.2.1).getD i 0 ≠ 0 → (i : Int) ∈ c.1) ∧ (∀ k, k < (t.2.1).length → (t.2.1).getD k 0 ≠ 0 → (k : Int) ∈ c.2.1)
theorem rising_mem {L : List Int} {B x : Int} (h : Rising L B) (hx : x ∈ L) : 0 ≤ x ∧ x < B := by
  obtain ⟨i, hi, rfl⟩ := mem_getD.1 hx
  exact (h i hi).1
theorem bit_s {s : E23} {c : E26} (hc : CauseOk s c) {i : Nat} (hi : i < (s.2.2.2.2.1).length) : (bitsOf s c).testBit i = decide ((i : Int) ∈ c.1) := by
  rw [bitsOf_bit hc]
  have : decide ((s.2.2.2.2.1).length ≤ i ∧ ((i - (s.2.2.2.2.1).length : Nat) : Int) ∈ c.2.1) = false := decide_eq_false fun h => by omega
  rw [this, Bool.or_false]
theorem bit_d {s : E23} {c : E26} (hc : CauseOk s c) (d : Nat) : (bitsOf s c).testBit ((s.2.2.2.2.1).length + d) = decide ((d : Int) ∈ c.2.1) := by
  rw [bitsOf_bit hc]
  have h1 : decide ((((s.2.2.2.2.1).length + d : Nat) : Int) ∈ c.1) = false := decide_eq_false fun h => by have := rising_mem hc.1 h; omega
  have h2 : (s.2.2.2.2.1).length + d - (s.2.2.2.2.1).length = d := by omega
  rw [h1, h2, Bool.false_or, decide_eq_decide]
  exact ⟨fun h => h.2, fun h => ⟨by omega, h⟩⟩
theorem moS_c {s : E23} {c : E26} (hc : CauseOk s c) {i : Nat} (hi : i < (s.2.2.2.2.1).length) : moS s (bitsOf s c) i = if (i : Int) ∈ c.1 then s.2.1 else 0 := by
  unfold moS
  rw [bit_s hc hi]
  by_cases h : (i : Int) ∈ c.1
  · rw [decide_eq_true h, if_pos h]; rfl
  · rw [decide_eq_false h, if_neg h]; rfl
theorem moD_c {s : E23} {c : E26} (hc : CauseOk s c) (d : Nat) : moD s (bitsOf s c) d = if (d : Int) ∈ c.2.1 then s.2.2.1 else 0 := by
  unfold moD
  rw [bit_d hc]
  by_cases h : (d : Int) ∈ c.2.1
  · rw [decide_eq_true h, if_pos h]; rfl
  · rw [decide_eq_false h, if_neg h]; rfl
structure For (s : E23) (l : List E72) (b : Nat) (t : E30) : Prop where
  lt : (t.1).length = (s.2.2.2.1).toNat
  lr : (t.2.1).length = (s.2.2.2.1).toNat
  ld : (t.2.2.1).length = (s.2.2.2.2.1).length
  ft : ∀ d, d < (s.2.2.2.1).toNat → 2000 ≤ (t.1).getD d 0 ∧ (t.1).getD d 0 ≤ 3200
  fr : ∀ d, d < (s.2.2.2.1).toNat → -(moD s b d) ≤ (t.2.1).getD d 0 ∧ (t.2.1).getD d 0 ≤ moD s b d
  fd : ∀ i, i < (s.2.2.2.2.1).length → (-(moS s b i) ≤ (t.2.2.1).getD i 0 ∧ (t.2.2.1).getD i 0 ≤ moS s b i) ∧ agr s l i ((t.1).getD (atN s i) 0) ((t.2.1).getD (atN s i) 0 + (t.2.2.1).getD i 0) = true
theorem For.dc {s : E23} {l : List E72} {b : Nat} {t : E30} (h : For s l b t) {d : Nat} (hd : d < (s.2.2.2.1).toNat) : DC s l b d ((t.2.1).getD d 0) ((t.1).getD d 0) :=
  ⟨h.fr d hd, h.ft d hd, fun i hi he => by
    have e : atN s i = d := by unfold atN; rw [he]; simp
    have := h.fd i hi
    rw [e] at this
    exact ⟨_, this.1.1, this.1.2, this.2⟩⟩
theorem For.ex {s : E23} {l : List E72} {b : Nat} {t : E30} (h : For s l b t) : Ex s l b := fun d hd => ⟨_, _, h.dc (d := d) (by omega)⟩
theorem ag_iff {s : E23} {l : List E72} (hl : RdsOk s l) (t : E30) : Ag s l t ↔ ∀ i : Nat, i < (s.2.2.2.2.1).length → agr s l i ((t.1).getD (atN s i) 0) ((t.2.1).getD (atN s i) 0 + (t.2.2.1).getD i 0) = true := by
  constructor
  · intro h i hi
    unfold agr
    rw [List.all_eq_true]
    intro r hr
    by_cases he : r.1 = (i : Int)
    · have := h r hr
      unfold AgR at this
      rw [he, Int.toNat_natCast] at this
      rw [this, Bool.or_true]
    · rw [beq_eq_false_iff_ne.2 he]; rfl
  · intro h r hr
    obtain ⟨i, he, hi⟩ := rd_i (hl r hr)
    have := h i hi
    unfold agr at this
    rw [List.all_eq_true] at this
    have := this r hr
    rw [beq_iff_eq.2 he] at this
    unfold AgR
    rw [he, Int.toNat_natCast]
    simpa using this
theorem for_iff {s : E23} {l : List E72} (hs : StrOk s) (hl : RdsOk s l) {c : E26} (hc : CauseOk s c) (t : E30) : For s l (bitsOf s c) t ↔ TrOk s t ∧ Own t c ∧ Ag s l t := by
  have hw := hs.warm
  have hdr := hs.drift
  have hfl : ∀ (l : List Int) (a b : Int), (∀ i, i < l.length → a ≤ l.getD i 0 ∧ l.getD i 0 ≤ b) → ∀ x ∈ l, a ≤ x ∧ x ≤ b := fun l a b h => (forall_getD 0).1 h
  constructor
  · intro h
    refine ⟨⟨h.lt, h.lr, h.ld, hfl _ _ _ fun i hi => h.ft i (by have := h.lt; omega), hfl _ _ _ fun i hi => ?_, hfl _ _ _ fun i hi => ?_⟩, ⟨fun i hi hz => ?_, fun d hd hz => ?_⟩, (ag_iff hl t).2 fun i hi => (h.fd i hi).2⟩
    · have := h.fr i (by have := h.lr; omega)
      rw [moD_c hc] at this
      split at this <;> omega
    · have := (h.fd i (by have := h.ld; omega)).1
      rw [moS_c hc (by have := h.ld; omega)] at this
      split at this <;> omega
    · have := (h.fd i (by have := h.ld; omega)).1
      rw [moS_c hc (by have := h.ld; omega)] at this
      split at this
      · assumption
      · omega
    · have := h.fr d (by have := h.lr; omega)
      rw [moD_c hc] at this
      split at this
      · assumption
      · omega
  · rintro ⟨h1, h2, h3⟩
    refine ⟨h1.lt, h1.lr, h1.ld, fun d hd => h1.t_ hd, fun d hd => ?_, fun i hi => ⟨?_, (ag_iff hl t).1 h3 i hi⟩⟩
    · have := h1.r_ hd
      rw [moD_c hc]
      split
      · omega
      · rename_i hn
        have : (t.2.1).getD d 0 = 0 := Classical.byContradiction fun hz => hn (h2.2 d (by have := h1.lr; omega) hz)
        omega
    · have := h1.d_ hi
      rw [moS_c hc hi]
      split
      · omega
      · rename_i hn
        have : (t.2.2.1).getD i 0 = 0 := Classical.byContradiction fun hz => hn (h2.1 i (by have := h1.ld; omega) hz)
        omega
inductive Pos
  | t (k : Nat)
  | r (k : Nat)
  | d (i : Nat)
def Pos.val (t : E30) : Pos → Int
  | .t k => (t.1).getD k 0
  | .r k => (t.2.1).getD k 0
  | .d i => (t.2.2.1).getD i 0
def Pos.need (s : E23) : Pos → List Pos
  | .t _ => []
  | .r k => [.t k]
  | .d i => [.t (atN s i), .r (atN s i)]
def Pos.ok (s : E23) : Pos → Prop
  | .t k => k < (s.2.2.2.1).toNat
  | .r k => k < (s.2.2.2.1).toNat
  | .d i => i < (s.2.2.2.2.1).length
end Go.Proofs.YtibmgbalfhfcdaaDoor.Abs
set_option linter.unusedVariables false
set_option linter.unusedSimpArgs false
set_option maxRecDepth 100000
namespace Go.Proofs.YtibmgbalfhfcdaaDoor.Abs
open Classical
abbrev UL : Type := Nat × (List E26 × Int)
def pkL (s : E23) (l : List E72) (M : List (E56 × E94)) (u : UL) : E123 × ((Nat × UT45) × ((List (E56 × E94)) × ((List E26) × (Int × Unit)))) := (XX s l, ((u.1, UC45), (M, (u.2.1, (u.2.2, ())))))
def VL (s : E23) (b : Nat) (u : UL) (r : Bool) (u' : UL) : Prop := (0 ≤ u.2.2 ∧ u.2.2 < ((cnt b 60 : Nat) : Int) ∧ r = false ∧ u' = (4, u.2)) ∨ (¬ (0 ≤ u.2.2 ∧ u.2.2 < ((cnt b 60 : Nat) : Int)) ∧ r = true ∧ u' = (0, (u.2.1 ++ [causeOf s b], ((cnt b 60 : Nat) : Int))))
def PreL (k : Nat) (u : UL) : Prop := u.1 = 0 ∧ u.2.1.length + k ≤ 5000
theorem low_60 {b n : Nat} (h : low b n) (hn : n ≤ 20) : low b 60 ∧ b < 2 ^ 62 := ⟨low_mono h (by omega), Nat.lt_of_lt_of_le (low_lt h) (Nat.pow_le_pow_right (by decide) (by omega))⟩
theorem r0L {s : E23} (hs : StrOk s) (l : List E72) {b n : Nat} (hb : low b n) (hn : n ≤ 20) (M : List (E56 × E94)) (out : List E26) (least : Int) (ho : out.length ≤ 5000) :
    ∃ r u', G25 b (0, UC45) out least (XX s l) M = some (r, ((u'.1, UC45), (u'.2.1, (u'.2.2, (XX s l, (M, ())))))) ∧ VL s b (0, (out, least)) r u' := by
  obtain ⟨h60, h62⟩ := low_60 hb hn
  have hsz := size_eq h60
  have hca := cause_eq hs l h62
  have hl : decide (out.length + List.length [causeOf s b] ≤ LIM) = true := lim_ok (by omega) (by simp)
  unfold G25
  simp only [natK]
  by_cases h0 : least ≥ 0
  · rw [decide_eq_true h0, cond_true, hsz]
    simp only [Option.bind_some]
    by_cases h1 : ((cnt b 60 : Nat) : Int) > least
    · rw [decide_eq_true h1, cond_true]
      exact ⟨false, (4, (out, least)), rfl, .inl ⟨h0, h1, rfl, rfl⟩⟩
    · rw [decide_eq_false h1, cond_false]
      rw [show G66 ((XX s l).1, ((XX s l).2.1, ((), (XX s l).2.2.2))) (b : Int) = _ from hca]
      simp only [Option.bind_some, hl, cond_true]
      exact ⟨true, (0, (out ++ [causeOf s b], ((cnt b 60 : Nat) : Int))), rfl, .inr ⟨fun h => h1 h.2, rfl, rfl⟩⟩
  · rw [decide_eq_false h0, cond_false, hsz]
    simp only [Option.bind_some]
    rw [show G66 ((XX s l).1, ((XX s l).2.1, ((), (XX s l).2.2.2))) (b : Int) = _ from hca]
    simp only [Option.bind_some, hl, cond_true]
    exact ⟨true, (0, (out ++ [causeOf s b], ((cnt b 60 : Nat) : Int))), rfl, .inr ⟨fun h => h0 h.1, rfl, rfl⟩⟩
theorem nC_le {s : E23} (hs : StrOk s) : nC s ≤ 10 := by
  have h1 := hs.len
  have h2 := hs.depths
  unfold nC; omega
theorem srchL {s : E23} {l : List E72} (hs : StrOk s) (hl : RdsOk s l) (hn : l.length ≤ 1000) : Srch (nC s) (MemoOk s l) PreL (Ex s l) (VL s) (pkL s l) G94_fix G94_l0_step where
  hn := by have := nC_le hs; omega
  base := by
    rintro f from_ now M ⟨k0, out, least⟩ k hlow hM ⟨hk0, hP⟩
    have hn10 := nC_le hs
    obtain ⟨h60, h62⟩ := low_60 hlow (by omega)
    simp only at hk0 hP
    subst hk0
    obtain ⟨r, M', e, hr, hM'⟩ := explains_eq hs hl hn h62 hM
    show ∃ r u' M', G94_b (G94_fix f) 0 from_ now (XX s l) (0, UC45) M out least = some (r, pkL s l M' u') ∧ _
    unfold G94_b
    have e0 : ((0 : Int) == 0) = true := rfl
    simp only [e0, cond_true]
    rw [show G52 (now : Int) ((XX s l).1, ((XX s l).2.1, ((), (XX s l).2.2.2))) M = _ from e]
    simp only [Option.bind_some]
    cases r with
    | false => exact ⟨true, (0, (out, least)), M', rfl, hM', .inl ⟨(fun h => by have := hr.2 h; cases this), rfl, rfl⟩⟩
    | true =>
      simp only [Bool.not_true, cond_false]
      obtain ⟨r2, u', e2, hv⟩ := r0L hs l hlow (by omega) M' out least (by omega)
      rw [show G25 (now : Int) (0, UC45) out least ((XX s l).1, ((XX s l).2.1, ((), (XX s l).2.2.2))) M' = _ from e2]
      exact ⟨r2, u', M', rfl, hM', .inr ⟨hr.1 rfl, hv⟩⟩
  pre := by
    rintro b ⟨k0, out, least⟩ u' k hv ⟨hk0, hP⟩
    rcases hv with ⟨_, _, h, _⟩ | ⟨_, _, rfl⟩
    · cases h
    · exact ⟨rfl, by simp only [List.length_append, List.length_singleton]; simp only at hP; omega⟩
  mono := fun u k h => ⟨h.1, by have := h.2; omega⟩
  step := by
    rintro f left from_ now M ⟨k0, out, least⟩ hleft
    show G94_b (G94_fix f) left from_ now (XX s l) (k0, UC45) M out least = _
    unfold G94_b
    rw [beq_eq_false_iff_ne.2 hleft, cond_false]
    rfl
  stp_ := by
    rintro rc ⟨left, now, ret, i, _⟩ M ⟨k0, out, least⟩
    unfold G94_l0_step srchStp pkL
    rw [show G64 ((XX s l).1, ((XX s l).2.1, ((), (XX s l).2.2.2))) = _ from many_eq hs l]
    rfl
def p93L (s : E23) (l : List E72) (most : Int) (M : List (E56 × E94)) (u : UL) : (Nat × UT45) × (Int × ((List E26) × (Int × (E123 × ((List (E56 × E94)) × Unit))))) := ((u.1, UC45), (most, (u.2.1, (u.2.2, (XX s l, (M, ()))))))
theorem allC_len : ∀ n, n ≤ 10 → ∀ most, most ≤ n → (allC n most).length ≤ 3000 := by
  intro n hn most hm
  have h1 : ∀ m, ((List.range m).flatMap fun m => comb n n m 0).length ≤ m * 2 ^ n := by
    intro m
    induction m with
    | zero => simp
    | succ m ih =>
      rw [allC_succ, List.length_append, Nat.succ_mul]
      have := comb_len n n m 0
      omega
  have h2 := h1 (most + 1)
  unfold allC
  by_cases hn8 : n ≤ 8
  · have h3 : 2 ^ n ≤ 2 ^ 8 := Nat.pow_le_pow_right (by decide) hn8
    have h4 : (most + 1) * 2 ^ n ≤ 9 * 2 ^ 8 := Nat.mul_le_mul (by omega) h3
    omega
  · exact Nat.le_trans (Nat.le_refl _) (by
      have : n = 9 ∨ n = 10 := by omega
      rcases this with rfl | rfl
      · have : most = 0 ∨ most = 1 ∨ most = 2 ∨ most = 3 ∨ most = 4 ∨ most = 5 ∨ most = 6 ∨ most = 7 ∨ most = 8 ∨ most = 9 := by omega
        rcases this with rfl | rfl | rfl | rfl | rfl | rfl | rfl | rfl | rfl | rfl <;> decide +kernel
      · have : most = 0 ∨ most = 1 ∨ most = 2 ∨ most = 3 ∨ most = 4 ∨ most = 5 ∨ most = 6 ∨ most = 7 ∨ most = 8 ∨ most = 9 ∨ most = 10 := by omega
        rcases this with rfl | rfl | rfl | rfl | rfl | rfl | rfl | rfl | rfl | rfl | rfl <;> decide +kernel)
theorem all93L {s : E23} {l : List E72} (hs : StrOk s) (hl : RdsOk s l) (hn : l.length ≤ 1000) {M : List (E56 × E94)} (hM : MemoOk s l M) :
    ∃ r u' M', G93 (0, UC45) ((nC s : Nat) : Int) [] (-1) (XX s l) M = some ((), p93L s l ((nC s : Nat) : Int) M' u') ∧ Feed (Ex s l) (VL s) (allC (nC s) (nC s)) (0, ([], -1)) r u' := by
  have hn10 := nC_le hs
  have hlen := allC_len (nC s) hn10 (nC s) (Nat.le_refl _)
  obtain ⟨k, x, r, u', M', e, hM', hF⟩ := (srchL hs hl hn).all (p93L s l ((nC s : Nat) : Int)) G93_l0_step (nC s) (Nat.le_refl _)
    (by
      rintro m1 many M ⟨k0, out, least⟩ r ⟨k1, out1, least1⟩ M' hlt hm1 e
      unfold G93_l0_step p93L
      simp only [lt_int hlt, cond_true]
      rw [show G94 (many : Int) 0 0 ((XX s l).1, ((XX s l).2.1, ((), (XX s l).2.2.2))) (k0, UC45) M out least = _ from e]
      simp only [Option.bind_some, wr1 (i := many) (by omega)]
      cases r <;> rfl)
    (by
      rintro m1 M ⟨k0, out, least⟩
      unfold G93_l0_step p93L
      simp only [nlt_int, cond_false]) M (0, ([], -1)) hM ⟨rfl, by simp only [List.length_nil]; omega⟩ (nC s + 2) (by omega)
  unfold G93
  rw [wr1 (i := nC s) (by omega)]
  have hfu : G93_l0_fuel ((((nC s + 1 : Nat) : Int), (0, ())), ((0, UC45), (((nC s : Nat) : Int), ([], (-1, (XX s l, (M, ()))))))) = nC s + 2 := by unfold G93_l0_fuel; simp only; omega
  rw [show G93_l0_run ((((nC s + 1 : Nat) : Int), (0, ())), ((0, UC45), (((nC s : Nat) : Int), ([], (-1, (((XX s l).1, ((XX s l).2.1, ((), (XX s l).2.2.2))), (M, ()))))))) = iter G93_l0_step (G93_l0_fuel ((((nC s + 1 : Nat) : Int), (0, ())), ((0, UC45), (((nC s : Nat) : Int), ([], (-1, (XX s l, (M, ())))))))) ((((nC s + 1 : Nat) : Int), (0, ())), p93L s l ((nC s : Nat) : Int) M (0, ([], -1))) from rfl, hfu, e]
  refine ⟨r, u', M', ?_, hF⟩
  obtain ⟨k1, out1, least1⟩ := u'
  cases k <;> rfl
theorem Feed.split {U : Type} {E : Nat → Prop} {V : Nat → U → Bool → U → Prop} : ∀ {xs ys : List Nat} {u u' : U} {r : Bool}, Feed E V (xs ++ ys) u r u' → (∃ u1, Feed E V xs u true u1 ∧ Feed E V ys u1 r u') ∨ (r = false ∧ Feed E V xs u false u')
  | [], ys, u, u', r, h => .inl ⟨u, .nil u, h⟩
  | x :: xs, ys, u, u', r, h => by
    cases h with
    | skip a h =>
      rcases Feed.split h with ⟨u1, h1, h2⟩ | ⟨rfl, h1⟩
      · exact .inl ⟨u1, .skip a h1, h2⟩
      · exact .inr ⟨rfl, .skip a h1⟩
    | go a b h =>
      rcases Feed.split h with ⟨u1, h1, h2⟩ | ⟨rfl, h1⟩
      · exact .inl ⟨u1, .go a b h1, h2⟩
      · exact .inr ⟨rfl, .go a b h1⟩
    | stop a b => exact .inr ⟨rfl, .stop a b⟩
noncomputable def exs (s : E23) (l : List E72) (xs : List Nat) : List Nat := xs.filter fun b => decide (Ex s l b)
theorem exs_mem {s : E23} {l : List E72} {xs : List Nat} {b : Nat} : b ∈ exs s l xs ↔ b ∈ xs ∧ Ex s l b := by unfold exs; simp
theorem feedL_new {s : E23} {l : List E72} {m : Nat} : ∀ (xs : List Nat), (∀ b ∈ xs, cnt b 60 = m) → ∀ (out : List E26) (least : Int) (r : Bool) (u' : UL), ¬ (0 ≤ least ∧ least < (m : Int)) → Feed (Ex s l) (VL s) xs (0, (out, least)) r u' → r = true ∧ u' = (0, (out ++ (exs s l xs).map (causeOf s), if exs s l xs = [] then least else (m : Int)))
  | [], _, out, least, r, u', _, h => by
    cases h
    exact ⟨rfl, by simp [exs]⟩
  | x :: xs, hx, out, least, r, u', hl, h => by
    have hxs := fun b hb => hx b (List.mem_cons_of_mem _ hb)
    have hm := hx x (List.mem_cons_self ..)
    cases h with
    | skip a h =>
      have e : exs s l (x :: xs) = exs s l xs := by unfold exs; rw [List.filter_cons_of_neg (by simpa using a)]
      rw [e]
      exact feedL_new xs hxs out least r u' hl h
    | go a b h =>
      have e : exs s l (x :: xs) = x :: exs s l xs := by unfold exs; rw [List.filter_cons_of_pos (by simpa using a)]
      rw [e]
      rcases b with ⟨_, _, h', _⟩ | ⟨_, _, rfl⟩
      · cases h'
      · rw [hm] at h
        obtain ⟨h1, h2⟩ := feedL_new xs hxs _ _ r u' (by omega) h
        refine ⟨h1, ?_⟩
        rw [h2]
        simp only [List.map_cons, List.append_assoc, List.singleton_append, if_neg (List.cons_ne_nil _ _)]
        split <;> rfl
    | stop a b =>
      rcases b with ⟨h1, h2, _, _⟩ | ⟨_, h', _⟩
      · simp only [hm] at h1 h2
        exact absurd ⟨h1, h2⟩ hl
      · cases h'
theorem feedL_old {s : E23} {l : List E72} {m : Nat} : ∀ (xs : List Nat), (∀ b ∈ xs, cnt b 60 = m) → ∀ (out : List E26) (least : Int) (r : Bool) (u' : UL), (0 ≤ least ∧ least < (m : Int)) → Feed (Ex s l) (VL s) xs (0, (out, least)) r u' → (r = true ∧ u' = (0, (out, least))) ∨ (r = false ∧ u' = (4, (out, least)))
  | [], _, out, least, r, u', _, h => by
    cases h
    exact .inl ⟨rfl, rfl⟩
  | x :: xs, hx, out, least, r, u', hl, h => by
    have hxs := fun b hb => hx b (List.mem_cons_of_mem _ hb)
    have hm := hx x (List.mem_cons_self ..)
    cases h with
    | skip a h => exact feedL_old xs hxs out least r u' hl h
    | go a b h =>
      rcases b with ⟨_, _, h', _⟩ | ⟨h', _, _⟩
      · cases h'
      · exact absurd (by rw [hm]; exact hl) h'
    | stop a b =>
      rcases b with ⟨h1, h2, _, h3⟩ | ⟨_, h', _⟩
      · exact .inr ⟨rfl, h3⟩
      · cases h'
theorem comb_in {n m b : Nat} (hn : n ≤ 20) (h : b ∈ comb n n m 0) : low b n ∧ cnt b n = m ∧ cnt b 60 = m := by
  have h1 := comb_low n n m 0 (Nat.le_refl _) (low_zero _) b h
  have h2 := comb_cnt n n m 0 (Nat.le_refl _) (low_zero _) b h
  have h3 : cnt 0 n = 0 := by
    have : ∀ k, cnt 0 k = 0 := fun k => by
      induction k with
      | zero => rfl
      | succ k ih => simp [cnt, ih]
    exact this n
  have h4 := cnt_low h1 60 (by omega)
  exact ⟨h1, by omega, by omega⟩
theorem feedL_all {s : E23} {l : List E72} {n : Nat} (hn : n ≤ 20) : ∀ (i : Nat) (r : Bool) (u' : UL), Feed (Ex s l) (VL s) ((List.range i).flatMap fun m => comb n n m 0) (0, ([], -1)) r u' →
    (r = true ∧ u' = (0, ([], -1)) ∧ ∀ m, m < i → exs s l (comb n n m 0) = []) ∨ (∃ m, m < i ∧ (∀ m', m' < m → exs s l (comb n n m' 0) = []) ∧ exs s l (comb n n m 0) ≠ [] ∧ ((r = true ∧ u' = (0, ((exs s l (comb n n m 0)).map (causeOf s), (m : Int)))) ∨ (r = false ∧ u' = (4, ((exs s l (comb n n m 0)).map (causeOf s), (m : Int))))))
  | 0, r, u', h => by
    simp only [List.range_zero, List.flatMap_nil] at h
    cases h
    exact .inl ⟨rfl, rfl, fun m hm => absurd hm (by omega)⟩
  | i + 1, r, u', h => by
    rw [allC_succ] at h
    have hc : ∀ b ∈ comb n n i 0, cnt b 60 = i := fun b hb => (comb_in hn hb).2.2
    rcases Feed.split h with ⟨u1, h1, h2⟩ | ⟨rfl, h1⟩
    · rcases feedL_all hn i true u1 h1 with ⟨_, rfl, h3⟩ | ⟨m, hm, h3, h4, ⟨_, rfl⟩ | ⟨h5, _⟩⟩
      · obtain ⟨rfl, h5⟩ := feedL_new _ hc [] (-1) r u' (by omega) h2
        by_cases he : exs s l (comb n n i 0) = []
        · left
          rw [if_pos he, he] at h5
          refine ⟨rfl, h5, fun m hm => ?_⟩
          rcases Nat.lt_succ_iff_lt_or_eq.1 hm with h | h
          · exact h3 m h
          · subst h; exact he
        · right
          rw [if_neg he] at h5
          exact ⟨i, by omega, h3, he, .inl ⟨rfl, by rw [h5]; rfl⟩⟩
      · right
        refine ⟨m, by omega, h3, h4, ?_⟩
        exact feedL_old _ hc _ _ r u' (by omega) h2
      · cases h5
    · rcases feedL_all hn i false u' h1 with ⟨h3, _⟩ | ⟨m, hm, h3, h4, h5⟩
      · cases h3
      · exact .inr ⟨m, by omega, h3, h4, h5⟩
theorem given2_eq (s : E23) (l : List E72) (h0 : l.length < 2 ^ 62) :
    (24 < l.length ∧ G49_v2 s l = some (.inl (((), (3, ())), ()))) ∨ (l.length ≤ 24 ∧ ¬ SlOk s l ∧ G49_v2 s l = some (.inl (((), (2, ())), ()))) ∨ (SlOk s l ∧ G49_v2 s l = some (.inr (((), (0, ())), (s, ([], (XX s l, ())))))) := by
  unfold G49_v2
  by_cases hl : l.length ≤ 24
  case neg =>
    rw [decide_eq_true (p := (l.length : Int) > 24) (by omega)]
    exact .inl ⟨by omega, rfl⟩
  right
  rw [decide_eq_false (p := (l.length : Int) > 24) (by omega), cond_false]
  by_cases hs : StrOk s
  case neg =>
    rw [(valid_tells s).nval hs]
    exact .inl ⟨hl, fun h => hs h.2.1, rfl⟩
  rw [(valid_tells s).val hs]
  simp only [Option.bind_some, Bool.not_true, cond_false]
  rw [cf81 l s hs h0]
  simp only [Option.bind_some]
  cases ha : l.any (fun r => !decide (RdOk s r)) with
  | true =>
    refine .inl ⟨hl, fun h => ?_, rfl⟩
    rw [List.any_eq_true] at ha
    obtain ⟨x, hx, hx'⟩ := ha
    rw [decide_eq_true (h.2.2 x hx)] at hx'
    cases hx'
  | false =>
    have hr : RdsOk s l := by
      intro r hr
      have := List.any_eq_false.1 ha r hr
      simpa using this
    exact .inr ⟨⟨hl, hs, hr⟩, rfl⟩
def LeastOut (s : E23) (l : List E72) (out : List E26) : Prop := ∃ m, m ≤ nC s ∧ (∀ m', m' < m → exs s l (comb (nC s) (nC s) m' 0) = []) ∧ exs s l (comb (nC s) (nC s) m 0) ≠ [] ∧ out = (exs s l (comb (nC s) (nC s) m 0)).map (causeOf s)
theorem sleast_eq (s : E23) (l : List E72) (h0 : l.length < 2 ^ 62) :
    (24 < l.length ∧ g25_sense_Least s l = some ([], (3, ()))) ∨ (l.length ≤ 24 ∧ ¬ SlOk s l ∧ g25_sense_Least s l = some ([], (2, ()))) ∨ (SlOk s l ∧ (((∀ m, m ≤ nC s → exs s l (comb (nC s) (nC s) m 0) = []) ∧ g25_sense_Least s l = some ([], (5, ()))) ∨ (∃ out, LeastOut s l out ∧ g25_sense_Least s l = some (out, (0, ()))))) := by
  unfold g25_sense_Least
  rcases given2_eq s l h0 with ⟨h, e⟩ | ⟨h, h', e⟩ | ⟨hsl, e⟩
  · rw [e]; exact .inl ⟨h, rfl⟩
  · rw [e]; exact .inr (.inl ⟨h, h', rfl⟩)
  · rw [e]
    refine .inr (.inr ⟨hsl, ?_⟩)
    have hn : l.length ≤ 1000 := by have := hsl.1; omega
    obtain ⟨r, u', M', e2, hF⟩ := all93L hsl.2.1 hsl.2.2 hn (memo_nil s l)
    have hn10 := nC_le hsl.2.1
    simp only [Option.bind_some, altK]
    have e0 : ((0 : Int) != 0) = false := rfl
    simp only [e0, cond_false]
    rw [show G64 ((XX s l).1, ((XX s l).2.1, ((), (XX s l).2.2.2))) = _ from many_eq hsl.2.1 l]
    simp only [Option.bind_some, G63]
    rw [show G93 (0, UC45) ((nC s : Nat) : Int) [] (-1) ((XX s l).1, ((XX s l).2.1, ((), (XX s l).2.2.2))) [] = _ from e2]
    simp only [Option.bind_some, p93L]
    have e00 : ((0 : Nat) == 0) = true := rfl
    have e40 : ((4 : Nat) == 0) = false := rfl
    have e44 : ((4 : Nat) == 4) = true := rfl
    rcases feedL_all (n := nC s) (by omega) (nC s + 1) r u' hF with ⟨_, rfl, h3⟩ | ⟨m, hm, h3, h4, h5⟩
    · left
      refine ⟨fun m hm => h3 m (by omega), ?_⟩
      rfl
    · right
      refine ⟨_, ⟨m, by omega, h3, h4, rfl⟩, ?_⟩
      have hne : (((exs s l (comb (nC s) (nC s) m 0)).map (causeOf s)).length : Int) ≠ 0 := by
        rw [List.length_map]
        have := List.length_pos_iff.2 h4
        omega
      rcases h5 with ⟨_, rfl⟩ | ⟨_, rfl⟩
      · simp only [e00, cond_true, beq_eq_false_iff_ne.2 hne, cond_false]
      · simp only [e40, e44, cond_true, beq_eq_false_iff_ne.2 hne, cond_false]
end Go.Proofs.YtibmgbalfhfcdaaDoor.Abs
set_option linter.unusedVariables false
set_option linter.unusedSimpArgs false
set_option maxRecDepth 100000
namespace Go.Proofs.YtibmgbalfhfcdaaDoor.Abs
open Classical
end Go.Proofs.YtibmgbalfhfcdaaDoor.Abs
set_option linter.unusedVariables false
set_option linter.unusedSimpArgs false
set_option maxRecDepth 100000
namespace Go.Proofs.YtibmgbalfhfcdaaDoor.Abs
open Classical
end Go.Proofs.YtibmgbalfhfcdaaDoor.Abs
set_option linter.unusedVariables false
set_option linter.unusedSimpArgs false
set_option maxRecDepth 100000
namespace Go.Proofs.YtibmgbalfhfcdaaDoor.Abs
open Classical
theorem strict_ext : ∀ {L L' : List Int}, L.Pairwise (· < ·) → L'.Pairwise (· < ·) → (∀ x, x ∈ L ↔ x ∈ L') → L = L'
  | [], [], _, _, _ => rfl
  | [], b :: t, _, _, h => absurd ((h b).2 (List.mem_cons_self ..)) (by simp)
  | a :: t, [], _, _, h => absurd ((h a).1 (List.mem_cons_self ..)) (by simp)
  | a :: t, b :: t', h1, h2, h => by
    obtain ⟨h3, h4⟩ := List.pairwise_cons.1 h1
    obtain ⟨h5, h6⟩ := List.pairwise_cons.1 h2
    have e : a = b := by
      rcases List.mem_cons.1 ((h a).1 (List.mem_cons_self ..)) with e | ha
      · exact e
      · rcases List.mem_cons.1 ((h b).2 (List.mem_cons_self ..)) with e | hb
        · exact e.symm
        · have := h3 b hb
          have := h5 a ha
          omega
    subst e
    congr 1
    refine strict_ext h4 h6 fun x => ⟨fun hx => ?_, fun hx => ?_⟩
    · rcases List.mem_cons.1 ((h x).1 (List.mem_cons_of_mem _ hx)) with e | h'
      · have := h3 x hx; omega
      · exact h'
    · rcases List.mem_cons.1 ((h x).2 (List.mem_cons_of_mem _ hx)) with e | h'
      · have := h5 x hx; omega
      · exact h'
theorem rising_pw {L : List Int} {B : Int} (h : Rising L B) : L.Pairwise (· < ·) := by
  have hg : ∀ i (hi : i < L.length), L.getD i 0 = L[i] := fun i hi => by rw [List.getD_eq_getElem?_getD, List.getElem?_eq_getElem hi]; rfl
  rw [List.pairwise_iff_getElem]
  intro i j hi hj hij
  induction j with
  | zero => omega
  | succ j ih =>
    have h1 := (h (j + 1) hj).2 (by omega)
    rw [show j + 1 - 1 = j by omega, hg j (by omega), hg (j + 1) hj] at h1
    rcases Nat.lt_succ_iff_lt_or_eq.1 hij with h2 | h2
    · have := ih (by omega) h2; omega
    · subst h2; exact h1
theorem ups_pw (n : Nat) (p : Nat → Bool) : (ups n p).Pairwise (· < ·) := by
  unfold ups
  rw [List.pairwise_map]
  refine (List.Pairwise.filter p List.pairwise_lt_range).imp fun h => ?_
  omega
theorem ups_rising {n : Nat} {p : Nat → Bool} {B : Int} (hB : (n : Int) ≤ B) : Rising (ups n p) B := by
  intro i hi
  have hg : ∀ i (hi : i < (ups n p).length), (ups n p).getD i 0 = (ups n p)[i] := fun i hi => by rw [List.getD_eq_getElem?_getD, List.getElem?_eq_getElem hi]; rfl
  constructor
  · obtain ⟨j, hj, _, e⟩ := ups_mem.1 (getD_mem hi (d := 0))
    rw [e]; omega
  · intro h0
    rw [hg i hi, hg (i - 1) (by omega)]
    exact List.pairwise_iff_getElem.1 (ups_pw n p) (i - 1) i (by omega) hi (by omega)
theorem causeOf_ok {s : E23} (hs : StrOk s) (b : Nat) : CauseOk s (causeOf s b) := by
  have := hs.depths
  exact ⟨ups_rising (by omega), ups_rising (by omega)⟩
theorem low_bits {s : E23} {c : E26} (hc : CauseOk s c) : low (bitsOf s c) (nC s) := by
  intro j hj
  unfold nC at hj
  rw [bitsOf_bit hc]
  have h1 : decide ((j : Int) ∈ c.1) = false := decide_eq_false fun h => by have := rising_mem hc.1 h; omega
  have h2 : decide ((s.2.2.2.2.1).length ≤ j ∧ ((j - (s.2.2.2.2.1).length : Nat) : Int) ∈ c.2.1) = false := decide_eq_false fun h => by have := rising_mem hc.2 h.2; omega
  rw [h1, h2]; rfl
theorem bits_cause {s : E23} (hs : StrOk s) {b : Nat} (hb : low b (nC s)) : bitsOf s (causeOf s b) = b := by
  have hdep := hs.depths
  apply Nat.eq_of_testBit_eq
  intro j
  rw [bitsOf_bit (causeOf_ok hs b)]
  unfold causeOf
  by_cases h1 : j < (s.2.2.2.2.1).length
  · have e2 : decide ((s.2.2.2.2.1).length ≤ j ∧ ((j - (s.2.2.2.2.1).length : Nat) : Int) ∈ (ups (s.2.2.2.1).toNat fun i => b.testBit ((s.2.2.2.2.1).length + i))) = false := decide_eq_false fun h => by omega
    simp only [e2, Bool.or_false]
    cases hj : b.testBit j with
    | true => exact decide_eq_true (ups_mem.2 ⟨j, h1, hj, rfl⟩)
    | false =>
      refine decide_eq_false fun h => ?_
      obtain ⟨i, _, hi, e⟩ := ups_mem.1 h
      have : j = i := by omega
      subst this
      rw [hj] at hi; cases hi
  · have e1 : decide ((j : Int) ∈ ups (s.2.2.2.2.1).length b.testBit) = false := decide_eq_false fun h => by
      obtain ⟨i, hi, _, e⟩ := ups_mem.1 h; omega
    simp only [e1, Bool.false_or]
    cases hj : b.testBit j with
    | true =>
      refine decide_eq_true ⟨by omega, ups_mem.2 ⟨j - (s.2.2.2.2.1).length, ?_, ?_, rfl⟩⟩
      · apply Classical.byContradiction
        intro hn
        have := hb j (by unfold nC; omega)
        rw [hj] at this; cases this
      · rw [show (s.2.2.2.2.1).length + (j - (s.2.2.2.2.1).length) = j by omega]; exact hj
    | false =>
      refine decide_eq_false fun h => ?_
      obtain ⟨i, _, hi, e⟩ := ups_mem.1 h.2
      have : (s.2.2.2.2.1).length + i = j := by omega
      rw [this, hj] at hi; cases hi
theorem cause_bits {s : E23} (hs : StrOk s) {c : E26} (hc : CauseOk s c) : causeOf s (bitsOf s c) = c := by
  have hdep := hs.depths
  obtain ⟨S, D, u⟩ := c
  have e1 : ups (s.2.2.2.2.1).length (bitsOf s (S, (D, u))).testBit = S := by
    refine strict_ext (ups_pw _ _) (rising_pw hc.1) fun x => ?_
    rw [ups_mem]
    constructor
    · rintro ⟨i, hi, hb, rfl⟩
      rw [bit_s hc hi] at hb
      exact of_decide_eq_true hb
    · intro hx
      have := rising_mem hc.1 hx
      refine ⟨x.toNat, by omega, ?_, by omega⟩
      rw [bit_s hc (by omega)]
      refine decide_eq_true ?_
      have e : ((x.toNat : Nat) : Int) = x := by omega
      rw [e]; exact hx
  have e2 : ups (s.2.2.2.1).toNat (fun i => (bitsOf s (S, (D, u))).testBit ((s.2.2.2.2.1).length + i)) = D := by
    refine strict_ext (ups_pw _ _) (rising_pw hc.2) fun x => ?_
    rw [ups_mem]
    constructor
    · rintro ⟨i, hi, hb, rfl⟩
      rw [bit_d hc] at hb
      exact of_decide_eq_true hb
    · intro hx
      have := rising_mem hc.2 hx
      refine ⟨x.toNat, by omega, ?_, by omega⟩
      rw [bit_d hc]
      refine decide_eq_true ?_
      have e : ((x.toNat : Nat) : Int) = x := by omega
      rw [e]; exact hx
  unfold causeOf
  rw [e1, e2]
theorem ups_cnt (p : Nat → Bool) (b : Nat) (k : Nat) (h : ∀ i, p i = b.testBit (k + i)) : ∀ n, (ups n p).length + cnt b k = cnt b (k + n)
  | 0 => by simp [ups]
  | n + 1 => by
    rw [ups_succ, List.length_append]
    have := ups_cnt p b k h n
    rw [show k + (n + 1) = (k + n) + 1 by omega]
    simp only [cnt, h n]
    cases b.testBit (k + n) <;> simp <;> omega
theorem cause_cnt (s : E23) (b : Nat) : ((causeOf s b).1).length + ((causeOf s b).2.1).length = cnt b (nC s) := by
  unfold causeOf nC
  have h1 := ups_cnt b.testBit b 0 (fun i => by simp) (s.2.2.2.2.1).length
  have h2 := ups_cnt (fun i => b.testBit ((s.2.2.2.2.1).length + i)) b (s.2.2.2.2.1).length (fun i => rfl) (s.2.2.2.1).toNat
  simp only [cnt, Nat.zero_add, Nat.add_zero] at h1
  simp only
  omega
theorem cnt_mono (b i : Nat) : ∀ k, i ≤ k → cnt b i ≤ cnt b k
  | 0, h => by have : i = 0 := by omega
               subst this; exact Nat.le_refl _
  | k + 1, h => by
    rcases Nat.lt_or_eq_of_le h with h | h
    · have := cnt_mono b i k (by omega)
      simp only [cnt]; omega
    · subst h; exact Nat.le_refl _
theorem cnt_same {b c : Nat} : ∀ k, (∀ j, j < k → b.testBit j = c.testBit j) → cnt b k = cnt c k
  | 0, _ => rfl
  | k + 1, h => by simp only [cnt, cnt_same k (fun j hj => h j (by omega)), h k (by omega)]
theorem low_of_cnt {b i n : Nat} (hb : low b n) (hin : i ≤ n) (h : cnt b n = cnt b i) : low b i := by
  intro j hj
  by_cases hjn : n ≤ j
  · exact hb j hjn
  · cases ht : b.testBit j with
    | false => rfl
    | true =>
      have h1 := cnt_mono b i j hj
      have h2 := cnt_mono b (j + 1) n (by omega)
      simp only [cnt, ht, cond_true] at h2
      omega
theorem eq_low {b c i : Nat} (hb : low b i) (hc : low c i) (h : ∀ j, j < i → b.testBit j = c.testBit j) : b = c := by
  apply Nat.eq_of_testBit_eq
  intro j
  by_cases hj : j < i
  · exact h j hj
  · rw [hb j (by omega), hc j (by omega)]
theorem comb_mem (n : Nat) : ∀ rem left now, rem ≤ n → low now (n - rem) → ∀ b, low b n → (∀ j, j < n - rem → b.testBit j = now.testBit j) → cnt b n = cnt now n + left → b ∈ comb n rem left now
  | 0, left, now, hr, h, b, hb, hp, hc => by
    have e := eq_low hb h hp
    subst e
    simp only [comb, if_pos (show left = 0 by omega), List.mem_singleton]
  | rem + 1, 0, now, hr, h, b, hb, hp, hc => by
    have h1 := cnt_low h n (by omega)
    have h2 := cnt_same _ hp
    have h3 : low b (n - (rem + 1)) := low_of_cnt hb (by omega) (by omega)
    have e := eq_low h3 h hp
    subst e
    simp only [comb, List.mem_singleton]
  | rem + 1, left + 1, now, hr, h, b, hb, hp, hc => by
    have e : n - (rem + 1) + 1 = n - rem := by omega
    simp only [comb, List.mem_append]
    have h0 := h _ (Nat.le_refl _)
    cases ht : b.testBit (n - (rem + 1)) with
    | true =>
      left
      have hl := low_or h
      rw [e] at hl
      refine comb_mem n rem left _ (by omega) hl b hb (fun j hj => ?_) ?_
      · rw [Nat.testBit_or, Nat.testBit_two_pow]
        by_cases hj2 : j = n - (rem + 1)
        · subst hj2; rw [ht]; simp
        · rw [hp j (by omega)]; simp; omega
      · rw [cnt_or h0, if_pos (by omega)]; omega
    | false =>
      right
      refine comb_mem n rem (left + 1) now (by omega) (low_mono h (by omega)) b hb (fun j hj => ?_) hc
      by_cases hj2 : j = n - (rem + 1)
      · subst hj2; rw [ht, h0]
      · exact hp j (by omega)
theorem cnt_zero (k : Nat) : cnt 0 k = 0 := by
  induction k with
  | zero => rfl
  | succ k ih => simp [cnt, ih]
theorem comb_all {n b : Nat} (hb : low b n) : b ∈ comb n n (cnt b n) 0 :=
  comb_mem n n _ 0 (Nat.le_refl _) (low_zero _) b hb (fun j hj => by omega) (by rw [cnt_zero]; omega)
theorem least_mem {s : E23} {l : List E72} (hs : StrOk s) {out : List E26} {m : Nat} (ho : out = (exs s l (comb (nC s) (nC s) m 0)).map (causeOf s)) {c : E26} (hc : c ∈ out) : CauseOk s c ∧ (c.1).length + (c.2.1).length = m ∧ Ex s l (bitsOf s c) := by
  have hn := nC_le hs
  rw [ho] at hc
  obtain ⟨b, hb, rfl⟩ := List.mem_map.1 hc
  obtain ⟨h1, h2⟩ := exs_mem.1 hb
  obtain ⟨h3, h4, _⟩ := comb_in (by omega) h1
  refine ⟨causeOf_ok hs b, by rw [cause_cnt]; exact h4, ?_⟩
  rw [bits_cause hs h3]; exact h2
theorem least_has {s : E23} {l : List E72} (hs : StrOk s) {c : E26} (hc : CauseOk s c) (hE : Ex s l (bitsOf s c)) : bitsOf s c ∈ exs s l (comb (nC s) (nC s) ((c.1).length + (c.2.1).length) 0) := by
  have h1 := cause_cnt s (bitsOf s c)
  rw [cause_bits hs hc] at h1
  rw [h1, exs_mem]
  exact ⟨comb_all (low_bits hc), hE⟩
theorem cause_len {s : E23} {c : E26} (hs : StrOk s) (hc : CauseOk s c) : (c.1).length + (c.2.1).length ≤ nC s := by
  have h1 := cause_cnt s (bitsOf s c)
  rw [cause_bits hs hc] at h1
  have := cnt_le (bitsOf s c) (nC s)
  omega
end Go.Proofs.YtibmgbalfhfcdaaDoor.Abs
set_option linter.unusedVariables false
set_option linter.unusedSimpArgs false
set_option maxRecDepth 100000
namespace Go.Proofs.YtibmgbalfhfcdaaDoor.Abs
open Classical
abbrev UW : Type := Nat × (Int × (Int × (E56 × Bool)))
def pkW (s : E23) (l : List E72) (M : List (E56 × E94)) (u : UW) : E123 × ((Nat × UT79) × ((List (E56 × E94)) × (Int × (Int × ((Int × (Int × Unit)) × (Bool × Unit)))))) := (XX s l, ((u.1, UC79), (M, (u.2.1, (u.2.2.1, (u.2.2.2.1, (u.2.2.2.2, ())))))))
def Val (s : E23) (l : List E72) (b d : Nat) (w x : Int) : Prop := ∃ m T, DC s l b d m T ∧ x = T + m * w
def Lim (P : Int → Prop) (q : E56) (found : Bool) : Prop := (found = true → P q.1 ∧ P q.2.1 ∧ ∀ x, P x → q.1 ≤ x ∧ x ≤ q.2.1) ∧ (found = false → ∀ x, ¬ P x)
theorem Lim.iff {P Q : Int → Prop} {q : E56} {f : Bool} (h : Lim P q f) (e : ∀ x, P x ↔ Q x) : Lim Q q f := ⟨fun hf => ⟨(e _).1 (h.1 hf).1, (e _).1 (h.1 hf).2.1, fun x hx => (h.1 hf).2.2 x ((e x).2 hx)⟩, fun hf x hx => h.2 hf x ((e x).2 hx)⟩
def VW (s : E23) (l : List E72) (b : Nat) (u : UW) (r : Bool) (u' : UW) : Prop := r = true ∧ u'.1 = 0 ∧ u'.2.1 = u.2.1 ∧ u'.2.2.1 = u.2.2.1 ∧ ∀ P, Lim P u.2.2.2.1 u.2.2.2.2 → Lim (fun x => P x ∨ Val s l b u.2.1.toNat u.2.2.1 x) u'.2.2.2.1 u'.2.2.2.2
def PreW (k : Nat) (u : UW) : Prop := u.1 = 0 ∧ (∃ d : Nat, u.2.1 = (d : Int) ∧ d < 4) ∧ 0 ≤ u.2.2.1 ∧ u.2.2.1 ≤ 200
def ValK (s : E23) (l : List E72) (b d : Nat) (w : Int) (i : Nat) (x : Int) : Prop := ∃ j, j < i ∧ ∃ T, DC s l b d ((j : Int) - 20) T ∧ x = T + ((j : Int) - 20) * w
theorem val_k {s : E23} {l : List E72} (hs : StrOk s) {b d : Nat} {w x : Int} : Val s l b d w x ↔ ValK s l b d w 41 x := by
  constructor
  · rintro ⟨m, T, h, rfl⟩
    obtain ⟨k, hk, rfl⟩ := rate_k (h.bd hs).1
    exact ⟨k, hk, T, h, rfl⟩
  · rintro ⟨j, hj, T, h, rfl⟩
    exact ⟨_, T, h, rfl⟩
theorem where_l0 {s : E23} {l : List E72} (hs : StrOk s) {b d : Nat} {v : E94} (hv : AnsIs s l b d v) {w : Int} (hw : 0 ≤ w ∧ w ≤ 200) (M : List (E56 × E94)) (out : E56) (found : Bool) :
    ∃ out' found' i, G28_l0_run ((v.1, (0, ())), ((1, UC79), ((d : Int), (w, (out, (found, (XX s l, (M, ())))))))) = some (0, ((v.1, (i, ())), ((1, UC79), ((d : Int), (w, (out', (found', (XX s l, (M, ()))))))))) ∧ ∀ P, Lim P out found → Lim (fun x => P x ∨ Val s l b d w x) out' found' := by
  unfold G28_l0_run
  obtain ⟨st, e, out', found', i, rfl, h⟩ := iter_inv (step := G28_l0_step) (k := 0) (n := 41)
    (fun i st => ∃ out' found', st = ((v.1, ((i : Int), ())), ((1, UC79), ((d : Int), (w, (out', (found', (XX s l, (M, ())))))))) ∧ ∀ P, Lim P out found → Lim (fun x => P x ∨ ValK s l b d w i x) out' found')
    (fun st => ∃ (out' : E56) (found' : Bool) (i : Int), st = ((v.1, (i, ())), ((1, UC79), ((d : Int), (w, (out', (found', (XX s l, (M, ())))))))) ∧ ∀ P, Lim P out found → Lim (fun x => P x ∨ ValK s l b d w 41 x) out' found')
    (by
      rintro i st ⟨out1, found1, rfl, hL⟩ hi
      have e0 : decide ((i : Int) < 41) = true := decide_eq_true (by omega)
      unfold G28_l0_step
      simp only [e0, ge0, Bool.and_self, cond_true, getD_toNat, wr1 (i := i) (by omega)]
      have hsp := hv.span i hi
      have step : ∀ x, ValK s l b d w (i + 1) x ↔ ValK s l b d w i x ∨ ∃ T, DC s l b d ((i : Int) - 20) T ∧ x = T + ((i : Int) - 20) * w := fun x => by
        constructor
        · rintro ⟨j, hj, T, h, rfl⟩
          rcases Nat.lt_succ_iff_lt_or_eq.1 hj with h' | h'
          · exact .inl ⟨j, h', T, h, rfl⟩
          · subst h'; exact .inr ⟨T, h, rfl⟩
        · rintro (⟨j, hj, T, h, rfl⟩ | ⟨T, h, rfl⟩)
          · exact ⟨j, by omega, T, h, rfl⟩
          · exact ⟨i, by omega, T, h, rfl⟩
      generalize v.1.getD i (0, (0, ())) = q at hsp ⊢
      rcases hsp with ⟨a1, a2, a3⟩ | ⟨a1, rfl⟩
      · have b1 := (a1.bd hs).2
        have b2 := (a2.bd hs).2
        have hm := mulb (m := (i : Int) - 20) (w := w) (by omega) (by omega) hw.1 hw.2
        have hneg : decide (q.1 < 0) = false := decide_eq_false (by omega)
        have new : ∀ x, (∃ T, DC s l b d ((i : Int) - 20) T ∧ x = T + ((i : Int) - 20) * w) → q.1 + ((i : Int) - 20) * w ≤ x ∧ x ≤ q.2.1 + ((i : Int) - 20) * w := fun x ⟨T, hT, hx⟩ => by
          have := a3 T hT
          omega
        have n1 : ∃ T, DC s l b d ((i : Int) - 20) T ∧ q.1 + ((i : Int) - 20) * w = T + ((i : Int) - 20) * w := ⟨_, a1, rfl⟩
        have n2 : ∃ T, DC s l b d ((i : Int) - 20) T ∧ q.2.1 + ((i : Int) - 20) * w = T + ((i : Int) - 20) * w := ⟨_, a2, rfl⟩
        simp only [hneg, cond_false]
        rw [wr (n := (i : Int) - 20) (by omega) (by omega), wr (n := ((i : Int) - 20) * w) (by omega) (by omega), wr (n := q.1 + ((i : Int) - 20) * w) (by omega) (by omega), wr (n := q.2.1 + ((i : Int) - 20) * w) (by omega) (by omega)]
        generalize q.1 + ((i : Int) - 20) * w = y1 at new n1 ⊢
        generalize q.2.1 + ((i : Int) - 20) * w = y2 at new n2 ⊢
        cases found1 with
        | false =>
          simp only [Bool.not_false, cond_true]
          have f1 : (if y1 < y1 then y1 else y1) = y1 := by split <;> rfl
          have f2 : (if y2 > y2 then y2 else y2) = y2 := by split <;> rfl
          rw [f1, f2]
          refine ⟨_, rfl, (y1, (y2, ())), true, rfl, fun P hP => ?_⟩
          have hno := (hL P hP).2 rfl
          refine ⟨fun _ => ⟨.inr ((step _).2 (.inr n1)), .inr ((step _).2 (.inr n2)), fun x hx => ?_⟩, fun h => by cases h⟩
          rcases hx with hx | hx
          · exact absurd (.inl hx) (hno x)
          · rcases (step x).1 hx with hx | hx
            · exact absurd (.inr hx) (hno x)
            · exact new x hx
        | true =>
          simp only [Bool.not_true, cond_false]
          refine ⟨_, rfl, (if y1 < out1.1 then y1 else out1.1, (if y2 > out1.2.1 then y2 else out1.2.1, ())), true, rfl, fun P hP => ?_⟩
          obtain ⟨c1, c2, c3⟩ := (hL P hP).1 rfl
          have up : ∀ x, (P x ∨ ValK s l b d w i x) → (P x ∨ ValK s l b d w (i + 1) x) := fun x hx => hx.imp id fun h => (step x).2 (.inl h)
          refine ⟨fun _ => ⟨?_, ?_, fun x hx => ?_⟩, fun h => by cases h⟩
          · simp only
            split
            · exact .inr ((step _).2 (.inr n1))
            · exact up _ c1
          · simp only
            split
            · exact .inr ((step _).2 (.inr n2))
            · exact up _ c2
          · have hx' : (P x ∨ ValK s l b d w i x) ∨ ∃ T, DC s l b d ((i : Int) - 20) T ∧ x = T + ((i : Int) - 20) * w := by
              rcases hx with hx | hx
              · exact .inl (.inl hx)
              · rcases (step x).1 hx with hx | hx
                · exact .inl (.inr hx)
                · exact .inr hx
            simp only
            rcases hx' with hx | hx
            · have := c3 x hx
              constructor <;> split <;> omega
            · have := new x hx
              constructor <;> split <;> omega
      · have hneg : decide ((-1 : Int) < 0) = true := rfl
        simp only [hneg, cond_true]
        refine ⟨_, rfl, out1, found1, rfl, fun P hP => (hL P hP).iff fun x => or_congr_right ?_⟩
        rw [step x]
        exact ⟨.inl, fun h => h.elim id fun ⟨T, hT, _⟩ => absurd hT (a1 T)⟩)
    (by
      rintro st ⟨out1, found1, rfl, hL⟩
      have e0 : decide (((41 : Nat) : Int) < 41) = false := by decide
      unfold G28_l0_step
      simp only [e0, cond_false]
      exact ⟨_, rfl, out1, found1, _, rfl, hL⟩)
    41 0 (G28_l0_fuel ((v.1, (0, ())), ((1, UC79), ((d : Int), (w, (out, (found, (XX s l, (M, ()))))))))) ((v.1, (0, ())), ((1, UC79), ((d : Int), (w, (out, (found, (XX s l, (M, ())))))))) (by omega) (by unfold G28_l0_fuel; simp) ⟨out, found, rfl, fun P hP => hP.iff fun x => ⟨.inl, fun h => h.elim id fun ⟨j, hj, _⟩ => absurd hj (by omega)⟩⟩
  exact ⟨out', found', i, e, fun P hP => (h P hP).iff fun x => or_congr_right (val_k hs).symm⟩
theorem r0W {s : E23} {l : List E72} (hs : StrOk s) (hl : RdsOk s l) (hn : l.length ≤ 1000) {b : Nat} (hb : b < 2 ^ 62) {M : List (E56 × E94)} (hM : MemoOk s l M) (u : UW) (k : Nat) (hu : PreW k u) :
    ∃ u' M', G28 b (u.1, UC79) u.2.1 u.2.2.1 u.2.2.2.1 u.2.2.2.2 (XX s l) M = some (true, ((u'.1, UC79), (u'.2.1, (u'.2.2.1, (u'.2.2.2.1, (u'.2.2.2.2, (XX s l, (M', ())))))))) ∧ VW s l b u true u' ∧ MemoOk s l M' := by
  obtain ⟨k0, d0, w, out, found⟩ := u
  obtain ⟨h1, ⟨d, h2, h3⟩, h4, h5⟩ := hu
  simp only at h1 h2 h4 h5
  subst h1; subst h2
  obtain ⟨v, M', e1, e2, e3⟩ := depth_eq hs hl hn hb h3 hM
  obtain ⟨out', found', i, e4, e5⟩ := where_l0 hs e2 (w := w) ⟨h4, h5⟩ M' out found
  unfold G28
  simp only [natK]
  rw [show G54 (d : Int) (b : Int) ((XX s l).1, ((XX s l).2.1, ((), (XX s l).2.2.2))) M = _ from e1]
  simp only [Option.bind_some]
  rw [show G28_l0_run ((v.1, (0, ())), ((1, UC79), ((d : Int), (w, (out, (found, (((XX s l).1, ((XX s l).2.1, ((), (XX s l).2.2.2))), (M', ())))))))) = _ from e4]
  refine ⟨(0, ((d : Int), (w, (out', found')))), M', rfl, ⟨rfl, rfl, rfl, rfl, ?_⟩, e3⟩
  simp only [Int.toNat_natCast]
  exact e5
theorem srchW {s : E23} {l : List E72} (hs : StrOk s) (hl : RdsOk s l) (hn : l.length ≤ 1000) : Srch (nC s) (MemoOk s l) PreW (Ex s l) (VW s l) (pkW s l) G94_v2_fix G94_v2_l0_step where
  hn := by have := nC_le hs; omega
  base := by
    rintro f from_ now M u k hlow hM hP
    have hn10 := nC_le hs
    obtain ⟨h60, h62⟩ := low_60 hlow (by omega)
    obtain ⟨r, M', e, hr, hM'⟩ := explains_eq hs hl hn h62 hM
    show ∃ r u' M', G94_v2_b (G94_v2_fix f) 0 from_ now (XX s l) (u.1, UC79) M u.2.1 u.2.2.1 u.2.2.2.1 u.2.2.2.2 = some (r, pkW s l M' u') ∧ _
    unfold G94_v2_b
    have e0 : ((0 : Int) == 0) = true := rfl
    simp only [e0, cond_true]
    rw [show G52 (now : Int) ((XX s l).1, ((XX s l).2.1, ((), (XX s l).2.2.2))) M = _ from e]
    simp only [Option.bind_some]
    cases r with
    | false => exact ⟨true, u, M', rfl, hM', .inl ⟨(fun h => by have := hr.2 h; cases this), rfl, rfl⟩⟩
    | true =>
      simp only [Bool.not_true, cond_false]
      obtain ⟨u', M2, e2, hv, hM2⟩ := r0W hs hl hn h62 hM' u (k + 1) hP
      rw [show G28 (now : Int) (u.1, UC79) u.2.1 u.2.2.1 u.2.2.2.1 u.2.2.2.2 ((XX s l).1, ((XX s l).2.1, ((), (XX s l).2.2.2))) M' = _ from e2]
      exact ⟨true, u', M2, rfl, hM2, .inr ⟨hr.1 rfl, hv⟩⟩
  pre := by
    rintro b u u' k ⟨_, h1, h2, h3, _⟩ ⟨hk0, hd, hw⟩
    exact ⟨h1, by rw [h2]; exact hd, by rw [h3]; exact hw⟩
  mono := fun u k h => h
  step := by
    rintro f left from_ now M u hleft
    show G94_v2_b (G94_v2_fix f) left from_ now (XX s l) (u.1, UC79) M u.2.1 u.2.2.1 u.2.2.2.1 u.2.2.2.2 = _
    unfold G94_v2_b
    rw [beq_eq_false_iff_ne.2 hleft, cond_false]
    rfl
  stp_ := by
    rintro rc ⟨left, now, ret, i, _⟩ M u
    unfold G94_v2_l0_step srchStp pkW
    rw [show G64 ((XX s l).1, ((XX s l).2.1, ((), (XX s l).2.2.2))) = _ from many_eq hs l]
    rfl
def p93W (s : E23) (l : List E72) (most : Int) (M : List (E56 × E94)) (u : UW) : (Nat × UT79) × (Int × (Int × (Int × ((Int × (Int × Unit)) × (Bool × (E123 × ((List (E56 × E94)) × Unit))))))) := ((u.1, UC79), (most, (u.2.1, (u.2.2.1, (u.2.2.2.1, (u.2.2.2.2, (XX s l, (M, ()))))))))
theorem all93W {s : E23} {l : List E72} (hs : StrOk s) (hl : RdsOk s l) (hn : l.length ≤ 1000) {M : List (E56 × E94)} (hM : MemoOk s l M) (most : Nat) (hmost : most ≤ nC s) (u : UW) (hu : ∀ k, PreW k u) :
    ∃ r u' M', G93_v4 (u.1, UC79) (most : Int) u.2.1 u.2.2.1 u.2.2.2.1 u.2.2.2.2 (XX s l) M = some ((), p93W s l (most : Int) M' u') ∧ Feed (Ex s l) (VW s l) (allC (nC s) most) u r u' := by
  have hn10 := nC_le hs
  obtain ⟨k, x, r, u', M', e, hM', hF⟩ := (srchW hs hl hn).all (p93W s l (most : Int)) G93_v4_l0_step most hmost
    (by
      rintro m1 many M u r u1 M' hlt hm1 e
      unfold G93_v4_l0_step p93W
      simp only [lt_int hlt, cond_true]
      rw [show G94_v2 (many : Int) 0 0 ((XX s l).1, ((XX s l).2.1, ((), (XX s l).2.2.2))) (u.1, UC79) M u.2.1 u.2.2.1 u.2.2.2.1 u.2.2.2.2 = _ from e]
      simp only [Option.bind_some, wr1 (i := many) (by omega)]
      cases r <;> rfl)
    (by
      rintro m1 M u
      unfold G93_v4_l0_step p93W
      simp only [nlt_int, cond_false]) M u hM (hu _) (most + 2) (by omega)
  unfold G93_v4
  rw [wr1 (i := most) (by omega)]
  have hfu : G93_v4_l0_fuel ((((most + 1 : Nat) : Int), (0, ())), p93W s l (most : Int) M u) = most + 2 := by unfold G93_v4_l0_fuel; simp only; omega
  rw [show G93_v4_l0_run ((((most + 1 : Nat) : Int), (0, ())), ((u.1, UC79), ((most : Int), (u.2.1, (u.2.2.1, (u.2.2.2.1, (u.2.2.2.2, (((XX s l).1, ((XX s l).2.1, ((), (XX s l).2.2.2))), (M, ()))))))))) = iter G93_v4_l0_step (G93_v4_l0_fuel ((((most + 1 : Nat) : Int), (0, ())), p93W s l (most : Int) M u)) ((((most + 1 : Nat) : Int), (0, ())), p93W s l (most : Int) M u) from rfl, hfu, e]
  refine ⟨r, u', M', ?_, hF⟩
  cases k <;> rfl
theorem feedW {s : E23} {l : List E72} {d : Int} {w : Int} : ∀ (xs : List Nat) (u : UW) (r : Bool) (u' : UW) (P : Int → Prop), u.1 = 0 → u.2.1 = d → u.2.2.1 = w → Feed (Ex s l) (VW s l) xs u r u' → Lim P u.2.2.2.1 u.2.2.2.2 → u'.1 = 0 ∧ Lim (fun x => P x ∨ ∃ b ∈ xs, Ex s l b ∧ Val s l b d.toNat w x) u'.2.2.2.1 u'.2.2.2.2
  | [], u, r, u', P, h0, hd, hw, h, hP => by
    cases h
    exact ⟨h0, hP.iff fun x => by simp⟩
  | y :: xs, u, r, u', P, h0, hd, hw, h, hP => by
    cases h with
    | skip a h =>
      obtain ⟨h1, h2⟩ := feedW xs u r u' P h0 hd hw h hP
      refine ⟨h1, h2.iff fun x => or_congr_right ⟨fun ⟨b, hb, hh⟩ => ⟨b, List.mem_cons_of_mem _ hb, hh⟩, fun ⟨b, hb, hE, hh⟩ => ?_⟩⟩
      rcases List.mem_cons.1 hb with rfl | hb
      · exact absurd hE a
      · exact ⟨b, hb, hE, hh⟩
    | go a b h =>
      obtain ⟨_, b1, b2, b3, b4⟩ := b
      have hP1 := b4 P hP
      obtain ⟨h1, h2⟩ := feedW xs _ r u' _ b1 (b2.trans hd) (b3.trans hw) h hP1
      rw [hd, hw] at h2
      refine ⟨h1, h2.iff fun x => ?_⟩
      rw [or_assoc]
      refine or_congr_right ⟨fun hx => ?_, fun ⟨b, hb, hE, hh⟩ => ?_⟩
      · rcases hx with hx | ⟨b, hb, hh⟩
        · exact ⟨y, List.mem_cons_self .., a, hx⟩
        · exact ⟨b, List.mem_cons_of_mem _ hb, hh⟩
      · rcases List.mem_cons.1 hb with rfl | hb
        · exact .inl hh
        · exact .inr ⟨b, hb, hE, hh⟩
    | stop a b => exact absurd b.1 (by decide)
def WhOk (s : E23) (most d w : Int) : Prop := (0 ≤ most ∧ most ≤ ((nC s : Nat) : Int)) ∧ (0 ≤ d ∧ d < s.2.2.2.1) ∧ (0 ≤ w ∧ w ≤ 200)
theorem fineW {s : E23} (hs : StrOk s) (l : List E72) (most d w : Int) : ∃ b, G72 (XX s l) most d s w [] = some (b, (XX s l, (most, (d, (s, (w, ([], ()))))))) ∧ (b = true ↔ WhOk s most d w) := by
  have hdep := hs.depths
  unfold G72
  rw [show G64 ((XX s l).1, ((XX s l).2.1, ((), (XX s l).2.2.2))) = _ from many_eq hs l]
  rw [wr (n := s.2.2.2.1 - 1) (by omega) (by omega)]
  simp only [Option.bind_some, in_tells]
  unfold WhOk
  by_cases h1 : 0 ≤ most ∧ most ≤ ((nC s : Nat) : Int)
  · rw [decide_eq_true h1, cond_true]
    by_cases h2 : 0 ≤ d ∧ d ≤ s.2.2.2.1 - 1
    · rw [decide_eq_true h2, cond_true]
      exact ⟨_, rfl, by rw [decide_eq_true_iff]; exact ⟨fun h => ⟨h1, ⟨h2.1, by omega⟩, h⟩, fun h => h.2.2⟩⟩
    · rw [decide_eq_false h2, cond_false]
      exact ⟨false, rfl, by simp only [Bool.false_eq_true, false_iff]; intro h; exact h2 ⟨h.2.1.1, by have := h.2.1.2; omega⟩⟩
  · rw [decide_eq_false h1, cond_false]
    exact ⟨false, rfl, by simp only [Bool.false_eq_true, false_iff]; intro h; exact h1 h.1⟩
theorem given4_eq (s : E23) (l : List E72) (most d w : Int) (h0 : l.length < 2 ^ 62) :
    (24 < l.length ∧ G49_v4 s l most d s w = some (.inl (((), (3, ())), (most, (d, (s, (w, ()))))))) ∨ (l.length ≤ 24 ∧ ¬ (SlOk s l ∧ WhOk s most d w) ∧ G49_v4 s l most d s w = some (.inl (((), (2, ())), (most, (d, (s, (w, ()))))))) ∨ (SlOk s l ∧ WhOk s most d w ∧ G49_v4 s l most d s w = some (.inr (((), (0, ())), (most, (d, (s, (w, (s, ([], (XX s l, ())))))))))) := by
  unfold G49_v4
  by_cases hl : l.length ≤ 24
  case neg =>
    rw [decide_eq_true (p := (l.length : Int) > 24) (by omega)]
    exact .inl ⟨by omega, rfl⟩
  right
  rw [decide_eq_false (p := (l.length : Int) > 24) (by omega), cond_false]
  by_cases hs : StrOk s
  case neg =>
    rw [(valid_tells s).nval hs]
    exact .inl ⟨hl, fun h => hs h.1.2.1, rfl⟩
  rw [(valid_tells s).val hs]
  simp only [Option.bind_some, Bool.not_true, cond_false]
  rw [cf81 l s hs h0]
  simp only [Option.bind_some]
  cases ha : l.any (fun r => !decide (RdOk s r)) with
  | true =>
    refine .inl ⟨hl, fun h => ?_, rfl⟩
    rw [List.any_eq_true] at ha
    obtain ⟨x, hx, hx'⟩ := ha
    rw [decide_eq_true (h.1.2.2 x hx)] at hx'
    cases hx'
  | false =>
    have hr : RdsOk s l := by
      intro r hr
      have := List.any_eq_false.1 ha r hr
      simpa using this
    simp only [cond_false]
    obtain ⟨b, e, hb⟩ := fineW hs l most d w
    rw [e]
    cases b with
    | true => exact .inr ⟨⟨hl, hs, hr⟩, hb.1 rfl, rfl⟩
    | false => exact .inl ⟨hl, fun h => (by have := hb.2 h.2; cases this), rfl⟩
def ValA (s : E23) (l : List E72) (most d w x : Int) : Prop := ∃ b ∈ allC (nC s) most.toNat, Ex s l b ∧ Val s l b d.toNat w x
theorem swhere_eq (s : E23) (l : List E72) (most d w : Int) (h0 : l.length < 2 ^ 62) :
    (24 < l.length ∧ g28_sense_Where s l most d w = some ((0, (0, ())), (3, ()))) ∨ (l.length ≤ 24 ∧ ¬ (SlOk s l ∧ WhOk s most d w) ∧ g28_sense_Where s l most d w = some ((0, (0, ())), (2, ()))) ∨ (SlOk s l ∧ WhOk s most d w ∧ (((∀ x, ¬ ValA s l most d w x) ∧ g28_sense_Where s l most d w = some ((0, (0, ())), (5, ()))) ∨ ∃ q, Lim (ValA s l most d w) q true ∧ g28_sense_Where s l most d w = some (q, (0, ())))) := by
  unfold g28_sense_Where
  rcases given4_eq s l most d w h0 with ⟨h, e⟩ | ⟨h, h', e⟩ | ⟨hsl, hw, e⟩
  · rw [e]; exact .inl ⟨h, rfl⟩
  · rw [e]; exact .inr (.inl ⟨h, h', rfl⟩)
  · rw [e]
    refine .inr (.inr ⟨hsl, hw, ?_⟩)
    have hn : l.length ≤ 1000 := by have := hsl.1; omega
    have hs := hsl.2.1
    have hdep := hs.depths
    have hn10 := nC_le hs
    obtain ⟨w1, w2, w3⟩ := hw
    obtain ⟨r, u', M', e2, hF⟩ := all93W hs hsl.2.2 hn (memo_nil s l) most.toNat (by omega) (0, (d, (w, ((0, (0, ())), false)))) (fun k => ⟨rfl, ⟨d.toNat, by simp only; omega, by omega⟩, w3.1, w3.2⟩)
    have em : ((most.toNat : Nat) : Int) = most := by omega
    rw [em] at e2
    simp only [Option.bind_some, altK]
    have e0 : ((0 : Int) != 0) = false := rfl
    simp only [e0, cond_false, G63, Option.bind_some]
    rw [show G93_v4 (0, UC79) most d w (0, (0, ())) false ((XX s l).1, ((XX s l).2.1, ((), (XX s l).2.2.2))) [] = _ from e2]
    obtain ⟨f1, f2⟩ := feedW (d := d) (w := w) (allC (nC s) most.toNat) _ r u' (fun _ => False) rfl rfl rfl hF ⟨fun h => (by cases h), fun _ x h => h⟩
    obtain ⟨k, d', w', q, found⟩ := u'
    simp only at f1 f2
    subst f1
    have f3 : Lim (ValA s l most d w) q found := f2.iff fun x => ⟨fun h => h.elim (fun h => h.elim) id, .inr⟩
    cases found with
    | false => exact .inl ⟨f3.2 rfl, rfl⟩
    | true => exact .inr ⟨q, f3, rfl⟩
theorem allC_mem {n most b : Nat} (hn : n ≤ 20) : b ∈ allC n most ↔ low b n ∧ cnt b n ≤ most := by
  unfold allC
  rw [List.mem_flatMap]
  constructor
  · rintro ⟨m, hm, hb⟩
    obtain ⟨h1, h2, _⟩ := comb_in hn hb
    have := List.mem_range.1 hm
    exact ⟨h1, by omega⟩
  · rintro ⟨h1, h2⟩
    exact ⟨cnt b n, List.mem_range.2 (by omega), comb_all h1⟩
end Go.Proofs.YtibmgbalfhfcdaaDoor.Abs
set_option linter.unusedVariables false
set_option linter.unusedSimpArgs false
set_option maxRecDepth 100000
namespace Go.Proofs.YtibmgbalfhfcdaaDoor.Abs
open Classical
abbrev UK : Type := Nat × (Nat × (Option Nat × Bool))
def evI : Option Nat → Int
  | none => -1
  | some e => (e : Int)
def pkK (s : E23) (l : List E72) (M : List (E56 × E94)) (u : UK) : E123 × ((Nat × UT73) × ((List (E56 × E94)) × ((Int × (Int × Unit)) × (Bool × Unit)))) := (XX s l, ((u.1, UC73), (M, (((u.2.1 : Int), (evI u.2.2.1, ())), (u.2.2.2, ())))))
def evN : Option Nat → Nat → Nat
  | none, b => b
  | some e, b => e &&& b
def VK (b : Nat) (u : UK) (r : Bool) (u' : UK) : Prop := r = true ∧ u' = (0, (u.2.1 ||| b, (some (evN u.2.2.1 b), true))) ∧ b < 2 ^ 62
def PreK (k : Nat) (u : UK) : Prop := u.1 = 0 ∧ u.2.1 < 2 ^ 62 ∧ ∀ e, u.2.2.1 = some e → e < 2 ^ 62
theorem evN_lt {o : Option Nat} {b : Nat} (hb : b < 2 ^ 62) : evN o b < 2 ^ 62 := by
  cases o with
  | none => exact hb
  | some e => exact Nat.lt_of_le_of_lt Nat.and_le_right hb
theorem r0K {b : Nat} (hb : b < 2 ^ 62) (u : UK) (k : Nat) (hu : PreK k u) :
    ∃ u' : UK, G26 b (u.1, UC73) ((u.2.1 : Int), (evI u.2.2.1, ())) u.2.2.2 = some (true, ((u'.1, UC73), (((u'.2.1 : Int), (evI u'.2.2.1, ())), (u'.2.2.2, ())))) ∧ VK b u true u' := by
  obtain ⟨k0, so, ev, found⟩ := u
  obtain ⟨h1, h2, h3⟩ := hu
  simp only at h1 h2 h3
  subst h1
  unfold G26
  simp only [natK]
  rw [or_nat h2 hb]
  have e2 : IntKind.wrap .i64 ((BitVec.toNat ((BitVec.ofInt (IntKind.bits .i64) (evI ev)) &&& (BitVec.ofInt (IntKind.bits .i64) (b : Int))) : Nat) : Int) = ((evN ev b : Nat) : Int) := by
    cases ev with
    | none => exact and_m1 hb
    | some e => exact and_nat (h3 e rfl) hb
  rw [e2]
  exact ⟨(0, (so ||| b, (some (evN ev b), true))), rfl, rfl, rfl, hb⟩
theorem srchK {s : E23} {l : List E72} (hs : StrOk s) (hl : RdsOk s l) (hn : l.length ≤ 1000) : Srch (nC s) (MemoOk s l) PreK (Ex s l) VK (pkK s l) G94_v1_fix G94_v1_l0_step where
  hn := by have := nC_le hs; omega
  base := by
    rintro f from_ now M u k hlow hM hP
    have hn10 := nC_le hs
    obtain ⟨h60, h62⟩ := low_60 hlow (by omega)
    obtain ⟨r, M', e, hr, hM'⟩ := explains_eq hs hl hn h62 hM
    show ∃ r u' M', G94_v1_b (G94_v1_fix f) 0 from_ now (XX s l) (u.1, UC73) M ((u.2.1 : Int), (evI u.2.2.1, ())) u.2.2.2 = some (r, pkK s l M' u') ∧ _
    unfold G94_v1_b
    have e0 : ((0 : Int) == 0) = true := rfl
    simp only [e0, cond_true]
    rw [show G52 (now : Int) ((XX s l).1, ((XX s l).2.1, ((), (XX s l).2.2.2))) M = _ from e]
    simp only [Option.bind_some]
    cases r with
    | false => exact ⟨true, u, M', rfl, hM', .inl ⟨(fun h => by have := hr.2 h; cases this), rfl, rfl⟩⟩
    | true =>
      simp only [Bool.not_true, cond_false]
      obtain ⟨u', e2, hv⟩ := r0K h62 u (k + 1) hP
      rw [e2]
      exact ⟨true, u', M', rfl, hM', .inr ⟨hr.1 rfl, hv⟩⟩
  pre := by
    rintro b u u' k ⟨_, rfl, hb⟩ ⟨hk0, h2, h3⟩
    refine ⟨rfl, Nat.or_lt_two_pow h2 hb, fun e he => ?_⟩
    simp only [Option.some.injEq] at he
    subst he
    exact evN_lt hb
  mono := fun u k h => h
  step := by
    rintro f left from_ now M u hleft
    show G94_v1_b (G94_v1_fix f) left from_ now (XX s l) (u.1, UC73) M ((u.2.1 : Int), (evI u.2.2.1, ())) u.2.2.2 = _
    unfold G94_v1_b
    rw [beq_eq_false_iff_ne.2 hleft, cond_false]
    rfl
  stp_ := by
    rintro rc ⟨left, now, ret, i, _⟩ M u
    unfold G94_v1_l0_step srchStp pkK
    rw [show G64 ((XX s l).1, ((XX s l).2.1, ((), (XX s l).2.2.2))) = _ from many_eq hs l]
    rfl
def p93K (s : E23) (l : List E72) (most : Int) (M : List (E56 × E94)) (u : UK) : (Nat × UT73) × (Int × ((Int × (Int × Unit)) × (Bool × (E123 × ((List (E56 × E94)) × Unit))))) := ((u.1, UC73), (most, (((u.2.1 : Int), (evI u.2.2.1, ())), (u.2.2.2, (XX s l, (M, ()))))))
theorem all93K {s : E23} {l : List E72} (hs : StrOk s) (hl : RdsOk s l) (hn : l.length ≤ 1000) {M : List (E56 × E94)} (hM : MemoOk s l M) (most : Nat) (hmost : most ≤ nC s) :
    ∃ r u' M', G93_v2 (0, UC73) (most : Int) (0, (-1, ())) false (XX s l) M = some ((), p93K s l (most : Int) M' u') ∧ Feed (Ex s l) VK (allC (nC s) most) (0, (0, (none, false))) r u' := by
  have hn10 := nC_le hs
  obtain ⟨k, x, r, u', M', e, hM', hF⟩ := (srchK hs hl hn).all (p93K s l (most : Int)) G93_v2_l0_step most hmost
    (by
      rintro m1 many M u r u1 M' hlt hm1 e
      unfold G93_v2_l0_step p93K
      simp only [lt_int hlt, cond_true]
      rw [show G94_v1 (many : Int) 0 0 ((XX s l).1, ((XX s l).2.1, ((), (XX s l).2.2.2))) (u.1, UC73) M ((u.2.1 : Int), (evI u.2.2.1, ())) u.2.2.2 = _ from e]
      simp only [Option.bind_some, wr1 (i := many) (by omega)]
      cases r <;> rfl)
    (by
      rintro m1 M u
      unfold G93_v2_l0_step p93K
      simp only [nlt_int, cond_false]) M (0, (0, (none, false))) hM ⟨rfl, by simp, fun e h => by cases h⟩ (most + 2) (by omega)
  unfold G93_v2
  rw [wr1 (i := most) (by omega)]
  have hfu : G93_v2_l0_fuel ((((most + 1 : Nat) : Int), (0, ())), p93K s l (most : Int) M (0, (0, (none, false)))) = most + 2 := by unfold G93_v2_l0_fuel; simp only; omega
  rw [show G93_v2_l0_run ((((most + 1 : Nat) : Int), (0, ())), ((0, UC73), ((most : Int), ((0, (-1, ())), (false, (((XX s l).1, ((XX s l).2.1, ((), (XX s l).2.2.2))), (M, ()))))))) = iter G93_v2_l0_step (G93_v2_l0_fuel ((((most + 1 : Nat) : Int), (0, ())), p93K s l (most : Int) M (0, (0, (none, false))))) ((((most + 1 : Nat) : Int), (0, ())), p93K s l (most : Int) M (0, (0, (none, false)))) from rfl, hfu, e]
  refine ⟨r, u', M', ?_, hF⟩
  cases k <;> rfl
structure KnowsB (P : Nat → Prop) (u : UK) : Prop where
  k : u.1 = 0
  found : u.2.2.2 = true ↔ ∃ b, P b
  so : ∀ i, u.2.1.testBit i = true ↔ ∃ b, P b ∧ b.testBit i = true
  ev : (u.2.2.1 = none ∧ ¬ ∃ b, P b) ∨ ∃ e, u.2.2.1 = some e ∧ ∀ i, e.testBit i = true ↔ ∀ b, P b → b.testBit i = true
  lt : u.2.1 < 2 ^ 62 ∧ ∀ e, u.2.2.1 = some e → e < 2 ^ 62
theorem KnowsB.iff {P Q : Nat → Prop} {u : UK} (h : KnowsB P u) (e : ∀ b, P b ↔ Q b) : KnowsB Q u := by
  have : P = Q := funext fun b => propext (e b)
  rw [← this]; exact h
theorem feedK {s : E23} {l : List E72} : ∀ (xs : List Nat) (u : UK) (r : Bool) (u' : UK) (P : Nat → Prop), Feed (Ex s l) VK xs u r u' → KnowsB P u → KnowsB (fun b => P b ∨ (b ∈ xs ∧ Ex s l b)) u'
  | [], u, r, u', P, h, hP => by
    cases h
    exact hP.iff fun b => by simp
  | y :: xs, u, r, u', P, h, hP => by
    cases h with
    | skip a h =>
      refine (feedK xs u r u' P h hP).iff fun b => or_congr_right ⟨fun ⟨hb, hE⟩ => ⟨List.mem_cons_of_mem _ hb, hE⟩, fun ⟨hb, hE⟩ => ?_⟩
      rcases List.mem_cons.1 hb with rfl | hb
      · exact absurd hE a
      · exact ⟨hb, hE⟩
    | go a b h =>
      obtain ⟨_, rfl, hy⟩ := b
      have h1 : KnowsB (fun b => P b ∨ b = y) (0, (u.2.1 ||| y, (some (evN u.2.2.1 y), true))) := by
        refine ⟨rfl, ⟨fun _ => ⟨y, .inr rfl⟩, fun _ => rfl⟩, fun i => ?_, .inr ⟨_, rfl, fun i => ?_⟩, Nat.or_lt_two_pow hP.lt.1 hy, fun e he => ?_⟩
        · simp only [Nat.testBit_or, Bool.or_eq_true, hP.so i]
          exact ⟨fun h => h.elim (fun ⟨b, hb, hh⟩ => ⟨b, .inl hb, hh⟩) fun h => ⟨y, .inr rfl, h⟩, fun ⟨b, hb, hh⟩ => hb.elim (fun hb => .inl ⟨b, hb, hh⟩) fun hb => .inr (hb ▸ hh)⟩
        · rcases hP.ev with ⟨e1, e2⟩ | ⟨e, e1, e2⟩
          · rw [e1]
            exact ⟨fun h b hb => hb.elim (fun hb => absurd ⟨b, hb⟩ e2) fun hb => hb ▸ h, fun h => h y (.inr rfl)⟩
          · rw [e1]
            simp only [evN, Nat.testBit_and, Bool.and_eq_true, e2 i]
            exact ⟨fun h b hb => hb.elim (fun hb => h.1 b hb) fun hb => hb ▸ h.2, fun h => ⟨fun b hb => h b (.inl hb), h y (.inr rfl)⟩⟩
        · simp only [Option.some.injEq] at he
          subst he
          exact evN_lt hy
      refine (feedK xs _ r u' _ h h1).iff fun b => ?_
      rw [or_assoc]
      refine or_congr_right ⟨fun hb => hb.elim (fun hb => ⟨hb ▸ List.mem_cons_self .., hb ▸ a⟩) fun hb => ⟨List.mem_cons_of_mem _ hb.1, hb.2⟩, fun ⟨hb, hE⟩ => ?_⟩
      rcases List.mem_cons.1 hb with rfl | hb
      · exact .inl rfl
      · exact .inr ⟨hb, hE⟩
    | stop a b => exact absurd b.1 (by decide)
theorem bit_and1 {a k : Nat} (ha : a < 2 ^ 62) (hk : k < 62) : IntKind.wrap .i64 ((BitVec.toNat ((BitVec.ofInt (IntKind.bits .i64) (Int.fdiv (a : Int) (2 ^ (min (Int.toNat (k : Int)) (IntKind.bits .i64))))) &&& (BitVec.ofInt (IntKind.bits .i64) 1)) : Nat) : Int) = bif a.testBit k then 1 else 0 := by
  rw [Int.toNat_natCast, shr_nat hk]
  have hq : a / 2 ^ k < 2 ^ 62 := Nat.lt_of_le_of_lt (Nat.div_le_self _ _) ha
  have e1 : BitVec.ofInt (IntKind.bits .i64) 1 = BitVec.ofInt (IntKind.bits .i64) ((1 : Nat) : Int) := rfl
  rw [e1, and_nat hq (by decide), Nat.and_one_is_mod]
  cases ht : a.testBit k with
  | true =>
    have : a / 2 ^ k % 2 = 1 := by
      rw [Nat.testBit_eq_decide_div_mod_eq] at ht
      simpa using ht
    rw [this]; rfl
  | false =>
    have : a / 2 ^ k % 2 = 0 := by
      rw [Nat.testBit_eq_decide_div_mod_eq] at ht
      have : ¬ (a / 2 ^ k % 2 = 1) := by simpa using ht
      omega
    rw [this]; rfl
theorem not_eq {so e k : Nat} (h1 : so < 2 ^ 62) (hk : k < 62) : G69 ((so : Int), ((e : Int), ())) k = some (!so.testBit k) := by
  unfold G69
  rw [decide_eq_false (show ¬ ((k : Int) < 0) by omega)]
  simp only [Bool.not_false, cond_true]
  rw [bit_and1 h1 hk]
  cases so.testBit k <;> rfl
theorem surely_eq {so e k : Nat} (h1 : e < 2 ^ 62) (hk : k < 62) : G71 ((so : Int), ((e : Int), ())) k = some (e.testBit k) := by
  unfold G71
  rw [decide_eq_false (show ¬ ((k : Int) < 0) by omega)]
  simp only [Bool.not_false, cond_true]
  rw [bit_and1 h1 hk]
  cases e.testBit k <;> rfl
theorem may_eq {so e k : Nat} (h1 : so < 2 ^ 62) (h2 : e < 2 ^ 62) (hk : k < 62) : G70 ((so : Int), ((e : Int), ())) k = some (so.testBit k && !e.testBit k) := by
  unfold G70
  rw [not_eq h1 hk, surely_eq h2 hk]
  cases so.testBit k <;> rfl
def wordB (so e i : Nat) : Int := bif !so.testBit i then 1 else bif e.testBit i then 3 else 2
def wordsB (so e : Nat) : Nat → List Int
  | 0 => []
  | n + 1 => wordsB so e n ++ [wordB so e n]
theorem wordsB_len (so e : Nat) : ∀ n, (wordsB so e n).length = n
  | 0 => rfl
  | n + 1 => by simp [wordsB, wordsB_len so e n]
theorem wordsB_get (so e : Nat) : ∀ n i, i < n → (wordsB so e n).getD i 0 = wordB so e i
  | 0, i, h => by omega
  | n + 1, i, h => by
    simp only [wordsB]
    rw [getD_snoc, wordsB_len]
    by_cases hi : i < n
    · rw [if_pos hi]; exact wordsB_get so e n i hi
    · rw [if_neg hi, if_pos (by omega), show i = n by omega]
abbrev FN3 (so e : Nat) : ((((Int × (Int × Unit)) × Unit) × Unit) × ((((Int × (Int × Unit)) × Unit) × Unit) × ((((Int × (Int × Unit)) × Unit) × Unit) × Unit))) := (((((so : Int), ((e : Int), ())), ()), ()), (((((so : Int), ((e : Int), ())), ()), ()), (((((so : Int), ((e : Int), ())), ()), ()), ())))
theorem known_l1 {so e i : Nat} (h1 : so < 2 ^ 62) (h2 : e < 2 ^ 62) (hsub : e.testBit i = true → so.testBit i = true) (hi : i < 62) (out : List Int) (ho : out.length ≤ 1000) (x1 x2 : Int) (R : TY60) :
    ∃ k, g26_sense_Known_l1_run ((out, ((i : Int), (x1, (x2, (FN3 so e, (0, ())))))), R.2) = some (0, ((out ++ [wordB so e i], ((i : Int), (x1, (x2, (FN3 so e, (k, ())))))), R.2)) := by
  unfold g26_sense_Known_l1_run
  refine ⟨3, ?_⟩
  have hf : g26_sense_Known_l1_fuel ((out, ((i : Int), (x1, (x2, (FN3 so e, (0, ())))))), R.2) = 4 := rfl
  rw [hf]
  have ho1 : ∀ (L : List Int) (x : Int), L.length ≤ 1001 → decide (L.length + List.length [x] ≤ LIM) = true := fun L x h => lim_ok (by omega) (by simp)
  have s0 : ∀ L : List Int, L.length ≤ 1001 → g26_sense_Known_l1_step ((L, ((i : Int), (x1, (x2, (FN3 so e, (0, ())))))), R.2) = some (0, ((bif !so.testBit i then L ++ [1] else L, ((i : Int), (x1, (x2, (FN3 so e, (1, ())))))), R.2)) := fun L hL => by
    unfold g26_sense_Known_l1_step
    have a1 : decide ((0 : Int) < 3) = true := rfl
    have a2 : decide ((0 : Int) = 0) = true := rfl
    have w1 : IntKind.wrap .i64 ((1 : Int) + 0) = 1 := by decide
    have w2 : IntKind.wrap .i64 ((0 : Int) + 1) = 1 := by decide
    simp only [a1, a2, cond_true, w1, w2, ho1 L _ hL]
    rw [show G69 ((so : Int), ((e : Int), ())) (i : Int) = _ from not_eq h1 hi]
    cases so.testBit i <;> rfl
  have s1 : ∀ L : List Int, L.length ≤ 1001 → g26_sense_Known_l1_step ((L, ((i : Int), (x1, (x2, (FN3 so e, (1, ())))))), R.2) = some (0, ((bif so.testBit i && !e.testBit i then L ++ [2] else L, ((i : Int), (x1, (x2, (FN3 so e, (2, ())))))), R.2)) := fun L hL => by
    unfold g26_sense_Known_l1_step
    have a1 : decide ((1 : Int) < 3) = true := rfl
    have a2 : decide ((1 : Int) = 0) = false := rfl
    have a3 : decide ((1 : Int) = 1) = true := rfl
    have w1 : IntKind.wrap .i64 ((1 : Int) + 1) = 2 := by decide
    simp only [a1, a2, a3, cond_true, cond_false, w1, ho1 L _ hL]
    rw [show G70 ((so : Int), ((e : Int), ())) (i : Int) = _ from may_eq h1 h2 hi]
    cases so.testBit i <;> cases e.testBit i <;> rfl
  have s2 : ∀ L : List Int, L.length ≤ 1001 → g26_sense_Known_l1_step ((L, ((i : Int), (x1, (x2, (FN3 so e, (2, ())))))), R.2) = some (0, ((bif e.testBit i then L ++ [3] else L, ((i : Int), (x1, (x2, (FN3 so e, (3, ())))))), R.2)) := fun L hL => by
    unfold g26_sense_Known_l1_step
    have a1 : decide ((2 : Int) < 3) = true := rfl
    have a2 : decide ((2 : Int) = 0) = false := rfl
    have a3 : decide ((2 : Int) = 1) = false := rfl
    have a4 : decide ((2 : Int) = 2) = true := rfl
    have w1 : IntKind.wrap .i64 ((1 : Int) + 2) = 3 := by decide
    have w2 : IntKind.wrap .i64 ((2 : Int) + 1) = 3 := by decide
    simp only [a1, a2, a3, a4, cond_true, cond_false, w1, w2, ho1 L _ hL]
    rw [show G71 ((so : Int), ((e : Int), ())) (i : Int) = _ from surely_eq h2 hi]
    cases e.testBit i <;> rfl
  have s3 : ∀ L : List Int, g26_sense_Known_l1_step ((L, ((i : Int), (x1, (x2, (FN3 so e, (3, ())))))), R.2) = some (1, ((L, ((i : Int), (x1, (x2, (FN3 so e, (3, ())))))), R.2)) := fun L => by
    unfold g26_sense_Known_l1_step
    have a1 : decide ((3 : Int) < 3) = false := rfl
    simp only [a1, cond_false]
  rw [iter_one (s0 out (by omega))]
  unfold wordB
  cases hs : so.testBit i with
  | false =>
    have he : e.testBit i = false := by
      cases he : e.testBit i with
      | false => rfl
      | true => have := hsub he; rw [hs] at this; cases this
    simp only [Bool.not_false, cond_true]
    rw [iter_one (s1 _ (by simp; omega)), hs, he]
    simp only [Bool.false_and, cond_false]
    rw [iter_one (s2 _ (by simp; omega)), he, cond_false, iter_out (s3 _)]
  | true =>
    simp only [Bool.not_true, cond_false]
    cases he : e.testBit i with
    | false =>
      rw [iter_one (s1 _ (by omega)), hs, he]
      simp only [Bool.true_and, Bool.not_false, cond_true, cond_false]
      rw [iter_one (s2 _ (by simp; omega)), he, cond_false, iter_out (s3 _)]
    | true =>
      rw [iter_one (s1 _ (by omega)), hs, he]
      simp only [Bool.true_and, Bool.not_true, cond_true, cond_false]
      rw [iter_one (s2 _ (by omega)), he, cond_true, iter_out (s3 _)]
theorem given3_eq (s : E23) (l : List E72) (most : Int) (h0 : l.length < 2 ^ 62) :
    (24 < l.length ∧ G49_v3 s l most = some (.inl (((), (3, ())), (most, ())))) ∨ (l.length ≤ 24 ∧ ¬ (SlOk s l ∧ (0 ≤ most ∧ most ≤ ((nC s : Nat) : Int))) ∧ G49_v3 s l most = some (.inl (((), (2, ())), (most, ())))) ∨ (SlOk s l ∧ (0 ≤ most ∧ most ≤ ((nC s : Nat) : Int)) ∧ G49_v3 s l most = some (.inr (((), (0, ())), (most, (s, ([], (XX s l, ()))))))) := by
  unfold G49_v3
  by_cases hl : l.length ≤ 24
  case neg =>
    rw [decide_eq_true (p := (l.length : Int) > 24) (by omega)]
    exact .inl ⟨by omega, rfl⟩
  right
  rw [decide_eq_false (p := (l.length : Int) > 24) (by omega), cond_false]
  by_cases hs : StrOk s
  case neg =>
    rw [(valid_tells s).nval hs]
    exact .inl ⟨hl, fun h => hs h.1.2.1, rfl⟩
  rw [(valid_tells s).val hs]
  simp only [Option.bind_some, Bool.not_true, cond_false]
  rw [cf81 l s hs h0]
  simp only [Option.bind_some]
  cases ha : l.any (fun r => !decide (RdOk s r)) with
  | true =>
    refine .inl ⟨hl, fun h => ?_, rfl⟩
    rw [List.any_eq_true] at ha
    obtain ⟨x, hx, hx'⟩ := ha
    rw [decide_eq_true (h.1.2.2 x hx)] at hx'
    cases hx'
  | false =>
    have hr : RdsOk s l := by
      intro r hr
      have := List.any_eq_false.1 ha r hr
      simpa using this
    simp only [cond_false, G67]
    rw [show G64 ((XX s l).1, ((XX s l).2.1, ((), (XX s l).2.2.2))) = _ from many_eq hs l]
    simp only [Option.bind_some, in_tells]
    by_cases hm : 0 ≤ most ∧ most ≤ ((nC s : Nat) : Int)
    · rw [decide_eq_true hm]
      exact .inr ⟨⟨hl, hs, hr⟩, hm, rfl⟩
    · rw [decide_eq_false hm]
      exact .inl ⟨hl, fun h => hm h.2, rfl⟩
def Fits (s : E23) (l : List E72) (most b : Nat) : Prop := b ∈ allC (nC s) most ∧ Ex s l b
theorem known_loop {s : E23} {l : List E72} (hs : StrOk s) {so e : Nat} (h1 : so < 2 ^ 62) (h2 : e < 2 ^ 62) (hsub : ∀ i, e.testBit i = true → so.testBit i = true) (R : TY60) (hR : R.2.2.2.2.2.2.2.2.2.2.1 = FN3 so e) :
    ∃ i, g26_sense_Known_l0_run (([], (((nC s : Nat) : Int), (0, ()))), R.2) = some (0, ((wordsB so e (nC s), (((nC s : Nat) : Int), (i, ()))), R.2)) := by
  have hn10 := nC_le hs
  unfold g26_sense_Known_l0_run
  refine ⟨_, iter_run (step := g26_sense_Known_l0_step) (n := nC s) (k := 0)
    (fun i => ((wordsB so e i, (((nC s : Nat) : Int), ((i : Int), ()))), R.2)) ((wordsB so e (nC s), (((nC s : Nat) : Int), (((nC s : Nat) : Int), ()))), R.2) (fun i hi => ?_) ?_ (by unfold g26_sense_Known_l0_fuel; simp)⟩
  · obtain ⟨k, e1⟩ := known_l1 h1 h2 (hsub i) (by omega) (wordsB so e i) (by rw [wordsB_len]; omega) ((nC s : Nat) : Int) (i : Int) R
    unfold g26_sense_Known_l0_step
    simp only [lt_int hi, cond_true]
    rw [← hR] at e1
    rw [show g26_sense_Known_l1_run _ = _ from e1]
    simp only [Option.bind_some, wr1 (i := i) (by omega)]
    rfl
  · unfold g26_sense_Known_l0_step
    simp only [nlt_int, cond_false]
structure KnowsW (P : Nat → Prop) (n : Nat) (w : List Int) : Prop where
  len : w.length = n
  word : ∀ i, i < n → (w.getD i 0 = 1 ∧ ∀ b, P b → b.testBit i = false) ∨ (w.getD i 0 = 3 ∧ (∃ b, P b) ∧ ∀ b, P b → b.testBit i = true) ∨ (w.getD i 0 = 2 ∧ (∃ b, P b ∧ b.testBit i = true) ∧ ∃ b, P b ∧ b.testBit i = false)
theorem sknown_eq (s : E23) (l : List E72) (most : Int) (h0 : l.length < 2 ^ 62) :
    (24 < l.length ∧ g26_sense_Known s l most = some ([], (3, ()))) ∨ (l.length ≤ 24 ∧ ¬ (SlOk s l ∧ (0 ≤ most ∧ most ≤ ((nC s : Nat) : Int))) ∧ g26_sense_Known s l most = some ([], (2, ()))) ∨ (SlOk s l ∧ (0 ≤ most ∧ most ≤ ((nC s : Nat) : Int)) ∧ (((∀ b, ¬ Fits s l most.toNat b) ∧ g26_sense_Known s l most = some ([], (5, ()))) ∨ ∃ w, (∃ b, Fits s l most.toNat b) ∧ KnowsW (Fits s l most.toNat) (nC s) w ∧ g26_sense_Known s l most = some (w, (0, ())))) := by
  unfold g26_sense_Known
  rcases given3_eq s l most h0 with ⟨h, e⟩ | ⟨h, h', e⟩ | ⟨hsl, hm, e⟩
  · rw [e]; exact .inl ⟨h, rfl⟩
  · rw [e]; exact .inr (.inl ⟨h, h', rfl⟩)
  · rw [e]
    refine .inr (.inr ⟨hsl, hm, ?_⟩)
    have hn : l.length ≤ 1000 := by have := hsl.1; omega
    have hs := hsl.2.1
    have hn10 := nC_le hs
    obtain ⟨r, u', M', e2, hF⟩ := all93K hs hsl.2.2 hn (memo_nil s l) most.toNat (by omega)
    have em : ((most.toNat : Nat) : Int) = most := by omega
    rw [em] at e2
    simp only [Option.bind_some, altK]
    have e0 : ((0 : Int) != 0) = false := rfl
    simp only [e0, cond_false, G63, Option.bind_some]
    rw [show G93_v2 (0, UC73) most (0, (-1, ())) false ((XX s l).1, ((XX s l).2.1, ((), (XX s l).2.2.2))) [] = _ from e2]
    have hk := feedK (allC (nC s) most.toNat) _ r u' (fun _ => False) hF ⟨rfl, ⟨fun h => (by cases h), fun ⟨b, h⟩ => h.elim⟩, fun i => by simp, .inl ⟨rfl, fun ⟨b, h⟩ => h⟩, by simp, fun e h => by cases h⟩
    have hk2 : KnowsB (Fits s l most.toNat) u' := hk.iff fun b => ⟨fun h => h.elim (fun h => h.elim) id, .inr⟩
    obtain ⟨k, so, ev, found⟩ := u'
    have hk0 := hk2.k
    simp only at hk0
    subst hk0
    cases found with
    | false =>
      left
      refine ⟨fun b hb => ?_, rfl⟩
      have := hk2.found.2 ⟨b, hb⟩
      cases this
    | true =>
      right
      obtain ⟨b0, hb0⟩ := hk2.found.1 rfl
      rcases hk2.ev with ⟨_, e4⟩ | ⟨e', e3, e4⟩
      · exact absurd ⟨b0, hb0⟩ e4
      simp only at e3
      subst e3
      have hso : ∀ i, so.testBit i = true ↔ ∃ b, Fits s l most.toNat b ∧ b.testBit i = true := hk2.so
      have hlt := hk2.lt
      have hsub : ∀ i, e'.testBit i = true → so.testBit i = true := fun i hi => (hso i).2 ⟨b0, hb0, (e4 i).1 hi b0 hb0⟩
      refine ⟨wordsB so e' (nC s), ⟨b0, hb0⟩, ⟨wordsB_len _ _ _, fun i hi => ?_⟩, ?_⟩
      · rw [wordsB_get _ _ _ _ hi]
        unfold wordB
        cases h1 : so.testBit i with
        | false =>
          refine .inl ⟨rfl, fun b hb => ?_⟩
          cases hbi : b.testBit i with
          | false => rfl
          | true => have := (hso i).2 ⟨b, hb, hbi⟩; rw [h1] at this; cases this
        | true =>
          cases h2 : e'.testBit i with
          | true => exact .inr (.inl ⟨rfl, ⟨b0, hb0⟩, (e4 i).1 h2⟩)
          | false =>
            refine .inr (.inr ⟨rfl, (hso i).1 h1, ?_⟩)
            apply Classical.byContradiction
            intro hno
            have : e'.testBit i = true := (e4 i).2 fun b hb => by
              cases hbi : b.testBit i with
              | true => rfl
              | false => exact absurd ⟨b, hb, hbi⟩ hno
            rw [h2] at this; cases this
      · obtain ⟨i, e5⟩ := known_loop (l := l) hs hlt.1 (hlt.2 e' rfl) hsub (([], (0, (0, ()))), (s, (most, (s, (M', (XX s l, (((so : Int), ((e' : Int), ())), (true, (most, ((2, UC73), (FN3 so e', ()))))))))))) rfl
        simp only [Option.bind_some, p93K]
        have e00 : ((0 : Nat) == 0) = true := rfl
        simp only [e00, cond_true, Bool.not_true, cond_false]
        rw [show G64 ((XX s l).1, ((XX s l).2.1, ((), (XX s l).2.2.2))) = _ from many_eq hs l]
        simp only [Option.bind_some]
        exact congrArg (fun o => Option.bind o fun q13 => some (q13.2.1.1, ((0 : Int), ()))) e5
end Go.Proofs.YtibmgbalfhfcdaaDoor.Abs
