import Derived.Test.YtibmgbalfhfcdaaDoorP1
set_option linter.unusedVariables false
set_option linter.unusedSimpArgs false
set_option maxRecDepth 100000
namespace Go.Proofs.YtibmgbalfhfcdaaDoor.Abs
open Classical
inductive Feed {U : Type} (E : Nat → Prop) (V : Nat → U → Bool → U → Prop) : List Nat → U → Bool → U → Prop
  | nil (u : U) : Feed E V [] u true u
  | skip {b : Nat} {bs : List Nat} {u u' : U} {r : Bool} : ¬ E b → Feed E V bs u r u' → Feed E V (b :: bs) u r u'
  | go {b : Nat} {bs : List Nat} {u u1 u' : U} {r : Bool} : E b → V b u true u1 → Feed E V bs u1 r u' → Feed E V (b :: bs) u r u'
  | stop {b : Nat} {bs : List Nat} {u u' : U} : E b → V b u false u' → Feed E V (b :: bs) u false u'
theorem Feed.app {U : Type} {E : Nat → Prop} {V : Nat → U → Bool → U → Prop} {xs ys : List Nat} {u u1 u' : U} {r r' : Bool} (h : Feed E V xs u r u1) (hr : r = true) (h' : Feed E V ys u1 r' u') : Feed E V (xs ++ ys) u r' u' := by
  induction h with
  | nil u => exact h'
  | skip a _ ih => exact .skip a (ih hr h')
  | go a b _ ih => exact .go a b (ih hr h')
  | stop _ _ => cases hr
theorem Feed.cut {U : Type} {E : Nat → Prop} {V : Nat → U → Bool → U → Prop} {xs : List Nat} (ys : List Nat) {u u' : U} {r : Bool} (h : Feed E V xs u r u') (hr : r = false) : Feed E V (xs ++ ys) u false u' := by
  induction h with
  | nil u => cases hr
  | skip a _ ih => exact .skip a (ih hr)
  | go a b _ ih => exact .go a b (ih hr)
  | stop a b => exact .stop a b
def srchStp {B : Type} (n : Nat) (rc : (Int × (Int × (Int × Unit))) × B → Option (Bool × B)) (s : (Int × (Int × (Bool × (Int × Unit)))) × B) : Option (Nat × ((Int × (Int × (Bool × (Int × Unit)))) × B)) :=
  bif decide (s.1.2.2.2.1 < (n : Int)) then
    (bif (!decide (s.1.2.2.2.1 < 0)) then
      (Option.bind (rc ((IntKind.wrap .i64 (s.1.1 - 1), (IntKind.wrap .i64 (s.1.2.2.2.1 + 1), (IntKind.wrap .i64 ((BitVec.toNat ((BitVec.ofInt (IntKind.bits .i64) s.1.2.1) ||| (BitVec.ofInt (IntKind.bits .i64) (IntKind.wrap .i64 (1 * 2 ^ (min (Int.toNat s.1.2.2.2.1) (IntKind.bits .i64)))))) : Nat) : Int), ()))), s.2)) fun r4 =>
        (bif (!r4.1) then some (1, ((s.1.1, (s.1.2.1, (false, (s.1.2.2.2.1, ())))), r4.2))
        else some (0, ((s.1.1, (s.1.2.1, (s.1.2.2.1, (IntKind.wrap .i64 (s.1.2.2.2.1 + 1), ())))), r4.2))))
    else none)
  else some (2, s)
structure Srch {B U : Type} (n : Nat) (OK : List (E56 × E94) → Prop) (Pre : Nat → U → Prop) (E : Nat → Prop) (V : Nat → U → Bool → U → Prop) (pk : List (E56 × E94) → U → B) (fx : Nat → (Int × (Int × (Int × Unit))) × B → Option (Bool × B)) (stp : ((Int × (Int × (Int × Unit))) × B → Option (Bool × B)) → ((Int × (Int × (Bool × (Int × Unit)))) × B) → Option (Nat × ((Int × (Int × (Bool × (Int × Unit)))) × B))) : Prop where
  hn : n ≤ 20
  base : ∀ f (from_ : Int) now M u k, low now n → OK M → Pre (k + 1) u → ∃ r u' M', fx (f + 1) ((0, (from_, ((now : Nat), ()))), pk M u) = some (r, pk M' u') ∧ OK M' ∧ ((¬ E now ∧ r = true ∧ u' = u) ∨ (E now ∧ V now u r u'))
  pre : ∀ b u u' k, V b u true u' → Pre (k + 1) u → Pre k u'
  mono : ∀ u k, Pre (k + 1) u → Pre k u
  step : ∀ f (left from_ now : Int) M u, left ≠ 0 → fx (f + 1) ((left, (from_, (now, ()))), pk M u) = Option.bind (iter (stp (fx f)) 100000 ((left, (now, (false, (from_, ())))), pk M u)) fun q5 => natK q5.1 (some (q5.2.1.2.2.1, q5.2.2)) fun _ => some (true, q5.2.2)
  stp_ : ∀ rc x M u, stp rc (x, pk M u) = srchStp n rc (x, pk M u)
theorem Srch.run {B U : Type} {n : Nat} {OK : List (E56 × E94) → Prop} {Pre : Nat → U → Prop} {E : Nat → Prop} {V : Nat → U → Bool → U → Prop} {pk : List (E56 × E94) → U → B} {fx : Nat → (Int × (Int × (Int × Unit))) × B → Option (Bool × B)} {stp : ((Int × (Int × (Int × Unit))) × B → Option (Bool × B)) → ((Int × (Int × (Bool × (Int × Unit)))) × B) → Option (Nat × ((Int × (Int × (Bool × (Int × Unit)))) × B))} (h : Srch n OK Pre E V pk fx stp) :
    ∀ (f left rem now : Nat) (M : List (E56 × E94)) (u : U) (k : Nat), left < f → left ≤ 1000 → rem ≤ n → low now (n - rem) → OK M → Pre ((comb n rem left now).length + k) u → ∃ r u' M', fx f (((left : Int), (((n - rem : Nat) : Int), ((now : Int), ()))), pk M u) = some (r, pk M' u') ∧ OK M' ∧ Feed E V (comb n rem left now) u r u' ∧ (r = true → Pre k u')
  | 0, left, _, _, _, _, _, hf, _, _, _, _, _ => by omega
  | f + 1, 0, rem, now, M, u, k, hf, hl, hr, hlow, hM, hP => by
    rw [comb_zero] at hP ⊢
    rw [show ([now] : List Nat).length + k = k + 1 by simp; omega] at hP
    obtain ⟨r, u', M', e, hM', hv⟩ := h.base f ((n - rem : Nat) : Int) now M u k (low_mono hlow (by omega)) hM hP
    refine ⟨r, u', M', e, hM', ?_⟩
    rcases hv with ⟨a, rfl, rfl⟩ | ⟨a, b⟩
    · exact ⟨.skip a (.nil _), fun _ => h.mono _ _ hP⟩
    · cases r with
      | true => exact ⟨.go a b (.nil _), fun _ => h.pre _ _ _ _ b hP⟩
      | false => exact ⟨.stop a b, fun h => by cases h⟩
  | f + 1, left + 1, rem, now, M, u, k, hf, hl, hr, hlow, hM, hP => by
    have hn := h.hn
    have loop : ∀ (rem fuel : Nat) (M : List (E56 × E94)) (u : U) (ret : Bool), rem ≤ n → rem < fuel → low now (n - rem) → OK M → Pre ((comb n rem (left + 1) now).length + k) u →
        ∃ r u' M' k' i ret', iter (stp (fx f)) fuel ((((left + 1 : Nat) : Int), ((now : Int), (ret, (((n - rem : Nat) : Int), ())))), pk M u) = some (k', (((((left + 1 : Nat) : Int), ((now : Int), (ret', (i, ()))))), pk M' u')) ∧ OK M' ∧ Feed E V (comb n rem (left + 1) now) u r u' ∧ (r = true → Pre k u') ∧ ((r = false ∧ k' = 0 ∧ ret' = false) ∨ (r = true ∧ k' = 1)) := by
      intro rem
      induction rem with
      | zero =>
        intro fuel M u ret hr hfu hlow hM hP
        obtain ⟨fuel, rfl⟩ : ∃ fu, fuel = fu + 1 := ⟨fuel - 1, by omega⟩
        have hstep : stp (fx f) ((((left + 1 : Nat) : Int), ((now : Int), (ret, (((n - 0 : Nat) : Int), ())))), pk M u) = some (1 + 1, ((((left + 1 : Nat) : Int), ((now : Int), (ret, (((n - 0 : Nat) : Int), ())))), pk M u)) := by
          rw [h.stp_]
          unfold srchStp
          have : decide (((n - 0 : Nat) : Int) < (n : Int)) = false := decide_eq_false (by omega)
          simp only [this, cond_false]
        refine ⟨true, u, M, 1, _, ret, iter_out hstep, hM, ?_, fun _ => ?_, .inr ⟨rfl, rfl⟩⟩
        · simp only [comb, if_neg (Nat.succ_ne_zero left)]; exact .nil u
        · simpa only [comb, if_neg (Nat.succ_ne_zero left), List.length_nil, Nat.zero_add] using hP
      | succ rem ih =>
        intro fuel M u ret hr hfu hlow hM hP
        obtain ⟨fuel, rfl⟩ : ∃ fu, fuel = fu + 1 := ⟨fuel - 1, by omega⟩
        have hlow' : low (now ||| 2 ^ (n - (rem + 1))) (n - rem) := by
          have := low_or hlow
          have e : n - (rem + 1) + 1 = n - rem := by omega
          rwa [e] at this
        have hP' : Pre ((comb n rem left (now ||| 2 ^ (n - (rem + 1)))).length + ((comb n rem (left + 1) now).length + k)) u := by
          simp only [comb, List.length_append] at hP
          rwa [Nat.add_assoc] at hP
        obtain ⟨r, u1, M1, e1, hM1, hF1, hP1⟩ := h.run f left rem (now ||| 2 ^ (n - (rem + 1))) M u _ (by omega) (by omega) (by omega) hlow' hM hP'
        have hnow : now < 2 ^ 62 := Nat.lt_of_lt_of_le (low_lt hlow) (Nat.pow_le_pow_right (by decide) (by omega))
        have hstep : stp (fx f) ((((left + 1 : Nat) : Int), ((now : Int), (ret, (((n - (rem + 1) : Nat) : Int), ())))), pk M u) = some (bif (!r) then (1, ((((left + 1 : Nat) : Int), ((now : Int), (false, (((n - (rem + 1) : Nat) : Int), ())))), pk M1 u1)) else (0, ((((left + 1 : Nat) : Int), ((now : Int), (ret, (((n - rem : Nat) : Int), ())))), pk M1 u1))) := by
          rw [h.stp_]
          unfold srchStp
          have a1 : decide (((n - (rem + 1) : Nat) : Int) < (n : Int)) = true := decide_eq_true (by omega)
          have a2 : (!decide (((n - (rem + 1) : Nat) : Int) < 0)) = true := by rw [decide_eq_false (by omega)]; rfl
          have a3 : IntKind.wrap .i64 (((left + 1 : Nat) : Int) - 1) = (left : Int) := by rw [wr (by omega) (by omega)]; omega
          have a4 : IntKind.wrap .i64 (((n - (rem + 1) : Nat) : Int) + 1) = ((n - rem : Nat) : Int) := by rw [wr (by omega) (by omega)]; omega
          simp only [a1, a2, a3, a4, cond_true, Int.toNat_natCast]
          rw [shl_nat (by omega), or_nat hnow (Nat.pow_lt_pow_right (by decide) (by omega)), e1]
          cases r <;> rfl
        cases r with
        | false =>
          refine ⟨false, u1, M1, 0, _, false, iter_out hstep, hM1, ?_, (fun h => by cases h), .inl ⟨rfl, rfl, rfl⟩⟩
          simp only [comb]
          exact hF1.cut _ rfl
        | true =>
          obtain ⟨r2, u2, M2, k2, i2, ret2, e2, hM2, hF2, hP2, hc⟩ := ih fuel M1 u1 ret (by omega) (by omega) (low_mono hlow (by omega)) hM1 (hP1 rfl)
          refine ⟨r2, u2, M2, k2, i2, ret2, ?_, hM2, ?_, hP2, hc⟩
          · rw [iter_one hstep]; exact e2
          · simp only [comb]
            exact hF1.app rfl hF2
    obtain ⟨r, u', M', k', i, ret', e, hM', hF, hPk, hc⟩ := loop rem 100000 M u false hr (by omega) hlow hM hP
    refine ⟨r, u', M', ?_, hM', hF, hPk⟩
    rw [h.step f ((left + 1 : Nat) : Int) _ _ M u (by omega), e]
    simp only [Option.bind_some]
    rcases hc with ⟨rfl, rfl, rfl⟩ | ⟨rfl, rfl⟩ <;> rfl
def allC (n most : Nat) : List Nat := (List.range (most + 1)).flatMap fun m => comb n n m 0
theorem low_zero (i : Nat) : low 0 i := fun j _ => by simp
theorem allC_succ (n m : Nat) : ((List.range (m + 1)).flatMap fun m => comb n n m 0) = ((List.range m).flatMap fun m => comb n n m 0) ++ comb n n m 0 := by
  rw [List.range_succ, List.flatMap_append]; simp
theorem Srch.all {B U C : Type} {n : Nat} {OK : List (E56 × E94) → Prop} {Pre : Nat → U → Prop} {E : Nat → Prop} {V : Nat → U → Bool → U → Prop} {pk : List (E56 × E94) → U → B} {fx : Nat → (Int × (Int × (Int × Unit))) × B → Option (Bool × B)} {stp : ((Int × (Int × (Int × Unit))) × B → Option (Bool × B)) → ((Int × (Int × (Bool × (Int × Unit)))) × B) → Option (Nat × ((Int × (Int × (Bool × (Int × Unit)))) × B))} (h : Srch n OK Pre E V pk fx stp)
    (p93 : List (E56 × E94) → U → C) (st93 : (Int × (Int × Unit)) × C → Option (Nat × ((Int × (Int × Unit)) × C))) (most : Nat) (hmost : most ≤ n)
    (h1 : ∀ (m1 many : Nat) M u r u' M', many < m1 → m1 ≤ 1000 → fx 64 (((many : Int), (0, (0, ()))), pk M u) = some (r, pk M' u') → st93 (((m1 : Int), ((many : Int), ())), p93 M u) = some (bif (!r) then (1, (((m1 : Int), ((many : Int), ())), p93 M' u')) else (0, (((m1 : Int), (((many + 1 : Nat) : Int), ())), p93 M' u'))))
    (h2 : ∀ (m1 : Nat) M u, st93 (((m1 : Int), ((m1 : Int), ())), p93 M u) = some (2, (((m1 : Int), ((m1 : Int), ())), p93 M u)))
    (M : List (E56 × E94)) (u : U) (hM : OK M) (hP : Pre (allC n most).length u) (fuel : Nat) (hfu : most + 1 < fuel) :
    ∃ k x r u' M', iter st93 fuel ((((most + 1 : Nat) : Int), (0, ())), p93 M u) = some (k, (x, p93 M' u')) ∧ OK M' ∧ Feed E V (allC n most) u r u' := by
  have hn := h.hn
  obtain ⟨k, q, e, x, r, u', M', rfl, hM', hF⟩ := iter_ex (step := st93) (n := most + 1)
    (fun i st => ∃ u' M', st = ((((most + 1 : Nat) : Int), ((i : Int), ())), p93 M' u') ∧ OK M' ∧ i ≤ most + 1 ∧ Feed E V ((List.range i).flatMap fun m => comb n n m 0) u true u' ∧ ∃ j, Pre j u' ∧ j + ((List.range i).flatMap fun m => comb n n m 0).length = (allC n most).length)
    (fun k q => ∃ x r u' M', q = (x, p93 M' u') ∧ OK M' ∧ Feed E V (allC n most) u r u')
    (by
      rintro i st ⟨u1, M1, rfl, hM1, hi', hF1, j, hj, hjl⟩ hi
      have hsplit : ∃ rest, (allC n most) = ((List.range i).flatMap fun m => comb n n m 0) ++ comb n n i 0 ++ rest := by
        unfold allC
        have : List.range (most + 1) = List.range (i + 1) ++ (List.range' (i + 1) (most - i)) := by
          rw [List.range_eq_range', List.range_eq_range', show most + 1 = (i + 1) + (most - i) by omega, ← List.range'_append]
          simp
        rw [this, List.flatMap_append, allC_succ]
        exact ⟨_, rfl⟩
      obtain ⟨rest, hrest⟩ := hsplit
      have hlen : j = (comb n n i 0).length + rest.length := by
        rw [hrest] at hjl
        simp only [List.length_append] at hjl
        omega
      have hcall := h.run 64 i n 0 M1 u1 rest.length (by omega) (by omega) (Nat.le_refl _) (low_zero _) hM1 (by rw [← hlen]; exact hj)
      rw [Nat.sub_self] at hcall
      obtain ⟨r, u2, M2, e2, hM2, hF2, hP2⟩ := hcall
      have hst := h1 (most + 1) i M1 u1 r u2 M2 hi (by omega) e2
      cases r with
      | false =>
        refine .inr ⟨0, _, hst, _, false, u2, M2, rfl, hM2, ?_⟩
        rw [hrest]
        exact (hF1.app rfl hF2).cut _ rfl
      | true =>
        refine .inl ⟨_, hst, u2, M2, rfl, hM2, by omega, ?_, rest.length, hP2 rfl, ?_⟩
        · rw [allC_succ]; exact hF1.app rfl hF2
        · rw [allC_succ, hrest]
          simp only [List.length_append]
          omega)
    (by
      rintro st ⟨u1, M1, rfl, hM1, _, hF1, _⟩
      exact ⟨1, _, h2 _ _ _, _, true, u1, M1, rfl, hM1, hF1⟩)
    (most + 1) 0 fuel ((((most + 1 : Nat) : Int), (((0 : Nat) : Int), ())), p93 M u) (by omega) hfu ⟨u, M, rfl, hM, by omega, .nil u, _, hP, by simp⟩
  exact ⟨k, x, r, u', M', e, hM', hF⟩
end Go.Proofs.YtibmgbalfhfcdaaDoor.Abs
set_option linter.unusedVariables false
set_option linter.unusedSimpArgs false
set_option maxRecDepth 100000
namespace Go.Proofs.YtibmgbalfhfcdaaDoor.Abs
open Classical
theorem beqn_f {a b : Int} (h : a = b) : (a != b) = false := by simp [h]
theorem beqn_t {a b : Int} (h : a ≠ b) : (a != b) = true := by simp [h]
def atN (s : E23) (i : Nat) : Nat := ((s.2.2.2.2.1).getD i 0).toNat
structure Sized (c : E26) (t : E30) : Prop where
  s : (c.1).length ≤ 12
  d : (c.2.1).length ≤ 12
  tt : (t.1).length ≤ 12
  tr : (t.2.1).length ≤ 12
  td : (t.2.2.1).length ≤ 12
theorem sized_tells (c : E26) (t : E30) : Tells (G12 c t) (Sized c t) := by
  unfold G12
  have h := tells_cond (p := ((c.1).length : Int) ≤ 12) (fun _ => tells_cond (p := ((c.2.1).length : Int) ≤ 12) (fun _ => tells_cond (p := ((t.1).length : Int) ≤ 12) (fun _ => tells_cond (p := ((t.2.1).length : Int) ≤ 12) (fun _ => tells_dec (p := ((t.2.2.1).length : Int) ≤ 12)))))
  exact h.iff ⟨fun h => ⟨by omega, by omega, by omega, by omega, by omega⟩, fun h => by have := h.s; have := h.d; have := h.tt; have := h.tr; have := h.td; omega⟩
end Go.Proofs.YtibmgbalfhfcdaaDoor.Abs
set_option linter.unusedVariables false
set_option linter.unusedSimpArgs false
set_option maxRecDepth 100000
namespace Go.Proofs.YtibmgbalfhfcdaaDoor.Abs
open Classical
theorem given_eq (s : E23) (l : List E72) (c : E26) (h0 : l.length < 2 ^ 62) (h1 : (c.1).length < 2 ^ 62) (h2 : (c.2.1).length < 2 ^ 62) :
    (24 < l.length ∧ G49 s l c = some (.inl (((), (3, ())), (c, ())))) ∨ (l.length ≤ 24 ∧ ¬ (SlOk s l ∧ CauseOk s c) ∧ G49 s l c = some (.inl (((), (2, ())), (c, ())))) ∨ (SlOk s l ∧ CauseOk s c ∧ G49 s l c = some (.inr (((), (0, ())), (c, (s, ([], (XX s l, ()))))))) := by
  unfold G49
  by_cases hl : l.length ≤ 24
  case neg =>
    rw [decide_eq_true (p := (l.length : Int) > 24) (by omega)]
    exact .inl ⟨by omega, rfl⟩
  right
  rw [decide_eq_false (p := (l.length : Int) > 24) (by omega), cond_false]
  by_cases hs : StrOk s
  case neg =>
    rw [(valid_tells s).nval hs]
    exact .inl ⟨hl, fun h => hs h.1.2.1, rfl⟩
  rw [(valid_tells s).val hs]
  simp only [Option.bind_some, Bool.not_true, cond_false]
  rw [cf81 l s hs h0]
  simp only [Option.bind_some]
  cases ha : l.any (fun r => !decide (RdOk s r)) with
  | true =>
    refine .inl ⟨hl, fun h => ?_, rfl⟩
    rw [List.any_eq_true] at ha
    obtain ⟨x, hx, hx'⟩ := ha
    rw [decide_eq_true (h.1.2.2 x hx)] at hx'
    cases hx'
  | false =>
    have hr : RdsOk s l := by
      intro r hr
      have := List.any_eq_false.1 ha r hr
      simpa using this
    simp only [cond_false]
    rcases bits_eq hs l c h1 h2 with ⟨hc, e, _⟩ | ⟨hc, e⟩
    · have e' : G50 (s, (l, ((), ()))) c [] = some (true, (XX s l, (c, ([], ())))) := by
        unfold G50
        rw [show G51 ((s, (l, ((), ()))).1, ((s, (l, ((), ()))).2.1, ((), (s, (l, ((), ()))).2.2.2))) c = _ from e]
        rfl
      rw [e']
      exact .inr ⟨⟨hl, hs, hr⟩, hc, rfl⟩
    · have e' : G50 (s, (l, ((), ()))) c [] = some (false, (XX s l, (c, ([], ())))) := by
        unfold G50
        rw [show G51 ((s, (l, ((), ()))).1, ((s, (l, ((), ()))).2.1, ((), (s, (l, ((), ()))).2.2.2))) c = _ from e]
        rfl
      rw [e']
      exact .inl ⟨hl, fun h => hc h.2, rfl⟩
theorem sexplains_eq (s : E23) (l : List E72) (c : E26) (h0 : l.length < 2 ^ 62) (h1 : (c.1).length < 2 ^ 62) (h2 : (c.2.1).length < 2 ^ 62) :
    (24 < l.length ∧ G16 s l c = some (false, (3, ()))) ∨ (l.length ≤ 24 ∧ ¬ (SlOk s l ∧ CauseOk s c) ∧ G16 s l c = some (false, (2, ()))) ∨ (SlOk s l ∧ CauseOk s c ∧ ∃ b, G16 s l c = some (b, (0, ())) ∧ (b = true ↔ Ex s l (bitsOf s c))) := by
  unfold G16
  rcases given_eq s l c h0 h1 h2 with ⟨h, e⟩ | ⟨h, h', e⟩ | ⟨hsl, hc, e⟩
  · rw [e]; exact .inl ⟨h, rfl⟩
  · rw [e]; exact .inr (.inl ⟨h, h', rfl⟩)
  · rw [e]
    refine .inr (.inr ⟨hsl, hc, ?_⟩)
    rcases bits_eq hsl.2.1 l c h1 h2 with ⟨_, eb, hb⟩ | ⟨hn, _⟩
    · obtain ⟨r, M', ee, hr, _⟩ := explains_eq hsl.2.1 hsl.2.2 (by have := hsl.1; omega) hb (memo_nil s l)
      show ∃ b, (Option.bind (G51 (XX s l) c) fun r5 => Option.bind (G52 r5.1 (XX s l) []) fun r6 => some (r6.1, ((0 : Int), ()))) = some (b, (0, ())) ∧ (b = true ↔ Ex s l (bitsOf s c))
      rw [eb]
      simp only [Option.bind_some]
      rw [ee]
      exact ⟨r, rfl, hr⟩
    · exact absurd hc hn
theorem DC.bd {s : E23} {l : List E72} (hs : StrOk s) {b d : Nat} {m T : Int} (h : DC s l b d m T) : (-20 ≤ m ∧ m ≤ 20) ∧ 2000 ≤ T ∧ T ≤ 3200 := by
  have := moD_bd hs b d
  have h1 := h.1
  exact ⟨by omega, h.2.1⟩
theorem SpanIs.low {s : E23} {l : List E72} (hs : StrOk s) {b d : Nat} {m : Int} {q : E56} (h : SpanIs s l b d m q) : (0 ≤ q.1 ∧ DC s l b d m q.1 ∧ ∀ T, DC s l b d m T → q.1 ≤ T) ∨ (q.1 = -1 ∧ ∀ T, ¬ DC s l b d m T) := by
  rcases h with ⟨h1, h2, h3⟩ | ⟨h1, rfl⟩
  · exact .inl ⟨by have := (h1.bd hs).2; omega, h1, fun T hT => (h3 T hT).1⟩
  · exact .inr ⟨rfl, h1⟩
end Go.Proofs.YtibmgbalfhfcdaaDoor.Abs
set_option linter.unusedVariables false
set_option linter.unusedSimpArgs false
set_option maxRecDepth 100000
namespace Go.Proofs.YtibmgbalfhfcdaaDoor.Abs
open Classical
theorem rising_mem {L : List Int} {B x : Int} (h : Rising L B) (hx : x ∈ L) : 0 ≤ x ∧ x < B := by
  obtain ⟨i, hi, rfl⟩ := mem_getD.1 hx
  exact (h i hi).1
theorem bit_s {s : E23} {c : E26} (hc : CauseOk s c) {i : Nat} (hi : i < (s.2.2.2.2.1).length) : (bitsOf s c).testBit i = decide ((i : Int) ∈ c.1) := by
  rw [bitsOf_bit hc]
  have : decide ((s.2.2.2.2.1).length ≤ i ∧ ((i - (s.2.2.2.2.1).length : Nat) : Int) ∈ c.2.1) = false := decide_eq_false fun h => by omega
  rw [this, Bool.or_false]
theorem bit_d {s : E23} {c : E26} (hc : CauseOk s c) (d : Nat) : (bitsOf s c).testBit ((s.2.2.2.2.1).length + d) = decide ((d : Int) ∈ c.2.1) := by
  rw [bitsOf_bit hc]
  have h1 : decide ((((s.2.2.2.2.1).length + d : Nat) : Int) ∈ c.1) = false := decide_eq_false fun h => by have := rising_mem hc.1 h; omega
  have h2 : (s.2.2.2.2.1).length + d - (s.2.2.2.2.1).length = d := by omega
  rw [h1, h2, Bool.false_or, decide_eq_decide]
  exact ⟨fun h => h.2, fun h => ⟨by omega, h⟩⟩
structure For (s : E23) (l : List E72) (b : Nat) (t : E30) : Prop where
  lt : (t.1).length = (s.2.2.2.1).toNat
  lr : (t.2.1).length = (s.2.2.2.1).toNat
  ld : (t.2.2.1).length = (s.2.2.2.2.1).length
  ft : ∀ d, d < (s.2.2.2.1).toNat → 2000 ≤ (t.1).getD d 0 ∧ (t.1).getD d 0 ≤ 3200
  fr : ∀ d, d < (s.2.2.2.1).toNat → -(moD s b d) ≤ (t.2.1).getD d 0 ∧ (t.2.1).getD d 0 ≤ moD s b d
  fd : ∀ i, i < (s.2.2.2.2.1).length → (-(moS s b i) ≤ (t.2.2.1).getD i 0 ∧ (t.2.2.1).getD i 0 ≤ moS s b i) ∧ agr s l i ((t.1).getD (atN s i) 0) ((t.2.1).getD (atN s i) 0 + (t.2.2.1).getD i 0) = true
theorem For.dc {s : E23} {l : List E72} {b : Nat} {t : E30} (h : For s l b t) {d : Nat} (hd : d < (s.2.2.2.1).toNat) : DC s l b d ((t.2.1).getD d 0) ((t.1).getD d 0) :=
  ⟨h.fr d hd, h.ft d hd, fun i hi he => by
    have e : atN s i = d := by unfold atN; rw [he]; simp
    have := h.fd i hi
    rw [e] at this
    exact ⟨_, this.1.1, this.1.2, this.2⟩⟩
theorem For.ex {s : E23} {l : List E72} {b : Nat} {t : E30} (h : For s l b t) : Ex s l b := fun d hd => ⟨_, _, h.dc (d := d) (by omega)⟩
inductive Pos
  | t (k : Nat)
  | r (k : Nat)
  | d (i : Nat)
def Pos.val (t : E30) : Pos → Int
  | .t k => (t.1).getD k 0
  | .r k => (t.2.1).getD k 0
  | .d i => (t.2.2.1).getD i 0
def Pos.need (s : E23) : Pos → List Pos
  | .t _ => []
  | .r k => [.t k]
  | .d i => [.t (atN s i), .r (atN s i)]
def Pos.ok (s : E23) : Pos → Prop
  | .t k => k < (s.2.2.2.1).toNat
  | .r k => k < (s.2.2.2.1).toNat
  | .d i => i < (s.2.2.2.2.1).length
end Go.Proofs.YtibmgbalfhfcdaaDoor.Abs
set_option linter.unusedVariables false
set_option linter.unusedSimpArgs false
set_option maxRecDepth 100000
namespace Go.Proofs.YtibmgbalfhfcdaaDoor.Abs
open Classical
abbrev UL : Type := Nat × (List E26 × Int)
def pkL (s : E23) (l : List E72) (M : List (E56 × E94)) (u : UL) : E123 × ((Nat × UT45) × ((List (E56 × E94)) × ((List E26) × (Int × Unit)))) := (XX s l, ((u.1, UC45), (M, (u.2.1, (u.2.2, ())))))
def VL (s : E23) (b : Nat) (u : UL) (r : Bool) (u' : UL) : Prop := (0 ≤ u.2.2 ∧ u.2.2 < ((cnt b 60 : Nat) : Int) ∧ r = false ∧ u' = (4, u.2)) ∨ (¬ (0 ≤ u.2.2 ∧ u.2.2 < ((cnt b 60 : Nat) : Int)) ∧ r = true ∧ u' = (0, (u.2.1 ++ [causeOf s b], ((cnt b 60 : Nat) : Int))))
def PreL (k : Nat) (u : UL) : Prop := u.1 = 0 ∧ u.2.1.length + k ≤ 5000
theorem low_60 {b n : Nat} (h : low b n) (hn : n ≤ 20) : low b 60 ∧ b < 2 ^ 62 := ⟨low_mono h (by omega), Nat.lt_of_lt_of_le (low_lt h) (Nat.pow_le_pow_right (by decide) (by omega))⟩
theorem r0L {s : E23} (hs : StrOk s) (l : List E72) {b n : Nat} (hb : low b n) (hn : n ≤ 20) (M : List (E56 × E94)) (out : List E26) (least : Int) (ho : out.length ≤ 5000) :
    ∃ r u', G25 b (0, UC45) out least (XX s l) M = some (r, ((u'.1, UC45), (u'.2.1, (u'.2.2, (XX s l, (M, ())))))) ∧ VL s b (0, (out, least)) r u' := by
  obtain ⟨h60, h62⟩ := low_60 hb hn
  have hsz := size_eq h60
  have hca := cause_eq hs l h62
  have hl : decide (out.length + List.length [causeOf s b] ≤ LIM) = true := lim_ok (by omega) (by simp)
  unfold G25
  simp only [natK]
  by_cases h0 : least ≥ 0
  · rw [decide_eq_true h0, cond_true, hsz]
    simp only [Option.bind_some]
    by_cases h1 : ((cnt b 60 : Nat) : Int) > least
    · rw [decide_eq_true h1, cond_true]
      exact ⟨false, (4, (out, least)), rfl, .inl ⟨h0, h1, rfl, rfl⟩⟩
    · rw [decide_eq_false h1, cond_false]
      rw [show G66 ((XX s l).1, ((XX s l).2.1, ((), (XX s l).2.2.2))) (b : Int) = _ from hca]
      simp only [Option.bind_some, hl, cond_true]
      exact ⟨true, (0, (out ++ [causeOf s b], ((cnt b 60 : Nat) : Int))), rfl, .inr ⟨fun h => h1 h.2, rfl, rfl⟩⟩
  · rw [decide_eq_false h0, cond_false, hsz]
    simp only [Option.bind_some]
    rw [show G66 ((XX s l).1, ((XX s l).2.1, ((), (XX s l).2.2.2))) (b : Int) = _ from hca]
    simp only [Option.bind_some, hl, cond_true]
    exact ⟨true, (0, (out ++ [causeOf s b], ((cnt b 60 : Nat) : Int))), rfl, .inr ⟨fun h => h0 h.1, rfl, rfl⟩⟩
theorem nC_le {s : E23} (hs : StrOk s) : nC s ≤ 10 := by
  have h1 := hs.len
  have h2 := hs.depths
  unfold nC; omega
theorem srchL {s : E23} {l : List E72} (hs : StrOk s) (hl : RdsOk s l) (hn : l.length ≤ 1000) : Srch (nC s) (MemoOk s l) PreL (Ex s l) (VL s) (pkL s l) G94_fix G94_l0_step where
  hn := by have := nC_le hs; omega
  base := by
    rintro f from_ now M ⟨k0, out, least⟩ k hlow hM ⟨hk0, hP⟩
    have hn10 := nC_le hs
    obtain ⟨h60, h62⟩ := low_60 hlow (by omega)
    simp only at hk0 hP
    subst hk0
    obtain ⟨r, M', e, hr, hM'⟩ := explains_eq hs hl hn h62 hM
    show ∃ r u' M', G94_b (G94_fix f) 0 from_ now (XX s l) (0, UC45) M out least = some (r, pkL s l M' u') ∧ _
    unfold G94_b
    have e0 : ((0 : Int) == 0) = true := rfl
    simp only [e0, cond_true]
    rw [show G52 (now : Int) ((XX s l).1, ((XX s l).2.1, ((), (XX s l).2.2.2))) M = _ from e]
    simp only [Option.bind_some]
    cases r with
    | false => exact ⟨true, (0, (out, least)), M', rfl, hM', .inl ⟨(fun h => by have := hr.2 h; cases this), rfl, rfl⟩⟩
    | true =>
      simp only [Bool.not_true, cond_false]
      obtain ⟨r2, u', e2, hv⟩ := r0L hs l hlow (by omega) M' out least (by omega)
      rw [show G25 (now : Int) (0, UC45) out least ((XX s l).1, ((XX s l).2.1, ((), (XX s l).2.2.2))) M' = _ from e2]
      exact ⟨r2, u', M', rfl, hM', .inr ⟨hr.1 rfl, hv⟩⟩
  pre := by
    rintro b ⟨k0, out, least⟩ u' k hv ⟨hk0, hP⟩
    rcases hv with ⟨_, _, h, _⟩ | ⟨_, _, rfl⟩
    · cases h
    · exact ⟨rfl, by simp only [List.length_append, List.length_singleton]; simp only at hP; omega⟩
  mono := fun u k h => ⟨h.1, by have := h.2; omega⟩
  step := by
    rintro f left from_ now M ⟨k0, out, least⟩ hleft
    show G94_b (G94_fix f) left from_ now (XX s l) (k0, UC45) M out least = _
    unfold G94_b
    rw [beq_eq_false_iff_ne.2 hleft, cond_false]
    rfl
  stp_ := by
    rintro rc ⟨left, now, ret, i, _⟩ M ⟨k0, out, least⟩
    unfold G94_l0_step srchStp pkL
    rw [show G64 ((XX s l).1, ((XX s l).2.1, ((), (XX s l).2.2.2))) = _ from many_eq hs l]
    rfl
def p93L (s : E23) (l : List E72) (most : Int) (M : List (E56 × E94)) (u : UL) : (Nat × UT45) × (Int × ((List E26) × (Int × (E123 × ((List (E56 × E94)) × Unit))))) := ((u.1, UC45), (most, (u.2.1, (u.2.2, (XX s l, (M, ()))))))
theorem allC_len : ∀ n, n ≤ 10 → ∀ most, most ≤ n → (allC n most).length ≤ 3000 := by
  intro n hn most hm
  have h1 : ∀ m, ((List.range m).flatMap fun m => comb n n m 0).length ≤ m * 2 ^ n := by
    intro m
    induction m with
    | zero => simp
    | succ m ih =>
      rw [allC_succ, List.length_append, Nat.succ_mul]
      have := comb_len n n m 0
      omega
  have h2 := h1 (most + 1)
  unfold allC
  by_cases hn8 : n ≤ 8
  · have h3 : 2 ^ n ≤ 2 ^ 8 := Nat.pow_le_pow_right (by decide) hn8
    have h4 : (most + 1) * 2 ^ n ≤ 9 * 2 ^ 8 := Nat.mul_le_mul (by omega) h3
    omega
  · exact Nat.le_trans (Nat.le_refl _) (by
      have : n = 9 ∨ n = 10 := by omega
      rcases this with rfl | rfl
      · have : most = 0 ∨ most = 1 ∨ most = 2 ∨ most = 3 ∨ most = 4 ∨ most = 5 ∨ most = 6 ∨ most = 7 ∨ most = 8 ∨ most = 9 := by omega
        rcases this with rfl | rfl | rfl | rfl | rfl | rfl | rfl | rfl | rfl | rfl <;> decide +kernel
      · have : most = 0 ∨ most = 1 ∨ most = 2 ∨ most = 3 ∨ most = 4 ∨ most = 5 ∨ most = 6 ∨ most = 7 ∨ most = 8 ∨ most = 9 ∨ most = 10 := by omega
        rcases this with rfl | rfl | rfl | rfl | rfl | rfl | rfl | rfl | rfl | rfl | rfl <;> decide +kernel)
theorem all93L {s : E23} {l : List E72} (hs : StrOk s) (hl : RdsOk s l) (hn : l.length ≤ 1000) {M : List (E56 × E94)} (hM : MemoOk s l M) :
    ∃ r u' M', G93 (0, UC45) ((nC s : Nat) : Int) [] (-1) (XX s l) M = some ((), p93L s l ((nC s : Nat) : Int) M' u') ∧ Feed (Ex s l) (VL s) (allC (nC s) (nC s)) (0, ([], -1)) r u' := by
  have hn10 := nC_le hs
  have hlen := allC_len (nC s) hn10 (nC s) (Nat.le_refl _)
  obtain ⟨k, x, r, u', M', e, hM', hF⟩ := (srchL hs hl hn).all (p93L s l ((nC s : Nat) : Int)) G93_l0_step (nC s) (Nat.le_refl _)
    (by
      rintro m1 many M ⟨k0, out, least⟩ r ⟨k1, out1, least1⟩ M' hlt hm1 e
      unfold G93_l0_step p93L
      simp only [lt_int hlt, cond_true]
      rw [show G94 (many : Int) 0 0 ((XX s l).1, ((XX s l).2.1, ((), (XX s l).2.2.2))) (k0, UC45) M out least = _ from e]
      simp only [Option.bind_some, wr1 (i := many) (by omega)]
      cases r <;> rfl)
    (by
      rintro m1 M ⟨k0, out, least⟩
      unfold G93_l0_step p93L
      simp only [nlt_int, cond_false]) M (0, ([], -1)) hM ⟨rfl, by simp only [List.length_nil]; omega⟩ (nC s + 2) (by omega)
  unfold G93
  rw [wr1 (i := nC s) (by omega)]
  have hfu : G93_l0_fuel ((((nC s + 1 : Nat) : Int), (0, ())), ((0, UC45), (((nC s : Nat) : Int), ([], (-1, (XX s l, (M, ()))))))) = nC s + 2 := by unfold G93_l0_fuel; simp only; omega
  rw [show G93_l0_run ((((nC s + 1 : Nat) : Int), (0, ())), ((0, UC45), (((nC s : Nat) : Int), ([], (-1, (((XX s l).1, ((XX s l).2.1, ((), (XX s l).2.2.2))), (M, ()))))))) = iter G93_l0_step (G93_l0_fuel ((((nC s + 1 : Nat) : Int), (0, ())), ((0, UC45), (((nC s : Nat) : Int), ([], (-1, (XX s l, (M, ())))))))) ((((nC s + 1 : Nat) : Int), (0, ())), p93L s l ((nC s : Nat) : Int) M (0, ([], -1))) from rfl, hfu, e]
  refine ⟨r, u', M', ?_, hF⟩
  obtain ⟨k1, out1, least1⟩ := u'
  cases k <;> rfl
theorem Feed.split {U : Type} {E : Nat → Prop} {V : Nat → U → Bool → U → Prop} : ∀ {xs ys : List Nat} {u u' : U} {r : Bool}, Feed E V (xs ++ ys) u r u' → (∃ u1, Feed E V xs u true u1 ∧ Feed E V ys u1 r u') ∨ (r = false ∧ Feed E V xs u false u')
  | [], ys, u, u', r, h => .inl ⟨u, .nil u, h⟩
  | x :: xs, ys, u, u', r, h => by
    cases h with
    | skip a h =>
      rcases Feed.split h with ⟨u1, h1, h2⟩ | ⟨rfl, h1⟩
      · exact .inl ⟨u1, .skip a h1, h2⟩
      · exact .inr ⟨rfl, .skip a h1⟩
    | go a b h =>
      rcases Feed.split h with ⟨u1, h1, h2⟩ | ⟨rfl, h1⟩
      · exact .inl ⟨u1, .go a b h1, h2⟩
      · exact .inr ⟨rfl, .go a b h1⟩
    | stop a b => exact .inr ⟨rfl, .stop a b⟩
noncomputable def exs (s : E23) (l : List E72) (xs : List Nat) : List Nat := xs.filter fun b => decide (Ex s l b)
theorem exs_mem {s : E23} {l : List E72} {xs : List Nat} {b : Nat} : b ∈ exs s l xs ↔ b ∈ xs ∧ Ex s l b := by unfold exs; simp
theorem feedL_new {s : E23} {l : List E72} {m : Nat} : ∀ (xs : List Nat), (∀ b ∈ xs, cnt b 60 = m) → ∀ (out : List E26) (least : Int) (r : Bool) (u' : UL), ¬ (0 ≤ least ∧ least < (m : Int)) → Feed (Ex s l) (VL s) xs (0, (out, least)) r u' → r = true ∧ u' = (0, (out ++ (exs s l xs).map (causeOf s), if exs s l xs = [] then least else (m : Int)))
  | [], _, out, least, r, u', _, h => by
    cases h
    exact ⟨rfl, by simp [exs]⟩
  | x :: xs, hx, out, least, r, u', hl, h => by
    have hxs := fun b hb => hx b (List.mem_cons_of_mem _ hb)
    have hm := hx x (List.mem_cons_self ..)
    cases h with
    | skip a h =>
      have e : exs s l (x :: xs) = exs s l xs := by unfold exs; rw [List.filter_cons_of_neg (by simpa using a)]
      rw [e]
      exact feedL_new xs hxs out least r u' hl h
    | go a b h =>
      have e : exs s l (x :: xs) = x :: exs s l xs := by unfold exs; rw [List.filter_cons_of_pos (by simpa using a)]
      rw [e]
      rcases b with ⟨_, _, h', _⟩ | ⟨_, _, rfl⟩
      · cases h'
      · rw [hm] at h
        obtain ⟨h1, h2⟩ := feedL_new xs hxs _ _ r u' (by omega) h
        refine ⟨h1, ?_⟩
        rw [h2]
        simp only [List.map_cons, List.append_assoc, List.singleton_append, if_neg (List.cons_ne_nil _ _)]
        split <;> rfl
    | stop a b =>
      rcases b with ⟨h1, h2, _, _⟩ | ⟨_, h', _⟩
      · simp only [hm] at h1 h2
        exact absurd ⟨h1, h2⟩ hl
      · cases h'
theorem feedL_old {s : E23} {l : List E72} {m : Nat} : ∀ (xs : List Nat), (∀ b ∈ xs, cnt b 60 = m) → ∀ (out : List E26) (least : Int) (r : Bool) (u' : UL), (0 ≤ least ∧ least < (m : Int)) → Feed (Ex s l) (VL s) xs (0, (out, least)) r u' → (r = true ∧ u' = (0, (out, least))) ∨ (r = false ∧ u' = (4, (out, least)))
  | [], _, out, least, r, u', _, h => by
    cases h
    exact .inl ⟨rfl, rfl⟩
  | x :: xs, hx, out, least, r, u', hl, h => by
    have hxs := fun b hb => hx b (List.mem_cons_of_mem _ hb)
    have hm := hx x (List.mem_cons_self ..)
    cases h with
    | skip a h => exact feedL_old xs hxs out least r u' hl h
    | go a b h =>
      rcases b with ⟨_, _, h', _⟩ | ⟨h', _, _⟩
      · cases h'
      · exact absurd (by rw [hm]; exact hl) h'
    | stop a b =>
      rcases b with ⟨h1, h2, _, h3⟩ | ⟨_, h', _⟩
      · exact .inr ⟨rfl, h3⟩
      · cases h'
theorem comb_in {n m b : Nat} (hn : n ≤ 20) (h : b ∈ comb n n m 0) : low b n ∧ cnt b n = m ∧ cnt b 60 = m := by
  have h1 := comb_low n n m 0 (Nat.le_refl _) (low_zero _) b h
  have h2 := comb_cnt n n m 0 (Nat.le_refl _) (low_zero _) b h
  have h3 : cnt 0 n = 0 := by
    have : ∀ k, cnt 0 k = 0 := fun k => by
      induction k with
      | zero => rfl
      | succ k ih => simp [cnt, ih]
    exact this n
  have h4 := cnt_low h1 60 (by omega)
  exact ⟨h1, by omega, by omega⟩
theorem feedL_all {s : E23} {l : List E72} {n : Nat} (hn : n ≤ 20) : ∀ (i : Nat) (r : Bool) (u' : UL), Feed (Ex s l) (VL s) ((List.range i).flatMap fun m => comb n n m 0) (0, ([], -1)) r u' →
    (r = true ∧ u' = (0, ([], -1)) ∧ ∀ m, m < i → exs s l (comb n n m 0) = []) ∨ (∃ m, m < i ∧ (∀ m', m' < m → exs s l (comb n n m' 0) = []) ∧ exs s l (comb n n m 0) ≠ [] ∧ ((r = true ∧ u' = (0, ((exs s l (comb n n m 0)).map (causeOf s), (m : Int)))) ∨ (r = false ∧ u' = (4, ((exs s l (comb n n m 0)).map (causeOf s), (m : Int))))))
  | 0, r, u', h => by
    simp only [List.range_zero, List.flatMap_nil] at h
    cases h
    exact .inl ⟨rfl, rfl, fun m hm => absurd hm (by omega)⟩
  | i + 1, r, u', h => by
    rw [allC_succ] at h
    have hc : ∀ b ∈ comb n n i 0, cnt b 60 = i := fun b hb => (comb_in hn hb).2.2
    rcases Feed.split h with ⟨u1, h1, h2⟩ | ⟨rfl, h1⟩
    · rcases feedL_all hn i true u1 h1 with ⟨_, rfl, h3⟩ | ⟨m, hm, h3, h4, ⟨_, rfl⟩ | ⟨h5, _⟩⟩
      · obtain ⟨rfl, h5⟩ := feedL_new _ hc [] (-1) r u' (by omega) h2
        by_cases he : exs s l (comb n n i 0) = []
        · left
          rw [if_pos he, he] at h5
          refine ⟨rfl, h5, fun m hm => ?_⟩
          rcases Nat.lt_succ_iff_lt_or_eq.1 hm with h | h
          · exact h3 m h
          · subst h; exact he
        · right
          rw [if_neg he] at h5
          exact ⟨i, by omega, h3, he, .inl ⟨rfl, by rw [h5]; rfl⟩⟩
      · right
        refine ⟨m, by omega, h3, h4, ?_⟩
        exact feedL_old _ hc _ _ r u' (by omega) h2
      · cases h5
    · rcases feedL_all hn i false u' h1 with ⟨h3, _⟩ | ⟨m, hm, h3, h4, h5⟩
      · cases h3
      · exact .inr ⟨m, by omega, h3, h4, h5⟩
theorem given2_eq (s : E23) (l : List E72) (h0 : l.length < 2 ^ 62) :
    (24 < l.length ∧ G49_v2 s l = some (.inl (((), (3, ())), ()))) ∨ (l.length ≤ 24 ∧ ¬ SlOk s l ∧ G49_v2 s l = some (.inl (((), (2, ())), ()))) ∨ (SlOk s l ∧ G49_v2 s l = some (.inr (((), (0, ())), (s, ([], (XX s l, ())))))) := by
  unfold G49_v2
  by_cases hl : l.length ≤ 24
  case neg =>
    rw [decide_eq_true (p := (l.length : Int) > 24) (by omega)]
    exact .inl ⟨by omega, rfl⟩
  right
  rw [decide_eq_false (p := (l.length : Int) > 24) (by omega), cond_false]
  by_cases hs : StrOk s
  case neg =>
    rw [(valid_tells s).nval hs]
    exact .inl ⟨hl, fun h => hs h.2.1, rfl⟩
  rw [(valid_tells s).val hs]
  simp only [Option.bind_some, Bool.not_true, cond_false]
  rw [cf81 l s hs h0]
  simp only [Option.bind_some]
  cases ha : l.any (fun r => !decide (RdOk s r)) with
  | true =>
    refine .inl ⟨hl, fun h => ?_, rfl⟩
    rw [List.any_eq_true] at ha
    obtain ⟨x, hx, hx'⟩ := ha
    rw [decide_eq_true (h.2.2 x hx)] at hx'
    cases hx'
  | false =>
    have hr : RdsOk s l := by
      intro r hr
      have := List.any_eq_false.1 ha r hr
      simpa using this
    exact .inr ⟨⟨hl, hs, hr⟩, rfl⟩
def LeastOut (s : E23) (l : List E72) (out : List E26) : Prop := ∃ m, m ≤ nC s ∧ (∀ m', m' < m → exs s l (comb (nC s) (nC s) m' 0) = []) ∧ exs s l (comb (nC s) (nC s) m 0) ≠ [] ∧ out = (exs s l (comb (nC s) (nC s) m 0)).map (causeOf s)
theorem sleast_eq (s : E23) (l : List E72) (h0 : l.length < 2 ^ 62) :
    (24 < l.length ∧ g25_sense_Least s l = some ([], (3, ()))) ∨ (l.length ≤ 24 ∧ ¬ SlOk s l ∧ g25_sense_Least s l = some ([], (2, ()))) ∨ (SlOk s l ∧ (((∀ m, m ≤ nC s → exs s l (comb (nC s) (nC s) m 0) = []) ∧ g25_sense_Least s l = some ([], (5, ()))) ∨ (∃ out, LeastOut s l out ∧ g25_sense_Least s l = some (out, (0, ()))))) := by
  unfold g25_sense_Least
  rcases given2_eq s l h0 with ⟨h, e⟩ | ⟨h, h', e⟩ | ⟨hsl, e⟩
  · rw [e]; exact .inl ⟨h, rfl⟩
  · rw [e]; exact .inr (.inl ⟨h, h', rfl⟩)
  · rw [e]
    refine .inr (.inr ⟨hsl, ?_⟩)
    have hn : l.length ≤ 1000 := by have := hsl.1; omega
    obtain ⟨r, u', M', e2, hF⟩ := all93L hsl.2.1 hsl.2.2 hn (memo_nil s l)
    have hn10 := nC_le hsl.2.1
    simp only [Option.bind_some, altK]
    have e0 : ((0 : Int) != 0) = false := rfl
    simp only [e0, cond_false]
    rw [show G64 ((XX s l).1, ((XX s l).2.1, ((), (XX s l).2.2.2))) = _ from many_eq hsl.2.1 l]
    simp only [Option.bind_some, G63]
    rw [show G93 (0, UC45) ((nC s : Nat) : Int) [] (-1) ((XX s l).1, ((XX s l).2.1, ((), (XX s l).2.2.2))) [] = _ from e2]
    simp only [Option.bind_some, p93L]
    have e00 : ((0 : Nat) == 0) = true := rfl
    have e40 : ((4 : Nat) == 0) = false := rfl
    have e44 : ((4 : Nat) == 4) = true := rfl
    rcases feedL_all (n := nC s) (by omega) (nC s + 1) r u' hF with ⟨_, rfl, h3⟩ | ⟨m, hm, h3, h4, h5⟩
    · left
      refine ⟨fun m hm => h3 m (by omega), ?_⟩
      rfl
    · right
      refine ⟨_, ⟨m, by omega, h3, h4, rfl⟩, ?_⟩
      have hne : (((exs s l (comb (nC s) (nC s) m 0)).map (causeOf s)).length : Int) ≠ 0 := by
        rw [List.length_map]
        have := List.length_pos_iff.2 h4
        omega
      rcases h5 with ⟨_, rfl⟩ | ⟨_, rfl⟩
      · simp only [e00, cond_true, beq_eq_false_iff_ne.2 hne, cond_false]
      · simp only [e40, e44, cond_true, beq_eq_false_iff_ne.2 hne, cond_false]
end Go.Proofs.YtibmgbalfhfcdaaDoor.Abs
set_option linter.unusedVariables false
set_option linter.unusedSimpArgs false
set_option maxRecDepth 100000
namespace Go.Proofs.YtibmgbalfhfcdaaDoor.Abs
open Classical
end Go.Proofs.YtibmgbalfhfcdaaDoor.Abs
set_option linter.unusedVariables false
set_option linter.unusedSimpArgs false
set_option maxRecDepth 100000
namespace Go.Proofs.YtibmgbalfhfcdaaDoor.Abs
open Classical
theorem list_eq {a b : List Int} (h : a.length = b.length) (h2 : ∀ i, i < a.length → a.getD i 0 = b.getD i 0) : a = b := by
  apply List.ext_getElem h
  intro i h1 h3
  have := h2 i h1
  rwa [List.getD_eq_getElem?_getD, List.getD_eq_getElem?_getD, List.getElem?_eq_getElem h1, List.getElem?_eq_getElem h3] at this
theorem same_tells (a b : List Int) (h1 : a.length < 2 ^ 62) : Tells (G57 a b) (a = b) := by
  unfold G57
  by_cases h : a.length = b.length
  case neg =>
    rw [beqn_t (a := (a.length : Int)) (b := (b.length : Int)) (by omega)]
    exact tells_f fun e => h (by rw [e])
  rw [beqn_f (a := (a.length : Int)) (b := (b.length : Int)) (by omega), cond_false]
  have key := iter_fn (step := G57_l0_step) (n := a.length) (k1 := 0) (k2 := 1) (fuel := G57_l0_fuel ((a, (b, (false, (0, ())))), ()))
    (bad := fun i => a.getD i 0 != b.getD i 0)
    (fun i => ((a, (b, (false, ((i : Int), ())))), ())) (fun i => ((a, (b, (false, ((i : Int), ())))), ())) ((a, (b, (false, ((a.length : Int), ())))), ()) (fun i hi => by
      unfold G57_l0_step
      simp only [lt_int hi, lt_int (show i < b.length by omega), ge0, Bool.and_self, cond_true, getD_toNat, wr1 (i := i) (by omega)]
      cases a.getD i 0 != b.getD i 0 <;> rfl) (by
      unfold G57_l0_step
      simp only [nlt_int, cond_false]) (by unfold G57_l0_fuel; simp)
  rcases key with ⟨j, hj, hb, _, he⟩ | ⟨hall, he⟩
  · rw [show G57_l0_run ((a, (b, (false, (0, ())))), ()) = _ from he]
    refine tells_f fun e => ?_
    subst e
    simp at hb
  · rw [show G57_l0_run ((a, (b, (false, (0, ())))), ()) = _ from he]
    exact tells_t (list_eq h fun i hi => by simpa using hall i hi)
end Go.Proofs.YtibmgbalfhfcdaaDoor.Abs
set_option linter.unusedVariables false
set_option linter.unusedSimpArgs false
set_option maxRecDepth 100000
namespace Go.Proofs.YtibmgbalfhfcdaaDoor.Abs
open Classical
theorem strict_ext : ∀ {L L' : List Int}, L.Pairwise (· < ·) → L'.Pairwise (· < ·) → (∀ x, x ∈ L ↔ x ∈ L') → L = L'
  | [], [], _, _, _ => rfl
  | [], b :: t, _, _, h => absurd ((h b).2 (List.mem_cons_self ..)) (by simp)
  | a :: t, [], _, _, h => absurd ((h a).1 (List.mem_cons_self ..)) (by simp)
  | a :: t, b :: t', h1, h2, h => by
    obtain ⟨h3, h4⟩ := List.pairwise_cons.1 h1
    obtain ⟨h5, h6⟩ := List.pairwise_cons.1 h2
    have e : a = b := by
      rcases List.mem_cons.1 ((h a).1 (List.mem_cons_self ..)) with e | ha
      · exact e
      · rcases List.mem_cons.1 ((h b).2 (List.mem_cons_self ..)) with e | hb
        · exact e.symm
        · have := h3 b hb
          have := h5 a ha
          omega
    subst e
    congr 1
    refine strict_ext h4 h6 fun x => ⟨fun hx => ?_, fun hx => ?_⟩
    · rcases List.mem_cons.1 ((h x).1 (List.mem_cons_of_mem _ hx)) with e | h'
      · have := h3 x hx; omega
      · exact h'
    · rcases List.mem_cons.1 ((h x).2 (List.mem_cons_of_mem _ hx)) with e | h'
      · have := h5 x hx; omega
      · exact h'
theorem rising_pw {L : List Int} {B : Int} (h : Rising L B) : L.Pairwise (· < ·) := by
  have hg : ∀ i (hi : i < L.length), L.getD i 0 = L[i] := fun i hi => by rw [List.getD_eq_getElem?_getD, List.getElem?_eq_getElem hi]; rfl
  rw [List.pairwise_iff_getElem]
  intro i j hi hj hij
  induction j with
  | zero => omega
  | succ j ih =>
    have h1 := (h (j + 1) hj).2 (by omega)
    rw [show j + 1 - 1 = j by omega, hg j (by omega), hg (j + 1) hj] at h1
    rcases Nat.lt_succ_iff_lt_or_eq.1 hij with h2 | h2
    · have := ih (by omega) h2; omega
    · subst h2; exact h1
theorem ups_pw (n : Nat) (p : Nat → Bool) : (ups n p).Pairwise (· < ·) := by
  unfold ups
  rw [List.pairwise_map]
  refine (List.Pairwise.filter p List.pairwise_lt_range).imp fun h => ?_
  omega
theorem ups_rising {n : Nat} {p : Nat → Bool} {B : Int} (hB : (n : Int) ≤ B) : Rising (ups n p) B := by
  intro i hi
  have hg : ∀ i (hi : i < (ups n p).length), (ups n p).getD i 0 = (ups n p)[i] := fun i hi => by rw [List.getD_eq_getElem?_getD, List.getElem?_eq_getElem hi]; rfl
  constructor
  · obtain ⟨j, hj, _, e⟩ := ups_mem.1 (getD_mem hi (d := 0))
    rw [e]; omega
  · intro h0
    rw [hg i hi, hg (i - 1) (by omega)]
    exact List.pairwise_iff_getElem.1 (ups_pw n p) (i - 1) i (by omega) hi (by omega)
theorem causeOf_ok {s : E23} (hs : StrOk s) (b : Nat) : CauseOk s (causeOf s b) := by
  have := hs.depths
  exact ⟨ups_rising (by omega), ups_rising (by omega)⟩
theorem low_bits {s : E23} {c : E26} (hc : CauseOk s c) : low (bitsOf s c) (nC s) := by
  intro j hj
  unfold nC at hj
  rw [bitsOf_bit hc]
  have h1 : decide ((j : Int) ∈ c.1) = false := decide_eq_false fun h => by have := rising_mem hc.1 h; omega
  have h2 : decide ((s.2.2.2.2.1).length ≤ j ∧ ((j - (s.2.2.2.2.1).length : Nat) : Int) ∈ c.2.1) = false := decide_eq_false fun h => by have := rising_mem hc.2 h.2; omega
  rw [h1, h2]; rfl
theorem bits_cause {s : E23} (hs : StrOk s) {b : Nat} (hb : low b (nC s)) : bitsOf s (causeOf s b) = b := by
  have hdep := hs.depths
  apply Nat.eq_of_testBit_eq
  intro j
  rw [bitsOf_bit (causeOf_ok hs b)]
  unfold causeOf
  by_cases h1 : j < (s.2.2.2.2.1).length
  · have e2 : decide ((s.2.2.2.2.1).length ≤ j ∧ ((j - (s.2.2.2.2.1).length : Nat) : Int) ∈ (ups (s.2.2.2.1).toNat fun i => b.testBit ((s.2.2.2.2.1).length + i))) = false := decide_eq_false fun h => by omega
    simp only [e2, Bool.or_false]
    cases hj : b.testBit j with
    | true => exact decide_eq_true (ups_mem.2 ⟨j, h1, hj, rfl⟩)
    | false =>
      refine decide_eq_false fun h => ?_
      obtain ⟨i, _, hi, e⟩ := ups_mem.1 h
      have : j = i := by omega
      subst this
      rw [hj] at hi; cases hi
  · have e1 : decide ((j : Int) ∈ ups (s.2.2.2.2.1).length b.testBit) = false := decide_eq_false fun h => by
      obtain ⟨i, hi, _, e⟩ := ups_mem.1 h; omega
    simp only [e1, Bool.false_or]
    cases hj : b.testBit j with
    | true =>
      refine decide_eq_true ⟨by omega, ups_mem.2 ⟨j - (s.2.2.2.2.1).length, ?_, ?_, rfl⟩⟩
      · apply Classical.byContradiction
        intro hn
        have := hb j (by unfold nC; omega)
        rw [hj] at this; cases this
      · rw [show (s.2.2.2.2.1).length + (j - (s.2.2.2.2.1).length) = j by omega]; exact hj
    | false =>
      refine decide_eq_false fun h => ?_
      obtain ⟨i, _, hi, e⟩ := ups_mem.1 h.2
      have : (s.2.2.2.2.1).length + i = j := by omega
      rw [this, hj] at hi; cases hi
theorem cause_bits {s : E23} (hs : StrOk s) {c : E26} (hc : CauseOk s c) : causeOf s (bitsOf s c) = c := by
  have hdep := hs.depths
  obtain ⟨S, D, u⟩ := c
  have e1 : ups (s.2.2.2.2.1).length (bitsOf s (S, (D, u))).testBit = S := by
    refine strict_ext (ups_pw _ _) (rising_pw hc.1) fun x => ?_
    rw [ups_mem]
    constructor
    · rintro ⟨i, hi, hb, rfl⟩
      rw [bit_s hc hi] at hb
      exact of_decide_eq_true hb
    · intro hx
      have := rising_mem hc.1 hx
      refine ⟨x.toNat, by omega, ?_, by omega⟩
      rw [bit_s hc (by omega)]
      refine decide_eq_true ?_
      have e : ((x.toNat : Nat) : Int) = x := by omega
      rw [e]; exact hx
  have e2 : ups (s.2.2.2.1).toNat (fun i => (bitsOf s (S, (D, u))).testBit ((s.2.2.2.2.1).length + i)) = D := by
    refine strict_ext (ups_pw _ _) (rising_pw hc.2) fun x => ?_
    rw [ups_mem]
    constructor
    · rintro ⟨i, hi, hb, rfl⟩
      rw [bit_d hc] at hb
      exact of_decide_eq_true hb
    · intro hx
      have := rising_mem hc.2 hx
      refine ⟨x.toNat, by omega, ?_, by omega⟩
      rw [bit_d hc]
      refine decide_eq_true ?_
      have e : ((x.toNat : Nat) : Int) = x := by omega
      rw [e]; exact hx
  unfold causeOf
  rw [e1, e2]
theorem ups_cnt (p : Nat → Bool) (b : Nat) (k : Nat) (h : ∀ i, p i = b.testBit (k + i)) : ∀ n, (ups n p).length + cnt b k = cnt b (k + n)
  | 0 => by simp [ups]
  | n + 1 => by
    rw [ups_succ, List.length_append]
    have := ups_cnt p b k h n
    rw [show k + (n + 1) = (k + n) + 1 by omega]
    simp only [cnt, h n]
    cases b.testBit (k + n) <;> simp <;> omega
theorem cause_cnt (s : E23) (b : Nat) : ((causeOf s b).1).length + ((causeOf s b).2.1).length = cnt b (nC s) := by
  unfold causeOf nC
  have h1 := ups_cnt b.testBit b 0 (fun i => by simp) (s.2.2.2.2.1).length
  have h2 := ups_cnt (fun i => b.testBit ((s.2.2.2.2.1).length + i)) b (s.2.2.2.2.1).length (fun i => rfl) (s.2.2.2.1).toNat
  simp only [cnt, Nat.zero_add, Nat.add_zero] at h1
  simp only
  omega
theorem comb_pre (n : Nat) : ∀ rem left now, rem ≤ n → low now (n - rem) → ∀ b ∈ comb n rem left now, ∀ j, j < n - rem → b.testBit j = now.testBit j
  | 0, left, now, hr, h, b, hb, j, hj => by
    simp only [comb] at hb
    split at hb
    · simp only [List.mem_singleton] at hb; subst hb; rfl
    · cases hb
  | rem + 1, 0, now, hr, h, b, hb, j, hj => by
    simp only [comb, List.mem_singleton] at hb
    subst hb; rfl
  | rem + 1, left + 1, now, hr, h, b, hb, j, hj => by
    simp only [comb, List.mem_append] at hb
    have e : n - (rem + 1) + 1 = n - rem := by omega
    rcases hb with hb | hb
    · have hl := low_or h
      rw [e] at hl
      rw [comb_pre n rem left _ (by omega) hl b hb j (by omega), Nat.testBit_or, Nat.testBit_two_pow]
      simp; omega
    · exact comb_pre n rem (left + 1) now (by omega) (low_mono h (by omega)) b hb j (by omega)
theorem comb_nodup (n : Nat) : ∀ rem left now, rem ≤ n → low now (n - rem) → (comb n rem left now).Nodup
  | 0, left, now, hr, h => by simp only [comb]; split <;> simp
  | rem + 1, 0, now, hr, h => by simp [comb]
  | rem + 1, left + 1, now, hr, h => by
    have e : n - (rem + 1) + 1 = n - rem := by omega
    have hl := low_or h
    rw [e] at hl
    have hl2 : low now (n - rem) := low_mono h (by omega)
    simp only [comb]
    rw [List.nodup_append]
    refine ⟨comb_nodup n rem left _ (by omega) hl, comb_nodup n rem (left + 1) now (by omega) hl2, fun a ha b hb e2 => ?_⟩
    subst e2
    have h1 := comb_pre n rem left _ (by omega) hl a ha (n - (rem + 1)) (by omega)
    have h2 := comb_pre n rem (left + 1) now (by omega) hl2 a hb (n - (rem + 1)) (by omega)
    rw [h1, Nat.testBit_or, Nat.testBit_two_pow, h _ (Nat.le_refl _)] at h2
    simp at h2
theorem cnt_mono (b i : Nat) : ∀ k, i ≤ k → cnt b i ≤ cnt b k
  | 0, h => by have : i = 0 := by omega
               subst this; exact Nat.le_refl _
  | k + 1, h => by
    rcases Nat.lt_or_eq_of_le h with h | h
    · have := cnt_mono b i k (by omega)
      simp only [cnt]; omega
    · subst h; exact Nat.le_refl _
theorem cnt_same {b c : Nat} : ∀ k, (∀ j, j < k → b.testBit j = c.testBit j) → cnt b k = cnt c k
  | 0, _ => rfl
  | k + 1, h => by simp only [cnt, cnt_same k (fun j hj => h j (by omega)), h k (by omega)]
theorem low_of_cnt {b i n : Nat} (hb : low b n) (hin : i ≤ n) (h : cnt b n = cnt b i) : low b i := by
  intro j hj
  by_cases hjn : n ≤ j
  · exact hb j hjn
  · cases ht : b.testBit j with
    | false => rfl
    | true =>
      have h1 := cnt_mono b i j hj
      have h2 := cnt_mono b (j + 1) n (by omega)
      simp only [cnt, ht, cond_true] at h2
      omega
theorem eq_low {b c i : Nat} (hb : low b i) (hc : low c i) (h : ∀ j, j < i → b.testBit j = c.testBit j) : b = c := by
  apply Nat.eq_of_testBit_eq
  intro j
  by_cases hj : j < i
  · exact h j hj
  · rw [hb j (by omega), hc j (by omega)]
theorem comb_mem (n : Nat) : ∀ rem left now, rem ≤ n → low now (n - rem) → ∀ b, low b n → (∀ j, j < n - rem → b.testBit j = now.testBit j) → cnt b n = cnt now n + left → b ∈ comb n rem left now
  | 0, left, now, hr, h, b, hb, hp, hc => by
    have e := eq_low hb h hp
    subst e
    simp only [comb, if_pos (show left = 0 by omega), List.mem_singleton]
  | rem + 1, 0, now, hr, h, b, hb, hp, hc => by
    have h1 := cnt_low h n (by omega)
    have h2 := cnt_same _ hp
    have h3 : low b (n - (rem + 1)) := low_of_cnt hb (by omega) (by omega)
    have e := eq_low h3 h hp
    subst e
    simp only [comb, List.mem_singleton]
  | rem + 1, left + 1, now, hr, h, b, hb, hp, hc => by
    have e : n - (rem + 1) + 1 = n - rem := by omega
    simp only [comb, List.mem_append]
    have h0 := h _ (Nat.le_refl _)
    cases ht : b.testBit (n - (rem + 1)) with
    | true =>
      left
      have hl := low_or h
      rw [e] at hl
      refine comb_mem n rem left _ (by omega) hl b hb (fun j hj => ?_) ?_
      · rw [Nat.testBit_or, Nat.testBit_two_pow]
        by_cases hj2 : j = n - (rem + 1)
        · subst hj2; rw [ht]; simp
        · rw [hp j (by omega)]; simp; omega
      · rw [cnt_or h0, if_pos (by omega)]; omega
    | false =>
      right
      refine comb_mem n rem (left + 1) now (by omega) (low_mono h (by omega)) b hb (fun j hj => ?_) hc
      by_cases hj2 : j = n - (rem + 1)
      · subst hj2; rw [ht, h0]
      · exact hp j (by omega)
theorem cnt_zero (k : Nat) : cnt 0 k = 0 := by
  induction k with
  | zero => rfl
  | succ k ih => simp [cnt, ih]
theorem comb_all {n b : Nat} (hb : low b n) : b ∈ comb n n (cnt b n) 0 :=
  comb_mem n n _ 0 (Nat.le_refl _) (low_zero _) b hb (fun j hj => by omega) (by rw [cnt_zero]; omega)
theorem samecause_tells (a b : E26) (h1 : (a.1).length < 2 ^ 62) (h2 : (a.2.1).length < 2 ^ 62) : Tells (G33 a b) (a = b) := by
  unfold G33
  refine (tells_and (same_tells a.1 b.1 h1) fun _ => tells_bind (same_tells a.2.1 b.2.1 h2)).iff ⟨fun ⟨e1, e2⟩ => ?_, fun e => by rw [e]; exact ⟨rfl, rfl⟩⟩
  obtain ⟨S, D, u⟩ := a
  obtain ⟨S', D', u'⟩ := b
  simp only at e1 e2
  subst e1; subst e2
  rfl
theorem least_mem {s : E23} {l : List E72} (hs : StrOk s) {out : List E26} {m : Nat} (ho : out = (exs s l (comb (nC s) (nC s) m 0)).map (causeOf s)) {c : E26} (hc : c ∈ out) : CauseOk s c ∧ (c.1).length + (c.2.1).length = m ∧ Ex s l (bitsOf s c) := by
  have hn := nC_le hs
  rw [ho] at hc
  obtain ⟨b, hb, rfl⟩ := List.mem_map.1 hc
  obtain ⟨h1, h2⟩ := exs_mem.1 hb
  obtain ⟨h3, h4, _⟩ := comb_in (by omega) h1
  refine ⟨causeOf_ok hs b, by rw [cause_cnt]; exact h4, ?_⟩
  rw [bits_cause hs h3]; exact h2
theorem least_has {s : E23} {l : List E72} (hs : StrOk s) {c : E26} (hc : CauseOk s c) (hE : Ex s l (bitsOf s c)) : bitsOf s c ∈ exs s l (comb (nC s) (nC s) ((c.1).length + (c.2.1).length) 0) := by
  have h1 := cause_cnt s (bitsOf s c)
  rw [cause_bits hs hc] at h1
  rw [h1, exs_mem]
  exact ⟨comb_all (low_bits hc), hE⟩
theorem cause_len {s : E23} {c : E26} (hs : StrOk s) (hc : CauseOk s c) : (c.1).length + (c.2.1).length ≤ nC s := by
  have h1 := cause_cnt s (bitsOf s c)
  rw [cause_bits hs hc] at h1
  have := cnt_le (bitsOf s c) (nC s)
  omega
theorem causeOf_inj {s : E23} (hs : StrOk s) {b b' : Nat} (hb : low b (nC s)) (hb' : low b' (nC s)) (h : causeOf s b = causeOf s b') : b = b' := by
  rw [← bits_cause hs hb, ← bits_cause hs hb', h]
theorem least_nodup {s : E23} {l : List E72} (hs : StrOk s) (m : Nat) : ((exs s l (comb (nC s) (nC s) m 0)).map (causeOf s)).Nodup := by
  have hn := nC_le hs
  have h : (exs s l (comb (nC s) (nC s) m 0)).Nodup := by
    unfold exs
    exact (comb_nodup _ _ _ _ (Nat.le_refl _) (low_zero _)).filter _
  unfold List.Nodup at h ⊢
  rw [List.pairwise_map]
  refine List.Pairwise.imp_of_mem ?_ h
  intro a b ha hb hne e
  exact hne (causeOf_inj hs (comb_in (by omega) (exs_mem.1 ha).1).1 (comb_in (by omega) (exs_mem.1 hb).1).1 e)
end Go.Proofs.YtibmgbalfhfcdaaDoor.Abs
