import Derived.Test.YtibmgbalfhfcdaaDoorP1
set_option linter.unusedVariables false
set_option linter.unusedSimpArgs false
set_option maxRecDepth 100000
namespace Go.Proofs.YtibmgbalfhfcdaaDoor.Abs
open Classical
inductive Feed {U : Type} (E : Nat → Prop) (V : Nat → U → Bool → U → Prop) : List Nat → U → Bool → U → Prop
  | nil (u : U) : Feed E V [] u true u
  | skip {b : Nat} {bs : List Nat} {u u' : U} {r : Bool} : ¬ E b → Feed E V bs u r u' → Feed E V (b :: bs) u r u'
  | go {b : Nat} {bs : List Nat} {u u1 u' : U} {r : Bool} : E b → V b u true u1 → Feed E V bs u1 r u' → Feed E V (b :: bs) u r u'
  | stop {b : Nat} {bs : List Nat} {u u' : U} : E b → V b u false u' → Feed E V (b :: bs) u false u'
theorem Feed.app {U : Type} {E : Nat → Prop} {V : Nat → U → Bool → U → Prop} {xs ys : List Nat} {u u1 u' : U} {r r' : Bool} (h : Feed E V xs u r u1) (hr : r = true) (h' : Feed E V ys u1 r' u') : Feed E V (xs ++ ys) u r' u' := by
  induction h with
  | nil u => exact h'
  | skip a _ ih => exact .skip a (ih hr h')
  | go a b _ ih => exact .go a b (ih hr h')
  | stop _ _ => cases hr
theorem Feed.cut {U : Type} {E : Nat → Prop} {V : Nat → U → Bool → U → Prop} {xs : List Nat} (ys : List Nat) {u u' : U} {r : Bool} (h : Feed E V xs u r u') (hr : r = false) : Feed E V (xs ++ ys) u false u' := by
  induction h with
  | nil u => cases hr
  | skip a _ ih => exact .skip a (ih hr)
  | go a b _ ih => exact .go a b (ih hr)
  | stop a b => exact .stop a b
def srchStp {B : Type} (n : Nat) (rc : (Int × (Int × (Int × Unit))) × B → Option (Bool × B)) (s : (Int × (Int × (Bool × (Int × Unit)))) × B) : Option (Nat × ((Int × (Int × (Bool × (Int × Unit)))) × B)) :=
  bif decide (s.1.2.2.2.1 < (n : Int)) then
    (bif (!decide (s.1.2.2.2.1 < 0)) then
      (Option.bind (rc ((IntKind.wrap .i64 (s.1.1 - 1), (IntKind.wrap .i64 (s.1.2.2.2.1 + 1), (IntKind.wrap .i64 ((BitVec.toNat ((BitVec.ofInt (IntKind.bits .i64) s.1.2.1) ||| (BitVec.ofInt (IntKind.bits .i64) (IntKind.wrap .i64 (1 * 2 ^ (min (Int.toNat s.1.2.2.2.1) (IntKind.bits .i64)))))) : Nat) : Int), ()))), s.2)) fun r4 =>
        (bif (!r4.1) then some (1, ((s.1.1, (s.1.2.1, (false, (s.1.2.2.2.1, ())))), r4.2))
        else some (0, ((s.1.1, (s.1.2.1, (s.1.2.2.1, (IntKind.wrap .i64 (s.1.2.2.2.1 + 1), ())))), r4.2))))
    else none)
  else some (2, s)
structure Srch {B U : Type} (n : Nat) (OK : List (E56 × E94) → Prop) (Pre : Nat → U → Prop) (E : Nat → Prop) (V : Nat → U → Bool → U → Prop) (pk : List (E56 × E94) → U → B) (fx : Nat → (Int × (Int × (Int × Unit))) × B → Option (Bool × B)) (stp : ((Int × (Int × (Int × Unit))) × B → Option (Bool × B)) → ((Int × (Int × (Bool × (Int × Unit)))) × B) → Option (Nat × ((Int × (Int × (Bool × (Int × Unit)))) × B))) : Prop where
  hn : n ≤ 20
  base : ∀ f (from_ : Int) now M u k, low now n → OK M → Pre (k + 1) u → ∃ r u' M', fx (f + 1) ((0, (from_, ((now : Nat), ()))), pk M u) = some (r, pk M' u') ∧ OK M' ∧ ((¬ E now ∧ r = true ∧ u' = u) ∨ (E now ∧ V now u r u'))
  pre : ∀ b u u' k, V b u true u' → Pre (k + 1) u → Pre k u'
  mono : ∀ u k, Pre (k + 1) u → Pre k u
  step : ∀ f (left from_ now : Int) M u, left ≠ 0 → fx (f + 1) ((left, (from_, (now, ()))), pk M u) = Option.bind (iter (stp (fx f)) 100000 ((left, (now, (false, (from_, ())))), pk M u)) fun q5 => natK q5.1 (some (q5.2.1.2.2.1, q5.2.2)) fun _ => some (true, q5.2.2)
  stp_ : ∀ rc x M u, stp rc (x, pk M u) = srchStp n rc (x, pk M u)
theorem Srch.run {B U : Type} {n : Nat} {OK : List (E56 × E94) → Prop} {Pre : Nat → U → Prop} {E : Nat → Prop} {V : Nat → U → Bool → U → Prop} {pk : List (E56 × E94) → U → B} {fx : Nat → (Int × (Int × (Int × Unit))) × B → Option (Bool × B)} {stp : ((Int × (Int × (Int × Unit))) × B → Option (Bool × B)) → ((Int × (Int × (Bool × (Int × Unit)))) × B) → Option (Nat × ((Int × (Int × (Bool × (Int × Unit)))) × B))} (h : Srch n OK Pre E V pk fx stp) :
    ∀ (f left rem now : Nat) (M : List (E56 × E94)) (u : U) (k : Nat), left < f → left ≤ 1000 → rem ≤ n → low now (n - rem) → OK M → Pre ((comb n rem left now).length + k) u → ∃ r u' M', fx f (((left : Int), (((n - rem : Nat) : Int), ((now : Int), ()))), pk M u) = some (r, pk M' u') ∧ OK M' ∧ Feed E V (comb n rem left now) u r u' ∧ (r = true → Pre k u')
  | 0, left, _, _, _, _, _, hf, _, _, _, _, _ => by omega
  | f + 1, 0, rem, now, M, u, k, hf, hl, hr, hlow, hM, hP => by
    rw [comb_zero] at hP ⊢
    rw [show ([now] : List Nat).length + k = k + 1 by simp; omega] at hP
    obtain ⟨r, u', M', e, hM', hv⟩ := h.base f ((n - rem : Nat) : Int) now M u k (low_mono hlow (by omega)) hM hP
    refine ⟨r, u', M', e, hM', ?_⟩
    rcases hv with ⟨a, rfl, rfl⟩ | ⟨a, b⟩
    · exact ⟨.skip a (.nil _), fun _ => h.mono _ _ hP⟩
    · cases r with
      | true => exact ⟨.go a b (.nil _), fun _ => h.pre _ _ _ _ b hP⟩
      | false => exact ⟨.stop a b, fun h => by cases h⟩
  | f + 1, left + 1, rem, now, M, u, k, hf, hl, hr, hlow, hM, hP => by
    have hn := h.hn
    have loop : ∀ (rem fuel : Nat) (M : List (E56 × E94)) (u : U) (ret : Bool), rem ≤ n → rem < fuel → low now (n - rem) → OK M → Pre ((comb n rem (left + 1) now).length + k) u →
        ∃ r u' M' k' i ret', iter (stp (fx f)) fuel ((((left + 1 : Nat) : Int), ((now : Int), (ret, (((n - rem : Nat) : Int), ())))), pk M u) = some (k', (((((left + 1 : Nat) : Int), ((now : Int), (ret', (i, ()))))), pk M' u')) ∧ OK M' ∧ Feed E V (comb n rem (left + 1) now) u r u' ∧ (r = true → Pre k u') ∧ ((r = false ∧ k' = 0 ∧ ret' = false) ∨ (r = true ∧ k' = 1)) := by
      intro rem
      induction rem with
      | zero =>
        intro fuel M u ret hr hfu hlow hM hP
        obtain ⟨fuel, rfl⟩ : ∃ fu, fuel = fu + 1 := ⟨fuel - 1, by omega⟩
        have hstep : stp (fx f) ((((left + 1 : Nat) : Int), ((now : Int), (ret, (((n - 0 : Nat) : Int), ())))), pk M u) = some (1 + 1, ((((left + 1 : Nat) : Int), ((now : Int), (ret, (((n - 0 : Nat) : Int), ())))), pk M u)) := by
          rw [h.stp_]
          unfold srchStp
          have : decide (((n - 0 : Nat) : Int) < (n : Int)) = false := decide_eq_false (by omega)
          simp only [this, cond_false]
        refine ⟨true, u, M, 1, _, ret, iter_out hstep, hM, ?_, fun _ => ?_, .inr ⟨rfl, rfl⟩⟩
        · simp only [comb, if_neg (Nat.succ_ne_zero left)]; exact .nil u
        · simpa only [comb, if_neg (Nat.succ_ne_zero left), List.length_nil, Nat.zero_add] using hP
      | succ rem ih =>
        intro fuel M u ret hr hfu hlow hM hP
        obtain ⟨fuel, rfl⟩ : ∃ fu, fuel = fu + 1 := ⟨fuel - 1, by omega⟩
        have hlow' : low (now ||| 2 ^ (n - (rem + 1))) (n - rem) := by
          have := low_or hlow
          have e : n - (rem + 1) + 1 = n - rem := by omega
          rwa [e] at this
        have hP' : Pre ((comb n rem left (now ||| 2 ^ (n - (rem + 1)))).length + ((comb n rem (left + 1) now).length + k)) u := by
          simp only [comb, List.length_append] at hP
          rwa [Nat.add_assoc] at hP
        obtain ⟨r, u1, M1, e1, hM1, hF1, hP1⟩ := h.run f left rem (now ||| 2 ^ (n - (rem + 1))) M u _ (by omega) (by omega) (by omega) hlow' hM hP'
        have hnow : now < 2 ^ 62 := Nat.lt_of_lt_of_le (low_lt hlow) (Nat.pow_le_pow_right (by decide) (by omega))
        have hstep : stp (fx f) ((((left + 1 : Nat) : Int), ((now : Int), (ret, (((n - (rem + 1) : Nat) : Int), ())))), pk M u) = some (bif (!r) then (1, ((((left + 1 : Nat) : Int), ((now : Int), (false, (((n - (rem + 1) : Nat) : Int), ())))), pk M1 u1)) else (0, ((((left + 1 : Nat) : Int), ((now : Int), (ret, (((n - rem : Nat) : Int), ())))), pk M1 u1))) := by
          rw [h.stp_]
          unfold srchStp
          have a1 : decide (((n - (rem + 1) : Nat) : Int) < (n : Int)) = true := decide_eq_true (by omega)
          have a2 : (!decide (((n - (rem + 1) : Nat) : Int) < 0)) = true := by rw [decide_eq_false (by omega)]; rfl
          have a3 : IntKind.wrap .i64 (((left + 1 : Nat) : Int) - 1) = (left : Int) := by rw [wr (by omega) (by omega)]; omega
          have a4 : IntKind.wrap .i64 (((n - (rem + 1) : Nat) : Int) + 1) = ((n - rem : Nat) : Int) := by rw [wr (by omega) (by omega)]; omega
          simp only [a1, a2, a3, a4, cond_true, Int.toNat_natCast]
          rw [shl_nat (by omega), or_nat hnow (Nat.pow_lt_pow_right (by decide) (by omega)), e1]
          cases r <;> rfl
        cases r with
        | false =>
          refine ⟨false, u1, M1, 0, _, false, iter_out hstep, hM1, ?_, (fun h => by cases h), .inl ⟨rfl, rfl, rfl⟩⟩
          simp only [comb]
          exact hF1.cut _ rfl
        | true =>
          obtain ⟨r2, u2, M2, k2, i2, ret2, e2, hM2, hF2, hP2, hc⟩ := ih fuel M1 u1 ret (by omega) (by omega) (low_mono hlow (by omega)) hM1 (hP1 rfl)
          refine ⟨r2, u2, M2, k2, i2, ret2, ?_, hM2, ?_, hP2, hc⟩
          · rw [iter_one hstep]; exact e2
          · simp only [comb]
            exact hF1.app rfl hF2
    obtain ⟨r, u', M', k', i, ret', e, hM', hF, hPk, hc⟩ := loop rem 100000 M u false hr (by omega) hlow hM hP
    refine ⟨r, u', M', ?_, hM', hF, hPk⟩
    rw [h.step f ((left + 1 : Nat) : Int) _ _ M u (by omega), e]
    simp only [Option.bind_some]
    rcases hc with ⟨rfl, rfl, rfl⟩ | ⟨rfl, rfl⟩ <;> rfl
def allC (n most : Nat) : List Nat := (List.range (most + 1)).flatMap fun m => comb n n m 0
theorem low_zero (i : Nat) : low 0 i := fun j _ => by simp
theorem allC_succ (n m : Nat) : ((List.range (m + 1)).flatMap fun m => comb n n m 0) = ((List.range m).flatMap fun m => comb n n m 0) ++ comb n n m 0 := by
  rw [List.range_succ, List.flatMap_append]; simp
theorem Srch.all {B U C : Type} {n : Nat} {OK : List (E56 × E94) → Prop} {Pre : Nat → U → Prop} {E : Nat → Prop} {V : Nat → U → Bool → U → Prop} {pk : List (E56 × E94) → U → B} {fx : Nat → (Int × (Int × (Int × Unit))) × B → Option (Bool × B)} {stp : ((Int × (Int × (Int × Unit))) × B → Option (Bool × B)) → ((Int × (Int × (Bool × (Int × Unit)))) × B) → Option (Nat × ((Int × (Int × (Bool × (Int × Unit)))) × B))} (h : Srch n OK Pre E V pk fx stp)
    (p93 : List (E56 × E94) → U → C) (st93 : (Int × (Int × Unit)) × C → Option (Nat × ((Int × (Int × Unit)) × C))) (most : Nat) (hmost : most ≤ n)
    (h1 : ∀ (m1 many : Nat) M u r u' M', many < m1 → m1 ≤ 1000 → fx 64 (((many : Int), (0, (0, ()))), pk M u) = some (r, pk M' u') → st93 (((m1 : Int), ((many : Int), ())), p93 M u) = some (bif (!r) then (1, (((m1 : Int), ((many : Int), ())), p93 M' u')) else (0, (((m1 : Int), (((many + 1 : Nat) : Int), ())), p93 M' u'))))
    (h2 : ∀ (m1 : Nat) M u, st93 (((m1 : Int), ((m1 : Int), ())), p93 M u) = some (2, (((m1 : Int), ((m1 : Int), ())), p93 M u)))
    (M : List (E56 × E94)) (u : U) (hM : OK M) (hP : Pre (allC n most).length u) (fuel : Nat) (hfu : most + 1 < fuel) :
    ∃ k x r u' M', iter st93 fuel ((((most + 1 : Nat) : Int), (0, ())), p93 M u) = some (k, (x, p93 M' u')) ∧ OK M' ∧ Feed E V (allC n most) u r u' := by
  have hn := h.hn
  obtain ⟨k, q, e, x, r, u', M', rfl, hM', hF⟩ := iter_ex (step := st93) (n := most + 1)
    (fun i st => ∃ u' M', st = ((((most + 1 : Nat) : Int), ((i : Int), ())), p93 M' u') ∧ OK M' ∧ i ≤ most + 1 ∧ Feed E V ((List.range i).flatMap fun m => comb n n m 0) u true u' ∧ ∃ j, Pre j u' ∧ j + ((List.range i).flatMap fun m => comb n n m 0).length = (allC n most).length)
    (fun k q => ∃ x r u' M', q = (x, p93 M' u') ∧ OK M' ∧ Feed E V (allC n most) u r u')
    (by
      rintro i st ⟨u1, M1, rfl, hM1, hi', hF1, j, hj, hjl⟩ hi
      have hsplit : ∃ rest, (allC n most) = ((List.range i).flatMap fun m => comb n n m 0) ++ comb n n i 0 ++ rest := by
        unfold allC
        have : List.range (most + 1) = List.range (i + 1) ++ (List.range' (i + 1) (most - i)) := by
          rw [List.range_eq_range', List.range_eq_range', show most + 1 = (i + 1) + (most - i) by omega, ← List.range'_append]
          simp
        rw [this, List.flatMap_append, allC_succ]
        exact ⟨_, rfl⟩
      obtain ⟨rest, hrest⟩ := hsplit
      have hlen : j = (comb n n i 0).length + rest.length := by
        rw [hrest] at hjl
        simp only [List.length_append] at hjl
        omega
      have hcall := h.run 64 i n 0 M1 u1 rest.length (by omega) (by omega) (Nat.le_refl _) (low_zero _) hM1 (by rw [← hlen]; exact hj)
      rw [Nat.sub_self] at hcall
      obtain ⟨r, u2, M2, e2, hM2, hF2, hP2⟩ := hcall
      have hst := h1 (most + 1) i M1 u1 r u2 M2 hi (by omega) e2
      cases r with
      | false =>
        refine .inr ⟨0, _, hst, _, false, u2, M2, rfl, hM2, ?_⟩
        rw [hrest]
        exact (hF1.app rfl hF2).cut _ rfl
      | true =>
        refine .inl ⟨_, hst, u2, M2, rfl, hM2, by omega, ?_, rest.length, hP2 rfl, ?_⟩
        · rw [allC_succ]; exact hF1.app rfl hF2
        · rw [allC_succ, hrest]
          simp only [List.length_append]
          omega)
    (by
      rintro st ⟨u1, M1, rfl, hM1, _, hF1, _⟩
      exact ⟨1, _, h2 _ _ _, _, true, u1, M1, rfl, hM1, hF1⟩)
    (most + 1) 0 fuel ((((most + 1 : Nat) : Int), (((0 : Nat) : Int), ())), p93 M u) (by omega) hfu ⟨u, M, rfl, hM, by omega, .nil u, _, hP, by simp⟩
  exact ⟨k, x, r, u', M', e, hM', hF⟩
end Go.Proofs.YtibmgbalfhfcdaaDoor.Abs
set_option linter.unusedVariables false
set_option linter.unusedSimpArgs false
set_option maxRecDepth 100000
namespace Go.Proofs.YtibmgbalfhfcdaaDoor.Abs
open Classical
def atN (s : E23) (i : Nat) : Nat := ((s.2.2.2.2.1).getD i 0).toNat
structure Sized (c : E26) (t : E30) : Prop where
  s : (c.1).length ≤ 12
  d : (c.2.1).length ≤ 12
  tt : (t.1).length ≤ 12
  tr : (t.2.1).length ≤ 12
  td : (t.2.2.1).length ≤ 12
theorem sized_tells (c : E26) (t : E30) : Tells (G12 c t) (Sized c t) := by
  unfold G12
  have h := tells_cond (p := ((c.1).length : Int) ≤ 12) (fun _ => tells_cond (p := ((c.2.1).length : Int) ≤ 12) (fun _ => tells_cond (p := ((t.1).length : Int) ≤ 12) (fun _ => tells_cond (p := ((t.2.1).length : Int) ≤ 12) (fun _ => tells_dec (p := ((t.2.2.1).length : Int) ≤ 12)))))
  exact h.iff ⟨fun h => ⟨by omega, by omega, by omega, by omega, by omega⟩, fun h => by have := h.s; have := h.d; have := h.tt; have := h.tr; have := h.td; omega⟩
end Go.Proofs.YtibmgbalfhfcdaaDoor.Abs
set_option linter.unusedVariables false
set_option linter.unusedSimpArgs false
set_option maxRecDepth 100000
namespace Go.Proofs.YtibmgbalfhfcdaaDoor.Abs
open Classical
theorem given_eq (s : E23) (l : List E72) (c : E26) (h0 : l.length < 2 ^ 62) (h1 : (c.1).length < 2 ^ 62) (h2 : (c.2.1).length < 2 ^ 62) :
    (24 < l.length ∧ G49 s l c = some (.inl (((), (3, ())), (c, ())))) ∨ (l.length ≤ 24 ∧ ¬ (SlOk s l ∧ CauseOk s c) ∧ G49 s l c = some (.inl (((), (2, ())), (c, ())))) ∨ (SlOk s l ∧ CauseOk s c ∧ G49 s l c = some (.inr (((), (0, ())), (c, (s, ([], (XX s l, ()))))))) := by
  unfold G49
  by_cases hl : l.length ≤ 24
  case neg =>
    rw [decide_eq_true (p := (l.length : Int) > 24) (by omega)]
    exact .inl ⟨by omega, rfl⟩
  right
  rw [decide_eq_false (p := (l.length : Int) > 24) (by omega), cond_false]
  by_cases hs : StrOk s
  case neg =>
    rw [(valid_tells s).nval hs]
    exact .inl ⟨hl, fun h => hs h.1.2.1, rfl⟩
  rw [(valid_tells s).val hs]
  simp only [Option.bind_some, Bool.not_true, cond_false]
  rw [cf81 l s hs h0]
  simp only [Option.bind_some]
  cases ha : l.any (fun r => !decide (RdOk s r)) with
  | true =>
    refine .inl ⟨hl, fun h => ?_, rfl⟩
    rw [List.any_eq_true] at ha
    obtain ⟨x, hx, hx'⟩ := ha
    rw [decide_eq_true (h.1.2.2 x hx)] at hx'
    cases hx'
  | false =>
    have hr : RdsOk s l := by
      intro r hr
      have := List.any_eq_false.1 ha r hr
      simpa using this
    simp only [cond_false]
    rcases bits_eq hs l c h1 h2 with ⟨hc, e, _⟩ | ⟨hc, e⟩
    · have e' : G50 (s, (l, ((), ()))) c [] = some (true, (XX s l, (c, ([], ())))) := by
        unfold G50
        rw [show G51 ((s, (l, ((), ()))).1, ((s, (l, ((), ()))).2.1, ((), (s, (l, ((), ()))).2.2.2))) c = _ from e]
        rfl
      rw [e']
      exact .inr ⟨⟨hl, hs, hr⟩, hc, rfl⟩
    · have e' : G50 (s, (l, ((), ()))) c [] = some (false, (XX s l, (c, ([], ())))) := by
        unfold G50
        rw [show G51 ((s, (l, ((), ()))).1, ((s, (l, ((), ()))).2.1, ((), (s, (l, ((), ()))).2.2.2))) c = _ from e]
        rfl
      rw [e']
      exact .inl ⟨hl, fun h => hc h.2, rfl⟩
theorem sexplains_eq (s : E23) (l : List E72) (c : E26) (h0 : l.length < 2 ^ 62) (h1 : (c.1).length < 2 ^ 62) (h2 : (c.2.1).length < 2 ^ 62) :
    (24 < l.length ∧ G16 s l c = some (false, (3, ()))) ∨ (l.length ≤ 24 ∧ ¬ (SlOk s l ∧ CauseOk s c) ∧ G16 s l c = some (false, (2, ()))) ∨ (SlOk s l ∧ CauseOk s c ∧ ∃ b, G16 s l c = some (b, (0, ())) ∧ (b = true ↔ Ex s l (bitsOf s c))) := by
  unfold G16
  rcases given_eq s l c h0 h1 h2 with ⟨h, e⟩ | ⟨h, h', e⟩ | ⟨hsl, hc, e⟩
  · rw [e]; exact .inl ⟨h, rfl⟩
  · rw [e]; exact .inr (.inl ⟨h, h', rfl⟩)
  · rw [e]
    refine .inr (.inr ⟨hsl, hc, ?_⟩)
    rcases bits_eq hsl.2.1 l c h1 h2 with ⟨_, eb, hb⟩ | ⟨hn, _⟩
    · obtain ⟨r, M', ee, hr, _⟩ := explains_eq hsl.2.1 hsl.2.2 (by have := hsl.1; omega) hb (memo_nil s l)
      show ∃ b, (Option.bind (G51 (XX s l) c) fun r5 => Option.bind (G52 r5.1 (XX s l) []) fun r6 => some (r6.1, ((0 : Int), ()))) = some (b, (0, ())) ∧ (b = true ↔ Ex s l (bitsOf s c))
      rw [eb]
      simp only [Option.bind_some]
      rw [ee]
      exact ⟨r, rfl, hr⟩
    · exact absurd hc hn
theorem DC.bd {s : E23} {l : List E72} (hs : StrOk s) {b d : Nat} {m T : Int} (h : DC s l b d m T) : (-20 ≤ m ∧ m ≤ 20) ∧ 2000 ≤ T ∧ T ≤ 3200 := by
  have := moD_bd hs b d
  have h1 := h.1
  exact ⟨by omega, h.2.1⟩
theorem rate_k {m : Int} (h : -20 ≤ m ∧ m ≤ 20) : ∃ k : Nat, k < 41 ∧ m = (k : Int) - 20 := ⟨(m + 20).toNat, by omega, by omega⟩
theorem SpanIs.low {s : E23} {l : List E72} (hs : StrOk s) {b d : Nat} {m : Int} {q : E56} (h : SpanIs s l b d m q) : (0 ≤ q.1 ∧ DC s l b d m q.1 ∧ ∀ T, DC s l b d m T → q.1 ≤ T) ∨ (q.1 = -1 ∧ ∀ T, ¬ DC s l b d m T) := by
  rcases h with ⟨h1, h2, h3⟩ | ⟨h1, rfl⟩
  · exact .inl ⟨by have := (h1.bd hs).2; omega, h1, fun T hT => (h3 T hT).1⟩
  · exact .inr ⟨rfl, h1⟩
end Go.Proofs.YtibmgbalfhfcdaaDoor.Abs
set_option linter.unusedVariables false
set_option linter.unusedSimpArgs false
set_option maxRecDepth 100000
namespace Go.Proofs.YtibmgbalfhfcdaaDoor.Abs
open Classical
theorem rising_mem {L : List Int} {B x : Int} (h : Rising L B) (hx : x ∈ L) : 0 ≤ x ∧ x < B := by
  obtain ⟨i, hi, rfl⟩ := mem_getD.1 hx
  exact (h i hi).1
theorem bit_s {s : E23} {c : E26} (hc : CauseOk s c) {i : Nat} (hi : i < (s.2.2.2.2.1).length) : (bitsOf s c).testBit i = decide ((i : Int) ∈ c.1) := by
  rw [bitsOf_bit hc]
  have : decide ((s.2.2.2.2.1).length ≤ i ∧ ((i - (s.2.2.2.2.1).length : Nat) : Int) ∈ c.2.1) = false := decide_eq_false fun h => by omega
  rw [this, Bool.or_false]
theorem bit_d {s : E23} {c : E26} (hc : CauseOk s c) (d : Nat) : (bitsOf s c).testBit ((s.2.2.2.2.1).length + d) = decide ((d : Int) ∈ c.2.1) := by
  rw [bitsOf_bit hc]
  have h1 : decide ((((s.2.2.2.2.1).length + d : Nat) : Int) ∈ c.1) = false := decide_eq_false fun h => by have := rising_mem hc.1 h; omega
  have h2 : (s.2.2.2.2.1).length + d - (s.2.2.2.2.1).length = d := by omega
  rw [h1, h2, Bool.false_or, decide_eq_decide]
  exact ⟨fun h => h.2, fun h => ⟨by omega, h⟩⟩
inductive Pos
  | t (k : Nat)
  | r (k : Nat)
  | d (i : Nat)
def Pos.val (t : E30) : Pos → Int
  | .t k => (t.1).getD k 0
  | .r k => (t.2.1).getD k 0
  | .d i => (t.2.2.1).getD i 0
def Pos.need (s : E23) : Pos → List Pos
  | .t _ => []
  | .r k => [.t k]
  | .d i => [.t (atN s i), .r (atN s i)]
def Pos.ok (s : E23) : Pos → Prop
  | .t k => k < (s.2.2.2.1).toNat
  | .r k => k < (s.2.2.2.1).toNat
  | .d i => i < (s.2.2.2.2.1).length
end Go.Proofs.YtibmgbalfhfcdaaDoor.Abs
set_option linter.unusedVariables false
set_option linter.unusedSimpArgs false
set_option maxRecDepth 100000
namespace Go.Proofs.YtibmgbalfhfcdaaDoor.Abs
open Classical
theorem low_60 {b n : Nat} (h : low b n) (hn : n ≤ 20) : low b 60 ∧ b < 2 ^ 62 := ⟨low_mono h (by omega), Nat.lt_of_lt_of_le (low_lt h) (Nat.pow_le_pow_right (by decide) (by omega))⟩
theorem nC_le {s : E23} (hs : StrOk s) : nC s ≤ 10 := by
  have h1 := hs.len
  have h2 := hs.depths
  unfold nC; omega
theorem Feed.split {U : Type} {E : Nat → Prop} {V : Nat → U → Bool → U → Prop} : ∀ {xs ys : List Nat} {u u' : U} {r : Bool}, Feed E V (xs ++ ys) u r u' → (∃ u1, Feed E V xs u true u1 ∧ Feed E V ys u1 r u') ∨ (r = false ∧ Feed E V xs u false u')
  | [], ys, u, u', r, h => .inl ⟨u, .nil u, h⟩
  | x :: xs, ys, u, u', r, h => by
    cases h with
    | skip a h =>
      rcases Feed.split h with ⟨u1, h1, h2⟩ | ⟨rfl, h1⟩
      · exact .inl ⟨u1, .skip a h1, h2⟩
      · exact .inr ⟨rfl, .skip a h1⟩
    | go a b h =>
      rcases Feed.split h with ⟨u1, h1, h2⟩ | ⟨rfl, h1⟩
      · exact .inl ⟨u1, .go a b h1, h2⟩
      · exact .inr ⟨rfl, .go a b h1⟩
    | stop a b => exact .inr ⟨rfl, .stop a b⟩
end Go.Proofs.YtibmgbalfhfcdaaDoor.Abs
set_option linter.unusedVariables false
set_option linter.unusedSimpArgs false
set_option maxRecDepth 100000
namespace Go.Proofs.YtibmgbalfhfcdaaDoor.Abs
open Classical
end Go.Proofs.YtibmgbalfhfcdaaDoor.Abs
set_option linter.unusedVariables false
set_option linter.unusedSimpArgs false
set_option maxRecDepth 100000
namespace Go.Proofs.YtibmgbalfhfcdaaDoor.Abs
open Classical
end Go.Proofs.YtibmgbalfhfcdaaDoor.Abs
set_option linter.unusedVariables false
set_option linter.unusedSimpArgs false
set_option maxRecDepth 100000
namespace Go.Proofs.YtibmgbalfhfcdaaDoor.Abs
open Classical
theorem strict_ext : ∀ {L L' : List Int}, L.Pairwise (· < ·) → L'.Pairwise (· < ·) → (∀ x, x ∈ L ↔ x ∈ L') → L = L'
  | [], [], _, _, _ => rfl
  | [], b :: t, _, _, h => absurd ((h b).2 (List.mem_cons_self ..)) (by simp)
  | a :: t, [], _, _, h => absurd ((h a).1 (List.mem_cons_self ..)) (by simp)
  | a :: t, b :: t', h1, h2, h => by
    obtain ⟨h3, h4⟩ := List.pairwise_cons.1 h1
    obtain ⟨h5, h6⟩ := List.pairwise_cons.1 h2
    have e : a = b := by
      rcases List.mem_cons.1 ((h a).1 (List.mem_cons_self ..)) with e | ha
      · exact e
      · rcases List.mem_cons.1 ((h b).2 (List.mem_cons_self ..)) with e | hb
        · exact e.symm
        · have := h3 b hb
          have := h5 a ha
          omega
    subst e
    congr 1
    refine strict_ext h4 h6 fun x => ⟨fun hx => ?_, fun hx => ?_⟩
    · rcases List.mem_cons.1 ((h x).1 (List.mem_cons_of_mem _ hx)) with e | h'
      · have := h3 x hx; omega
      · exact h'
    · rcases List.mem_cons.1 ((h x).2 (List.mem_cons_of_mem _ hx)) with e | h'
      · have := h5 x hx; omega
      · exact h'
theorem rising_pw {L : List Int} {B : Int} (h : Rising L B) : L.Pairwise (· < ·) := by
  have hg : ∀ i (hi : i < L.length), L.getD i 0 = L[i] := fun i hi => by rw [List.getD_eq_getElem?_getD, List.getElem?_eq_getElem hi]; rfl
  rw [List.pairwise_iff_getElem]
  intro i j hi hj hij
  induction j with
  | zero => omega
  | succ j ih =>
    have h1 := (h (j + 1) hj).2 (by omega)
    rw [show j + 1 - 1 = j by omega, hg j (by omega), hg (j + 1) hj] at h1
    rcases Nat.lt_succ_iff_lt_or_eq.1 hij with h2 | h2
    · have := ih (by omega) h2; omega
    · subst h2; exact h1
theorem ups_pw (n : Nat) (p : Nat → Bool) : (ups n p).Pairwise (· < ·) := by
  unfold ups
  rw [List.pairwise_map]
  refine (List.Pairwise.filter p List.pairwise_lt_range).imp fun h => ?_
  omega
theorem ups_rising {n : Nat} {p : Nat → Bool} {B : Int} (hB : (n : Int) ≤ B) : Rising (ups n p) B := by
  intro i hi
  have hg : ∀ i (hi : i < (ups n p).length), (ups n p).getD i 0 = (ups n p)[i] := fun i hi => by rw [List.getD_eq_getElem?_getD, List.getElem?_eq_getElem hi]; rfl
  constructor
  · obtain ⟨j, hj, _, e⟩ := ups_mem.1 (getD_mem hi (d := 0))
    rw [e]; omega
  · intro h0
    rw [hg i hi, hg (i - 1) (by omega)]
    exact List.pairwise_iff_getElem.1 (ups_pw n p) (i - 1) i (by omega) hi (by omega)
theorem cause_bits {s : E23} (hs : StrOk s) {c : E26} (hc : CauseOk s c) : causeOf s (bitsOf s c) = c := by
  have hdep := hs.depths
  obtain ⟨S, D, u⟩ := c
  have e1 : ups (s.2.2.2.2.1).length (bitsOf s (S, (D, u))).testBit = S := by
    refine strict_ext (ups_pw _ _) (rising_pw hc.1) fun x => ?_
    rw [ups_mem]
    constructor
    · rintro ⟨i, hi, hb, rfl⟩
      rw [bit_s hc hi] at hb
      exact of_decide_eq_true hb
    · intro hx
      have := rising_mem hc.1 hx
      refine ⟨x.toNat, by omega, ?_, by omega⟩
      rw [bit_s hc (by omega)]
      refine decide_eq_true ?_
      have e : ((x.toNat : Nat) : Int) = x := by omega
      rw [e]; exact hx
  have e2 : ups (s.2.2.2.1).toNat (fun i => (bitsOf s (S, (D, u))).testBit ((s.2.2.2.2.1).length + i)) = D := by
    refine strict_ext (ups_pw _ _) (rising_pw hc.2) fun x => ?_
    rw [ups_mem]
    constructor
    · rintro ⟨i, hi, hb, rfl⟩
      rw [bit_d hc] at hb
      exact of_decide_eq_true hb
    · intro hx
      have := rising_mem hc.2 hx
      refine ⟨x.toNat, by omega, ?_, by omega⟩
      rw [bit_d hc]
      refine decide_eq_true ?_
      have e : ((x.toNat : Nat) : Int) = x := by omega
      rw [e]; exact hx
  unfold causeOf
  rw [e1, e2]
theorem ups_cnt (p : Nat → Bool) (b : Nat) (k : Nat) (h : ∀ i, p i = b.testBit (k + i)) : ∀ n, (ups n p).length + cnt b k = cnt b (k + n)
  | 0 => by simp [ups]
  | n + 1 => by
    rw [ups_succ, List.length_append]
    have := ups_cnt p b k h n
    rw [show k + (n + 1) = (k + n) + 1 by omega]
    simp only [cnt, h n]
    cases b.testBit (k + n) <;> simp <;> omega
theorem cause_cnt (s : E23) (b : Nat) : ((causeOf s b).1).length + ((causeOf s b).2.1).length = cnt b (nC s) := by
  unfold causeOf nC
  have h1 := ups_cnt b.testBit b 0 (fun i => by simp) (s.2.2.2.2.1).length
  have h2 := ups_cnt (fun i => b.testBit ((s.2.2.2.2.1).length + i)) b (s.2.2.2.2.1).length (fun i => rfl) (s.2.2.2.1).toNat
  simp only [cnt, Nat.zero_add, Nat.add_zero] at h1
  simp only
  omega
theorem cause_len {s : E23} {c : E26} (hs : StrOk s) (hc : CauseOk s c) : (c.1).length + (c.2.1).length ≤ nC s := by
  have h1 := cause_cnt s (bitsOf s c)
  rw [cause_bits hs hc] at h1
  have := cnt_le (bitsOf s c) (nC s)
  omega
end Go.Proofs.YtibmgbalfhfcdaaDoor.Abs
set_option linter.unusedVariables false
set_option linter.unusedSimpArgs false
set_option maxRecDepth 100000
namespace Go.Proofs.YtibmgbalfhfcdaaDoor.Abs
open Classical
abbrev UW : Type := Nat × (Int × (Int × (E56 × Bool)))
def pkW (s : E23) (l : List E72) (M : List (E56 × E94)) (u : UW) : E123 × ((Nat × UT79) × ((List (E56 × E94)) × (Int × (Int × ((Int × (Int × Unit)) × (Bool × Unit)))))) := (XX s l, ((u.1, UC79), (M, (u.2.1, (u.2.2.1, (u.2.2.2.1, (u.2.2.2.2, ())))))))
def Val (s : E23) (l : List E72) (b d : Nat) (w x : Int) : Prop := ∃ m T, DC s l b d m T ∧ x = T + m * w
def Lim (P : Int → Prop) (q : E56) (found : Bool) : Prop := (found = true → P q.1 ∧ P q.2.1 ∧ ∀ x, P x → q.1 ≤ x ∧ x ≤ q.2.1) ∧ (found = false → ∀ x, ¬ P x)
theorem Lim.iff {P Q : Int → Prop} {q : E56} {f : Bool} (h : Lim P q f) (e : ∀ x, P x ↔ Q x) : Lim Q q f := ⟨fun hf => ⟨(e _).1 (h.1 hf).1, (e _).1 (h.1 hf).2.1, fun x hx => (h.1 hf).2.2 x ((e x).2 hx)⟩, fun hf x hx => h.2 hf x ((e x).2 hx)⟩
def VW (s : E23) (l : List E72) (b : Nat) (u : UW) (r : Bool) (u' : UW) : Prop := r = true ∧ u'.1 = 0 ∧ u'.2.1 = u.2.1 ∧ u'.2.2.1 = u.2.2.1 ∧ ∀ P, Lim P u.2.2.2.1 u.2.2.2.2 → Lim (fun x => P x ∨ Val s l b u.2.1.toNat u.2.2.1 x) u'.2.2.2.1 u'.2.2.2.2
def PreW (k : Nat) (u : UW) : Prop := u.1 = 0 ∧ (∃ d : Nat, u.2.1 = (d : Int) ∧ d < 4) ∧ 0 ≤ u.2.2.1 ∧ u.2.2.1 ≤ 200
def ValK (s : E23) (l : List E72) (b d : Nat) (w : Int) (i : Nat) (x : Int) : Prop := ∃ j, j < i ∧ ∃ T, DC s l b d ((j : Int) - 20) T ∧ x = T + ((j : Int) - 20) * w
theorem val_k {s : E23} {l : List E72} (hs : StrOk s) {b d : Nat} {w x : Int} : Val s l b d w x ↔ ValK s l b d w 41 x := by
  constructor
  · rintro ⟨m, T, h, rfl⟩
    obtain ⟨k, hk, rfl⟩ := rate_k (h.bd hs).1
    exact ⟨k, hk, T, h, rfl⟩
  · rintro ⟨j, hj, T, h, rfl⟩
    exact ⟨_, T, h, rfl⟩
theorem where_l0 {s : E23} {l : List E72} (hs : StrOk s) {b d : Nat} {v : E94} (hv : AnsIs s l b d v) {w : Int} (hw : 0 ≤ w ∧ w ≤ 200) (M : List (E56 × E94)) (out : E56) (found : Bool) :
    ∃ out' found' i, G28_l0_run ((v.1, (0, ())), ((1, UC79), ((d : Int), (w, (out, (found, (XX s l, (M, ())))))))) = some (0, ((v.1, (i, ())), ((1, UC79), ((d : Int), (w, (out', (found', (XX s l, (M, ()))))))))) ∧ ∀ P, Lim P out found → Lim (fun x => P x ∨ Val s l b d w x) out' found' := by
  unfold G28_l0_run
  obtain ⟨st, e, out', found', i, rfl, h⟩ := iter_inv (step := G28_l0_step) (k := 0) (n := 41)
    (fun i st => ∃ out' found', st = ((v.1, ((i : Int), ())), ((1, UC79), ((d : Int), (w, (out', (found', (XX s l, (M, ())))))))) ∧ ∀ P, Lim P out found → Lim (fun x => P x ∨ ValK s l b d w i x) out' found')
    (fun st => ∃ (out' : E56) (found' : Bool) (i : Int), st = ((v.1, (i, ())), ((1, UC79), ((d : Int), (w, (out', (found', (XX s l, (M, ())))))))) ∧ ∀ P, Lim P out found → Lim (fun x => P x ∨ ValK s l b d w 41 x) out' found')
    (by
      rintro i st ⟨out1, found1, rfl, hL⟩ hi
      have e0 : decide ((i : Int) < 41) = true := decide_eq_true (by omega)
      unfold G28_l0_step
      simp only [e0, ge0, Bool.and_self, cond_true, getD_toNat, wr1 (i := i) (by omega)]
      have hsp := hv.span i hi
      have step : ∀ x, ValK s l b d w (i + 1) x ↔ ValK s l b d w i x ∨ ∃ T, DC s l b d ((i : Int) - 20) T ∧ x = T + ((i : Int) - 20) * w := fun x => by
        constructor
        · rintro ⟨j, hj, T, h, rfl⟩
          rcases Nat.lt_succ_iff_lt_or_eq.1 hj with h' | h'
          · exact .inl ⟨j, h', T, h, rfl⟩
          · subst h'; exact .inr ⟨T, h, rfl⟩
        · rintro (⟨j, hj, T, h, rfl⟩ | ⟨T, h, rfl⟩)
          · exact ⟨j, by omega, T, h, rfl⟩
          · exact ⟨i, by omega, T, h, rfl⟩
      generalize v.1.getD i (0, (0, ())) = q at hsp ⊢
      rcases hsp with ⟨a1, a2, a3⟩ | ⟨a1, rfl⟩
      · have b1 := (a1.bd hs).2
        have b2 := (a2.bd hs).2
        have hm := mulb (m := (i : Int) - 20) (w := w) (by omega) (by omega) hw.1 hw.2
        have hneg : decide (q.1 < 0) = false := decide_eq_false (by omega)
        have new : ∀ x, (∃ T, DC s l b d ((i : Int) - 20) T ∧ x = T + ((i : Int) - 20) * w) → q.1 + ((i : Int) - 20) * w ≤ x ∧ x ≤ q.2.1 + ((i : Int) - 20) * w := fun x ⟨T, hT, hx⟩ => by
          have := a3 T hT
          omega
        have n1 : ∃ T, DC s l b d ((i : Int) - 20) T ∧ q.1 + ((i : Int) - 20) * w = T + ((i : Int) - 20) * w := ⟨_, a1, rfl⟩
        have n2 : ∃ T, DC s l b d ((i : Int) - 20) T ∧ q.2.1 + ((i : Int) - 20) * w = T + ((i : Int) - 20) * w := ⟨_, a2, rfl⟩
        simp only [hneg, cond_false]
        rw [wr (n := (i : Int) - 20) (by omega) (by omega), wr (n := ((i : Int) - 20) * w) (by omega) (by omega), wr (n := q.1 + ((i : Int) - 20) * w) (by omega) (by omega), wr (n := q.2.1 + ((i : Int) - 20) * w) (by omega) (by omega)]
        generalize q.1 + ((i : Int) - 20) * w = y1 at new n1 ⊢
        generalize q.2.1 + ((i : Int) - 20) * w = y2 at new n2 ⊢
        cases found1 with
        | false =>
          simp only [Bool.not_false, cond_true]
          have f1 : (if y1 < y1 then y1 else y1) = y1 := by split <;> rfl
          have f2 : (if y2 > y2 then y2 else y2) = y2 := by split <;> rfl
          rw [f1, f2]
          refine ⟨_, rfl, (y1, (y2, ())), true, rfl, fun P hP => ?_⟩
          have hno := (hL P hP).2 rfl
          refine ⟨fun _ => ⟨.inr ((step _).2 (.inr n1)), .inr ((step _).2 (.inr n2)), fun x hx => ?_⟩, fun h => by cases h⟩
          rcases hx with hx | hx
          · exact absurd (.inl hx) (hno x)
          · rcases (step x).1 hx with hx | hx
            · exact absurd (.inr hx) (hno x)
            · exact new x hx
        | true =>
          simp only [Bool.not_true, cond_false]
          refine ⟨_, rfl, (if y1 < out1.1 then y1 else out1.1, (if y2 > out1.2.1 then y2 else out1.2.1, ())), true, rfl, fun P hP => ?_⟩
          obtain ⟨c1, c2, c3⟩ := (hL P hP).1 rfl
          have up : ∀ x, (P x ∨ ValK s l b d w i x) → (P x ∨ ValK s l b d w (i + 1) x) := fun x hx => hx.imp id fun h => (step x).2 (.inl h)
          refine ⟨fun _ => ⟨?_, ?_, fun x hx => ?_⟩, fun h => by cases h⟩
          · simp only
            split
            · exact .inr ((step _).2 (.inr n1))
            · exact up _ c1
          · simp only
            split
            · exact .inr ((step _).2 (.inr n2))
            · exact up _ c2
          · have hx' : (P x ∨ ValK s l b d w i x) ∨ ∃ T, DC s l b d ((i : Int) - 20) T ∧ x = T + ((i : Int) - 20) * w := by
              rcases hx with hx | hx
              · exact .inl (.inl hx)
              · rcases (step x).1 hx with hx | hx
                · exact .inl (.inr hx)
                · exact .inr hx
            simp only
            rcases hx' with hx | hx
            · have := c3 x hx
              constructor <;> split <;> omega
            · have := new x hx
              constructor <;> split <;> omega
      · have hneg : decide ((-1 : Int) < 0) = true := rfl
        simp only [hneg, cond_true]
        refine ⟨_, rfl, out1, found1, rfl, fun P hP => (hL P hP).iff fun x => or_congr_right ?_⟩
        rw [step x]
        exact ⟨.inl, fun h => h.elim id fun ⟨T, hT, _⟩ => absurd hT (a1 T)⟩)
    (by
      rintro st ⟨out1, found1, rfl, hL⟩
      have e0 : decide (((41 : Nat) : Int) < 41) = false := by decide
      unfold G28_l0_step
      simp only [e0, cond_false]
      exact ⟨_, rfl, out1, found1, _, rfl, hL⟩)
    41 0 (G28_l0_fuel ((v.1, (0, ())), ((1, UC79), ((d : Int), (w, (out, (found, (XX s l, (M, ()))))))))) ((v.1, (0, ())), ((1, UC79), ((d : Int), (w, (out, (found, (XX s l, (M, ())))))))) (by omega) (by unfold G28_l0_fuel; simp) ⟨out, found, rfl, fun P hP => hP.iff fun x => ⟨.inl, fun h => h.elim id fun ⟨j, hj, _⟩ => absurd hj (by omega)⟩⟩
  exact ⟨out', found', i, e, fun P hP => (h P hP).iff fun x => or_congr_right (val_k hs).symm⟩
theorem r0W {s : E23} {l : List E72} (hs : StrOk s) (hl : RdsOk s l) (hn : l.length ≤ 1000) {b : Nat} (hb : b < 2 ^ 62) {M : List (E56 × E94)} (hM : MemoOk s l M) (u : UW) (k : Nat) (hu : PreW k u) :
    ∃ u' M', G28 b (u.1, UC79) u.2.1 u.2.2.1 u.2.2.2.1 u.2.2.2.2 (XX s l) M = some (true, ((u'.1, UC79), (u'.2.1, (u'.2.2.1, (u'.2.2.2.1, (u'.2.2.2.2, (XX s l, (M', ())))))))) ∧ VW s l b u true u' ∧ MemoOk s l M' := by
  obtain ⟨k0, d0, w, out, found⟩ := u
  obtain ⟨h1, ⟨d, h2, h3⟩, h4, h5⟩ := hu
  simp only at h1 h2 h4 h5
  subst h1; subst h2
  obtain ⟨v, M', e1, e2, e3⟩ := depth_eq hs hl hn hb h3 hM
  obtain ⟨out', found', i, e4, e5⟩ := where_l0 hs e2 (w := w) ⟨h4, h5⟩ M' out found
  unfold G28
  simp only [natK]
  rw [show G54 (d : Int) (b : Int) ((XX s l).1, ((XX s l).2.1, ((), (XX s l).2.2.2))) M = _ from e1]
  simp only [Option.bind_some]
  rw [show G28_l0_run ((v.1, (0, ())), ((1, UC79), ((d : Int), (w, (out, (found, (((XX s l).1, ((XX s l).2.1, ((), (XX s l).2.2.2))), (M', ())))))))) = _ from e4]
  refine ⟨(0, ((d : Int), (w, (out', found')))), M', rfl, ⟨rfl, rfl, rfl, rfl, ?_⟩, e3⟩
  simp only [Int.toNat_natCast]
  exact e5
theorem srchW {s : E23} {l : List E72} (hs : StrOk s) (hl : RdsOk s l) (hn : l.length ≤ 1000) : Srch (nC s) (MemoOk s l) PreW (Ex s l) (VW s l) (pkW s l) G94_v2_fix G94_v2_l0_step where
  hn := by have := nC_le hs; omega
  base := by
    rintro f from_ now M u k hlow hM hP
    have hn10 := nC_le hs
    obtain ⟨h60, h62⟩ := low_60 hlow (by omega)
    obtain ⟨r, M', e, hr, hM'⟩ := explains_eq hs hl hn h62 hM
    show ∃ r u' M', G94_v2_b (G94_v2_fix f) 0 from_ now (XX s l) (u.1, UC79) M u.2.1 u.2.2.1 u.2.2.2.1 u.2.2.2.2 = some (r, pkW s l M' u') ∧ _
    unfold G94_v2_b
    have e0 : ((0 : Int) == 0) = true := rfl
    simp only [e0, cond_true]
    rw [show G52 (now : Int) ((XX s l).1, ((XX s l).2.1, ((), (XX s l).2.2.2))) M = _ from e]
    simp only [Option.bind_some]
    cases r with
    | false => exact ⟨true, u, M', rfl, hM', .inl ⟨(fun h => by have := hr.2 h; cases this), rfl, rfl⟩⟩
    | true =>
      simp only [Bool.not_true, cond_false]
      obtain ⟨u', M2, e2, hv, hM2⟩ := r0W hs hl hn h62 hM' u (k + 1) hP
      rw [show G28 (now : Int) (u.1, UC79) u.2.1 u.2.2.1 u.2.2.2.1 u.2.2.2.2 ((XX s l).1, ((XX s l).2.1, ((), (XX s l).2.2.2))) M' = _ from e2]
      exact ⟨true, u', M2, rfl, hM2, .inr ⟨hr.1 rfl, hv⟩⟩
  pre := by
    rintro b u u' k ⟨_, h1, h2, h3, _⟩ ⟨hk0, hd, hw⟩
    exact ⟨h1, by rw [h2]; exact hd, by rw [h3]; exact hw⟩
  mono := fun u k h => h
  step := by
    rintro f left from_ now M u hleft
    show G94_v2_b (G94_v2_fix f) left from_ now (XX s l) (u.1, UC79) M u.2.1 u.2.2.1 u.2.2.2.1 u.2.2.2.2 = _
    unfold G94_v2_b
    rw [beq_eq_false_iff_ne.2 hleft, cond_false]
    rfl
  stp_ := by
    rintro rc ⟨left, now, ret, i, _⟩ M u
    unfold G94_v2_l0_step srchStp pkW
    rw [show G64 ((XX s l).1, ((XX s l).2.1, ((), (XX s l).2.2.2))) = _ from many_eq hs l]
    rfl
def p93W (s : E23) (l : List E72) (most : Int) (M : List (E56 × E94)) (u : UW) : (Nat × UT79) × (Int × (Int × (Int × ((Int × (Int × Unit)) × (Bool × (E123 × ((List (E56 × E94)) × Unit))))))) := ((u.1, UC79), (most, (u.2.1, (u.2.2.1, (u.2.2.2.1, (u.2.2.2.2, (XX s l, (M, ()))))))))
theorem all93W {s : E23} {l : List E72} (hs : StrOk s) (hl : RdsOk s l) (hn : l.length ≤ 1000) {M : List (E56 × E94)} (hM : MemoOk s l M) (most : Nat) (hmost : most ≤ nC s) (u : UW) (hu : ∀ k, PreW k u) :
    ∃ r u' M', G93_v4 (u.1, UC79) (most : Int) u.2.1 u.2.2.1 u.2.2.2.1 u.2.2.2.2 (XX s l) M = some ((), p93W s l (most : Int) M' u') ∧ Feed (Ex s l) (VW s l) (allC (nC s) most) u r u' := by
  have hn10 := nC_le hs
  obtain ⟨k, x, r, u', M', e, hM', hF⟩ := (srchW hs hl hn).all (p93W s l (most : Int)) G93_v4_l0_step most hmost
    (by
      rintro m1 many M u r u1 M' hlt hm1 e
      unfold G93_v4_l0_step p93W
      simp only [lt_int hlt, cond_true]
      rw [show G94_v2 (many : Int) 0 0 ((XX s l).1, ((XX s l).2.1, ((), (XX s l).2.2.2))) (u.1, UC79) M u.2.1 u.2.2.1 u.2.2.2.1 u.2.2.2.2 = _ from e]
      simp only [Option.bind_some, wr1 (i := many) (by omega)]
      cases r <;> rfl)
    (by
      rintro m1 M u
      unfold G93_v4_l0_step p93W
      simp only [nlt_int, cond_false]) M u hM (hu _) (most + 2) (by omega)
  unfold G93_v4
  rw [wr1 (i := most) (by omega)]
  have hfu : G93_v4_l0_fuel ((((most + 1 : Nat) : Int), (0, ())), p93W s l (most : Int) M u) = most + 2 := by unfold G93_v4_l0_fuel; simp only; omega
  rw [show G93_v4_l0_run ((((most + 1 : Nat) : Int), (0, ())), ((u.1, UC79), ((most : Int), (u.2.1, (u.2.2.1, (u.2.2.2.1, (u.2.2.2.2, (((XX s l).1, ((XX s l).2.1, ((), (XX s l).2.2.2))), (M, ()))))))))) = iter G93_v4_l0_step (G93_v4_l0_fuel ((((most + 1 : Nat) : Int), (0, ())), p93W s l (most : Int) M u)) ((((most + 1 : Nat) : Int), (0, ())), p93W s l (most : Int) M u) from rfl, hfu, e]
  refine ⟨r, u', M', ?_, hF⟩
  cases k <;> rfl
theorem feedW {s : E23} {l : List E72} {d : Int} {w : Int} : ∀ (xs : List Nat) (u : UW) (r : Bool) (u' : UW) (P : Int → Prop), u.1 = 0 → u.2.1 = d → u.2.2.1 = w → Feed (Ex s l) (VW s l) xs u r u' → Lim P u.2.2.2.1 u.2.2.2.2 → u'.1 = 0 ∧ Lim (fun x => P x ∨ ∃ b ∈ xs, Ex s l b ∧ Val s l b d.toNat w x) u'.2.2.2.1 u'.2.2.2.2
  | [], u, r, u', P, h0, hd, hw, h, hP => by
    cases h
    exact ⟨h0, hP.iff fun x => by simp⟩
  | y :: xs, u, r, u', P, h0, hd, hw, h, hP => by
    cases h with
    | skip a h =>
      obtain ⟨h1, h2⟩ := feedW xs u r u' P h0 hd hw h hP
      refine ⟨h1, h2.iff fun x => or_congr_right ⟨fun ⟨b, hb, hh⟩ => ⟨b, List.mem_cons_of_mem _ hb, hh⟩, fun ⟨b, hb, hE, hh⟩ => ?_⟩⟩
      rcases List.mem_cons.1 hb with rfl | hb
      · exact absurd hE a
      · exact ⟨b, hb, hE, hh⟩
    | go a b h =>
      obtain ⟨_, b1, b2, b3, b4⟩ := b
      have hP1 := b4 P hP
      obtain ⟨h1, h2⟩ := feedW xs _ r u' _ b1 (b2.trans hd) (b3.trans hw) h hP1
      rw [hd, hw] at h2
      refine ⟨h1, h2.iff fun x => ?_⟩
      rw [or_assoc]
      refine or_congr_right ⟨fun hx => ?_, fun ⟨b, hb, hE, hh⟩ => ?_⟩
      · rcases hx with hx | ⟨b, hb, hh⟩
        · exact ⟨y, List.mem_cons_self .., a, hx⟩
        · exact ⟨b, List.mem_cons_of_mem _ hb, hh⟩
      · rcases List.mem_cons.1 hb with rfl | hb
        · exact .inl hh
        · exact .inr ⟨b, hb, hE, hh⟩
    | stop a b => exact absurd b.1 (by decide)
def WhOk (s : E23) (most d w : Int) : Prop := (0 ≤ most ∧ most ≤ ((nC s : Nat) : Int)) ∧ (0 ≤ d ∧ d < s.2.2.2.1) ∧ (0 ≤ w ∧ w ≤ 200)
theorem fineW {s : E23} (hs : StrOk s) (l : List E72) (most d w : Int) : ∃ b, G72 (XX s l) most d s w [] = some (b, (XX s l, (most, (d, (s, (w, ([], ()))))))) ∧ (b = true ↔ WhOk s most d w) := by
  have hdep := hs.depths
  unfold G72
  rw [show G64 ((XX s l).1, ((XX s l).2.1, ((), (XX s l).2.2.2))) = _ from many_eq hs l]
  rw [wr (n := s.2.2.2.1 - 1) (by omega) (by omega)]
  simp only [Option.bind_some, in_tells]
  unfold WhOk
  by_cases h1 : 0 ≤ most ∧ most ≤ ((nC s : Nat) : Int)
  · rw [decide_eq_true h1, cond_true]
    by_cases h2 : 0 ≤ d ∧ d ≤ s.2.2.2.1 - 1
    · rw [decide_eq_true h2, cond_true]
      exact ⟨_, rfl, by rw [decide_eq_true_iff]; exact ⟨fun h => ⟨h1, ⟨h2.1, by omega⟩, h⟩, fun h => h.2.2⟩⟩
    · rw [decide_eq_false h2, cond_false]
      exact ⟨false, rfl, by simp only [Bool.false_eq_true, false_iff]; intro h; exact h2 ⟨h.2.1.1, by have := h.2.1.2; omega⟩⟩
  · rw [decide_eq_false h1, cond_false]
    exact ⟨false, rfl, by simp only [Bool.false_eq_true, false_iff]; intro h; exact h1 h.1⟩
theorem given4_eq (s : E23) (l : List E72) (most d w : Int) (h0 : l.length < 2 ^ 62) :
    (24 < l.length ∧ G49_v4 s l most d s w = some (.inl (((), (3, ())), (most, (d, (s, (w, ()))))))) ∨ (l.length ≤ 24 ∧ ¬ (SlOk s l ∧ WhOk s most d w) ∧ G49_v4 s l most d s w = some (.inl (((), (2, ())), (most, (d, (s, (w, ()))))))) ∨ (SlOk s l ∧ WhOk s most d w ∧ G49_v4 s l most d s w = some (.inr (((), (0, ())), (most, (d, (s, (w, (s, ([], (XX s l, ())))))))))) := by
  unfold G49_v4
  by_cases hl : l.length ≤ 24
  case neg =>
    rw [decide_eq_true (p := (l.length : Int) > 24) (by omega)]
    exact .inl ⟨by omega, rfl⟩
  right
  rw [decide_eq_false (p := (l.length : Int) > 24) (by omega), cond_false]
  by_cases hs : StrOk s
  case neg =>
    rw [(valid_tells s).nval hs]
    exact .inl ⟨hl, fun h => hs h.1.2.1, rfl⟩
  rw [(valid_tells s).val hs]
  simp only [Option.bind_some, Bool.not_true, cond_false]
  rw [cf81 l s hs h0]
  simp only [Option.bind_some]
  cases ha : l.any (fun r => !decide (RdOk s r)) with
  | true =>
    refine .inl ⟨hl, fun h => ?_, rfl⟩
    rw [List.any_eq_true] at ha
    obtain ⟨x, hx, hx'⟩ := ha
    rw [decide_eq_true (h.1.2.2 x hx)] at hx'
    cases hx'
  | false =>
    have hr : RdsOk s l := by
      intro r hr
      have := List.any_eq_false.1 ha r hr
      simpa using this
    simp only [cond_false]
    obtain ⟨b, e, hb⟩ := fineW hs l most d w
    rw [e]
    cases b with
    | true => exact .inr ⟨⟨hl, hs, hr⟩, hb.1 rfl, rfl⟩
    | false => exact .inl ⟨hl, fun h => (by have := hb.2 h.2; cases this), rfl⟩
def ValA (s : E23) (l : List E72) (most d w x : Int) : Prop := ∃ b ∈ allC (nC s) most.toNat, Ex s l b ∧ Val s l b d.toNat w x
theorem swhere_eq (s : E23) (l : List E72) (most d w : Int) (h0 : l.length < 2 ^ 62) :
    (24 < l.length ∧ g28_sense_Where s l most d w = some ((0, (0, ())), (3, ()))) ∨ (l.length ≤ 24 ∧ ¬ (SlOk s l ∧ WhOk s most d w) ∧ g28_sense_Where s l most d w = some ((0, (0, ())), (2, ()))) ∨ (SlOk s l ∧ WhOk s most d w ∧ (((∀ x, ¬ ValA s l most d w x) ∧ g28_sense_Where s l most d w = some ((0, (0, ())), (5, ()))) ∨ ∃ q, Lim (ValA s l most d w) q true ∧ g28_sense_Where s l most d w = some (q, (0, ())))) := by
  unfold g28_sense_Where
  rcases given4_eq s l most d w h0 with ⟨h, e⟩ | ⟨h, h', e⟩ | ⟨hsl, hw, e⟩
  · rw [e]; exact .inl ⟨h, rfl⟩
  · rw [e]; exact .inr (.inl ⟨h, h', rfl⟩)
  · rw [e]
    refine .inr (.inr ⟨hsl, hw, ?_⟩)
    have hn : l.length ≤ 1000 := by have := hsl.1; omega
    have hs := hsl.2.1
    have hdep := hs.depths
    have hn10 := nC_le hs
    obtain ⟨w1, w2, w3⟩ := hw
    obtain ⟨r, u', M', e2, hF⟩ := all93W hs hsl.2.2 hn (memo_nil s l) most.toNat (by omega) (0, (d, (w, ((0, (0, ())), false)))) (fun k => ⟨rfl, ⟨d.toNat, by simp only; omega, by omega⟩, w3.1, w3.2⟩)
    have em : ((most.toNat : Nat) : Int) = most := by omega
    rw [em] at e2
    simp only [Option.bind_some, altK]
    have e0 : ((0 : Int) != 0) = false := rfl
    simp only [e0, cond_false, G63, Option.bind_some]
    rw [show G93_v4 (0, UC79) most d w (0, (0, ())) false ((XX s l).1, ((XX s l).2.1, ((), (XX s l).2.2.2))) [] = _ from e2]
    obtain ⟨f1, f2⟩ := feedW (d := d) (w := w) (allC (nC s) most.toNat) _ r u' (fun _ => False) rfl rfl rfl hF ⟨fun h => (by cases h), fun _ x h => h⟩
    obtain ⟨k, d', w', q, found⟩ := u'
    simp only at f1 f2
    subst f1
    have f3 : Lim (ValA s l most d w) q found := f2.iff fun x => ⟨fun h => h.elim (fun h => h.elim) id, .inr⟩
    cases found with
    | false => exact .inl ⟨f3.2 rfl, rfl⟩
    | true => exact .inr ⟨q, f3, rfl⟩
end Go.Proofs.YtibmgbalfhfcdaaDoor.Abs
