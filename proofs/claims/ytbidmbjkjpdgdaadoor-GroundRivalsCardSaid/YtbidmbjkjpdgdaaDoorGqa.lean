/-
  Plain laws of the ground layer, eleventh part: the greatest heat, and the least cold; the program's and the reference's.
-/
import Derived.Test.YtbidmbjkjpdgdaaDoorGq9
set_option linter.unusedVariables false
set_option linter.unusedSimpArgs false
set_option maxRecDepth 100000
namespace Go.Proofs.YtbidmbjkjpdgdaaDoor.Abs

section
variable {p : E25} {l : List E72} {d : Int}
/-- The greatest heat that keeps a depth; -1 if there is none. -/
def Alw (p : E25) (l : List E72) (d x : Int) : Prop := -1 ≤ x ∧ x ≤ 1000000 ∧ (∀ w, 0 ≤ w → w ≤ 1000000 → (excW p l d w = false ↔ w ≤ x))
theorem Alw.unique {a b : Int} (h : Alw p l d a) (g : Alw p l d b) : a = b := by
  obtain ⟨a1, a2, a3⟩ := h
  obtain ⟨b1, b2, b3⟩ := g
  rcases Int.lt_trichotomy a b with c | c | c
  · have h1 := (b3 b (by omega) (by omega)).2 (Int.le_refl _)
    have h2 := (a3 b (by omega) (by omega)).1 h1
    omega
  · exact c
  · have h1 := (a3 a (by omega) (by omega)).2 (Int.le_refl _)
    have h2 := (b3 a (by omega) (by omega)).1 h1
    omega
/-- The least cold that keeps a depth; -1 if there is none. -/
def Ned (p : E25) (l : List E72) (d x : Int) : Prop := (x = -1 ∧ ∀ m, 0 ≤ m → m ≤ 1000000 → kepM p l d m = false) ∨ (0 ≤ x ∧ x ≤ 1000000 ∧ ∀ m, 0 ≤ m → m ≤ 1000000 → (kepM p l d m = true ↔ x ≤ m))
theorem Ned.unique {a b : Int} (h : Ned p l d a) (g : Ned p l d b) : a = b := by
  rcases h with ⟨rfl, h⟩ | ⟨a1, a2, a3⟩ <;> rcases g with ⟨rfl, g⟩ | ⟨b1, b2, b3⟩
  · rfl
  · have := (b3 b b1 b2).2 (Int.le_refl _)
    rw [h b b1 b2] at this; cases this
  · have := (a3 a a1 a2).2 (Int.le_refl _)
    rw [g a a1 a2] at this; cases this
  · have h1 := (b3 a a1 a2).1 ((a3 a a1 a2).2 (Int.le_refl _))
    have h2 := (a3 b b1 b2).1 ((b3 b b1 b2).2 (Int.le_refl _))
    omega
theorem g29_bad (hp : p.1.length < 2 ^ 40) (hl : l.length < 2 ^ 40) (h : errOf p l (inB d 0 2000000) ≠ 0) : g29_ground_Allow p l d = some (0, (errOf p l (inB d 0 2000000), ())) := by
  unfold g29_ground_Allow
  rw [g60]
  simp only [Option.bind_some]
  rw [g51 p l _ hp hl]
  simp only [Option.bind_some]
  rw [show (errOf p l (inB d 0 2000000) != 0) = true from by simpa using h]
  rfl
theorem g30_bad (hp : p.1.length < 2 ^ 40) (hl : l.length < 2 ^ 40) (h : errOf p l (inB d 0 2000000) ≠ 0) : g30_ground_Need p l d = some (0, (errOf p l (inB d 0 2000000), ())) := by
  unfold g30_ground_Need
  rw [g60]
  simp only [Option.bind_some]
  rw [g51 p l _ hp hl]
  simp only [Option.bind_some]
  rw [show (errOf p l (inB d 0 2000000) != 0) = true from by simpa using h]
  rfl
theorem err_true (h : errOf p l (inB d 0 2000000) = 0) : errOf p l true = 0 := by
  have := (errOf_zero h).2.1
  rw [this] at h
  exact h
theorem g29_ok (h : errOf p l (inB d 0 2000000) = 0) : ∃ x, Alw p l d x ∧ g29_ground_Allow p l d = some (if x < 0 then (0, (5, ())) else (x, (0, ()))) := by
  have he := err_true h
  obtain ⟨hl, _, hp, hy⟩ := errOf_zero he
  have hpl := okPl_len hp
  obtain ⟨n, hn, e⟩ := g63 (d := d) he
  have h0 := hn.lo
  have h9 := hn.hi
  unfold g29_ground_Allow
  rw [g60]
  simp only [Option.bind_some]
  rw [g51 p l _ (by omega) (by omega), h]
  simp only [Option.bind_some, show ((0 : Int) != 0) = false from rfl, cond_false, e]
  cases c : excW p l d n with
  | false =>
    have hn9 : n = 1000000 := by
      refine Classical.byContradiction fun hne => ?_
      have := hn.above n (Int.le_refl _) (by omega)
      rw [c] at this; cases this
    refine ⟨1000000, ⟨by omega, Int.le_refl _, fun w w0 w9 => ⟨fun _ => w9, fun _ => ?_⟩⟩, ?_⟩
    · by_cases hw : w = 1000000
      · rw [hw, ← hn9]; exact c
      · exact hn.below w w0 (by omega)
    · rw [if_neg (by omega)]
      rfl
  | true =>
    refine ⟨n - 1, ⟨by omega, by omega, fun w w0 w9 => ⟨fun hw => ?_, fun hw => hn.below w w0 (by omega)⟩⟩, ?_⟩
    · refine Classical.byContradiction fun hne => ?_
      have := excW_mono he n w h0 (by omega) w9 c
      rw [hw] at this; cases this
    · by_cases hz : n = 0
      · rw [if_pos (by omega), hz]
        rfl
      · rw [if_neg (by omega), show (n == 0) = false from by simpa using hz, wr (by omega) (by omega)]
        rfl
theorem g30_ok (h : errOf p l (inB d 0 2000000) = 0) : ∃ x, Ned p l d x ∧ g30_ground_Need p l d = some (if x < 0 then (0, (5, ())) else (x, (0, ()))) := by
  have he := err_true h
  obtain ⟨hl, _, hp, hy⟩ := errOf_zero he
  have hpl := okPl_len hp
  obtain ⟨n, hn, e⟩ := g63v (d := d) he
  have h0 := hn.lo
  have h9 := hn.hi
  unfold g30_ground_Need
  rw [g60]
  simp only [Option.bind_some]
  rw [g51 p l _ (by omega) (by omega), h]
  simp only [Option.bind_some, show ((0 : Int) != 0) = false from rfl, cond_false, e]
  cases c : kepM p l d n with
  | false =>
    have hn9 : n = 1000000 := by
      refine Classical.byContradiction fun hne => ?_
      have := hn.above n (Int.le_refl _) (by omega)
      rw [c] at this; cases this
    refine ⟨-1, .inl ⟨rfl, fun m m0 m9 => ?_⟩, ?_⟩
    · by_cases hm : m = 1000000
      · rw [hm, ← hn9]; exact c
      · exact hn.below m m0 (by omega)
    · rw [if_pos (by omega)]
      rfl
  | true =>
    refine ⟨n, .inr ⟨h0, h9, fun m m0 m9 => ⟨fun hm => ?_, fun hm => kepM_mono he n m h0 hm m9 c⟩⟩, ?_⟩
    · refine Classical.byContradiction fun hne => ?_
      have := hn.below m m0 (by omega)
      rw [hm] at this; cases this
    · rw [if_neg (by omega)]
      rfl

/-! ### The reference's -/
theorem g65_w (h : errOf p l true = 0) {w : Int} (h0 : 0 ≤ w) (h9 : w ≤ 1000000) : g65_talikref01_Kept p l d w 0 = some (!excW p l d w) := by
  have e := fair_end (w := true) (wp_err h h0 h9)
  have hf := e.few
  have hpl := okPl_len e.place
  have hc := exc_le (w := true) (p := wp p w) (l := l) (more := 0) (d := d)
  unfold g65_talikref01_Kept
  rw [decide_eq_true (show w ≥ 0 by omega)]
  simp only [cond_true]
  rw [show (p.1, ((w, (w, ())), p.2.2)) = wp p w from rfl, g26 (by omega) (by omega)]
  simp only [Option.bind_some]
  rw [follow_end e.few e.place e.years (Int.le_refl 0) (by omega)]
  simp only [Option.bind_some]
  rw [g28 (by omega)]
  simp only [Option.bind_some]
  rw [show ((fst (thw (wp p w) (eT true (wp p w) l) 0) d l.length 0 : Nat) : Int) = (exc true (wp p w) l 0 d : Int) from rfl]
  unfold excW
  by_cases c : exc true (wp p w) l 0 d < l.length
  · rw [decide_eq_true c, show ((exc true (wp p w) l 0 d : Int) == (l.length : Int)) = false from by simp; omega]
    rfl
  · rw [decide_eq_false c, show ((exc true (wp p w) l 0 d : Int) == (l.length : Int)) = true from by simp; omega]
    rfl
theorem g65_m (h : errOf p l true = 0) {m : Int} (h0 : 0 ≤ m) (h9 : m ≤ 1000000) : g65_talikref01_Kept p l d (-1) m = some (kepM p l d m) := by
  have e := fair_end (w := true) h
  have hf := e.few
  have hpl := okPl_len e.place
  unfold g65_talikref01_Kept
  rw [show decide ((-1 : Int) ≥ 0) = false from rfl]
  simp only [cond_false]
  rw [g26 (by omega) (by omega)]
  simp only [Option.bind_some]
  rw [follow_end e.few e.place e.years h0 h9]
  simp only [Option.bind_some]
  rw [g28 (by omega)]
  simp only [Option.bind_some]
  rw [show ((fst (thw p (eT true p l) m) d l.length 0 : Nat) : Int) = (exc true p l m d : Int) from rfl]
  unfold kepM
  by_cases c : exc true p l m d = l.length
  · rw [decide_eq_true c, c]; simp
  · rw [decide_eq_false c]; simp; omega
theorem g31 (h : errOf p l true = 0) : ∃ x, Alw p l d x ∧ g31_talikref01_Allow p l d = some x := by
  unfold g31_talikref01_Allow g31_talikref01_Allow_l0_run
  obtain ⟨q, q1, ⟨q2, q3, q4⟩, q5⟩ := halves (step := g31_talikref01_Allow_l0_step) (kx := 0) (fun s => s.1.2.2.1 + 1) (fun s => s.1.2.2.2.1 + 1) (fun w => decide (1000000 < w) || excW p l d w) 1000001 (fun s => s.1.1 = l ∧ s.1.2.1 = d ∧ s.2.1 = p)
    (fun a b a0 ab b9 ha => by
      simp only [Bool.or_eq_true, decide_eq_true_eq] at ha ⊢
      rcases ha with ha | ha
      · exact .inl (by omega)
      · exact .inr (excW_mono h a b a0 ab (by omega) ha))
    (fun s hs h0 h1 h9 => by
      obtain ⟨e1, e2, e3⟩ := hs
      have hm : IntKind.wrap .i64 (s.1.2.2.2.1 - (IntKind.wrap .i64 (Int.tdiv (IntKind.wrap .i64 (s.1.2.2.2.1 - s.1.2.2.1)) 2))) = s.1.2.2.2.1 - (s.1.2.2.2.1 - s.1.2.2.1) / 2 := by
        rw [wr (show -9223372036854775808 ≤ s.1.2.2.2.1 - s.1.2.2.1 by omega) (by omega), tdiv_eq (by omega), wr (show -9223372036854775808 ≤ (s.1.2.2.2.1 - s.1.2.2.1) / 2 by omega) (by omega), wr (by omega) (by omega)]
      have hk := g65_w (d := d) h (w := s.1.2.2.2.1 - (s.1.2.2.2.1 - s.1.2.2.1) / 2) (by omega) (by omega)
      refine ⟨s.1.2.2.2.1 - (s.1.2.2.2.1 - s.1.2.2.1) / 2, ?_⟩
      cases c : excW p l d (s.1.2.2.2.1 - (s.1.2.2.2.1 - s.1.2.2.1) / 2) with
      | true =>
        rw [c] at hk
        have w1 : IntKind.wrap .i64 (s.1.2.2.2.1 - (s.1.2.2.2.1 - s.1.2.2.1) / 2 - 1) = s.1.2.2.2.1 - (s.1.2.2.2.1 - s.1.2.2.1) / 2 - 1 := wr (by omega) (by omega)
        have st : g31_talikref01_Allow_l0_step s = some (0, ((l, (d, (s.1.2.2.1, ((s.1.2.2.2.1 - (s.1.2.2.2.1 - s.1.2.2.1) / 2 - 1), ())))), (p, ()))) := by
          unfold g31_talikref01_Allow_l0_step
          simp only [e1, e2, e3, hm, decide_eq_true (show s.1.2.2.1 < s.1.2.2.2.1 by omega), cond_true, hk, Option.bind_some, Bool.not_true, cond_false, w1]
        exact ⟨_, by omega, by omega, by omega, by omega, st, ⟨rfl, rfl, rfl⟩, .inl ⟨Bool.or_true _, rfl, by show s.1.2.2.2.1 - (s.1.2.2.2.1 - s.1.2.2.1) / 2 - 1 + 1 = _; omega⟩⟩
      | false =>
        rw [c] at hk
        have st : g31_talikref01_Allow_l0_step s = some (0, ((l, (d, ((s.1.2.2.2.1 - (s.1.2.2.2.1 - s.1.2.2.1) / 2), (s.1.2.2.2.1, ())))), (p, ()))) := by
          unfold g31_talikref01_Allow_l0_step
          simp only [e1, e2, e3, hm, decide_eq_true (show s.1.2.2.1 < s.1.2.2.2.1 by omega), cond_true, hk, Option.bind_some, Bool.not_false]
        exact ⟨_, by omega, by omega, by omega, by omega, st, ⟨rfl, rfl, rfl⟩, .inr ⟨by rw [decide_eq_false (by omega)]; rfl, rfl, rfl⟩⟩)
    (fun s hs e => by
      have st : g31_talikref01_Allow_l0_step s = some (1, ((s.1.1, (s.1.2.1, (s.1.2.2.1, (s.1.2.2.2.1, ())))), (s.2.1, ()))) := by
        unfold g31_talikref01_Allow_l0_step
        simp only [decide_eq_false (show ¬ s.1.2.2.1 < s.1.2.2.2.1 by omega), cond_false]
      exact ⟨_, st, hs, rfl⟩)
    20 (g31_talikref01_Allow_l0_fuel ((l, (d, ((-1), (1000000, ())))), (p, ()))) ((l, (d, ((-1), (1000000, ())))), (p, ())) (by show (20 : Nat) < Int.toNat (1000000 - (-1)) + 1; decide) ⟨rfl, rfl, rfl⟩ (by show (0 : Int) ≤ -1 + 1; omega) (by show (-1 : Int) + 1 ≤ 1000000 + 1; omega) (by show (1000000 : Int) + 1 ≤ 1000001; omega) (by show ((1000000 : Int) + 1) - (-1 + 1) < 2 ^ 20; decide) (fun m m1 m2 => by have : m < (-1 : Int) + 1 := m2; omega) (fun m m1 m2 => by have : (1000000 : Int) + 1 ≤ m := m1; omega)
  refine ⟨q.1.2.2.1, ⟨?_, ?_, fun w w0 w9 => ⟨fun hw => ?_, fun hw => ?_⟩⟩, ?_⟩
  · have := q5.lo; omega
  · have := q5.hi; omega
  · refine Classical.byContradiction fun hne => ?_
    have := q5.above w (by omega) (by omega)
    simp only [hw, Bool.or_false, decide_eq_true_eq] at this
    omega
  · have := q5.below w w0 (by omega)
    simp only [Bool.or_eq_false_iff] at this
    exact this.2
  · rw [q1]
    rfl
theorem g32 (h : errOf p l true = 0) : ∃ x, Ned p l d x ∧ g32_talikref01_Need p l d = some x := by
  unfold g32_talikref01_Need
  rw [g65_m h (by omega) (Int.le_refl _)]
  simp only [Option.bind_some]
  cases hk : kepM p l d 1000000 with
  | false =>
    refine ⟨-1, .inl ⟨rfl, fun m m0 m9 => ?_⟩, rfl⟩
    cases hm : kepM p l d m with
    | false => rfl
    | true =>
      have := kepM_mono h m 1000000 m0 m9 (Int.le_refl _) hm
      rw [hk] at this; cases this
  | true =>
    simp only [Bool.not_true, cond_false]
    unfold g32_talikref01_Need_l0_run
    obtain ⟨q, q1, ⟨q2, q3, q4⟩, q5⟩ := halves (step := g32_talikref01_Need_l0_step) (kx := 0) (fun s => s.1.2.2.1) (fun s => s.1.2.2.2.1) (kepM p l d) 1000000 (fun s => s.1.1 = l ∧ s.1.2.1 = d ∧ s.2.1 = p)
      (fun a b a0 ab b9 => kepM_mono h a b a0 ab (by omega))
      (fun s hs h0 h1 h9 => by
        obtain ⟨e1, e2, e3⟩ := hs
        have hm := mid_eq h0 (show s.1.2.2.1 ≤ s.1.2.2.2.1 by omega) (by omega)
        have hk := g65_m (d := d) h (m := s.1.2.2.1 + (s.1.2.2.2.1 - s.1.2.2.1) / 2) (by omega) (by omega)
        refine ⟨s.1.2.2.1 + (s.1.2.2.2.1 - s.1.2.2.1) / 2, ?_⟩
        cases c : kepM p l d (s.1.2.2.1 + (s.1.2.2.2.1 - s.1.2.2.1) / 2) with
        | true =>
          rw [c] at hk
          have st : g32_talikref01_Need_l0_step s = some (0, ((l, (d, (s.1.2.2.1, ((s.1.2.2.1 + (s.1.2.2.2.1 - s.1.2.2.1) / 2), ())))), (p, ()))) := by
            unfold g32_talikref01_Need_l0_step
            simp only [e1, e2, e3, hm, decide_eq_true (show s.1.2.2.1 < s.1.2.2.2.1 by omega), cond_true, hk, Option.bind_some]
          exact ⟨_, by omega, by omega, by omega, by omega, st, ⟨rfl, rfl, rfl⟩, .inl ⟨rfl, rfl, rfl⟩⟩
        | false =>
          rw [c] at hk
          have w1 : IntKind.wrap .i64 (s.1.2.2.1 + (s.1.2.2.2.1 - s.1.2.2.1) / 2 + 1) = s.1.2.2.1 + (s.1.2.2.2.1 - s.1.2.2.1) / 2 + 1 := wr (by omega) (by omega)
          have st : g32_talikref01_Need_l0_step s = some (0, ((l, (d, ((s.1.2.2.1 + (s.1.2.2.2.1 - s.1.2.2.1) / 2 + 1), (s.1.2.2.2.1, ())))), (p, ()))) := by
            unfold g32_talikref01_Need_l0_step
            simp only [e1, e2, e3, hm, decide_eq_true (show s.1.2.2.1 < s.1.2.2.2.1 by omega), cond_true, hk, Option.bind_some, cond_false, w1]
          exact ⟨_, by omega, by omega, by omega, by omega, st, ⟨rfl, rfl, rfl⟩, .inr ⟨rfl, rfl, rfl⟩⟩)
      (fun s hs e => by
        have st : g32_talikref01_Need_l0_step s = some (1, ((s.1.1, (s.1.2.1, (s.1.2.2.1, (s.1.2.2.2.1, ())))), (s.2.1, ()))) := by
          unfold g32_talikref01_Need_l0_step
          simp only [decide_eq_false (show ¬ s.1.2.2.1 < s.1.2.2.2.1 by omega), cond_false]
        exact ⟨_, st, hs, rfl⟩)
      20 (g32_talikref01_Need_l0_fuel ((l, (d, (0, (1000000, ())))), (p, ()))) ((l, (d, (0, (1000000, ())))), (p, ())) (by show (20 : Nat) < Int.toNat (1000000 - 0) + 1; decide) ⟨rfl, rfl, rfl⟩ (Int.le_refl 0) (by show (0 : Int) ≤ 1000000; omega) (Int.le_refl _) (by show (1000000 : Int) - 0 < 2 ^ 20; decide) (fun m m1 m2 => by have : m < (0 : Int) := m2; omega) (fun m m1 m2 => by have : (1000000 : Int) ≤ m := m1; omega)
    have b0 := q5.lo
    have b9 := q5.hi
    refine ⟨q.1.2.2.1, .inr ⟨b0, b9, fun m m0 m9 => ⟨fun hm => ?_, fun hm => ?_⟩⟩, ?_⟩
    · refine Classical.byContradiction fun hne => ?_
      have := q5.below m m0 (by omega)
      rw [hm] at this; cases this
    · by_cases e : m = 1000000
      · rw [e]; exact hk
      · exact q5.above m hm (by omega)
    · rw [q1]
      rfl
end
end Go.Proofs.YtbidmbjkjpdgdaaDoor.Abs
