/-
  Plain laws of the ground layer, seventh part: the first year in which a depth is exceeded; warmer truths thaw deeper.
-/
import Derived.Test.YtbidmbjkjpdgdaaDoorGq5
set_option linter.unusedVariables false
set_option linter.unusedSimpArgs false
set_option maxRecDepth 100000
namespace Go.Proofs.YtbidmbjkjpdgdaaDoor.Abs

/-- The first year from some year on, of so many, in which something is more than a depth; the year behind them all, if in none. -/
def fst (f : Nat → Int) (d : Int) : Nat → Nat → Nat
  | 0, i => i
  | m + 1, i => if f i > d then i else fst f d m (i + 1)
theorem fst_eq {f : Nat → Int} {d : Int} : ∀ (m i j : Nat), i ≤ j → j ≤ i + m → (∀ l, i ≤ l → l < j → ¬ f l > d) → (j < i + m → f j > d) → fst f d m i = j
  | 0, i, j, h1, h2, _, _ => by unfold fst; omega
  | m + 1, i, j, h1, h2, h3, h4 => by
    unfold fst
    by_cases h : f i > d
    · rw [if_pos h]
      rcases Nat.eq_or_lt_of_le h1 with rfl | h1
      · rfl
      · exact absurd h (h3 i (Nat.le_refl _) h1)
    · rw [if_neg h]
      rcases Nat.eq_or_lt_of_le h1 with rfl | h1
      · exact absurd (h4 (by omega)) h
      · exact fst_eq m (i + 1) j h1 (by omega) (fun l a b => h3 l (by omega) b) (fun a => h4 (by omega))
theorem fst_spec {f : Nat → Int} {d : Int} : ∀ (m i : Nat), i ≤ fst f d m i ∧ fst f d m i ≤ i + m ∧ (∀ l, i ≤ l → l < fst f d m i → f l ≤ d) ∧ (fst f d m i < i + m → f (fst f d m i) > d)
  | 0, i => by unfold fst; exact ⟨Nat.le_refl _, Nat.le_refl _, fun l a b => by omega, fun a => by omega⟩
  | m + 1, i => by
    unfold fst
    by_cases h : f i > d
    · rw [if_pos h]
      exact ⟨Nat.le_refl _, by omega, fun l a b => by omega, fun _ => h⟩
    · rw [if_neg h]
      obtain ⟨h1, h2, h3, h4⟩ := fst_spec (f := f) (d := d) m (i + 1)
      refine ⟨by omega, by omega, fun l a b => ?_, fun a => h4 (by omega)⟩
      rcases Nat.eq_or_lt_of_le a with rfl | a
      · omega
      · exact h3 l a b
/-- What is deeper exceeds a depth no later. -/
theorem fst_mono {f g : Nat → Int} {d : Int} {n : Nat} (h : ∀ i, i < n → f i ≤ g i) : fst g d n 0 ≤ fst f d n 0 := by
  obtain ⟨a1, a2, a3, a4⟩ := fst_spec (f := f) (d := d) n 0
  obtain ⟨b1, b2, b3, b4⟩ := fst_spec (f := g) (d := d) n 0
  refine Nat.le_of_not_lt fun hlt => ?_
  have h1 := a4 (by omega)
  have h2 := b3 _ (Nat.zero_le _) hlt
  have h3 := h _ (show fst f d n 0 < n by omega)
  omega
theorem fst_lt {f : Nat → Int} {d : Int} {n : Nat} : fst f d n 0 < n ↔ ∃ i, i < n ∧ f i > d := by
  obtain ⟨a1, a2, a3, a4⟩ := fst_spec (f := f) (d := d) n 0
  constructor
  · intro h
    exact ⟨_, h, a4 (by omega)⟩
  · rintro ⟨i, hi, h⟩
    refine Nat.lt_of_not_le fun hle => ?_
    have := a3 i (Nat.zero_le _) (by omega)
    omega

/-- The depth of thaw of a year. -/
def thw (p : E25) (t : E29) (more : Int) (j : Nat) : Int := dep p.1 t.1 p.1.length 0 (Rs t more j)
theorem Ds_getD {p : E25} {t : E29} {more : Int} {n i : Nat} (hi : i < n) : (Ds p t more n).getD i 0 = thw p t more i := map_range_getD hi
theorem Fo_getD1 {p : E25} {t : E29} {more : Int} {n i : Nat} (hi : i < n) : ((Fo p t more n).getD i (0, (0, ()))).1 = thw p t more i := by
  unfold Fo
  rw [map_range_getD hi]
  rfl
theorem Fo_getD2 {p : E25} {t : E29} {more : Int} {n i : Nat} (hi : i < n) : ((Fo p t more n).getD i (0, (0, ()))).2.1 = (RL t more (i + 1)).2 := by
  unfold Fo
  rw [map_range_getD hi]
theorem Ls_getD {t : E29} {more : Int} {n i : Nat} (hi : i < n) : (Ls t more n).getD i 0 = (RL t more (i + 1)).2 := map_range_getD hi

theorem g80 (x d : Int) : g80_ground_first_1 x d = some (decide (x > d), (d, ())) := rfl
theorem g61 {a : List Int} {d : Int} (ha : a.length ≤ 1000) : g61_ground_first a d = some ((fst (fun i => a.getD i 0) d a.length 0 : Nat) : Int) := by
  unfold g61_ground_first g79_slices_IndexFunc g79_slices_IndexFunc_l0_run
  rcases iter_find (step := g79_slices_IndexFunc_l0_step) (bad := fun i => decide (a.getD i 0 > d)) (n := a.length) (k1 := 0) (k2 := 1) (fun i s => s.1.1 = a ∧ s.1.2.2.1 = (a.length : Int) ∧ s.1.2.2.2.1 = (i : Int) ∧ s.2.1 = d) (fun j s => s.1.2.1 = (j : Int)) (fun _ => True)
    (fun i s h hi hb => by
      obtain ⟨h1, h2, h3, h4⟩ := h
      simp only [g79_slices_IndexFunc_l0_step, h1, h2, h3, h4, inside_lt hi, g80, getD_toNat, show decide ((i : Int) < (a.length : Int)) = true from by simp; omega, cond_true, Option.bind_some]
      rw [hb]
      exact ⟨_, rfl, rfl, rfl, wr (by omega) (by omega), rfl⟩)
    (fun i s h hi hb => by
      obtain ⟨h1, h2, h3, h4⟩ := h
      simp only [g79_slices_IndexFunc_l0_step, h1, h2, h3, h4, inside_lt hi, g80, getD_toNat, show decide ((i : Int) < (a.length : Int)) = true from by simp; omega, cond_true, Option.bind_some]
      rw [hb]
      exact ⟨_, rfl, rfl⟩)
    (fun s h => by
      obtain ⟨h1, h2, h3, h4⟩ := h
      simp only [g79_slices_IndexFunc_l0_step, h1, h2, h3, show decide ((a.length : Int) < (a.length : Int)) = false from by simp, cond_false]
      exact ⟨_, rfl, trivial⟩)
    a.length 0 (g79_slices_IndexFunc_l0_fuel ((a, (0, ((List.length a : Int), (0, ())))), (d, ()))) ((a, (0, ((List.length a : Int), (0, ())))), (d, ())) (by omega) (by simp [g79_slices_IndexFunc_l0_fuel]) ⟨rfl, rfl, rfl, rfl⟩ with ⟨j, q, _, hj, hb, hl, h1, h2⟩ | ⟨hb, q, h1, _⟩
  · rw [h1]
    simp only [Option.bind_some, natK, h2]
    rw [show decide ((j : Int) ≥ 0) = true from by simp, fst_eq a.length 0 j (Nat.zero_le _) (by omega) (fun l x y => by simpa using hl l x y) (fun _ => by simpa using hb)]
    rfl
  · rw [h1]
    simp only [Option.bind_some, natK]
    rw [show decide ((-1 : Int) ≥ 0) = false from rfl, fst_eq a.length 0 a.length (Nat.zero_le _) (by omega) (fun l x y => by simpa using hb l x y) (fun x => by omega)]
    rfl
theorem fst_congr {f g : Nat → Int} {d : Int} {n : Nat} (h : ∀ i, i < n → f i = g i) : fst f d n 0 = fst g d n 0 :=
  Nat.le_antisymm (fst_mono fun i hi => by rw [h i hi]; exact Int.le_refl _) (fst_mono fun i hi => by rw [h i hi]; exact Int.le_refl _)
theorem g61_Ds {p : E25} {t : E29} {more d : Int} {n : Nat} (hn : n ≤ 1000) : g61_ground_first (Ds p t more n) d = some ((fst (thw p t more) d n 0 : Nat) : Int) := by
  rw [g61 (by rw [Ds_len]; exact hn), Ds_len, fst_congr fun i hi => Ds_getD hi]
theorem g28 {p : E25} {t : E29} {more d : Int} {n : Nat} (hn : n ≤ 1000) : g28_talikref01_First (Fo p t more n) d = some ((fst (thw p t more) d n 0 : Nat) : Int) := by
  unfold g28_talikref01_First g28_talikref01_First_l0_run
  rcases iter_find (step := g28_talikref01_First_l0_step) (bad := fun i => decide (thw p t more i > d)) (n := n) (k1 := 0) (k2 := 1) (fun i s => s.1.1 = Fo p t more n ∧ s.1.2.1 = d ∧ s.1.2.2.2.1 = (i : Int)) (fun j s => s.1.2.2.1 = (j : Int)) (fun s => s.1.1 = Fo p t more n)
    (fun i s h hi hb => by
      obtain ⟨h1, h2, h3⟩ := h
      simp only [g28_talikref01_First_l0_step, h1, h2, h3, Fo_len, Fo_getD1 hi, inside_lt hi, getD_toNat, show decide ((i : Int) < (n : Int)) = true from by simp; omega, cond_true, Option.bind_some]
      rw [hb]
      exact ⟨_, rfl, rfl, rfl, wr (by omega) (by omega)⟩)
    (fun i s h hi hb => by
      obtain ⟨h1, h2, h3⟩ := h
      simp only [g28_talikref01_First_l0_step, h1, h2, h3, Fo_len, Fo_getD1 hi, inside_lt hi, getD_toNat, show decide ((i : Int) < (n : Int)) = true from by simp; omega, cond_true, Option.bind_some]
      rw [hb]
      exact ⟨_, rfl, rfl⟩)
    (fun s h => by
      obtain ⟨h1, h2, h3⟩ := h
      simp only [g28_talikref01_First_l0_step, h1, h2, h3, Fo_len, show decide ((n : Int) < (n : Int)) = false from by simp, cond_false]
      exact ⟨_, rfl, rfl⟩)
    n 0 (g28_talikref01_First_l0_fuel ((Fo p t more n, (d, (0, (0, ())))), ())) ((Fo p t more n, (d, (0, (0, ())))), ()) (by omega) (by simp [g28_talikref01_First_l0_fuel, Fo_len]) ⟨rfl, rfl, rfl⟩ with ⟨j, q, _, hj, hb, hl, h1, h2⟩ | ⟨hb, q, h1, h2⟩
  · rw [h1]
    simp only [Option.bind_some, natK, h2]
    rw [fst_eq n 0 j (Nat.zero_le _) (by omega) (fun l x y => by simpa using hl l x y) (fun _ => by simpa using hb)]
  · rw [h1]
    simp only [Option.bind_some, natK, h2, Fo_len]
    rw [fst_eq n 0 n (Nat.zero_le _) (by omega) (fun l x y => by simpa using hb l x y) (fun x => by omega)]

/-- The first year in which a depth is exceeded in the warmest, or the coldest, truth. -/
def exc (w : Bool) (p : E25) (l : List E72) (more d : Int) : Nat := fst (thw p (eT w p l) more) d l.length 0
theorem exc_le {w : Bool} {p : E25} {l : List E72} {more d : Int} : exc w p l more d ≤ l.length := by
  have := (fst_spec (f := thw p (eT w p l) more) (d := d) l.length 0).2.1
  unfold exc
  omega
theorem g60 (d : Int) : g60_ground_asked d = some (inB d 0 2000000) := by
  unfold g60_ground_asked
  rw [g70]
  rfl
theorem g27_bad {p : E25} {l : List E72} {d : Int} (hp : p.1.length < 2 ^ 40) (hl : l.length < 2 ^ 40) (h : errOf p l (inB d 0 2000000) ≠ 0) : g27_ground_Exceeds p l d = some (0, (0, (errOf p l (inB d 0 2000000), ()))) := by
  unfold g27_ground_Exceeds
  rw [g60]
  simp only [Option.bind_some]
  rw [g51 p l _ hp hl]
  simp only [Option.bind_some]
  rw [show (errOf p l (inB d 0 2000000) != 0) = true from by simpa using h]
  rfl
theorem g27_ok {p : E25} {l : List E72} {d : Int} (h : errOf p l (inB d 0 2000000) = 0) : g27_ground_Exceeds p l d = some ((exc true p l 0 d : Int), ((exc false p l 0 d : Int), (0, ()))) := by
  obtain ⟨hl, hd, hp, hy⟩ := errOf_zero h
  have hpl := okPl_len hp
  unfold g27_ground_Exceeds
  rw [g60]
  simp only [Option.bind_some]
  rw [g51 p l _ (by omega) (by omega)]
  simp only [Option.bind_some]
  obtain ⟨y, h1⟩ := g58 (more := 0) hl hp hy (Int.le_refl 0) (by omega)
  obtain ⟨z, h2⟩ := g57 hl hp hy
  rw [h, h1, h2]
  simp only [Option.bind_some, FB]
  rw [show ((0 : Int) != 0) = false from rfl, g61_Ds (by omega), g61_Ds (by omega)]
  rfl
theorem follow_end {w : Bool} {p : E25} {l : List E72} {more : Int} (hl : l.length ≤ 12) (hp : okPl p = true) (hy : l.all okY = true) (h0 : 0 ≤ more) (hm9 : more ≤ 1000000) : g19_talikref01_Follow p (eT w p l) more = some (Fo p (eT w p l) more l.length) := by
  obtain ⟨hT, hL⟩ := tru_of hl hp hy (eT_true hp hy w)
  exact g19 hT hL h0 (by omega)

/-! ### What is warmer thaws deeper -/
/-- A truth is at least as warm as another one, in so many years. -/
structure Wrm (t u : E29) (a b : Int) (n : Nat) : Prop where
  hea : ∀ i, i < n → hea t i ≤ hea u i
  goe : ∀ i, i < n → goe u i + b ≤ goe t i + a
theorem RL_mono {t u : E29} {a b : Int} {n m : Nat} (hT : Tru t m) (hU : Tru u m) (ha : 0 ≤ a) (hb : 0 ≤ b) (hw : Wrm t u a b n) (hnm : n ≤ m) : ∀ i, i ≤ n → (RL t a i).1 ≤ (RL u b i).1 ∧ (RL t a i).2 ≤ (RL u b i).2
  | 0, _ => ⟨Int.le_refl _, Int.le_refl _⟩
  | i + 1, hi => by
    obtain ⟨h1, h2⟩ := RL_mono hT hU ha hb hw hnm i (by omega)
    have e1 := hw.hea i (by omega)
    have e2 := hw.goe i (by omega)
    have b1 := year_bd hT ha (show i < m by omega)
    have b2 := year_bd hU hb (show i < m by omega)
    rw [RL_succ, RL_succ]
    have l1 : Lf t a i ≤ Lf u b i := by unfold Lf; omega
    have r1 : Rs t a i ≤ Rs u b i := by
      unfold Rs
      split <;> split <;> omega
    have o1 : Lf t a i - Ou t a i ≤ Lf u b i - Ou u b i := by
      unfold Ou
      split <;> split <;> omega
    refine ⟨?_, o1⟩
    simp only
    by_cases z : Lf u b i - Ou u b i = 0
    · rw [if_pos z, if_pos (by omega)]
      exact Int.le_refl _
    · rw [if_neg z]
      split
      · exact b2.2.1.1
      · exact r1
theorem Rs_mono {t u : E29} {a b : Int} {n m : Nat} (hT : Tru t m) (hU : Tru u m) (ha : 0 ≤ a) (hb : 0 ≤ b) (hw : Wrm t u a b n) (hnm : n ≤ m) {i : Nat} (hi : i < n) : Rs t a i ≤ Rs u b i := by
  obtain ⟨h1, h2⟩ := RL_mono hT hU ha hb hw hnm i (by omega)
  have e1 := hw.hea i (by omega)
  have l1 : Lf t a i ≤ Lf u b i := by unfold Lf; omega
  unfold Rs
  split <;> split <;> omega
theorem div_mono {a b c d : Int} (h0 : 0 ≤ a) (hab : a ≤ b) (hc : 1 ≤ c) (hcd : c ≤ d) : a / d ≤ b / c := by
  have h1 : a / d ≤ a / c := by
    have h : (a / d) * d ≤ a := Int.ediv_mul_le a (by omega)
    refine Int.le_ediv_of_mul_le (by omega) ?_
    have h3 : 0 ≤ a / d := Int.ediv_nonneg h0 (by omega)
    exact Int.le_trans (Int.mul_le_mul_of_nonneg_left hcd h3) h
  exact Int.le_trans h1 (Int.ediv_le_ediv (by omega) hab)
theorem dep_nonneg {ls : List E70} {ms : List Int} (hM : Lay ls ms) : ∀ (k i : Nat) (a : Int), i + k ≤ ls.length → 0 ≤ a → 0 ≤ dep ls ms k i a
  | 0, i, a, _, _ => by simp [dep]
  | k + 1, i, a, hk, h0 => by
    have m1 := hM.melt i (by omega)
    have t1 := hM.thick i (by omega)
    unfold dep
    by_cases h : k = 0 ∨ a < (ls.getD i dL).1 * ms.getD i 0
    · rw [if_pos h]
      exact Int.ediv_nonneg h0 (by omega)
    · rw [if_neg h]
      have := dep_nonneg hM k (i + 1) (a - (ls.getD i dL).1 * ms.getD i 0) (by omega) (by omega)
      omega
theorem dep_mono {ls : List E70} {ms ns : List Int} (hM : Lay ls ms) (hN : Lay ls ns) (hle : ∀ i, i < ls.length → ns.getD i 0 ≤ ms.getD i 0) : ∀ (k i : Nat) (a b : Int), i + k ≤ ls.length → 0 ≤ a → a ≤ b → dep ls ms k i a ≤ dep ls ns k i b
  | 0, i, a, b, _, _, _ => by simp [dep]
  | k + 1, i, a, b, hk, h0, hab => by
    have hi : i < ls.length := by omega
    have m1 := hM.melt i hi
    have n1 := hN.melt i hi
    have t1 := hM.thick i hi
    have le := hle i hi
    have hd := div_mono h0 hab n1.1 le
    have hmul : (ls.getD i dL).1 * ns.getD i 0 ≤ (ls.getD i dL).1 * ms.getD i 0 := Int.mul_le_mul_of_nonneg_left le (by omega)
    unfold dep
    by_cases hz : k = 0
    · rw [if_pos (.inl hz), if_pos (.inl hz)]
      exact hd
    · by_cases h1 : a < (ls.getD i dL).1 * ms.getD i 0
      · rw [if_pos (.inr h1)]
        by_cases h2 : b < (ls.getD i dL).1 * ns.getD i 0
        · rw [if_pos (.inr h2)]
          exact hd
        · rw [if_neg (by omega)]
          have h3 : a / ms.getD i 0 < (ls.getD i dL).1 := Int.ediv_lt_of_lt_mul (by omega) h1
          have h4 := dep_mono hN hN (fun _ _ => Int.le_refl _) k (i + 1) 0 (b - (ls.getD i dL).1 * ns.getD i 0) (by omega) (Int.le_refl _) (by omega)
          have h5 : 0 ≤ dep ls ns k (i + 1) 0 := dep_nonneg hN k (i + 1) 0 (by omega) (Int.le_refl _)
          omega
      · rw [if_neg (by omega), if_neg (by omega)]
        have := dep_mono hM hN hle k (i + 1) (a - (ls.getD i dL).1 * ms.getD i 0) (b - (ls.getD i dL).1 * ns.getD i 0) (by omega) (by omega) (by omega)
        omega
theorem thw_mono {p : E25} {t u : E29} {a b : Int} {n m : Nat} (hT : Tru t m) (hU : Tru u m) (hL : Lay p.1 t.1) (hM : Lay p.1 u.1) (hle : ∀ i, i < p.1.length → u.1.getD i 0 ≤ t.1.getD i 0) (ha : 0 ≤ a) (hb : 0 ≤ b) (hw : Wrm t u a b n) (hnm : n ≤ m) {i : Nat} (hi : i < n) : thw p t a i ≤ thw p u b i :=
  dep_mono hL hM hle p.1.length 0 _ _ (by omega) (year_bd hT ha (show i < m by omega)).2.1.1 (Rs_mono hT hU ha hb hw hnm hi)
theorem goe_mono {t u : E29} {i : Nat} (h0 : 0 ≤ u.2.2.2.1.getD i 0) (hw : u.2.2.2.1.getD i 0 ≤ t.2.2.2.1.getD i 0) (hs : t.2.2.2.2.1.getD i 0 ≤ u.2.2.2.2.1.getD i 0) (h9 : u.2.2.2.2.1.getD i 0 ≤ 1000) : goe u i ≤ goe t i := by
  unfold goe
  refine Int.ediv_le_ediv (by omega) ?_
  exact Int.mul_le_mul hw (by omega) (by omega) (by omega)
end Go.Proofs.YtbidmbjkjpdgdaaDoor.Abs
