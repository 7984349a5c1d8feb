/-
  Plain laws of the ground layer, first part: rounds; spans; which places, years and truths are as defined.
-/
import Derived.Test.YtbidmbjkjpdgdaaDoorGf2
import Derived.IntWalk
set_option linter.unusedVariables false
set_option linter.unusedSimpArgs false
set_option maxRecDepth 100000
namespace Go.Proofs.YtbidmbjkjpdgdaaDoor.Abs

theorem wr {n : Int} (h : -9223372036854775808 ≤ n) (h' : n ≤ 9223372036854775807) : IntKind.wrap .i64 n = n := by rw [IntKind.wrap_i64]; omega

theorem iter_one {α : Type} {step : α → Option (Nat × α)} {fuel : Nat} {s s' : α} (h : step s = some (0, s')) : iter step (fuel + 1) s = iter step fuel s' := by
  simp only [iter, h, Option.bind_some]
theorem iter_out {α : Type} {step : α → Option (Nat × α)} {fuel n : Nat} {s s' : α} (h : step s = some (n + 1, s')) : iter step (fuel + 1) s = some (n, s') := by
  simp only [iter, h, Option.bind_some]

/-- Rounds that look for the first place at which something is so. -/
theorem iter_find {α : Type} {step : α → Option (Nat × α)} {bad : Nat → Bool} {n k1 k2 : Nat} (I : Nat → α → Prop) (E1 : Nat → α → Prop) (E2 : α → Prop)
    (hgo : ∀ i s, I i s → i < n → bad i = false → ∃ s', step s = some (0, s') ∧ I (i + 1) s') (hbad : ∀ i s, I i s → i < n → bad i = true → ∃ s', step s = some (k1 + 1, s') ∧ E1 i s') (hend : ∀ s, I n s → ∃ s', step s = some (k2 + 1, s') ∧ E2 s') :
    ∀ (m i fuel : Nat) (s : α), i + m = n → m < fuel → I i s → (∃ j q, i ≤ j ∧ j < n ∧ bad j = true ∧ (∀ l, i ≤ l → l < j → bad l = false) ∧ iter step fuel s = some (k1, q) ∧ E1 j q) ∨ ((∀ l, i ≤ l → l < n → bad l = false) ∧ ∃ q, iter step fuel s = some (k2, q) ∧ E2 q)
  | 0, i, 0, s, hi, hf, hs => by omega
  | 0, i, fuel + 1, s, hi, hf, hs => by
    obtain rfl : i = n := by omega
    obtain ⟨s', h1, h2⟩ := hend s hs
    exact .inr ⟨fun l h h' => by omega, s', iter_out h1, h2⟩
  | m + 1, i, 0, s, hi, hf, hs => by omega
  | m + 1, i, fuel + 1, s, hi, hf, hs => by
    cases hb : bad i with
    | true =>
      obtain ⟨s', h1, h2⟩ := hbad i s hs (by omega) hb
      exact .inl ⟨i, s', Nat.le_refl _, by omega, hb, fun l h h' => by omega, iter_out h1, h2⟩
    | false =>
      obtain ⟨s', h1, h2⟩ := hgo i s hs (by omega) hb
      rw [iter_one h1]
      rcases iter_find I E1 E2 hgo hbad hend m (i + 1) fuel s' (by omega) (by omega) h2 with ⟨j, q, a1, a2, a3, a4, a5⟩ | ⟨a1, a2⟩
      · refine .inl ⟨j, q, by omega, a2, a3, fun l h h' => ?_, a5⟩
        rcases Nat.eq_or_lt_of_le h with rfl | h
        · exact hb
        · exact a4 l h h'
      · refine .inr ⟨fun l h h' => ?_, a2⟩
        rcases Nat.eq_or_lt_of_le h with rfl | h
        · exact hb
        · exact a1 l h h'

/-- Rounds that all go on. -/
theorem iter_all {α : Type} {step : α → Option (Nat × α)} {n k : Nat} (I : Nat → α → Prop) (E : α → Prop)
    (hgo : ∀ i s, I i s → i < n → ∃ s', step s = some (0, s') ∧ I (i + 1) s') (hend : ∀ s, I n s → ∃ s', step s = some (k + 1, s') ∧ E s') (fuel : Nat) (s : α) (hf : n < fuel) (hs : I 0 s) : ∃ q, iter step fuel s = some (k, q) ∧ E q := by
  rcases iter_find (bad := fun _ => false) (k1 := 0) I (fun _ _ => False) E (fun i s h h' _ => hgo i s h h') (fun i s _ _ h => by cases h) hend n 0 fuel s (by omega) hf hs with ⟨j, q, _, _, h, _⟩ | ⟨_, h⟩
  · cases h
  · exact h

def inB (x lo hi : Int) : Bool := decide (lo ≤ x) && decide (x ≤ hi)
def spB (s : E23) (lo hi : Int) : Bool := decide (lo ≤ s.1) && decide (s.1 ≤ s.2.1) && decide (s.2.1 ≤ hi)
def okL (x : E70) : Bool := inB x.1 1 20000 && spB x.2.1 1 1000
def okY (y : E72) : Bool := spB y.1 0 1000000 && spB y.2.1 0 1000000 && spB y.2.2.1 0 1000
def okPl (p : E25) : Bool := inB (List.length p.1 : Int) 1 6 && spB p.2.1 0 1000000 && p.1.all okL
def dL : E70 := (0, ((0, (0, ())), ()))
def dY : E72 := ((0, (0, ())), ((0, (0, ())), ((0, (0, ())), ())))

theorem getD_toNat {α : Type} (l : List α) (i : Nat) (d : α) : List.getD l (Int.toNat (i : Int)) d = l.getD i d := by simp
theorem inside_lt {i n : Nat} (h : i < n) : (decide (0 ≤ (i : Int)) && decide ((i : Int) < (n : Int))) = true := by simp; omega
theorem g70 (x lo hi : Int) : g70_ground_in x lo hi = some (inB x lo hi) := by
  unfold g70_ground_in inB
  by_cases h : lo ≤ x <;> simp [h]
theorem g59 (x lo hi : Int) : g59_talikref01_in x lo hi = some (inB x lo hi) := g70 x lo hi
theorem g73 (s : E23) (lo hi : Int) : g73_ground_span s lo hi = some (spB s lo hi) := by
  unfold g73_ground_span spB
  by_cases h : lo ≤ s.1 <;> by_cases h' : s.1 ≤ s.2.1 <;> simp [h, h']
theorem g67 (s : E23) (lo hi : Int) : g67_talikref01_Span s lo hi = some (spB s lo hi) := g73 s lo hi
theorem g83 (x : E70) : g83_ground_valid_1 x = some (!okL x) := by
  unfold g83_ground_valid_1 okL
  rw [g70, g73]
  simp only [Option.bind_some]
  cases inB x.1 1 20000 <;> simp
theorem g72 (y : E72) : g72_ground_given_1 y = some (!okY y) := by
  unfold g72_ground_given_1 okY
  simp only [g73, Option.bind_some]
  cases spB y.1 0 1000000 <;> cases spB y.2.1 0 1000000 <;> simp

theorem all_of_get {α : Type} {l : List α} {f : α → Bool} {d : α} : l.all f = true ↔ ∀ i, i < l.length → f (l.getD i d) = true := by
  constructor
  · intro h i hi
    rw [List.getD_eq_getElem?_getD, List.getElem?_eq_getElem hi]
    exact List.all_eq_true.1 h _ (List.getElem_mem hi)
  · intro h
    refine List.all_eq_true.2 fun x hx => ?_
    obtain ⟨i, hi, rfl⟩ := List.mem_iff_getElem.1 hx
    have := h i hi
    rw [List.getD_eq_getElem?_getD, List.getElem?_eq_getElem hi] at this
    exact this
theorem not_all_of {α : Type} {l : List α} {f : α → Bool} {d : α} {i : Nat} (hi : i < l.length) (h : f (l.getD i d) = false) : l.all f = false := by
  cases ha : l.all f with
  | false => rfl
  | true => rw [all_of_get.1 ha i hi] at h; cases h

theorem g94 (l : List E70) (hl : l.length < 2 ^ 40) : ∃ r, g94_slices_IndexFunc l = some r ∧ decide (r ≥ 0) = !l.all okL := by
  unfold g94_slices_IndexFunc g94_slices_IndexFunc_l0_run
  rcases iter_find (step := g94_slices_IndexFunc_l0_step) (bad := fun i => !okL (l.getD i dL)) (n := l.length) (k1 := 0) (k2 := 1) (fun i s => s.1.1 = l ∧ s.1.2.2.1 = (l.length : Int) ∧ s.1.2.2.2.1 = (i : Int)) (fun j s => s.1.2.1 = (j : Int)) (fun _ => True)
    (fun i s h hi hb => by
      obtain ⟨h1, h2, h3⟩ := h
      simp only [g94_slices_IndexFunc_l0_step, h1, h2, h3, inside_lt hi, g83, getD_toNat, show decide ((i : Int) < (l.length : Int)) = true from by simp; omega, cond_true, Option.bind_some]
      rw [show (0, ((0, (0, ())), ())) = dL from rfl, hb]
      exact ⟨_, rfl, rfl, rfl, wr (by omega) (by omega)⟩)
    (fun i s h hi hb => by
      obtain ⟨h1, h2, h3⟩ := h
      simp only [g94_slices_IndexFunc_l0_step, h1, h2, h3, inside_lt hi, g83, getD_toNat, show decide ((i : Int) < (l.length : Int)) = true from by simp; omega, cond_true, Option.bind_some]
      rw [show (0, ((0, (0, ())), ())) = dL from rfl, hb]
      exact ⟨_, rfl, rfl⟩)
    (fun s h => by
      obtain ⟨h1, h2, h3⟩ := h
      simp only [g94_slices_IndexFunc_l0_step, h1, h2, h3, show decide ((l.length : Int) < (l.length : Int)) = false from by simp, cond_false]
      exact ⟨_, rfl, trivial⟩)
    l.length 0 (g94_slices_IndexFunc_l0_fuel ((l, (0, ((List.length l : Int), (0, ())))), ())) ((l, (0, ((List.length l : Int), (0, ())))), ()) (by omega) (by simp [g94_slices_IndexFunc_l0_fuel]) ⟨rfl, rfl, rfl⟩ with ⟨j, q, _, hj, hb, _, h1, h2⟩ | ⟨hb, q, h1, _⟩
  · refine ⟨(j : Int), ?_, ?_⟩
    · rw [h1]; simp only [Option.bind_some, natK, h2]
    · rw [not_all_of (d := dL) hj (by simpa using hb)]; simp
  · refine ⟨-1, ?_, ?_⟩
    · rw [h1]; simp only [Option.bind_some, natK]
    · rw [(all_of_get (d := dL)).2 fun i hi => by simpa using hb i (by omega) hi]; simp
theorem g82 (l : List E70) (hl : l.length < 2 ^ 40) : g82_slices_ContainsFunc l = some (!l.all okL) := by
  obtain ⟨r, h1, h2⟩ := g94 l hl
  unfold g82_slices_ContainsFunc
  rw [h1]; simp only [Option.bind_some, h2]
theorem g66 (p : E25) (hl : p.1.length < 2 ^ 40) : g66_ground_valid p = some (okPl p) := by
  unfold g66_ground_valid okPl
  simp only [g70, g73, g82 p.1 hl, Option.bind_some]
  cases inB (List.length p.1 : Int) 1 6 <;> cases spB p.2.1 0 1000000 <;> simp

theorem g85 (l : List E72) (hl : l.length < 2 ^ 40) : ∃ r, g85_slices_IndexFunc l = some r ∧ decide (r ≥ 0) = !l.all okY := by
  unfold g85_slices_IndexFunc g85_slices_IndexFunc_l0_run
  rcases iter_find (step := g85_slices_IndexFunc_l0_step) (bad := fun i => !okY (l.getD i dY)) (n := l.length) (k1 := 0) (k2 := 1) (fun i s => s.1.1 = l ∧ s.1.2.2.1 = (l.length : Int) ∧ s.1.2.2.2.1 = (i : Int)) (fun j s => s.1.2.1 = (j : Int)) (fun _ => True)
    (fun i s h hi hb => by
      obtain ⟨h1, h2, h3⟩ := h
      simp only [g85_slices_IndexFunc_l0_step, h1, h2, h3, inside_lt hi, g72, getD_toNat, show decide ((i : Int) < (l.length : Int)) = true from by simp; omega, cond_true, Option.bind_some]
      rw [show ((0, (0, ())), ((0, (0, ())), ((0, (0, ())), ()))) = dY from rfl, hb]
      exact ⟨_, rfl, rfl, rfl, wr (by omega) (by omega)⟩)
    (fun i s h hi hb => by
      obtain ⟨h1, h2, h3⟩ := h
      simp only [g85_slices_IndexFunc_l0_step, h1, h2, h3, inside_lt hi, g72, getD_toNat, show decide ((i : Int) < (l.length : Int)) = true from by simp; omega, cond_true, Option.bind_some]
      rw [show ((0, (0, ())), ((0, (0, ())), ((0, (0, ())), ()))) = dY from rfl, hb]
      exact ⟨_, rfl, rfl⟩)
    (fun s h => by
      obtain ⟨h1, h2, h3⟩ := h
      simp only [g85_slices_IndexFunc_l0_step, h1, h2, h3, show decide ((l.length : Int) < (l.length : Int)) = false from by simp, cond_false]
      exact ⟨_, rfl, trivial⟩)
    l.length 0 (g85_slices_IndexFunc_l0_fuel ((l, (0, ((List.length l : Int), (0, ())))), ())) ((l, (0, ((List.length l : Int), (0, ())))), ()) (by omega) (by simp [g85_slices_IndexFunc_l0_fuel]) ⟨rfl, rfl, rfl⟩ with ⟨j, q, _, hj, hb, _, h1, h2⟩ | ⟨hb, q, h1, _⟩
  · refine ⟨(j : Int), ?_, ?_⟩
    · rw [h1]; simp only [Option.bind_some, natK, h2]
    · rw [not_all_of (d := dY) hj (by simpa using hb)]; simp
  · refine ⟨-1, ?_, ?_⟩
    · rw [h1]; simp only [Option.bind_some, natK]
    · rw [(all_of_get (d := dY)).2 fun i hi => by simpa using hb i (by omega) hi]; simp
theorem g71 (l : List E72) (hl : l.length < 2 ^ 40) : g71_slices_ContainsFunc l = some (!l.all okY) := by
  obtain ⟨r, h1, h2⟩ := g85 l hl
  unfold g71_slices_ContainsFunc
  rw [h1]; simp only [Option.bind_some, h2]

/-- The error of a place with years, and with something else. -/
def errOf (p : E25) (l : List E72) (fine : Bool) : Int := bif decide ((l.length : Int) > 12) then 3 else bif fine && okPl p && l.all okY then 0 else 2
theorem g51 (p : E25) (l : List E72) (fine : Bool) (hp : p.1.length < 2 ^ 40) (hl : l.length < 2 ^ 40) : g51_ground_given p l fine = some (errOf p l fine) := by
  unfold g51_ground_given errOf
  rw [g66 p hp, g71 l hl]
  simp only [Option.bind_some]
  cases decide ((l.length : Int) > 12) <;> cases fine <;> cases okPl p <;> cases l.all okY <;> rfl

/-! ### The reference's -/
theorem g38 (p : E25) (hl : p.1.length < 2 ^ 40) : g38_talikref01_Place p = some (okPl p) := by
  unfold g38_talikref01_Place g38_talikref01_Place_l0_run
  rcases iter_find (step := g38_talikref01_Place_l0_step) (bad := fun i => !okL (p.1.getD i dL)) (n := p.1.length) (k1 := 0) (k2 := 1) (fun i s => s.2.1 = p ∧ s.1.2.1 = (i : Int)) (fun j s => s.1.1 = false) (fun s => s.2.1 = p)
    (fun i s h hi hb => by
      obtain ⟨h1, h3⟩ := h
      simp only [g38_talikref01_Place_l0_step, h1, h3, inside_lt hi, g59, g67, getD_toNat, show decide ((i : Int) < (p.1.length : Int)) = true from by simp; omega, cond_true, Option.bind_some]
      rw [show (0, ((0, (0, ())), ())) = dL from rfl]
      unfold okL at hb
      simp only [Bool.not_eq_false', Bool.and_eq_true] at hb
      rw [hb.1, hb.2]
      exact ⟨_, rfl, rfl, wr (by omega) (by omega)⟩)
    (fun i s h hi hb => by
      obtain ⟨h1, h3⟩ := h
      simp only [g38_talikref01_Place_l0_step, h1, h3, inside_lt hi, g59, g67, getD_toNat, show decide ((i : Int) < (p.1.length : Int)) = true from by simp; omega, cond_true, Option.bind_some]
      rw [show (0, ((0, (0, ())), ())) = dL from rfl]
      unfold okL at hb
      revert hb
      cases inB (List.getD p.1 i dL).1 1 20000 with
      | false => intro _; exact ⟨_, rfl, rfl⟩
      | true =>
        cases spB (List.getD p.1 i dL).2.1 1 1000 with
        | false => intro _; exact ⟨_, rfl, rfl⟩
        | true => intro h; simp at h)
    (fun s h => by
      obtain ⟨h1, h3⟩ := h
      simp only [g38_talikref01_Place_l0_step, h1, h3, show decide ((p.1.length : Int) < (p.1.length : Int)) = false from by simp, cond_false]
      exact ⟨_, rfl, rfl⟩)
    p.1.length 0 (g38_talikref01_Place_l0_fuel ((false, (0, ())), (p, ()))) ((false, (0, ())), (p, ())) (by omega) (by simp [g38_talikref01_Place_l0_fuel]) ⟨rfl, rfl⟩ with ⟨j, q, _, hj, hb, _, h1, h2⟩ | ⟨hb, q, h1, h2⟩
  · rw [h1]
    simp only [Option.bind_some, natK, h2]
    unfold okPl
    rw [not_all_of (d := dL) hj (by simpa using hb)]; simp
  · rw [h1]
    simp only [Option.bind_some, natK, h2, g59, g67]
    unfold okPl
    rw [(all_of_get (d := dL)).2 fun i hi => by simpa using hb i (by omega) hi]
    cases inB (List.length p.1 : Int) 1 6 <;> simp
theorem g53 (l : List E72) (hl : l.length < 2 ^ 40) : g53_talikref01_Years l = some (l.all okY) := by
  unfold g53_talikref01_Years g53_talikref01_Years_l0_run
  rcases iter_find (step := g53_talikref01_Years_l0_step) (bad := fun i => !okY (l.getD i dY)) (n := l.length) (k1 := 0) (k2 := 1) (fun i s => s.1.1 = l ∧ s.1.2.2.1 = (i : Int)) (fun j s => s.1.2.1 = false) (fun s => True)
    (fun i s h hi hb => by
      obtain ⟨h1, h3⟩ := h
      simp only [g53_talikref01_Years_l0_step, h1, h3, inside_lt hi, g67, getD_toNat, show decide ((i : Int) < (l.length : Int)) = true from by simp; omega, cond_true, Option.bind_some]
      rw [show ((0, (0, ())), ((0, (0, ())), ((0, (0, ())), ()))) = dY from rfl]
      unfold okY at hb
      simp only [Bool.not_eq_false', Bool.and_eq_true] at hb
      rw [hb.1.1, hb.1.2, hb.2]
      exact ⟨_, rfl, rfl, wr (by omega) (by omega)⟩)
    (fun i s h hi hb => by
      obtain ⟨h1, h3⟩ := h
      simp only [g53_talikref01_Years_l0_step, h1, h3, inside_lt hi, g67, getD_toNat, show decide ((i : Int) < (l.length : Int)) = true from by simp; omega, cond_true, Option.bind_some]
      rw [show ((0, (0, ())), ((0, (0, ())), ((0, (0, ())), ()))) = dY from rfl]
      unfold okY at hb
      revert hb
      cases spB (List.getD l i dY).1 0 1000000 with
      | false => intro _; exact ⟨_, rfl, rfl⟩
      | true =>
        cases spB (List.getD l i dY).2.1 0 1000000 with
        | false => intro _; exact ⟨_, rfl, rfl⟩
        | true =>
          cases spB (List.getD l i dY).2.2.1 0 1000 with
          | false => intro _; exact ⟨_, rfl, rfl⟩
          | true => intro h; simp at h)
    (fun s h => by
      obtain ⟨h1, h3⟩ := h
      simp only [g53_talikref01_Years_l0_step, h1, h3, show decide ((l.length : Int) < (l.length : Int)) = false from by simp, cond_false]
      exact ⟨_, rfl, trivial⟩)
    l.length 0 (g53_talikref01_Years_l0_fuel ((l, (false, (0, ()))), ())) ((l, (false, (0, ()))), ()) (by omega) (by simp [g53_talikref01_Years_l0_fuel]) ⟨rfl, rfl⟩ with ⟨j, q, _, hj, hb, _, h1, h2⟩ | ⟨hb, q, h1, h2⟩
  · rw [h1]
    simp only [Option.bind_some, natK, h2]
    rw [not_all_of (d := dY) hj (by simpa using hb)]
  · rw [h1]
    simp only [Option.bind_some, natK]
    rw [(all_of_get (d := dY)).2 fun i hi => by simpa using hb i (by omega) hi]
theorem g17 (p : E25) (l : List E72) (hp : p.1.length < 2 ^ 40) (hl : l.length < 2 ^ 40) : g17_taliklaw01_wanted p l = some (errOf p l true) := by
  unfold g17_taliklaw01_wanted errOf
  rw [g38 p hp, g53 l hl]
  simp only [Option.bind_some]
  cases decide ((l.length : Int) > 12) <;> cases okPl p <;> cases l.all okY <;> rfl

end Go.Proofs.YtbidmbjkjpdgdaaDoor.Abs
