import Derived.Test.YtbidmbjkjpdgdaaDoorF2
import Derived.KernelRfl
import Derived.IntWalk
/-
  test
-/
set_option maxRecDepth 100000
namespace Go.Proofs.YtbidmbjkjpdgdaaDoor.Abs
theorem known_true : g15_taliklaw01_known = some true := by kernel_rfl
end Go.Proofs.YtbidmbjkjpdgdaaDoor.Abs

/-
  Plain laws of the ground layer, first part: rounds; spans; which places, years and truths are as defined.
-/
set_option linter.unusedVariables false
set_option linter.unusedSimpArgs false
set_option maxRecDepth 100000
namespace Go.Proofs.YtbidmbjkjpdgdaaDoor.Abs

theorem wr {n : Int} (h : -9223372036854775808 ≤ n) (h' : n ≤ 9223372036854775807) : IntKind.wrap .i64 n = n := by rw [IntKind.wrap_i64]; omega

theorem iter_one {α : Type} {step : α → Option (Nat × α)} {fuel : Nat} {s s' : α} (h : step s = some (0, s')) : iter step (fuel + 1) s = iter step fuel s' := by
  simp only [iter, h, Option.bind_some]
theorem iter_out {α : Type} {step : α → Option (Nat × α)} {fuel n : Nat} {s s' : α} (h : step s = some (n + 1, s')) : iter step (fuel + 1) s = some (n, s') := by
  simp only [iter, h, Option.bind_some]

/-- Rounds that look for the first place at which something is so. -/
theorem iter_find {α : Type} {step : α → Option (Nat × α)} {bad : Nat → Bool} {n k1 k2 : Nat} (I : Nat → α → Prop) (E1 : Nat → α → Prop) (E2 : α → Prop)
    (hgo : ∀ i s, I i s → i < n → bad i = false → ∃ s', step s = some (0, s') ∧ I (i + 1) s') (hbad : ∀ i s, I i s → i < n → bad i = true → ∃ s', step s = some (k1 + 1, s') ∧ E1 i s') (hend : ∀ s, I n s → ∃ s', step s = some (k2 + 1, s') ∧ E2 s') :
    ∀ (m i fuel : Nat) (s : α), i + m = n → m < fuel → I i s → (∃ j q, i ≤ j ∧ j < n ∧ bad j = true ∧ (∀ l, i ≤ l → l < j → bad l = false) ∧ iter step fuel s = some (k1, q) ∧ E1 j q) ∨ ((∀ l, i ≤ l → l < n → bad l = false) ∧ ∃ q, iter step fuel s = some (k2, q) ∧ E2 q)
  | 0, i, 0, s, hi, hf, hs => by omega
  | 0, i, fuel + 1, s, hi, hf, hs => by
    obtain rfl : i = n := by omega
    obtain ⟨s', h1, h2⟩ := hend s hs
    exact .inr ⟨fun l h h' => by omega, s', iter_out h1, h2⟩
  | m + 1, i, 0, s, hi, hf, hs => by omega
  | m + 1, i, fuel + 1, s, hi, hf, hs => by
    cases hb : bad i with
    | true =>
      obtain ⟨s', h1, h2⟩ := hbad i s hs (by omega) hb
      exact .inl ⟨i, s', Nat.le_refl _, by omega, hb, fun l h h' => by omega, iter_out h1, h2⟩
    | false =>
      obtain ⟨s', h1, h2⟩ := hgo i s hs (by omega) hb
      rw [iter_one h1]
      rcases iter_find I E1 E2 hgo hbad hend m (i + 1) fuel s' (by omega) (by omega) h2 with ⟨j, q, a1, a2, a3, a4, a5⟩ | ⟨a1, a2⟩
      · refine .inl ⟨j, q, by omega, a2, a3, fun l h h' => ?_, a5⟩
        rcases Nat.eq_or_lt_of_le h with rfl | h
        · exact hb
        · exact a4 l h h'
      · refine .inr ⟨fun l h h' => ?_, a2⟩
        rcases Nat.eq_or_lt_of_le h with rfl | h
        · exact hb
        · exact a1 l h h'

/-- Rounds that all go on. -/
theorem iter_all {α : Type} {step : α → Option (Nat × α)} {n k : Nat} (I : Nat → α → Prop) (E : α → Prop)
    (hgo : ∀ i s, I i s → i < n → ∃ s', step s = some (0, s') ∧ I (i + 1) s') (hend : ∀ s, I n s → ∃ s', step s = some (k + 1, s') ∧ E s') (fuel : Nat) (s : α) (hf : n < fuel) (hs : I 0 s) : ∃ q, iter step fuel s = some (k, q) ∧ E q := by
  rcases iter_find (bad := fun _ => false) (k1 := 0) I (fun _ _ => False) E (fun i s h h' _ => hgo i s h h') (fun i s _ _ h => by cases h) hend n 0 fuel s (by omega) hf hs with ⟨j, q, _, _, h, _⟩ | ⟨_, h⟩
  · cases h
  · exact h

def inB (x lo hi : Int) : Bool := decide (lo ≤ x) && decide (x ≤ hi)
def spB (s : E23) (lo hi : Int) : Bool := decide (lo ≤ s.1) && decide (s.1 ≤ s.2.1) && decide (s.2.1 ≤ hi)
def okL (x : E70) : Bool := inB x.1 1 20000 && spB x.2.1 1 1000
def okY (y : E72) : Bool := spB y.1 0 1000000 && spB y.2.1 0 1000000 && spB y.2.2.1 0 1000
def okPl (p : E25) : Bool := inB (List.length p.1 : Int) 1 6 && spB p.2.1 0 1000000 && p.1.all okL
def dL : E70 := (0, ((0, (0, ())), ()))
def dY : E72 := ((0, (0, ())), ((0, (0, ())), ((0, (0, ())), ())))

theorem getD_toNat {α : Type} (l : List α) (i : Nat) (d : α) : List.getD l (Int.toNat (i : Int)) d = l.getD i d := by simp
theorem inside_lt {i n : Nat} (h : i < n) : (decide (0 ≤ (i : Int)) && decide ((i : Int) < (n : Int))) = true := by simp; omega
theorem g70 (x lo hi : Int) : g70_ground_in x lo hi = some (inB x lo hi) := by
  unfold g70_ground_in inB
  by_cases h : lo ≤ x <;> simp [h]
theorem g59 (x lo hi : Int) : g59_talikref01_in x lo hi = some (inB x lo hi) := g70 x lo hi
theorem g73 (s : E23) (lo hi : Int) : g73_ground_span s lo hi = some (spB s lo hi) := by
  unfold g73_ground_span spB
  by_cases h : lo ≤ s.1 <;> by_cases h' : s.1 ≤ s.2.1 <;> simp [h, h']
theorem g67 (s : E23) (lo hi : Int) : g67_talikref01_Span s lo hi = some (spB s lo hi) := g73 s lo hi
theorem g83 (x : E70) : g83_ground_valid_1 x = some (!okL x) := by
  unfold g83_ground_valid_1 okL
  rw [g70, g73]
  simp only [Option.bind_some]
  cases inB x.1 1 20000 <;> simp
theorem g72 (y : E72) : g72_ground_given_1 y = some (!okY y) := by
  unfold g72_ground_given_1 okY
  simp only [g73, Option.bind_some]
  cases spB y.1 0 1000000 <;> cases spB y.2.1 0 1000000 <;> simp

theorem all_of_get {α : Type} {l : List α} {f : α → Bool} {d : α} : l.all f = true ↔ ∀ i, i < l.length → f (l.getD i d) = true := by
  constructor
  · intro h i hi
    rw [List.getD_eq_getElem?_getD, List.getElem?_eq_getElem hi]
    exact List.all_eq_true.1 h _ (List.getElem_mem hi)
  · intro h
    refine List.all_eq_true.2 fun x hx => ?_
    obtain ⟨i, hi, rfl⟩ := List.mem_iff_getElem.1 hx
    have := h i hi
    rw [List.getD_eq_getElem?_getD, List.getElem?_eq_getElem hi] at this
    exact this
theorem not_all_of {α : Type} {l : List α} {f : α → Bool} {d : α} {i : Nat} (hi : i < l.length) (h : f (l.getD i d) = false) : l.all f = false := by
  cases ha : l.all f with
  | false => rfl
  | true => rw [all_of_get.1 ha i hi] at h; cases h

theorem g94 (l : List E70) (hl : l.length < 2 ^ 40) : ∃ r, g94_slices_IndexFunc l = some r ∧ decide (r ≥ 0) = !l.all okL := by
  unfold g94_slices_IndexFunc g94_slices_IndexFunc_l0_run
  rcases iter_find (step := g94_slices_IndexFunc_l0_step) (bad := fun i => !okL (l.getD i dL)) (n := l.length) (k1 := 0) (k2 := 1) (fun i s => s.1.1 = l ∧ s.1.2.2.1 = (l.length : Int) ∧ s.1.2.2.2.1 = (i : Int)) (fun j s => s.1.2.1 = (j : Int)) (fun _ => True)
    (fun i s h hi hb => by
      obtain ⟨h1, h2, h3⟩ := h
      simp only [g94_slices_IndexFunc_l0_step, h1, h2, h3, inside_lt hi, g83, getD_toNat, show decide ((i : Int) < (l.length : Int)) = true from by simp; omega, cond_true, Option.bind_some]
      rw [show (0, ((0, (0, ())), ())) = dL from rfl, hb]
      exact ⟨_, rfl, rfl, rfl, wr (by omega) (by omega)⟩)
    (fun i s h hi hb => by
      obtain ⟨h1, h2, h3⟩ := h
      simp only [g94_slices_IndexFunc_l0_step, h1, h2, h3, inside_lt hi, g83, getD_toNat, show decide ((i : Int) < (l.length : Int)) = true from by simp; omega, cond_true, Option.bind_some]
      rw [show (0, ((0, (0, ())), ())) = dL from rfl, hb]
      exact ⟨_, rfl, rfl⟩)
    (fun s h => by
      obtain ⟨h1, h2, h3⟩ := h
      simp only [g94_slices_IndexFunc_l0_step, h1, h2, h3, show decide ((l.length : Int) < (l.length : Int)) = false from by simp, cond_false]
      exact ⟨_, rfl, trivial⟩)
    l.length 0 (g94_slices_IndexFunc_l0_fuel ((l, (0, ((List.length l : Int), (0, ())))), ())) ((l, (0, ((List.length l : Int), (0, ())))), ()) (by omega) (by simp [g94_slices_IndexFunc_l0_fuel]) ⟨rfl, rfl, rfl⟩ with ⟨j, q, _, hj, hb, _, h1, h2⟩ | ⟨hb, q, h1, _⟩
  · refine ⟨(j : Int), ?_, ?_⟩
    · rw [h1]; simp only [Option.bind_some, natK, h2]
    · rw [not_all_of (d := dL) hj (by simpa using hb)]; simp
  · refine ⟨-1, ?_, ?_⟩
    · rw [h1]; simp only [Option.bind_some, natK]
    · rw [(all_of_get (d := dL)).2 fun i hi => by simpa using hb i (by omega) hi]; simp
theorem g82 (l : List E70) (hl : l.length < 2 ^ 40) : g82_slices_ContainsFunc l = some (!l.all okL) := by
  obtain ⟨r, h1, h2⟩ := g94 l hl
  unfold g82_slices_ContainsFunc
  rw [h1]; simp only [Option.bind_some, h2]
theorem g66 (p : E25) (hl : p.1.length < 2 ^ 40) : g66_ground_valid p = some (okPl p) := by
  unfold g66_ground_valid okPl
  simp only [g70, g73, g82 p.1 hl, Option.bind_some]
  cases inB (List.length p.1 : Int) 1 6 <;> cases spB p.2.1 0 1000000 <;> simp

theorem g85 (l : List E72) (hl : l.length < 2 ^ 40) : ∃ r, g85_slices_IndexFunc l = some r ∧ decide (r ≥ 0) = !l.all okY := by
  unfold g85_slices_IndexFunc g85_slices_IndexFunc_l0_run
  rcases iter_find (step := g85_slices_IndexFunc_l0_step) (bad := fun i => !okY (l.getD i dY)) (n := l.length) (k1 := 0) (k2 := 1) (fun i s => s.1.1 = l ∧ s.1.2.2.1 = (l.length : Int) ∧ s.1.2.2.2.1 = (i : Int)) (fun j s => s.1.2.1 = (j : Int)) (fun _ => True)
    (fun i s h hi hb => by
      obtain ⟨h1, h2, h3⟩ := h
      simp only [g85_slices_IndexFunc_l0_step, h1, h2, h3, inside_lt hi, g72, getD_toNat, show decide ((i : Int) < (l.length : Int)) = true from by simp; omega, cond_true, Option.bind_some]
      rw [show ((0, (0, ())), ((0, (0, ())), ((0, (0, ())), ()))) = dY from rfl, hb]
      exact ⟨_, rfl, rfl, rfl, wr (by omega) (by omega)⟩)
    (fun i s h hi hb => by
      obtain ⟨h1, h2, h3⟩ := h
      simp only [g85_slices_IndexFunc_l0_step, h1, h2, h3, inside_lt hi, g72, getD_toNat, show decide ((i : Int) < (l.length : Int)) = true from by simp; omega, cond_true, Option.bind_some]
      rw [show ((0, (0, ())), ((0, (0, ())), ((0, (0, ())), ()))) = dY from rfl, hb]
      exact ⟨_, rfl, rfl⟩)
    (fun s h => by
      obtain ⟨h1, h2, h3⟩ := h
      simp only [g85_slices_IndexFunc_l0_step, h1, h2, h3, show decide ((l.length : Int) < (l.length : Int)) = false from by simp, cond_false]
      exact ⟨_, rfl, trivial⟩)
    l.length 0 (g85_slices_IndexFunc_l0_fuel ((l, (0, ((List.length l : Int), (0, ())))), ())) ((l, (0, ((List.length l : Int), (0, ())))), ()) (by omega) (by simp [g85_slices_IndexFunc_l0_fuel]) ⟨rfl, rfl, rfl⟩ with ⟨j, q, _, hj, hb, _, h1, h2⟩ | ⟨hb, q, h1, _⟩
  · refine ⟨(j : Int), ?_, ?_⟩
    · rw [h1]; simp only [Option.bind_some, natK, h2]
    · rw [not_all_of (d := dY) hj (by simpa using hb)]; simp
  · refine ⟨-1, ?_, ?_⟩
    · rw [h1]; simp only [Option.bind_some, natK]
    · rw [(all_of_get (d := dY)).2 fun i hi => by simpa using hb i (by omega) hi]; simp
theorem g71 (l : List E72) (hl : l.length < 2 ^ 40) : g71_slices_ContainsFunc l = some (!l.all okY) := by
  obtain ⟨r, h1, h2⟩ := g85 l hl
  unfold g71_slices_ContainsFunc
  rw [h1]; simp only [Option.bind_some, h2]

/-- The error of a place with years, and with something else. -/
def errOf (p : E25) (l : List E72) (fine : Bool) : Int := bif decide ((l.length : Int) > 12) then 3 else bif fine && okPl p && l.all okY then 0 else 2
theorem g51 (p : E25) (l : List E72) (fine : Bool) (hp : p.1.length < 2 ^ 40) (hl : l.length < 2 ^ 40) : g51_ground_given p l fine = some (errOf p l fine) := by
  unfold g51_ground_given errOf
  rw [g66 p hp, g71 l hl]
  simp only [Option.bind_some]
  cases decide ((l.length : Int) > 12) <;> cases fine <;> cases okPl p <;> cases l.all okY <;> rfl

/-! ### The reference's -/
theorem g38 (p : E25) (hl : p.1.length < 2 ^ 40) : g38_talikref01_Place p = some (okPl p) := by
  unfold g38_talikref01_Place g38_talikref01_Place_l0_run
  rcases iter_find (step := g38_talikref01_Place_l0_step) (bad := fun i => !okL (p.1.getD i dL)) (n := p.1.length) (k1 := 0) (k2 := 1) (fun i s => s.2.1 = p ∧ s.1.2.1 = (i : Int)) (fun j s => s.1.1 = false) (fun s => s.2.1 = p)
    (fun i s h hi hb => by
      obtain ⟨h1, h3⟩ := h
      simp only [g38_talikref01_Place_l0_step, h1, h3, inside_lt hi, g59, g67, getD_toNat, show decide ((i : Int) < (p.1.length : Int)) = true from by simp; omega, cond_true, Option.bind_some]
      rw [show (0, ((0, (0, ())), ())) = dL from rfl]
      unfold okL at hb
      simp only [Bool.not_eq_false', Bool.and_eq_true] at hb
      rw [hb.1, hb.2]
      exact ⟨_, rfl, rfl, wr (by omega) (by omega)⟩)
    (fun i s h hi hb => by
      obtain ⟨h1, h3⟩ := h
      simp only [g38_talikref01_Place_l0_step, h1, h3, inside_lt hi, g59, g67, getD_toNat, show decide ((i : Int) < (p.1.length : Int)) = true from by simp; omega, cond_true, Option.bind_some]
      rw [show (0, ((0, (0, ())), ())) = dL from rfl]
      unfold okL at hb
      revert hb
      cases inB (List.getD p.1 i dL).1 1 20000 with
      | false => intro _; exact ⟨_, rfl, rfl⟩
      | true =>
        cases spB (List.getD p.1 i dL).2.1 1 1000 with
        | false => intro _; exact ⟨_, rfl, rfl⟩
        | true => intro h; simp at h)
    (fun s h => by
      obtain ⟨h1, h3⟩ := h
      simp only [g38_talikref01_Place_l0_step, h1, h3, show decide ((p.1.length : Int) < (p.1.length : Int)) = false from by simp, cond_false]
      exact ⟨_, rfl, rfl⟩)
    p.1.length 0 (g38_talikref01_Place_l0_fuel ((false, (0, ())), (p, ()))) ((false, (0, ())), (p, ())) (by omega) (by simp [g38_talikref01_Place_l0_fuel]) ⟨rfl, rfl⟩ with ⟨j, q, _, hj, hb, _, h1, h2⟩ | ⟨hb, q, h1, h2⟩
  · rw [h1]
    simp only [Option.bind_some, natK, h2]
    unfold okPl
    rw [not_all_of (d := dL) hj (by simpa using hb)]; simp
  · rw [h1]
    simp only [Option.bind_some, natK, h2, g59, g67]
    unfold okPl
    rw [(all_of_get (d := dL)).2 fun i hi => by simpa using hb i (by omega) hi]
    cases inB (List.length p.1 : Int) 1 6 <;> simp
theorem g53 (l : List E72) (hl : l.length < 2 ^ 40) : g53_talikref01_Years l = some (l.all okY) := by
  unfold g53_talikref01_Years g53_talikref01_Years_l0_run
  rcases iter_find (step := g53_talikref01_Years_l0_step) (bad := fun i => !okY (l.getD i dY)) (n := l.length) (k1 := 0) (k2 := 1) (fun i s => s.1.1 = l ∧ s.1.2.2.1 = (i : Int)) (fun j s => s.1.2.1 = false) (fun s => True)
    (fun i s h hi hb => by
      obtain ⟨h1, h3⟩ := h
      simp only [g53_talikref01_Years_l0_step, h1, h3, inside_lt hi, g67, getD_toNat, show decide ((i : Int) < (l.length : Int)) = true from by simp; omega, cond_true, Option.bind_some]
      rw [show ((0, (0, ())), ((0, (0, ())), ((0, (0, ())), ()))) = dY from rfl]
      unfold okY at hb
      simp only [Bool.not_eq_false', Bool.and_eq_true] at hb
      rw [hb.1.1, hb.1.2, hb.2]
      exact ⟨_, rfl, rfl, wr (by omega) (by omega)⟩)
    (fun i s h hi hb => by
      obtain ⟨h1, h3⟩ := h
      simp only [g53_talikref01_Years_l0_step, h1, h3, inside_lt hi, g67, getD_toNat, show decide ((i : Int) < (l.length : Int)) = true from by simp; omega, cond_true, Option.bind_some]
      rw [show ((0, (0, ())), ((0, (0, ())), ((0, (0, ())), ()))) = dY from rfl]
      unfold okY at hb
      revert hb
      cases spB (List.getD l i dY).1 0 1000000 with
      | false => intro _; exact ⟨_, rfl, rfl⟩
      | true =>
        cases spB (List.getD l i dY).2.1 0 1000000 with
        | false => intro _; exact ⟨_, rfl, rfl⟩
        | true =>
          cases spB (List.getD l i dY).2.2.1 0 1000 with
          | false => intro _; exact ⟨_, rfl, rfl⟩
          | true => intro h; simp at h)
    (fun s h => by
      obtain ⟨h1, h3⟩ := h
      simp only [g53_talikref01_Years_l0_step, h1, h3, show decide ((l.length : Int) < (l.length : Int)) = false from by simp, cond_false]
      exact ⟨_, rfl, trivial⟩)
    l.length 0 (g53_talikref01_Years_l0_fuel ((l, (false, (0, ()))), ())) ((l, (false, (0, ()))), ()) (by omega) (by simp [g53_talikref01_Years_l0_fuel]) ⟨rfl, rfl⟩ with ⟨j, q, _, hj, hb, _, h1, h2⟩ | ⟨hb, q, h1, h2⟩
  · rw [h1]
    simp only [Option.bind_some, natK, h2]
    rw [not_all_of (d := dY) hj (by simpa using hb)]
  · rw [h1]
    simp only [Option.bind_some, natK]
    rw [(all_of_get (d := dY)).2 fun i hi => by simpa using hb i (by omega) hi]
theorem g17 (p : E25) (l : List E72) (hp : p.1.length < 2 ^ 40) (hl : l.length < 2 ^ 40) : g17_taliklaw01_wanted p l = some (errOf p l true) := by
  unfold g17_taliklaw01_wanted errOf
  rw [g38 p hp, g53 l hl]
  simp only [Option.bind_some]
  cases decide ((l.length : Int) > 12) <;> cases okPl p <;> cases l.all okY <;> rfl

end Go.Proofs.YtbidmbjkjpdgdaaDoor.Abs

/-
  Plain laws of the ground layer, second part: which truths are as defined.
-/
set_option linter.unusedVariables false
set_option linter.unusedSimpArgs false
set_option maxRecDepth 100000
namespace Go.Proofs.YtbidmbjkjpdgdaaDoor.Abs

/-- Numbers in spans, one for each of so many things. -/
def insI (a : List Int) (n : Nat) (f : Nat → E23) : Bool := decide (a.length = n) && (List.range n).all fun i => inB (a.getD i 0) (f i).1 (f i).2.1
theorem range_all {n : Nat} {f : Nat → Bool} : (List.range n).all f = true ↔ ∀ i, i < n → f i = true := by simp
theorem range_not {n i : Nat} {f : Nat → Bool} (hi : i < n) (h : f i = false) : (List.range n).all f = false := by
  cases ha : (List.range n).all f with
  | false => rfl
  | true => rw [range_all.1 ha i hi] at h; cases h

theorem s_g44_ground_inside (a : List Int) (l : List E70) (hl : a.length < 2 ^ 40) : g44_ground_inside a l = some (insI a l.length (fun i => (l.getD i dL).2.1)) := by
  unfold g44_ground_inside g44_ground_inside_l0_run
  by_cases hlen : a.length = l.length
  · rw [show ((List.length a : Int) != (List.length l : Int)) = false from by simp; omega]
    simp only [cond_false]
    rcases iter_find (step := g44_ground_inside_l0_step) (bad := fun i => !inB (a.getD i 0) ((l.getD i dL).2.1).1 ((l.getD i dL).2.1).2.1) (n := a.length) (k1 := 0) (k2 := 1) (fun i s => s.1.1 = l ∧ s.1.2.2.1 = a ∧ s.1.2.2.2.1 = (a.length : Int) ∧ s.1.2.2.2.2.1 = (i : Int)) (fun j s => s.1.2.1 = false) (fun s => True)
      (fun i s h hi hb => by
        obtain ⟨h1, h2, h3, h4⟩ := h
        simp only [g44_ground_inside_l0_step, h1, h2, h3, h4, inside_lt hi, inside_lt (show i < l.length by omega), g45_ground_Play_1, g70, getD_toNat, show decide ((i : Int) < (a.length : Int)) = true from by simp; omega, cond_true, Option.bind_some]
        rw [show (0, ((0, (0, ())), ())) = dL from rfl]
        rw [hb]
        exact ⟨_, rfl, rfl, rfl, rfl, wr (by omega) (by omega)⟩)
      (fun i s h hi hb => by
        obtain ⟨h1, h2, h3, h4⟩ := h
        simp only [g44_ground_inside_l0_step, h1, h2, h3, h4, inside_lt hi, inside_lt (show i < l.length by omega), g45_ground_Play_1, g70, getD_toNat, show decide ((i : Int) < (a.length : Int)) = true from by simp; omega, cond_true, Option.bind_some]
        rw [show (0, ((0, (0, ())), ())) = dL from rfl]
        rw [hb]
        exact ⟨_, rfl, rfl⟩)
      (fun s h => by
        obtain ⟨h1, h2, h3, h4⟩ := h
        simp only [g44_ground_inside_l0_step, h1, h2, h3, h4, show decide ((a.length : Int) < (a.length : Int)) = false from by simp, cond_false]
        exact ⟨_, rfl, trivial⟩)
      a.length 0 (g44_ground_inside_l0_fuel ((l, (false, (a, ((List.length a : Int), (0, ()))))), ())) ((l, (false, (a, ((List.length a : Int), (0, ()))))), ()) (by omega) (by simp [g44_ground_inside_l0_fuel]) ⟨rfl, rfl, rfl, rfl⟩ with ⟨j, q, _, hj, hb, _, h1, h2⟩ | ⟨hb, q, h1, h2⟩
    · rw [h1]
      simp only [Option.bind_some, natK, h2]
      rw [show insI a l.length (fun i => (l.getD i dL).2.1) = false from by
        unfold insI
        rw [range_not (i := j) (by omega) (by simpa using hb)]; simp]
    · rw [h1]
      simp only [Option.bind_some, natK]
      rw [show insI a l.length (fun i => (l.getD i dL).2.1) = true from by
        unfold insI
        rw [range_all.2 fun i hi => by simpa using hb i (by omega) (by omega)]; simp [hlen]]
  · rw [show ((List.length a : Int) != (List.length l : Int)) = true from by simp; omega]
    simp only [cond_true]
    rw [show insI a l.length (fun i => (l.getD i dL).2.1) = false from by unfold insI; simp [hlen]]

theorem s_g46_ground_inside (a : List Int) (l : List E72) (p : E25) (hl : a.length < 2 ^ 40) : g46_ground_inside a l p = some (insI a l.length (fun i => p.2.1), (p, ())) := by
  unfold g46_ground_inside g46_ground_inside_l0_run
  by_cases hlen : a.length = l.length
  · rw [show ((List.length a : Int) != (List.length l : Int)) = false from by simp; omega]
    simp only [cond_false]
    rcases iter_find (step := g46_ground_inside_l0_step) (bad := fun i => !inB (a.getD i 0) (p.2.1).1 (p.2.1).2.1) (n := a.length) (k1 := 0) (k2 := 1) (fun i s => s.1.1 = l ∧ s.1.2.2.1 = a ∧ s.1.2.2.2.1 = (a.length : Int) ∧ s.1.2.2.2.2.1 = (i : Int) ∧ s.2.1 = p) (fun j s => s.1.2.1 = false ∧ s.2.1 = p) (fun s => s.2.1 = p)
      (fun i s h hi hb => by
        obtain ⟨h1, h2, h3, h4, h5⟩ := h
        simp only [g46_ground_inside_l0_step, h1, h2, h3, h4, h5, inside_lt hi, inside_lt (show i < l.length by omega), g47_ground_Play_2, g70, getD_toNat, show decide ((i : Int) < (a.length : Int)) = true from by simp; omega, cond_true, Option.bind_some]
        
        rw [hb]
        exact ⟨_, rfl, rfl, rfl, rfl, wr (by omega) (by omega), rfl⟩)
      (fun i s h hi hb => by
        obtain ⟨h1, h2, h3, h4, h5⟩ := h
        simp only [g46_ground_inside_l0_step, h1, h2, h3, h4, h5, inside_lt hi, inside_lt (show i < l.length by omega), g47_ground_Play_2, g70, getD_toNat, show decide ((i : Int) < (a.length : Int)) = true from by simp; omega, cond_true, Option.bind_some]
        
        rw [hb]
        exact ⟨_, rfl, rfl, rfl⟩)
      (fun s h => by
        obtain ⟨h1, h2, h3, h4, h5⟩ := h
        simp only [g46_ground_inside_l0_step, h1, h2, h3, h4, h5, show decide ((a.length : Int) < (a.length : Int)) = false from by simp, cond_false]
        exact ⟨_, rfl, rfl⟩)
      a.length 0 (g46_ground_inside_l0_fuel ((l, (false, (a, ((List.length a : Int), (0, ()))))), (p, ()))) ((l, (false, (a, ((List.length a : Int), (0, ()))))), (p, ())) (by omega) (by simp [g46_ground_inside_l0_fuel]) ⟨rfl, rfl, rfl, rfl, rfl⟩ with ⟨j, q, _, hj, hb, _, h1, h2⟩ | ⟨hb, q, h1, h2⟩
    · rw [h1]
      simp only [Option.bind_some, natK, h2.1, h2.2]
      rw [show insI a l.length (fun i => p.2.1) = false from by
        unfold insI
        rw [range_not (i := j) (by omega) (by simpa using hb)]; simp]
    · rw [h1]
      simp only [Option.bind_some, natK, h2]
      rw [show insI a l.length (fun i => p.2.1) = true from by
        unfold insI
        rw [range_all.2 fun i hi => by simpa using hb i (by omega) (by omega)]; simp [hlen]]
  · rw [show ((List.length a : Int) != (List.length l : Int)) = true from by simp; omega]
    simp only [cond_true]
    rw [show insI a l.length (fun i => p.2.1) = false from by unfold insI; simp [hlen]]

theorem s_g46_ground_inside_v1 (a : List Int) (l : List E72) (hl : a.length < 2 ^ 40) : g46_ground_inside_v1 a l = some (insI a l.length (fun i => (l.getD i dY).1)) := by
  unfold g46_ground_inside_v1 g46_ground_inside_v1_l0_run
  by_cases hlen : a.length = l.length
  · rw [show ((List.length a : Int) != (List.length l : Int)) = false from by simp; omega]
    simp only [cond_false]
    rcases iter_find (step := g46_ground_inside_v1_l0_step) (bad := fun i => !inB (a.getD i 0) ((l.getD i dY).1).1 ((l.getD i dY).1).2.1) (n := a.length) (k1 := 0) (k2 := 1) (fun i s => s.1.1 = l ∧ s.1.2.2.1 = a ∧ s.1.2.2.2.1 = (a.length : Int) ∧ s.1.2.2.2.2.1 = (i : Int)) (fun j s => s.1.2.1 = false) (fun s => True)
      (fun i s h hi hb => by
        obtain ⟨h1, h2, h3, h4⟩ := h
        simp only [g46_ground_inside_v1_l0_step, h1, h2, h3, h4, inside_lt hi, inside_lt (show i < l.length by omega), g48_ground_Play_3, g70, getD_toNat, show decide ((i : Int) < (a.length : Int)) = true from by simp; omega, cond_true, Option.bind_some]
        rw [show ((0, (0, ())), ((0, (0, ())), ((0, (0, ())), ()))) = dY from rfl]
        rw [hb]
        exact ⟨_, rfl, rfl, rfl, rfl, wr (by omega) (by omega)⟩)
      (fun i s h hi hb => by
        obtain ⟨h1, h2, h3, h4⟩ := h
        simp only [g46_ground_inside_v1_l0_step, h1, h2, h3, h4, inside_lt hi, inside_lt (show i < l.length by omega), g48_ground_Play_3, g70, getD_toNat, show decide ((i : Int) < (a.length : Int)) = true from by simp; omega, cond_true, Option.bind_some]
        rw [show ((0, (0, ())), ((0, (0, ())), ((0, (0, ())), ()))) = dY from rfl]
        rw [hb]
        exact ⟨_, rfl, rfl⟩)
      (fun s h => by
        obtain ⟨h1, h2, h3, h4⟩ := h
        simp only [g46_ground_inside_v1_l0_step, h1, h2, h3, h4, show decide ((a.length : Int) < (a.length : Int)) = false from by simp, cond_false]
        exact ⟨_, rfl, trivial⟩)
      a.length 0 (g46_ground_inside_v1_l0_fuel ((l, (false, (a, ((List.length a : Int), (0, ()))))), ())) ((l, (false, (a, ((List.length a : Int), (0, ()))))), ()) (by omega) (by simp [g46_ground_inside_v1_l0_fuel]) ⟨rfl, rfl, rfl, rfl⟩ with ⟨j, q, _, hj, hb, _, h1, h2⟩ | ⟨hb, q, h1, h2⟩
    · rw [h1]
      simp only [Option.bind_some, natK, h2]
      rw [show insI a l.length (fun i => (l.getD i dY).1) = false from by
        unfold insI
        rw [range_not (i := j) (by omega) (by simpa using hb)]; simp]
    · rw [h1]
      simp only [Option.bind_some, natK]
      rw [show insI a l.length (fun i => (l.getD i dY).1) = true from by
        unfold insI
        rw [range_all.2 fun i hi => by simpa using hb i (by omega) (by omega)]; simp [hlen]]
  · rw [show ((List.length a : Int) != (List.length l : Int)) = true from by simp; omega]
    simp only [cond_true]
    rw [show insI a l.length (fun i => (l.getD i dY).1) = false from by unfold insI; simp [hlen]]

theorem s_g46_ground_inside_v2 (a : List Int) (l : List E72) (hl : a.length < 2 ^ 40) : g46_ground_inside_v2 a l = some (insI a l.length (fun i => (l.getD i dY).2.1)) := by
  unfold g46_ground_inside_v2 g46_ground_inside_v2_l0_run
  by_cases hlen : a.length = l.length
  · rw [show ((List.length a : Int) != (List.length l : Int)) = false from by simp; omega]
    simp only [cond_false]
    rcases iter_find (step := g46_ground_inside_v2_l0_step) (bad := fun i => !inB (a.getD i 0) ((l.getD i dY).2.1).1 ((l.getD i dY).2.1).2.1) (n := a.length) (k1 := 0) (k2 := 1) (fun i s => s.1.1 = l ∧ s.1.2.2.1 = a ∧ s.1.2.2.2.1 = (a.length : Int) ∧ s.1.2.2.2.2.1 = (i : Int)) (fun j s => s.1.2.1 = false) (fun s => True)
      (fun i s h hi hb => by
        obtain ⟨h1, h2, h3, h4⟩ := h
        simp only [g46_ground_inside_v2_l0_step, h1, h2, h3, h4, inside_lt hi, inside_lt (show i < l.length by omega), g49_ground_Play_4, g70, getD_toNat, show decide ((i : Int) < (a.length : Int)) = true from by simp; omega, cond_true, Option.bind_some]
        rw [show ((0, (0, ())), ((0, (0, ())), ((0, (0, ())), ()))) = dY from rfl]
        rw [hb]
        exact ⟨_, rfl, rfl, rfl, rfl, wr (by omega) (by omega)⟩)
      (fun i s h hi hb => by
        obtain ⟨h1, h2, h3, h4⟩ := h
        simp only [g46_ground_inside_v2_l0_step, h1, h2, h3, h4, inside_lt hi, inside_lt (show i < l.length by omega), g49_ground_Play_4, g70, getD_toNat, show decide ((i : Int) < (a.length : Int)) = true from by simp; omega, cond_true, Option.bind_some]
        rw [show ((0, (0, ())), ((0, (0, ())), ((0, (0, ())), ()))) = dY from rfl]
        rw [hb]
        exact ⟨_, rfl, rfl⟩)
      (fun s h => by
        obtain ⟨h1, h2, h3, h4⟩ := h
        simp only [g46_ground_inside_v2_l0_step, h1, h2, h3, h4, show decide ((a.length : Int) < (a.length : Int)) = false from by simp, cond_false]
        exact ⟨_, rfl, trivial⟩)
      a.length 0 (g46_ground_inside_v2_l0_fuel ((l, (false, (a, ((List.length a : Int), (0, ()))))), ())) ((l, (false, (a, ((List.length a : Int), (0, ()))))), ()) (by omega) (by simp [g46_ground_inside_v2_l0_fuel]) ⟨rfl, rfl, rfl, rfl⟩ with ⟨j, q, _, hj, hb, _, h1, h2⟩ | ⟨hb, q, h1, h2⟩
    · rw [h1]
      simp only [Option.bind_some, natK, h2]
      rw [show insI a l.length (fun i => (l.getD i dY).2.1) = false from by
        unfold insI
        rw [range_not (i := j) (by omega) (by simpa using hb)]; simp]
    · rw [h1]
      simp only [Option.bind_some, natK]
      rw [show insI a l.length (fun i => (l.getD i dY).2.1) = true from by
        unfold insI
        rw [range_all.2 fun i hi => by simpa using hb i (by omega) (by omega)]; simp [hlen]]
  · rw [show ((List.length a : Int) != (List.length l : Int)) = true from by simp; omega]
    simp only [cond_true]
    rw [show insI a l.length (fun i => (l.getD i dY).2.1) = false from by unfold insI; simp [hlen]]

theorem s_g46_ground_inside_v3 (a : List Int) (l : List E72) (hl : a.length < 2 ^ 40) : g46_ground_inside_v3 a l = some (insI a l.length (fun i => (l.getD i dY).2.2.1)) := by
  unfold g46_ground_inside_v3 g46_ground_inside_v3_l0_run
  by_cases hlen : a.length = l.length
  · rw [show ((List.length a : Int) != (List.length l : Int)) = false from by simp; omega]
    simp only [cond_false]
    rcases iter_find (step := g46_ground_inside_v3_l0_step) (bad := fun i => !inB (a.getD i 0) ((l.getD i dY).2.2.1).1 ((l.getD i dY).2.2.1).2.1) (n := a.length) (k1 := 0) (k2 := 1) (fun i s => s.1.1 = l ∧ s.1.2.2.1 = a ∧ s.1.2.2.2.1 = (a.length : Int) ∧ s.1.2.2.2.2.1 = (i : Int)) (fun j s => s.1.2.1 = false) (fun s => True)
      (fun i s h hi hb => by
        obtain ⟨h1, h2, h3, h4⟩ := h
        simp only [g46_ground_inside_v3_l0_step, h1, h2, h3, h4, inside_lt hi, inside_lt (show i < l.length by omega), g50_ground_Play_5, g70, getD_toNat, show decide ((i : Int) < (a.length : Int)) = true from by simp; omega, cond_true, Option.bind_some]
        rw [show ((0, (0, ())), ((0, (0, ())), ((0, (0, ())), ()))) = dY from rfl]
        rw [hb]
        exact ⟨_, rfl, rfl, rfl, rfl, wr (by omega) (by omega)⟩)
      (fun i s h hi hb => by
        obtain ⟨h1, h2, h3, h4⟩ := h
        simp only [g46_ground_inside_v3_l0_step, h1, h2, h3, h4, inside_lt hi, inside_lt (show i < l.length by omega), g50_ground_Play_5, g70, getD_toNat, show decide ((i : Int) < (a.length : Int)) = true from by simp; omega, cond_true, Option.bind_some]
        rw [show ((0, (0, ())), ((0, (0, ())), ((0, (0, ())), ()))) = dY from rfl]
        rw [hb]
        exact ⟨_, rfl, rfl⟩)
      (fun s h => by
        obtain ⟨h1, h2, h3, h4⟩ := h
        simp only [g46_ground_inside_v3_l0_step, h1, h2, h3, h4, show decide ((a.length : Int) < (a.length : Int)) = false from by simp, cond_false]
        exact ⟨_, rfl, trivial⟩)
      a.length 0 (g46_ground_inside_v3_l0_fuel ((l, (false, (a, ((List.length a : Int), (0, ()))))), ())) ((l, (false, (a, ((List.length a : Int), (0, ()))))), ()) (by omega) (by simp [g46_ground_inside_v3_l0_fuel]) ⟨rfl, rfl, rfl, rfl⟩ with ⟨j, q, _, hj, hb, _, h1, h2⟩ | ⟨hb, q, h1, h2⟩
    · rw [h1]
      simp only [Option.bind_some, natK, h2]
      rw [show insI a l.length (fun i => (l.getD i dY).2.2.1) = false from by
        unfold insI
        rw [range_not (i := j) (by omega) (by simpa using hb)]; simp]
    · rw [h1]
      simp only [Option.bind_some, natK]
      rw [show insI a l.length (fun i => (l.getD i dY).2.2.1) = true from by
        unfold insI
        rw [range_all.2 fun i hi => by simpa using hb i (by omega) (by omega)]; simp [hlen]]
  · rw [show ((List.length a : Int) != (List.length l : Int)) = true from by simp; omega]
    simp only [cond_true]
    rw [show insI a l.length (fun i => (l.getD i dY).2.2.1) = false from by unfold insI; simp [hlen]]


/-- A truth is one of a place and years. -/
def truB (p : E25) (l : List E72) (t : E29) : Bool := insI t.1 p.1.length (fun i => (p.1.getD i dL).2.1) && insI t.2.1 l.length (fun i => p.2.1) && insI t.2.2.1 l.length (fun i => (l.getD i dY).1) && insI t.2.2.2.1 l.length (fun i => (l.getD i dY).2.1) && insI t.2.2.2.2.1 l.length (fun i => (l.getD i dY).2.2.1)
theorem g25 (n : Int) (s : E23) : g25_talikref01_Inside n s = some (inB n s.1 s.2.1) := by
  unfold g25_talikref01_Inside; rw [g59]; rfl
theorem g18 (p : E25) (l : List E72) (t : E29) (hp : p.1.length < 2 ^ 40) (hl : l.length < 2 ^ 40) : g18_talikref01_Truth p l t = some (truB p l t) := by
  unfold g18_talikref01_Truth truB
  have ne : ∀ {a b : Nat}, a ≠ b → ((a : Int) != (b : Int)) = true := fun h => by simp; omega
  have eq : ∀ {a b : Nat}, a = b → ((a : Int) != (b : Int)) = false := fun h => by simp; omega
  by_cases e1 : t.1.length = p.1.length
  · by_cases e2 : t.2.1.length = l.length
    · by_cases e3 : t.2.2.1.length = l.length
      · by_cases e4 : t.2.2.2.1.length = l.length
        · by_cases e5 : t.2.2.2.2.1.length = l.length
          · rw [eq e1, eq e2, eq e3, eq e4, eq e5]
            simp only [cond_false]
            unfold g18_talikref01_Truth_l0_run
            rcases iter_find (step := g18_talikref01_Truth_l0_step) (bad := fun i => !inB (t.1.getD i 0) ((p.1.getD i dL).2.1).1 ((p.1.getD i dL).2.1).2.1) (n := p.1.length) (k1 := 0) (k2 := 1) (fun i s => s.1.1 = l ∧ s.1.2.2.1 = (i : Int) ∧ s.2.1 = p ∧ s.2.2.1 = t) (fun j s => s.1.2.1 = false) (fun s => s.1.1 = l ∧ s.2.1 = p ∧ s.2.2.1 = t)
              (fun i s h hi hb => by
                obtain ⟨h1, h2, h3, h4⟩ := h
                simp only [g18_talikref01_Truth_l0_step, h1, h2, h3, h4, inside_lt hi, inside_lt (show i < t.1.length by omega), g25, getD_toNat, show decide ((i : Int) < (p.1.length : Int)) = true from by simp; omega, cond_true, Option.bind_some]
                rw [show (0, ((0, (0, ())), ())) = dL from rfl, hb]
                exact ⟨_, rfl, rfl, wr (by omega) (by omega), rfl, rfl⟩)
              (fun i s h hi hb => by
                obtain ⟨h1, h2, h3, h4⟩ := h
                simp only [g18_talikref01_Truth_l0_step, h1, h2, h3, h4, inside_lt hi, inside_lt (show i < t.1.length by omega), g25, getD_toNat, show decide ((i : Int) < (p.1.length : Int)) = true from by simp; omega, cond_true, Option.bind_some]
                rw [show (0, ((0, (0, ())), ())) = dL from rfl, hb]
                exact ⟨_, rfl, rfl⟩)
              (fun s h => by
                obtain ⟨h1, h2, h3, h4⟩ := h
                simp only [g18_talikref01_Truth_l0_step, h1, h2, h3, h4, show decide ((p.1.length : Int) < (p.1.length : Int)) = false from by simp, cond_false]
                exact ⟨_, rfl, rfl, rfl, rfl⟩)
              p.1.length 0 (g18_talikref01_Truth_l0_fuel ((l, (false, (0, ()))), (p, (t, ())))) ((l, (false, (0, ()))), (p, (t, ()))) (by omega) (by simp [g18_talikref01_Truth_l0_fuel]) ⟨rfl, rfl, rfl, rfl⟩ with ⟨j, q, _, hj, hb, _, h1, h2⟩ | ⟨hb, q, h1, h2⟩
            · rw [h1]
              simp only [Option.bind_some, natK, h2]
              rw [show insI t.1 p.1.length (fun i => (p.1.getD i dL).2.1) = false from by
                unfold insI
                rw [range_not (i := j) (by omega) (by simpa using hb)]; simp]
              simp
            · rw [h1]
              obtain ⟨k1, k2, k3⟩ := h2
              simp only [Option.bind_some, natK, k1, k2, k3]
              rw [show insI t.1 p.1.length (fun i => (p.1.getD i dL).2.1) = true from by
                unfold insI
                rw [range_all.2 fun i hi => by simpa using hb i (by omega) (by omega)]; simp [e1]]
              unfold g18_talikref01_Truth_l1_run
              let B1 : Nat → Bool := fun i => inB (t.2.1.getD i 0) p.2.1.1 p.2.1.2.1
              let B2 : Nat → Bool := fun i => inB (t.2.2.1.getD i 0) ((l.getD i dY).1).1 ((l.getD i dY).1).2.1
              let B3 : Nat → Bool := fun i => inB (t.2.2.2.1.getD i 0) ((l.getD i dY).2.1).1 ((l.getD i dY).2.1).2.1
              let B4 : Nat → Bool := fun i => inB (t.2.2.2.2.1.getD i 0) ((l.getD i dY).2.2.1).1 ((l.getD i dY).2.2.1).2.1
              have stp : ∀ (i : Nat) (s : (((List E72) × (Bool × (Int × Unit))) × (E25 × (E29 × Unit)))), s.1.1 = l ∧ s.1.2.2.1 = (i : Int) ∧ s.2.1 = p ∧ s.2.2.1 = t → i < l.length →
                  g18_talikref01_Truth_l1_step s = if B1 i && B2 i && B3 i && B4 i then some (0, ((l, (s.1.2.1, ((IntKind.wrap .i64 ((i : Int) + 1)), ()))), (p, (t, ())))) else some (1, ((l, (false, ((i : Int), ()))), (p, (t, ())))) := fun i s h hi => by
                obtain ⟨h1, h2, h3, h4⟩ := h
                simp only [g18_talikref01_Truth_l1_step, h1, h2, h3, h4, inside_lt hi, inside_lt (show i < t.2.1.length by omega), inside_lt (show i < t.2.2.1.length by omega), inside_lt (show i < t.2.2.2.1.length by omega), inside_lt (show i < t.2.2.2.2.1.length by omega), g25, getD_toNat, show decide ((i : Int) < (l.length : Int)) = true from by simp; omega, cond_true, Option.bind_some]
                rw [show ((0, (0, ())), ((0, (0, ())), ((0, (0, ())), ()))) = dY from rfl]
                show (bif !B1 i then _ else bif !B2 i then _ else bif !B3 i then _ else bif !B4 i then _ else _) = _
                cases B1 i <;> cases B2 i <;> cases B3 i <;> cases B4 i <;> rfl
              rcases iter_find (step := g18_talikref01_Truth_l1_step) (bad := fun i => !(B1 i && B2 i && B3 i && B4 i)) (n := l.length) (k1 := 0) (k2 := 1) (fun i s => s.1.1 = l ∧ s.1.2.2.1 = (i : Int) ∧ s.2.1 = p ∧ s.2.2.1 = t) (fun j s => s.1.2.1 = false) (fun s => True)
                (fun i s h hi hb => by
                  rw [stp i s h hi, if_pos (by simpa using hb)]
                  exact ⟨_, rfl, rfl, wr (by omega) (by omega), rfl, rfl⟩)
                (fun i s h hi hb => by
                  rw [stp i s h hi, if_neg (fun hc => by rw [hc] at hb; cases hb)]
                  exact ⟨_, rfl, rfl⟩)
                (fun s h => by
                  obtain ⟨h1, h2, h3, h4⟩ := h
                  simp only [g18_talikref01_Truth_l1_step, h1, h2, h3, h4, show decide ((l.length : Int) < (l.length : Int)) = false from by simp, cond_false]
                  exact ⟨_, rfl, trivial⟩)
                l.length 0 (g18_talikref01_Truth_l1_fuel ((l, (q.1.2.1, (0, ()))), (p, (t, ())))) ((l, (q.1.2.1, (0, ()))), (p, (t, ()))) (by omega) (by simp [g18_talikref01_Truth_l1_fuel]) ⟨rfl, rfl, rfl, rfl⟩ with ⟨j, q, _, hj, hb, _, h1, h2⟩ | ⟨hb, q, h1, h2⟩
              · rw [h1]
                simp only [Option.bind_some, natK, h2]
                congr 1
                have hb' : (B1 j && B2 j && B3 j && B4 j) = false := by
                  cases hx : (B1 j && B2 j && B3 j && B4 j) with
                  | false => rfl
                  | true => rw [hx] at hb; cases hb
                unfold insI
                symm
                cases c1 : B1 j with
                | false => rw [range_not (f := fun i => inB (t.2.1.getD i 0) p.2.1.1 p.2.1.2.1) hj c1]; simp
                | true =>
                  cases c2 : B2 j with
                  | false => rw [range_not (f := fun i => inB (t.2.2.1.getD i 0) ((l.getD i dY).1).1 ((l.getD i dY).1).2.1) hj c2]; simp
                  | true =>
                    cases c3 : B3 j with
                    | false => rw [range_not (f := fun i => inB (t.2.2.2.1.getD i 0) ((l.getD i dY).2.1).1 ((l.getD i dY).2.1).2.1) hj c3]; simp
                    | true =>
                      cases c4 : B4 j with
                      | false => rw [range_not (f := fun i => inB (t.2.2.2.2.1.getD i 0) ((l.getD i dY).2.2.1).1 ((l.getD i dY).2.2.1).2.1) hj c4]; simp
                      | true => rw [c1, c2, c3, c4] at hb'; cases hb'
              · rw [h1]
                simp only [Option.bind_some, natK]
                congr 1
                have all : ∀ i, i < l.length → (B1 i = true ∧ B2 i = true) ∧ B3 i = true ∧ B4 i = true := fun i hi => by
                  have := hb i (by omega) hi
                  simp only [Bool.not_eq_false', Bool.and_eq_true] at this
                  exact ⟨⟨this.1.1.1, this.1.1.2⟩, this.1.2, this.2⟩
                unfold insI
                rw [range_all.2 fun i hi => (all i hi).1.1, range_all.2 fun i hi => (all i hi).1.2, range_all.2 fun i hi => (all i hi).2.1, range_all.2 fun i hi => (all i hi).2.2]
                simp [e2, e3, e4, e5]
          · rw [eq e1, eq e2, eq e3, eq e4, ne e5]; simp only [cond_false, cond_true]; unfold insI; simp [e5]
        · rw [eq e1, eq e2, eq e3, ne e4]; simp only [cond_false, cond_true]; unfold insI; simp [e4]
      · rw [eq e1, eq e2, ne e3]; simp only [cond_false, cond_true]; unfold insI; simp [e3]
    · rw [eq e1, ne e2]; simp only [cond_false, cond_true]; unfold insI; simp [e2]
  · rw [ne e1]; simp only [cond_true]; unfold insI; simp [e1]

end Go.Proofs.YtbidmbjkjpdgdaaDoor.Abs

/-
  Plain laws of the ground layer, third part: the depth of some heat, the program's and the reference's; seasons.
-/
set_option linter.unusedVariables false
set_option linter.unusedSimpArgs false
set_option maxRecDepth 100000
namespace Go.Proofs.YtbidmbjkjpdgdaaDoor.Abs

abbrev UT : Type := (Nat × (Unit × (Unit × (Unit × (Unit × (Unit × (Unit × (Unit × (Unit × (Unit × (Unit × (Unit × (Unit × (Unit × (Unit × (Unit × (Unit × (Unit × (Unit × (Unit × (Unit × (Unit × (Unit × (Unit × (Unit × (Unit × (Unit × (Unit × (Unit × (Unit × (Unit × (Unit × (Unit × (Unit × (Unit × (Unit × (Unit × (Unit × (Unit × (Unit × (Unit × (Unit × (Unit × (Unit × (Unit × (Unit × (Unit × Unit)))))))))))))))))))))))))))))))))))))))))))))))
/-- The depth of some heat from some layer on; so many layers. -/
def dep (ls : List E70) (ms : List Int) : Nat → Nat → Int → Int
  | 0, _, _ => 0
  | k + 1, i, heat => if k = 0 ∨ heat < (ls.getD i dL).1 * ms.getD i 0 then heat / ms.getD i 0 else (ls.getD i dL).1 + dep ls ms k (i + 1) (heat - (ls.getD i dL).1 * ms.getD i 0)
/-- Layers, and what they take to melt. -/
structure Lay (ls : List E70) (ms : List Int) : Prop where
  len : ms.length = ls.length
  pos : 1 ≤ ls.length
  few : ls.length ≤ 6
  thick : ∀ i, i < ls.length → 1 ≤ (ls.getD i dL).1 ∧ (ls.getD i dL).1 ≤ 20000
  melt : ∀ i, i < ls.length → 1 ≤ ms.getD i 0 ∧ ms.getD i 0 ≤ 1000

theorem mul_bd {a b A B : Int} (ha : 0 ≤ a) (hA : a ≤ A) (hb : 0 ≤ b) (hB : b ≤ B) : 0 ≤ a * b ∧ a * b ≤ A * B :=
  ⟨Int.mul_nonneg ha hb, Int.mul_le_mul hA hB hb (Int.le_trans ha hA)⟩
theorem div_bd {a b : Int} (ha : 0 ≤ a) (hb : 1 ≤ b) : 0 ≤ a / b ∧ a / b ≤ a :=
  ⟨Int.ediv_nonneg ha (by omega), Int.ediv_le_self b ha⟩
theorem tdiv_eq {a b : Int} (ha : 0 ≤ a) : Int.tdiv a b = a / b := Int.tdiv_eq_ediv_of_nonneg ha

theorem step_form {α : Type} {o : Option (Nat × α)} {n : Nat} {x : α} (h : o = some (n, x)) : ∃ y, y = x ∧ o = some (n, y) := ⟨x, rfl, h⟩
section
variable {ls : List E70} {ms : List Int} {a0 : E90}
theorem r0_last {i : Nat} {b : UT} {heat res out all : Int} (hL : Lay ls ms) (h1 : a0.1.1 = ls) (h2 : a0.2.1.1 = ms) (hb : b.1 = 0) (hi : i < ls.length) (h0 : 0 ≤ heat) (h9 : heat ≤ 1000000000) (ho : 0 ≤ out) (ho9 : out ≤ 1000000000) (hall : all < 0 ∨ heat < all) :
    ∃ q, g86_r0 (i : Int) all b a0 heat res out = some q ∧ q.1 = false ∧ q.2.1.1 = 3 ∧ q.2.2.2.2.1 = out + heat / ms.getD i 0 := by
  have hm := hL.melt i hi
  have hd := div_bd h0 hm.1
  have hne : (!decide (ms.getD i 0 = 0)) = true := by rw [Bool.not_eq_true', decide_eq_false_iff_not]; omega
  unfold g86_r0
  simp only [hb, natK, h1, h2, getD_toNat, inside_lt (show i < ms.length by rw [hL.len]; exact hi), cond_true, hne, tdiv_eq h0, wr (show -9223372036854775808 ≤ heat / ms.getD i 0 by omega) (by omega), wr (show -9223372036854775808 ≤ out + heat / ms.getD i 0 by omega) (by omega)]
  by_cases h : all < 0
  · rw [show decide (all < 0) = true from by simpa using h]
    exact ⟨_, rfl, rfl, rfl, rfl⟩
  · rw [show decide (all < 0) = false from by simpa using h, show decide (heat < all) = true from by simpa using hall.resolve_left h]
    exact ⟨_, rfl, rfl, rfl, rfl⟩
theorem r0_go {i : Nat} {b : UT} {heat res out all : Int} (hL : Lay ls ms) (h1 : a0.1.1 = ls) (h2 : a0.2.1.1 = ms) (hb : b.1 = 0) (hi : i < ls.length) (h0 : 0 ≤ heat) (h9 : heat ≤ 1000000000) (ho : 0 ≤ out) (ho9 : out ≤ 1000000000) (ha : 0 ≤ all) (hall : all ≤ heat) :
    ∃ q, g86_r0 (i : Int) all b a0 heat res out = some q ∧ q.1 = true ∧ q.2.1.1 = 0 ∧ q.2.2.1 = a0 ∧ q.2.2.2.1 = heat - all ∧ q.2.2.2.2.2.1 = out + (ls.getD i dL).1 := by
  have ht := hL.thick i hi
  unfold g86_r0
  simp only [hb, natK, h1, h2, getD_toNat, inside_lt hi, cond_true, show decide (all < 0) = false from by simp; omega, show decide (heat < all) = false from by simp; omega, cond_false, wr (show -9223372036854775808 ≤ heat - all by omega) (by omega)]
  rw [show (0, ((0, (0, ())), ())) = dL from rfl, wr (show -9223372036854775808 ≤ out + (ls.getD i dL).1 by omega) (by omega)]
  exact ⟨_, rfl, rfl, rfl, rfl, rfl, rfl⟩

theorem melts_loop (hL : Lay ls ms) (h1 : a0.1.1 = ls) (h2 : a0.2.1.1 = ms) : ∀ (k i : Nat) (heat out : Int) (s : (E90 × ((List E70) × (Int × (Int × Unit)))) × (UT × (E90 × (Int × (Int × (Int × Unit)))))) (fuel : Nat), i + k + 1 = ls.length → k < fuel → s.1.1 = a0 → s.1.2.1 = ls → s.1.2.2.1 = (ls.length : Int) → s.1.2.2.2.1 = (i : Int) →
    s.2.1.1 = 0 → s.2.2.1 = a0 → s.2.2.2.1 = heat → s.2.2.2.2.2.1 = out → 0 ≤ heat → heat ≤ 1000000000 → 0 ≤ out → out ≤ 20000 * (i : Int) → ∃ q, iter g96_ground_followed_melts_l0_step fuel s = some (0, q) ∧ q.2.1.1 = 3 ∧ q.2.2.2.2.1 = out + dep ls ms (k + 1) i heat
  | k, i, heat, out, s, 0, hk, hf, _, _, _, _, _, _, _, _, _, _, _, _ => by omega
  | k, i, heat, out, s, fuel + 1, hk, hf, e1, e2, e3, e4, e5, e6, e7, e8, h0, h9, ho, ho9 => by
    have hi : i < ls.length := by omega
    have hfew := hL.few
    have ht := hL.thick i hi
    have hm := hL.melt i hi
    have hmul := mul_bd (a := (ls.getD i dL).1) (b := ms.getD i 0) (by omega) ht.2 (by omega) hm.2
    have hw1 : IntKind.wrap .i64 ((ls.length : Int) - 1) = (ls.length : Int) - 1 := wr (by omega) (by omega)
    have hw2 : IntKind.wrap .i64 ((ls.getD i dL).1 * ms.getD i 0) = (ls.getD i dL).1 * ms.getD i 0 := wr (by omega) (by omega)
    have hw3 : IntKind.wrap .i64 ((i : Int) + 1) = ((i + 1 : Nat) : Int) := by rw [wr (by omega) (by omega)]; omega
    have pre : g96_ground_followed_melts_l0_step s = g96_ground_followed_melts_l0_step s := rfl
    conv at pre => rhs; unfold g96_ground_followed_melts_l0_step
    simp only [e1, e2, e3, e4, e6, e7, e8, h1, h2, getD_toNat, inside_lt hi, inside_lt (show i < ms.length by rw [hL.len]; exact hi), show decide ((i : Int) < (ls.length : Int)) = true from by simp; omega, cond_true, hw1, hw3] at pre
    rw [show (0, ((0, (0, ())), ())) = dL from rfl, hw2] at pre
    cases k with
    | zero =>
      rw [show ((i : Int) == (ls.length : Int) - 1) = true from by simp; omega] at pre
      simp only [cond_true] at pre
      obtain ⟨q, q1, q2, q3, q4⟩ := r0_last (i := i) (b := s.2.1) (res := s.2.2.2.2.1) (all := -1) hL h1 h2 e5 hi h0 h9 ho (by omega) (.inl (by omega))
      rw [show (s.2.1.1, _) = s.2.1 from rfl, q1] at pre
      simp only [Option.bind_some, q2, Bool.not_false, cond_true] at pre
      refine ⟨_, iter_out pre, q3, ?_⟩
      rw [show dep ls ms (0 + 1) i heat = heat / ms.getD i 0 from by simp [dep]]
      exact q4
    | succ k =>
      rw [show ((i : Int) == (ls.length : Int) - 1) = false from by simp; omega] at pre
      simp only [cond_false] at pre
      by_cases hlt : heat < (ls.getD i dL).1 * ms.getD i 0
      · obtain ⟨q, q1, q2, q3, q4⟩ := r0_last (i := i) (b := s.2.1) (res := s.2.2.2.2.1) hL h1 h2 e5 hi h0 h9 ho (by omega) (.inr hlt)
        rw [show (s.2.1.1, _) = s.2.1 from rfl, q1] at pre
        simp only [Option.bind_some, q2, Bool.not_false, cond_true] at pre
        refine ⟨_, iter_out pre, q3, ?_⟩
        rw [show dep ls ms (k + 1 + 1) i heat = heat / ms.getD i 0 from by rw [dep, if_pos (.inr hlt)]]
        exact q4
      · obtain ⟨q, q1, q2, q3, q4, q5, q6⟩ := r0_go (i := i) (b := s.2.1) (res := s.2.2.2.2.1) hL h1 h2 e5 hi h0 h9 ho (by omega) (by omega) (show (ls.getD i dL).1 * ms.getD i 0 ≤ heat by omega)
        rw [show (s.2.1.1, _) = s.2.1 from rfl, q1] at pre
        simp only [Option.bind_some, q2, Bool.not_true, cond_false] at pre
        obtain ⟨s', hs, pre⟩ := step_form pre
        rw [iter_one pre]
        obtain ⟨z, z1, z2, z3⟩ := melts_loop hL h1 h2 k (i + 1) (heat - (ls.getD i dL).1 * ms.getD i 0) (out + (ls.getD i dL).1) s' fuel (by omega) (by omega) (by rw [hs]) (by rw [hs]) (by rw [hs]) (by rw [hs]) (by rw [hs]; exact q3) (by rw [hs]; exact q4) (by rw [hs]; exact q5) (by rw [hs]; exact q6) (by omega) (by omega) (by omega) (by omega)
        refine ⟨z, z1, z2, ?_⟩
        rw [z3, show dep ls ms (k + 1 + 1) i heat = (ls.getD i dL).1 + dep ls ms (k + 1) (i + 1) (heat - (ls.getD i dL).1 * ms.getD i 0) from by rw [dep, if_neg (by omega)]]
        omega

theorem g86 (hL : Lay ls ms) (h1 : a0.1.1 = ls) (h2 : a0.2.1.1 = ms) {heat : Int} (h0 : 0 ≤ heat) (h9 : heat ≤ 1000000000) : g86_ground_followed_depth a0 heat = some (dep ls ms ls.length 0 heat) := by
  unfold g86_ground_followed_depth g96_ground_followed_melts g96_ground_followed_melts_l0_run
  obtain ⟨k, hk⟩ : ∃ k, ls.length = k + 1 := ⟨ls.length - 1, by have := hL.pos; omega⟩
  rw [h1]
  obtain ⟨q, q1, q2, q3⟩ := melts_loop (a0 := a0) hL h1 h2 k 0 heat 0 ((a0, (ls, ((ls.length : Int), (0, ())))), ((0, ((), ((), ((), ((), ((), ((), ((), ((), ((), ((), ((), ((), ((), ((), ((), ((), ((), ((), ((), ((), ((), ((), ((), ((), ((), ((), ((), ((), ((), ((), ((), ((), ((), ((), ((), ((), ((), ((), ((), ((), ((), ((), ((), ((), ((), ((), ()))))))))))))))))))))))))))))))))))))))))))))))), (a0, (heat, (0, (0, ())))))) (g96_ground_followed_melts_l0_fuel ((a0, (ls, ((ls.length : Int), (0, ())))), ((0, ((), ((), ((), ((), ((), ((), ((), ((), ((), ((), ((), ((), ((), ((), ((), ((), ((), ((), ((), ((), ((), ((), ((), ((), ((), ((), ((), ((), ((), ((), ((), ((), ((), ((), ((), ((), ((), ((), ((), ((), ((), ((), ((), ((), ((), ((), ()))))))))))))))))))))))))))))))))))))))))))))))), (a0, (heat, (0, (0, ()))))))) (by omega) (by simp [g96_ground_followed_melts_l0_fuel]; omega) rfl rfl rfl rfl rfl rfl rfl rfl h0 h9 (by omega) (by omega)
  rw [q1]
  simp only [Option.bind_some, natK, q2]
  rw [show ((3 : Nat) == 0) = false from rfl, show ((3 : Nat) == 3) = true from rfl]
  simp only [cond_false, cond_true, q3, hk]
  rw [Int.zero_add]
end


section
variable {ls : List E70} {ms : List Int} {p : E25}
theorem depth_loop (hL : Lay ls ms) (h1 : p.1 = ls) : ∀ (k i : Nat) (heat out : Int) (s : (((List Int) × (Int × (Int × (Int × (Int × Unit))))) × (E25 × Unit))) (fuel : Nat), i + k = ls.length → 0 < k → k < fuel → s.1.1 = ms → s.1.2.1 = heat → s.1.2.2.2.1 = out → s.1.2.2.2.2.1 = (i : Int) → s.2.1 = p →
    0 ≤ heat → heat ≤ 1000000000 → 0 ≤ out → out ≤ 20000 * (i : Int) → ∃ c q, iter g55_talikref01_Depth_l0_step fuel s = some (c, q) ∧ ((c = 0 ∧ q.1.2.2.1 = out + dep ls ms k i heat) ∨ (c = 1 ∧ q.1.2.2.2.1 = out + dep ls ms k i heat))
  | k, i, heat, out, s, 0, hk, hk0, hf, _, _, _, _, _, _, _, _, _ => by omega
  | 0, i, heat, out, s, fuel + 1, hk, hk0, hf, _, _, _, _, _, _, _, _, _ => by omega
  | k + 1, i, heat, out, s, fuel + 1, hk, hk0, hf, e1, e2, e3, e4, e5, h0, h9, ho, ho9 => by
    have hi : i < ls.length := by omega
    have hfew := hL.few
    have ht := hL.thick i hi
    have hm := hL.melt i hi
    have hmul := mul_bd (a := (ls.getD i dL).1) (b := ms.getD i 0) (by omega) ht.2 (by omega) hm.2
    have hd := div_bd h0 hm.1
    have hle : heat / ms.getD i 0 * ms.getD i 0 ≤ heat := Int.ediv_mul_le heat (by omega)
    have hge : 0 ≤ heat / ms.getD i 0 * ms.getD i 0 := Int.mul_nonneg hd.1 (by omega)
    have hw0 : IntKind.wrap .i64 (heat / ms.getD i 0) = heat / ms.getD i 0 := wr (by omega) (by omega)
    have hw2 : IntKind.wrap .i64 ((ls.getD i dL).1 * ms.getD i 0) = (ls.getD i dL).1 * ms.getD i 0 := wr (by omega) (by omega)
    have hw3 : IntKind.wrap .i64 ((i : Int) + 1) = ((i + 1 : Nat) : Int) := by rw [wr (by omega) (by omega)]; omega
    have hw4 : IntKind.wrap .i64 (heat / ms.getD i 0 * ms.getD i 0) = heat / ms.getD i 0 * ms.getD i 0 := wr (by omega) (by omega)
    have hw5 : IntKind.wrap .i64 (heat - heat / ms.getD i 0 * ms.getD i 0) = heat - heat / ms.getD i 0 * ms.getD i 0 := wr (by omega) (by omega)
    have hw6 : IntKind.wrap .i64 (heat - (ls.getD i dL).1 * ms.getD i 0) = heat - (ls.getD i dL).1 * ms.getD i 0 := wr (by omega) (by omega)
    have hw7 : IntKind.wrap .i64 (out + heat / ms.getD i 0) = out + heat / ms.getD i 0 := wr (by omega) (by omega)
    have hw8 : IntKind.wrap .i64 (out + (ls.getD i dL).1) = out + (ls.getD i dL).1 := wr (by omega) (by omega)
    have hne : (!decide (ms.getD i 0 = 0)) = true := by rw [Bool.not_eq_true', decide_eq_false_iff_not]; omega
    have pre : g55_talikref01_Depth_l0_step s = g55_talikref01_Depth_l0_step s := rfl
    conv at pre => rhs; unfold g55_talikref01_Depth_l0_step
    simp only [e1, e2, e3, e4, e5, h1, getD_toNat, inside_lt hi, inside_lt (show i < ms.length by rw [hL.len]; exact hi), show decide ((i : Int) < (ls.length : Int)) = true from by simp; omega, cond_true, hne, tdiv_eq h0, hw0, hw3, hw4, hw5, hw7] at pre
    rw [show (0, ((0, (0, ())), ())) = dL from rfl, hw2, hw6, hw8] at pre
    cases k with
    | zero =>
      -- the last layer
      have hlast : decide (((i + 1 : Nat) : Int) < (ls.length : Int)) = false := by simp; omega
      simp only [hlast, cond_false] at pre
      obtain ⟨s', hs, pre⟩ := step_form pre
      rw [iter_one pre]
      cases fuel with
      | zero => omega
      | succ fuel =>
        have fin : ∀ (x : (((List Int) × (Int × (Int × (Int × (Int × Unit))))) × (E25 × Unit))), x.1.2.2.2.2.1 = ((i + 1 : Nat) : Int) → x.2.1 = p → ∃ q, iter g55_talikref01_Depth_l0_step (fuel + 1) x = some (1, q) ∧ q.1.2.2.2.1 = x.1.2.2.2.1 := fun x x1 x2 => by
          have st : g55_talikref01_Depth_l0_step x = some (2, ((x.1.1, (x.1.2.1, (x.1.2.2.1, (x.1.2.2.2.1, (x.1.2.2.2.2.1, ()))))), (x.2.1, ()))) := by
            unfold g55_talikref01_Depth_l0_step
            simp only [x1, x2, h1, hlast, cond_false]
          exact ⟨_, iter_out st, rfl⟩
        obtain ⟨q, q1, q2⟩ := fin s' (by rw [hs]) (by rw [hs])
        refine ⟨1, q, q1, .inr ⟨rfl, ?_⟩⟩
        rw [q2, hs]
        rw [show dep ls ms (0 + 1) i heat = heat / ms.getD i 0 from by simp [dep]]
    | succ k =>
      have hnl : decide (((i + 1 : Nat) : Int) < (ls.length : Int)) = true := by simp; omega
      simp only [hnl, cond_true] at pre
      by_cases hgt : heat / ms.getD i 0 > (ls.getD i dL).1
      · have hge2 : (ls.getD i dL).1 * ms.getD i 0 ≤ heat := Int.le_trans (Int.mul_le_mul_of_nonneg_right (Int.le_of_lt hgt) (by omega)) hle
        rw [show decide (heat / ms.getD i 0 > (ls.getD i dL).1) = true from by simpa using hgt] at pre
        simp only [cond_true, show decide ((ls.getD i dL).1 < (ls.getD i dL).1) = false from by simp, cond_false] at pre
        obtain ⟨s', hs, pre⟩ := step_form pre
        rw [iter_one pre]
        obtain ⟨c, q, q1, q2⟩ := depth_loop hL h1 (k + 1) (i + 1) (heat - (ls.getD i dL).1 * ms.getD i 0) (out + (ls.getD i dL).1) s' fuel (by omega) (by omega) (by omega) (by rw [hs]) (by rw [hs]) (by rw [hs]) (by rw [hs]) (by rw [hs]) (by omega) (by omega) (by omega) (by omega)
        have hdep : dep ls ms (k + 1 + 1) i heat = (ls.getD i dL).1 + dep ls ms (k + 1) (i + 1) (heat - (ls.getD i dL).1 * ms.getD i 0) := by rw [dep, if_neg (by omega)]
        refine ⟨c, q, q1, ?_⟩
        rw [hdep]
        rcases q2 with ⟨a, b⟩ | ⟨a, b⟩
        · exact .inl ⟨a, by rw [b]; omega⟩
        · exact .inr ⟨a, by rw [b]; omega⟩
      · rw [show decide (heat / ms.getD i 0 > (ls.getD i dL).1) = false from by simpa using hgt] at pre
        simp only [cond_false] at pre
        by_cases hlt : heat / ms.getD i 0 < (ls.getD i dL).1
        · rw [show decide (heat / ms.getD i 0 < (ls.getD i dL).1) = true from by simpa using hlt] at pre
          simp only [cond_true] at pre
          have hcond : heat < (ls.getD i dL).1 * ms.getD i 0 := (Int.ediv_lt_iff_lt_mul (by omega)).1 hlt
          refine ⟨0, _, iter_out pre, .inl ⟨rfl, ?_⟩⟩
          rw [show dep ls ms (k + 1 + 1) i heat = heat / ms.getD i 0 from by rw [dep, if_pos (.inr hcond)]]
        · rw [show decide (heat / ms.getD i 0 < (ls.getD i dL).1) = false from by simpa using hlt] at pre
          simp only [cond_false] at pre
          have heq : heat / ms.getD i 0 = (ls.getD i dL).1 := by omega
          have hge2 : (ls.getD i dL).1 * ms.getD i 0 ≤ heat := by rw [← heq]; exact hle
          obtain ⟨s', hs, pre⟩ := step_form pre
          rw [iter_one pre]
          obtain ⟨c, q, q1, q2⟩ := depth_loop hL h1 (k + 1) (i + 1) (heat - heat / ms.getD i 0 * ms.getD i 0) (out + heat / ms.getD i 0) s' fuel (by omega) (by omega) (by omega) (by rw [hs]) (by rw [hs]) (by rw [hs]) (by rw [hs]) (by rw [hs]) (by omega) (by omega) (by omega) (by omega)
          have hdep : dep ls ms (k + 1 + 1) i heat = (ls.getD i dL).1 + dep ls ms (k + 1) (i + 1) (heat - (ls.getD i dL).1 * ms.getD i 0) := by rw [dep, if_neg (by omega)]
          refine ⟨c, q, q1, ?_⟩
          rw [hdep]
          rw [heq] at q2
          rcases q2 with ⟨a, b⟩ | ⟨a, b⟩
          · exact .inl ⟨a, by rw [b]; omega⟩
          · exact .inr ⟨a, by rw [b]; omega⟩
theorem g55 (hL : Lay ls ms) (h1 : p.1 = ls) {heat : Int} (h0 : 0 ≤ heat) (h9 : heat ≤ 1000000000) : g55_talikref01_Depth p ms heat = some (dep ls ms ls.length 0 heat) := by
  unfold g55_talikref01_Depth g55_talikref01_Depth_l0_run
  have hpos := hL.pos
  obtain ⟨c, q, q1, q2⟩ := depth_loop (p := p) hL h1 ls.length 0 heat 0 ((ms, (heat, (0, (0, (0, ()))))), (p, ())) (g55_talikref01_Depth_l0_fuel ((ms, (heat, (0, (0, (0, ()))))), (p, ()))) (by omega) (by omega) (by simp [g55_talikref01_Depth_l0_fuel, h1]) rfl rfl rfl rfl rfl h0 h9 (by omega) (by omega)
  rw [q1]
  simp only [Option.bind_some]
  rcases q2 with ⟨rfl, b⟩ | ⟨rfl, b⟩ <;> simp only [natK, b, Int.zero_add]
end
end Go.Proofs.YtbidmbjkjpdgdaaDoor.Abs

/-
  Plain laws of the ground layer, fourth part: years, one after the other: the program's and the reference's.
-/
set_option linter.unusedVariables false
set_option linter.unusedSimpArgs false
set_option maxRecDepth 100000
namespace Go.Proofs.YtbidmbjkjpdgdaaDoor.Abs

/-- The heat that comes, and the heat that could go, in a year. -/
def hea (t : E29) (i : Nat) : Int := t.2.1.getD i 0 + t.2.2.1.getD i 0
def goe (t : E29) (i : Nat) : Int := t.2.2.2.1.getD i 0 * (1000 - t.2.2.2.2.1.getD i 0) / 1000
/-- How far it is thawed, and how much heat is left, when a year begins. -/
def RL (t : E29) (more : Int) : Nat → Int × Int
  | 0 => (0, 0)
  | i + 1 =>
    let lf := (RL t more i).2 + hea t i
    let rs := if lf > (RL t more i).1 then lf else (RL t more i).1
    let out := if goe t i + more < lf then goe t i + more else lf
    (if lf - out = 0 then 0 else rs, lf - out)
def Lf (t : E29) (more : Int) (i : Nat) : Int := (RL t more i).2 + hea t i
def Rs (t : E29) (more : Int) (i : Nat) : Int := if Lf t more i > (RL t more i).1 then Lf t more i else (RL t more i).1
def Ou (t : E29) (more : Int) (i : Nat) : Int := if goe t i + more < Lf t more i then goe t i + more else Lf t more i
theorem RL_succ (t : E29) (more : Int) (i : Nat) : RL t more (i + 1) = (if Lf t more i - Ou t more i = 0 then 0 else Rs t more i, Lf t more i - Ou t more i) := rfl
def Ins (t : E29) : Nat → Int
  | 0 => 0
  | i + 1 => Ins t i + hea t i
def Outs (t : E29) (more : Int) : Nat → Int
  | 0 => 0
  | i + 1 => Outs t more i + Ou t more i
/-- Years as they can be. -/
structure Tru (t : E29) (n : Nat) : Prop where
  few : n ≤ 12
  l1 : t.2.1.length = n
  l2 : t.2.2.1.length = n
  l3 : t.2.2.2.1.length = n
  l4 : t.2.2.2.2.1.length = n
  warm : ∀ i, i < n → 0 ≤ t.2.1.getD i 0 ∧ t.2.1.getD i 0 ≤ 1000000
  summer : ∀ i, i < n → 0 ≤ t.2.2.1.getD i 0 ∧ t.2.2.1.getD i 0 ≤ 1000000
  winter : ∀ i, i < n → 0 ≤ t.2.2.2.1.getD i 0 ∧ t.2.2.2.1.getD i 0 ≤ 1000000
  snow : ∀ i, i < n → 0 ≤ t.2.2.2.2.1.getD i 0 ∧ t.2.2.2.2.1.getD i 0 ≤ 1000

section
variable {t : E29} {n : Nat} {more : Int}
theorem hea_bd (hT : Tru t n) {i : Nat} (hi : i < n) : 0 ≤ hea t i ∧ hea t i ≤ 2000000 := by
  have h1 := hT.warm i hi
  have h2 := hT.summer i hi
  unfold hea
  omega
theorem goe_mul (hT : Tru t n) {i : Nat} (hi : i < n) : 0 ≤ t.2.2.2.1.getD i 0 * (1000 - t.2.2.2.2.1.getD i 0) ∧ t.2.2.2.1.getD i 0 * (1000 - t.2.2.2.2.1.getD i 0) ≤ 1000000 * 1000 := by
  have h1 := hT.winter i hi
  have h2 := hT.snow i hi
  exact mul_bd h1.1 h1.2 (by omega) (by omega)
theorem goe_bd (hT : Tru t n) {i : Nat} (hi : i < n) : 0 ≤ goe t i ∧ goe t i ≤ 1000000 := by
  have h := goe_mul hT hi
  unfold goe
  omega
theorem RL_bd (hT : Tru t n) (h0 : 0 ≤ more) : ∀ i, i ≤ n → (0 ≤ (RL t more i).1 ∧ (RL t more i).1 ≤ 2000000 * (i : Int)) ∧ 0 ≤ (RL t more i).2 ∧ (RL t more i).2 ≤ 2000000 * (i : Int)
  | 0, _ => by simp [RL]
  | i + 1, hi => by
    obtain ⟨⟨a1, a2⟩, a3, a4⟩ := RL_bd hT h0 i (by omega)
    have h1 := hea_bd hT (show i < n by omega)
    have h2 := goe_bd hT (show i < n by omega)
    rw [RL_succ]
    unfold Ou Rs Lf
    simp only
    refine ⟨?_, ?_⟩
    · split
      · omega
      · split <;> omega
    · split <;> omega
theorem year_bd (hT : Tru t n) (h0 : 0 ≤ more) {i : Nat} (hi : i < n) : (0 ≤ Lf t more i ∧ Lf t more i ≤ 24000000) ∧ (0 ≤ Rs t more i ∧ Rs t more i ≤ 24000000) ∧ 0 ≤ Ou t more i ∧ Ou t more i ≤ Lf t more i := by
  obtain ⟨⟨a1, a2⟩, a3, a4⟩ := RL_bd hT h0 i (by omega)
  have h1 := hea_bd hT hi
  have h2 := goe_bd hT hi
  have hf := hT.few
  have hl : 0 ≤ Lf t more i ∧ Lf t more i ≤ 24000000 := by unfold Lf; omega
  refine ⟨hl, ?_, ?_⟩
  · unfold Rs
    split
    · exact hl
    · omega
  · unfold Ou
    split <;> omega
theorem sums_bd (hT : Tru t n) (h0 : 0 ≤ more) : ∀ i, i ≤ n → (0 ≤ Ins t i ∧ Ins t i ≤ 2000000 * (i : Int)) ∧ 0 ≤ Outs t more i ∧ Outs t more i ≤ 24000000 * (i : Int)
  | 0, _ => by simp [Ins, Outs]
  | i + 1, hi => by
    obtain ⟨⟨a1, a2⟩, a3, a4⟩ := sums_bd hT h0 i (by omega)
    have h1 := hea_bd hT (show i < n by omega)
    have h2 := year_bd hT h0 (show i < n by omega)
    unfold Ins Outs
    omega

theorem lim_ok {a b : Nat} (h : a + b ≤ 1000000) : decide (a + b ≤ LIM) = true := by
  unfold LIM
  simp
  omega

variable {p : E25} {ls : List E70}
theorem g74 (hT : Tru t n) (hL : Lay p.1 t.1) (h0 : 0 ≤ more) (hm9 : more ≤ 1000000) {i : Nat} (hi : i < n) {depths lefts : List Int} {inn out kept : Int} (hd : depths.length ≤ 1000) (hin : 0 ≤ inn) (hin9 : inn ≤ 1000000000) :
    g74_ground_followed_summer (p, (t, (more, ((i : Int), ((RL t more i).1, ((RL t more i).2, (depths, (lefts, ((inn, (out, (kept, ()))), ()))))))))) =
      some ((), ((p, (t, (more, ((i : Int), (Rs t more i, (Lf t more i, (depths ++ [dep p.1 t.1 p.1.length 0 (Rs t more i)], (lefts, ((inn + hea t i, (out, (kept, ()))), ()))))))))), ())) := by
  obtain ⟨⟨a1, a2⟩, a3, a4⟩ := RL_bd hT h0 i (by omega)
  have hw := hT.warm i hi
  have hs := hT.summer i hi
  have hb := year_bd hT h0 hi
  have hf := hT.few
  have w1 : IntKind.wrap .i64 (t.2.1.getD i 0 + t.2.2.1.getD i 0) = hea t i := wr (by omega) (by omega)
  have hh := hea_bd hT hi
  have w2 : IntKind.wrap .i64 ((RL t more i).2 + hea t i) = Lf t more i := wr (by omega) (by omega)
  have w3 : IntKind.wrap .i64 (inn + hea t i) = inn + hea t i := wr (by omega) (by omega)
  unfold g74_ground_followed_summer
  simp only [getD_toNat, inside_lt (show i < t.2.1.length by rw [hT.l1]; exact hi), inside_lt (show i < t.2.2.1.length by rw [hT.l2]; exact hi), cond_true, w1, w2, w3]
  rw [show (if Lf t more i > (RL t more i).1 then Lf t more i else (RL t more i).1) = Rs t more i from rfl]
  rw [g86 (ls := p.1) (ms := t.1) hL rfl rfl (by omega) (by omega)]
  simp only [Option.bind_some]
  rw [lim_ok (by simp; omega)]
  rfl
theorem g75 (hT : Tru t n) (h0 : 0 ≤ more) (hm9 : more ≤ 1000000) {i : Nat} (hi : i < n) {depths lefts : List Int} {inn out kept : Int} (hd : lefts.length ≤ 1000) (hin : 0 ≤ out) (hin9 : out ≤ 1000000000) :
    g75_ground_followed_winter (p, (t, (more, ((i : Int), (Rs t more i, (Lf t more i, (depths, (lefts, ((inn, (out, (kept, ()))), ()))))))))) =
      some ((), ((p, (t, (more, ((i : Int), ((RL t more (i + 1)).1, ((RL t more (i + 1)).2, (depths, (lefts ++ [(RL t more (i + 1)).2], ((inn, (out + Ou t more i, ((RL t more (i + 1)).2, ()))), ()))))))))), ())) := by
  have hw := hT.winter i hi
  have hs := hT.snow i hi
  have hb := year_bd hT h0 hi
  have hg := goe_mul hT hi
  have hg2 := goe_bd hT hi
  have w1 : IntKind.wrap .i64 ((1000 : Int) - t.2.2.2.2.1.getD i 0) = 1000 - t.2.2.2.2.1.getD i 0 := wr (by omega) (by omega)
  have w2 : IntKind.wrap .i64 (t.2.2.2.1.getD i 0 * (1000 - t.2.2.2.2.1.getD i 0)) = t.2.2.2.1.getD i 0 * (1000 - t.2.2.2.2.1.getD i 0) := wr (by omega) (by omega)
  have w3 : IntKind.wrap .i64 (Int.tdiv (t.2.2.2.1.getD i 0 * (1000 - t.2.2.2.2.1.getD i 0)) 1000) = goe t i := by
    rw [tdiv_eq hg.1]
    exact wr (by unfold goe at hg2; omega) (by unfold goe at hg2; omega)
  have w4 : IntKind.wrap .i64 (more + goe t i) = goe t i + more := by rw [wr (by omega) (by omega)]; omega
  have w5 : IntKind.wrap .i64 (Lf t more i - Ou t more i) = Lf t more i - Ou t more i := wr (by omega) (by omega)
  have w6 : IntKind.wrap .i64 (out + Ou t more i) = out + Ou t more i := wr (by omega) (by omega)
  unfold g75_ground_followed_winter
  simp only [getD_toNat, inside_lt (show i < t.2.2.2.1.length by rw [hT.l3]; exact hi), inside_lt (show i < t.2.2.2.2.1.length by rw [hT.l4]; exact hi), cond_true, w1, w2, w3, w4]
  rw [show (if goe t i + more < Lf t more i then goe t i + more else Lf t more i) = Ou t more i from rfl]
  simp only [w5, w6]
  rw [lim_ok (by simp; omega), RL_succ]
  by_cases h : Lf t more i - Ou t more i = 0
  · rw [show (Lf t more i - Ou t more i == 0) = true from by simpa using h]
    simp only [h, cond_true, if_true]
  · rw [show (Lf t more i - Ou t more i == 0) = false from by simpa using h]
    simp only [h, cond_false, if_false]
    rfl

/-- The depths of thaw, and the heat left, of so many years. -/
def Ds (p : E25) (t : E29) (more : Int) (n : Nat) : List Int := (List.range n).map fun j => dep p.1 t.1 p.1.length 0 (Rs t more j)
def Ls (t : E29) (more : Int) (n : Nat) : List Int := (List.range n).map fun j => (RL t more (j + 1)).2
theorem Ds_succ (p : E25) (t : E29) (more : Int) (n : Nat) : Ds p t more (n + 1) = Ds p t more n ++ [dep p.1 t.1 p.1.length 0 (Rs t more n)] := by simp [Ds, List.range_succ]
theorem Ls_succ (t : E29) (more : Int) (n : Nat) : Ls t more (n + 1) = Ls t more n ++ [(RL t more (n + 1)).2] := by simp [Ls, List.range_succ]
theorem Ds_len (p : E25) (t : E29) (more : Int) (n : Nat) : (Ds p t more n).length = n := by simp [Ds]
theorem Ls_len (t : E29) (more : Int) (n : Nat) : (Ls t more n).length = n := by simp [Ls]
/-- What is followed, behind so many years. -/
def FB (p : E25) (t : E29) (more : Int) (y : Int) (i : Nat) : E90 := (p, (t, (more, (y, ((RL t more i).1, ((RL t more i).2, (Ds p t more i, (Ls t more i, ((Ins t i, (Outs t more i, ((RL t more i).2, ()))), ())))))))))

theorem run1 (hT : Tru t n) (hL : Lay p.1 t.1) (h0 : 0 ≤ more) (hm9 : more ≤ 1000000) {i : Nat} (hi : i < n) {m : Int} : ∃ q, g52_ground_followed_run_l1_run ((m, ((i : Int), (((), ((), ())), (0, ())))), (FB p t more (i : Int) i, ())) = some (0, q) ∧ q.1.1 = m ∧ q.1.2.1 = (i : Int) ∧ q.2.1 = FB p t more (i : Int) (i + 1) := by
  have hf := hT.few
  obtain ⟨⟨b1, b2⟩, b3, b4⟩ := sums_bd hT h0 i (by omega)
  have hh := hea_bd hT hi
  unfold g52_ground_followed_run_l1_run
  rw [show g52_ground_followed_run_l1_fuel ((m, ((i : Int), (((), ((), ())), (0, ())))), (FB p t more (i : Int) i, ())) = 1 + 1 + 1 from rfl]
  have s1 : g52_ground_followed_run_l1_step ((m, ((i : Int), (((), ((), ())), (0, ())))), (FB p t more (i : Int) i, ())) = some (0, ((m, ((i : Int), (((), ((), ())), (1, ())))), ((p, (t, (more, ((i : Int), (Rs t more i, (Lf t more i, (Ds p t more i ++ [dep p.1 t.1 p.1.length 0 (Rs t more i)], (Ls t more i, ((Ins t i + hea t i, (Outs t more i, ((RL t more i).2, ()))), ()))))))))), ()))) := by
    have := g74 (p := p) (depths := Ds p t more i) (lefts := Ls t more i) (inn := Ins t i) (out := Outs t more i) (kept := (RL t more i).2) hT hL h0 hm9 hi (by rw [Ds_len]; omega) b1 (by omega)
    unfold g52_ground_followed_run_l1_step
    simp only [FB, show decide ((0 : Int) < 2) = true from rfl, show decide ((0 : Int) = 0) = true from rfl, cond_true, this, Option.bind_some]
    rfl
  have s2 : g52_ground_followed_run_l1_step ((m, ((i : Int), (((), ((), ())), (1, ())))), ((p, (t, (more, ((i : Int), (Rs t more i, (Lf t more i, (Ds p t more i ++ [dep p.1 t.1 p.1.length 0 (Rs t more i)], (Ls t more i, ((Ins t i + hea t i, (Outs t more i, ((RL t more i).2, ()))), ()))))))))), ())) = some (0, ((m, ((i : Int), (((), ((), ())), (2, ())))), (FB p t more (i : Int) (i + 1), ()))) := by
    have := g75 (p := p) (depths := Ds p t more i ++ [dep p.1 t.1 p.1.length 0 (Rs t more i)]) (lefts := Ls t more i) (inn := Ins t i + hea t i) (out := Outs t more i) (kept := (RL t more i).2) hT h0 hm9 hi (by rw [Ls_len]; omega) b3 (by omega)
    unfold g52_ground_followed_run_l1_step
    simp only [show decide ((1 : Int) < 2) = true from rfl, show decide ((1 : Int) = 0) = false from rfl, show decide ((1 : Int) = 1) = true from rfl, cond_true, cond_false, this, Option.bind_some]
    unfold FB
    rw [Ds_succ, Ls_succ]
    rfl
  have s3 : g52_ground_followed_run_l1_step ((m, ((i : Int), (((), ((), ())), (2, ())))), (FB p t more (i : Int) (i + 1), ())) = some (1, ((m, ((i : Int), (((), ((), ())), (2, ())))), (FB p t more (i : Int) (i + 1), ()))) := by
    unfold g52_ground_followed_run_l1_step
    simp only [show decide ((2 : Int) < 2) = false from rfl, cond_false]
  rw [iter_one s1, iter_one s2, iter_out s3]
  exact ⟨_, rfl, rfl, rfl, rfl⟩

theorem g52 (hT : Tru t n) (hL : Lay p.1 t.1) (h0 : 0 ≤ more) (hm9 : more ≤ 1000000) : ∃ y u, g52_ground_followed_run (p, (t, (more, (0, (0, (0, ([], ([], ((0, (0, (0, ()))), ()))))))))) = some (u, (FB p t more y n, ())) := by
  have hf := hT.few
  unfold g52_ground_followed_run g52_ground_followed_run_l0_run
  obtain ⟨q, q1, q2, y, q3⟩ := iter_all (step := g52_ground_followed_run_l0_step) (n := n) (k := 0) (fun i s => s.1.1 = (n : Int) ∧ s.1.2.1 = (i : Int) ∧ ∃ y, s.2.1 = FB p t more y i) (fun s => s.1.1 = (n : Int) ∧ ∃ y, s.2.1 = FB p t more y n)
    (fun i s h hi => by
      obtain ⟨e1, e2, y, e3⟩ := h
      obtain ⟨q, q1, q2, q3, q4⟩ := run1 (p := p) (m := (n : Int)) hT hL h0 hm9 hi
      have st : g52_ground_followed_run_l0_step s = some (0, ((q.1.1, ((IntKind.wrap .i64 (q.1.2.1 + 1)), ())), (q.2.1, ()))) := by
        unfold g52_ground_followed_run_l0_step
        simp only [e1, e2, e3, show decide ((i : Int) < (n : Int)) = true from by simp; omega, cond_true]
        exact Eq.trans (congrArg (fun z => Option.bind z _) q1) rfl
      refine ⟨_, st, q2, ?_, (i : Int), q4⟩
      rw [q3]
      exact wr (by omega) (by omega))
    (fun s h => by
      obtain ⟨e1, e2, y, e3⟩ := h
      have st : g52_ground_followed_run_l0_step s = some (1, s) := by
        unfold g52_ground_followed_run_l0_step
        simp only [e1, e2, show decide ((n : Int) < (n : Int)) = false from by simp, cond_false]
        obtain ⟨⟨s1, s2, s3⟩, s4, s5⟩ := s
        simp only at e1 e2
        subst e1 e2
        rfl
      exact ⟨_, st, e1, y, e3⟩)
    (g52_ground_followed_run_l0_fuel (((n : Int), (0, ())), (FB p t more 0 0, ()))) (((n : Int), (0, ())), (FB p t more 0 0, ())) (by simp [g52_ground_followed_run_l0_fuel]) ⟨rfl, rfl, 0, rfl⟩
  refine ⟨y, (), ?_⟩
  have e : (((List.length t.2.2.1 : Int), (0, ())), (FB p t more 0 0, ())) = ((((n : Int), (0, ())), (FB p t more 0 0, ())) : (Int × (Int × Unit)) × (E90 × Unit)) := by rw [hT.l2]
  have q1' : iter g52_ground_followed_run_l0_step (g52_ground_followed_run_l0_fuel (((List.length t.2.2.1 : Int), (0, ())), (FB p t more 0 0, ()))) (((List.length t.2.2.1 : Int), (0, ())), (FB p t more 0 0, ())) = some (0, q) := by rw [e]; exact q1
  refine Eq.trans (congrArg (fun z => Option.bind z _) q1') ?_
  rw [← q3]
  rfl

/-! ### The reference's -/
theorem g54 (hT : Tru t n) (h0 : 0 ≤ more) {i : Nat} (hi : i < n) : g54_talikref01_Summer ((RL t more i).1, ((RL t more i).2, ())) (hea t i) = some (Rs t more i, (Lf t more i, ())) := by
  have hb := year_bd hT h0 hi
  have w2 : IntKind.wrap .i64 ((RL t more i).2 + hea t i) = Lf t more i := wr (by unfold Lf at hb; omega) (by unfold Lf at hb; omega)
  unfold g54_talikref01_Summer
  simp only [w2]
  rfl
theorem g56 (hT : Tru t n) (h0 : 0 ≤ more) {i : Nat} (hi : i < n) : g56_talikref01_Winter (Rs t more i, (Lf t more i, ())) (goe t i + more) = some ((RL t more (i + 1)).1, ((RL t more (i + 1)).2, ())) := by
  have hb := year_bd hT h0 hi
  have w5 : IntKind.wrap .i64 (Lf t more i - Ou t more i) = Lf t more i - Ou t more i := wr (by omega) (by omega)
  unfold g56_talikref01_Winter
  simp only
  rw [show (if goe t i + more < Lf t more i then goe t i + more else Lf t more i) = Ou t more i from rfl]
  simp only [w5]
  rw [RL_succ]
  by_cases h : Lf t more i - Ou t more i = 0
  · rw [show (Lf t more i - Ou t more i == 0) = true from by simpa using h]
    simp only [h, cond_true, if_true]
  · rw [show (Lf t more i - Ou t more i == 0) = false from by simpa using h]
    simp only [h, cond_false, if_false]
theorem g24 (hT : Tru t n) {i : Nat} (hi : i < n) : g24_talikref01_Goes (t.2.2.2.1.getD i 0) (t.2.2.2.2.1.getD i 0) = some (goe t i) := by
  have hw := hT.winter i hi
  have hs := hT.snow i hi
  have hg := goe_mul hT hi
  have hg2 := goe_bd hT hi
  have w1 : IntKind.wrap .i64 ((1000 : Int) - t.2.2.2.2.1.getD i 0) = 1000 - t.2.2.2.2.1.getD i 0 := wr (by omega) (by omega)
  have w2 : IntKind.wrap .i64 (t.2.2.2.1.getD i 0 * (1000 - t.2.2.2.2.1.getD i 0)) = t.2.2.2.1.getD i 0 * (1000 - t.2.2.2.2.1.getD i 0) := wr (by omega) (by omega)
  have w3 : IntKind.wrap .i64 (Int.tdiv (t.2.2.2.1.getD i 0 * (1000 - t.2.2.2.2.1.getD i 0)) 1000) = goe t i := by
    rw [tdiv_eq hg.1]
    exact wr (by unfold goe at hg2; omega) (by unfold goe at hg2; omega)
  unfold g24_talikref01_Goes
  simp only [w1, w2, w3]

/-- What the reference tells of so many years. -/
def Fo (p : E25) (t : E29) (more : Int) (n : Nat) : List E23 := (List.range n).map fun j => (dep p.1 t.1 p.1.length 0 (Rs t more j), ((RL t more (j + 1)).2, ()))
theorem Fo_succ (p : E25) (t : E29) (more : Int) (n : Nat) : Fo p t more (n + 1) = Fo p t more n ++ [(dep p.1 t.1 p.1.length 0 (Rs t more n), ((RL t more (n + 1)).2, ()))] := by simp [Fo, List.range_succ]
theorem Fo_len (p : E25) (t : E29) (more : Int) (n : Nat) : (Fo p t more n).length = n := by simp [Fo]

theorem g19 (hT : Tru t n) (hL : Lay p.1 t.1) (h0 : 0 ≤ more) (hm9 : more ≤ 1000000) : g19_talikref01_Follow p t more = some (Fo p t more n) := by
  have hf := hT.few
  unfold g19_talikref01_Follow g19_talikref01_Follow_l0_run
  obtain ⟨q, q1, q2⟩ := iter_all (step := g19_talikref01_Follow_l0_step) (n := n) (k := 0) (fun i s => s.1.1 = more ∧ s.1.2.1 = Fo p t more i ∧ s.1.2.2.1 = (i : Int) ∧ s.2.1 = p ∧ s.2.2.1 = t ∧ s.2.2.2.1 = ((RL t more i).1, ((RL t more i).2, ()))) (fun s => s.1.2.1 = Fo p t more n)
    (fun i s h hi => by
      obtain ⟨e1, e2, e3, e4, e5, e6⟩ := h
      have hw := hT.warm i hi
      have hs := hT.summer i hi
      have hb := year_bd hT h0 hi
      have hg2 := goe_bd hT hi
      have w1 : IntKind.wrap .i64 (t.2.1.getD i 0 + t.2.2.1.getD i 0) = hea t i := wr (by omega) (by omega)
      have w2 : IntKind.wrap .i64 (goe t i + more) = goe t i + more := wr (by omega) (by omega)
      have st : g19_talikref01_Follow_l0_step s = some (0, ((more, (Fo p t more (i + 1), ((IntKind.wrap .i64 ((i : Int) + 1)), ()))), (p, (t, (((RL t more (i + 1)).1, ((RL t more (i + 1)).2, ())), ()))))) := by
        unfold g19_talikref01_Follow_l0_step
        simp only [e1, e2, e3, e4, e5, e6, getD_toNat, inside_lt (show i < t.2.1.length by rw [hT.l1]; exact hi), inside_lt (show i < t.2.2.1.length by rw [hT.l2]; exact hi), inside_lt (show i < t.2.2.2.1.length by rw [hT.l3]; exact hi), inside_lt (show i < t.2.2.2.2.1.length by rw [hT.l4]; exact hi), hT.l2, show decide ((i : Int) < (n : Int)) = true from by simp; omega, cond_true, w1, g54 hT h0 hi, Option.bind_some, g55 hL rfl (show 0 ≤ Rs t more i by omega) (by omega), g24 hT hi, w2, g56 hT h0 hi]
        rw [show decide (0 ≤ (i : Int)) = true from by simp, lim_ok (by simp [Fo_len]; omega), Fo_succ]
        rfl
      exact ⟨_, st, rfl, rfl, wr (by omega) (by omega), rfl, rfl, rfl⟩)
    (fun s h => by
      obtain ⟨e1, e2, e3, e4, e5, e6⟩ := h
      have st : g19_talikref01_Follow_l0_step s = some (1, ((s.1.1, (s.1.2.1, (s.1.2.2.1, ()))), (s.2.1, (s.2.2.1, ((s.2.2.2.1.1, (s.2.2.2.1.2.1, ())), ()))))) := by
        unfold g19_talikref01_Follow_l0_step
        simp only [e3, e5, hT.l2, show decide ((n : Int) < (n : Int)) = false from by simp, cond_false]
      exact ⟨_, st, e2⟩)
    (g19_talikref01_Follow_l0_fuel ((more, ([], (0, ()))), (p, (t, ((0, (0, ())), ()))))) ((more, ([], (0, ()))), (p, (t, ((0, (0, ())), ())))) (by simp [g19_talikref01_Follow_l0_fuel, hT.l2]) ⟨rfl, rfl, rfl, rfl, rfl, rfl⟩
  rw [q1]
  simp only [Option.bind_some, q2]

theorem g21 (hT : Tru t n) : g21_talikref01_Ledger t = some (Ins t n, (Outs t 0 n, ((RL t 0 n).2, ()))) := by
  have hf := hT.few
  unfold g21_talikref01_Ledger g21_talikref01_Ledger_l0_run
  obtain ⟨q, q1, q2, q3, q4⟩ := iter_all (step := g21_talikref01_Ledger_l0_step) (n := n) (k := 0) (fun i s => s.1.1 = (i : Int) ∧ s.2.1 = t ∧ s.2.2.2.1 = ((RL t 0 i).1, ((RL t 0 i).2, ())) ∧ s.2.2.2.2.1.1 = Ins t i ∧ s.2.2.2.2.1.2.1 = Outs t 0 i) (fun s => s.2.2.2.2.1.1 = Ins t n ∧ s.2.2.2.2.1.2.1 = Outs t 0 n ∧ s.2.2.2.1.2.1 = (RL t 0 n).2)
    (fun i s h hi => by
      obtain ⟨e1, e2, e3, e4, e5⟩ := h
      have hw := hT.warm i hi
      have hs := hT.summer i hi
      have hb := year_bd hT (Int.le_refl 0) hi
      obtain ⟨⟨b1, b2⟩, b3, b4⟩ := sums_bd hT (Int.le_refl 0) i (by omega)
      have hh := hea_bd hT hi
      have w1 : IntKind.wrap .i64 (t.2.1.getD i 0 + t.2.2.1.getD i 0) = hea t i := wr (by omega) (by omega)
      have w2 : IntKind.wrap .i64 (Ins t i + hea t i) = Ins t (i + 1) := wr (by omega) (by omega)
      have hr : (RL t 0 (i + 1)).2 = Lf t 0 i - Ou t 0 i := by rw [RL_succ]
      have w3 : IntKind.wrap .i64 (IntKind.wrap .i64 (Outs t 0 i + Lf t 0 i) - (RL t 0 (i + 1)).2) = Outs t 0 (i + 1) := by
        rw [wr (show -9223372036854775808 ≤ Outs t 0 i + Lf t 0 i by omega) (by omega), hr, wr (by omega) (by omega)]
        show _ = Outs t 0 i + Ou t 0 i
        omega
      have hg56 := g56 hT (Int.le_refl 0) hi
      rw [Int.add_zero] at hg56
      have st : g21_talikref01_Ledger_l0_step s = some (0, (((IntKind.wrap .i64 ((i : Int) + 1)), ()), (t, ((s.2.2.1.1, (s.2.2.1.2.1, (s.2.2.1.2.2.1, ()))), (((RL t 0 (i + 1)).1, ((RL t 0 (i + 1)).2, ())), ((Ins t (i + 1), (Outs t 0 (i + 1), (s.2.2.2.2.1.2.2.1, ()))), ())))))) := by
        unfold g21_talikref01_Ledger_l0_step
        simp only [e1, e2, e3, e4, e5, getD_toNat, inside_lt (show i < t.2.1.length by rw [hT.l1]; exact hi), inside_lt (show i < t.2.2.1.length by rw [hT.l2]; exact hi), inside_lt (show i < t.2.2.2.1.length by rw [hT.l3]; exact hi), inside_lt (show i < t.2.2.2.2.1.length by rw [hT.l4]; exact hi), hT.l2, show decide ((i : Int) < (n : Int)) = true from by simp; omega, cond_true, w1, g54 hT (Int.le_refl 0) hi, Option.bind_some, g24 hT hi, hg56, w2, w3]
        rw [show decide (0 ≤ (i : Int)) = true from by simp]
        rfl
      exact ⟨_, st, wr (by omega) (by omega), rfl, rfl, rfl, rfl⟩)
    (fun s h => by
      obtain ⟨e1, e2, e3, e4, e5⟩ := h
      have st : g21_talikref01_Ledger_l0_step s = some (1, ((s.1.1, ()), (s.2.1, ((s.2.2.1.1, (s.2.2.1.2.1, (s.2.2.1.2.2.1, ()))), ((s.2.2.2.1.1, (s.2.2.2.1.2.1, ())), ((s.2.2.2.2.1.1, (s.2.2.2.2.1.2.1, (s.2.2.2.2.1.2.2.1, ()))), ())))))) := by
        unfold g21_talikref01_Ledger_l0_step
        simp only [e1, e2, hT.l2, show decide ((n : Int) < (n : Int)) = false from by simp, cond_false]
      exact ⟨_, st, e4, e5, by simp only [e3]⟩)
    (g21_talikref01_Ledger_l0_fuel ((0, ()), (t, ((0, (0, (0, ()))), ((0, (0, ())), ((0, (0, (0, ()))), ())))))) ((0, ()), (t, ((0, (0, (0, ()))), ((0, (0, ())), ((0, (0, (0, ()))), ()))))) (by simp [g21_talikref01_Ledger_l0_fuel, hT.l2]) ⟨rfl, rfl, rfl, rfl, rfl⟩
  rw [q1]
  simp only [Option.bind_some, q2, q3, q4]

theorem g20_same {a : List Int} (ha : a.length ≤ 1000) : g20_talikref01_Same a a = some true := by
  unfold g20_talikref01_Same g20_talikref01_Same_l0_run
  rw [show ((List.length a : Int) != (List.length a : Int)) = false from by simp]
  simp only [cond_false]
  obtain ⟨q, q1, _⟩ := iter_all (step := g20_talikref01_Same_l0_step) (n := a.length) (k := 1) (fun i s => s.1.1 = a ∧ s.1.2.1 = a ∧ s.1.2.2.2.1 = (i : Int)) (fun s => True)
    (fun i s h hi => by
      obtain ⟨e1, e2, e3⟩ := h
      have st : g20_talikref01_Same_l0_step s = some (0, ((a, (a, (s.1.2.2.1, ((IntKind.wrap .i64 ((i : Int) + 1)), ())))), ())) := by
        unfold g20_talikref01_Same_l0_step
        simp only [e1, e2, e3, getD_toNat, inside_lt hi, show decide ((i : Int) < (a.length : Int)) = true from by simp; omega, cond_true]
        rw [show (List.getD a i 0 != List.getD a i 0) = false from by simp]
        rfl
      exact ⟨_, st, rfl, rfl, wr (by omega) (by omega)⟩)
    (fun s h => by
      obtain ⟨e1, e2, e3⟩ := h
      have st : g20_talikref01_Same_l0_step s = some (2, ((s.1.1, (s.1.2.1, (s.1.2.2.1, (s.1.2.2.2.1, ())))), ())) := by
        unfold g20_talikref01_Same_l0_step
        simp only [e1, e3, show decide ((a.length : Int) < (a.length : Int)) = false from by simp, cond_false]
      exact ⟨_, st, trivial⟩)
    (g20_talikref01_Same_l0_fuel ((a, (a, (false, (0, ())))), ())) ((a, (a, (false, (0, ())))), ()) (by simp [g20_talikref01_Same_l0_fuel]) ⟨rfl, rfl, rfl⟩
  rw [q1]
  rfl
end
end Go.Proofs.YtbidmbjkjpdgdaaDoor.Abs

/-
  Plain laws of the ground layer, fifth part: what is played.
-/
set_option linter.unusedVariables false
set_option linter.unusedSimpArgs false
set_option maxRecDepth 100000
namespace Go.Proofs.YtbidmbjkjpdgdaaDoor.Abs

theorem errOf_false (p : E25) (l : List E72) : errOf p l false = bif decide ((l.length : Int) > 12) then 3 else 2 := by
  unfold errOf
  cases decide ((l.length : Int) > 12) <;> rfl
theorem errOf_false_ne (p : E25) (l : List E72) : (errOf p l false != 0) = true := by
  rw [errOf_false]
  cases decide ((l.length : Int) > 12) <;> rfl
theorem errOf_zero {p : E25} {l : List E72} {b : Bool} (h : errOf p l b = 0) : l.length ≤ 12 ∧ b = true ∧ okPl p = true ∧ l.all okY = true := by
  unfold errOf at h
  cases hd : decide ((l.length : Int) > 12) with
  | true => rw [hd] at h; simp at h
  | false =>
    rw [hd] at h
    simp only [cond_false] at h
    cases b <;> cases h1 : okPl p <;> cases h2 : l.all okY <;> rw [h1, h2] at h <;> simp at h
    refine ⟨?_, rfl, rfl, rfl⟩
    have := of_decide_eq_false hd
    omega
theorem spB_spec {s : E23} {lo hi : Int} (h : spB s lo hi = true) : lo ≤ s.1 ∧ s.1 ≤ s.2.1 ∧ s.2.1 ≤ hi := by
  unfold spB at h
  simp only [Bool.and_eq_true, decide_eq_true_eq] at h
  exact ⟨h.1.1, h.1.2, h.2⟩
theorem inB_spec {x lo hi : Int} : inB x lo hi = true ↔ lo ≤ x ∧ x ≤ hi := by
  unfold inB
  simp
theorem insI_spec {a : List Int} {n : Nat} {f : Nat → E23} (h : insI a n f = true) : a.length = n ∧ ∀ i, i < n → (f i).1 ≤ a.getD i 0 ∧ a.getD i 0 ≤ (f i).2.1 := by
  unfold insI at h
  simp only [Bool.and_eq_true, decide_eq_true_eq] at h
  exact ⟨h.1, fun i hi => inB_spec.1 (range_all.1 h.2 i hi)⟩
theorem okL_spec {p : E25} (h : okPl p = true) {i : Nat} (hi : i < p.1.length) : (1 ≤ (p.1.getD i dL).1 ∧ (p.1.getD i dL).1 ≤ 20000) ∧ 1 ≤ (p.1.getD i dL).2.1.1 ∧ (p.1.getD i dL).2.1.1 ≤ (p.1.getD i dL).2.1.2.1 ∧ (p.1.getD i dL).2.1.2.1 ≤ 1000 := by
  unfold okPl at h
  simp only [Bool.and_eq_true] at h
  have := (all_of_get (d := dL)).1 h.2 i hi
  unfold okL at this
  simp only [Bool.and_eq_true] at this
  exact ⟨inB_spec.1 this.1, spB_spec this.2⟩
theorem okPl_len {p : E25} (h : okPl p = true) : 1 ≤ p.1.length ∧ p.1.length ≤ 6 := by
  unfold okPl at h
  simp only [Bool.and_eq_true] at h
  have := inB_spec.1 h.1.1
  omega
theorem okPl_warm {p : E25} (h : okPl p = true) : 0 ≤ p.2.1.1 ∧ p.2.1.1 ≤ p.2.1.2.1 ∧ p.2.1.2.1 ≤ 1000000 := by
  unfold okPl at h
  simp only [Bool.and_eq_true] at h
  exact spB_spec h.1.2
theorem okY_spec {l : List E72} (h : l.all okY = true) {i : Nat} (hi : i < l.length) : (0 ≤ (l.getD i dY).1.1 ∧ (l.getD i dY).1.1 ≤ (l.getD i dY).1.2.1 ∧ (l.getD i dY).1.2.1 ≤ 1000000) ∧ (0 ≤ (l.getD i dY).2.1.1 ∧ (l.getD i dY).2.1.1 ≤ (l.getD i dY).2.1.2.1 ∧ (l.getD i dY).2.1.2.1 ≤ 1000000) ∧ 0 ≤ (l.getD i dY).2.2.1.1 ∧ (l.getD i dY).2.2.1.1 ≤ (l.getD i dY).2.2.1.2.1 ∧ (l.getD i dY).2.2.1.2.1 ≤ 1000 := by
  have := (all_of_get (d := dY)).1 h i hi
  unfold okY at this
  simp only [Bool.and_eq_true] at this
  exact ⟨spB_spec this.1.1, spB_spec this.1.2, spB_spec this.2⟩

theorem lay_of {p : E25} {ms : List Int} (h : okPl p = true) (hm : insI ms p.1.length (fun i => (p.1.getD i dL).2.1) = true) : Lay p.1 ms := by
  obtain ⟨h1, h2⟩ := insI_spec hm
  have hl := okPl_len h
  refine ⟨h1, hl.1, hl.2, fun i hi => (okL_spec h hi).1, fun i hi => ?_⟩
  have h3 := (okL_spec h hi).2
  have h4 := h2 i hi
  omega
theorem tru_of {p : E25} {l : List E72} {t : E29} (hl : l.length ≤ 12) (hp : okPl p = true) (hy : l.all okY = true) (ht : truB p l t = true) : Tru t l.length ∧ Lay p.1 t.1 := by
  unfold truB at ht
  simp only [Bool.and_eq_true] at ht
  obtain ⟨⟨⟨⟨t0, t1⟩, t2⟩, t3⟩, t4⟩ := ht
  obtain ⟨a1, b1⟩ := insI_spec t1
  obtain ⟨a2, b2⟩ := insI_spec t2
  obtain ⟨a3, b3⟩ := insI_spec t3
  obtain ⟨a4, b4⟩ := insI_spec t4
  have hw := okPl_warm hp
  refine ⟨⟨hl, a1, a2, a3, a4, fun i hi => ?_, fun i hi => ?_, fun i hi => ?_, fun i hi => ?_⟩, lay_of hp t0⟩
  · have := b1 i hi; omega
  · have := b2 i hi; have := (okY_spec hy hi).1; omega
  · have := b3 i hi; have := (okY_spec hy hi).2.1; omega
  · have := b4 i hi; have := (okY_spec hy hi).2.2; omega

theorem g16_eq {p : E25} {l : List E72} {t : E29} (hp : p.1.length < 2 ^ 40) (hl : l.length < 2 ^ 40) (h1 : t.1.length < 2 ^ 40) (h2 : t.2.1.length < 2 ^ 40) (h3 : t.2.2.1.length < 2 ^ 40) (h4 : t.2.2.2.1.length < 2 ^ 40) (h5 : t.2.2.2.2.1.length < 2 ^ 40) :
    g16_ground_Play p l t = bif errOf p l (truB p l t) != 0 then some ([], ((0, (0, (0, ()))), (errOf p l (truB p l t), ()))) else Option.bind (g52_ground_followed_run (p, (t, (0, (0, (0, (0, ([], ([], ((0, (0, (0, ()))), ())))))))))) fun r => some (r.2.1.2.2.2.2.2.2.1, ((r.2.1.2.2.2.2.2.2.2.2.1.1, (r.2.1.2.2.2.2.2.2.2.2.1.2.1, (r.2.1.2.2.2.2.2.2.2.2.1.2.2.1, ()))), (0, ()))) := by
  unfold g16_ground_Play truB
  rw [s_g44_ground_inside t.1 p.1 h1, s_g46_ground_inside t.2.1 l p h2, s_g46_ground_inside_v1 t.2.2.1 l h3, s_g46_ground_inside_v2 t.2.2.2.1 l h4, s_g46_ground_inside_v3 t.2.2.2.2.1 l h5]
  simp only [Option.bind_some, g51 p l _ hp hl]
  have hne := errOf_false_ne p l
  cases insI t.1 p.1.length (fun i => (p.1.getD i dL).2.1) <;> cases insI t.2.1 l.length (fun i => p.2.1) <;> cases insI t.2.2.1 l.length (fun i => (l.getD i dY).1) <;> cases insI t.2.2.2.1 l.length (fun i => (l.getD i dY).2.1) <;> cases insI t.2.2.2.2.1 l.length (fun i => (l.getD i dY).2.2.1) <;> simp only [cond_true, cond_false, Bool.and_true, Bool.and_false, Bool.true_and, Bool.false_and, hne] <;> rfl
theorem g16_bad {p : E25} {l : List E72} {t : E29} (hp : p.1.length < 2 ^ 40) (hl : l.length < 2 ^ 40) (h1 : t.1.length < 2 ^ 40) (h2 : t.2.1.length < 2 ^ 40) (h3 : t.2.2.1.length < 2 ^ 40) (h4 : t.2.2.2.1.length < 2 ^ 40) (h5 : t.2.2.2.2.1.length < 2 ^ 40) (he : errOf p l (truB p l t) ≠ 0) :
    g16_ground_Play p l t = some ([], ((0, (0, (0, ()))), (errOf p l (truB p l t), ()))) := by
  rw [g16_eq hp hl h1 h2 h3 h4 h5, show (errOf p l (truB p l t) != 0) = true from by simpa using he]
  rfl
theorem g16_ok {p : E25} {l : List E72} {t : E29} (hl : l.length ≤ 12) (hp : okPl p = true) (hy : l.all okY = true) (ht : truB p l t = true) :
    g16_ground_Play p l t = some (Ds p t 0 l.length, ((Ins t l.length, (Outs t 0 l.length, ((RL t 0 l.length).2, ()))), (0, ()))) := by
  obtain ⟨hT, hL⟩ := tru_of hl hp hy ht
  have hpl := okPl_len hp
  have hms := hL.len
  rw [g16_eq (by omega) (by omega) (by omega) (by rw [hT.l1]; omega) (by rw [hT.l2]; omega) (by rw [hT.l3]; omega) (by rw [hT.l4]; omega)]
  have he : errOf p l (truB p l t) = 0 := by
    unfold errOf
    rw [ht, hp, hy, show decide ((l.length : Int) > 12) = false from by simp; omega]
    rfl
  rw [he]
  obtain ⟨y, u, h⟩ := g52 hT hL (Int.le_refl 0) (by omega)
  rw [show ((0 : Int) != 0) = false from rfl]
  simp only [cond_false, h, Option.bind_some]
  rfl

theorem g13 (p : E25) (l : List E72) : g13_taliklaw01_short p l = some (decide (p.1.length ≤ 12) && decide (l.length ≤ 17)) := by
  unfold g13_taliklaw01_short
  by_cases h : p.1.length ≤ 12
  · rw [show decide ((List.length p.1 : Int) ≤ 12) = true from by simp; omega, show decide (p.1.length ≤ 12) = true from by simpa using h]
    simp only [cond_true, Bool.true_and]
    congr 1
    rw [decide_eq_decide]; omega
  · rw [show decide ((List.length p.1 : Int) ≤ 12) = false from by simp; omega, show decide (p.1.length ≤ 12) = false from by simpa using h]
    rfl
theorem g14 (t : E29) : g14_taliklaw01_sized t = some (decide (t.1.length ≤ 12) && decide (t.2.1.length ≤ 20) && decide (t.2.2.1.length ≤ 20) && decide (t.2.2.2.1.length ≤ 20) && decide (t.2.2.2.2.1.length ≤ 20)) := by
  unfold g14_taliklaw01_sized
  have e : ∀ {a b : Nat}, decide ((a : Int) ≤ (b : Int)) = decide (a ≤ b) := fun {a b} => by rw [decide_eq_decide]; omega
  have e1 := @e t.1.length 12
  have e2 := @e t.2.1.length 20
  have e3 := @e t.2.2.1.length 20
  have e4 := @e t.2.2.2.1.length 20
  have e5 := @e t.2.2.2.2.1.length 20
  rw [show decide ((List.length t.1 : Int) ≤ 12) = _ from e1, show decide ((List.length t.2.1 : Int) ≤ 20) = _ from e2, show decide ((List.length t.2.2.1 : Int) ≤ 20) = _ from e3, show decide ((List.length t.2.2.2.1 : Int) ≤ 20) = _ from e4, show decide ((List.length t.2.2.2.2.1 : Int) ≤ 20) = _ from e5]
  cases decide (t.1.length ≤ 12) <;> cases decide (t.2.1.length ≤ 20) <;> cases decide (t.2.2.1.length ≤ 20) <;> cases decide (t.2.2.2.1.length ≤ 20) <;> rfl
/-- Another error than none does not depend on what else is asked. -/
theorem errOf_any {p : E25} {l : List E72} {b : Bool} (h : errOf p l true ≠ 0) : errOf p l b = errOf p l true := by
  unfold errOf at h ⊢
  generalize decide ((l.length : Int) > 12) = a at h ⊢
  generalize okPl p = c at h ⊢
  generalize l.all okY = d at h ⊢
  cases a <;> cases c <;> cases d <;> cases b <;> first | rfl | exact absurd rfl h
theorem map_range_getD {α : Type} {f : Nat → α} {n i : Nat} {d : α} (hi : i < n) : ((List.range n).map f).getD i d = f i := by
  simp [List.getD_eq_getElem?_getD, List.getElem?_map, List.getElem?_range hi]
end Go.Proofs.YtbidmbjkjpdgdaaDoor.Abs

/-
  Plain laws of the ground layer, sixth part: both ends of what is known of a place and years.
-/
set_option linter.unusedVariables false
set_option linter.unusedSimpArgs false
set_option maxRecDepth 100000
namespace Go.Proofs.YtbidmbjkjpdgdaaDoor.Abs

/-- The truth in which the ground is as warm, or as cold, as it can be. -/
def eM (w : Bool) (x : E70) : Int := bif w then x.2.1.1 else x.2.1.2.1
def eW (w : Bool) (p : E25) : Int := bif w then p.2.1.2.1 else p.2.1.1
def eS (w : Bool) (y : E72) : Int := bif w then y.1.2.1 else y.1.1
def eI (w : Bool) (y : E72) : Int := bif w then y.2.1.1 else y.2.1.2.1
def eN (w : Bool) (y : E72) : Int := bif w then y.2.2.1.2.1 else y.2.2.1.1
def eT (w : Bool) (p : E25) (l : List E72) : E29 := (p.1.map (eM w), (l.map (fun _ => eW w p), (l.map (eS w), (l.map (eI w), (l.map (eN w), ())))))

theorem take_map {α : Type} {l : List α} {f : α → Int} {i : Nat} {d : α} (hi : i < l.length) : (l.take i).map f ++ [f (l.getD i d)] = (l.take (i + 1)).map f := by
  rw [List.take_add_one, List.map_append, List.getD_eq_getElem?_getD, List.getElem?_eq_getElem hi]
  rfl
theorem map_getD {α : Type} {l : List α} {f : α → Int} {i : Nat} {d : α} (hi : i < l.length) : (l.map f).getD i 0 = f (l.getD i d) := by
  simp [List.getD_eq_getElem?_getD, List.getElem?_map, List.getElem?_eq_getElem hi]

theorem s_g87_ground_ends (l : List E70) (hl : l.length ≤ 1000) : g87_ground_ends l = some (l.map (eM false), ()) := by
  have hc : ∀ x, g88_ground_end_1 x = some ((eM false) x, ()) := fun _ => rfl
  unfold g87_ground_ends g87_ground_ends_l0_run
  obtain ⟨q, q1, q2⟩ := iter_all (step := g87_ground_ends_l0_step) (n := l.length) (k := 0) (fun i s => s.1.1 = (l.take i).map (eM false) ∧ s.1.2.1 = l ∧ s.1.2.2.1 = (l.length : Int) ∧ s.1.2.2.2.1 = (i : Int)) (fun s => s.1.1 = l.map (eM false))
    (fun i s h hi => by
      obtain ⟨h1, h2, h3, h4⟩ := h
      have st : g87_ground_ends_l0_step s = some (0, (((((l.take (i + 1)).map (eM false))), (l, ((l.length : Int), ((IntKind.wrap .i64 ((i : Int) + 1)), ())))), ())) := by
        unfold g87_ground_ends_l0_step
        rw [← take_map (f := eM false) (d := dL) hi]
        simp only [h1, h2, h3, h4, hc, getD_toNat, inside_lt hi, show decide ((i : Int) < (l.length : Int)) = true from by simp; omega, cond_true, Option.bind_some]
        rw [lim_ok (by simp; omega)]
        rfl
      exact ⟨_, st, rfl, rfl, rfl, wr (by omega) (by omega)⟩)
    (fun s h => by
      obtain ⟨h1, h2, h3, h4⟩ := h
      have st : g87_ground_ends_l0_step s = some (1, ((s.1.1, (s.1.2.1, (s.1.2.2.1, (s.1.2.2.2.1, ())))), ())) := by
        unfold g87_ground_ends_l0_step
        simp only [h3, h4, show decide ((l.length : Int) < (l.length : Int)) = false from by simp, cond_false]
      exact ⟨_, st, by rw [h1, List.take_length]⟩)
    (g87_ground_ends_l0_fuel (([], (l, ((List.length l : Int), (0, ())))), ())) (([], (l, ((List.length l : Int), (0, ())))), ()) (by simp [g87_ground_ends_l0_fuel]) ⟨rfl, rfl, rfl, rfl⟩
  rw [q1]
  simp only [Option.bind_some, q2]

theorem s_g89_ground_ends (l : List E72) (p : E25) (hl : l.length ≤ 1000) : g89_ground_ends l p = some (l.map (fun _ => eW false p), (p, ())) := by
  have hc : ∀ x, g90_ground_end_2 x p = some ((fun _ => eW false p) x, (p, ())) := fun _ => rfl
  unfold g89_ground_ends g89_ground_ends_l0_run
  obtain ⟨q, q1, q2⟩ := iter_all (step := g89_ground_ends_l0_step) (n := l.length) (k := 0) (fun i s => s.1.1 = (l.take i).map (fun _ => eW false p) ∧ s.1.2.1 = l ∧ s.1.2.2.1 = (l.length : Int) ∧ s.1.2.2.2.1 = (i : Int) ∧ s.2.1 = p) (fun s => s.1.1 = l.map (fun _ => eW false p) ∧ s.2.1 = p)
    (fun i s h hi => by
      obtain ⟨h1, h2, h3, h4, h5⟩ := h
      have st : g89_ground_ends_l0_step s = some (0, (((((l.take (i + 1)).map (fun _ => eW false p))), (l, ((l.length : Int), ((IntKind.wrap .i64 ((i : Int) + 1)), ())))), (p, ()))) := by
        unfold g89_ground_ends_l0_step
        rw [← take_map (f := fun _ => eW false p) (d := dY) hi]
        simp only [h1, h2, h3, h4, h5, hc, getD_toNat, inside_lt hi, show decide ((i : Int) < (l.length : Int)) = true from by simp; omega, cond_true, Option.bind_some]
        rw [lim_ok (by simp; omega)]
        rfl
      exact ⟨_, st, rfl, rfl, rfl, wr (by omega) (by omega), rfl⟩)
    (fun s h => by
      obtain ⟨h1, h2, h3, h4, h5⟩ := h
      have st : g89_ground_ends_l0_step s = some (1, ((s.1.1, (s.1.2.1, (s.1.2.2.1, (s.1.2.2.2.1, ())))), (s.2.1, ()))) := by
        unfold g89_ground_ends_l0_step
        simp only [h3, h4, show decide ((l.length : Int) < (l.length : Int)) = false from by simp, cond_false]
      exact ⟨_, st, by rw [h1, List.take_length], h5⟩)
    (g89_ground_ends_l0_fuel (([], (l, ((List.length l : Int), (0, ())))), (p, ()))) (([], (l, ((List.length l : Int), (0, ())))), (p, ())) (by simp [g89_ground_ends_l0_fuel]) ⟨rfl, rfl, rfl, rfl, rfl⟩
  rw [q1]
  simp only [Option.bind_some, q2.1, q2.2]

theorem s_g89_ground_ends_v1 (l : List E72) (hl : l.length ≤ 1000) : g89_ground_ends_v1 l = some (l.map (eS false), ()) := by
  have hc : ∀ x, g91_ground_end_3 x = some ((eS false) x, ()) := fun _ => rfl
  unfold g89_ground_ends_v1 g89_ground_ends_v1_l0_run
  obtain ⟨q, q1, q2⟩ := iter_all (step := g89_ground_ends_v1_l0_step) (n := l.length) (k := 0) (fun i s => s.1.1 = (l.take i).map (eS false) ∧ s.1.2.1 = l ∧ s.1.2.2.1 = (l.length : Int) ∧ s.1.2.2.2.1 = (i : Int)) (fun s => s.1.1 = l.map (eS false))
    (fun i s h hi => by
      obtain ⟨h1, h2, h3, h4⟩ := h
      have st : g89_ground_ends_v1_l0_step s = some (0, (((((l.take (i + 1)).map (eS false))), (l, ((l.length : Int), ((IntKind.wrap .i64 ((i : Int) + 1)), ())))), ())) := by
        unfold g89_ground_ends_v1_l0_step
        rw [← take_map (f := eS false) (d := dY) hi]
        simp only [h1, h2, h3, h4, hc, getD_toNat, inside_lt hi, show decide ((i : Int) < (l.length : Int)) = true from by simp; omega, cond_true, Option.bind_some]
        rw [lim_ok (by simp; omega)]
        rfl
      exact ⟨_, st, rfl, rfl, rfl, wr (by omega) (by omega)⟩)
    (fun s h => by
      obtain ⟨h1, h2, h3, h4⟩ := h
      have st : g89_ground_ends_v1_l0_step s = some (1, ((s.1.1, (s.1.2.1, (s.1.2.2.1, (s.1.2.2.2.1, ())))), ())) := by
        unfold g89_ground_ends_v1_l0_step
        simp only [h3, h4, show decide ((l.length : Int) < (l.length : Int)) = false from by simp, cond_false]
      exact ⟨_, st, by rw [h1, List.take_length]⟩)
    (g89_ground_ends_v1_l0_fuel (([], (l, ((List.length l : Int), (0, ())))), ())) (([], (l, ((List.length l : Int), (0, ())))), ()) (by simp [g89_ground_ends_v1_l0_fuel]) ⟨rfl, rfl, rfl, rfl⟩
  rw [q1]
  simp only [Option.bind_some, q2]

theorem s_g89_ground_ends_v2 (l : List E72) (hl : l.length ≤ 1000) : g89_ground_ends_v2 l = some (l.map (eI false), ()) := by
  have hc : ∀ x, g92_ground_end_4 x = some ((eI false) x, ()) := fun _ => rfl
  unfold g89_ground_ends_v2 g89_ground_ends_v2_l0_run
  obtain ⟨q, q1, q2⟩ := iter_all (step := g89_ground_ends_v2_l0_step) (n := l.length) (k := 0) (fun i s => s.1.1 = (l.take i).map (eI false) ∧ s.1.2.1 = l ∧ s.1.2.2.1 = (l.length : Int) ∧ s.1.2.2.2.1 = (i : Int)) (fun s => s.1.1 = l.map (eI false))
    (fun i s h hi => by
      obtain ⟨h1, h2, h3, h4⟩ := h
      have st : g89_ground_ends_v2_l0_step s = some (0, (((((l.take (i + 1)).map (eI false))), (l, ((l.length : Int), ((IntKind.wrap .i64 ((i : Int) + 1)), ())))), ())) := by
        unfold g89_ground_ends_v2_l0_step
        rw [← take_map (f := eI false) (d := dY) hi]
        simp only [h1, h2, h3, h4, hc, getD_toNat, inside_lt hi, show decide ((i : Int) < (l.length : Int)) = true from by simp; omega, cond_true, Option.bind_some]
        rw [lim_ok (by simp; omega)]
        rfl
      exact ⟨_, st, rfl, rfl, rfl, wr (by omega) (by omega)⟩)
    (fun s h => by
      obtain ⟨h1, h2, h3, h4⟩ := h
      have st : g89_ground_ends_v2_l0_step s = some (1, ((s.1.1, (s.1.2.1, (s.1.2.2.1, (s.1.2.2.2.1, ())))), ())) := by
        unfold g89_ground_ends_v2_l0_step
        simp only [h3, h4, show decide ((l.length : Int) < (l.length : Int)) = false from by simp, cond_false]
      exact ⟨_, st, by rw [h1, List.take_length]⟩)
    (g89_ground_ends_v2_l0_fuel (([], (l, ((List.length l : Int), (0, ())))), ())) (([], (l, ((List.length l : Int), (0, ())))), ()) (by simp [g89_ground_ends_v2_l0_fuel]) ⟨rfl, rfl, rfl, rfl⟩
  rw [q1]
  simp only [Option.bind_some, q2]

theorem s_g89_ground_ends_v3 (l : List E72) (hl : l.length ≤ 1000) : g89_ground_ends_v3 l = some (l.map (eN false), ()) := by
  have hc : ∀ x, g93_ground_end_5 x = some ((eN false) x, ()) := fun _ => rfl
  unfold g89_ground_ends_v3 g89_ground_ends_v3_l0_run
  obtain ⟨q, q1, q2⟩ := iter_all (step := g89_ground_ends_v3_l0_step) (n := l.length) (k := 0) (fun i s => s.1.1 = (l.take i).map (eN false) ∧ s.1.2.1 = l ∧ s.1.2.2.1 = (l.length : Int) ∧ s.1.2.2.2.1 = (i : Int)) (fun s => s.1.1 = l.map (eN false))
    (fun i s h hi => by
      obtain ⟨h1, h2, h3, h4⟩ := h
      have st : g89_ground_ends_v3_l0_step s = some (0, (((((l.take (i + 1)).map (eN false))), (l, ((l.length : Int), ((IntKind.wrap .i64 ((i : Int) + 1)), ())))), ())) := by
        unfold g89_ground_ends_v3_l0_step
        rw [← take_map (f := eN false) (d := dY) hi]
        simp only [h1, h2, h3, h4, hc, getD_toNat, inside_lt hi, show decide ((i : Int) < (l.length : Int)) = true from by simp; omega, cond_true, Option.bind_some]
        rw [lim_ok (by simp; omega)]
        rfl
      exact ⟨_, st, rfl, rfl, rfl, wr (by omega) (by omega)⟩)
    (fun s h => by
      obtain ⟨h1, h2, h3, h4⟩ := h
      have st : g89_ground_ends_v3_l0_step s = some (1, ((s.1.1, (s.1.2.1, (s.1.2.2.1, (s.1.2.2.2.1, ())))), ())) := by
        unfold g89_ground_ends_v3_l0_step
        simp only [h3, h4, show decide ((l.length : Int) < (l.length : Int)) = false from by simp, cond_false]
      exact ⟨_, st, by rw [h1, List.take_length]⟩)
    (g89_ground_ends_v3_l0_fuel (([], (l, ((List.length l : Int), (0, ())))), ())) (([], (l, ((List.length l : Int), (0, ())))), ()) (by simp [g89_ground_ends_v3_l0_fuel]) ⟨rfl, rfl, rfl, rfl⟩
  rw [q1]
  simp only [Option.bind_some, q2]

theorem s_g87_ground_ends_v1 (l : List E70) (hl : l.length ≤ 1000) : g87_ground_ends_v1 l = some (l.map (eM true), ()) := by
  have hc : ∀ x, g88_ground_end_1_v1 x = some ((eM true) x, ()) := fun _ => rfl
  unfold g87_ground_ends_v1 g87_ground_ends_v1_l0_run
  obtain ⟨q, q1, q2⟩ := iter_all (step := g87_ground_ends_v1_l0_step) (n := l.length) (k := 0) (fun i s => s.1.1 = (l.take i).map (eM true) ∧ s.1.2.1 = l ∧ s.1.2.2.1 = (l.length : Int) ∧ s.1.2.2.2.1 = (i : Int)) (fun s => s.1.1 = l.map (eM true))
    (fun i s h hi => by
      obtain ⟨h1, h2, h3, h4⟩ := h
      have st : g87_ground_ends_v1_l0_step s = some (0, (((((l.take (i + 1)).map (eM true))), (l, ((l.length : Int), ((IntKind.wrap .i64 ((i : Int) + 1)), ())))), ())) := by
        unfold g87_ground_ends_v1_l0_step
        rw [← take_map (f := eM true) (d := dL) hi]
        simp only [h1, h2, h3, h4, hc, getD_toNat, inside_lt hi, show decide ((i : Int) < (l.length : Int)) = true from by simp; omega, cond_true, Option.bind_some]
        rw [lim_ok (by simp; omega)]
        rfl
      exact ⟨_, st, rfl, rfl, rfl, wr (by omega) (by omega)⟩)
    (fun s h => by
      obtain ⟨h1, h2, h3, h4⟩ := h
      have st : g87_ground_ends_v1_l0_step s = some (1, ((s.1.1, (s.1.2.1, (s.1.2.2.1, (s.1.2.2.2.1, ())))), ())) := by
        unfold g87_ground_ends_v1_l0_step
        simp only [h3, h4, show decide ((l.length : Int) < (l.length : Int)) = false from by simp, cond_false]
      exact ⟨_, st, by rw [h1, List.take_length]⟩)
    (g87_ground_ends_v1_l0_fuel (([], (l, ((List.length l : Int), (0, ())))), ())) (([], (l, ((List.length l : Int), (0, ())))), ()) (by simp [g87_ground_ends_v1_l0_fuel]) ⟨rfl, rfl, rfl, rfl⟩
  rw [q1]
  simp only [Option.bind_some, q2]

theorem s_g89_ground_ends_v4 (l : List E72) (p : E25) (hl : l.length ≤ 1000) : g89_ground_ends_v4 l p = some (l.map (fun _ => eW true p), (p, ())) := by
  have hc : ∀ x, g90_ground_end_2_v1 x p = some ((fun _ => eW true p) x, (p, ())) := fun _ => rfl
  unfold g89_ground_ends_v4 g89_ground_ends_v4_l0_run
  obtain ⟨q, q1, q2⟩ := iter_all (step := g89_ground_ends_v4_l0_step) (n := l.length) (k := 0) (fun i s => s.1.1 = (l.take i).map (fun _ => eW true p) ∧ s.1.2.1 = l ∧ s.1.2.2.1 = (l.length : Int) ∧ s.1.2.2.2.1 = (i : Int) ∧ s.2.1 = p) (fun s => s.1.1 = l.map (fun _ => eW true p) ∧ s.2.1 = p)
    (fun i s h hi => by
      obtain ⟨h1, h2, h3, h4, h5⟩ := h
      have st : g89_ground_ends_v4_l0_step s = some (0, (((((l.take (i + 1)).map (fun _ => eW true p))), (l, ((l.length : Int), ((IntKind.wrap .i64 ((i : Int) + 1)), ())))), (p, ()))) := by
        unfold g89_ground_ends_v4_l0_step
        rw [← take_map (f := fun _ => eW true p) (d := dY) hi]
        simp only [h1, h2, h3, h4, h5, hc, getD_toNat, inside_lt hi, show decide ((i : Int) < (l.length : Int)) = true from by simp; omega, cond_true, Option.bind_some]
        rw [lim_ok (by simp; omega)]
        rfl
      exact ⟨_, st, rfl, rfl, rfl, wr (by omega) (by omega), rfl⟩)
    (fun s h => by
      obtain ⟨h1, h2, h3, h4, h5⟩ := h
      have st : g89_ground_ends_v4_l0_step s = some (1, ((s.1.1, (s.1.2.1, (s.1.2.2.1, (s.1.2.2.2.1, ())))), (s.2.1, ()))) := by
        unfold g89_ground_ends_v4_l0_step
        simp only [h3, h4, show decide ((l.length : Int) < (l.length : Int)) = false from by simp, cond_false]
      exact ⟨_, st, by rw [h1, List.take_length], h5⟩)
    (g89_ground_ends_v4_l0_fuel (([], (l, ((List.length l : Int), (0, ())))), (p, ()))) (([], (l, ((List.length l : Int), (0, ())))), (p, ())) (by simp [g89_ground_ends_v4_l0_fuel]) ⟨rfl, rfl, rfl, rfl, rfl⟩
  rw [q1]
  simp only [Option.bind_some, q2.1, q2.2]

theorem s_g89_ground_ends_v5 (l : List E72) (hl : l.length ≤ 1000) : g89_ground_ends_v5 l = some (l.map (eS true), ()) := by
  have hc : ∀ x, g91_ground_end_3_v1 x = some ((eS true) x, ()) := fun _ => rfl
  unfold g89_ground_ends_v5 g89_ground_ends_v5_l0_run
  obtain ⟨q, q1, q2⟩ := iter_all (step := g89_ground_ends_v5_l0_step) (n := l.length) (k := 0) (fun i s => s.1.1 = (l.take i).map (eS true) ∧ s.1.2.1 = l ∧ s.1.2.2.1 = (l.length : Int) ∧ s.1.2.2.2.1 = (i : Int)) (fun s => s.1.1 = l.map (eS true))
    (fun i s h hi => by
      obtain ⟨h1, h2, h3, h4⟩ := h
      have st : g89_ground_ends_v5_l0_step s = some (0, (((((l.take (i + 1)).map (eS true))), (l, ((l.length : Int), ((IntKind.wrap .i64 ((i : Int) + 1)), ())))), ())) := by
        unfold g89_ground_ends_v5_l0_step
        rw [← take_map (f := eS true) (d := dY) hi]
        simp only [h1, h2, h3, h4, hc, getD_toNat, inside_lt hi, show decide ((i : Int) < (l.length : Int)) = true from by simp; omega, cond_true, Option.bind_some]
        rw [lim_ok (by simp; omega)]
        rfl
      exact ⟨_, st, rfl, rfl, rfl, wr (by omega) (by omega)⟩)
    (fun s h => by
      obtain ⟨h1, h2, h3, h4⟩ := h
      have st : g89_ground_ends_v5_l0_step s = some (1, ((s.1.1, (s.1.2.1, (s.1.2.2.1, (s.1.2.2.2.1, ())))), ())) := by
        unfold g89_ground_ends_v5_l0_step
        simp only [h3, h4, show decide ((l.length : Int) < (l.length : Int)) = false from by simp, cond_false]
      exact ⟨_, st, by rw [h1, List.take_length]⟩)
    (g89_ground_ends_v5_l0_fuel (([], (l, ((List.length l : Int), (0, ())))), ())) (([], (l, ((List.length l : Int), (0, ())))), ()) (by simp [g89_ground_ends_v5_l0_fuel]) ⟨rfl, rfl, rfl, rfl⟩
  rw [q1]
  simp only [Option.bind_some, q2]

theorem s_g89_ground_ends_v6 (l : List E72) (hl : l.length ≤ 1000) : g89_ground_ends_v6 l = some (l.map (eI true), ()) := by
  have hc : ∀ x, g92_ground_end_4_v1 x = some ((eI true) x, ()) := fun _ => rfl
  unfold g89_ground_ends_v6 g89_ground_ends_v6_l0_run
  obtain ⟨q, q1, q2⟩ := iter_all (step := g89_ground_ends_v6_l0_step) (n := l.length) (k := 0) (fun i s => s.1.1 = (l.take i).map (eI true) ∧ s.1.2.1 = l ∧ s.1.2.2.1 = (l.length : Int) ∧ s.1.2.2.2.1 = (i : Int)) (fun s => s.1.1 = l.map (eI true))
    (fun i s h hi => by
      obtain ⟨h1, h2, h3, h4⟩ := h
      have st : g89_ground_ends_v6_l0_step s = some (0, (((((l.take (i + 1)).map (eI true))), (l, ((l.length : Int), ((IntKind.wrap .i64 ((i : Int) + 1)), ())))), ())) := by
        unfold g89_ground_ends_v6_l0_step
        rw [← take_map (f := eI true) (d := dY) hi]
        simp only [h1, h2, h3, h4, hc, getD_toNat, inside_lt hi, show decide ((i : Int) < (l.length : Int)) = true from by simp; omega, cond_true, Option.bind_some]
        rw [lim_ok (by simp; omega)]
        rfl
      exact ⟨_, st, rfl, rfl, rfl, wr (by omega) (by omega)⟩)
    (fun s h => by
      obtain ⟨h1, h2, h3, h4⟩ := h
      have st : g89_ground_ends_v6_l0_step s = some (1, ((s.1.1, (s.1.2.1, (s.1.2.2.1, (s.1.2.2.2.1, ())))), ())) := by
        unfold g89_ground_ends_v6_l0_step
        simp only [h3, h4, show decide ((l.length : Int) < (l.length : Int)) = false from by simp, cond_false]
      exact ⟨_, st, by rw [h1, List.take_length]⟩)
    (g89_ground_ends_v6_l0_fuel (([], (l, ((List.length l : Int), (0, ())))), ())) (([], (l, ((List.length l : Int), (0, ())))), ()) (by simp [g89_ground_ends_v6_l0_fuel]) ⟨rfl, rfl, rfl, rfl⟩
  rw [q1]
  simp only [Option.bind_some, q2]

theorem s_g89_ground_ends_v7 (l : List E72) (hl : l.length ≤ 1000) : g89_ground_ends_v7 l = some (l.map (eN true), ()) := by
  have hc : ∀ x, g93_ground_end_5_v1 x = some ((eN true) x, ()) := fun _ => rfl
  unfold g89_ground_ends_v7 g89_ground_ends_v7_l0_run
  obtain ⟨q, q1, q2⟩ := iter_all (step := g89_ground_ends_v7_l0_step) (n := l.length) (k := 0) (fun i s => s.1.1 = (l.take i).map (eN true) ∧ s.1.2.1 = l ∧ s.1.2.2.1 = (l.length : Int) ∧ s.1.2.2.2.1 = (i : Int)) (fun s => s.1.1 = l.map (eN true))
    (fun i s h hi => by
      obtain ⟨h1, h2, h3, h4⟩ := h
      have st : g89_ground_ends_v7_l0_step s = some (0, (((((l.take (i + 1)).map (eN true))), (l, ((l.length : Int), ((IntKind.wrap .i64 ((i : Int) + 1)), ())))), ())) := by
        unfold g89_ground_ends_v7_l0_step
        rw [← take_map (f := eN true) (d := dY) hi]
        simp only [h1, h2, h3, h4, hc, getD_toNat, inside_lt hi, show decide ((i : Int) < (l.length : Int)) = true from by simp; omega, cond_true, Option.bind_some]
        rw [lim_ok (by simp; omega)]
        rfl
      exact ⟨_, st, rfl, rfl, rfl, wr (by omega) (by omega)⟩)
    (fun s h => by
      obtain ⟨h1, h2, h3, h4⟩ := h
      have st : g89_ground_ends_v7_l0_step s = some (1, ((s.1.1, (s.1.2.1, (s.1.2.2.1, (s.1.2.2.2.1, ())))), ())) := by
        unfold g89_ground_ends_v7_l0_step
        simp only [h3, h4, show decide ((l.length : Int) < (l.length : Int)) = false from by simp, cond_false]
      exact ⟨_, st, by rw [h1, List.take_length]⟩)
    (g89_ground_ends_v7_l0_fuel (([], (l, ((List.length l : Int), (0, ())))), ())) (([], (l, ((List.length l : Int), (0, ())))), ()) (by simp [g89_ground_ends_v7_l0_fuel]) ⟨rfl, rfl, rfl, rfl⟩
  rw [q1]
  simp only [Option.bind_some, q2]


theorem eM_bd {p : E25} (hp : okPl p = true) (w : Bool) {i : Nat} (hi : i < p.1.length) : (p.1.getD i dL).2.1.1 ≤ eM w (p.1.getD i dL) ∧ eM w (p.1.getD i dL) ≤ (p.1.getD i dL).2.1.2.1 := by
  have := (okL_spec hp hi).2
  unfold eM
  cases w <;> simp only [cond_true, cond_false] <;> omega
theorem eW_bd {p : E25} (hp : okPl p = true) (w : Bool) : p.2.1.1 ≤ eW w p ∧ eW w p ≤ p.2.1.2.1 := by
  have := okPl_warm hp
  unfold eW
  cases w <;> simp only [cond_true, cond_false] <;> omega
theorem eS_bd {l : List E72} (hy : l.all okY = true) (w : Bool) {i : Nat} (hi : i < l.length) : (l.getD i dY).1.1 ≤ eS w (l.getD i dY) ∧ eS w (l.getD i dY) ≤ (l.getD i dY).1.2.1 := by
  have := (okY_spec hy hi).1
  unfold eS
  cases w <;> simp only [cond_true, cond_false] <;> omega
theorem eI_bd {l : List E72} (hy : l.all okY = true) (w : Bool) {i : Nat} (hi : i < l.length) : (l.getD i dY).2.1.1 ≤ eI w (l.getD i dY) ∧ eI w (l.getD i dY) ≤ (l.getD i dY).2.1.2.1 := by
  have := (okY_spec hy hi).2.1
  unfold eI
  cases w <;> simp only [cond_true, cond_false] <;> omega
theorem eN_bd {l : List E72} (hy : l.all okY = true) (w : Bool) {i : Nat} (hi : i < l.length) : (l.getD i dY).2.2.1.1 ≤ eN w (l.getD i dY) ∧ eN w (l.getD i dY) ≤ (l.getD i dY).2.2.1.2.1 := by
  have := (okY_spec hy hi).2.2
  unfold eN
  cases w <;> simp only [cond_true, cond_false] <;> omega
theorem insI_of {a : List Int} {n : Nat} {f : Nat → E23} (h1 : a.length = n) (h2 : ∀ i, i < n → (f i).1 ≤ a.getD i 0 ∧ a.getD i 0 ≤ (f i).2.1) : insI a n f = true := by
  unfold insI
  simp only [Bool.and_eq_true, decide_eq_true_eq]
  exact ⟨h1, range_all.2 fun i hi => inB_spec.2 (h2 i hi)⟩
theorem eT_true {p : E25} {l : List E72} (hp : okPl p = true) (hy : l.all okY = true) (w : Bool) : truB p l (eT w p l) = true := by
  have e1 : insI (eT w p l).1 p.1.length (fun i => (p.1.getD i dL).2.1) = true := insI_of (by simp [eT]) fun i hi => by
    unfold eT; rw [map_getD (d := dL) hi]; exact eM_bd hp w hi
  have e2 : insI (eT w p l).2.1 l.length (fun i => p.2.1) = true := insI_of (by simp [eT]) fun i hi => by
    unfold eT; rw [map_getD (d := dY) hi]; exact eW_bd hp w
  have e3 : insI (eT w p l).2.2.1 l.length (fun i => (l.getD i dY).1) = true := insI_of (by simp [eT]) fun i hi => by
    unfold eT; rw [map_getD (d := dY) hi]; exact eS_bd hy w hi
  have e4 : insI (eT w p l).2.2.2.1 l.length (fun i => (l.getD i dY).2.1) = true := insI_of (by simp [eT]) fun i hi => by
    unfold eT; rw [map_getD (d := dY) hi]; exact eI_bd hy w hi
  have e5 : insI (eT w p l).2.2.2.2.1 l.length (fun i => (l.getD i dY).2.2.1) = true := insI_of (by simp [eT]) fun i hi => by
    unfold eT; rw [map_getD (d := dY) hi]; exact eN_bd hy w hi
  unfold truB
  rw [e1, e2, e3, e4, e5]
  rfl

theorem s_g76_ground_end {p : E25} {l : List E72} {more : Int} (hl : l.length ≤ 12) (hp : okPl p = true) (hy : l.all okY = true) (h0 : 0 ≤ more) (hm9 : more ≤ 1000000) : ∃ y, g76_ground_end p l more = some (FB p (eT false p l) more y l.length) := by
  obtain ⟨hT, hL⟩ := tru_of hl hp hy (eT_true hp hy false)
  have hpl := okPl_len hp
  obtain ⟨y, u, h⟩ := g52 (p := p) hT hL h0 hm9
  unfold g76_ground_end
  rw [s_g87_ground_ends p.1 (by omega), s_g89_ground_ends l p (by omega), s_g89_ground_ends_v1 l (by omega), s_g89_ground_ends_v2 l (by omega), s_g89_ground_ends_v3 l (by omega)]
  simp only [Option.bind_some]
  refine ⟨y, ?_⟩
  rw [show (p.1.map (eM false), (l.map (fun _ => eW false p), (l.map (eS false), (l.map (eI false), (l.map (eN false), ()))))) = eT false p l from rfl, h]
  rfl

theorem s_g76_ground_end_v1 {p : E25} {l : List E72} {more : Int} (hl : l.length ≤ 12) (hp : okPl p = true) (hy : l.all okY = true) (h0 : 0 ≤ more) (hm9 : more ≤ 1000000) : ∃ y, g76_ground_end_v1 p l more = some (FB p (eT true p l) more y l.length) := by
  obtain ⟨hT, hL⟩ := tru_of hl hp hy (eT_true hp hy true)
  have hpl := okPl_len hp
  obtain ⟨y, u, h⟩ := g52 (p := p) hT hL h0 hm9
  unfold g76_ground_end_v1
  rw [s_g87_ground_ends_v1 p.1 (by omega), s_g89_ground_ends_v4 l p (by omega), s_g89_ground_ends_v5 l (by omega), s_g89_ground_ends_v6 l (by omega), s_g89_ground_ends_v7 l (by omega)]
  simp only [Option.bind_some]
  refine ⟨y, ?_⟩
  rw [show (p.1.map (eM true), (l.map (fun _ => eW true p), (l.map (eS true), (l.map (eI true), (l.map (eN true), ()))))) = eT true p l from rfl, h]
  rfl

theorem g57 {p : E25} {l : List E72} (hl : l.length ≤ 12) (hp : okPl p = true) (hy : l.all okY = true) : ∃ y, g57_ground_least p l = some (FB p (eT false p l) 0 y l.length) := by
  obtain ⟨y, h⟩ := s_g76_ground_end hl hp hy (Int.le_refl 0) (by omega)
  exact ⟨y, by unfold g57_ground_least; rw [h]; rfl⟩
theorem g58 {p : E25} {l : List E72} {more : Int} (hl : l.length ≤ 12) (hp : okPl p = true) (hy : l.all okY = true) (h0 : 0 ≤ more) (hm9 : more ≤ 1000000) : ∃ y, g58_ground_deepest p l more = some (FB p (eT true p l) more y l.length) := by
  obtain ⟨y, h⟩ := s_g76_ground_end_v1 hl hp hy h0 hm9
  exact ⟨y, by unfold g58_ground_deepest; rw [h]; rfl⟩

/-! ### The reference's -/
theorem g26 {p : E25} {l : List E72} {w : Bool} (hp : p.1.length ≤ 1000) (hl : l.length ≤ 1000) : g26_talikref01_End p l w = some (eT w p l) := by
  unfold g26_talikref01_End g26_talikref01_End_l0_run g26_talikref01_End_l1_run
  obtain ⟨q, q1, q2, q3, q4, q5⟩ := iter_all (step := g26_talikref01_End_l0_step) (n := p.1.length) (k := 0) (fun i s => s.1.1 = l ∧ s.1.2.1 = w ∧ s.1.2.2.1 = (i : Int) ∧ s.2.1 = p ∧ s.2.2.2.1 = ((p.1.take i).map (eM w), ([], ([], ([], ([], ())))))) (fun s => s.1.1 = l ∧ s.1.2.1 = w ∧ s.2.1 = p ∧ s.2.2.2.1 = (p.1.map (eM w), ([], ([], ([], ([], ()))))))
    (fun i s h hi => by
      obtain ⟨e1, e2, e3, e4, e5⟩ := h
      have st : g26_talikref01_End_l0_step s = some (0, ((l, (w, ((IntKind.wrap .i64 ((i : Int) + 1)), ()))), (p, ((s.2.2.1.1, (s.2.2.1.2.1, (s.2.2.1.2.2.1, (s.2.2.1.2.2.2.1, (s.2.2.1.2.2.2.2.1, ()))))), ((((p.1.take (i + 1)).map (eM w)), ([], ([], ([], ([], ()))))), ()))))) := by
        unfold g26_talikref01_End_l0_step
        rw [← take_map (d := dL) hi]
        simp only [e1, e2, e3, e4, e5, getD_toNat, inside_lt hi, show decide ((i : Int) < (p.1.length : Int)) = true from by simp; omega, cond_true]
        rw [lim_ok (by simp; omega), lim_ok (by simp; omega)]
        cases w <;> rfl
      exact ⟨_, st, rfl, rfl, wr (by omega) (by omega), rfl, rfl⟩)
    (fun s h => by
      obtain ⟨e1, e2, e3, e4, e5⟩ := h
      have st : g26_talikref01_End_l0_step s = some (1, ((s.1.1, (s.1.2.1, (s.1.2.2.1, ()))), (s.2.1, ((s.2.2.1.1, (s.2.2.1.2.1, (s.2.2.1.2.2.1, (s.2.2.1.2.2.2.1, (s.2.2.1.2.2.2.2.1, ()))))), ((s.2.2.2.1.1, (s.2.2.2.1.2.1, (s.2.2.2.1.2.2.1, (s.2.2.2.1.2.2.2.1, (s.2.2.2.1.2.2.2.2.1, ()))))), ()))))) := by
        unfold g26_talikref01_End_l0_step
        simp only [e3, e4, show decide ((p.1.length : Int) < (p.1.length : Int)) = false from by simp, cond_false]
      refine ⟨_, st, e1, e2, e4, ?_⟩
      simp only [e5, List.take_length])
    (g26_talikref01_End_l0_fuel ((l, (w, (0, ()))), (p, (([], ([], ([], ([], ([], ()))))), (([], ([], ([], ([], ([], ()))))), ()))))) ((l, (w, (0, ()))), (p, (([], ([], ([], ([], ([], ()))))), (([], ([], ([], ([], ([], ()))))), ())))) (by simp [g26_talikref01_End_l0_fuel]) ⟨rfl, rfl, rfl, rfl, rfl⟩
  rw [q1]
  simp only [Option.bind_some, q2, q3, q4, q5]
  obtain ⟨z, z1, z2⟩ := iter_all (step := g26_talikref01_End_l1_step) (n := l.length) (k := 0) (fun i s => s.1.1 = l ∧ s.1.2.1 = w ∧ s.1.2.2.1 = (i : Int) ∧ s.2.1 = p ∧ s.2.2.2.1 = (p.1.map (eM w), ((l.take i).map (fun _ => eW w p), ((l.take i).map (eS w), ((l.take i).map (eI w), ((l.take i).map (eN w), ())))))) (fun s => s.2.2.2.1 = eT w p l)
    (fun i s h hi => by
      obtain ⟨e1, e2, e3, e4, e5⟩ := h
      have st : g26_talikref01_End_l1_step s = some (0, ((l, (w, ((IntKind.wrap .i64 ((i : Int) + 1)), ()))), (p, ((s.2.2.1.1, (s.2.2.1.2.1, (s.2.2.1.2.2.1, (s.2.2.1.2.2.2.1, (s.2.2.1.2.2.2.2.1, ()))))), ((p.1.map (eM w), ((l.take (i + 1)).map (fun _ => eW w p), ((l.take (i + 1)).map (eS w), ((l.take (i + 1)).map (eI w), ((l.take (i + 1)).map (eN w), ()))))), ()))))) := by
        unfold g26_talikref01_End_l1_step
        rw [← take_map (f := fun _ => eW w p) (d := dY) hi, ← take_map (f := eS w) (d := dY) hi, ← take_map (f := eI w) (d := dY) hi, ← take_map (f := eN w) (d := dY) hi]
        simp only [e1, e2, e3, e4, e5, getD_toNat, inside_lt hi, show decide ((i : Int) < (l.length : Int)) = true from by simp; omega, cond_true]
        rw [lim_ok (by simp; omega), lim_ok (by simp; omega), lim_ok (by simp; omega), lim_ok (by simp; omega), lim_ok (by simp; omega), lim_ok (by simp; omega), lim_ok (by simp; omega), lim_ok (by simp; omega)]
        cases w <;> rfl
      exact ⟨_, st, rfl, rfl, wr (by omega) (by omega), rfl, rfl⟩)
    (fun s h => by
      obtain ⟨e1, e2, e3, e4, e5⟩ := h
      have st : g26_talikref01_End_l1_step s = some (1, ((s.1.1, (s.1.2.1, (s.1.2.2.1, ()))), (s.2.1, ((s.2.2.1.1, (s.2.2.1.2.1, (s.2.2.1.2.2.1, (s.2.2.1.2.2.2.1, (s.2.2.1.2.2.2.2.1, ()))))), ((s.2.2.2.1.1, (s.2.2.2.1.2.1, (s.2.2.2.1.2.2.1, (s.2.2.2.1.2.2.2.1, (s.2.2.2.1.2.2.2.2.1, ()))))), ()))))) := by
        unfold g26_talikref01_End_l1_step
        simp only [e1, e3, show decide ((l.length : Int) < (l.length : Int)) = false from by simp, cond_false]
      refine ⟨_, st, ?_⟩
      simp only [e5, List.take_length]
      rfl)
    (g26_talikref01_End_l1_fuel ((l, (w, (0, ()))), (p, ((q.2.2.1.1, (q.2.2.1.2.1, (q.2.2.1.2.2.1, (q.2.2.1.2.2.2.1, (q.2.2.1.2.2.2.2.1, ()))))), ((p.1.map (eM w), ([], ([], ([], ([], ()))))), ()))))) ((l, (w, (0, ()))), (p, ((q.2.2.1.1, (q.2.2.1.2.1, (q.2.2.1.2.2.1, (q.2.2.1.2.2.2.1, (q.2.2.1.2.2.2.2.1, ()))))), ((p.1.map (eM w), ([], ([], ([], ([], ()))))), ())))) (by simp [g26_talikref01_End_l1_fuel]) ⟨rfl, rfl, rfl, rfl, rfl⟩
  rw [z1]
  simp only [Option.bind_some, z2]
end Go.Proofs.YtbidmbjkjpdgdaaDoor.Abs

/-
  Plain laws of the ground layer, seventh part: the first year in which a depth is exceeded; warmer truths thaw deeper.
-/
set_option linter.unusedVariables false
set_option linter.unusedSimpArgs false
set_option maxRecDepth 100000
namespace Go.Proofs.YtbidmbjkjpdgdaaDoor.Abs

/-- The first year from some year on, of so many, in which something is more than a depth; the year behind them all, if in none. -/
def fst (f : Nat → Int) (d : Int) : Nat → Nat → Nat
  | 0, i => i
  | m + 1, i => if f i > d then i else fst f d m (i + 1)
theorem fst_eq {f : Nat → Int} {d : Int} : ∀ (m i j : Nat), i ≤ j → j ≤ i + m → (∀ l, i ≤ l → l < j → ¬ f l > d) → (j < i + m → f j > d) → fst f d m i = j
  | 0, i, j, h1, h2, _, _ => by unfold fst; omega
  | m + 1, i, j, h1, h2, h3, h4 => by
    unfold fst
    by_cases h : f i > d
    · rw [if_pos h]
      rcases Nat.eq_or_lt_of_le h1 with rfl | h1
      · rfl
      · exact absurd h (h3 i (Nat.le_refl _) h1)
    · rw [if_neg h]
      rcases Nat.eq_or_lt_of_le h1 with rfl | h1
      · exact absurd (h4 (by omega)) h
      · exact fst_eq m (i + 1) j h1 (by omega) (fun l a b => h3 l (by omega) b) (fun a => h4 (by omega))
theorem fst_spec {f : Nat → Int} {d : Int} : ∀ (m i : Nat), i ≤ fst f d m i ∧ fst f d m i ≤ i + m ∧ (∀ l, i ≤ l → l < fst f d m i → f l ≤ d) ∧ (fst f d m i < i + m → f (fst f d m i) > d)
  | 0, i => by unfold fst; exact ⟨Nat.le_refl _, Nat.le_refl _, fun l a b => by omega, fun a => by omega⟩
  | m + 1, i => by
    unfold fst
    by_cases h : f i > d
    · rw [if_pos h]
      exact ⟨Nat.le_refl _, by omega, fun l a b => by omega, fun _ => h⟩
    · rw [if_neg h]
      obtain ⟨h1, h2, h3, h4⟩ := fst_spec (f := f) (d := d) m (i + 1)
      refine ⟨by omega, by omega, fun l a b => ?_, fun a => h4 (by omega)⟩
      rcases Nat.eq_or_lt_of_le a with rfl | a
      · omega
      · exact h3 l a b
/-- What is deeper exceeds a depth no later. -/
theorem fst_mono {f g : Nat → Int} {d : Int} {n : Nat} (h : ∀ i, i < n → f i ≤ g i) : fst g d n 0 ≤ fst f d n 0 := by
  obtain ⟨a1, a2, a3, a4⟩ := fst_spec (f := f) (d := d) n 0
  obtain ⟨b1, b2, b3, b4⟩ := fst_spec (f := g) (d := d) n 0
  refine Nat.le_of_not_lt fun hlt => ?_
  have h1 := a4 (by omega)
  have h2 := b3 _ (Nat.zero_le _) hlt
  have h3 := h _ (show fst f d n 0 < n by omega)
  omega
theorem fst_lt {f : Nat → Int} {d : Int} {n : Nat} : fst f d n 0 < n ↔ ∃ i, i < n ∧ f i > d := by
  obtain ⟨a1, a2, a3, a4⟩ := fst_spec (f := f) (d := d) n 0
  constructor
  · intro h
    exact ⟨_, h, a4 (by omega)⟩
  · rintro ⟨i, hi, h⟩
    refine Nat.lt_of_not_le fun hle => ?_
    have := a3 i (Nat.zero_le _) (by omega)
    omega

/-- The depth of thaw of a year. -/
def thw (p : E25) (t : E29) (more : Int) (j : Nat) : Int := dep p.1 t.1 p.1.length 0 (Rs t more j)
theorem Ds_getD {p : E25} {t : E29} {more : Int} {n i : Nat} (hi : i < n) : (Ds p t more n).getD i 0 = thw p t more i := map_range_getD hi
theorem Fo_getD1 {p : E25} {t : E29} {more : Int} {n i : Nat} (hi : i < n) : ((Fo p t more n).getD i (0, (0, ()))).1 = thw p t more i := by
  unfold Fo
  rw [map_range_getD hi]
  rfl
theorem Fo_getD2 {p : E25} {t : E29} {more : Int} {n i : Nat} (hi : i < n) : ((Fo p t more n).getD i (0, (0, ()))).2.1 = (RL t more (i + 1)).2 := by
  unfold Fo
  rw [map_range_getD hi]
theorem Ls_getD {t : E29} {more : Int} {n i : Nat} (hi : i < n) : (Ls t more n).getD i 0 = (RL t more (i + 1)).2 := map_range_getD hi

theorem g80 (x d : Int) : g80_ground_first_1 x d = some (decide (x > d), (d, ())) := rfl
theorem g61 {a : List Int} {d : Int} (ha : a.length ≤ 1000) : g61_ground_first a d = some ((fst (fun i => a.getD i 0) d a.length 0 : Nat) : Int) := by
  unfold g61_ground_first g79_slices_IndexFunc g79_slices_IndexFunc_l0_run
  rcases iter_find (step := g79_slices_IndexFunc_l0_step) (bad := fun i => decide (a.getD i 0 > d)) (n := a.length) (k1 := 0) (k2 := 1) (fun i s => s.1.1 = a ∧ s.1.2.2.1 = (a.length : Int) ∧ s.1.2.2.2.1 = (i : Int) ∧ s.2.1 = d) (fun j s => s.1.2.1 = (j : Int)) (fun _ => True)
    (fun i s h hi hb => by
      obtain ⟨h1, h2, h3, h4⟩ := h
      simp only [g79_slices_IndexFunc_l0_step, h1, h2, h3, h4, inside_lt hi, g80, getD_toNat, show decide ((i : Int) < (a.length : Int)) = true from by simp; omega, cond_true, Option.bind_some]
      rw [hb]
      exact ⟨_, rfl, rfl, rfl, wr (by omega) (by omega), rfl⟩)
    (fun i s h hi hb => by
      obtain ⟨h1, h2, h3, h4⟩ := h
      simp only [g79_slices_IndexFunc_l0_step, h1, h2, h3, h4, inside_lt hi, g80, getD_toNat, show decide ((i : Int) < (a.length : Int)) = true from by simp; omega, cond_true, Option.bind_some]
      rw [hb]
      exact ⟨_, rfl, rfl⟩)
    (fun s h => by
      obtain ⟨h1, h2, h3, h4⟩ := h
      simp only [g79_slices_IndexFunc_l0_step, h1, h2, h3, show decide ((a.length : Int) < (a.length : Int)) = false from by simp, cond_false]
      exact ⟨_, rfl, trivial⟩)
    a.length 0 (g79_slices_IndexFunc_l0_fuel ((a, (0, ((List.length a : Int), (0, ())))), (d, ()))) ((a, (0, ((List.length a : Int), (0, ())))), (d, ())) (by omega) (by simp [g79_slices_IndexFunc_l0_fuel]) ⟨rfl, rfl, rfl, rfl⟩ with ⟨j, q, _, hj, hb, hl, h1, h2⟩ | ⟨hb, q, h1, _⟩
  · rw [h1]
    simp only [Option.bind_some, natK, h2]
    rw [show decide ((j : Int) ≥ 0) = true from by simp, fst_eq a.length 0 j (Nat.zero_le _) (by omega) (fun l x y => by simpa using hl l x y) (fun _ => by simpa using hb)]
    rfl
  · rw [h1]
    simp only [Option.bind_some, natK]
    rw [show decide ((-1 : Int) ≥ 0) = false from rfl, fst_eq a.length 0 a.length (Nat.zero_le _) (by omega) (fun l x y => by simpa using hb l x y) (fun x => by omega)]
    rfl
theorem fst_congr {f g : Nat → Int} {d : Int} {n : Nat} (h : ∀ i, i < n → f i = g i) : fst f d n 0 = fst g d n 0 :=
  Nat.le_antisymm (fst_mono fun i hi => by rw [h i hi]; exact Int.le_refl _) (fst_mono fun i hi => by rw [h i hi]; exact Int.le_refl _)
theorem g61_Ds {p : E25} {t : E29} {more d : Int} {n : Nat} (hn : n ≤ 1000) : g61_ground_first (Ds p t more n) d = some ((fst (thw p t more) d n 0 : Nat) : Int) := by
  rw [g61 (by rw [Ds_len]; exact hn), Ds_len, fst_congr fun i hi => Ds_getD hi]
theorem g28 {p : E25} {t : E29} {more d : Int} {n : Nat} (hn : n ≤ 1000) : g28_talikref01_First (Fo p t more n) d = some ((fst (thw p t more) d n 0 : Nat) : Int) := by
  unfold g28_talikref01_First g28_talikref01_First_l0_run
  rcases iter_find (step := g28_talikref01_First_l0_step) (bad := fun i => decide (thw p t more i > d)) (n := n) (k1 := 0) (k2 := 1) (fun i s => s.1.1 = Fo p t more n ∧ s.1.2.1 = d ∧ s.1.2.2.2.1 = (i : Int)) (fun j s => s.1.2.2.1 = (j : Int)) (fun s => s.1.1 = Fo p t more n)
    (fun i s h hi hb => by
      obtain ⟨h1, h2, h3⟩ := h
      simp only [g28_talikref01_First_l0_step, h1, h2, h3, Fo_len, Fo_getD1 hi, inside_lt hi, getD_toNat, show decide ((i : Int) < (n : Int)) = true from by simp; omega, cond_true, Option.bind_some]
      rw [hb]
      exact ⟨_, rfl, rfl, rfl, wr (by omega) (by omega)⟩)
    (fun i s h hi hb => by
      obtain ⟨h1, h2, h3⟩ := h
      simp only [g28_talikref01_First_l0_step, h1, h2, h3, Fo_len, Fo_getD1 hi, inside_lt hi, getD_toNat, show decide ((i : Int) < (n : Int)) = true from by simp; omega, cond_true, Option.bind_some]
      rw [hb]
      exact ⟨_, rfl, rfl⟩)
    (fun s h => by
      obtain ⟨h1, h2, h3⟩ := h
      simp only [g28_talikref01_First_l0_step, h1, h2, h3, Fo_len, show decide ((n : Int) < (n : Int)) = false from by simp, cond_false]
      exact ⟨_, rfl, rfl⟩)
    n 0 (g28_talikref01_First_l0_fuel ((Fo p t more n, (d, (0, (0, ())))), ())) ((Fo p t more n, (d, (0, (0, ())))), ()) (by omega) (by simp [g28_talikref01_First_l0_fuel, Fo_len]) ⟨rfl, rfl, rfl⟩ with ⟨j, q, _, hj, hb, hl, h1, h2⟩ | ⟨hb, q, h1, h2⟩
  · rw [h1]
    simp only [Option.bind_some, natK, h2]
    rw [fst_eq n 0 j (Nat.zero_le _) (by omega) (fun l x y => by simpa using hl l x y) (fun _ => by simpa using hb)]
  · rw [h1]
    simp only [Option.bind_some, natK, h2, Fo_len]
    rw [fst_eq n 0 n (Nat.zero_le _) (by omega) (fun l x y => by simpa using hb l x y) (fun x => by omega)]

/-- The first year in which a depth is exceeded in the warmest, or the coldest, truth. -/
def exc (w : Bool) (p : E25) (l : List E72) (more d : Int) : Nat := fst (thw p (eT w p l) more) d l.length 0
theorem exc_le {w : Bool} {p : E25} {l : List E72} {more d : Int} : exc w p l more d ≤ l.length := by
  have := (fst_spec (f := thw p (eT w p l) more) (d := d) l.length 0).2.1
  unfold exc
  omega
theorem g60 (d : Int) : g60_ground_asked d = some (inB d 0 2000000) := by
  unfold g60_ground_asked
  rw [g70]
  rfl
theorem g27_bad {p : E25} {l : List E72} {d : Int} (hp : p.1.length < 2 ^ 40) (hl : l.length < 2 ^ 40) (h : errOf p l (inB d 0 2000000) ≠ 0) : g27_ground_Exceeds p l d = some (0, (0, (errOf p l (inB d 0 2000000), ()))) := by
  unfold g27_ground_Exceeds
  rw [g60]
  simp only [Option.bind_some]
  rw [g51 p l _ hp hl]
  simp only [Option.bind_some]
  rw [show (errOf p l (inB d 0 2000000) != 0) = true from by simpa using h]
  rfl
theorem g27_ok {p : E25} {l : List E72} {d : Int} (h : errOf p l (inB d 0 2000000) = 0) : g27_ground_Exceeds p l d = some ((exc true p l 0 d : Int), ((exc false p l 0 d : Int), (0, ()))) := by
  obtain ⟨hl, hd, hp, hy⟩ := errOf_zero h
  have hpl := okPl_len hp
  unfold g27_ground_Exceeds
  rw [g60]
  simp only [Option.bind_some]
  rw [g51 p l _ (by omega) (by omega)]
  simp only [Option.bind_some]
  obtain ⟨y, h1⟩ := g58 (more := 0) hl hp hy (Int.le_refl 0) (by omega)
  obtain ⟨z, h2⟩ := g57 hl hp hy
  rw [h, h1, h2]
  simp only [Option.bind_some, FB]
  rw [show ((0 : Int) != 0) = false from rfl, g61_Ds (by omega), g61_Ds (by omega)]
  rfl
theorem follow_end {w : Bool} {p : E25} {l : List E72} {more : Int} (hl : l.length ≤ 12) (hp : okPl p = true) (hy : l.all okY = true) (h0 : 0 ≤ more) (hm9 : more ≤ 1000000) : g19_talikref01_Follow p (eT w p l) more = some (Fo p (eT w p l) more l.length) := by
  obtain ⟨hT, hL⟩ := tru_of hl hp hy (eT_true hp hy w)
  exact g19 hT hL h0 (by omega)

/-! ### What is warmer thaws deeper -/
/-- A truth is at least as warm as another one, in so many years. -/
structure Wrm (t u : E29) (a b : Int) (n : Nat) : Prop where
  hea : ∀ i, i < n → hea t i ≤ hea u i
  goe : ∀ i, i < n → goe u i + b ≤ goe t i + a
theorem RL_mono {t u : E29} {a b : Int} {n m : Nat} (hT : Tru t m) (hU : Tru u m) (ha : 0 ≤ a) (hb : 0 ≤ b) (hw : Wrm t u a b n) (hnm : n ≤ m) : ∀ i, i ≤ n → (RL t a i).1 ≤ (RL u b i).1 ∧ (RL t a i).2 ≤ (RL u b i).2
  | 0, _ => ⟨Int.le_refl _, Int.le_refl _⟩
  | i + 1, hi => by
    obtain ⟨h1, h2⟩ := RL_mono hT hU ha hb hw hnm i (by omega)
    have e1 := hw.hea i (by omega)
    have e2 := hw.goe i (by omega)
    have b1 := year_bd hT ha (show i < m by omega)
    have b2 := year_bd hU hb (show i < m by omega)
    rw [RL_succ, RL_succ]
    have l1 : Lf t a i ≤ Lf u b i := by unfold Lf; omega
    have r1 : Rs t a i ≤ Rs u b i := by
      unfold Rs
      split <;> split <;> omega
    have o1 : Lf t a i - Ou t a i ≤ Lf u b i - Ou u b i := by
      unfold Ou
      split <;> split <;> omega
    refine ⟨?_, o1⟩
    simp only
    by_cases z : Lf u b i - Ou u b i = 0
    · rw [if_pos z, if_pos (by omega)]
      exact Int.le_refl _
    · rw [if_neg z]
      split
      · exact b2.2.1.1
      · exact r1
theorem Rs_mono {t u : E29} {a b : Int} {n m : Nat} (hT : Tru t m) (hU : Tru u m) (ha : 0 ≤ a) (hb : 0 ≤ b) (hw : Wrm t u a b n) (hnm : n ≤ m) {i : Nat} (hi : i < n) : Rs t a i ≤ Rs u b i := by
  obtain ⟨h1, h2⟩ := RL_mono hT hU ha hb hw hnm i (by omega)
  have e1 := hw.hea i (by omega)
  have l1 : Lf t a i ≤ Lf u b i := by unfold Lf; omega
  unfold Rs
  split <;> split <;> omega
theorem div_mono {a b c d : Int} (h0 : 0 ≤ a) (hab : a ≤ b) (hc : 1 ≤ c) (hcd : c ≤ d) : a / d ≤ b / c := by
  have h1 : a / d ≤ a / c := by
    have h : (a / d) * d ≤ a := Int.ediv_mul_le a (by omega)
    refine Int.le_ediv_of_mul_le (by omega) ?_
    have h3 : 0 ≤ a / d := Int.ediv_nonneg h0 (by omega)
    exact Int.le_trans (Int.mul_le_mul_of_nonneg_left hcd h3) h
  exact Int.le_trans h1 (Int.ediv_le_ediv (by omega) hab)
theorem dep_nonneg {ls : List E70} {ms : List Int} (hM : Lay ls ms) : ∀ (k i : Nat) (a : Int), i + k ≤ ls.length → 0 ≤ a → 0 ≤ dep ls ms k i a
  | 0, i, a, _, _ => by simp [dep]
  | k + 1, i, a, hk, h0 => by
    have m1 := hM.melt i (by omega)
    have t1 := hM.thick i (by omega)
    unfold dep
    by_cases h : k = 0 ∨ a < (ls.getD i dL).1 * ms.getD i 0
    · rw [if_pos h]
      exact Int.ediv_nonneg h0 (by omega)
    · rw [if_neg h]
      have := dep_nonneg hM k (i + 1) (a - (ls.getD i dL).1 * ms.getD i 0) (by omega) (by omega)
      omega
theorem dep_mono {ls : List E70} {ms ns : List Int} (hM : Lay ls ms) (hN : Lay ls ns) (hle : ∀ i, i < ls.length → ns.getD i 0 ≤ ms.getD i 0) : ∀ (k i : Nat) (a b : Int), i + k ≤ ls.length → 0 ≤ a → a ≤ b → dep ls ms k i a ≤ dep ls ns k i b
  | 0, i, a, b, _, _, _ => by simp [dep]
  | k + 1, i, a, b, hk, h0, hab => by
    have hi : i < ls.length := by omega
    have m1 := hM.melt i hi
    have n1 := hN.melt i hi
    have t1 := hM.thick i hi
    have le := hle i hi
    have hd := div_mono h0 hab n1.1 le
    have hmul : (ls.getD i dL).1 * ns.getD i 0 ≤ (ls.getD i dL).1 * ms.getD i 0 := Int.mul_le_mul_of_nonneg_left le (by omega)
    unfold dep
    by_cases hz : k = 0
    · rw [if_pos (.inl hz), if_pos (.inl hz)]
      exact hd
    · by_cases h1 : a < (ls.getD i dL).1 * ms.getD i 0
      · rw [if_pos (.inr h1)]
        by_cases h2 : b < (ls.getD i dL).1 * ns.getD i 0
        · rw [if_pos (.inr h2)]
          exact hd
        · rw [if_neg (by omega)]
          have h3 : a / ms.getD i 0 < (ls.getD i dL).1 := Int.ediv_lt_of_lt_mul (by omega) h1
          have h4 := dep_mono hN hN (fun _ _ => Int.le_refl _) k (i + 1) 0 (b - (ls.getD i dL).1 * ns.getD i 0) (by omega) (Int.le_refl _) (by omega)
          have h5 : 0 ≤ dep ls ns k (i + 1) 0 := dep_nonneg hN k (i + 1) 0 (by omega) (Int.le_refl _)
          omega
      · rw [if_neg (by omega), if_neg (by omega)]
        have := dep_mono hM hN hle k (i + 1) (a - (ls.getD i dL).1 * ms.getD i 0) (b - (ls.getD i dL).1 * ns.getD i 0) (by omega) (by omega) (by omega)
        omega
theorem thw_mono {p : E25} {t u : E29} {a b : Int} {n m : Nat} (hT : Tru t m) (hU : Tru u m) (hL : Lay p.1 t.1) (hM : Lay p.1 u.1) (hle : ∀ i, i < p.1.length → u.1.getD i 0 ≤ t.1.getD i 0) (ha : 0 ≤ a) (hb : 0 ≤ b) (hw : Wrm t u a b n) (hnm : n ≤ m) {i : Nat} (hi : i < n) : thw p t a i ≤ thw p u b i :=
  dep_mono hL hM hle p.1.length 0 _ _ (by omega) (year_bd hT ha (show i < m by omega)).2.1.1 (Rs_mono hT hU ha hb hw hnm hi)
theorem goe_mono {t u : E29} {i : Nat} (h0 : 0 ≤ u.2.2.2.1.getD i 0) (hw : u.2.2.2.1.getD i 0 ≤ t.2.2.2.1.getD i 0) (hs : t.2.2.2.2.1.getD i 0 ≤ u.2.2.2.2.1.getD i 0) (h9 : u.2.2.2.2.1.getD i 0 ≤ 1000) : goe u i ≤ goe t i := by
  unfold goe
  refine Int.ediv_le_ediv (by omega) ?_
  exact Int.mul_le_mul hw (by omega) (by omega) (by omega)
end Go.Proofs.YtbidmbjkjpdgdaaDoor.Abs

/-
  Plain laws of the ground layer, eighth part: what is known of each year.
-/
set_option linter.unusedVariables false
set_option linter.unusedSimpArgs false
set_option maxRecDepth 100000
namespace Go.Proofs.YtbidmbjkjpdgdaaDoor.Abs

section
variable {p : E25} {l : List E72} {t : E29}
theorem hea_of {i : Nat} : hea t i = t.2.1.getD i 0 + t.2.2.1.getD i 0 := rfl
/-- Any truth is at least as cold as the warmest one, and at least as warm as the coldest one. -/
theorem truB_spec (ht : truB p l t = true) : insI t.1 p.1.length (fun i => (p.1.getD i dL).2.1) = true ∧ insI t.2.1 l.length (fun i => p.2.1) = true ∧ insI t.2.2.1 l.length (fun i => (l.getD i dY).1) = true ∧ insI t.2.2.2.1 l.length (fun i => (l.getD i dY).2.1) = true ∧ insI t.2.2.2.2.1 l.length (fun i => (l.getD i dY).2.2.1) = true := by
  unfold truB at ht
  simp only [Bool.and_eq_true] at ht
  exact ⟨ht.1.1.1.1, ht.1.1.1.2, ht.1.1.2, ht.1.2, ht.2⟩
theorem eT_M {w : Bool} {i : Nat} (hi : i < p.1.length) : (eT w p l).1.getD i 0 = eM w (p.1.getD i dL) := map_getD hi
theorem eT_W {w : Bool} {i : Nat} (hi : i < l.length) : (eT w p l).2.1.getD i 0 = eW w p := map_getD (d := dY) hi
theorem eT_S {w : Bool} {i : Nat} (hi : i < l.length) : (eT w p l).2.2.1.getD i 0 = eS w (l.getD i dY) := map_getD hi
theorem eT_I {w : Bool} {i : Nat} (hi : i < l.length) : (eT w p l).2.2.2.1.getD i 0 = eI w (l.getD i dY) := map_getD hi
theorem eT_N {w : Bool} {i : Nat} (hi : i < l.length) : (eT w p l).2.2.2.2.1.getD i 0 = eN w (l.getD i dY) := map_getD hi
theorem wrm_hot (hl : l.length ≤ 12) (hp : okPl p = true) (hy : l.all okY = true) (ht : truB p l t = true) {a : Int} : Wrm t (eT true p l) a a l.length := by
  obtain ⟨t0, t1, t2, t3, t4⟩ := truB_spec ht
  refine ⟨fun i hi => ?_, fun i hi => ?_⟩
  · have a1 := (insI_spec t1).2 i hi
    have a2 := (insI_spec t2).2 i hi
    rw [hea_of, hea_of, eT_W hi, eT_S hi]
    simp only [eW, eS, cond_true]
    omega
  · have a3 := (insI_spec t3).2 i hi
    have a4 := (insI_spec t4).2 i hi
    have b := (okY_spec hy hi).2
    have := goe_mono (t := t) (u := eT true p l) (i := i) (by rw [eT_I hi]; simp only [eI, cond_true]; omega) (by rw [eT_I hi]; simp only [eI, cond_true]; omega) (by rw [eT_N hi]; simp only [eN, cond_true]; omega) (by rw [eT_N hi]; simp only [eN, cond_true]; omega)
    omega
theorem wrm_cold (hl : l.length ≤ 12) (hp : okPl p = true) (hy : l.all okY = true) (ht : truB p l t = true) {a : Int} : Wrm (eT false p l) t a a l.length := by
  obtain ⟨t0, t1, t2, t3, t4⟩ := truB_spec ht
  refine ⟨fun i hi => ?_, fun i hi => ?_⟩
  · have a1 := (insI_spec t1).2 i hi
    have a2 := (insI_spec t2).2 i hi
    rw [hea_of, hea_of, eT_W hi, eT_S hi]
    simp only [eW, eS, cond_false]
    omega
  · have a3 := (insI_spec t3).2 i hi
    have a4 := (insI_spec t4).2 i hi
    have b := (okY_spec hy hi).2
    have := goe_mono (t := eT false p l) (u := t) (i := i) (by omega) (by rw [eT_I hi]; simp only [eI, cond_false]; omega) (by rw [eT_N hi]; simp only [eN, cond_false]; omega) (by omega)
    omega
theorem melt_hot (ht : truB p l t = true) {i : Nat} (hi : i < p.1.length) : (eT true p l).1.getD i 0 ≤ t.1.getD i 0 := by
  have := (insI_spec (truB_spec ht).1).2 i hi
  rw [eT_M hi]
  simp only [eM, cond_true]
  omega
theorem melt_cold (ht : truB p l t = true) {i : Nat} (hi : i < p.1.length) : t.1.getD i 0 ≤ (eT false p l).1.getD i 0 := by
  have := (insI_spec (truB_spec ht).1).2 i hi
  rw [eT_M hi]
  simp only [eM, cond_false]
  omega
/-- The depth of thaw, and the heat that is left, lie between both ends'. -/
theorem thw_hot (hl : l.length ≤ 12) (hp : okPl p = true) (hy : l.all okY = true) (ht : truB p l t = true) {a : Int} (ha : 0 ≤ a) {i : Nat} (hi : i < l.length) : thw p t a i ≤ thw p (eT true p l) a i := by
  obtain ⟨hT, hL⟩ := tru_of hl hp hy ht
  obtain ⟨hU, hM⟩ := tru_of hl hp hy (eT_true hp hy true)
  exact thw_mono hT hU hL hM (fun i hi => melt_hot ht hi) ha ha (wrm_hot hl hp hy ht) (Nat.le_refl _) hi
theorem thw_cold (hl : l.length ≤ 12) (hp : okPl p = true) (hy : l.all okY = true) (ht : truB p l t = true) {a : Int} (ha : 0 ≤ a) {i : Nat} (hi : i < l.length) : thw p (eT false p l) a i ≤ thw p t a i := by
  obtain ⟨hT, hL⟩ := tru_of hl hp hy ht
  obtain ⟨hU, hM⟩ := tru_of hl hp hy (eT_true hp hy false)
  exact thw_mono hU hT hM hL (fun i hi => melt_cold ht hi) ha ha (wrm_cold hl hp hy ht) (Nat.le_refl _) hi
theorem lef_hot (hl : l.length ≤ 12) (hp : okPl p = true) (hy : l.all okY = true) (ht : truB p l t = true) {a : Int} (ha : 0 ≤ a) {i : Nat} (hi : i ≤ l.length) : (RL t a i).2 ≤ (RL (eT true p l) a i).2 := by
  obtain ⟨hT, hL⟩ := tru_of hl hp hy ht
  obtain ⟨hU, hM⟩ := tru_of hl hp hy (eT_true hp hy true)
  exact (RL_mono hT hU ha ha (wrm_hot hl hp hy ht) (Nat.le_refl _) i hi).2
theorem lef_cold (hl : l.length ≤ 12) (hp : okPl p = true) (hy : l.all okY = true) (ht : truB p l t = true) {a : Int} (ha : 0 ≤ a) {i : Nat} (hi : i ≤ l.length) : (RL (eT false p l) a i).2 ≤ (RL t a i).2 := by
  obtain ⟨hT, hL⟩ := tru_of hl hp hy ht
  obtain ⟨hU, hM⟩ := tru_of hl hp hy (eT_true hp hy false)
  exact (RL_mono hU hT ha ha (wrm_cold hl hp hy ht) (Nat.le_refl _) i hi).2
end

/-- What is known of a year. -/
def kno (p : E25) (l : List E72) (j : Nat) : E53 :=
  ((thw p (eT false p l) 0 j, (thw p (eT true p l) 0 j, ())), (((RL (eT false p l) 0 (j + 1)).2, ((RL (eT true p l) 0 (j + 1)).2, ())), ((if (RL (eT true p l) 0 (j + 1)).2 = 0 then 1 else if (RL (eT false p l) 0 (j + 1)).2 > 0 then 3 else 2), ())))
def Kno (p : E25) (l : List E72) (n : Nat) : List E53 := (List.range n).map (kno p l)
theorem Kno_succ (p : E25) (l : List E72) (n : Nat) : Kno p l (n + 1) = Kno p l n ++ [kno p l n] := by simp [Kno, List.range_succ]
theorem Kno_len (p : E25) (l : List E72) (n : Nat) : (Kno p l n).length = n := by simp [Kno]
theorem Kno_getD {p : E25} {l : List E72} {n i : Nat} {d : E53} (hi : i < n) : (Kno p l n).getD i d = kno p l i := map_range_getD hi

theorem years_how {a b : E90} {o : List E53} {j k m : Int} {u v : Int} {p : E25} {tab : List Int} : ∃ q, g23_ground_Years_l1_run ((a, (b, (o, (j, (0, (k, (m, ((u, (v, ())), (0, ()))))))))), (p, (tab, ()))) = some (0, q) ∧ q.1.1 = a ∧ q.1.2.1 = b ∧ q.1.2.2.1 = o ∧ q.1.2.2.2.1 = j ∧ q.1.2.2.2.2.1 = (bif decide (u > 0) then (bif decide (v > 0) then 2 else 1) else (bif decide (v > 0) then 1 else 0)) ∧ q.1.2.2.2.2.2.1 = k ∧ q.1.2.2.2.2.2.2.1 = m ∧ q.2.1 = p ∧ q.2.2.1 = tab := by
  unfold g23_ground_Years_l1_run
  rw [show g23_ground_Years_l1_fuel ((a, (b, (o, (j, (0, (k, (m, ((u, (v, ())), (0, ()))))))))), (p, (tab, ()))) = 1 + 1 + 1 from rfl]
  have s1 : g23_ground_Years_l1_step ((a, (b, (o, (j, (0, (k, (m, ((u, (v, ())), (0, ()))))))))), (p, (tab, ()))) = some (0, ((a, (b, (o, (j, ((bif decide (u > 0) then 1 else 0), (k, (m, ((u, (v, ())), (1, ()))))))))), (p, (tab, ())))) := by
    unfold g23_ground_Years_l1_step
    simp only [show decide ((0 : Int) < 2) = true from rfl, show decide ((0 : Int) = 0) = true from rfl, cond_true]
    cases decide (u > 0) <;> rfl
  have s2 : ∀ h : Int, 0 ≤ h → h ≤ 1 → g23_ground_Years_l1_step ((a, (b, (o, (j, (h, (k, (m, ((u, (v, ())), (1, ()))))))))), (p, (tab, ()))) = some (0, ((a, (b, (o, (j, ((bif decide (v > 0) then h + 1 else h), (k, (m, ((u, (v, ())), (2, ()))))))))), (p, (tab, ())))) := by
    intro h h0 h1
    have w : IntKind.wrap .i64 (h + 1) = h + 1 := wr (by omega) (by omega)
    unfold g23_ground_Years_l1_step
    simp only [show decide ((1 : Int) < 2) = true from rfl, show decide ((1 : Int) = 0) = false from rfl, show decide ((1 : Int) = 1) = true from rfl, cond_true, cond_false, w]
    cases decide (v > 0) <;> rfl
  have s3 : ∀ h : Int, g23_ground_Years_l1_step ((a, (b, (o, (j, (h, (k, (m, ((u, (v, ())), (2, ()))))))))), (p, (tab, ()))) = some (1, ((a, (b, (o, (j, (h, (k, (m, ((u, (v, ())), (2, ()))))))))), (p, (tab, ())))) := by
    intro h
    unfold g23_ground_Years_l1_step
    simp only [show decide ((2 : Int) < 2) = false from rfl, cond_false]
  rw [iter_one s1, iter_one (s2 _ (by cases decide (u > 0) <;> simp) (by cases decide (u > 0) <;> simp)), iter_out (s3 _)]
  refine ⟨_, rfl, rfl, rfl, rfl, rfl, ?_, rfl, rfl, rfl, rfl⟩
  cases decide (u > 0) <;> cases decide (v > 0) <;> rfl
theorem g23_bad {p : E25} {l : List E72} (hp : p.1.length < 2 ^ 40) (hl : l.length < 2 ^ 40) (h : errOf p l true ≠ 0) : g23_ground_Years p l = some ([], (errOf p l true, ())) := by
  unfold g23_ground_Years
  rw [g51 p l _ hp hl]
  simp only [Option.bind_some]
  rw [show (errOf p l true != 0) = true from by simpa using h]
  rfl
theorem lef_ends {p : E25} {l : List E72} (hl : l.length ≤ 12) (hp : okPl p = true) (hy : l.all okY = true) {i : Nat} (hi : i ≤ l.length) : 0 ≤ (RL (eT false p l) 0 i).2 ∧ (RL (eT false p l) 0 i).2 ≤ (RL (eT true p l) 0 i).2 := by
  obtain ⟨hT, hL⟩ := tru_of hl hp hy (eT_true hp hy false)
  exact ⟨(RL_bd hT (Int.le_refl 0) i hi).2.1, lef_hot hl hp hy (eT_true hp hy false) (Int.le_refl 0) hi⟩
theorem g23_ok {p : E25} {l : List E72} (h : errOf p l true = 0) : g23_ground_Years p l = some (Kno p l l.length, (0, ())) := by
  obtain ⟨hl, _, hp, hy⟩ := errOf_zero h
  have hpl := okPl_len hp
  obtain ⟨y, h2⟩ := g57 hl hp hy
  obtain ⟨z, h1⟩ := g58 (more := 0) hl hp hy (Int.le_refl 0) (by omega)
  unfold g23_ground_Years g23_ground_Years_l0_run
  rw [g51 p l _ (by omega) (by omega), h, h2, h1]
  simp only [Option.bind_some, show ((0 : Int) != 0) = false from rfl, cond_false]
  obtain ⟨q, q1, q2⟩ := iter_all (step := g23_ground_Years_l0_step) (n := l.length) (k := 0) (fun i s => s.1.1 = FB p (eT false p l) 0 y l.length ∧ s.1.2.1 = FB p (eT true p l) 0 z l.length ∧ s.1.2.2.1 = Kno p l i ∧ s.1.2.2.2.1 = (l.length : Int) ∧ s.1.2.2.2.2.1 = (i : Int) ∧ s.2.2.1 = [1, 2, 3]) (fun q => q.1.2.2.1 = Kno p l l.length)
    (fun i s hs hi => by
      obtain ⟨e1, e2, e3, e4, e5, e6⟩ := hs
      obtain ⟨r0, r1⟩ := lef_ends hl hp hy (show i + 1 ≤ l.length by omega)
      obtain ⟨q, q1, q2, q3, q4, q5, q6, q7, q8, q9, q10⟩ := years_how (a := FB p (eT false p l) 0 y l.length) (b := FB p (eT true p l) 0 z l.length) (o := Kno p l i) (j := (i : Int)) (k := (l.length : Int)) (m := (i : Int)) (u := (RL (eT false p l) 0 (i + 1)).2) (v := (RL (eT true p l) 0 (i + 1)).2) (p := s.2.1) (tab := [1, 2, 3])
      have st : g23_ground_Years_l0_step s = some (0, ((FB p (eT false p l) 0 y l.length, (FB p (eT true p l) 0 z l.length, (Kno p l (i + 1), ((l.length : Int), ((IntKind.wrap .i64 ((i : Int) + 1)), ()))))), (s.2.1, ([1, 2, 3], ())))) := by
        unfold g23_ground_Years_l0_step
        simp only [e1, e2, e3, e4, e5, e6]
        simp only [show (FB p (eT false p l) 0 y l.length).2.2.2.2.2.2.2.1 = Ls (eT false p l) 0 l.length from rfl, show (FB p (eT true p l) 0 z l.length).2.2.2.2.2.2.2.1 = Ls (eT true p l) 0 l.length from rfl, Ls_len, getD_toNat, Ls_getD hi, inside_lt hi, show decide ((i : Int) < (l.length : Int)) = true from by simp; omega, cond_true, q1, Option.bind_some, q2, q3, q4, q5, q6, q7, q8, q9, q10]
        simp only [show (FB p (eT false p l) 0 y l.length).2.2.2.2.2.2.2.1 = Ls (eT false p l) 0 l.length from rfl, show (FB p (eT true p l) 0 z l.length).2.2.2.2.2.2.2.1 = Ls (eT true p l) 0 l.length from rfl, show (FB p (eT false p l) 0 y l.length).2.2.2.2.2.2.1 = Ds p (eT false p l) 0 l.length from rfl, show (FB p (eT true p l) 0 z l.length).2.2.2.2.2.2.1 = Ds p (eT true p l) 0 l.length from rfl, Ls_len, Ds_len, getD_toNat, Ls_getD hi, Ds_getD hi, inside_lt hi, cond_true]
        have hin : (decide (0 ≤ (bif decide ((RL (eT false p l) 0 (i + 1)).2 > 0) then (bif decide ((RL (eT true p l) 0 (i + 1)).2 > 0) then (2 : Int) else 1) else (bif decide ((RL (eT true p l) 0 (i + 1)).2 > 0) then 1 else 0))) && decide ((bif decide ((RL (eT false p l) 0 (i + 1)).2 > 0) then (bif decide ((RL (eT true p l) 0 (i + 1)).2 > 0) then (2 : Int) else 1) else (bif decide ((RL (eT true p l) 0 (i + 1)).2 > 0) then 1 else 0)) < (3 : Int))) = true := by
          cases decide ((RL (eT false p l) 0 (i + 1)).2 > 0) <;> cases decide ((RL (eT true p l) 0 (i + 1)).2 > 0) <;> rfl
        rw [hin, lim_ok (by simp [Kno_len]; omega), Kno_succ]
        simp only [cond_true]
        have hk : List.getD [1, 2, 3] (Int.toNat (bif decide ((RL (eT false p l) 0 (i + 1)).2 > 0) then (bif decide ((RL (eT true p l) 0 (i + 1)).2 > 0) then (2 : Int) else 1) else (bif decide ((RL (eT true p l) 0 (i + 1)).2 > 0) then 1 else 0))) 0 = (if (RL (eT true p l) 0 (i + 1)).2 = 0 then (1 : Int) else if (RL (eT false p l) 0 (i + 1)).2 > 0 then 3 else 2) := by
          by_cases h1 : (RL (eT true p l) 0 (i + 1)).2 = 0
          · rw [if_pos h1, show decide ((RL (eT true p l) 0 (i + 1)).2 > 0) = false from by simp; omega, show decide ((RL (eT false p l) 0 (i + 1)).2 > 0) = false from by simp; omega]
            rfl
          · rw [if_neg h1, show decide ((RL (eT true p l) 0 (i + 1)).2 > 0) = true from by simp; omega]
            by_cases h2 : (RL (eT false p l) 0 (i + 1)).2 > 0
            · rw [if_pos h2, show decide ((RL (eT false p l) 0 (i + 1)).2 > 0) = true from by simpa using h2]
              rfl
            · rw [if_neg h2, show decide ((RL (eT false p l) 0 (i + 1)).2 > 0) = false from by simpa using h2]
              rfl
        rw [hk]
        rfl
      exact ⟨_, st, rfl, rfl, rfl, rfl, wr (by omega) (by omega), rfl⟩)
    (fun s hs => by
      obtain ⟨e1, e2, e3, e4, e5, e6⟩ := hs
      have st : g23_ground_Years_l0_step s = some (1, ((s.1.1, (s.1.2.1, (s.1.2.2.1, (s.1.2.2.2.1, (s.1.2.2.2.2.1, ()))))), (s.2.1, (s.2.2.1, ())))) := by
        unfold g23_ground_Years_l0_step
        simp only [e4, e5, show decide ((l.length : Int) < (l.length : Int)) = false from by simp, cond_false]
      exact ⟨_, st, e3⟩)
    (g23_ground_Years_l0_fuel ((FB p (eT false p l) 0 y l.length, (FB p (eT true p l) 0 z l.length, ([], ((List.length l : Int), (0, ()))))), (p, ((1 :: (2 :: (3 :: []))), ())))) ((FB p (eT false p l) 0 y l.length, (FB p (eT true p l) 0 z l.length, ([], ((List.length l : Int), (0, ()))))), (p, ((1 :: (2 :: (3 :: []))), ()))) (by simp [g23_ground_Years_l0_fuel]) ⟨rfl, rfl, rfl, rfl, rfl, rfl⟩
  rw [q1]
  simp only [Option.bind_some, q2]
end Go.Proofs.YtbidmbjkjpdgdaaDoor.Abs

/-
  Plain laws of the ground layer, ninth part: which truths are fair.
-/
set_option linter.unusedVariables false
set_option linter.unusedSimpArgs false
set_option maxRecDepth 100000
namespace Go.Proofs.YtbidmbjkjpdgdaaDoor.Abs

/-- A place, years and a truth that are as defined. -/
structure Fair (p : E25) (l : List E72) (t : E29) : Prop where
  err : errOf p l true = 0
  tru : truB p l t = true
theorem Fair.few {p : E25} {l : List E72} {t : E29} (h : Fair p l t) : l.length ≤ 12 := (errOf_zero h.err).1
theorem Fair.place {p : E25} {l : List E72} {t : E29} (h : Fair p l t) : okPl p = true := (errOf_zero h.err).2.2.1
theorem Fair.years {p : E25} {l : List E72} {t : E29} (h : Fair p l t) : l.all okY = true := (errOf_zero h.err).2.2.2
theorem Fair.T {p : E25} {l : List E72} {t : E29} (h : Fair p l t) : Tru t l.length := (tru_of h.few h.place h.years h.tru).1
theorem Fair.L {p : E25} {l : List E72} {t : E29} (h : Fair p l t) : Lay p.1 t.1 := (tru_of h.few h.place h.years h.tru).2
theorem fair_end {p : E25} {l : List E72} {w : Bool} (h : errOf p l true = 0) : Fair p l (eT w p l) :=
  ⟨h, eT_true (errOf_zero h).2.2.1 (errOf_zero h).2.2.2 w⟩
theorem g22 (p : E25) (l : List E72) (t : E29) : ∃ b, g22_taliklaw01_fair p l t = some b ∧ (b = true → Fair p l t) := by
  unfold g22_taliklaw01_fair
  rw [g13, g14]
  simp only [Option.bind_some]
  cases hs : decide (p.1.length ≤ 12) && decide (l.length ≤ 17) with
  | false => exact ⟨false, rfl, fun h => by cases h⟩
  | true =>
    simp only [cond_true]
    cases hz : decide (t.1.length ≤ 12) && decide (t.2.1.length ≤ 20) && decide (t.2.2.1.length ≤ 20) && decide (t.2.2.2.1.length ≤ 20) && decide (t.2.2.2.2.1.length ≤ 20) with
    | false => exact ⟨false, rfl, fun h => by cases h⟩
    | true =>
      simp only [Bool.and_eq_true, decide_eq_true_eq] at hs
      simp only [cond_true]
      rw [g17 p l (by omega) (by omega), g18 p l t (by omega) (by omega)]
      simp only [Option.bind_some]
      cases he : errOf p l true == 0 with
      | false => exact ⟨false, rfl, fun h => by cases h⟩
      | true => exact ⟨truB p l t, rfl, fun h => ⟨by simpa using he, h⟩⟩
theorem Fair.play {p : E25} {l : List E72} {t : E29} (h : Fair p l t) : g16_ground_Play p l t = some (Ds p t 0 l.length, ((Ins t l.length, (Outs t 0 l.length, ((RL t 0 l.length).2, ()))), (0, ()))) :=
  g16_ok h.few h.place h.years h.tru
theorem Fair.known {p : E25} {l : List E72} {t : E29} (h : Fair p l t) : g23_ground_Years p l = some (Kno p l l.length, (0, ())) := g23_ok h.err
theorem Fair.thaw {p : E25} {l : List E72} {t : E29} (h : Fair p l t) {i : Nat} (hi : i < l.length) : thw p (eT false p l) 0 i ≤ thw p t 0 i ∧ thw p t 0 i ≤ thw p (eT true p l) 0 i :=
  ⟨thw_cold h.few h.place h.years h.tru (Int.le_refl 0) hi, thw_hot h.few h.place h.years h.tru (Int.le_refl 0) hi⟩
theorem Fair.left {p : E25} {l : List E72} {t : E29} (h : Fair p l t) {i : Nat} (hi : i ≤ l.length) : (RL (eT false p l) 0 i).2 ≤ (RL t 0 i).2 ∧ (RL t 0 i).2 ≤ (RL (eT true p l) 0 i).2 :=
  ⟨lef_cold h.few h.place h.years h.tru (Int.le_refl 0) hi, lef_hot h.few h.place h.years h.tru (Int.le_refl 0) hi⟩
theorem Fair.least {p : E25} {l : List E72} {t : E29} (h : Fair p l t) {i : Nat} (hi : i ≤ l.length) : 0 ≤ (RL t 0 i).2 := (RL_bd h.T (Int.le_refl 0) i hi).2.1
end Go.Proofs.YtbidmbjkjpdgdaaDoor.Abs
