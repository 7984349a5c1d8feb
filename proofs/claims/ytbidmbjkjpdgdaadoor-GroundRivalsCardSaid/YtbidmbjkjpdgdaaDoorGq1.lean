/-
  Plain laws of the ground layer, second part: which truths are as defined.
-/
import Derived.Test.YtbidmbjkjpdgdaaDoorGq0
set_option linter.unusedVariables false
set_option linter.unusedSimpArgs false
set_option maxRecDepth 100000
namespace Go.Proofs.YtbidmbjkjpdgdaaDoor.Abs

/-- Numbers in spans, one for each of so many things. -/
def insI (a : List Int) (n : Nat) (f : Nat → E23) : Bool := decide (a.length = n) && (List.range n).all fun i => inB (a.getD i 0) (f i).1 (f i).2.1
theorem range_all {n : Nat} {f : Nat → Bool} : (List.range n).all f = true ↔ ∀ i, i < n → f i = true := by simp
theorem range_not {n i : Nat} {f : Nat → Bool} (hi : i < n) (h : f i = false) : (List.range n).all f = false := by
  cases ha : (List.range n).all f with
  | false => rfl
  | true => rw [range_all.1 ha i hi] at h; cases h

theorem s_g44_ground_inside (a : List Int) (l : List E70) (hl : a.length < 2 ^ 40) : g44_ground_inside a l = some (insI a l.length (fun i => (l.getD i dL).2.1)) := by
  unfold g44_ground_inside g44_ground_inside_l0_run
  by_cases hlen : a.length = l.length
  · rw [show ((List.length a : Int) != (List.length l : Int)) = false from by simp; omega]
    simp only [cond_false]
    rcases iter_find (step := g44_ground_inside_l0_step) (bad := fun i => !inB (a.getD i 0) ((l.getD i dL).2.1).1 ((l.getD i dL).2.1).2.1) (n := a.length) (k1 := 0) (k2 := 1) (fun i s => s.1.1 = l ∧ s.1.2.2.1 = a ∧ s.1.2.2.2.1 = (a.length : Int) ∧ s.1.2.2.2.2.1 = (i : Int)) (fun j s => s.1.2.1 = false) (fun s => True)
      (fun i s h hi hb => by
        obtain ⟨h1, h2, h3, h4⟩ := h
        simp only [g44_ground_inside_l0_step, h1, h2, h3, h4, inside_lt hi, inside_lt (show i < l.length by omega), g45_ground_Play_1, g70, getD_toNat, show decide ((i : Int) < (a.length : Int)) = true from by simp; omega, cond_true, Option.bind_some]
        rw [show (0, ((0, (0, ())), ())) = dL from rfl]
        rw [hb]
        exact ⟨_, rfl, rfl, rfl, rfl, wr (by omega) (by omega)⟩)
      (fun i s h hi hb => by
        obtain ⟨h1, h2, h3, h4⟩ := h
        simp only [g44_ground_inside_l0_step, h1, h2, h3, h4, inside_lt hi, inside_lt (show i < l.length by omega), g45_ground_Play_1, g70, getD_toNat, show decide ((i : Int) < (a.length : Int)) = true from by simp; omega, cond_true, Option.bind_some]
        rw [show (0, ((0, (0, ())), ())) = dL from rfl]
        rw [hb]
        exact ⟨_, rfl, rfl⟩)
      (fun s h => by
        obtain ⟨h1, h2, h3, h4⟩ := h
        simp only [g44_ground_inside_l0_step, h1, h2, h3, h4, show decide ((a.length : Int) < (a.length : Int)) = false from by simp, cond_false]
        exact ⟨_, rfl, trivial⟩)
      a.length 0 (g44_ground_inside_l0_fuel ((l, (false, (a, ((List.length a : Int), (0, ()))))), ())) ((l, (false, (a, ((List.length a : Int), (0, ()))))), ()) (by omega) (by simp [g44_ground_inside_l0_fuel]) ⟨rfl, rfl, rfl, rfl⟩ with ⟨j, q, _, hj, hb, _, h1, h2⟩ | ⟨hb, q, h1, h2⟩
    · rw [h1]
      simp only [Option.bind_some, natK, h2]
      rw [show insI a l.length (fun i => (l.getD i dL).2.1) = false from by
        unfold insI
        rw [range_not (i := j) (by omega) (by simpa using hb)]; simp]
    · rw [h1]
      simp only [Option.bind_some, natK]
      rw [show insI a l.length (fun i => (l.getD i dL).2.1) = true from by
        unfold insI
        rw [range_all.2 fun i hi => by simpa using hb i (by omega) (by omega)]; simp [hlen]]
  · rw [show ((List.length a : Int) != (List.length l : Int)) = true from by simp; omega]
    simp only [cond_true]
    rw [show insI a l.length (fun i => (l.getD i dL).2.1) = false from by unfold insI; simp [hlen]]

theorem s_g46_ground_inside (a : List Int) (l : List E72) (p : E25) (hl : a.length < 2 ^ 40) : g46_ground_inside a l p = some (insI a l.length (fun i => p.2.1), (p, ())) := by
  unfold g46_ground_inside g46_ground_inside_l0_run
  by_cases hlen : a.length = l.length
  · rw [show ((List.length a : Int) != (List.length l : Int)) = false from by simp; omega]
    simp only [cond_false]
    rcases iter_find (step := g46_ground_inside_l0_step) (bad := fun i => !inB (a.getD i 0) (p.2.1).1 (p.2.1).2.1) (n := a.length) (k1 := 0) (k2 := 1) (fun i s => s.1.1 = l ∧ s.1.2.2.1 = a ∧ s.1.2.2.2.1 = (a.length : Int) ∧ s.1.2.2.2.2.1 = (i : Int) ∧ s.2.1 = p) (fun j s => s.1.2.1 = false ∧ s.2.1 = p) (fun s => s.2.1 = p)
      (fun i s h hi hb => by
        obtain ⟨h1, h2, h3, h4, h5⟩ := h
        simp only [g46_ground_inside_l0_step, h1, h2, h3, h4, h5, inside_lt hi, inside_lt (show i < l.length by omega), g47_ground_Play_2, g70, getD_toNat, show decide ((i : Int) < (a.length : Int)) = true from by simp; omega, cond_true, Option.bind_some]
        
        rw [hb]
        exact ⟨_, rfl, rfl, rfl, rfl, wr (by omega) (by omega), rfl⟩)
      (fun i s h hi hb => by
        obtain ⟨h1, h2, h3, h4, h5⟩ := h
        simp only [g46_ground_inside_l0_step, h1, h2, h3, h4, h5, inside_lt hi, inside_lt (show i < l.length by omega), g47_ground_Play_2, g70, getD_toNat, show decide ((i : Int) < (a.length : Int)) = true from by simp; omega, cond_true, Option.bind_some]
        
        rw [hb]
        exact ⟨_, rfl, rfl, rfl⟩)
      (fun s h => by
        obtain ⟨h1, h2, h3, h4, h5⟩ := h
        simp only [g46_ground_inside_l0_step, h1, h2, h3, h4, h5, show decide ((a.length : Int) < (a.length : Int)) = false from by simp, cond_false]
        exact ⟨_, rfl, rfl⟩)
      a.length 0 (g46_ground_inside_l0_fuel ((l, (false, (a, ((List.length a : Int), (0, ()))))), (p, ()))) ((l, (false, (a, ((List.length a : Int), (0, ()))))), (p, ())) (by omega) (by simp [g46_ground_inside_l0_fuel]) ⟨rfl, rfl, rfl, rfl, rfl⟩ with ⟨j, q, _, hj, hb, _, h1, h2⟩ | ⟨hb, q, h1, h2⟩
    · rw [h1]
      simp only [Option.bind_some, natK, h2.1, h2.2]
      rw [show insI a l.length (fun i => p.2.1) = false from by
        unfold insI
        rw [range_not (i := j) (by omega) (by simpa using hb)]; simp]
    · rw [h1]
      simp only [Option.bind_some, natK, h2]
      rw [show insI a l.length (fun i => p.2.1) = true from by
        unfold insI
        rw [range_all.2 fun i hi => by simpa using hb i (by omega) (by omega)]; simp [hlen]]
  · rw [show ((List.length a : Int) != (List.length l : Int)) = true from by simp; omega]
    simp only [cond_true]
    rw [show insI a l.length (fun i => p.2.1) = false from by unfold insI; simp [hlen]]

theorem s_g46_ground_inside_v1 (a : List Int) (l : List E72) (hl : a.length < 2 ^ 40) : g46_ground_inside_v1 a l = some (insI a l.length (fun i => (l.getD i dY).1)) := by
  unfold g46_ground_inside_v1 g46_ground_inside_v1_l0_run
  by_cases hlen : a.length = l.length
  · rw [show ((List.length a : Int) != (List.length l : Int)) = false from by simp; omega]
    simp only [cond_false]
    rcases iter_find (step := g46_ground_inside_v1_l0_step) (bad := fun i => !inB (a.getD i 0) ((l.getD i dY).1).1 ((l.getD i dY).1).2.1) (n := a.length) (k1 := 0) (k2 := 1) (fun i s => s.1.1 = l ∧ s.1.2.2.1 = a ∧ s.1.2.2.2.1 = (a.length : Int) ∧ s.1.2.2.2.2.1 = (i : Int)) (fun j s => s.1.2.1 = false) (fun s => True)
      (fun i s h hi hb => by
        obtain ⟨h1, h2, h3, h4⟩ := h
        simp only [g46_ground_inside_v1_l0_step, h1, h2, h3, h4, inside_lt hi, inside_lt (show i < l.length by omega), g48_ground_Play_3, g70, getD_toNat, show decide ((i : Int) < (a.length : Int)) = true from by simp; omega, cond_true, Option.bind_some]
        rw [show ((0, (0, ())), ((0, (0, ())), ((0, (0, ())), ()))) = dY from rfl]
        rw [hb]
        exact ⟨_, rfl, rfl, rfl, rfl, wr (by omega) (by omega)⟩)
      (fun i s h hi hb => by
        obtain ⟨h1, h2, h3, h4⟩ := h
        simp only [g46_ground_inside_v1_l0_step, h1, h2, h3, h4, inside_lt hi, inside_lt (show i < l.length by omega), g48_ground_Play_3, g70, getD_toNat, show decide ((i : Int) < (a.length : Int)) = true from by simp; omega, cond_true, Option.bind_some]
        rw [show ((0, (0, ())), ((0, (0, ())), ((0, (0, ())), ()))) = dY from rfl]
        rw [hb]
        exact ⟨_, rfl, rfl⟩)
      (fun s h => by
        obtain ⟨h1, h2, h3, h4⟩ := h
        simp only [g46_ground_inside_v1_l0_step, h1, h2, h3, h4, show decide ((a.length : Int) < (a.length : Int)) = false from by simp, cond_false]
        exact ⟨_, rfl, trivial⟩)
      a.length 0 (g46_ground_inside_v1_l0_fuel ((l, (false, (a, ((List.length a : Int), (0, ()))))), ())) ((l, (false, (a, ((List.length a : Int), (0, ()))))), ()) (by omega) (by simp [g46_ground_inside_v1_l0_fuel]) ⟨rfl, rfl, rfl, rfl⟩ with ⟨j, q, _, hj, hb, _, h1, h2⟩ | ⟨hb, q, h1, h2⟩
    · rw [h1]
      simp only [Option.bind_some, natK, h2]
      rw [show insI a l.length (fun i => (l.getD i dY).1) = false from by
        unfold insI
        rw [range_not (i := j) (by omega) (by simpa using hb)]; simp]
    · rw [h1]
      simp only [Option.bind_some, natK]
      rw [show insI a l.length (fun i => (l.getD i dY).1) = true from by
        unfold insI
        rw [range_all.2 fun i hi => by simpa using hb i (by omega) (by omega)]; simp [hlen]]
  · rw [show ((List.length a : Int) != (List.length l : Int)) = true from by simp; omega]
    simp only [cond_true]
    rw [show insI a l.length (fun i => (l.getD i dY).1) = false from by unfold insI; simp [hlen]]

theorem s_g46_ground_inside_v2 (a : List Int) (l : List E72) (hl : a.length < 2 ^ 40) : g46_ground_inside_v2 a l = some (insI a l.length (fun i => (l.getD i dY).2.1)) := by
  unfold g46_ground_inside_v2 g46_ground_inside_v2_l0_run
  by_cases hlen : a.length = l.length
  · rw [show ((List.length a : Int) != (List.length l : Int)) = false from by simp; omega]
    simp only [cond_false]
    rcases iter_find (step := g46_ground_inside_v2_l0_step) (bad := fun i => !inB (a.getD i 0) ((l.getD i dY).2.1).1 ((l.getD i dY).2.1).2.1) (n := a.length) (k1 := 0) (k2 := 1) (fun i s => s.1.1 = l ∧ s.1.2.2.1 = a ∧ s.1.2.2.2.1 = (a.length : Int) ∧ s.1.2.2.2.2.1 = (i : Int)) (fun j s => s.1.2.1 = false) (fun s => True)
      (fun i s h hi hb => by
        obtain ⟨h1, h2, h3, h4⟩ := h
        simp only [g46_ground_inside_v2_l0_step, h1, h2, h3, h4, inside_lt hi, inside_lt (show i < l.length by omega), g49_ground_Play_4, g70, getD_toNat, show decide ((i : Int) < (a.length : Int)) = true from by simp; omega, cond_true, Option.bind_some]
        rw [show ((0, (0, ())), ((0, (0, ())), ((0, (0, ())), ()))) = dY from rfl]
        rw [hb]
        exact ⟨_, rfl, rfl, rfl, rfl, wr (by omega) (by omega)⟩)
      (fun i s h hi hb => by
        obtain ⟨h1, h2, h3, h4⟩ := h
        simp only [g46_ground_inside_v2_l0_step, h1, h2, h3, h4, inside_lt hi, inside_lt (show i < l.length by omega), g49_ground_Play_4, g70, getD_toNat, show decide ((i : Int) < (a.length : Int)) = true from by simp; omega, cond_true, Option.bind_some]
        rw [show ((0, (0, ())), ((0, (0, ())), ((0, (0, ())), ()))) = dY from rfl]
        rw [hb]
        exact ⟨_, rfl, rfl⟩)
      (fun s h => by
        obtain ⟨h1, h2, h3, h4⟩ := h
        simp only [g46_ground_inside_v2_l0_step, h1, h2, h3, h4, show decide ((a.length : Int) < (a.length : Int)) = false from by simp, cond_false]
        exact ⟨_, rfl, trivial⟩)
      a.length 0 (g46_ground_inside_v2_l0_fuel ((l, (false, (a, ((List.length a : Int), (0, ()))))), ())) ((l, (false, (a, ((List.length a : Int), (0, ()))))), ()) (by omega) (by simp [g46_ground_inside_v2_l0_fuel]) ⟨rfl, rfl, rfl, rfl⟩ with ⟨j, q, _, hj, hb, _, h1, h2⟩ | ⟨hb, q, h1, h2⟩
    · rw [h1]
      simp only [Option.bind_some, natK, h2]
      rw [show insI a l.length (fun i => (l.getD i dY).2.1) = false from by
        unfold insI
        rw [range_not (i := j) (by omega) (by simpa using hb)]; simp]
    · rw [h1]
      simp only [Option.bind_some, natK]
      rw [show insI a l.length (fun i => (l.getD i dY).2.1) = true from by
        unfold insI
        rw [range_all.2 fun i hi => by simpa using hb i (by omega) (by omega)]; simp [hlen]]
  · rw [show ((List.length a : Int) != (List.length l : Int)) = true from by simp; omega]
    simp only [cond_true]
    rw [show insI a l.length (fun i => (l.getD i dY).2.1) = false from by unfold insI; simp [hlen]]

theorem s_g46_ground_inside_v3 (a : List Int) (l : List E72) (hl : a.length < 2 ^ 40) : g46_ground_inside_v3 a l = some (insI a l.length (fun i => (l.getD i dY).2.2.1)) := by
  unfold g46_ground_inside_v3 g46_ground_inside_v3_l0_run
  by_cases hlen : a.length = l.length
  · rw [show ((List.length a : Int) != (List.length l : Int)) = false from by simp; omega]
    simp only [cond_false]
    rcases iter_find (step := g46_ground_inside_v3_l0_step) (bad := fun i => !inB (a.getD i 0) ((l.getD i dY).2.2.1).1 ((l.getD i dY).2.2.1).2.1) (n := a.length) (k1 := 0) (k2 := 1) (fun i s => s.1.1 = l ∧ s.1.2.2.1 = a ∧ s.1.2.2.2.1 = (a.length : Int) ∧ s.1.2.2.2.2.1 = (i : Int)) (fun j s => s.1.2.1 = false) (fun s => True)
      (fun i s h hi hb => by
        obtain ⟨h1, h2, h3, h4⟩ := h
        simp only [g46_ground_inside_v3_l0_step, h1, h2, h3, h4, inside_lt hi, inside_lt (show i < l.length by omega), g50_ground_Play_5, g70, getD_toNat, show decide ((i : Int) < (a.length : Int)) = true from by simp; omega, cond_true, Option.bind_some]
        rw [show ((0, (0, ())), ((0, (0, ())), ((0, (0, ())), ()))) = dY from rfl]
        rw [hb]
        exact ⟨_, rfl, rfl, rfl, rfl, wr (by omega) (by omega)⟩)
      (fun i s h hi hb => by
        obtain ⟨h1, h2, h3, h4⟩ := h
        simp only [g46_ground_inside_v3_l0_step, h1, h2, h3, h4, inside_lt hi, inside_lt (show i < l.length by omega), g50_ground_Play_5, g70, getD_toNat, show decide ((i : Int) < (a.length : Int)) = true from by simp; omega, cond_true, Option.bind_some]
        rw [show ((0, (0, ())), ((0, (0, ())), ((0, (0, ())), ()))) = dY from rfl]
        rw [hb]
        exact ⟨_, rfl, rfl⟩)
      (fun s h => by
        obtain ⟨h1, h2, h3, h4⟩ := h
        simp only [g46_ground_inside_v3_l0_step, h1, h2, h3, h4, show decide ((a.length : Int) < (a.length : Int)) = false from by simp, cond_false]
        exact ⟨_, rfl, trivial⟩)
      a.length 0 (g46_ground_inside_v3_l0_fuel ((l, (false, (a, ((List.length a : Int), (0, ()))))), ())) ((l, (false, (a, ((List.length a : Int), (0, ()))))), ()) (by omega) (by simp [g46_ground_inside_v3_l0_fuel]) ⟨rfl, rfl, rfl, rfl⟩ with ⟨j, q, _, hj, hb, _, h1, h2⟩ | ⟨hb, q, h1, h2⟩
    · rw [h1]
      simp only [Option.bind_some, natK, h2]
      rw [show insI a l.length (fun i => (l.getD i dY).2.2.1) = false from by
        unfold insI
        rw [range_not (i := j) (by omega) (by simpa using hb)]; simp]
    · rw [h1]
      simp only [Option.bind_some, natK]
      rw [show insI a l.length (fun i => (l.getD i dY).2.2.1) = true from by
        unfold insI
        rw [range_all.2 fun i hi => by simpa using hb i (by omega) (by omega)]; simp [hlen]]
  · rw [show ((List.length a : Int) != (List.length l : Int)) = true from by simp; omega]
    simp only [cond_true]
    rw [show insI a l.length (fun i => (l.getD i dY).2.2.1) = false from by unfold insI; simp [hlen]]


/-- A truth is one of a place and years. -/
def truB (p : E25) (l : List E72) (t : E29) : Bool := insI t.1 p.1.length (fun i => (p.1.getD i dL).2.1) && insI t.2.1 l.length (fun i => p.2.1) && insI t.2.2.1 l.length (fun i => (l.getD i dY).1) && insI t.2.2.2.1 l.length (fun i => (l.getD i dY).2.1) && insI t.2.2.2.2.1 l.length (fun i => (l.getD i dY).2.2.1)
theorem g25 (n : Int) (s : E23) : g25_talikref01_Inside n s = some (inB n s.1 s.2.1) := by
  unfold g25_talikref01_Inside; rw [g59]; rfl
theorem g18 (p : E25) (l : List E72) (t : E29) (hp : p.1.length < 2 ^ 40) (hl : l.length < 2 ^ 40) : g18_talikref01_Truth p l t = some (truB p l t) := by
  unfold g18_talikref01_Truth truB
  have ne : ∀ {a b : Nat}, a ≠ b → ((a : Int) != (b : Int)) = true := fun h => by simp; omega
  have eq : ∀ {a b : Nat}, a = b → ((a : Int) != (b : Int)) = false := fun h => by simp; omega
  by_cases e1 : t.1.length = p.1.length
  · by_cases e2 : t.2.1.length = l.length
    · by_cases e3 : t.2.2.1.length = l.length
      · by_cases e4 : t.2.2.2.1.length = l.length
        · by_cases e5 : t.2.2.2.2.1.length = l.length
          · rw [eq e1, eq e2, eq e3, eq e4, eq e5]
            simp only [cond_false]
            unfold g18_talikref01_Truth_l0_run
            rcases iter_find (step := g18_talikref01_Truth_l0_step) (bad := fun i => !inB (t.1.getD i 0) ((p.1.getD i dL).2.1).1 ((p.1.getD i dL).2.1).2.1) (n := p.1.length) (k1 := 0) (k2 := 1) (fun i s => s.1.1 = l ∧ s.1.2.2.1 = (i : Int) ∧ s.2.1 = p ∧ s.2.2.1 = t) (fun j s => s.1.2.1 = false) (fun s => s.1.1 = l ∧ s.2.1 = p ∧ s.2.2.1 = t)
              (fun i s h hi hb => by
                obtain ⟨h1, h2, h3, h4⟩ := h
                simp only [g18_talikref01_Truth_l0_step, h1, h2, h3, h4, inside_lt hi, inside_lt (show i < t.1.length by omega), g25, getD_toNat, show decide ((i : Int) < (p.1.length : Int)) = true from by simp; omega, cond_true, Option.bind_some]
                rw [show (0, ((0, (0, ())), ())) = dL from rfl, hb]
                exact ⟨_, rfl, rfl, wr (by omega) (by omega), rfl, rfl⟩)
              (fun i s h hi hb => by
                obtain ⟨h1, h2, h3, h4⟩ := h
                simp only [g18_talikref01_Truth_l0_step, h1, h2, h3, h4, inside_lt hi, inside_lt (show i < t.1.length by omega), g25, getD_toNat, show decide ((i : Int) < (p.1.length : Int)) = true from by simp; omega, cond_true, Option.bind_some]
                rw [show (0, ((0, (0, ())), ())) = dL from rfl, hb]
                exact ⟨_, rfl, rfl⟩)
              (fun s h => by
                obtain ⟨h1, h2, h3, h4⟩ := h
                simp only [g18_talikref01_Truth_l0_step, h1, h2, h3, h4, show decide ((p.1.length : Int) < (p.1.length : Int)) = false from by simp, cond_false]
                exact ⟨_, rfl, rfl, rfl, rfl⟩)
              p.1.length 0 (g18_talikref01_Truth_l0_fuel ((l, (false, (0, ()))), (p, (t, ())))) ((l, (false, (0, ()))), (p, (t, ()))) (by omega) (by simp [g18_talikref01_Truth_l0_fuel]) ⟨rfl, rfl, rfl, rfl⟩ with ⟨j, q, _, hj, hb, _, h1, h2⟩ | ⟨hb, q, h1, h2⟩
            · rw [h1]
              simp only [Option.bind_some, natK, h2]
              rw [show insI t.1 p.1.length (fun i => (p.1.getD i dL).2.1) = false from by
                unfold insI
                rw [range_not (i := j) (by omega) (by simpa using hb)]; simp]
              simp
            · rw [h1]
              obtain ⟨k1, k2, k3⟩ := h2
              simp only [Option.bind_some, natK, k1, k2, k3]
              rw [show insI t.1 p.1.length (fun i => (p.1.getD i dL).2.1) = true from by
                unfold insI
                rw [range_all.2 fun i hi => by simpa using hb i (by omega) (by omega)]; simp [e1]]
              unfold g18_talikref01_Truth_l1_run
              let B1 : Nat → Bool := fun i => inB (t.2.1.getD i 0) p.2.1.1 p.2.1.2.1
              let B2 : Nat → Bool := fun i => inB (t.2.2.1.getD i 0) ((l.getD i dY).1).1 ((l.getD i dY).1).2.1
              let B3 : Nat → Bool := fun i => inB (t.2.2.2.1.getD i 0) ((l.getD i dY).2.1).1 ((l.getD i dY).2.1).2.1
              let B4 : Nat → Bool := fun i => inB (t.2.2.2.2.1.getD i 0) ((l.getD i dY).2.2.1).1 ((l.getD i dY).2.2.1).2.1
              have stp : ∀ (i : Nat) (s : (((List E72) × (Bool × (Int × Unit))) × (E25 × (E29 × Unit)))), s.1.1 = l ∧ s.1.2.2.1 = (i : Int) ∧ s.2.1 = p ∧ s.2.2.1 = t → i < l.length →
                  g18_talikref01_Truth_l1_step s = if B1 i && B2 i && B3 i && B4 i then some (0, ((l, (s.1.2.1, ((IntKind.wrap .i64 ((i : Int) + 1)), ()))), (p, (t, ())))) else some (1, ((l, (false, ((i : Int), ()))), (p, (t, ())))) := fun i s h hi => by
                obtain ⟨h1, h2, h3, h4⟩ := h
                simp only [g18_talikref01_Truth_l1_step, h1, h2, h3, h4, inside_lt hi, inside_lt (show i < t.2.1.length by omega), inside_lt (show i < t.2.2.1.length by omega), inside_lt (show i < t.2.2.2.1.length by omega), inside_lt (show i < t.2.2.2.2.1.length by omega), g25, getD_toNat, show decide ((i : Int) < (l.length : Int)) = true from by simp; omega, cond_true, Option.bind_some]
                rw [show ((0, (0, ())), ((0, (0, ())), ((0, (0, ())), ()))) = dY from rfl]
                show (bif !B1 i then _ else bif !B2 i then _ else bif !B3 i then _ else bif !B4 i then _ else _) = _
                cases B1 i <;> cases B2 i <;> cases B3 i <;> cases B4 i <;> rfl
              rcases iter_find (step := g18_talikref01_Truth_l1_step) (bad := fun i => !(B1 i && B2 i && B3 i && B4 i)) (n := l.length) (k1 := 0) (k2 := 1) (fun i s => s.1.1 = l ∧ s.1.2.2.1 = (i : Int) ∧ s.2.1 = p ∧ s.2.2.1 = t) (fun j s => s.1.2.1 = false) (fun s => True)
                (fun i s h hi hb => by
                  rw [stp i s h hi, if_pos (by simpa using hb)]
                  exact ⟨_, rfl, rfl, wr (by omega) (by omega), rfl, rfl⟩)
                (fun i s h hi hb => by
                  rw [stp i s h hi, if_neg (fun hc => by rw [hc] at hb; cases hb)]
                  exact ⟨_, rfl, rfl⟩)
                (fun s h => by
                  obtain ⟨h1, h2, h3, h4⟩ := h
                  simp only [g18_talikref01_Truth_l1_step, h1, h2, h3, h4, show decide ((l.length : Int) < (l.length : Int)) = false from by simp, cond_false]
                  exact ⟨_, rfl, trivial⟩)
                l.length 0 (g18_talikref01_Truth_l1_fuel ((l, (q.1.2.1, (0, ()))), (p, (t, ())))) ((l, (q.1.2.1, (0, ()))), (p, (t, ()))) (by omega) (by simp [g18_talikref01_Truth_l1_fuel]) ⟨rfl, rfl, rfl, rfl⟩ with ⟨j, q, _, hj, hb, _, h1, h2⟩ | ⟨hb, q, h1, h2⟩
              · rw [h1]
                simp only [Option.bind_some, natK, h2]
                congr 1
                have hb' : (B1 j && B2 j && B3 j && B4 j) = false := by
                  cases hx : (B1 j && B2 j && B3 j && B4 j) with
                  | false => rfl
                  | true => rw [hx] at hb; cases hb
                unfold insI
                symm
                cases c1 : B1 j with
                | false => rw [range_not (f := fun i => inB (t.2.1.getD i 0) p.2.1.1 p.2.1.2.1) hj c1]; simp
                | true =>
                  cases c2 : B2 j with
                  | false => rw [range_not (f := fun i => inB (t.2.2.1.getD i 0) ((l.getD i dY).1).1 ((l.getD i dY).1).2.1) hj c2]; simp
                  | true =>
                    cases c3 : B3 j with
                    | false => rw [range_not (f := fun i => inB (t.2.2.2.1.getD i 0) ((l.getD i dY).2.1).1 ((l.getD i dY).2.1).2.1) hj c3]; simp
                    | true =>
                      cases c4 : B4 j with
                      | false => rw [range_not (f := fun i => inB (t.2.2.2.2.1.getD i 0) ((l.getD i dY).2.2.1).1 ((l.getD i dY).2.2.1).2.1) hj c4]; simp
                      | true => rw [c1, c2, c3, c4] at hb'; cases hb'
              · rw [h1]
                simp only [Option.bind_some, natK]
                congr 1
                have all : ∀ i, i < l.length → (B1 i = true ∧ B2 i = true) ∧ B3 i = true ∧ B4 i = true := fun i hi => by
                  have := hb i (by omega) hi
                  simp only [Bool.not_eq_false', Bool.and_eq_true] at this
                  exact ⟨⟨this.1.1.1, this.1.1.2⟩, this.1.2, this.2⟩
                unfold insI
                rw [range_all.2 fun i hi => (all i hi).1.1, range_all.2 fun i hi => (all i hi).1.2, range_all.2 fun i hi => (all i hi).2.1, range_all.2 fun i hi => (all i hi).2.2]
                simp [e2, e3, e4, e5]
          · rw [eq e1, eq e2, eq e3, eq e4, ne e5]; simp only [cond_false, cond_true]; unfold insI; simp [e5]
        · rw [eq e1, eq e2, eq e3, ne e4]; simp only [cond_false, cond_true]; unfold insI; simp [e4]
      · rw [eq e1, eq e2, ne e3]; simp only [cond_false, cond_true]; unfold insI; simp [e3]
    · rw [eq e1, ne e2]; simp only [cond_false, cond_true]; unfold insI; simp [e2]
  · rw [ne e1]; simp only [cond_true]; unfold insI; simp [e1]

end Go.Proofs.YtbidmbjkjpdgdaaDoor.Abs
