/-
  Plain laws of the ground layer, sixth part: both ends of what is known of a place and years.
-/
import Derived.Test.YtbidmbjkjpdgdaaDoorGq4
set_option linter.unusedVariables false
set_option linter.unusedSimpArgs false
set_option maxRecDepth 100000
namespace Go.Proofs.YtbidmbjkjpdgdaaDoor.Abs

/-- The truth in which the ground is as warm, or as cold, as it can be. -/
def eM (w : Bool) (x : E70) : Int := bif w then x.2.1.1 else x.2.1.2.1
def eW (w : Bool) (p : E25) : Int := bif w then p.2.1.2.1 else p.2.1.1
def eS (w : Bool) (y : E72) : Int := bif w then y.1.2.1 else y.1.1
def eI (w : Bool) (y : E72) : Int := bif w then y.2.1.1 else y.2.1.2.1
def eN (w : Bool) (y : E72) : Int := bif w then y.2.2.1.2.1 else y.2.2.1.1
def eT (w : Bool) (p : E25) (l : List E72) : E29 := (p.1.map (eM w), (l.map (fun _ => eW w p), (l.map (eS w), (l.map (eI w), (l.map (eN w), ())))))

theorem take_map {α : Type} {l : List α} {f : α → Int} {i : Nat} {d : α} (hi : i < l.length) : (l.take i).map f ++ [f (l.getD i d)] = (l.take (i + 1)).map f := by
  rw [List.take_add_one, List.map_append, List.getD_eq_getElem?_getD, List.getElem?_eq_getElem hi]
  rfl
theorem map_getD {α : Type} {l : List α} {f : α → Int} {i : Nat} {d : α} (hi : i < l.length) : (l.map f).getD i 0 = f (l.getD i d) := by
  simp [List.getD_eq_getElem?_getD, List.getElem?_map, List.getElem?_eq_getElem hi]

theorem s_g87_ground_ends (l : List E70) (hl : l.length ≤ 1000) : g87_ground_ends l = some (l.map (eM false), ()) := by
  have hc : ∀ x, g88_ground_end_1 x = some ((eM false) x, ()) := fun _ => rfl
  unfold g87_ground_ends g87_ground_ends_l0_run
  obtain ⟨q, q1, q2⟩ := iter_all (step := g87_ground_ends_l0_step) (n := l.length) (k := 0) (fun i s => s.1.1 = (l.take i).map (eM false) ∧ s.1.2.1 = l ∧ s.1.2.2.1 = (l.length : Int) ∧ s.1.2.2.2.1 = (i : Int)) (fun s => s.1.1 = l.map (eM false))
    (fun i s h hi => by
      obtain ⟨h1, h2, h3, h4⟩ := h
      have st : g87_ground_ends_l0_step s = some (0, (((((l.take (i + 1)).map (eM false))), (l, ((l.length : Int), ((IntKind.wrap .i64 ((i : Int) + 1)), ())))), ())) := by
        unfold g87_ground_ends_l0_step
        rw [← take_map (f := eM false) (d := dL) hi]
        simp only [h1, h2, h3, h4, hc, getD_toNat, inside_lt hi, show decide ((i : Int) < (l.length : Int)) = true from by simp; omega, cond_true, Option.bind_some]
        rw [lim_ok (by simp; omega)]
        rfl
      exact ⟨_, st, rfl, rfl, rfl, wr (by omega) (by omega)⟩)
    (fun s h => by
      obtain ⟨h1, h2, h3, h4⟩ := h
      have st : g87_ground_ends_l0_step s = some (1, ((s.1.1, (s.1.2.1, (s.1.2.2.1, (s.1.2.2.2.1, ())))), ())) := by
        unfold g87_ground_ends_l0_step
        simp only [h3, h4, show decide ((l.length : Int) < (l.length : Int)) = false from by simp, cond_false]
      exact ⟨_, st, by rw [h1, List.take_length]⟩)
    (g87_ground_ends_l0_fuel (([], (l, ((List.length l : Int), (0, ())))), ())) (([], (l, ((List.length l : Int), (0, ())))), ()) (by simp [g87_ground_ends_l0_fuel]) ⟨rfl, rfl, rfl, rfl⟩
  rw [q1]
  simp only [Option.bind_some, q2]

theorem s_g89_ground_ends (l : List E72) (p : E25) (hl : l.length ≤ 1000) : g89_ground_ends l p = some (l.map (fun _ => eW false p), (p, ())) := by
  have hc : ∀ x, g90_ground_end_2 x p = some ((fun _ => eW false p) x, (p, ())) := fun _ => rfl
  unfold g89_ground_ends g89_ground_ends_l0_run
  obtain ⟨q, q1, q2⟩ := iter_all (step := g89_ground_ends_l0_step) (n := l.length) (k := 0) (fun i s => s.1.1 = (l.take i).map (fun _ => eW false p) ∧ s.1.2.1 = l ∧ s.1.2.2.1 = (l.length : Int) ∧ s.1.2.2.2.1 = (i : Int) ∧ s.2.1 = p) (fun s => s.1.1 = l.map (fun _ => eW false p) ∧ s.2.1 = p)
    (fun i s h hi => by
      obtain ⟨h1, h2, h3, h4, h5⟩ := h
      have st : g89_ground_ends_l0_step s = some (0, (((((l.take (i + 1)).map (fun _ => eW false p))), (l, ((l.length : Int), ((IntKind.wrap .i64 ((i : Int) + 1)), ())))), (p, ()))) := by
        unfold g89_ground_ends_l0_step
        rw [← take_map (f := fun _ => eW false p) (d := dY) hi]
        simp only [h1, h2, h3, h4, h5, hc, getD_toNat, inside_lt hi, show decide ((i : Int) < (l.length : Int)) = true from by simp; omega, cond_true, Option.bind_some]
        rw [lim_ok (by simp; omega)]
        rfl
      exact ⟨_, st, rfl, rfl, rfl, wr (by omega) (by omega), rfl⟩)
    (fun s h => by
      obtain ⟨h1, h2, h3, h4, h5⟩ := h
      have st : g89_ground_ends_l0_step s = some (1, ((s.1.1, (s.1.2.1, (s.1.2.2.1, (s.1.2.2.2.1, ())))), (s.2.1, ()))) := by
        unfold g89_ground_ends_l0_step
        simp only [h3, h4, show decide ((l.length : Int) < (l.length : Int)) = false from by simp, cond_false]
      exact ⟨_, st, by rw [h1, List.take_length], h5⟩)
    (g89_ground_ends_l0_fuel (([], (l, ((List.length l : Int), (0, ())))), (p, ()))) (([], (l, ((List.length l : Int), (0, ())))), (p, ())) (by simp [g89_ground_ends_l0_fuel]) ⟨rfl, rfl, rfl, rfl, rfl⟩
  rw [q1]
  simp only [Option.bind_some, q2.1, q2.2]

theorem s_g89_ground_ends_v1 (l : List E72) (hl : l.length ≤ 1000) : g89_ground_ends_v1 l = some (l.map (eS false), ()) := by
  have hc : ∀ x, g91_ground_end_3 x = some ((eS false) x, ()) := fun _ => rfl
  unfold g89_ground_ends_v1 g89_ground_ends_v1_l0_run
  obtain ⟨q, q1, q2⟩ := iter_all (step := g89_ground_ends_v1_l0_step) (n := l.length) (k := 0) (fun i s => s.1.1 = (l.take i).map (eS false) ∧ s.1.2.1 = l ∧ s.1.2.2.1 = (l.length : Int) ∧ s.1.2.2.2.1 = (i : Int)) (fun s => s.1.1 = l.map (eS false))
    (fun i s h hi => by
      obtain ⟨h1, h2, h3, h4⟩ := h
      have st : g89_ground_ends_v1_l0_step s = some (0, (((((l.take (i + 1)).map (eS false))), (l, ((l.length : Int), ((IntKind.wrap .i64 ((i : Int) + 1)), ())))), ())) := by
        unfold g89_ground_ends_v1_l0_step
        rw [← take_map (f := eS false) (d := dY) hi]
        simp only [h1, h2, h3, h4, hc, getD_toNat, inside_lt hi, show decide ((i : Int) < (l.length : Int)) = true from by simp; omega, cond_true, Option.bind_some]
        rw [lim_ok (by simp; omega)]
        rfl
      exact ⟨_, st, rfl, rfl, rfl, wr (by omega) (by omega)⟩)
    (fun s h => by
      obtain ⟨h1, h2, h3, h4⟩ := h
      have st : g89_ground_ends_v1_l0_step s = some (1, ((s.1.1, (s.1.2.1, (s.1.2.2.1, (s.1.2.2.2.1, ())))), ())) := by
        unfold g89_ground_ends_v1_l0_step
        simp only [h3, h4, show decide ((l.length : Int) < (l.length : Int)) = false from by simp, cond_false]
      exact ⟨_, st, by rw [h1, List.take_length]⟩)
    (g89_ground_ends_v1_l0_fuel (([], (l, ((List.length l : Int), (0, ())))), ())) (([], (l, ((List.length l : Int), (0, ())))), ()) (by simp [g89_ground_ends_v1_l0_fuel]) ⟨rfl, rfl, rfl, rfl⟩
  rw [q1]
  simp only [Option.bind_some, q2]

theorem s_g89_ground_ends_v2 (l : List E72) (hl : l.length ≤ 1000) : g89_ground_ends_v2 l = some (l.map (eI false), ()) := by
  have hc : ∀ x, g92_ground_end_4 x = some ((eI false) x, ()) := fun _ => rfl
  unfold g89_ground_ends_v2 g89_ground_ends_v2_l0_run
  obtain ⟨q, q1, q2⟩ := iter_all (step := g89_ground_ends_v2_l0_step) (n := l.length) (k := 0) (fun i s => s.1.1 = (l.take i).map (eI false) ∧ s.1.2.1 = l ∧ s.1.2.2.1 = (l.length : Int) ∧ s.1.2.2.2.1 = (i : Int)) (fun s => s.1.1 = l.map (eI false))
    (fun i s h hi => by
      obtain ⟨h1, h2, h3, h4⟩ := h
      have st : g89_ground_ends_v2_l0_step s = some (0, (((((l.take (i + 1)).map (eI false))), (l, ((l.length : Int), ((IntKind.wrap .i64 ((i : Int) + 1)), ())))), ())) := by
        unfold g89_ground_ends_v2_l0_step
        rw [← take_map (f := eI false) (d := dY) hi]
        simp only [h1, h2, h3, h4, hc, getD_toNat, inside_lt hi, show decide ((i : Int) < (l.length : Int)) = true from by simp; omega, cond_true, Option.bind_some]
        rw [lim_ok (by simp; omega)]
        rfl
      exact ⟨_, st, rfl, rfl, rfl, wr (by omega) (by omega)⟩)
    (fun s h => by
      obtain ⟨h1, h2, h3, h4⟩ := h
      have st : g89_ground_ends_v2_l0_step s = some (1, ((s.1.1, (s.1.2.1, (s.1.2.2.1, (s.1.2.2.2.1, ())))), ())) := by
        unfold g89_ground_ends_v2_l0_step
        simp only [h3, h4, show decide ((l.length : Int) < (l.length : Int)) = false from by simp, cond_false]
      exact ⟨_, st, by rw [h1, List.take_length]⟩)
    (g89_ground_ends_v2_l0_fuel (([], (l, ((List.length l : Int), (0, ())))), ())) (([], (l, ((List.length l : Int), (0, ())))), ()) (by simp [g89_ground_ends_v2_l0_fuel]) ⟨rfl, rfl, rfl, rfl⟩
  rw [q1]
  simp only [Option.bind_some, q2]

theorem s_g89_ground_ends_v3 (l : List E72) (hl : l.length ≤ 1000) : g89_ground_ends_v3 l = some (l.map (eN false), ()) := by
  have hc : ∀ x, g93_ground_end_5 x = some ((eN false) x, ()) := fun _ => rfl
  unfold g89_ground_ends_v3 g89_ground_ends_v3_l0_run
  obtain ⟨q, q1, q2⟩ := iter_all (step := g89_ground_ends_v3_l0_step) (n := l.length) (k := 0) (fun i s => s.1.1 = (l.take i).map (eN false) ∧ s.1.2.1 = l ∧ s.1.2.2.1 = (l.length : Int) ∧ s.1.2.2.2.1 = (i : Int)) (fun s => s.1.1 = l.map (eN false))
    (fun i s h hi => by
      obtain ⟨h1, h2, h3, h4⟩ := h
      have st : g89_ground_ends_v3_l0_step s = some (0, (((((l.take (i + 1)).map (eN false))), (l, ((l.length : Int), ((IntKind.wrap .i64 ((i : Int) + 1)), ())))), ())) := by
        unfold g89_ground_ends_v3_l0_step
        rw [← take_map (f := eN false) (d := dY) hi]
        simp only [h1, h2, h3, h4, hc, getD_toNat, inside_lt hi, show decide ((i : Int) < (l.length : Int)) = true from by simp; omega, cond_true, Option.bind_some]
        rw [lim_ok (by simp; omega)]
        rfl
      exact ⟨_, st, rfl, rfl, rfl, wr (by omega) (by omega)⟩)
    (fun s h => by
      obtain ⟨h1, h2, h3, h4⟩ := h
      have st : g89_ground_ends_v3_l0_step s = some (1, ((s.1.1, (s.1.2.1, (s.1.2.2.1, (s.1.2.2.2.1, ())))), ())) := by
        unfold g89_ground_ends_v3_l0_step
        simp only [h3, h4, show decide ((l.length : Int) < (l.length : Int)) = false from by simp, cond_false]
      exact ⟨_, st, by rw [h1, List.take_length]⟩)
    (g89_ground_ends_v3_l0_fuel (([], (l, ((List.length l : Int), (0, ())))), ())) (([], (l, ((List.length l : Int), (0, ())))), ()) (by simp [g89_ground_ends_v3_l0_fuel]) ⟨rfl, rfl, rfl, rfl⟩
  rw [q1]
  simp only [Option.bind_some, q2]

theorem s_g87_ground_ends_v1 (l : List E70) (hl : l.length ≤ 1000) : g87_ground_ends_v1 l = some (l.map (eM true), ()) := by
  have hc : ∀ x, g88_ground_end_1_v1 x = some ((eM true) x, ()) := fun _ => rfl
  unfold g87_ground_ends_v1 g87_ground_ends_v1_l0_run
  obtain ⟨q, q1, q2⟩ := iter_all (step := g87_ground_ends_v1_l0_step) (n := l.length) (k := 0) (fun i s => s.1.1 = (l.take i).map (eM true) ∧ s.1.2.1 = l ∧ s.1.2.2.1 = (l.length : Int) ∧ s.1.2.2.2.1 = (i : Int)) (fun s => s.1.1 = l.map (eM true))
    (fun i s h hi => by
      obtain ⟨h1, h2, h3, h4⟩ := h
      have st : g87_ground_ends_v1_l0_step s = some (0, (((((l.take (i + 1)).map (eM true))), (l, ((l.length : Int), ((IntKind.wrap .i64 ((i : Int) + 1)), ())))), ())) := by
        unfold g87_ground_ends_v1_l0_step
        rw [← take_map (f := eM true) (d := dL) hi]
        simp only [h1, h2, h3, h4, hc, getD_toNat, inside_lt hi, show decide ((i : Int) < (l.length : Int)) = true from by simp; omega, cond_true, Option.bind_some]
        rw [lim_ok (by simp; omega)]
        rfl
      exact ⟨_, st, rfl, rfl, rfl, wr (by omega) (by omega)⟩)
    (fun s h => by
      obtain ⟨h1, h2, h3, h4⟩ := h
      have st : g87_ground_ends_v1_l0_step s = some (1, ((s.1.1, (s.1.2.1, (s.1.2.2.1, (s.1.2.2.2.1, ())))), ())) := by
        unfold g87_ground_ends_v1_l0_step
        simp only [h3, h4, show decide ((l.length : Int) < (l.length : Int)) = false from by simp, cond_false]
      exact ⟨_, st, by rw [h1, List.take_length]⟩)
    (g87_ground_ends_v1_l0_fuel (([], (l, ((List.length l : Int), (0, ())))), ())) (([], (l, ((List.length l : Int), (0, ())))), ()) (by simp [g87_ground_ends_v1_l0_fuel]) ⟨rfl, rfl, rfl, rfl⟩
  rw [q1]
  simp only [Option.bind_some, q2]

theorem s_g89_ground_ends_v4 (l : List E72) (p : E25) (hl : l.length ≤ 1000) : g89_ground_ends_v4 l p = some (l.map (fun _ => eW true p), (p, ())) := by
  have hc : ∀ x, g90_ground_end_2_v1 x p = some ((fun _ => eW true p) x, (p, ())) := fun _ => rfl
  unfold g89_ground_ends_v4 g89_ground_ends_v4_l0_run
  obtain ⟨q, q1, q2⟩ := iter_all (step := g89_ground_ends_v4_l0_step) (n := l.length) (k := 0) (fun i s => s.1.1 = (l.take i).map (fun _ => eW true p) ∧ s.1.2.1 = l ∧ s.1.2.2.1 = (l.length : Int) ∧ s.1.2.2.2.1 = (i : Int) ∧ s.2.1 = p) (fun s => s.1.1 = l.map (fun _ => eW true p) ∧ s.2.1 = p)
    (fun i s h hi => by
      obtain ⟨h1, h2, h3, h4, h5⟩ := h
      have st : g89_ground_ends_v4_l0_step s = some (0, (((((l.take (i + 1)).map (fun _ => eW true p))), (l, ((l.length : Int), ((IntKind.wrap .i64 ((i : Int) + 1)), ())))), (p, ()))) := by
        unfold g89_ground_ends_v4_l0_step
        rw [← take_map (f := fun _ => eW true p) (d := dY) hi]
        simp only [h1, h2, h3, h4, h5, hc, getD_toNat, inside_lt hi, show decide ((i : Int) < (l.length : Int)) = true from by simp; omega, cond_true, Option.bind_some]
        rw [lim_ok (by simp; omega)]
        rfl
      exact ⟨_, st, rfl, rfl, rfl, wr (by omega) (by omega), rfl⟩)
    (fun s h => by
      obtain ⟨h1, h2, h3, h4, h5⟩ := h
      have st : g89_ground_ends_v4_l0_step s = some (1, ((s.1.1, (s.1.2.1, (s.1.2.2.1, (s.1.2.2.2.1, ())))), (s.2.1, ()))) := by
        unfold g89_ground_ends_v4_l0_step
        simp only [h3, h4, show decide ((l.length : Int) < (l.length : Int)) = false from by simp, cond_false]
      exact ⟨_, st, by rw [h1, List.take_length], h5⟩)
    (g89_ground_ends_v4_l0_fuel (([], (l, ((List.length l : Int), (0, ())))), (p, ()))) (([], (l, ((List.length l : Int), (0, ())))), (p, ())) (by simp [g89_ground_ends_v4_l0_fuel]) ⟨rfl, rfl, rfl, rfl, rfl⟩
  rw [q1]
  simp only [Option.bind_some, q2.1, q2.2]

theorem s_g89_ground_ends_v5 (l : List E72) (hl : l.length ≤ 1000) : g89_ground_ends_v5 l = some (l.map (eS true), ()) := by
  have hc : ∀ x, g91_ground_end_3_v1 x = some ((eS true) x, ()) := fun _ => rfl
  unfold g89_ground_ends_v5 g89_ground_ends_v5_l0_run
  obtain ⟨q, q1, q2⟩ := iter_all (step := g89_ground_ends_v5_l0_step) (n := l.length) (k := 0) (fun i s => s.1.1 = (l.take i).map (eS true) ∧ s.1.2.1 = l ∧ s.1.2.2.1 = (l.length : Int) ∧ s.1.2.2.2.1 = (i : Int)) (fun s => s.1.1 = l.map (eS true))
    (fun i s h hi => by
      obtain ⟨h1, h2, h3, h4⟩ := h
      have st : g89_ground_ends_v5_l0_step s = some (0, (((((l.take (i + 1)).map (eS true))), (l, ((l.length : Int), ((IntKind.wrap .i64 ((i : Int) + 1)), ())))), ())) := by
        unfold g89_ground_ends_v5_l0_step
        rw [← take_map (f := eS true) (d := dY) hi]
        simp only [h1, h2, h3, h4, hc, getD_toNat, inside_lt hi, show decide ((i : Int) < (l.length : Int)) = true from by simp; omega, cond_true, Option.bind_some]
        rw [lim_ok (by simp; omega)]
        rfl
      exact ⟨_, st, rfl, rfl, rfl, wr (by omega) (by omega)⟩)
    (fun s h => by
      obtain ⟨h1, h2, h3, h4⟩ := h
      have st : g89_ground_ends_v5_l0_step s = some (1, ((s.1.1, (s.1.2.1, (s.1.2.2.1, (s.1.2.2.2.1, ())))), ())) := by
        unfold g89_ground_ends_v5_l0_step
        simp only [h3, h4, show decide ((l.length : Int) < (l.length : Int)) = false from by simp, cond_false]
      exact ⟨_, st, by rw [h1, List.take_length]⟩)
    (g89_ground_ends_v5_l0_fuel (([], (l, ((List.length l : Int), (0, ())))), ())) (([], (l, ((List.length l : Int), (0, ())))), ()) (by simp [g89_ground_ends_v5_l0_fuel]) ⟨rfl, rfl, rfl, rfl⟩
  rw [q1]
  simp only [Option.bind_some, q2]

theorem s_g89_ground_ends_v6 (l : List E72) (hl : l.length ≤ 1000) : g89_ground_ends_v6 l = some (l.map (eI true), ()) := by
  have hc : ∀ x, g92_ground_end_4_v1 x = some ((eI true) x, ()) := fun _ => rfl
  unfold g89_ground_ends_v6 g89_ground_ends_v6_l0_run
  obtain ⟨q, q1, q2⟩ := iter_all (step := g89_ground_ends_v6_l0_step) (n := l.length) (k := 0) (fun i s => s.1.1 = (l.take i).map (eI true) ∧ s.1.2.1 = l ∧ s.1.2.2.1 = (l.length : Int) ∧ s.1.2.2.2.1 = (i : Int)) (fun s => s.1.1 = l.map (eI true))
    (fun i s h hi => by
      obtain ⟨h1, h2, h3, h4⟩ := h
      have st : g89_ground_ends_v6_l0_step s = some (0, (((((l.take (i + 1)).map (eI true))), (l, ((l.length : Int), ((IntKind.wrap .i64 ((i : Int) + 1)), ())))), ())) := by
        unfold g89_ground_ends_v6_l0_step
        rw [← take_map (f := eI true) (d := dY) hi]
        simp only [h1, h2, h3, h4, hc, getD_toNat, inside_lt hi, show decide ((i : Int) < (l.length : Int)) = true from by simp; omega, cond_true, Option.bind_some]
        rw [lim_ok (by simp; omega)]
        rfl
      exact ⟨_, st, rfl, rfl, rfl, wr (by omega) (by omega)⟩)
    (fun s h => by
      obtain ⟨h1, h2, h3, h4⟩ := h
      have st : g89_ground_ends_v6_l0_step s = some (1, ((s.1.1, (s.1.2.1, (s.1.2.2.1, (s.1.2.2.2.1, ())))), ())) := by
        unfold g89_ground_ends_v6_l0_step
        simp only [h3, h4, show decide ((l.length : Int) < (l.length : Int)) = false from by simp, cond_false]
      exact ⟨_, st, by rw [h1, List.take_length]⟩)
    (g89_ground_ends_v6_l0_fuel (([], (l, ((List.length l : Int), (0, ())))), ())) (([], (l, ((List.length l : Int), (0, ())))), ()) (by simp [g89_ground_ends_v6_l0_fuel]) ⟨rfl, rfl, rfl, rfl⟩
  rw [q1]
  simp only [Option.bind_some, q2]

theorem s_g89_ground_ends_v7 (l : List E72) (hl : l.length ≤ 1000) : g89_ground_ends_v7 l = some (l.map (eN true), ()) := by
  have hc : ∀ x, g93_ground_end_5_v1 x = some ((eN true) x, ()) := fun _ => rfl
  unfold g89_ground_ends_v7 g89_ground_ends_v7_l0_run
  obtain ⟨q, q1, q2⟩ := iter_all (step := g89_ground_ends_v7_l0_step) (n := l.length) (k := 0) (fun i s => s.1.1 = (l.take i).map (eN true) ∧ s.1.2.1 = l ∧ s.1.2.2.1 = (l.length : Int) ∧ s.1.2.2.2.1 = (i : Int)) (fun s => s.1.1 = l.map (eN true))
    (fun i s h hi => by
      obtain ⟨h1, h2, h3, h4⟩ := h
      have st : g89_ground_ends_v7_l0_step s = some (0, (((((l.take (i + 1)).map (eN true))), (l, ((l.length : Int), ((IntKind.wrap .i64 ((i : Int) + 1)), ())))), ())) := by
        unfold g89_ground_ends_v7_l0_step
        rw [← take_map (f := eN true) (d := dY) hi]
        simp only [h1, h2, h3, h4, hc, getD_toNat, inside_lt hi, show decide ((i : Int) < (l.length : Int)) = true from by simp; omega, cond_true, Option.bind_some]
        rw [lim_ok (by simp; omega)]
        rfl
      exact ⟨_, st, rfl, rfl, rfl, wr (by omega) (by omega)⟩)
    (fun s h => by
      obtain ⟨h1, h2, h3, h4⟩ := h
      have st : g89_ground_ends_v7_l0_step s = some (1, ((s.1.1, (s.1.2.1, (s.1.2.2.1, (s.1.2.2.2.1, ())))), ())) := by
        unfold g89_ground_ends_v7_l0_step
        simp only [h3, h4, show decide ((l.length : Int) < (l.length : Int)) = false from by simp, cond_false]
      exact ⟨_, st, by rw [h1, List.take_length]⟩)
    (g89_ground_ends_v7_l0_fuel (([], (l, ((List.length l : Int), (0, ())))), ())) (([], (l, ((List.length l : Int), (0, ())))), ()) (by simp [g89_ground_ends_v7_l0_fuel]) ⟨rfl, rfl, rfl, rfl⟩
  rw [q1]
  simp only [Option.bind_some, q2]


theorem eM_bd {p : E25} (hp : okPl p = true) (w : Bool) {i : Nat} (hi : i < p.1.length) : (p.1.getD i dL).2.1.1 ≤ eM w (p.1.getD i dL) ∧ eM w (p.1.getD i dL) ≤ (p.1.getD i dL).2.1.2.1 := by
  have := (okL_spec hp hi).2
  unfold eM
  cases w <;> simp only [cond_true, cond_false] <;> omega
theorem eW_bd {p : E25} (hp : okPl p = true) (w : Bool) : p.2.1.1 ≤ eW w p ∧ eW w p ≤ p.2.1.2.1 := by
  have := okPl_warm hp
  unfold eW
  cases w <;> simp only [cond_true, cond_false] <;> omega
theorem eS_bd {l : List E72} (hy : l.all okY = true) (w : Bool) {i : Nat} (hi : i < l.length) : (l.getD i dY).1.1 ≤ eS w (l.getD i dY) ∧ eS w (l.getD i dY) ≤ (l.getD i dY).1.2.1 := by
  have := (okY_spec hy hi).1
  unfold eS
  cases w <;> simp only [cond_true, cond_false] <;> omega
theorem eI_bd {l : List E72} (hy : l.all okY = true) (w : Bool) {i : Nat} (hi : i < l.length) : (l.getD i dY).2.1.1 ≤ eI w (l.getD i dY) ∧ eI w (l.getD i dY) ≤ (l.getD i dY).2.1.2.1 := by
  have := (okY_spec hy hi).2.1
  unfold eI
  cases w <;> simp only [cond_true, cond_false] <;> omega
theorem eN_bd {l : List E72} (hy : l.all okY = true) (w : Bool) {i : Nat} (hi : i < l.length) : (l.getD i dY).2.2.1.1 ≤ eN w (l.getD i dY) ∧ eN w (l.getD i dY) ≤ (l.getD i dY).2.2.1.2.1 := by
  have := (okY_spec hy hi).2.2
  unfold eN
  cases w <;> simp only [cond_true, cond_false] <;> omega
theorem insI_of {a : List Int} {n : Nat} {f : Nat → E23} (h1 : a.length = n) (h2 : ∀ i, i < n → (f i).1 ≤ a.getD i 0 ∧ a.getD i 0 ≤ (f i).2.1) : insI a n f = true := by
  unfold insI
  simp only [Bool.and_eq_true, decide_eq_true_eq]
  exact ⟨h1, range_all.2 fun i hi => inB_spec.2 (h2 i hi)⟩
theorem eT_true {p : E25} {l : List E72} (hp : okPl p = true) (hy : l.all okY = true) (w : Bool) : truB p l (eT w p l) = true := by
  have e1 : insI (eT w p l).1 p.1.length (fun i => (p.1.getD i dL).2.1) = true := insI_of (by simp [eT]) fun i hi => by
    unfold eT; rw [map_getD (d := dL) hi]; exact eM_bd hp w hi
  have e2 : insI (eT w p l).2.1 l.length (fun i => p.2.1) = true := insI_of (by simp [eT]) fun i hi => by
    unfold eT; rw [map_getD (d := dY) hi]; exact eW_bd hp w
  have e3 : insI (eT w p l).2.2.1 l.length (fun i => (l.getD i dY).1) = true := insI_of (by simp [eT]) fun i hi => by
    unfold eT; rw [map_getD (d := dY) hi]; exact eS_bd hy w hi
  have e4 : insI (eT w p l).2.2.2.1 l.length (fun i => (l.getD i dY).2.1) = true := insI_of (by simp [eT]) fun i hi => by
    unfold eT; rw [map_getD (d := dY) hi]; exact eI_bd hy w hi
  have e5 : insI (eT w p l).2.2.2.2.1 l.length (fun i => (l.getD i dY).2.2.1) = true := insI_of (by simp [eT]) fun i hi => by
    unfold eT; rw [map_getD (d := dY) hi]; exact eN_bd hy w hi
  unfold truB
  rw [e1, e2, e3, e4, e5]
  rfl

theorem s_g76_ground_end {p : E25} {l : List E72} {more : Int} (hl : l.length ≤ 12) (hp : okPl p = true) (hy : l.all okY = true) (h0 : 0 ≤ more) (hm9 : more ≤ 1000000) : ∃ y, g76_ground_end p l more = some (FB p (eT false p l) more y l.length) := by
  obtain ⟨hT, hL⟩ := tru_of hl hp hy (eT_true hp hy false)
  have hpl := okPl_len hp
  obtain ⟨y, u, h⟩ := g52 (p := p) hT hL h0 hm9
  unfold g76_ground_end
  rw [s_g87_ground_ends p.1 (by omega), s_g89_ground_ends l p (by omega), s_g89_ground_ends_v1 l (by omega), s_g89_ground_ends_v2 l (by omega), s_g89_ground_ends_v3 l (by omega)]
  simp only [Option.bind_some]
  refine ⟨y, ?_⟩
  rw [show (p.1.map (eM false), (l.map (fun _ => eW false p), (l.map (eS false), (l.map (eI false), (l.map (eN false), ()))))) = eT false p l from rfl, h]
  rfl

theorem s_g76_ground_end_v1 {p : E25} {l : List E72} {more : Int} (hl : l.length ≤ 12) (hp : okPl p = true) (hy : l.all okY = true) (h0 : 0 ≤ more) (hm9 : more ≤ 1000000) : ∃ y, g76_ground_end_v1 p l more = some (FB p (eT true p l) more y l.length) := by
  obtain ⟨hT, hL⟩ := tru_of hl hp hy (eT_true hp hy true)
  have hpl := okPl_len hp
  obtain ⟨y, u, h⟩ := g52 (p := p) hT hL h0 hm9
  unfold g76_ground_end_v1
  rw [s_g87_ground_ends_v1 p.1 (by omega), s_g89_ground_ends_v4 l p (by omega), s_g89_ground_ends_v5 l (by omega), s_g89_ground_ends_v6 l (by omega), s_g89_ground_ends_v7 l (by omega)]
  simp only [Option.bind_some]
  refine ⟨y, ?_⟩
  rw [show (p.1.map (eM true), (l.map (fun _ => eW true p), (l.map (eS true), (l.map (eI true), (l.map (eN true), ()))))) = eT true p l from rfl, h]
  rfl

theorem g57 {p : E25} {l : List E72} (hl : l.length ≤ 12) (hp : okPl p = true) (hy : l.all okY = true) : ∃ y, g57_ground_least p l = some (FB p (eT false p l) 0 y l.length) := by
  obtain ⟨y, h⟩ := s_g76_ground_end hl hp hy (Int.le_refl 0) (by omega)
  exact ⟨y, by unfold g57_ground_least; rw [h]; rfl⟩
theorem g58 {p : E25} {l : List E72} {more : Int} (hl : l.length ≤ 12) (hp : okPl p = true) (hy : l.all okY = true) (h0 : 0 ≤ more) (hm9 : more ≤ 1000000) : ∃ y, g58_ground_deepest p l more = some (FB p (eT true p l) more y l.length) := by
  obtain ⟨y, h⟩ := s_g76_ground_end_v1 hl hp hy h0 hm9
  exact ⟨y, by unfold g58_ground_deepest; rw [h]; rfl⟩

/-! ### The reference's -/
theorem g26 {p : E25} {l : List E72} {w : Bool} (hp : p.1.length ≤ 1000) (hl : l.length ≤ 1000) : g26_talikref01_End p l w = some (eT w p l) := by
  unfold g26_talikref01_End g26_talikref01_End_l0_run g26_talikref01_End_l1_run
  obtain ⟨q, q1, q2, q3, q4, q5⟩ := iter_all (step := g26_talikref01_End_l0_step) (n := p.1.length) (k := 0) (fun i s => s.1.1 = l ∧ s.1.2.1 = w ∧ s.1.2.2.1 = (i : Int) ∧ s.2.1 = p ∧ s.2.2.2.1 = ((p.1.take i).map (eM w), ([], ([], ([], ([], ())))))) (fun s => s.1.1 = l ∧ s.1.2.1 = w ∧ s.2.1 = p ∧ s.2.2.2.1 = (p.1.map (eM w), ([], ([], ([], ([], ()))))))
    (fun i s h hi => by
      obtain ⟨e1, e2, e3, e4, e5⟩ := h
      have st : g26_talikref01_End_l0_step s = some (0, ((l, (w, ((IntKind.wrap .i64 ((i : Int) + 1)), ()))), (p, ((s.2.2.1.1, (s.2.2.1.2.1, (s.2.2.1.2.2.1, (s.2.2.1.2.2.2.1, (s.2.2.1.2.2.2.2.1, ()))))), ((((p.1.take (i + 1)).map (eM w)), ([], ([], ([], ([], ()))))), ()))))) := by
        unfold g26_talikref01_End_l0_step
        rw [← take_map (d := dL) hi]
        simp only [e1, e2, e3, e4, e5, getD_toNat, inside_lt hi, show decide ((i : Int) < (p.1.length : Int)) = true from by simp; omega, cond_true]
        rw [lim_ok (by simp; omega), lim_ok (by simp; omega)]
        cases w <;> rfl
      exact ⟨_, st, rfl, rfl, wr (by omega) (by omega), rfl, rfl⟩)
    (fun s h => by
      obtain ⟨e1, e2, e3, e4, e5⟩ := h
      have st : g26_talikref01_End_l0_step s = some (1, ((s.1.1, (s.1.2.1, (s.1.2.2.1, ()))), (s.2.1, ((s.2.2.1.1, (s.2.2.1.2.1, (s.2.2.1.2.2.1, (s.2.2.1.2.2.2.1, (s.2.2.1.2.2.2.2.1, ()))))), ((s.2.2.2.1.1, (s.2.2.2.1.2.1, (s.2.2.2.1.2.2.1, (s.2.2.2.1.2.2.2.1, (s.2.2.2.1.2.2.2.2.1, ()))))), ()))))) := by
        unfold g26_talikref01_End_l0_step
        simp only [e3, e4, show decide ((p.1.length : Int) < (p.1.length : Int)) = false from by simp, cond_false]
      refine ⟨_, st, e1, e2, e4, ?_⟩
      simp only [e5, List.take_length])
    (g26_talikref01_End_l0_fuel ((l, (w, (0, ()))), (p, (([], ([], ([], ([], ([], ()))))), (([], ([], ([], ([], ([], ()))))), ()))))) ((l, (w, (0, ()))), (p, (([], ([], ([], ([], ([], ()))))), (([], ([], ([], ([], ([], ()))))), ())))) (by simp [g26_talikref01_End_l0_fuel]) ⟨rfl, rfl, rfl, rfl, rfl⟩
  rw [q1]
  simp only [Option.bind_some, q2, q3, q4, q5]
  obtain ⟨z, z1, z2⟩ := iter_all (step := g26_talikref01_End_l1_step) (n := l.length) (k := 0) (fun i s => s.1.1 = l ∧ s.1.2.1 = w ∧ s.1.2.2.1 = (i : Int) ∧ s.2.1 = p ∧ s.2.2.2.1 = (p.1.map (eM w), ((l.take i).map (fun _ => eW w p), ((l.take i).map (eS w), ((l.take i).map (eI w), ((l.take i).map (eN w), ())))))) (fun s => s.2.2.2.1 = eT w p l)
    (fun i s h hi => by
      obtain ⟨e1, e2, e3, e4, e5⟩ := h
      have st : g26_talikref01_End_l1_step s = some (0, ((l, (w, ((IntKind.wrap .i64 ((i : Int) + 1)), ()))), (p, ((s.2.2.1.1, (s.2.2.1.2.1, (s.2.2.1.2.2.1, (s.2.2.1.2.2.2.1, (s.2.2.1.2.2.2.2.1, ()))))), ((p.1.map (eM w), ((l.take (i + 1)).map (fun _ => eW w p), ((l.take (i + 1)).map (eS w), ((l.take (i + 1)).map (eI w), ((l.take (i + 1)).map (eN w), ()))))), ()))))) := by
        unfold g26_talikref01_End_l1_step
        rw [← take_map (f := fun _ => eW w p) (d := dY) hi, ← take_map (f := eS w) (d := dY) hi, ← take_map (f := eI w) (d := dY) hi, ← take_map (f := eN w) (d := dY) hi]
        simp only [e1, e2, e3, e4, e5, getD_toNat, inside_lt hi, show decide ((i : Int) < (l.length : Int)) = true from by simp; omega, cond_true]
        rw [lim_ok (by simp; omega), lim_ok (by simp; omega), lim_ok (by simp; omega), lim_ok (by simp; omega), lim_ok (by simp; omega), lim_ok (by simp; omega), lim_ok (by simp; omega), lim_ok (by simp; omega)]
        cases w <;> rfl
      exact ⟨_, st, rfl, rfl, wr (by omega) (by omega), rfl, rfl⟩)
    (fun s h => by
      obtain ⟨e1, e2, e3, e4, e5⟩ := h
      have st : g26_talikref01_End_l1_step s = some (1, ((s.1.1, (s.1.2.1, (s.1.2.2.1, ()))), (s.2.1, ((s.2.2.1.1, (s.2.2.1.2.1, (s.2.2.1.2.2.1, (s.2.2.1.2.2.2.1, (s.2.2.1.2.2.2.2.1, ()))))), ((s.2.2.2.1.1, (s.2.2.2.1.2.1, (s.2.2.2.1.2.2.1, (s.2.2.2.1.2.2.2.1, (s.2.2.2.1.2.2.2.2.1, ()))))), ()))))) := by
        unfold g26_talikref01_End_l1_step
        simp only [e1, e3, show decide ((l.length : Int) < (l.length : Int)) = false from by simp, cond_false]
      refine ⟨_, st, ?_⟩
      simp only [e5, List.take_length]
      rfl)
    (g26_talikref01_End_l1_fuel ((l, (w, (0, ()))), (p, ((q.2.2.1.1, (q.2.2.1.2.1, (q.2.2.1.2.2.1, (q.2.2.1.2.2.2.1, (q.2.2.1.2.2.2.2.1, ()))))), ((p.1.map (eM w), ([], ([], ([], ([], ()))))), ()))))) ((l, (w, (0, ()))), (p, ((q.2.2.1.1, (q.2.2.1.2.1, (q.2.2.1.2.2.1, (q.2.2.1.2.2.2.1, (q.2.2.1.2.2.2.2.1, ()))))), ((p.1.map (eM w), ([], ([], ([], ([], ()))))), ())))) (by simp [g26_talikref01_End_l1_fuel]) ⟨rfl, rfl, rfl, rfl, rfl⟩
  rw [z1]
  simp only [Option.bind_some, z2]
end Go.Proofs.YtbidmbjkjpdgdaaDoor.Abs
