/-
  Plain laws of the ground layer, third part: the depth of some heat, the program's and the reference's; seasons.
-/
import Derived.Test.YtbidmbjkjpdgdaaDoorGq1
set_option linter.unusedVariables false
set_option linter.unusedSimpArgs false
set_option maxRecDepth 100000
namespace Go.Proofs.YtbidmbjkjpdgdaaDoor.Abs

abbrev UT : Type := (Nat × (Unit × (Unit × (Unit × (Unit × (Unit × (Unit × (Unit × (Unit × (Unit × (Unit × (Unit × (Unit × (Unit × (Unit × (Unit × (Unit × (Unit × (Unit × (Unit × (Unit × (Unit × (Unit × (Unit × (Unit × (Unit × (Unit × (Unit × (Unit × (Unit × (Unit × (Unit × (Unit × (Unit × (Unit × (Unit × (Unit × (Unit × (Unit × (Unit × (Unit × (Unit × (Unit × (Unit × (Unit × (Unit × (Unit × Unit)))))))))))))))))))))))))))))))))))))))))))))))
/-- The depth of some heat from some layer on; so many layers. -/
def dep (ls : List E70) (ms : List Int) : Nat → Nat → Int → Int
  | 0, _, _ => 0
  | k + 1, i, heat => if k = 0 ∨ heat < (ls.getD i dL).1 * ms.getD i 0 then heat / ms.getD i 0 else (ls.getD i dL).1 + dep ls ms k (i + 1) (heat - (ls.getD i dL).1 * ms.getD i 0)
/-- Layers, and what they take to melt. -/
structure Lay (ls : List E70) (ms : List Int) : Prop where
  len : ms.length = ls.length
  pos : 1 ≤ ls.length
  few : ls.length ≤ 6
  thick : ∀ i, i < ls.length → 1 ≤ (ls.getD i dL).1 ∧ (ls.getD i dL).1 ≤ 20000
  melt : ∀ i, i < ls.length → 1 ≤ ms.getD i 0 ∧ ms.getD i 0 ≤ 1000

theorem mul_bd {a b A B : Int} (ha : 0 ≤ a) (hA : a ≤ A) (hb : 0 ≤ b) (hB : b ≤ B) : 0 ≤ a * b ∧ a * b ≤ A * B :=
  ⟨Int.mul_nonneg ha hb, Int.mul_le_mul hA hB hb (Int.le_trans ha hA)⟩
theorem div_bd {a b : Int} (ha : 0 ≤ a) (hb : 1 ≤ b) : 0 ≤ a / b ∧ a / b ≤ a :=
  ⟨Int.ediv_nonneg ha (by omega), Int.ediv_le_self b ha⟩
theorem tdiv_eq {a b : Int} (ha : 0 ≤ a) : Int.tdiv a b = a / b := Int.tdiv_eq_ediv_of_nonneg ha

theorem step_form {α : Type} {o : Option (Nat × α)} {n : Nat} {x : α} (h : o = some (n, x)) : ∃ y, y = x ∧ o = some (n, y) := ⟨x, rfl, h⟩
section
variable {ls : List E70} {ms : List Int} {a0 : E90}
theorem r0_last {i : Nat} {b : UT} {heat res out all : Int} (hL : Lay ls ms) (h1 : a0.1.1 = ls) (h2 : a0.2.1.1 = ms) (hb : b.1 = 0) (hi : i < ls.length) (h0 : 0 ≤ heat) (h9 : heat ≤ 1000000000) (ho : 0 ≤ out) (ho9 : out ≤ 1000000000) (hall : all < 0 ∨ heat < all) :
    ∃ q, g86_r0 (i : Int) all b a0 heat res out = some q ∧ q.1 = false ∧ q.2.1.1 = 3 ∧ q.2.2.2.2.1 = out + heat / ms.getD i 0 := by
  have hm := hL.melt i hi
  have hd := div_bd h0 hm.1
  have hne : (!decide (ms.getD i 0 = 0)) = true := by rw [Bool.not_eq_true', decide_eq_false_iff_not]; omega
  unfold g86_r0
  simp only [hb, natK, h1, h2, getD_toNat, inside_lt (show i < ms.length by rw [hL.len]; exact hi), cond_true, hne, tdiv_eq h0, wr (show -9223372036854775808 ≤ heat / ms.getD i 0 by omega) (by omega), wr (show -9223372036854775808 ≤ out + heat / ms.getD i 0 by omega) (by omega)]
  by_cases h : all < 0
  · rw [show decide (all < 0) = true from by simpa using h]
    exact ⟨_, rfl, rfl, rfl, rfl⟩
  · rw [show decide (all < 0) = false from by simpa using h, show decide (heat < all) = true from by simpa using hall.resolve_left h]
    exact ⟨_, rfl, rfl, rfl, rfl⟩
theorem r0_go {i : Nat} {b : UT} {heat res out all : Int} (hL : Lay ls ms) (h1 : a0.1.1 = ls) (h2 : a0.2.1.1 = ms) (hb : b.1 = 0) (hi : i < ls.length) (h0 : 0 ≤ heat) (h9 : heat ≤ 1000000000) (ho : 0 ≤ out) (ho9 : out ≤ 1000000000) (ha : 0 ≤ all) (hall : all ≤ heat) :
    ∃ q, g86_r0 (i : Int) all b a0 heat res out = some q ∧ q.1 = true ∧ q.2.1.1 = 0 ∧ q.2.2.1 = a0 ∧ q.2.2.2.1 = heat - all ∧ q.2.2.2.2.2.1 = out + (ls.getD i dL).1 := by
  have ht := hL.thick i hi
  unfold g86_r0
  simp only [hb, natK, h1, h2, getD_toNat, inside_lt hi, cond_true, show decide (all < 0) = false from by simp; omega, show decide (heat < all) = false from by simp; omega, cond_false, wr (show -9223372036854775808 ≤ heat - all by omega) (by omega)]
  rw [show (0, ((0, (0, ())), ())) = dL from rfl, wr (show -9223372036854775808 ≤ out + (ls.getD i dL).1 by omega) (by omega)]
  exact ⟨_, rfl, rfl, rfl, rfl, rfl, rfl⟩

theorem melts_loop (hL : Lay ls ms) (h1 : a0.1.1 = ls) (h2 : a0.2.1.1 = ms) : ∀ (k i : Nat) (heat out : Int) (s : (E90 × ((List E70) × (Int × (Int × Unit)))) × (UT × (E90 × (Int × (Int × (Int × Unit)))))) (fuel : Nat), i + k + 1 = ls.length → k < fuel → s.1.1 = a0 → s.1.2.1 = ls → s.1.2.2.1 = (ls.length : Int) → s.1.2.2.2.1 = (i : Int) →
    s.2.1.1 = 0 → s.2.2.1 = a0 → s.2.2.2.1 = heat → s.2.2.2.2.2.1 = out → 0 ≤ heat → heat ≤ 1000000000 → 0 ≤ out → out ≤ 20000 * (i : Int) → ∃ q, iter g96_ground_followed_melts_l0_step fuel s = some (0, q) ∧ q.2.1.1 = 3 ∧ q.2.2.2.2.1 = out + dep ls ms (k + 1) i heat
  | k, i, heat, out, s, 0, hk, hf, _, _, _, _, _, _, _, _, _, _, _, _ => by omega
  | k, i, heat, out, s, fuel + 1, hk, hf, e1, e2, e3, e4, e5, e6, e7, e8, h0, h9, ho, ho9 => by
    have hi : i < ls.length := by omega
    have hfew := hL.few
    have ht := hL.thick i hi
    have hm := hL.melt i hi
    have hmul := mul_bd (a := (ls.getD i dL).1) (b := ms.getD i 0) (by omega) ht.2 (by omega) hm.2
    have hw1 : IntKind.wrap .i64 ((ls.length : Int) - 1) = (ls.length : Int) - 1 := wr (by omega) (by omega)
    have hw2 : IntKind.wrap .i64 ((ls.getD i dL).1 * ms.getD i 0) = (ls.getD i dL).1 * ms.getD i 0 := wr (by omega) (by omega)
    have hw3 : IntKind.wrap .i64 ((i : Int) + 1) = ((i + 1 : Nat) : Int) := by rw [wr (by omega) (by omega)]; omega
    have pre : g96_ground_followed_melts_l0_step s = g96_ground_followed_melts_l0_step s := rfl
    conv at pre => rhs; unfold g96_ground_followed_melts_l0_step
    simp only [e1, e2, e3, e4, e6, e7, e8, h1, h2, getD_toNat, inside_lt hi, inside_lt (show i < ms.length by rw [hL.len]; exact hi), show decide ((i : Int) < (ls.length : Int)) = true from by simp; omega, cond_true, hw1, hw3] at pre
    rw [show (0, ((0, (0, ())), ())) = dL from rfl, hw2] at pre
    cases k with
    | zero =>
      rw [show ((i : Int) == (ls.length : Int) - 1) = true from by simp; omega] at pre
      simp only [cond_true] at pre
      obtain ⟨q, q1, q2, q3, q4⟩ := r0_last (i := i) (b := s.2.1) (res := s.2.2.2.2.1) (all := -1) hL h1 h2 e5 hi h0 h9 ho (by omega) (.inl (by omega))
      rw [show (s.2.1.1, _) = s.2.1 from rfl, q1] at pre
      simp only [Option.bind_some, q2, Bool.not_false, cond_true] at pre
      refine ⟨_, iter_out pre, q3, ?_⟩
      rw [show dep ls ms (0 + 1) i heat = heat / ms.getD i 0 from by simp [dep]]
      exact q4
    | succ k =>
      rw [show ((i : Int) == (ls.length : Int) - 1) = false from by simp; omega] at pre
      simp only [cond_false] at pre
      by_cases hlt : heat < (ls.getD i dL).1 * ms.getD i 0
      · obtain ⟨q, q1, q2, q3, q4⟩ := r0_last (i := i) (b := s.2.1) (res := s.2.2.2.2.1) hL h1 h2 e5 hi h0 h9 ho (by omega) (.inr hlt)
        rw [show (s.2.1.1, _) = s.2.1 from rfl, q1] at pre
        simp only [Option.bind_some, q2, Bool.not_false, cond_true] at pre
        refine ⟨_, iter_out pre, q3, ?_⟩
        rw [show dep ls ms (k + 1 + 1) i heat = heat / ms.getD i 0 from by rw [dep, if_pos (.inr hlt)]]
        exact q4
      · obtain ⟨q, q1, q2, q3, q4, q5, q6⟩ := r0_go (i := i) (b := s.2.1) (res := s.2.2.2.2.1) hL h1 h2 e5 hi h0 h9 ho (by omega) (by omega) (show (ls.getD i dL).1 * ms.getD i 0 ≤ heat by omega)
        rw [show (s.2.1.1, _) = s.2.1 from rfl, q1] at pre
        simp only [Option.bind_some, q2, Bool.not_true, cond_false] at pre
        obtain ⟨s', hs, pre⟩ := step_form pre
        rw [iter_one pre]
        obtain ⟨z, z1, z2, z3⟩ := melts_loop hL h1 h2 k (i + 1) (heat - (ls.getD i dL).1 * ms.getD i 0) (out + (ls.getD i dL).1) s' fuel (by omega) (by omega) (by rw [hs]) (by rw [hs]) (by rw [hs]) (by rw [hs]) (by rw [hs]; exact q3) (by rw [hs]; exact q4) (by rw [hs]; exact q5) (by rw [hs]; exact q6) (by omega) (by omega) (by omega) (by omega)
        refine ⟨z, z1, z2, ?_⟩
        rw [z3, show dep ls ms (k + 1 + 1) i heat = (ls.getD i dL).1 + dep ls ms (k + 1) (i + 1) (heat - (ls.getD i dL).1 * ms.getD i 0) from by rw [dep, if_neg (by omega)]]
        omega

theorem g86 (hL : Lay ls ms) (h1 : a0.1.1 = ls) (h2 : a0.2.1.1 = ms) {heat : Int} (h0 : 0 ≤ heat) (h9 : heat ≤ 1000000000) : g86_ground_followed_depth a0 heat = some (dep ls ms ls.length 0 heat) := by
  unfold g86_ground_followed_depth g96_ground_followed_melts g96_ground_followed_melts_l0_run
  obtain ⟨k, hk⟩ : ∃ k, ls.length = k + 1 := ⟨ls.length - 1, by have := hL.pos; omega⟩
  rw [h1]
  obtain ⟨q, q1, q2, q3⟩ := melts_loop (a0 := a0) hL h1 h2 k 0 heat 0 ((a0, (ls, ((ls.length : Int), (0, ())))), ((0, ((), ((), ((), ((), ((), ((), ((), ((), ((), ((), ((), ((), ((), ((), ((), ((), ((), ((), ((), ((), ((), ((), ((), ((), ((), ((), ((), ((), ((), ((), ((), ((), ((), ((), ((), ((), ((), ((), ((), ((), ((), ((), ((), ((), ((), ((), ()))))))))))))))))))))))))))))))))))))))))))))))), (a0, (heat, (0, (0, ())))))) (g96_ground_followed_melts_l0_fuel ((a0, (ls, ((ls.length : Int), (0, ())))), ((0, ((), ((), ((), ((), ((), ((), ((), ((), ((), ((), ((), ((), ((), ((), ((), ((), ((), ((), ((), ((), ((), ((), ((), ((), ((), ((), ((), ((), ((), ((), ((), ((), ((), ((), ((), ((), ((), ((), ((), ((), ((), ((), ((), ((), ((), ((), ()))))))))))))))))))))))))))))))))))))))))))))))), (a0, (heat, (0, (0, ()))))))) (by omega) (by simp [g96_ground_followed_melts_l0_fuel]; omega) rfl rfl rfl rfl rfl rfl rfl rfl h0 h9 (by omega) (by omega)
  rw [q1]
  simp only [Option.bind_some, natK, q2]
  rw [show ((3 : Nat) == 0) = false from rfl, show ((3 : Nat) == 3) = true from rfl]
  simp only [cond_false, cond_true, q3, hk]
  rw [Int.zero_add]
end


section
variable {ls : List E70} {ms : List Int} {p : E25}
theorem depth_loop (hL : Lay ls ms) (h1 : p.1 = ls) : ∀ (k i : Nat) (heat out : Int) (s : (((List Int) × (Int × (Int × (Int × (Int × Unit))))) × (E25 × Unit))) (fuel : Nat), i + k = ls.length → 0 < k → k < fuel → s.1.1 = ms → s.1.2.1 = heat → s.1.2.2.2.1 = out → s.1.2.2.2.2.1 = (i : Int) → s.2.1 = p →
    0 ≤ heat → heat ≤ 1000000000 → 0 ≤ out → out ≤ 20000 * (i : Int) → ∃ c q, iter g55_talikref01_Depth_l0_step fuel s = some (c, q) ∧ ((c = 0 ∧ q.1.2.2.1 = out + dep ls ms k i heat) ∨ (c = 1 ∧ q.1.2.2.2.1 = out + dep ls ms k i heat))
  | k, i, heat, out, s, 0, hk, hk0, hf, _, _, _, _, _, _, _, _, _ => by omega
  | 0, i, heat, out, s, fuel + 1, hk, hk0, hf, _, _, _, _, _, _, _, _, _ => by omega
  | k + 1, i, heat, out, s, fuel + 1, hk, hk0, hf, e1, e2, e3, e4, e5, h0, h9, ho, ho9 => by
    have hi : i < ls.length := by omega
    have hfew := hL.few
    have ht := hL.thick i hi
    have hm := hL.melt i hi
    have hmul := mul_bd (a := (ls.getD i dL).1) (b := ms.getD i 0) (by omega) ht.2 (by omega) hm.2
    have hd := div_bd h0 hm.1
    have hle : heat / ms.getD i 0 * ms.getD i 0 ≤ heat := Int.ediv_mul_le heat (by omega)
    have hge : 0 ≤ heat / ms.getD i 0 * ms.getD i 0 := Int.mul_nonneg hd.1 (by omega)
    have hw0 : IntKind.wrap .i64 (heat / ms.getD i 0) = heat / ms.getD i 0 := wr (by omega) (by omega)
    have hw2 : IntKind.wrap .i64 ((ls.getD i dL).1 * ms.getD i 0) = (ls.getD i dL).1 * ms.getD i 0 := wr (by omega) (by omega)
    have hw3 : IntKind.wrap .i64 ((i : Int) + 1) = ((i + 1 : Nat) : Int) := by rw [wr (by omega) (by omega)]; omega
    have hw4 : IntKind.wrap .i64 (heat / ms.getD i 0 * ms.getD i 0) = heat / ms.getD i 0 * ms.getD i 0 := wr (by omega) (by omega)
    have hw5 : IntKind.wrap .i64 (heat - heat / ms.getD i 0 * ms.getD i 0) = heat - heat / ms.getD i 0 * ms.getD i 0 := wr (by omega) (by omega)
    have hw6 : IntKind.wrap .i64 (heat - (ls.getD i dL).1 * ms.getD i 0) = heat - (ls.getD i dL).1 * ms.getD i 0 := wr (by omega) (by omega)
    have hw7 : IntKind.wrap .i64 (out + heat / ms.getD i 0) = out + heat / ms.getD i 0 := wr (by omega) (by omega)
    have hw8 : IntKind.wrap .i64 (out + (ls.getD i dL).1) = out + (ls.getD i dL).1 := wr (by omega) (by omega)
    have hne : (!decide (ms.getD i 0 = 0)) = true := by rw [Bool.not_eq_true', decide_eq_false_iff_not]; omega
    have pre : g55_talikref01_Depth_l0_step s = g55_talikref01_Depth_l0_step s := rfl
    conv at pre => rhs; unfold g55_talikref01_Depth_l0_step
    simp only [e1, e2, e3, e4, e5, h1, getD_toNat, inside_lt hi, inside_lt (show i < ms.length by rw [hL.len]; exact hi), show decide ((i : Int) < (ls.length : Int)) = true from by simp; omega, cond_true, hne, tdiv_eq h0, hw0, hw3, hw4, hw5, hw7] at pre
    rw [show (0, ((0, (0, ())), ())) = dL from rfl, hw2, hw6, hw8] at pre
    cases k with
    | zero =>
      -- the last layer
      have hlast : decide (((i + 1 : Nat) : Int) < (ls.length : Int)) = false := by simp; omega
      simp only [hlast, cond_false] at pre
      obtain ⟨s', hs, pre⟩ := step_form pre
      rw [iter_one pre]
      cases fuel with
      | zero => omega
      | succ fuel =>
        have fin : ∀ (x : (((List Int) × (Int × (Int × (Int × (Int × Unit))))) × (E25 × Unit))), x.1.2.2.2.2.1 = ((i + 1 : Nat) : Int) → x.2.1 = p → ∃ q, iter g55_talikref01_Depth_l0_step (fuel + 1) x = some (1, q) ∧ q.1.2.2.2.1 = x.1.2.2.2.1 := fun x x1 x2 => by
          have st : g55_talikref01_Depth_l0_step x = some (2, ((x.1.1, (x.1.2.1, (x.1.2.2.1, (x.1.2.2.2.1, (x.1.2.2.2.2.1, ()))))), (x.2.1, ()))) := by
            unfold g55_talikref01_Depth_l0_step
            simp only [x1, x2, h1, hlast, cond_false]
          exact ⟨_, iter_out st, rfl⟩
        obtain ⟨q, q1, q2⟩ := fin s' (by rw [hs]) (by rw [hs])
        refine ⟨1, q, q1, .inr ⟨rfl, ?_⟩⟩
        rw [q2, hs]
        rw [show dep ls ms (0 + 1) i heat = heat / ms.getD i 0 from by simp [dep]]
    | succ k =>
      have hnl : decide (((i + 1 : Nat) : Int) < (ls.length : Int)) = true := by simp; omega
      simp only [hnl, cond_true] at pre
      by_cases hgt : heat / ms.getD i 0 > (ls.getD i dL).1
      · have hge2 : (ls.getD i dL).1 * ms.getD i 0 ≤ heat := Int.le_trans (Int.mul_le_mul_of_nonneg_right (Int.le_of_lt hgt) (by omega)) hle
        rw [show decide (heat / ms.getD i 0 > (ls.getD i dL).1) = true from by simpa using hgt] at pre
        simp only [cond_true, show decide ((ls.getD i dL).1 < (ls.getD i dL).1) = false from by simp, cond_false] at pre
        obtain ⟨s', hs, pre⟩ := step_form pre
        rw [iter_one pre]
        obtain ⟨c, q, q1, q2⟩ := depth_loop hL h1 (k + 1) (i + 1) (heat - (ls.getD i dL).1 * ms.getD i 0) (out + (ls.getD i dL).1) s' fuel (by omega) (by omega) (by omega) (by rw [hs]) (by rw [hs]) (by rw [hs]) (by rw [hs]) (by rw [hs]) (by omega) (by omega) (by omega) (by omega)
        have hdep : dep ls ms (k + 1 + 1) i heat = (ls.getD i dL).1 + dep ls ms (k + 1) (i + 1) (heat - (ls.getD i dL).1 * ms.getD i 0) := by rw [dep, if_neg (by omega)]
        refine ⟨c, q, q1, ?_⟩
        rw [hdep]
        rcases q2 with ⟨a, b⟩ | ⟨a, b⟩
        · exact .inl ⟨a, by rw [b]; omega⟩
        · exact .inr ⟨a, by rw [b]; omega⟩
      · rw [show decide (heat / ms.getD i 0 > (ls.getD i dL).1) = false from by simpa using hgt] at pre
        simp only [cond_false] at pre
        by_cases hlt : heat / ms.getD i 0 < (ls.getD i dL).1
        · rw [show decide (heat / ms.getD i 0 < (ls.getD i dL).1) = true from by simpa using hlt] at pre
          simp only [cond_true] at pre
          have hcond : heat < (ls.getD i dL).1 * ms.getD i 0 := (Int.ediv_lt_iff_lt_mul (by omega)).1 hlt
          refine ⟨0, _, iter_out pre, .inl ⟨rfl, ?_⟩⟩
          rw [show dep ls ms (k + 1 + 1) i heat = heat / ms.getD i 0 from by rw [dep, if_pos (.inr hcond)]]
        · rw [show decide (heat / ms.getD i 0 < (ls.getD i dL).1) = false from by simpa using hlt] at pre
          simp only [cond_false] at pre
          have heq : heat / ms.getD i 0 = (ls.getD i dL).1 := by omega
          have hge2 : (ls.getD i dL).1 * ms.getD i 0 ≤ heat := by rw [← heq]; exact hle
          obtain ⟨s', hs, pre⟩ := step_form pre
          rw [iter_one pre]
          obtain ⟨c, q, q1, q2⟩ := depth_loop hL h1 (k + 1) (i + 1) (heat - heat / ms.getD i 0 * ms.getD i 0) (out + heat / ms.getD i 0) s' fuel (by omega) (by omega) (by omega) (by rw [hs]) (by rw [hs]) (by rw [hs]) (by rw [hs]) (by rw [hs]) (by omega) (by omega) (by omega) (by omega)
          have hdep : dep ls ms (k + 1 + 1) i heat = (ls.getD i dL).1 + dep ls ms (k + 1) (i + 1) (heat - (ls.getD i dL).1 * ms.getD i 0) := by rw [dep, if_neg (by omega)]
          refine ⟨c, q, q1, ?_⟩
          rw [hdep]
          rw [heq] at q2
          rcases q2 with ⟨a, b⟩ | ⟨a, b⟩
          · exact .inl ⟨a, by rw [b]; omega⟩
          · exact .inr ⟨a, by rw [b]; omega⟩
theorem g55 (hL : Lay ls ms) (h1 : p.1 = ls) {heat : Int} (h0 : 0 ≤ heat) (h9 : heat ≤ 1000000000) : g55_talikref01_Depth p ms heat = some (dep ls ms ls.length 0 heat) := by
  unfold g55_talikref01_Depth g55_talikref01_Depth_l0_run
  have hpos := hL.pos
  obtain ⟨c, q, q1, q2⟩ := depth_loop (p := p) hL h1 ls.length 0 heat 0 ((ms, (heat, (0, (0, (0, ()))))), (p, ())) (g55_talikref01_Depth_l0_fuel ((ms, (heat, (0, (0, (0, ()))))), (p, ()))) (by omega) (by omega) (by simp [g55_talikref01_Depth_l0_fuel, h1]) rfl rfl rfl rfl rfl h0 h9 (by omega) (by omega)
  rw [q1]
  simp only [Option.bind_some]
  rcases q2 with ⟨rfl, b⟩ | ⟨rfl, b⟩ <;> simp only [natK, b, Int.zero_add]
end
end Go.Proofs.YtbidmbjkjpdgdaaDoor.Abs
