/-
  Plain laws of the ground layer, eighth part: what is known of each year.
-/
import Derived.Test.YtbidmbjkjpdgdaaDoorGq6
set_option linter.unusedVariables false
set_option linter.unusedSimpArgs false
set_option maxRecDepth 100000
namespace Go.Proofs.YtbidmbjkjpdgdaaDoor.Abs

section
variable {p : E25} {l : List E72} {t : E29}
theorem hea_of {i : Nat} : hea t i = t.2.1.getD i 0 + t.2.2.1.getD i 0 := rfl
/-- Any truth is at least as cold as the warmest one, and at least as warm as the coldest one. -/
theorem truB_spec (ht : truB p l t = true) : insI t.1 p.1.length (fun i => (p.1.getD i dL).2.1) = true ∧ insI t.2.1 l.length (fun i => p.2.1) = true ∧ insI t.2.2.1 l.length (fun i => (l.getD i dY).1) = true ∧ insI t.2.2.2.1 l.length (fun i => (l.getD i dY).2.1) = true ∧ insI t.2.2.2.2.1 l.length (fun i => (l.getD i dY).2.2.1) = true := by
  unfold truB at ht
  simp only [Bool.and_eq_true] at ht
  exact ⟨ht.1.1.1.1, ht.1.1.1.2, ht.1.1.2, ht.1.2, ht.2⟩
theorem eT_M {w : Bool} {i : Nat} (hi : i < p.1.length) : (eT w p l).1.getD i 0 = eM w (p.1.getD i dL) := map_getD hi
theorem eT_W {w : Bool} {i : Nat} (hi : i < l.length) : (eT w p l).2.1.getD i 0 = eW w p := map_getD (d := dY) hi
theorem eT_S {w : Bool} {i : Nat} (hi : i < l.length) : (eT w p l).2.2.1.getD i 0 = eS w (l.getD i dY) := map_getD hi
theorem eT_I {w : Bool} {i : Nat} (hi : i < l.length) : (eT w p l).2.2.2.1.getD i 0 = eI w (l.getD i dY) := map_getD hi
theorem eT_N {w : Bool} {i : Nat} (hi : i < l.length) : (eT w p l).2.2.2.2.1.getD i 0 = eN w (l.getD i dY) := map_getD hi
theorem wrm_hot (hl : l.length ≤ 12) (hp : okPl p = true) (hy : l.all okY = true) (ht : truB p l t = true) {a : Int} : Wrm t (eT true p l) a a l.length := by
  obtain ⟨t0, t1, t2, t3, t4⟩ := truB_spec ht
  refine ⟨fun i hi => ?_, fun i hi => ?_⟩
  · have a1 := (insI_spec t1).2 i hi
    have a2 := (insI_spec t2).2 i hi
    rw [hea_of, hea_of, eT_W hi, eT_S hi]
    simp only [eW, eS, cond_true]
    omega
  · have a3 := (insI_spec t3).2 i hi
    have a4 := (insI_spec t4).2 i hi
    have b := (okY_spec hy hi).2
    have := goe_mono (t := t) (u := eT true p l) (i := i) (by rw [eT_I hi]; simp only [eI, cond_true]; omega) (by rw [eT_I hi]; simp only [eI, cond_true]; omega) (by rw [eT_N hi]; simp only [eN, cond_true]; omega) (by rw [eT_N hi]; simp only [eN, cond_true]; omega)
    omega
theorem wrm_cold (hl : l.length ≤ 12) (hp : okPl p = true) (hy : l.all okY = true) (ht : truB p l t = true) {a : Int} : Wrm (eT false p l) t a a l.length := by
  obtain ⟨t0, t1, t2, t3, t4⟩ := truB_spec ht
  refine ⟨fun i hi => ?_, fun i hi => ?_⟩
  · have a1 := (insI_spec t1).2 i hi
    have a2 := (insI_spec t2).2 i hi
    rw [hea_of, hea_of, eT_W hi, eT_S hi]
    simp only [eW, eS, cond_false]
    omega
  · have a3 := (insI_spec t3).2 i hi
    have a4 := (insI_spec t4).2 i hi
    have b := (okY_spec hy hi).2
    have := goe_mono (t := eT false p l) (u := t) (i := i) (by omega) (by rw [eT_I hi]; simp only [eI, cond_false]; omega) (by rw [eT_N hi]; simp only [eN, cond_false]; omega) (by omega)
    omega
theorem melt_hot (ht : truB p l t = true) {i : Nat} (hi : i < p.1.length) : (eT true p l).1.getD i 0 ≤ t.1.getD i 0 := by
  have := (insI_spec (truB_spec ht).1).2 i hi
  rw [eT_M hi]
  simp only [eM, cond_true]
  omega
theorem melt_cold (ht : truB p l t = true) {i : Nat} (hi : i < p.1.length) : t.1.getD i 0 ≤ (eT false p l).1.getD i 0 := by
  have := (insI_spec (truB_spec ht).1).2 i hi
  rw [eT_M hi]
  simp only [eM, cond_false]
  omega
/-- The depth of thaw, and the heat that is left, lie between both ends'. -/
theorem thw_hot (hl : l.length ≤ 12) (hp : okPl p = true) (hy : l.all okY = true) (ht : truB p l t = true) {a : Int} (ha : 0 ≤ a) {i : Nat} (hi : i < l.length) : thw p t a i ≤ thw p (eT true p l) a i := by
  obtain ⟨hT, hL⟩ := tru_of hl hp hy ht
  obtain ⟨hU, hM⟩ := tru_of hl hp hy (eT_true hp hy true)
  exact thw_mono hT hU hL hM (fun i hi => melt_hot ht hi) ha ha (wrm_hot hl hp hy ht) (Nat.le_refl _) hi
theorem thw_cold (hl : l.length ≤ 12) (hp : okPl p = true) (hy : l.all okY = true) (ht : truB p l t = true) {a : Int} (ha : 0 ≤ a) {i : Nat} (hi : i < l.length) : thw p (eT false p l) a i ≤ thw p t a i := by
  obtain ⟨hT, hL⟩ := tru_of hl hp hy ht
  obtain ⟨hU, hM⟩ := tru_of hl hp hy (eT_true hp hy false)
  exact thw_mono hU hT hM hL (fun i hi => melt_cold ht hi) ha ha (wrm_cold hl hp hy ht) (Nat.le_refl _) hi
theorem lef_hot (hl : l.length ≤ 12) (hp : okPl p = true) (hy : l.all okY = true) (ht : truB p l t = true) {a : Int} (ha : 0 ≤ a) {i : Nat} (hi : i ≤ l.length) : (RL t a i).2 ≤ (RL (eT true p l) a i).2 := by
  obtain ⟨hT, hL⟩ := tru_of hl hp hy ht
  obtain ⟨hU, hM⟩ := tru_of hl hp hy (eT_true hp hy true)
  exact (RL_mono hT hU ha ha (wrm_hot hl hp hy ht) (Nat.le_refl _) i hi).2
theorem lef_cold (hl : l.length ≤ 12) (hp : okPl p = true) (hy : l.all okY = true) (ht : truB p l t = true) {a : Int} (ha : 0 ≤ a) {i : Nat} (hi : i ≤ l.length) : (RL (eT false p l) a i).2 ≤ (RL t a i).2 := by
  obtain ⟨hT, hL⟩ := tru_of hl hp hy ht
  obtain ⟨hU, hM⟩ := tru_of hl hp hy (eT_true hp hy false)
  exact (RL_mono hU hT ha ha (wrm_cold hl hp hy ht) (Nat.le_refl _) i hi).2
end

/-- What is known of a year. -/
def kno (p : E25) (l : List E72) (j : Nat) : E53 :=
  ((thw p (eT false p l) 0 j, (thw p (eT true p l) 0 j, ())), (((RL (eT false p l) 0 (j + 1)).2, ((RL (eT true p l) 0 (j + 1)).2, ())), ((if (RL (eT true p l) 0 (j + 1)).2 = 0 then 1 else if (RL (eT false p l) 0 (j + 1)).2 > 0 then 3 else 2), ())))
def Kno (p : E25) (l : List E72) (n : Nat) : List E53 := (List.range n).map (kno p l)
theorem Kno_succ (p : E25) (l : List E72) (n : Nat) : Kno p l (n + 1) = Kno p l n ++ [kno p l n] := by simp [Kno, List.range_succ]
theorem Kno_len (p : E25) (l : List E72) (n : Nat) : (Kno p l n).length = n := by simp [Kno]
theorem Kno_getD {p : E25} {l : List E72} {n i : Nat} {d : E53} (hi : i < n) : (Kno p l n).getD i d = kno p l i := map_range_getD hi

theorem years_how {a b : E90} {o : List E53} {j k m : Int} {u v : Int} {p : E25} {tab : List Int} : ∃ q, g23_ground_Years_l1_run ((a, (b, (o, (j, (0, (k, (m, ((u, (v, ())), (0, ()))))))))), (p, (tab, ()))) = some (0, q) ∧ q.1.1 = a ∧ q.1.2.1 = b ∧ q.1.2.2.1 = o ∧ q.1.2.2.2.1 = j ∧ q.1.2.2.2.2.1 = (bif decide (u > 0) then (bif decide (v > 0) then 2 else 1) else (bif decide (v > 0) then 1 else 0)) ∧ q.1.2.2.2.2.2.1 = k ∧ q.1.2.2.2.2.2.2.1 = m ∧ q.2.1 = p ∧ q.2.2.1 = tab := by
  unfold g23_ground_Years_l1_run
  rw [show g23_ground_Years_l1_fuel ((a, (b, (o, (j, (0, (k, (m, ((u, (v, ())), (0, ()))))))))), (p, (tab, ()))) = 1 + 1 + 1 from rfl]
  have s1 : g23_ground_Years_l1_step ((a, (b, (o, (j, (0, (k, (m, ((u, (v, ())), (0, ()))))))))), (p, (tab, ()))) = some (0, ((a, (b, (o, (j, ((bif decide (u > 0) then 1 else 0), (k, (m, ((u, (v, ())), (1, ()))))))))), (p, (tab, ())))) := by
    unfold g23_ground_Years_l1_step
    simp only [show decide ((0 : Int) < 2) = true from rfl, show decide ((0 : Int) = 0) = true from rfl, cond_true]
    cases decide (u > 0) <;> rfl
  have s2 : ∀ h : Int, 0 ≤ h → h ≤ 1 → g23_ground_Years_l1_step ((a, (b, (o, (j, (h, (k, (m, ((u, (v, ())), (1, ()))))))))), (p, (tab, ()))) = some (0, ((a, (b, (o, (j, ((bif decide (v > 0) then h + 1 else h), (k, (m, ((u, (v, ())), (2, ()))))))))), (p, (tab, ())))) := by
    intro h h0 h1
    have w : IntKind.wrap .i64 (h + 1) = h + 1 := wr (by omega) (by omega)
    unfold g23_ground_Years_l1_step
    simp only [show decide ((1 : Int) < 2) = true from rfl, show decide ((1 : Int) = 0) = false from rfl, show decide ((1 : Int) = 1) = true from rfl, cond_true, cond_false, w]
    cases decide (v > 0) <;> rfl
  have s3 : ∀ h : Int, g23_ground_Years_l1_step ((a, (b, (o, (j, (h, (k, (m, ((u, (v, ())), (2, ()))))))))), (p, (tab, ()))) = some (1, ((a, (b, (o, (j, (h, (k, (m, ((u, (v, ())), (2, ()))))))))), (p, (tab, ())))) := by
    intro h
    unfold g23_ground_Years_l1_step
    simp only [show decide ((2 : Int) < 2) = false from rfl, cond_false]
  rw [iter_one s1, iter_one (s2 _ (by cases decide (u > 0) <;> simp) (by cases decide (u > 0) <;> simp)), iter_out (s3 _)]
  refine ⟨_, rfl, rfl, rfl, rfl, rfl, ?_, rfl, rfl, rfl, rfl⟩
  cases decide (u > 0) <;> cases decide (v > 0) <;> rfl
theorem g23_bad {p : E25} {l : List E72} (hp : p.1.length < 2 ^ 40) (hl : l.length < 2 ^ 40) (h : errOf p l true ≠ 0) : g23_ground_Years p l = some ([], (errOf p l true, ())) := by
  unfold g23_ground_Years
  rw [g51 p l _ hp hl]
  simp only [Option.bind_some]
  rw [show (errOf p l true != 0) = true from by simpa using h]
  rfl
theorem lef_ends {p : E25} {l : List E72} (hl : l.length ≤ 12) (hp : okPl p = true) (hy : l.all okY = true) {i : Nat} (hi : i ≤ l.length) : 0 ≤ (RL (eT false p l) 0 i).2 ∧ (RL (eT false p l) 0 i).2 ≤ (RL (eT true p l) 0 i).2 := by
  obtain ⟨hT, hL⟩ := tru_of hl hp hy (eT_true hp hy false)
  exact ⟨(RL_bd hT (Int.le_refl 0) i hi).2.1, lef_hot hl hp hy (eT_true hp hy false) (Int.le_refl 0) hi⟩
theorem g23_ok {p : E25} {l : List E72} (h : errOf p l true = 0) : g23_ground_Years p l = some (Kno p l l.length, (0, ())) := by
  obtain ⟨hl, _, hp, hy⟩ := errOf_zero h
  have hpl := okPl_len hp
  obtain ⟨y, h2⟩ := g57 hl hp hy
  obtain ⟨z, h1⟩ := g58 (more := 0) hl hp hy (Int.le_refl 0) (by omega)
  unfold g23_ground_Years g23_ground_Years_l0_run
  rw [g51 p l _ (by omega) (by omega), h, h2, h1]
  simp only [Option.bind_some, show ((0 : Int) != 0) = false from rfl, cond_false]
  obtain ⟨q, q1, q2⟩ := iter_all (step := g23_ground_Years_l0_step) (n := l.length) (k := 0) (fun i s => s.1.1 = FB p (eT false p l) 0 y l.length ∧ s.1.2.1 = FB p (eT true p l) 0 z l.length ∧ s.1.2.2.1 = Kno p l i ∧ s.1.2.2.2.1 = (l.length : Int) ∧ s.1.2.2.2.2.1 = (i : Int) ∧ s.2.2.1 = [1, 2, 3]) (fun q => q.1.2.2.1 = Kno p l l.length)
    (fun i s hs hi => by
      obtain ⟨e1, e2, e3, e4, e5, e6⟩ := hs
      obtain ⟨r0, r1⟩ := lef_ends hl hp hy (show i + 1 ≤ l.length by omega)
      obtain ⟨q, q1, q2, q3, q4, q5, q6, q7, q8, q9, q10⟩ := years_how (a := FB p (eT false p l) 0 y l.length) (b := FB p (eT true p l) 0 z l.length) (o := Kno p l i) (j := (i : Int)) (k := (l.length : Int)) (m := (i : Int)) (u := (RL (eT false p l) 0 (i + 1)).2) (v := (RL (eT true p l) 0 (i + 1)).2) (p := s.2.1) (tab := [1, 2, 3])
      have st : g23_ground_Years_l0_step s = some (0, ((FB p (eT false p l) 0 y l.length, (FB p (eT true p l) 0 z l.length, (Kno p l (i + 1), ((l.length : Int), ((IntKind.wrap .i64 ((i : Int) + 1)), ()))))), (s.2.1, ([1, 2, 3], ())))) := by
        unfold g23_ground_Years_l0_step
        simp only [e1, e2, e3, e4, e5, e6]
        simp only [show (FB p (eT false p l) 0 y l.length).2.2.2.2.2.2.2.1 = Ls (eT false p l) 0 l.length from rfl, show (FB p (eT true p l) 0 z l.length).2.2.2.2.2.2.2.1 = Ls (eT true p l) 0 l.length from rfl, Ls_len, getD_toNat, Ls_getD hi, inside_lt hi, show decide ((i : Int) < (l.length : Int)) = true from by simp; omega, cond_true, q1, Option.bind_some, q2, q3, q4, q5, q6, q7, q8, q9, q10]
        simp only [show (FB p (eT false p l) 0 y l.length).2.2.2.2.2.2.2.1 = Ls (eT false p l) 0 l.length from rfl, show (FB p (eT true p l) 0 z l.length).2.2.2.2.2.2.2.1 = Ls (eT true p l) 0 l.length from rfl, show (FB p (eT false p l) 0 y l.length).2.2.2.2.2.2.1 = Ds p (eT false p l) 0 l.length from rfl, show (FB p (eT true p l) 0 z l.length).2.2.2.2.2.2.1 = Ds p (eT true p l) 0 l.length from rfl, Ls_len, Ds_len, getD_toNat, Ls_getD hi, Ds_getD hi, inside_lt hi, cond_true]
        have hin : (decide (0 ≤ (bif decide ((RL (eT false p l) 0 (i + 1)).2 > 0) then (bif decide ((RL (eT true p l) 0 (i + 1)).2 > 0) then (2 : Int) else 1) else (bif decide ((RL (eT true p l) 0 (i + 1)).2 > 0) then 1 else 0))) && decide ((bif decide ((RL (eT false p l) 0 (i + 1)).2 > 0) then (bif decide ((RL (eT true p l) 0 (i + 1)).2 > 0) then (2 : Int) else 1) else (bif decide ((RL (eT true p l) 0 (i + 1)).2 > 0) then 1 else 0)) < (3 : Int))) = true := by
          cases decide ((RL (eT false p l) 0 (i + 1)).2 > 0) <;> cases decide ((RL (eT true p l) 0 (i + 1)).2 > 0) <;> rfl
        rw [hin, lim_ok (by simp [Kno_len]; omega), Kno_succ]
        simp only [cond_true]
        have hk : List.getD [1, 2, 3] (Int.toNat (bif decide ((RL (eT false p l) 0 (i + 1)).2 > 0) then (bif decide ((RL (eT true p l) 0 (i + 1)).2 > 0) then (2 : Int) else 1) else (bif decide ((RL (eT true p l) 0 (i + 1)).2 > 0) then 1 else 0))) 0 = (if (RL (eT true p l) 0 (i + 1)).2 = 0 then (1 : Int) else if (RL (eT false p l) 0 (i + 1)).2 > 0 then 3 else 2) := by
          by_cases h1 : (RL (eT true p l) 0 (i + 1)).2 = 0
          · rw [if_pos h1, show decide ((RL (eT true p l) 0 (i + 1)).2 > 0) = false from by simp; omega, show decide ((RL (eT false p l) 0 (i + 1)).2 > 0) = false from by simp; omega]
            rfl
          · rw [if_neg h1, show decide ((RL (eT true p l) 0 (i + 1)).2 > 0) = true from by simp; omega]
            by_cases h2 : (RL (eT false p l) 0 (i + 1)).2 > 0
            · rw [if_pos h2, show decide ((RL (eT false p l) 0 (i + 1)).2 > 0) = true from by simpa using h2]
              rfl
            · rw [if_neg h2, show decide ((RL (eT false p l) 0 (i + 1)).2 > 0) = false from by simpa using h2]
              rfl
        rw [hk]
        rfl
      exact ⟨_, st, rfl, rfl, rfl, rfl, wr (by omega) (by omega), rfl⟩)
    (fun s hs => by
      obtain ⟨e1, e2, e3, e4, e5, e6⟩ := hs
      have st : g23_ground_Years_l0_step s = some (1, ((s.1.1, (s.1.2.1, (s.1.2.2.1, (s.1.2.2.2.1, (s.1.2.2.2.2.1, ()))))), (s.2.1, (s.2.2.1, ())))) := by
        unfold g23_ground_Years_l0_step
        simp only [e4, e5, show decide ((l.length : Int) < (l.length : Int)) = false from by simp, cond_false]
      exact ⟨_, st, e3⟩)
    (g23_ground_Years_l0_fuel ((FB p (eT false p l) 0 y l.length, (FB p (eT true p l) 0 z l.length, ([], ((List.length l : Int), (0, ()))))), (p, ((1 :: (2 :: (3 :: []))), ())))) ((FB p (eT false p l) 0 y l.length, (FB p (eT true p l) 0 z l.length, ([], ((List.length l : Int), (0, ()))))), (p, ((1 :: (2 :: (3 :: []))), ()))) (by simp [g23_ground_Years_l0_fuel]) ⟨rfl, rfl, rfl, rfl, rfl, rfl⟩
  rw [q1]
  simp only [Option.bind_some, q2]
end Go.Proofs.YtbidmbjkjpdgdaaDoor.Abs
