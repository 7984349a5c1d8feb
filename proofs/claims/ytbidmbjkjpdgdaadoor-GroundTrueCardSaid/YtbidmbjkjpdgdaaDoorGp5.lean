/-
  The law GroundTrue, as a function of data, holds for every input.
-/
import Derived.Test.YtbidmbjkjpdgdaaDoorGl5
import Derived.Test.YtbidmbjkjpdgdaaDoorGq8
set_option linter.unusedVariables false
set_option linter.unusedSimpArgs false
set_option maxRecDepth 100000
namespace Go.Proofs.YtbidmbjkjpdgdaaDoor.Abs

theorem RL_congr {t u : E29} {a : Int} : ∀ i, (∀ j, j < i → hea u j = hea t j ∧ goe u j = goe t j) → RL u a i = RL t a i
  | 0, _ => rfl
  | i + 1, h => by
    have e := RL_congr (t := t) (u := u) (a := a) i fun j hj => h j (by omega)
    obtain ⟨h1, h2⟩ := h i (by omega)
    rw [RL_succ, RL_succ]
    unfold Rs Ou Lf
    rw [e, h1, h2]
theorem Rs_congr {t u : E29} {a : Int} {i : Nat} (h : ∀ j, j < i + 1 → hea u j = hea t j ∧ goe u j = goe t j) : Rs u a i = Rs t a i := by
  have e := RL_congr (t := t) (u := u) (a := a) i fun j hj => h j (by omega)
  unfold Rs Lf
  rw [e, (h i (by omega)).1]
/-- The first years of a truth alone. -/
def pre (t : E29) (n : Nat) : E29 := (t.1, (t.2.1.take n, (t.2.2.1.take n, (t.2.2.2.1.take n, (t.2.2.2.2.1.take n, ())))))
theorem take_getD {α : Type} {l : List α} {n i : Nat} {d : α} (hi : i < n) : (l.take n).getD i d = l.getD i d := by
  simp [List.getD_eq_getElem?_getD, List.getElem?_take, hi]
theorem pre_same {t : E29} {n j : Nat} (hj : j < n) : hea (pre t n) j = hea t j ∧ goe (pre t n) j = goe t j := by
  unfold hea goe pre
  simp only [take_getD hj]
  exact ⟨trivial, trivial⟩
theorem insI_take {a : List Int} {n m : Nat} {f : Nat → E23} (h : insI a n f = true) (hm : m ≤ n) {g : Nat → E23} (hg : ∀ i, i < m → g i = f i) : insI (a.take m) m g = true := by
  obtain ⟨h1, h2⟩ := insI_spec h
  refine insI_of (by simp; omega) fun i hi => ?_
  rw [take_getD hi, hg i hi]
  exact h2 i (by omega)
theorem Fair.pre {p : E25} {l : List E72} {t : E29} (h : Fair p l t) {m : Nat} (hm : m ≤ l.length) : Fair p (l.take m) (pre t m) := by
  obtain ⟨t0, t1, t2, t3, t4⟩ := truB_spec h.tru
  have hlen : (l.take m).length = m := by simp; omega
  refine ⟨?_, ?_⟩
  · have hy : (l.take m).all okY = true := List.all_eq_true.2 fun x hx => List.all_eq_true.1 h.years x (List.mem_of_mem_take hx)
    have hf := h.few
    unfold errOf
    rw [h.place, hy, show decide (((l.take m).length : Int) > 12) = false from decide_eq_false (by omega)]
    rfl
  · unfold truB
    rw [hlen]
    have e1 : insI (Abs.pre t m).1 p.1.length (fun i => (p.1.getD i dL).2.1) = true := t0
    have e2 : insI (Abs.pre t m).2.1 m (fun i => p.2.1) = true := insI_take t1 hm fun _ _ => rfl
    have e3 : insI (Abs.pre t m).2.2.1 m (fun i => ((l.take m).getD i dY).1) = true := insI_take t2 hm fun i hi => by rw [take_getD hi]
    have e4 : insI (Abs.pre t m).2.2.2.1 m (fun i => ((l.take m).getD i dY).2.1) = true := insI_take t3 hm fun i hi => by rw [take_getD hi]
    have e5 : insI (Abs.pre t m).2.2.2.2.1 m (fun i => ((l.take m).getD i dY).2.2.1) = true := insI_take t4 hm fun i hi => by rw [take_getD hi]
    rw [e1, e2, e3, e4, e5]
    rfl
theorem true_loop {p : E25} {l : List E72} {t : E29} (h : Fair p l t) : ∃ q, g5_taliklaw01_GroundTrue_l0_run ((l, (false, (Kno p l l.length, (0, ())))), (p, (t, ()))) = some (1, q) := by
  have hT := h.T
  have hf := hT.few
  unfold g5_taliklaw01_GroundTrue_l0_run
  obtain ⟨q, q1, _⟩ := iter_all (step := g5_taliklaw01_GroundTrue_l0_step) (n := l.length) (k := 1) (fun i s => s.1.1 = l ∧ s.1.2.2.1 = Kno p l l.length ∧ s.1.2.2.2.1 = (i : Int) ∧ s.2.1 = p ∧ s.2.2.1 = t) (fun q => True)
    (fun i s hs hi => by
      obtain ⟨e1, e2, e3, e4, e5⟩ := hs
      have w1 : IntKind.wrap .i64 ((i : Int) + 1) = ((i + 1 : Nat) : Int) := by rw [wr (by omega) (by omega)]; omega
      have hlen : (l.take (i + 1)).length = i + 1 := by simp; omega
      have hp := (h.pre (m := i + 1) (by omega)).play
      rw [hlen] at hp
      have k1 : RL (pre t (i + 1)) 0 (i + 1) = RL t 0 (i + 1) := RL_congr _ fun j hj => pre_same hj
      have k2 : thw p (pre t (i + 1)) 0 i = thw p t 0 i := by
        unfold thw
        rw [Rs_congr fun j hj => pre_same hj]
        rfl
      rw [k1] at hp
      have b1 : inB (thw p t 0 i) (kno p l i).1.1 (kno p l i).1.2.1 = true := inB_spec.2 (h.thaw hi)
      have b2 : inB (RL t 0 (i + 1)).2 (kno p l i).2.1.1 (kno p l i).2.1.2.1 = true := inB_spec.2 (h.left (i := i + 1) (by omega))
      have b3 := h.left (i := i + 1) (by omega)
      have b4 := h.least (i := i + 1) (by omega)
      have sl : ∀ {n : Nat}, n = l.length → (decide (0 ≤ (0 : Int)) && decide ((0 : Int) ≤ ((i + 1 : Nat) : Int)) && decide (((i + 1 : Nat) : Int) ≤ (n : Int))) = true := fun hn => by
        rw [show decide (0 ≤ (0 : Int)) = true from rfl, show decide ((0 : Int) ≤ ((i + 1 : Nat) : Int)) = true from decide_eq_true (by omega), decide_eq_true (by omega)]
        rfl
      have st : g5_taliklaw01_GroundTrue_l0_step s = some (0, ((l, (s.1.2.1, (Kno p l l.length, (((i + 1 : Nat) : Int), ())))), (p, (t, ())))) := by
        unfold g5_taliklaw01_GroundTrue_l0_step
        simp only [e1, e2, e3, e4, e5, w1]
        rw [sl hT.l1, sl hT.l2, sl hT.l3, sl hT.l4, sl rfl, decide_eq_true (show (i : Int) < (l.length : Int) by omega)]
        simp only [cond_true, show Int.toNat 0 = 0 from rfl, List.drop_zero, getD_toNat, Int.toNat_natCast]
        rw [show (t.1, (List.take (i + 1) t.2.1, (List.take (i + 1) t.2.2.1, (List.take (i + 1) t.2.2.2.1, (List.take (i + 1) t.2.2.2.2.1, ()))))) = pre t (i + 1) from rfl, hp]
        simp only [Option.bind_some, show ((0 : Int) != 0) = false from rfl, cond_false, Ds_len, Kno_len, show (((i + 1 : Nat) : Int) != ((i + 1 : Nat) : Int)) = false from by simp, inside_lt (show i < i + 1 by omega), inside_lt hi, cond_true, Ds_getD (show i < i + 1 by omega), Kno_getD hi, k2, g25, b1, b2, Bool.not_true]
        by_cases c1 : (RL (eT true p l) 0 (i + 1)).2 = 0
        · have c2 : (RL t 0 (i + 1)).2 = 0 := by omega
          rw [show (kno p l i).2.2.1 = 1 from if_pos c1, c2]
          rfl
        · by_cases c2 : (RL (eT false p l) 0 (i + 1)).2 > 0
          · rw [show (kno p l i).2.2.1 = 3 from Eq.trans (if_neg c1) (if_pos c2), show ((RL t 0 (i + 1)).2 == 0) = false from by simp; omega]
            rfl
          · rw [show (kno p l i).2.2.1 = 2 from Eq.trans (if_neg c1) (if_neg c2)]
            rfl
      exact ⟨_, st, rfl, rfl, rfl, rfl, rfl⟩)
    (fun s hs => by
      obtain ⟨e1, e2, e3, e4, e5⟩ := hs
      have st : g5_taliklaw01_GroundTrue_l0_step s = some (2, ((s.1.1, (s.1.2.1, (s.1.2.2.1, (s.1.2.2.2.1, ())))), (s.2.1, (s.2.2.1, ())))) := by
        unfold g5_taliklaw01_GroundTrue_l0_step
        simp only [e1, e3, show decide ((l.length : Int) < (l.length : Int)) = false from by simp, cond_false]
      exact ⟨_, st, trivial⟩)
    (g5_taliklaw01_GroundTrue_l0_fuel ((l, (false, (Kno p l l.length, (0, ())))), (p, (t, ())))) ((l, (false, (Kno p l l.length, (0, ())))), (p, (t, ()))) (by simp [g5_taliklaw01_GroundTrue_l0_fuel]) ⟨rfl, rfl, rfl, rfl, rfl⟩
  exact ⟨q, q1⟩
theorem true_true (p : E25) (l : List E72) (t : E29) : g5_taliklaw01_GroundTrue p l t = some true := by
  unfold g5_taliklaw01_GroundTrue
  obtain ⟨b, h1, h2⟩ := g22 p l t
  rw [h1, known_true]
  simp only [Option.bind_some]
  cases b with
  | false => rfl
  | true =>
    have h := h2 rfl
    obtain ⟨q, q1⟩ := true_loop h
    rw [h.known]
    simp only [Bool.not_true, cond_false, Option.bind_some, show ((0 : Int) != 0) = false from rfl, Kno_len, show ((l.length : Int) != (l.length : Int)) = false from by simp, q1]
    rfl
theorem g5_taliklaw01_GroundTrue_true (x : Els [.dat T25, .dat (.list T72), .dat T29]) : g5_taliklaw01_GroundTrue x.1 x.2.1 x.2.2.1 = some true := true_true _ _ _
end Go.Proofs.YtbidmbjkjpdgdaaDoor.Abs
