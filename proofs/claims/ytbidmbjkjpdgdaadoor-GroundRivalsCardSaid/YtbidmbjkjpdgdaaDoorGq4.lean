/-
  Plain laws of the ground layer, fifth part: what is played.
-/
import Derived.Test.YtbidmbjkjpdgdaaDoorGq3
import Derived.Test.YtbidmbjkjpdgdaaDoorGk
set_option linter.unusedVariables false
set_option linter.unusedSimpArgs false
set_option maxRecDepth 100000
namespace Go.Proofs.YtbidmbjkjpdgdaaDoor.Abs

theorem errOf_false (p : E25) (l : List E72) : errOf p l false = bif decide ((l.length : Int) > 12) then 3 else 2 := by
  unfold errOf
  cases decide ((l.length : Int) > 12) <;> rfl
theorem errOf_false_ne (p : E25) (l : List E72) : (errOf p l false != 0) = true := by
  rw [errOf_false]
  cases decide ((l.length : Int) > 12) <;> rfl
theorem errOf_zero {p : E25} {l : List E72} {b : Bool} (h : errOf p l b = 0) : l.length ≤ 12 ∧ b = true ∧ okPl p = true ∧ l.all okY = true := by
  unfold errOf at h
  cases hd : decide ((l.length : Int) > 12) with
  | true => rw [hd] at h; simp at h
  | false =>
    rw [hd] at h
    simp only [cond_false] at h
    cases b <;> cases h1 : okPl p <;> cases h2 : l.all okY <;> rw [h1, h2] at h <;> simp at h
    refine ⟨?_, rfl, rfl, rfl⟩
    have := of_decide_eq_false hd
    omega
theorem spB_spec {s : E23} {lo hi : Int} (h : spB s lo hi = true) : lo ≤ s.1 ∧ s.1 ≤ s.2.1 ∧ s.2.1 ≤ hi := by
  unfold spB at h
  simp only [Bool.and_eq_true, decide_eq_true_eq] at h
  exact ⟨h.1.1, h.1.2, h.2⟩
theorem inB_spec {x lo hi : Int} : inB x lo hi = true ↔ lo ≤ x ∧ x ≤ hi := by
  unfold inB
  simp
theorem insI_spec {a : List Int} {n : Nat} {f : Nat → E23} (h : insI a n f = true) : a.length = n ∧ ∀ i, i < n → (f i).1 ≤ a.getD i 0 ∧ a.getD i 0 ≤ (f i).2.1 := by
  unfold insI at h
  simp only [Bool.and_eq_true, decide_eq_true_eq] at h
  exact ⟨h.1, fun i hi => inB_spec.1 (range_all.1 h.2 i hi)⟩
theorem okL_spec {p : E25} (h : okPl p = true) {i : Nat} (hi : i < p.1.length) : (1 ≤ (p.1.getD i dL).1 ∧ (p.1.getD i dL).1 ≤ 20000) ∧ 1 ≤ (p.1.getD i dL).2.1.1 ∧ (p.1.getD i dL).2.1.1 ≤ (p.1.getD i dL).2.1.2.1 ∧ (p.1.getD i dL).2.1.2.1 ≤ 1000 := by
  unfold okPl at h
  simp only [Bool.and_eq_true] at h
  have := (all_of_get (d := dL)).1 h.2 i hi
  unfold okL at this
  simp only [Bool.and_eq_true] at this
  exact ⟨inB_spec.1 this.1, spB_spec this.2⟩
theorem okPl_len {p : E25} (h : okPl p = true) : 1 ≤ p.1.length ∧ p.1.length ≤ 6 := by
  unfold okPl at h
  simp only [Bool.and_eq_true] at h
  have := inB_spec.1 h.1.1
  omega
theorem okPl_warm {p : E25} (h : okPl p = true) : 0 ≤ p.2.1.1 ∧ p.2.1.1 ≤ p.2.1.2.1 ∧ p.2.1.2.1 ≤ 1000000 := by
  unfold okPl at h
  simp only [Bool.and_eq_true] at h
  exact spB_spec h.1.2
theorem okY_spec {l : List E72} (h : l.all okY = true) {i : Nat} (hi : i < l.length) : (0 ≤ (l.getD i dY).1.1 ∧ (l.getD i dY).1.1 ≤ (l.getD i dY).1.2.1 ∧ (l.getD i dY).1.2.1 ≤ 1000000) ∧ (0 ≤ (l.getD i dY).2.1.1 ∧ (l.getD i dY).2.1.1 ≤ (l.getD i dY).2.1.2.1 ∧ (l.getD i dY).2.1.2.1 ≤ 1000000) ∧ 0 ≤ (l.getD i dY).2.2.1.1 ∧ (l.getD i dY).2.2.1.1 ≤ (l.getD i dY).2.2.1.2.1 ∧ (l.getD i dY).2.2.1.2.1 ≤ 1000 := by
  have := (all_of_get (d := dY)).1 h i hi
  unfold okY at this
  simp only [Bool.and_eq_true] at this
  exact ⟨spB_spec this.1.1, spB_spec this.1.2, spB_spec this.2⟩

theorem lay_of {p : E25} {ms : List Int} (h : okPl p = true) (hm : insI ms p.1.length (fun i => (p.1.getD i dL).2.1) = true) : Lay p.1 ms := by
  obtain ⟨h1, h2⟩ := insI_spec hm
  have hl := okPl_len h
  refine ⟨h1, hl.1, hl.2, fun i hi => (okL_spec h hi).1, fun i hi => ?_⟩
  have h3 := (okL_spec h hi).2
  have h4 := h2 i hi
  omega
theorem tru_of {p : E25} {l : List E72} {t : E29} (hl : l.length ≤ 12) (hp : okPl p = true) (hy : l.all okY = true) (ht : truB p l t = true) : Tru t l.length ∧ Lay p.1 t.1 := by
  unfold truB at ht
  simp only [Bool.and_eq_true] at ht
  obtain ⟨⟨⟨⟨t0, t1⟩, t2⟩, t3⟩, t4⟩ := ht
  obtain ⟨a1, b1⟩ := insI_spec t1
  obtain ⟨a2, b2⟩ := insI_spec t2
  obtain ⟨a3, b3⟩ := insI_spec t3
  obtain ⟨a4, b4⟩ := insI_spec t4
  have hw := okPl_warm hp
  refine ⟨⟨hl, a1, a2, a3, a4, fun i hi => ?_, fun i hi => ?_, fun i hi => ?_, fun i hi => ?_⟩, lay_of hp t0⟩
  · have := b1 i hi; omega
  · have := b2 i hi; have := (okY_spec hy hi).1; omega
  · have := b3 i hi; have := (okY_spec hy hi).2.1; omega
  · have := b4 i hi; have := (okY_spec hy hi).2.2; omega

theorem g16_eq {p : E25} {l : List E72} {t : E29} (hp : p.1.length < 2 ^ 40) (hl : l.length < 2 ^ 40) (h1 : t.1.length < 2 ^ 40) (h2 : t.2.1.length < 2 ^ 40) (h3 : t.2.2.1.length < 2 ^ 40) (h4 : t.2.2.2.1.length < 2 ^ 40) (h5 : t.2.2.2.2.1.length < 2 ^ 40) :
    g16_ground_Play p l t = bif errOf p l (truB p l t) != 0 then some ([], ((0, (0, (0, ()))), (errOf p l (truB p l t), ()))) else Option.bind (g52_ground_followed_run (p, (t, (0, (0, (0, (0, ([], ([], ((0, (0, (0, ()))), ())))))))))) fun r => some (r.2.1.2.2.2.2.2.2.1, ((r.2.1.2.2.2.2.2.2.2.2.1.1, (r.2.1.2.2.2.2.2.2.2.2.1.2.1, (r.2.1.2.2.2.2.2.2.2.2.1.2.2.1, ()))), (0, ()))) := by
  unfold g16_ground_Play truB
  rw [s_g44_ground_inside t.1 p.1 h1, s_g46_ground_inside t.2.1 l p h2, s_g46_ground_inside_v1 t.2.2.1 l h3, s_g46_ground_inside_v2 t.2.2.2.1 l h4, s_g46_ground_inside_v3 t.2.2.2.2.1 l h5]
  simp only [Option.bind_some, g51 p l _ hp hl]
  have hne := errOf_false_ne p l
  cases insI t.1 p.1.length (fun i => (p.1.getD i dL).2.1) <;> cases insI t.2.1 l.length (fun i => p.2.1) <;> cases insI t.2.2.1 l.length (fun i => (l.getD i dY).1) <;> cases insI t.2.2.2.1 l.length (fun i => (l.getD i dY).2.1) <;> cases insI t.2.2.2.2.1 l.length (fun i => (l.getD i dY).2.2.1) <;> simp only [cond_true, cond_false, Bool.and_true, Bool.and_false, Bool.true_and, Bool.false_and, hne] <;> rfl
theorem g16_bad {p : E25} {l : List E72} {t : E29} (hp : p.1.length < 2 ^ 40) (hl : l.length < 2 ^ 40) (h1 : t.1.length < 2 ^ 40) (h2 : t.2.1.length < 2 ^ 40) (h3 : t.2.2.1.length < 2 ^ 40) (h4 : t.2.2.2.1.length < 2 ^ 40) (h5 : t.2.2.2.2.1.length < 2 ^ 40) (he : errOf p l (truB p l t) ≠ 0) :
    g16_ground_Play p l t = some ([], ((0, (0, (0, ()))), (errOf p l (truB p l t), ()))) := by
  rw [g16_eq hp hl h1 h2 h3 h4 h5, show (errOf p l (truB p l t) != 0) = true from by simpa using he]
  rfl
theorem g16_ok {p : E25} {l : List E72} {t : E29} (hl : l.length ≤ 12) (hp : okPl p = true) (hy : l.all okY = true) (ht : truB p l t = true) :
    g16_ground_Play p l t = some (Ds p t 0 l.length, ((Ins t l.length, (Outs t 0 l.length, ((RL t 0 l.length).2, ()))), (0, ()))) := by
  obtain ⟨hT, hL⟩ := tru_of hl hp hy ht
  have hpl := okPl_len hp
  have hms := hL.len
  rw [g16_eq (by omega) (by omega) (by omega) (by rw [hT.l1]; omega) (by rw [hT.l2]; omega) (by rw [hT.l3]; omega) (by rw [hT.l4]; omega)]
  have he : errOf p l (truB p l t) = 0 := by
    unfold errOf
    rw [ht, hp, hy, show decide ((l.length : Int) > 12) = false from by simp; omega]
    rfl
  rw [he]
  obtain ⟨y, u, h⟩ := g52 hT hL (Int.le_refl 0) (by omega)
  rw [show ((0 : Int) != 0) = false from rfl]
  simp only [cond_false, h, Option.bind_some]
  rfl

theorem g13 (p : E25) (l : List E72) : g13_taliklaw01_short p l = some (decide (p.1.length ≤ 12) && decide (l.length ≤ 17)) := by
  unfold g13_taliklaw01_short
  by_cases h : p.1.length ≤ 12
  · rw [show decide ((List.length p.1 : Int) ≤ 12) = true from by simp; omega, show decide (p.1.length ≤ 12) = true from by simpa using h]
    simp only [cond_true, Bool.true_and]
    congr 1
    rw [decide_eq_decide]; omega
  · rw [show decide ((List.length p.1 : Int) ≤ 12) = false from by simp; omega, show decide (p.1.length ≤ 12) = false from by simpa using h]
    rfl
theorem g14 (t : E29) : g14_taliklaw01_sized t = some (decide (t.1.length ≤ 12) && decide (t.2.1.length ≤ 20) && decide (t.2.2.1.length ≤ 20) && decide (t.2.2.2.1.length ≤ 20) && decide (t.2.2.2.2.1.length ≤ 20)) := by
  unfold g14_taliklaw01_sized
  have e : ∀ {a b : Nat}, decide ((a : Int) ≤ (b : Int)) = decide (a ≤ b) := fun {a b} => by rw [decide_eq_decide]; omega
  have e1 := @e t.1.length 12
  have e2 := @e t.2.1.length 20
  have e3 := @e t.2.2.1.length 20
  have e4 := @e t.2.2.2.1.length 20
  have e5 := @e t.2.2.2.2.1.length 20
  rw [show decide ((List.length t.1 : Int) ≤ 12) = _ from e1, show decide ((List.length t.2.1 : Int) ≤ 20) = _ from e2, show decide ((List.length t.2.2.1 : Int) ≤ 20) = _ from e3, show decide ((List.length t.2.2.2.1 : Int) ≤ 20) = _ from e4, show decide ((List.length t.2.2.2.2.1 : Int) ≤ 20) = _ from e5]
  cases decide (t.1.length ≤ 12) <;> cases decide (t.2.1.length ≤ 20) <;> cases decide (t.2.2.1.length ≤ 20) <;> cases decide (t.2.2.2.1.length ≤ 20) <;> rfl
/-- Another error than none does not depend on what else is asked. -/
theorem errOf_any {p : E25} {l : List E72} {b : Bool} (h : errOf p l true ≠ 0) : errOf p l b = errOf p l true := by
  unfold errOf at h ⊢
  generalize decide ((l.length : Int) > 12) = a at h ⊢
  generalize okPl p = c at h ⊢
  generalize l.all okY = d at h ⊢
  cases a <;> cases c <;> cases d <;> cases b <;> first | rfl | exact absurd rfl h
theorem map_range_getD {α : Type} {f : Nat → α} {n i : Nat} {d : α} (hi : i < n) : ((List.range n).map f).getD i d = f i := by
  simp [List.getD_eq_getElem?_getD, List.getElem?_map, List.getElem?_range hi]
end Go.Proofs.YtbidmbjkjpdgdaaDoor.Abs
