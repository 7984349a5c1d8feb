/-
  Plain laws of the ground layer, tenth part: what is searched by halves; how much heat may come, how much cold is needed.
-/
import Derived.Test.YtbidmbjkjpdgdaaDoorGq8
set_option linter.unusedVariables false
set_option linter.unusedSimpArgs false
set_option maxRecDepth 100000
namespace Go.Proofs.YtbidmbjkjpdgdaaDoor.Abs

/-- A number from 0 to some greatest one below which something holds nowhere, and from which on it holds everywhere. -/
structure Least (holds : Int → Bool) (top n : Int) : Prop where
  lo : 0 ≤ n
  hi : n ≤ top
  below : ∀ m, 0 ≤ m → m < n → holds m = false
  above : ∀ m, n ≤ m → m < top → holds m = true
theorem Least.unique {holds : Int → Bool} {top a b : Int} (h : Least holds top a) (g : Least holds top b) : a = b := by
  rcases Int.lt_trichotomy a b with c | c | c
  · have h1 := g.below a h.lo c
    have h2 := h.above a (Int.le_refl _) (by have := g.hi; omega)
    rw [h1] at h2; cases h2
  · exact c
  · have h1 := h.below b g.lo c
    have h2 := g.above b (Int.le_refl _) (by have := h.hi; omega)
    rw [h1] at h2; cases h2
theorem halves {α : Type} {step : α → Option (Nat × α)} {kx : Nat} (lo hi : α → Int) (holds : Int → Bool) (top : Int) (I : α → Prop)
    (hmono : ∀ a b, 0 ≤ a → a ≤ b → b < top → holds a = true → holds b = true)
    (hgo : ∀ s, I s → 0 ≤ lo s → lo s < hi s → hi s ≤ top → ∃ t s', lo s ≤ t ∧ t < hi s ∧ 2 * (t - lo s) ≤ hi s - lo s ∧ 2 * (hi s - t - 1) ≤ hi s - lo s ∧ step s = some (0, s') ∧ I s' ∧ (holds t = true ∧ lo s' = lo s ∧ hi s' = t ∨ holds t = false ∧ lo s' = t + 1 ∧ hi s' = hi s))
    (hend : ∀ s, I s → lo s = hi s → ∃ s', step s = some (kx + 1, s') ∧ I s' ∧ lo s' = lo s) :
    ∀ (k fuel : Nat) (s : α), k < fuel → I s → 0 ≤ lo s → lo s ≤ hi s → hi s ≤ top → hi s - lo s < 2 ^ k → (∀ m, 0 ≤ m → m < lo s → holds m = false) → (∀ m, hi s ≤ m → m < top → holds m = true) → ∃ q, iter step fuel s = some (kx, q) ∧ I q ∧ Least holds top (lo q)
  | k, 0, s, hk, _, _, _, _, _, _, _ => by omega
  | 0, fuel + 1, s, _, hI, h0, h1, h9, hd, hb, ha => by
    have e : lo s = hi s := by
      have : (2 : Int) ^ 0 = 1 := rfl
      omega
    obtain ⟨s', s1, s2, s3⟩ := hend s hI e
    exact ⟨s', iter_out s1, s2, by rw [s3]; exact ⟨h0, by omega, hb, by rw [e]; exact ha⟩⟩
  | k + 1, fuel + 1, s, hk, hI, h0, h1, h9, hd, hb, ha => by
    by_cases e : lo s = hi s
    · obtain ⟨s', s1, s2, s3⟩ := hend s hI e
      exact ⟨s', iter_out s1, s2, by rw [s3]; exact ⟨h0, by omega, hb, by rw [e]; exact ha⟩⟩
    · obtain ⟨t, s', t1, t2, t3, t4, s1, s2, s3⟩ := hgo s hI h0 (by omega) h9
      rw [iter_one s1]
      have hp : (2 : Int) ^ (k + 1) = 2 * 2 ^ k := by rw [Int.pow_succ]; omega
      rcases s3 with ⟨c, e1, e2⟩ | ⟨c, e1, e2⟩
      · exact halves lo hi holds top I hmono hgo hend k fuel s' (by omega) s2 (by omega) (by omega) (by omega) (by omega) (by rw [e1]; exact hb) (by rw [e2]; exact fun m m1 m2 => hmono t m (by omega) m1 m2 c)
      · refine halves lo hi holds top I hmono hgo hend k fuel s' (by omega) s2 (by omega) (by omega) (by omega) (by omega) (fun m m1 m2 => ?_) (by rw [e2]; exact ha)
        cases hm : holds m with
        | false => rfl
        | true =>
          have := hmono m t m1 (by omega) (by omega) hm
          rw [c] at this
          cases this

/-! ### A map of what is known -/
theorem findD_put {k k' : Int} {v : Bool} : {xs : List (Int × Bool)} → findD (.int .i64) k' (putD (.int .i64) k v xs) = if k' = k then some v else findD (.int .i64) k' xs
  | [] => by
    unfold putD findD
    by_cases h : k' = k
    · rw [if_pos h, show eqD (.int .i64) k' k = true from decide_eq_true h]
      rfl
    · rw [if_neg h, show eqD (.int .i64) k' k = false from decide_eq_false h]
      rfl
  | x :: xs => by
    unfold putD
    by_cases hx : k = x.1
    · rw [show eqD (.int .i64) k x.1 = true from decide_eq_true hx]
      simp only [cond_true, findD]
      by_cases h : k' = k
      · rw [if_pos h, show eqD (.int .i64) k' k = true from decide_eq_true h]
        rfl
      · rw [if_neg h, show eqD (.int .i64) k' k = false from decide_eq_false h, show eqD (.int .i64) k' x.1 = false from decide_eq_false (by rw [← hx]; exact h)]
        rfl
    · rw [show eqD (.int .i64) k x.1 = false from decide_eq_false hx]
      simp only [cond_false, findD]
      rw [findD_put (xs := xs)]
      by_cases h : k' = k
      · rw [if_pos h, if_pos h, show eqD (.int .i64) k' x.1 = false from decide_eq_false (by rw [h]; exact hx)]
        rfl
      · rw [if_neg h, if_neg h]
def Memo (holds : Int → Bool) (m : List (Int × Bool)) : Prop := ∀ k b, findD (.int .i64) k m = some b → b = holds k
theorem Memo.put {holds : Int → Bool} {m : List (Int × Bool)} (h : Memo holds m) (k : Int) : Memo holds (putD (.int .i64) k (holds k) m) := fun k' b hb => by
  rw [findD_put] at hb
  by_cases e : k' = k
  · rw [if_pos e] at hb
    cases hb
    rw [e]
  · rw [if_neg e] at hb
    exact h k' b hb

/-! ### A building's heat, and cold -/
/-- A place with another heat of its building. -/
def wp (p : E25) (w : Int) : E25 := (p.1, ((w, (w, ())), p.2.2))
def excW (p : E25) (l : List E72) (d w : Int) : Bool := decide (exc true (wp p w) l 0 d < l.length)
def kepM (p : E25) (l : List E72) (d m : Int) : Bool := decide (exc true p l m d = l.length)
theorem wp_ok {p : E25} {w : Int} (hp : okPl p = true) (h0 : 0 ≤ w) (h9 : w ≤ 1000000) : okPl (wp p w) = true := by
  unfold okPl at hp ⊢
  simp only [Bool.and_eq_true] at hp ⊢
  refine ⟨⟨hp.1.1, ?_⟩, hp.2⟩
  unfold spB wp
  simp only [Bool.and_eq_true, decide_eq_true_eq]
  omega
theorem wp_err {p : E25} {l : List E72} {w : Int} (h : errOf p l true = 0) (h0 : 0 ≤ w) (h9 : w ≤ 1000000) : errOf (wp p w) l true = 0 := by
  obtain ⟨hl, _, hp, hy⟩ := errOf_zero h
  unfold errOf
  rw [wp_ok hp h0 h9, hy, show decide ((l.length : Int) > 12) = false from decide_eq_false (by omega)]
  rfl
theorem excW_mono {p : E25} {l : List E72} {d : Int} (h : errOf p l true = 0) : ∀ a b, 0 ≤ a → a ≤ b → b ≤ 1000000 → excW p l d a = true → excW p l d b = true := by
  intro a b h0 hab h9 ha
  have fa := fair_end (w := true) (wp_err h h0 (by omega))
  have fb := fair_end (w := true) (wp_err (w := b) h (by omega) h9)
  unfold excW at ha ⊢
  rw [decide_eq_true_eq] at ha ⊢
  refine Nat.lt_of_le_of_lt (fst_mono fun i hi => ?_) ha
  have hw : Wrm (eT true (wp p a) l) (eT true (wp p b) l) 0 0 l.length := ⟨fun j hj => by
      rw [hea_of, hea_of, eT_W hj, eT_W hj, eT_S hj, eT_S hj]
      simp only [eW, cond_true, wp]
      omega, fun j hj => by
      have : goe (eT true (wp p b) l) j = goe (eT true (wp p a) l) j := rfl
      omega⟩
  exact thw_mono (p := wp p a) fa.T fb.T fa.L fb.L (fun j hj => Int.le_refl _) (Int.le_refl 0) (Int.le_refl 0) hw (Nat.le_refl _) hi
theorem kepM_mono {p : E25} {l : List E72} {d : Int} (h : errOf p l true = 0) : ∀ a b, 0 ≤ a → a ≤ b → b ≤ 1000000 → kepM p l d a = true → kepM p l d b = true := by
  intro a b h0 hab h9 ha
  have fa := fair_end (w := true) h
  unfold kepM at ha ⊢
  rw [decide_eq_true_eq] at ha ⊢
  have h1 := exc_le (w := true) (p := p) (l := l) (more := b) (d := d)
  have h2 : exc true p l a d ≤ exc true p l b d := fst_mono fun i hi => by
    have hw : Wrm (eT true p l) (eT true p l) b a l.length := ⟨fun j hj => Int.le_refl _, fun j hj => by omega⟩
    exact thw_mono (p := p) fa.T fa.T fa.L fa.L (fun j hj => Int.le_refl _) (by omega) h0 hw (Nat.le_refl _) hi
  omega

theorem g62 {p : E25} {l : List E72} {d w : Int} (h : errOf p l true = 0) (h0 : 0 ≤ w) (h9 : w ≤ 1000000) : g62_ground_Allow_1 w p l d = some (excW p l d w, (p, (l, (d, ())))) := by
  have e := fair_end (w := true) (wp_err h h0 h9)
  have hf := e.few
  obtain ⟨y, h1⟩ := g58 (p := wp p w) (more := 0) e.few e.place e.years (Int.le_refl 0) (by omega)
  unfold g62_ground_Allow_1
  rw [show (p.1, ((w, (w, ())), p.2.2)) = wp p w from rfl, h1]
  simp only [Option.bind_some, FB]
  rw [g61_Ds (by omega)]
  simp only [Option.bind_some]
  rw [show decide (((fst (thw (wp p w) (eT true (wp p w) l) 0) d l.length 0 : Nat) : Int) < (l.length : Int)) = excW p l d w from by unfold excW exc; rw [decide_eq_decide]; omega]
theorem g64 {p : E25} {l : List E72} {d m : Int} (h : errOf p l true = 0) (h0 : 0 ≤ m) (h9 : m ≤ 1000000) : g64_ground_Need_1 m p l d = some (kepM p l d m, (p, (l, (d, ())))) := by
  have e := fair_end (w := true) h
  have hf := e.few
  obtain ⟨y, h1⟩ := g58 (p := p) (more := m) e.few e.place e.years h0 h9
  unfold g64_ground_Need_1
  rw [h1]
  simp only [Option.bind_some, FB]
  rw [g61_Ds (by omega)]
  simp only [Option.bind_some]
  rw [show (((fst (thw p (eT true p l) m) d l.length 0 : Nat) : Int) == (l.length : Int)) = kepM p l d m from by
    unfold kepM exc
    by_cases c : fst (thw p (eT true p l) m) d l.length 0 = l.length
    · rw [decide_eq_true c, c]; simp
    · rw [decide_eq_false c]; simp; omega]
section
variable {p : E25} {l : List E72} {d : Int} {mm : List (Int × Bool)}
theorem g81 (h : errOf p l true = 0) {n : Int} (h0 : 0 ≤ n) (h9 : n ≤ 1000000) (hm : Memo (excW p l d) mm) : ∃ m', g81_ground_search_1 n mm p l d = some (excW p l d n, (m', (p, (l, (d, ()))))) ∧ Memo (excW p l d) m' := by
  unfold g81_ground_search_1
  cases hf : findD (.int .i64) n mm with
  | none =>
    simp only [Option.isSome, Bool.not_false, cond_true, g62 h h0 h9, Option.bind_some]
    exact ⟨_, rfl, hm.put n⟩
  | some b =>
    simp only [Option.isSome, Bool.not_true, cond_false, Option.getD_some]
    rw [hm n b hf]
    exact ⟨_, rfl, hm⟩
theorem g81v (h : errOf p l true = 0) {n : Int} (h0 : 0 ≤ n) (h9 : n ≤ 1000000) (hm : Memo (kepM p l d) mm) : ∃ m', g81_ground_search_1_v1 n mm p l d = some (kepM p l d n, (m', (p, (l, (d, ()))))) ∧ Memo (kepM p l d) m' := by
  unfold g81_ground_search_1_v1
  cases hf : findD (.int .i64) n mm with
  | none =>
    simp only [Option.isSome, Bool.not_false, cond_true, g64 h h0 h9, Option.bind_some]
    exact ⟨_, rfl, hm.put n⟩
  | some b =>
    simp only [Option.isSome, Bool.not_true, cond_false, Option.getD_some]
    rw [hm n b hf]
    exact ⟨_, rfl, hm⟩
theorem mid_eq {a b : Int} (h0 : 0 ≤ a) (h1 : a ≤ b) (h9 : b ≤ 1000001) : IntKind.wrap .i64 (a + (IntKind.wrap .i64 (Int.tdiv (IntKind.wrap .i64 (b - a)) 2))) = a + (b - a) / 2 := by
  rw [wr (show -9223372036854775808 ≤ b - a by omega) (by omega), tdiv_eq (by omega), wr (show -9223372036854775808 ≤ (b - a) / 2 by omega) (by omega), wr (by omega) (by omega)]
theorem g63 (h : errOf p l true = 0) : ∃ n, Least (excW p l d) 1000000 n ∧ g63_ground_search 0 1000000 p l d = some ((n, (excW p l d n, ())), (p, (l, (d, ())))) := by
  unfold g63_ground_search g63_ground_search_l0_run
  obtain ⟨q, q1, ⟨q2, q3, q4, q5⟩, q6⟩ := halves (step := g63_ground_search_l0_step) (kx := 0) (fun s => s.1.1) (fun s => s.1.2.1) (excW p l d) 1000000 (fun s => s.2.1 = p ∧ s.2.2.1 = l ∧ s.2.2.2.1 = d ∧ Memo (excW p l d) s.2.2.2.2.1)
    (fun a b a0 ab b9 => excW_mono h a b a0 ab (by omega))
    (fun s hs h0 h1 h9 => by
      obtain ⟨e1, e2, e3, e4⟩ := hs
      have hm := mid_eq h0 (show s.1.1 ≤ s.1.2.1 by omega) (by omega)
      obtain ⟨m', m1, m2⟩ := g81 (mm := s.2.2.2.2.1) h (n := s.1.1 + (s.1.2.1 - s.1.1) / 2) (by omega) (by omega) e4
      refine ⟨s.1.1 + (s.1.2.1 - s.1.1) / 2, ?_⟩
      cases c : excW p l d (s.1.1 + (s.1.2.1 - s.1.1) / 2) with
      | true =>
        rw [c] at m1
        have st : g63_ground_search_l0_step s = some (0, ((s.1.1, ((s.1.1 + (s.1.2.1 - s.1.1) / 2), ())), (p, (l, (d, (m', ())))))) := by
          unfold g63_ground_search_l0_step
          simp only [e1, e2, e3, hm, decide_eq_false (show ¬ s.1.1 ≥ s.1.2.1 by omega), cond_false, m1, Option.bind_some, cond_true]
        exact ⟨_, by omega, by omega, by omega, by omega, st, ⟨rfl, rfl, rfl, m2⟩, .inl ⟨rfl, rfl, rfl⟩⟩
      | false =>
        rw [c] at m1
        have w1 : IntKind.wrap .i64 (s.1.1 + (s.1.2.1 - s.1.1) / 2 + 1) = s.1.1 + (s.1.2.1 - s.1.1) / 2 + 1 := wr (by omega) (by omega)
        have st : g63_ground_search_l0_step s = some (0, (((s.1.1 + (s.1.2.1 - s.1.1) / 2 + 1), (s.1.2.1, ())), (p, (l, (d, (m', ())))))) := by
          unfold g63_ground_search_l0_step
          simp only [e1, e2, e3, hm, decide_eq_false (show ¬ s.1.1 ≥ s.1.2.1 by omega), cond_false, m1, Option.bind_some, w1]
        exact ⟨_, by omega, by omega, by omega, by omega, st, ⟨rfl, rfl, rfl, m2⟩, .inr ⟨rfl, rfl, rfl⟩⟩)
    (fun s hs e => by
      have st : g63_ground_search_l0_step s = some (1, ((s.1.1, (s.1.2.1, ())), (s.2.1, (s.2.2.1, (s.2.2.2.1, (s.2.2.2.2.1, ())))))) := by
        unfold g63_ground_search_l0_step
        simp only [decide_eq_true (show s.1.1 ≥ s.1.2.1 by omega), cond_true]
      exact ⟨_, st, hs, rfl⟩)
    20 (g63_ground_search_l0_fuel ((0, (1000000, ())), (p, (l, (d, (([] : List (Int × Bool)), ())))))) ((0, (1000000, ())), (p, (l, (d, (([] : List (Int × Bool)), ()))))) (by unfold g63_ground_search_l0_fuel; omega) ⟨rfl, rfl, rfl, fun k b hb => by cases hb⟩ (Int.le_refl 0) (by show (0 : Int) ≤ 1000000; omega) (Int.le_refl _) (by show (1000000 : Int) - 0 < 2 ^ 20; decide) (fun m m1 m2 => by have : m < (0 : Int) := m2; omega) (fun m m1 m2 => by have : (1000000 : Int) ≤ m := m1; omega)
  obtain ⟨m', m1, m2⟩ := g81 (mm := q.2.2.2.2.1) h q6.lo q6.hi q5
  refine ⟨q.1.1, q6, ?_⟩
  rw [q1]
  simp only [Option.bind_some, q2, q3, q4, m1]
theorem g63v (h : errOf p l true = 0) : ∃ n, Least (kepM p l d) 1000000 n ∧ g63_ground_search_v1 0 1000000 p l d = some ((n, (kepM p l d n, ())), (p, (l, (d, ())))) := by
  unfold g63_ground_search_v1 g63_ground_search_v1_l0_run
  obtain ⟨q, q1, ⟨q2, q3, q4, q5⟩, q6⟩ := halves (step := g63_ground_search_v1_l0_step) (kx := 0) (fun s => s.1.1) (fun s => s.1.2.1) (kepM p l d) 1000000 (fun s => s.2.1 = p ∧ s.2.2.1 = l ∧ s.2.2.2.1 = d ∧ Memo (kepM p l d) s.2.2.2.2.1)
    (fun a b a0 ab b9 => kepM_mono h a b a0 ab (by omega))
    (fun s hs h0 h1 h9 => by
      obtain ⟨e1, e2, e3, e4⟩ := hs
      have hm := mid_eq h0 (show s.1.1 ≤ s.1.2.1 by omega) (by omega)
      obtain ⟨m', m1, m2⟩ := g81v (mm := s.2.2.2.2.1) h (n := s.1.1 + (s.1.2.1 - s.1.1) / 2) (by omega) (by omega) e4
      refine ⟨s.1.1 + (s.1.2.1 - s.1.1) / 2, ?_⟩
      cases c : kepM p l d (s.1.1 + (s.1.2.1 - s.1.1) / 2) with
      | true =>
        rw [c] at m1
        have st : g63_ground_search_v1_l0_step s = some (0, ((s.1.1, ((s.1.1 + (s.1.2.1 - s.1.1) / 2), ())), (p, (l, (d, (m', ())))))) := by
          unfold g63_ground_search_v1_l0_step
          simp only [e1, e2, e3, hm, decide_eq_false (show ¬ s.1.1 ≥ s.1.2.1 by omega), cond_false, m1, Option.bind_some, cond_true]
        exact ⟨_, by omega, by omega, by omega, by omega, st, ⟨rfl, rfl, rfl, m2⟩, .inl ⟨rfl, rfl, rfl⟩⟩
      | false =>
        rw [c] at m1
        have w1 : IntKind.wrap .i64 (s.1.1 + (s.1.2.1 - s.1.1) / 2 + 1) = s.1.1 + (s.1.2.1 - s.1.1) / 2 + 1 := wr (by omega) (by omega)
        have st : g63_ground_search_v1_l0_step s = some (0, (((s.1.1 + (s.1.2.1 - s.1.1) / 2 + 1), (s.1.2.1, ())), (p, (l, (d, (m', ())))))) := by
          unfold g63_ground_search_v1_l0_step
          simp only [e1, e2, e3, hm, decide_eq_false (show ¬ s.1.1 ≥ s.1.2.1 by omega), cond_false, m1, Option.bind_some, w1]
        exact ⟨_, by omega, by omega, by omega, by omega, st, ⟨rfl, rfl, rfl, m2⟩, .inr ⟨rfl, rfl, rfl⟩⟩)
    (fun s hs e => by
      have st : g63_ground_search_v1_l0_step s = some (1, ((s.1.1, (s.1.2.1, ())), (s.2.1, (s.2.2.1, (s.2.2.2.1, (s.2.2.2.2.1, ())))))) := by
        unfold g63_ground_search_v1_l0_step
        simp only [decide_eq_true (show s.1.1 ≥ s.1.2.1 by omega), cond_true]
      exact ⟨_, st, hs, rfl⟩)
    20 (g63_ground_search_v1_l0_fuel ((0, (1000000, ())), (p, (l, (d, (([] : List (Int × Bool)), ())))))) ((0, (1000000, ())), (p, (l, (d, (([] : List (Int × Bool)), ()))))) (by unfold g63_ground_search_v1_l0_fuel; omega) ⟨rfl, rfl, rfl, fun k b hb => by cases hb⟩ (Int.le_refl 0) (by show (0 : Int) ≤ 1000000; omega) (Int.le_refl _) (by show (1000000 : Int) - 0 < 2 ^ 20; decide) (fun m m1 m2 => by have : m < (0 : Int) := m2; omega) (fun m m1 m2 => by have : (1000000 : Int) ≤ m := m1; omega)
  obtain ⟨m', m1, m2⟩ := g81v (mm := q.2.2.2.2.1) h q6.lo q6.hi q5
  refine ⟨q.1.1, q6, ?_⟩
  rw [q1]
  simp only [Option.bind_some, q2, q3, q4, m1]
end
end Go.Proofs.YtbidmbjkjpdgdaaDoor.Abs
