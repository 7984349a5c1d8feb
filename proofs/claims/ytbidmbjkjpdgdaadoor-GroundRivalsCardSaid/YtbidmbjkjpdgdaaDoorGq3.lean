/-
  Plain laws of the ground layer, fourth part: years, one after the other: the program's and the reference's.
-/
import Derived.Test.YtbidmbjkjpdgdaaDoorGq2
set_option linter.unusedVariables false
set_option linter.unusedSimpArgs false
set_option maxRecDepth 100000
namespace Go.Proofs.YtbidmbjkjpdgdaaDoor.Abs

/-- The heat that comes, and the heat that could go, in a year. -/
def hea (t : E29) (i : Nat) : Int := t.2.1.getD i 0 + t.2.2.1.getD i 0
def goe (t : E29) (i : Nat) : Int := t.2.2.2.1.getD i 0 * (1000 - t.2.2.2.2.1.getD i 0) / 1000
/-- How far it is thawed, and how much heat is left, when a year begins. -/
def RL (t : E29) (more : Int) : Nat → Int × Int
  | 0 => (0, 0)
  | i + 1 =>
    let lf := (RL t more i).2 + hea t i
    let rs := if lf > (RL t more i).1 then lf else (RL t more i).1
    let out := if goe t i + more < lf then goe t i + more else lf
    (if lf - out = 0 then 0 else rs, lf - out)
def Lf (t : E29) (more : Int) (i : Nat) : Int := (RL t more i).2 + hea t i
def Rs (t : E29) (more : Int) (i : Nat) : Int := if Lf t more i > (RL t more i).1 then Lf t more i else (RL t more i).1
def Ou (t : E29) (more : Int) (i : Nat) : Int := if goe t i + more < Lf t more i then goe t i + more else Lf t more i
theorem RL_succ (t : E29) (more : Int) (i : Nat) : RL t more (i + 1) = (if Lf t more i - Ou t more i = 0 then 0 else Rs t more i, Lf t more i - Ou t more i) := rfl
def Ins (t : E29) : Nat → Int
  | 0 => 0
  | i + 1 => Ins t i + hea t i
def Outs (t : E29) (more : Int) : Nat → Int
  | 0 => 0
  | i + 1 => Outs t more i + Ou t more i
/-- Years as they can be. -/
structure Tru (t : E29) (n : Nat) : Prop where
  few : n ≤ 12
  l1 : t.2.1.length = n
  l2 : t.2.2.1.length = n
  l3 : t.2.2.2.1.length = n
  l4 : t.2.2.2.2.1.length = n
  warm : ∀ i, i < n → 0 ≤ t.2.1.getD i 0 ∧ t.2.1.getD i 0 ≤ 1000000
  summer : ∀ i, i < n → 0 ≤ t.2.2.1.getD i 0 ∧ t.2.2.1.getD i 0 ≤ 1000000
  winter : ∀ i, i < n → 0 ≤ t.2.2.2.1.getD i 0 ∧ t.2.2.2.1.getD i 0 ≤ 1000000
  snow : ∀ i, i < n → 0 ≤ t.2.2.2.2.1.getD i 0 ∧ t.2.2.2.2.1.getD i 0 ≤ 1000

section
variable {t : E29} {n : Nat} {more : Int}
theorem hea_bd (hT : Tru t n) {i : Nat} (hi : i < n) : 0 ≤ hea t i ∧ hea t i ≤ 2000000 := by
  have h1 := hT.warm i hi
  have h2 := hT.summer i hi
  unfold hea
  omega
theorem goe_mul (hT : Tru t n) {i : Nat} (hi : i < n) : 0 ≤ t.2.2.2.1.getD i 0 * (1000 - t.2.2.2.2.1.getD i 0) ∧ t.2.2.2.1.getD i 0 * (1000 - t.2.2.2.2.1.getD i 0) ≤ 1000000 * 1000 := by
  have h1 := hT.winter i hi
  have h2 := hT.snow i hi
  exact mul_bd h1.1 h1.2 (by omega) (by omega)
theorem goe_bd (hT : Tru t n) {i : Nat} (hi : i < n) : 0 ≤ goe t i ∧ goe t i ≤ 1000000 := by
  have h := goe_mul hT hi
  unfold goe
  omega
theorem RL_bd (hT : Tru t n) (h0 : 0 ≤ more) : ∀ i, i ≤ n → (0 ≤ (RL t more i).1 ∧ (RL t more i).1 ≤ 2000000 * (i : Int)) ∧ 0 ≤ (RL t more i).2 ∧ (RL t more i).2 ≤ 2000000 * (i : Int)
  | 0, _ => by simp [RL]
  | i + 1, hi => by
    obtain ⟨⟨a1, a2⟩, a3, a4⟩ := RL_bd hT h0 i (by omega)
    have h1 := hea_bd hT (show i < n by omega)
    have h2 := goe_bd hT (show i < n by omega)
    rw [RL_succ]
    unfold Ou Rs Lf
    simp only
    refine ⟨?_, ?_⟩
    · split
      · omega
      · split <;> omega
    · split <;> omega
theorem year_bd (hT : Tru t n) (h0 : 0 ≤ more) {i : Nat} (hi : i < n) : (0 ≤ Lf t more i ∧ Lf t more i ≤ 24000000) ∧ (0 ≤ Rs t more i ∧ Rs t more i ≤ 24000000) ∧ 0 ≤ Ou t more i ∧ Ou t more i ≤ Lf t more i := by
  obtain ⟨⟨a1, a2⟩, a3, a4⟩ := RL_bd hT h0 i (by omega)
  have h1 := hea_bd hT hi
  have h2 := goe_bd hT hi
  have hf := hT.few
  have hl : 0 ≤ Lf t more i ∧ Lf t more i ≤ 24000000 := by unfold Lf; omega
  refine ⟨hl, ?_, ?_⟩
  · unfold Rs
    split
    · exact hl
    · omega
  · unfold Ou
    split <;> omega
theorem sums_bd (hT : Tru t n) (h0 : 0 ≤ more) : ∀ i, i ≤ n → (0 ≤ Ins t i ∧ Ins t i ≤ 2000000 * (i : Int)) ∧ 0 ≤ Outs t more i ∧ Outs t more i ≤ 24000000 * (i : Int)
  | 0, _ => by simp [Ins, Outs]
  | i + 1, hi => by
    obtain ⟨⟨a1, a2⟩, a3, a4⟩ := sums_bd hT h0 i (by omega)
    have h1 := hea_bd hT (show i < n by omega)
    have h2 := year_bd hT h0 (show i < n by omega)
    unfold Ins Outs
    omega

theorem lim_ok {a b : Nat} (h : a + b ≤ 1000000) : decide (a + b ≤ LIM) = true := by
  unfold LIM
  simp
  omega

variable {p : E25} {ls : List E70}
theorem g74 (hT : Tru t n) (hL : Lay p.1 t.1) (h0 : 0 ≤ more) (hm9 : more ≤ 1000000) {i : Nat} (hi : i < n) {depths lefts : List Int} {inn out kept : Int} (hd : depths.length ≤ 1000) (hin : 0 ≤ inn) (hin9 : inn ≤ 1000000000) :
    g74_ground_followed_summer (p, (t, (more, ((i : Int), ((RL t more i).1, ((RL t more i).2, (depths, (lefts, ((inn, (out, (kept, ()))), ()))))))))) =
      some ((), ((p, (t, (more, ((i : Int), (Rs t more i, (Lf t more i, (depths ++ [dep p.1 t.1 p.1.length 0 (Rs t more i)], (lefts, ((inn + hea t i, (out, (kept, ()))), ()))))))))), ())) := by
  obtain ⟨⟨a1, a2⟩, a3, a4⟩ := RL_bd hT h0 i (by omega)
  have hw := hT.warm i hi
  have hs := hT.summer i hi
  have hb := year_bd hT h0 hi
  have hf := hT.few
  have w1 : IntKind.wrap .i64 (t.2.1.getD i 0 + t.2.2.1.getD i 0) = hea t i := wr (by omega) (by omega)
  have hh := hea_bd hT hi
  have w2 : IntKind.wrap .i64 ((RL t more i).2 + hea t i) = Lf t more i := wr (by omega) (by omega)
  have w3 : IntKind.wrap .i64 (inn + hea t i) = inn + hea t i := wr (by omega) (by omega)
  unfold g74_ground_followed_summer
  simp only [getD_toNat, inside_lt (show i < t.2.1.length by rw [hT.l1]; exact hi), inside_lt (show i < t.2.2.1.length by rw [hT.l2]; exact hi), cond_true, w1, w2, w3]
  rw [show (if Lf t more i > (RL t more i).1 then Lf t more i else (RL t more i).1) = Rs t more i from rfl]
  rw [g86 (ls := p.1) (ms := t.1) hL rfl rfl (by omega) (by omega)]
  simp only [Option.bind_some]
  rw [lim_ok (by simp; omega)]
  rfl
theorem g75 (hT : Tru t n) (h0 : 0 ≤ more) (hm9 : more ≤ 1000000) {i : Nat} (hi : i < n) {depths lefts : List Int} {inn out kept : Int} (hd : lefts.length ≤ 1000) (hin : 0 ≤ out) (hin9 : out ≤ 1000000000) :
    g75_ground_followed_winter (p, (t, (more, ((i : Int), (Rs t more i, (Lf t more i, (depths, (lefts, ((inn, (out, (kept, ()))), ()))))))))) =
      some ((), ((p, (t, (more, ((i : Int), ((RL t more (i + 1)).1, ((RL t more (i + 1)).2, (depths, (lefts ++ [(RL t more (i + 1)).2], ((inn, (out + Ou t more i, ((RL t more (i + 1)).2, ()))), ()))))))))), ())) := by
  have hw := hT.winter i hi
  have hs := hT.snow i hi
  have hb := year_bd hT h0 hi
  have hg := goe_mul hT hi
  have hg2 := goe_bd hT hi
  have w1 : IntKind.wrap .i64 ((1000 : Int) - t.2.2.2.2.1.getD i 0) = 1000 - t.2.2.2.2.1.getD i 0 := wr (by omega) (by omega)
  have w2 : IntKind.wrap .i64 (t.2.2.2.1.getD i 0 * (1000 - t.2.2.2.2.1.getD i 0)) = t.2.2.2.1.getD i 0 * (1000 - t.2.2.2.2.1.getD i 0) := wr (by omega) (by omega)
  have w3 : IntKind.wrap .i64 (Int.tdiv (t.2.2.2.1.getD i 0 * (1000 - t.2.2.2.2.1.getD i 0)) 1000) = goe t i := by
    rw [tdiv_eq hg.1]
    exact wr (by unfold goe at hg2; omega) (by unfold goe at hg2; omega)
  have w4 : IntKind.wrap .i64 (more + goe t i) = goe t i + more := by rw [wr (by omega) (by omega)]; omega
  have w5 : IntKind.wrap .i64 (Lf t more i - Ou t more i) = Lf t more i - Ou t more i := wr (by omega) (by omega)
  have w6 : IntKind.wrap .i64 (out + Ou t more i) = out + Ou t more i := wr (by omega) (by omega)
  unfold g75_ground_followed_winter
  simp only [getD_toNat, inside_lt (show i < t.2.2.2.1.length by rw [hT.l3]; exact hi), inside_lt (show i < t.2.2.2.2.1.length by rw [hT.l4]; exact hi), cond_true, w1, w2, w3, w4]
  rw [show (if goe t i + more < Lf t more i then goe t i + more else Lf t more i) = Ou t more i from rfl]
  simp only [w5, w6]
  rw [lim_ok (by simp; omega), RL_succ]
  by_cases h : Lf t more i - Ou t more i = 0
  · rw [show (Lf t more i - Ou t more i == 0) = true from by simpa using h]
    simp only [h, cond_true, if_true]
  · rw [show (Lf t more i - Ou t more i == 0) = false from by simpa using h]
    simp only [h, cond_false, if_false]
    rfl

/-- The depths of thaw, and the heat left, of so many years. -/
def Ds (p : E25) (t : E29) (more : Int) (n : Nat) : List Int := (List.range n).map fun j => dep p.1 t.1 p.1.length 0 (Rs t more j)
def Ls (t : E29) (more : Int) (n : Nat) : List Int := (List.range n).map fun j => (RL t more (j + 1)).2
theorem Ds_succ (p : E25) (t : E29) (more : Int) (n : Nat) : Ds p t more (n + 1) = Ds p t more n ++ [dep p.1 t.1 p.1.length 0 (Rs t more n)] := by simp [Ds, List.range_succ]
theorem Ls_succ (t : E29) (more : Int) (n : Nat) : Ls t more (n + 1) = Ls t more n ++ [(RL t more (n + 1)).2] := by simp [Ls, List.range_succ]
theorem Ds_len (p : E25) (t : E29) (more : Int) (n : Nat) : (Ds p t more n).length = n := by simp [Ds]
theorem Ls_len (t : E29) (more : Int) (n : Nat) : (Ls t more n).length = n := by simp [Ls]
/-- What is followed, behind so many years. -/
def FB (p : E25) (t : E29) (more : Int) (y : Int) (i : Nat) : E90 := (p, (t, (more, (y, ((RL t more i).1, ((RL t more i).2, (Ds p t more i, (Ls t more i, ((Ins t i, (Outs t more i, ((RL t more i).2, ()))), ())))))))))

theorem run1 (hT : Tru t n) (hL : Lay p.1 t.1) (h0 : 0 ≤ more) (hm9 : more ≤ 1000000) {i : Nat} (hi : i < n) {m : Int} : ∃ q, g52_ground_followed_run_l1_run ((m, ((i : Int), (((), ((), ())), (0, ())))), (FB p t more (i : Int) i, ())) = some (0, q) ∧ q.1.1 = m ∧ q.1.2.1 = (i : Int) ∧ q.2.1 = FB p t more (i : Int) (i + 1) := by
  have hf := hT.few
  obtain ⟨⟨b1, b2⟩, b3, b4⟩ := sums_bd hT h0 i (by omega)
  have hh := hea_bd hT hi
  unfold g52_ground_followed_run_l1_run
  rw [show g52_ground_followed_run_l1_fuel ((m, ((i : Int), (((), ((), ())), (0, ())))), (FB p t more (i : Int) i, ())) = 1 + 1 + 1 from rfl]
  have s1 : g52_ground_followed_run_l1_step ((m, ((i : Int), (((), ((), ())), (0, ())))), (FB p t more (i : Int) i, ())) = some (0, ((m, ((i : Int), (((), ((), ())), (1, ())))), ((p, (t, (more, ((i : Int), (Rs t more i, (Lf t more i, (Ds p t more i ++ [dep p.1 t.1 p.1.length 0 (Rs t more i)], (Ls t more i, ((Ins t i + hea t i, (Outs t more i, ((RL t more i).2, ()))), ()))))))))), ()))) := by
    have := g74 (p := p) (depths := Ds p t more i) (lefts := Ls t more i) (inn := Ins t i) (out := Outs t more i) (kept := (RL t more i).2) hT hL h0 hm9 hi (by rw [Ds_len]; omega) b1 (by omega)
    unfold g52_ground_followed_run_l1_step
    simp only [FB, show decide ((0 : Int) < 2) = true from rfl, show decide ((0 : Int) = 0) = true from rfl, cond_true, this, Option.bind_some]
    rfl
  have s2 : g52_ground_followed_run_l1_step ((m, ((i : Int), (((), ((), ())), (1, ())))), ((p, (t, (more, ((i : Int), (Rs t more i, (Lf t more i, (Ds p t more i ++ [dep p.1 t.1 p.1.length 0 (Rs t more i)], (Ls t more i, ((Ins t i + hea t i, (Outs t more i, ((RL t more i).2, ()))), ()))))))))), ())) = some (0, ((m, ((i : Int), (((), ((), ())), (2, ())))), (FB p t more (i : Int) (i + 1), ()))) := by
    have := g75 (p := p) (depths := Ds p t more i ++ [dep p.1 t.1 p.1.length 0 (Rs t more i)]) (lefts := Ls t more i) (inn := Ins t i + hea t i) (out := Outs t more i) (kept := (RL t more i).2) hT h0 hm9 hi (by rw [Ls_len]; omega) b3 (by omega)
    unfold g52_ground_followed_run_l1_step
    simp only [show decide ((1 : Int) < 2) = true from rfl, show decide ((1 : Int) = 0) = false from rfl, show decide ((1 : Int) = 1) = true from rfl, cond_true, cond_false, this, Option.bind_some]
    unfold FB
    rw [Ds_succ, Ls_succ]
    rfl
  have s3 : g52_ground_followed_run_l1_step ((m, ((i : Int), (((), ((), ())), (2, ())))), (FB p t more (i : Int) (i + 1), ())) = some (1, ((m, ((i : Int), (((), ((), ())), (2, ())))), (FB p t more (i : Int) (i + 1), ()))) := by
    unfold g52_ground_followed_run_l1_step
    simp only [show decide ((2 : Int) < 2) = false from rfl, cond_false]
  rw [iter_one s1, iter_one s2, iter_out s3]
  exact ⟨_, rfl, rfl, rfl, rfl⟩

theorem g52 (hT : Tru t n) (hL : Lay p.1 t.1) (h0 : 0 ≤ more) (hm9 : more ≤ 1000000) : ∃ y u, g52_ground_followed_run (p, (t, (more, (0, (0, (0, ([], ([], ((0, (0, (0, ()))), ()))))))))) = some (u, (FB p t more y n, ())) := by
  have hf := hT.few
  unfold g52_ground_followed_run g52_ground_followed_run_l0_run
  obtain ⟨q, q1, q2, y, q3⟩ := iter_all (step := g52_ground_followed_run_l0_step) (n := n) (k := 0) (fun i s => s.1.1 = (n : Int) ∧ s.1.2.1 = (i : Int) ∧ ∃ y, s.2.1 = FB p t more y i) (fun s => s.1.1 = (n : Int) ∧ ∃ y, s.2.1 = FB p t more y n)
    (fun i s h hi => by
      obtain ⟨e1, e2, y, e3⟩ := h
      obtain ⟨q, q1, q2, q3, q4⟩ := run1 (p := p) (m := (n : Int)) hT hL h0 hm9 hi
      have st : g52_ground_followed_run_l0_step s = some (0, ((q.1.1, ((IntKind.wrap .i64 (q.1.2.1 + 1)), ())), (q.2.1, ()))) := by
        unfold g52_ground_followed_run_l0_step
        simp only [e1, e2, e3, show decide ((i : Int) < (n : Int)) = true from by simp; omega, cond_true]
        exact Eq.trans (congrArg (fun z => Option.bind z _) q1) rfl
      refine ⟨_, st, q2, ?_, (i : Int), q4⟩
      rw [q3]
      exact wr (by omega) (by omega))
    (fun s h => by
      obtain ⟨e1, e2, y, e3⟩ := h
      have st : g52_ground_followed_run_l0_step s = some (1, s) := by
        unfold g52_ground_followed_run_l0_step
        simp only [e1, e2, show decide ((n : Int) < (n : Int)) = false from by simp, cond_false]
        obtain ⟨⟨s1, s2, s3⟩, s4, s5⟩ := s
        simp only at e1 e2
        subst e1 e2
        rfl
      exact ⟨_, st, e1, y, e3⟩)
    (g52_ground_followed_run_l0_fuel (((n : Int), (0, ())), (FB p t more 0 0, ()))) (((n : Int), (0, ())), (FB p t more 0 0, ())) (by simp [g52_ground_followed_run_l0_fuel]) ⟨rfl, rfl, 0, rfl⟩
  refine ⟨y, (), ?_⟩
  have e : (((List.length t.2.2.1 : Int), (0, ())), (FB p t more 0 0, ())) = ((((n : Int), (0, ())), (FB p t more 0 0, ())) : (Int × (Int × Unit)) × (E90 × Unit)) := by rw [hT.l2]
  have q1' : iter g52_ground_followed_run_l0_step (g52_ground_followed_run_l0_fuel (((List.length t.2.2.1 : Int), (0, ())), (FB p t more 0 0, ()))) (((List.length t.2.2.1 : Int), (0, ())), (FB p t more 0 0, ())) = some (0, q) := by rw [e]; exact q1
  refine Eq.trans (congrArg (fun z => Option.bind z _) q1') ?_
  rw [← q3]
  rfl

/-! ### The reference's -/
theorem g54 (hT : Tru t n) (h0 : 0 ≤ more) {i : Nat} (hi : i < n) : g54_talikref01_Summer ((RL t more i).1, ((RL t more i).2, ())) (hea t i) = some (Rs t more i, (Lf t more i, ())) := by
  have hb := year_bd hT h0 hi
  have w2 : IntKind.wrap .i64 ((RL t more i).2 + hea t i) = Lf t more i := wr (by unfold Lf at hb; omega) (by unfold Lf at hb; omega)
  unfold g54_talikref01_Summer
  simp only [w2]
  rfl
theorem g56 (hT : Tru t n) (h0 : 0 ≤ more) {i : Nat} (hi : i < n) : g56_talikref01_Winter (Rs t more i, (Lf t more i, ())) (goe t i + more) = some ((RL t more (i + 1)).1, ((RL t more (i + 1)).2, ())) := by
  have hb := year_bd hT h0 hi
  have w5 : IntKind.wrap .i64 (Lf t more i - Ou t more i) = Lf t more i - Ou t more i := wr (by omega) (by omega)
  unfold g56_talikref01_Winter
  simp only
  rw [show (if goe t i + more < Lf t more i then goe t i + more else Lf t more i) = Ou t more i from rfl]
  simp only [w5]
  rw [RL_succ]
  by_cases h : Lf t more i - Ou t more i = 0
  · rw [show (Lf t more i - Ou t more i == 0) = true from by simpa using h]
    simp only [h, cond_true, if_true]
  · rw [show (Lf t more i - Ou t more i == 0) = false from by simpa using h]
    simp only [h, cond_false, if_false]
theorem g24 (hT : Tru t n) {i : Nat} (hi : i < n) : g24_talikref01_Goes (t.2.2.2.1.getD i 0) (t.2.2.2.2.1.getD i 0) = some (goe t i) := by
  have hw := hT.winter i hi
  have hs := hT.snow i hi
  have hg := goe_mul hT hi
  have hg2 := goe_bd hT hi
  have w1 : IntKind.wrap .i64 ((1000 : Int) - t.2.2.2.2.1.getD i 0) = 1000 - t.2.2.2.2.1.getD i 0 := wr (by omega) (by omega)
  have w2 : IntKind.wrap .i64 (t.2.2.2.1.getD i 0 * (1000 - t.2.2.2.2.1.getD i 0)) = t.2.2.2.1.getD i 0 * (1000 - t.2.2.2.2.1.getD i 0) := wr (by omega) (by omega)
  have w3 : IntKind.wrap .i64 (Int.tdiv (t.2.2.2.1.getD i 0 * (1000 - t.2.2.2.2.1.getD i 0)) 1000) = goe t i := by
    rw [tdiv_eq hg.1]
    exact wr (by unfold goe at hg2; omega) (by unfold goe at hg2; omega)
  unfold g24_talikref01_Goes
  simp only [w1, w2, w3]

/-- What the reference tells of so many years. -/
def Fo (p : E25) (t : E29) (more : Int) (n : Nat) : List E23 := (List.range n).map fun j => (dep p.1 t.1 p.1.length 0 (Rs t more j), ((RL t more (j + 1)).2, ()))
theorem Fo_succ (p : E25) (t : E29) (more : Int) (n : Nat) : Fo p t more (n + 1) = Fo p t more n ++ [(dep p.1 t.1 p.1.length 0 (Rs t more n), ((RL t more (n + 1)).2, ()))] := by simp [Fo, List.range_succ]
theorem Fo_len (p : E25) (t : E29) (more : Int) (n : Nat) : (Fo p t more n).length = n := by simp [Fo]

theorem g19 (hT : Tru t n) (hL : Lay p.1 t.1) (h0 : 0 ≤ more) (hm9 : more ≤ 1000000) : g19_talikref01_Follow p t more = some (Fo p t more n) := by
  have hf := hT.few
  unfold g19_talikref01_Follow g19_talikref01_Follow_l0_run
  obtain ⟨q, q1, q2⟩ := iter_all (step := g19_talikref01_Follow_l0_step) (n := n) (k := 0) (fun i s => s.1.1 = more ∧ s.1.2.1 = Fo p t more i ∧ s.1.2.2.1 = (i : Int) ∧ s.2.1 = p ∧ s.2.2.1 = t ∧ s.2.2.2.1 = ((RL t more i).1, ((RL t more i).2, ()))) (fun s => s.1.2.1 = Fo p t more n)
    (fun i s h hi => by
      obtain ⟨e1, e2, e3, e4, e5, e6⟩ := h
      have hw := hT.warm i hi
      have hs := hT.summer i hi
      have hb := year_bd hT h0 hi
      have hg2 := goe_bd hT hi
      have w1 : IntKind.wrap .i64 (t.2.1.getD i 0 + t.2.2.1.getD i 0) = hea t i := wr (by omega) (by omega)
      have w2 : IntKind.wrap .i64 (goe t i + more) = goe t i + more := wr (by omega) (by omega)
      have st : g19_talikref01_Follow_l0_step s = some (0, ((more, (Fo p t more (i + 1), ((IntKind.wrap .i64 ((i : Int) + 1)), ()))), (p, (t, (((RL t more (i + 1)).1, ((RL t more (i + 1)).2, ())), ()))))) := by
        unfold g19_talikref01_Follow_l0_step
        simp only [e1, e2, e3, e4, e5, e6, getD_toNat, inside_lt (show i < t.2.1.length by rw [hT.l1]; exact hi), inside_lt (show i < t.2.2.1.length by rw [hT.l2]; exact hi), inside_lt (show i < t.2.2.2.1.length by rw [hT.l3]; exact hi), inside_lt (show i < t.2.2.2.2.1.length by rw [hT.l4]; exact hi), hT.l2, show decide ((i : Int) < (n : Int)) = true from by simp; omega, cond_true, w1, g54 hT h0 hi, Option.bind_some, g55 hL rfl (show 0 ≤ Rs t more i by omega) (by omega), g24 hT hi, w2, g56 hT h0 hi]
        rw [show decide (0 ≤ (i : Int)) = true from by simp, lim_ok (by simp [Fo_len]; omega), Fo_succ]
        rfl
      exact ⟨_, st, rfl, rfl, wr (by omega) (by omega), rfl, rfl, rfl⟩)
    (fun s h => by
      obtain ⟨e1, e2, e3, e4, e5, e6⟩ := h
      have st : g19_talikref01_Follow_l0_step s = some (1, ((s.1.1, (s.1.2.1, (s.1.2.2.1, ()))), (s.2.1, (s.2.2.1, ((s.2.2.2.1.1, (s.2.2.2.1.2.1, ())), ()))))) := by
        unfold g19_talikref01_Follow_l0_step
        simp only [e3, e5, hT.l2, show decide ((n : Int) < (n : Int)) = false from by simp, cond_false]
      exact ⟨_, st, e2⟩)
    (g19_talikref01_Follow_l0_fuel ((more, ([], (0, ()))), (p, (t, ((0, (0, ())), ()))))) ((more, ([], (0, ()))), (p, (t, ((0, (0, ())), ())))) (by simp [g19_talikref01_Follow_l0_fuel, hT.l2]) ⟨rfl, rfl, rfl, rfl, rfl, rfl⟩
  rw [q1]
  simp only [Option.bind_some, q2]

theorem g21 (hT : Tru t n) : g21_talikref01_Ledger t = some (Ins t n, (Outs t 0 n, ((RL t 0 n).2, ()))) := by
  have hf := hT.few
  unfold g21_talikref01_Ledger g21_talikref01_Ledger_l0_run
  obtain ⟨q, q1, q2, q3, q4⟩ := iter_all (step := g21_talikref01_Ledger_l0_step) (n := n) (k := 0) (fun i s => s.1.1 = (i : Int) ∧ s.2.1 = t ∧ s.2.2.2.1 = ((RL t 0 i).1, ((RL t 0 i).2, ())) ∧ s.2.2.2.2.1.1 = Ins t i ∧ s.2.2.2.2.1.2.1 = Outs t 0 i) (fun s => s.2.2.2.2.1.1 = Ins t n ∧ s.2.2.2.2.1.2.1 = Outs t 0 n ∧ s.2.2.2.1.2.1 = (RL t 0 n).2)
    (fun i s h hi => by
      obtain ⟨e1, e2, e3, e4, e5⟩ := h
      have hw := hT.warm i hi
      have hs := hT.summer i hi
      have hb := year_bd hT (Int.le_refl 0) hi
      obtain ⟨⟨b1, b2⟩, b3, b4⟩ := sums_bd hT (Int.le_refl 0) i (by omega)
      have hh := hea_bd hT hi
      have w1 : IntKind.wrap .i64 (t.2.1.getD i 0 + t.2.2.1.getD i 0) = hea t i := wr (by omega) (by omega)
      have w2 : IntKind.wrap .i64 (Ins t i + hea t i) = Ins t (i + 1) := wr (by omega) (by omega)
      have hr : (RL t 0 (i + 1)).2 = Lf t 0 i - Ou t 0 i := by rw [RL_succ]
      have w3 : IntKind.wrap .i64 (IntKind.wrap .i64 (Outs t 0 i + Lf t 0 i) - (RL t 0 (i + 1)).2) = Outs t 0 (i + 1) := by
        rw [wr (show -9223372036854775808 ≤ Outs t 0 i + Lf t 0 i by omega) (by omega), hr, wr (by omega) (by omega)]
        show _ = Outs t 0 i + Ou t 0 i
        omega
      have hg56 := g56 hT (Int.le_refl 0) hi
      rw [Int.add_zero] at hg56
      have st : g21_talikref01_Ledger_l0_step s = some (0, (((IntKind.wrap .i64 ((i : Int) + 1)), ()), (t, ((s.2.2.1.1, (s.2.2.1.2.1, (s.2.2.1.2.2.1, ()))), (((RL t 0 (i + 1)).1, ((RL t 0 (i + 1)).2, ())), ((Ins t (i + 1), (Outs t 0 (i + 1), (s.2.2.2.2.1.2.2.1, ()))), ())))))) := by
        unfold g21_talikref01_Ledger_l0_step
        simp only [e1, e2, e3, e4, e5, getD_toNat, inside_lt (show i < t.2.1.length by rw [hT.l1]; exact hi), inside_lt (show i < t.2.2.1.length by rw [hT.l2]; exact hi), inside_lt (show i < t.2.2.2.1.length by rw [hT.l3]; exact hi), inside_lt (show i < t.2.2.2.2.1.length by rw [hT.l4]; exact hi), hT.l2, show decide ((i : Int) < (n : Int)) = true from by simp; omega, cond_true, w1, g54 hT (Int.le_refl 0) hi, Option.bind_some, g24 hT hi, hg56, w2, w3]
        rw [show decide (0 ≤ (i : Int)) = true from by simp]
        rfl
      exact ⟨_, st, wr (by omega) (by omega), rfl, rfl, rfl, rfl⟩)
    (fun s h => by
      obtain ⟨e1, e2, e3, e4, e5⟩ := h
      have st : g21_talikref01_Ledger_l0_step s = some (1, ((s.1.1, ()), (s.2.1, ((s.2.2.1.1, (s.2.2.1.2.1, (s.2.2.1.2.2.1, ()))), ((s.2.2.2.1.1, (s.2.2.2.1.2.1, ())), ((s.2.2.2.2.1.1, (s.2.2.2.2.1.2.1, (s.2.2.2.2.1.2.2.1, ()))), ())))))) := by
        unfold g21_talikref01_Ledger_l0_step
        simp only [e1, e2, hT.l2, show decide ((n : Int) < (n : Int)) = false from by simp, cond_false]
      exact ⟨_, st, e4, e5, by simp only [e3]⟩)
    (g21_talikref01_Ledger_l0_fuel ((0, ()), (t, ((0, (0, (0, ()))), ((0, (0, ())), ((0, (0, (0, ()))), ())))))) ((0, ()), (t, ((0, (0, (0, ()))), ((0, (0, ())), ((0, (0, (0, ()))), ()))))) (by simp [g21_talikref01_Ledger_l0_fuel, hT.l2]) ⟨rfl, rfl, rfl, rfl, rfl⟩
  rw [q1]
  simp only [Option.bind_some, q2, q3, q4]

theorem g20_same {a : List Int} (ha : a.length ≤ 1000) : g20_talikref01_Same a a = some true := by
  unfold g20_talikref01_Same g20_talikref01_Same_l0_run
  rw [show ((List.length a : Int) != (List.length a : Int)) = false from by simp]
  simp only [cond_false]
  obtain ⟨q, q1, _⟩ := iter_all (step := g20_talikref01_Same_l0_step) (n := a.length) (k := 1) (fun i s => s.1.1 = a ∧ s.1.2.1 = a ∧ s.1.2.2.2.1 = (i : Int)) (fun s => True)
    (fun i s h hi => by
      obtain ⟨e1, e2, e3⟩ := h
      have st : g20_talikref01_Same_l0_step s = some (0, ((a, (a, (s.1.2.2.1, ((IntKind.wrap .i64 ((i : Int) + 1)), ())))), ())) := by
        unfold g20_talikref01_Same_l0_step
        simp only [e1, e2, e3, getD_toNat, inside_lt hi, show decide ((i : Int) < (a.length : Int)) = true from by simp; omega, cond_true]
        rw [show (List.getD a i 0 != List.getD a i 0) = false from by simp]
        rfl
      exact ⟨_, st, rfl, rfl, wr (by omega) (by omega)⟩)
    (fun s h => by
      obtain ⟨e1, e2, e3⟩ := h
      have st : g20_talikref01_Same_l0_step s = some (2, ((s.1.1, (s.1.2.1, (s.1.2.2.1, (s.1.2.2.2.1, ())))), ())) := by
        unfold g20_talikref01_Same_l0_step
        simp only [e1, e3, show decide ((a.length : Int) < (a.length : Int)) = false from by simp, cond_false]
      exact ⟨_, st, trivial⟩)
    (g20_talikref01_Same_l0_fuel ((a, (a, (false, (0, ())))), ())) ((a, (a, (false, (0, ())))), ()) (by simp [g20_talikref01_Same_l0_fuel]) ⟨rfl, rfl, rfl⟩
  rw [q1]
  rfl
end
end Go.Proofs.YtbidmbjkjpdgdaaDoor.Abs
