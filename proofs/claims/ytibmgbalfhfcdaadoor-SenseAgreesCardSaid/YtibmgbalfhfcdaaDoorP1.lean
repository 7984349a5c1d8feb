import Derived.Test.YtibmgbalfhfcdaaDoorF3
import Derived.IntWalk
set_option linter.unusedVariables false
set_option linter.unusedSimpArgs false
set_option maxRecDepth 100000
namespace Go.Proofs.YtibmgbalfhfcdaaDoor.Abs
theorem wr {n : Int} (h : -9223372036854775808 ≤ n) (h' : n ≤ 9223372036854775807) : IntKind.wrap .i64 n = n := by rw [IntKind.wrap_i64]; omega
theorem wr1 {i : Nat} (h : i < 2 ^ 62) : IntKind.wrap .i64 ((i : Int) + 1) = ((i + 1 : Nat) : Int) := by rw [wr (by omega) (by omega)]; omega
theorem iter_one {α : Type} {step : α → Option (Nat × α)} {fuel : Nat} {s s' : α} (h : step s = some (0, s')) : iter step (fuel + 1) s = iter step fuel s' := by
  simp only [iter, h, Option.bind_some]
theorem iter_out {α : Type} {step : α → Option (Nat × α)} {fuel n : Nat} {s s' : α} (h : step s = some (n + 1, s')) : iter step (fuel + 1) s = some (n, s') := by
  simp only [iter, h, Option.bind_some]
theorem iter_fn' {α : Type} {step : α → Option (Nat × α)} {n k1 k2 : Nat} {bad : Nat → Bool} (F X : Nat → α) (Y : α) (hgo : ∀ i, i < n → step (F i) = some (bif bad i then (k1 + 1, X i) else (0, F (i + 1)))) (hend : step (F n) = some (k2 + 1, Y)) :
    ∀ (m i fuel : Nat), i + m = n → m < fuel → (∃ j, i ≤ j ∧ j < n ∧ bad j = true ∧ (∀ l, i ≤ l → l < j → bad l = false) ∧ iter step fuel (F i) = some (k1, X j)) ∨ ((∀ l, i ≤ l → l < n → bad l = false) ∧ iter step fuel (F i) = some (k2, Y))
  | _, _, 0, _, hf => by omega
  | 0, i, fuel + 1, hi, hf => by
    obtain rfl : i = n := by omega
    exact .inr ⟨fun l h h' => by omega, iter_out hend⟩
  | m + 1, i, fuel + 1, hi, hf => by
    have h := hgo i (by omega)
    cases hb : bad i with
    | true =>
      rw [hb] at h
      exact .inl ⟨i, Nat.le_refl _, by omega, hb, fun l h h' => by omega, iter_out h⟩
    | false =>
      rw [hb] at h
      rw [iter_one h]
      rcases iter_fn' F X Y hgo hend m (i + 1) fuel (by omega) (by omega) with ⟨j, a1, a2, a3, a4, a5⟩ | ⟨a1, a2⟩
      · refine .inl ⟨j, by omega, a2, a3, fun l h h' => ?_, a5⟩
        rcases Nat.eq_or_lt_of_le h with rfl | h
        · exact hb
        · exact a4 l h h'
      · refine .inr ⟨fun l h h' => ?_, a2⟩
        rcases Nat.eq_or_lt_of_le h with rfl | h
        · exact hb
        · exact a1 l h h'
theorem iter_fn {α : Type} {step : α → Option (Nat × α)} {n k1 k2 fuel : Nat} {bad : Nat → Bool} (F X : Nat → α) (Y : α) (hgo : ∀ i, i < n → step (F i) = some (bif bad i then (k1 + 1, X i) else (0, F (i + 1)))) (hend : step (F n) = some (k2 + 1, Y)) (hf : n < fuel) :
    (∃ j, j < n ∧ bad j = true ∧ (∀ l, l < j → bad l = false) ∧ iter step fuel (F 0) = some (k1, X j)) ∨ ((∀ l, l < n → bad l = false) ∧ iter step fuel (F 0) = some (k2, Y)) := by
  rcases iter_fn' F X Y hgo hend n 0 fuel (by omega) hf with ⟨j, _, h⟩ | ⟨h, h'⟩
  · exact .inl ⟨j, h.1, h.2.1, fun l hl => h.2.2.1 l (Nat.zero_le _) hl, h.2.2.2⟩
  · exact .inr ⟨fun l hl => h l (Nat.zero_le _) hl, h'⟩
def Tells (f : Option Bool) (P : Prop) : Prop := ∃ b, f = some b ∧ (b = true ↔ P)
theorem Tells.iff {f : Option Bool} {P Q : Prop} (h : Tells f P) (e : P ↔ Q) : Tells f Q := by obtain ⟨b, h1, h2⟩ := h; exact ⟨b, h1, h2.trans e⟩
theorem tells_dec {p : Prop} [Decidable p] : Tells (some (decide p)) p := ⟨_, rfl, decide_eq_true_iff⟩
theorem tells_f {P : Prop} (h : ¬ P) : Tells (some false) P := ⟨false, rfl, by simp [h]⟩
theorem tells_t {P : Prop} (h : P) : Tells (some true) P := ⟨true, rfl, by simp [h]⟩
theorem tells_and {f g : Option Bool} {P Q : Prop} (h : Tells f P) (k : P → Tells g Q) : Tells (Option.bind f fun r => bif r then g else some false) (P ∧ Q) := by
  obtain ⟨b, rfl, h2⟩ := h
  cases b with
  | true =>
    have hp := h2.1 rfl
    obtain ⟨c, h3, h4⟩ := k hp
    exact ⟨c, by simpa using h3, by simp [h4, hp]⟩
  | false => exact ⟨false, rfl, by simp; intro hp; exact absurd (h2.2 hp) (by simp)⟩
theorem tells_cond {g : Option Bool} {p Q : Prop} [Decidable p] (k : p → Tells g Q) : Tells (bif decide p then g else some false) (p ∧ Q) := by
  by_cases hp : p
  · obtain ⟨c, h3, h4⟩ := k hp
    exact ⟨c, by simpa [hp] using h3, by simp [h4, hp]⟩
  · exact ⟨false, by simp [hp], by simp [hp]⟩
theorem tells_bind {f : Option Bool} {P : Prop} (h : Tells f P) : Tells (Option.bind f fun r => some r) P := by obtain ⟨b, rfl, h2⟩ := h; exact ⟨b, rfl, h2⟩
theorem Tells.val {f : Option Bool} {P : Prop} (h : Tells f P) (hp : P) : f = some true := by obtain ⟨b, rfl, h2⟩ := h; rw [h2.2 hp]
theorem Tells.nval {f : Option Bool} {P : Prop} (h : Tells f P) (hp : ¬ P) : f = some false := by
  obtain ⟨b, rfl, h2⟩ := h
  cases b with
  | true => exact absurd (h2.1 rfl) hp
  | false => rfl
theorem getD_toNat {α : Type} (l : List α) (i : Nat) (d : α) : List.getD l (Int.toNat (i : Int)) d = l.getD i d := by simp
theorem inside_lt {i n : Nat} (h : i < n) : (decide (0 ≤ (i : Int)) && decide ((i : Int) < (n : Int))) = true := by simp; omega
theorem ge0 (i : Nat) : decide (0 ≤ (i : Int)) = true := by simp
theorem lt_int {i n : Nat} (h : i < n) : decide ((i : Int) < (n : Int)) = true := by simp; omega
theorem nlt_int (n : Nat) : decide ((n : Int) < (n : Int)) = false := by simp
theorem getD_mem {α : Type} {l : List α} {i : Nat} {d : α} (h : i < l.length) : l.getD i d ∈ l := by
  rw [List.getD_eq_getElem?_getD, List.getElem?_eq_getElem h]; exact List.getElem_mem h
theorem forall_getD {α : Type} {l : List α} (d : α) {p : α → Prop} : (∀ i, i < l.length → p (l.getD i d)) ↔ ∀ x ∈ l, p x := by
  constructor
  · intro h x hx
    obtain ⟨i, hi, rfl⟩ := List.mem_iff_getElem.1 hx
    have := h i hi
    rwa [List.getD_eq_getElem?_getD, List.getElem?_eq_getElem hi] at this
  · intro h i hi
    exact h _ (getD_mem hi)
end Go.Proofs.YtibmgbalfhfcdaaDoor.Abs
set_option linter.unusedVariables false
set_option linter.unusedSimpArgs false
set_option maxRecDepth 100000
namespace Go.Proofs.YtibmgbalfhfcdaaDoor.Abs
theorem in_tells (x a b : Int) : G68 x a b = some (decide (a ≤ x ∧ x ≤ b)) := by
  unfold G68
  by_cases h : a ≤ x
  · simp [h]
  · simp [h]
theorem rin_tells (x a b : Int) : G60 x a b = some (decide (a ≤ x ∧ x ≤ b)) := by
  unfold G60
  by_cases h : a ≤ x
  · simp [h]
  · simp [h]
structure StrOk (s : E23) : Prop where
  err : 0 ≤ s.1 ∧ s.1 ≤ 100
  drift : 0 ≤ s.2.1 ∧ s.2.1 ≤ 20
  warm : 0 ≤ s.2.2.1 ∧ s.2.2.1 ≤ 20
  depths : 1 ≤ s.2.2.2.1 ∧ s.2.2.2.1 ≤ 4
  len : 1 ≤ (s.2.2.2.2.1).length ∧ (s.2.2.2.2.1).length ≤ 6
  at_ : ∀ d ∈ s.2.2.2.2.1, 0 ≤ d ∧ d < s.2.2.2.1
def RdOk (s : E23) (r : E72) : Prop := 0 ≤ r.1 ∧ r.1 < ((s.2.2.2.2.1).length : Int) ∧ 0 ≤ r.2.1 ∧ r.2.1 ≤ 200 ∧ 0 ≤ r.2.2.1 ∧ r.2.2.1 ≤ 6400
def RdsOk (s : E23) (l : List E72) : Prop := ∀ r ∈ l, RdOk s r
end Go.Proofs.YtibmgbalfhfcdaaDoor.Abs
set_option linter.unusedVariables false
set_option linter.unusedSimpArgs false
set_option maxRecDepth 100000
namespace Go.Proofs.YtibmgbalfhfcdaaDoor.Abs
theorem notin_eq (n : Int) (s : E23) (h : 1 ≤ s.2.2.2.1 ∧ s.2.2.2.1 ≤ 4) : G98 n s = some (!decide (0 ≤ n ∧ n < s.2.2.2.1), (s, ())) := by
  unfold G98
  rw [wr (by omega) (by omega), in_tells]
  have : decide (0 ≤ n ∧ n ≤ s.2.2.2.1 - 1) = decide (0 ≤ n ∧ n < s.2.2.2.1) := by congr 1; apply propext; constructor <;> intro h' <;> exact ⟨h'.1, by omega⟩
  rw [this]; rfl
theorem any_of_getD {α : Type} {p : α → Bool} {l : List α} {d : α} {j : Nat} (hj : j < l.length) (h : p (l.getD j d) = true) : l.any p = true :=
  List.any_eq_true.2 ⟨_, getD_mem hj, h⟩
theorem any_not_getD {α : Type} {p : α → Bool} {l : List α} {d : α} (h : ∀ j, j < l.length → p (l.getD j d) = false) : l.any p = false := by
  rw [List.any_eq_false]
  intro x hx
  have := (forall_getD (l := l) d (p := fun x => p x = false)).1 h x hx
  simp [this]
theorem cf78 (a : List Int) (s : E23) (h : 1 ≤ s.2.2.2.1 ∧ s.2.2.2.1 ≤ 4) (hl : a.length < 2 ^ 62) : G78 a s = some (a.any (fun n => !decide (0 ≤ n ∧ n < s.2.2.2.1)), (s, ())) := by
  unfold G78 G95 G95_l0_run
  have key := iter_fn (step := G95_l0_step) (n := a.length) (k1 := 0) (k2 := 1) (fuel := G95_l0_fuel ((a, (0, ((List.length a : Int), (0, ())))), (s, ()))) (bad := fun i => !decide (0 ≤ a.getD i 0 ∧ a.getD i 0 < s.2.2.2.1))
    (fun i => ((a, (0, ((List.length a : Int), ((i : Int), ())))), (s, ()))) (fun i => ((a, ((i : Int), ((List.length a : Int), ((i : Int), ())))), (s, ()))) ((a, (0, ((List.length a : Int), ((a.length : Int), ())))), (s, ())) (fun i hi => by
      unfold G95_l0_step
      simp only [lt_int hi, inside_lt hi, cond_true, getD_toNat, notin_eq _ s h, Option.bind_some, wr1 (i := i) (by omega)]
      cases decide (0 ≤ a.getD i 0 ∧ a.getD i 0 < s.2.2.2.1) <;> rfl) (by
      unfold G95_l0_step
      simp only [nlt_int, cond_false]) (by unfold G95_l0_fuel; simp)
  rcases key with ⟨j, hj, hb, _, he⟩ | ⟨hall, he⟩
  · have he' : iter G95_l0_step (G95_l0_fuel ((a, (0, ((List.length a : Int), (0, ())))), (s, ()))) ((a, (0, ((List.length a : Int), (0, ())))), (s, ())) = _ := he
    rw [he', any_of_getD (p := fun n => !decide (0 ≤ n ∧ n < s.2.2.2.1)) hj hb]
    simp only [Option.bind_some, natK]
    simp
  · have he' : iter G95_l0_step (G95_l0_fuel ((a, (0, ((List.length a : Int), (0, ())))), (s, ()))) ((a, (0, ((List.length a : Int), (0, ())))), (s, ())) = _ := he
    rw [he', any_not_getD (p := fun n => !decide (0 ≤ n ∧ n < s.2.2.2.1)) hall]
    rfl
theorem valid_tells (s : E23) : Tells (G83 s) (StrOk s) := by
  have h : Tells (G83 s) ((0 ≤ s.1 ∧ s.1 ≤ 100) ∧ (0 ≤ s.2.1 ∧ s.2.1 ≤ 20) ∧ (0 ≤ s.2.2.1 ∧ s.2.2.1 ≤ 20) ∧ (1 ≤ s.2.2.2.1 ∧ s.2.2.2.1 ≤ 4) ∧ (1 ≤ ((s.2.2.2.2.1).length : Int) ∧ ((s.2.2.2.2.1).length : Int) ≤ 6) ∧ ∀ d ∈ s.2.2.2.2.1, 0 ≤ d ∧ d < s.2.2.2.1) := by
    unfold G83
    simp only [in_tells]
    refine tells_and tells_dec fun _ => tells_and tells_dec fun _ => tells_and tells_dec fun _ => tells_and tells_dec fun hd => tells_and tells_dec fun hl => ?_
    rw [cf78 _ _ hd (by have := hl.2; omega)]
    refine ⟨_, rfl, ?_⟩
    simp [List.any_eq_true]
  refine h.iff ⟨fun h => ⟨h.1, h.2.1, h.2.2.1, h.2.2.2.1, ?_, h.2.2.2.2.2⟩, fun h => ⟨h.err, h.drift, h.warm, h.depths, ?_, h.at_⟩⟩
  · have := h.2.2.2.2.1; omega
  · have := h.len; omega
instance (s : E23) (r : E72) : Decidable (RdOk s r) := by unfold RdOk; infer_instance
theorem rd_eq (r : E72) (s : E23) (hs : StrOk s) : G87 r s = some (!decide (RdOk s r), (s, ())) := by
  unfold G87
  have := hs.len
  rw [wr (by omega) (by omega)]
  simp only [in_tells, Option.bind_some]
  have e : decide (RdOk s r) = (decide (0 ≤ r.1 ∧ r.1 ≤ ((s.2.2.2.2.1).length : Int) - 1) && (decide (0 ≤ r.2.1 ∧ r.2.1 ≤ 200) && decide (0 ≤ r.2.2.1 ∧ r.2.2.1 ≤ 6400))) := by
    rw [← Bool.decide_and, ← Bool.decide_and]
    refine decide_eq_decide.2 ⟨fun h => ⟨⟨h.1, by have := h.2.1; omega⟩, ⟨h.2.2.1, h.2.2.2.1⟩, h.2.2.2.2⟩, fun h => ⟨h.1.1, by have := h.1.2; omega, h.2.1.1, h.2.1.2, h.2.2⟩⟩
  rw [e]
  generalize decide (0 ≤ r.1 ∧ r.1 ≤ ((s.2.2.2.2.1).length : Int) - 1) = a
  generalize decide (0 ≤ r.2.1 ∧ r.2.1 ≤ 200) = b
  generalize decide (0 ≤ r.2.2.1 ∧ r.2.2.1 ≤ 6400) = c
  cases a <;> cases b <;> cases c <;> rfl
theorem cf81 (a : List E72) (s : E23) (hs : StrOk s) (hl : a.length < 2 ^ 62) : G81 a s = some (a.any (fun r => !decide (RdOk s r)), (s, ())) := by
  unfold G81 G97 G97_l0_run
  have key := iter_fn (step := G97_l0_step) (n := a.length) (k1 := 0) (k2 := 1) (fuel := G97_l0_fuel ((a, (0, ((List.length a : Int), (0, ())))), (s, ()))) (bad := fun i => !decide (RdOk s (a.getD i (0, (0, (0, ()))))))
    (fun i => ((a, (0, ((List.length a : Int), ((i : Int), ())))), (s, ()))) (fun i => ((a, ((i : Int), ((List.length a : Int), ((i : Int), ())))), (s, ()))) ((a, (0, ((List.length a : Int), ((a.length : Int), ())))), (s, ())) (fun i hi => by
      unfold G97_l0_step
      simp only [lt_int hi, inside_lt hi, cond_true, getD_toNat, rd_eq _ s hs, Option.bind_some, wr1 (i := i) (by omega)]
      cases decide (RdOk s (a.getD i (0, (0, (0, ()))))) <;> rfl) (by
      unfold G97_l0_step
      simp only [nlt_int, cond_false]) (by unfold G97_l0_fuel; simp)
  rcases key with ⟨j, hj, hb, _, he⟩ | ⟨hall, he⟩
  · have he' : iter G97_l0_step (G97_l0_fuel ((a, (0, ((List.length a : Int), (0, ())))), (s, ()))) ((a, (0, ((List.length a : Int), (0, ())))), (s, ())) = _ := he
    rw [he', any_of_getD (p := fun r => !decide (RdOk s r)) hj hb]
    simp only [Option.bind_some, natK]
    simp
  · have he' : iter G97_l0_step (G97_l0_fuel ((a, (0, ((List.length a : Int), (0, ())))), (s, ()))) ((a, (0, ((List.length a : Int), (0, ())))), (s, ())) = _ := he
    rw [he', any_not_getD (p := fun r => !decide (RdOk s r)) hall]
    rfl
end Go.Proofs.YtibmgbalfhfcdaaDoor.Abs
set_option linter.unusedVariables false
set_option linter.unusedSimpArgs false
set_option maxRecDepth 100000
namespace Go.Proofs.YtibmgbalfhfcdaaDoor.Abs
theorem mulb {m w : Int} (h1 : -60 ≤ m) (h2 : m ≤ 60) (h3 : 0 ≤ w) (h4 : w ≤ 200) : -12000 ≤ m * w ∧ m * w ≤ 12000 := by
  have a := Int.mul_le_mul_of_nonneg_right h1 h3
  have b := Int.mul_le_mul_of_nonneg_right h2 h3
  omega
def agr1 (s : E23) (r : E72) (T m : Int) : Bool := decide (r.2.2.1 - m * r.2.1 - s.1 ≤ T) && decide (T ≤ r.2.2.1 - m * r.2.1 + s.1)
def agr (s : E23) (l : List E72) (i T m : Int) : Bool := l.all fun r => !(r.1 == i) || agr1 s r T m
abbrev XX (s : E23) (l : List E72) : E123 := (s, (l, ((), ())))
end Go.Proofs.YtibmgbalfhfcdaaDoor.Abs
set_option linter.unusedVariables false
set_option linter.unusedSimpArgs false
set_option maxRecDepth 100000
namespace Go.Proofs.YtibmgbalfhfcdaaDoor.Abs
open Classical
def moS (s : E23) (b i : Nat) : Int := bif b.testBit i then s.2.1 else 0
def moD (s : E23) (b d : Nat) : Int := bif b.testBit ((s.2.2.2.2.1).length + d) then s.2.2.1 else 0
def Dr (s : E23) (l : List E72) (i : Int) (mo T m : Int) : Prop := ∃ q, -mo ≤ q ∧ q ≤ mo ∧ agr s l i T (m + q) = true
def Can (s : E23) (l : List E72) (b : Nat) (d : Int) (T m : Int) : Prop := ∀ i, i < (s.2.2.2.2.1).length → (s.2.2.2.2.1).getD i 0 = d → Dr s l i (moS s b i) T m
end Go.Proofs.YtibmgbalfhfcdaaDoor.Abs
set_option linter.unusedVariables false
set_option linter.unusedSimpArgs false
set_option maxRecDepth 100000
namespace Go.Proofs.YtibmgbalfhfcdaaDoor.Abs
open Classical
def HC (s : E23) (l : List E72) (b : Nat) (d m T : Int) : Prop := (2000 ≤ T ∧ T ≤ 3200) ∧ Can s l b d T m
end Go.Proofs.YtibmgbalfhfcdaaDoor.Abs
set_option linter.unusedVariables false
set_option linter.unusedSimpArgs false
set_option maxRecDepth 100000
namespace Go.Proofs.YtibmgbalfhfcdaaDoor.Abs
open Classical
def matK (s : E23) (b d : Nat) : Nat → Nat
  | 0 => b &&& 2 ^ ((s.2.2.2.2.1).length + d)
  | k + 1 => bif (s.2.2.2.2.1).getD k 0 == (d : Int) then matK s b d k ||| (b &&& 2 ^ k) else matK s b d k
theorem matK_bit (s : E23) (b d j : Nat) : ∀ k, k ≤ (s.2.2.2.2.1).length → (matK s b d k).testBit j = (b.testBit j && (decide (j = (s.2.2.2.2.1).length + d) || (decide (j < k) && (s.2.2.2.2.1).getD j 0 == (d : Int))))
  | 0, _ => by
    simp only [matK, Nat.testBit_and, Nat.testBit_two_pow]
    simp [eq_comm]
  | k + 1, hk => by
    have ih := matK_bit s b d j k (by omega)
    simp only [matK]
    by_cases hj : j = k
    · subst hj
      have h1 : decide (j = (s.2.2.2.2.1).length + d) = false := decide_eq_false (by omega)
      have h2 : decide (j < j) = false := decide_eq_false (by omega)
      have h3 : decide (j < j + 1) = true := decide_eq_true (by omega)
      rw [h1, h2] at ih
      rw [h1, h3]
      cases (s.2.2.2.2.1).getD j 0 == (d : Int) with
      | true =>
        simp only [cond_true, Nat.testBit_or, Nat.testBit_and, Nat.testBit_two_pow_self, ih]
        simp
      | false => simp only [cond_false, ih]; simp
    · have h1 : decide (j < k + 1) = decide (j < k) := decide_eq_decide.2 (by omega)
      rw [h1]
      cases (s.2.2.2.2.1).getD k 0 == (d : Int) with
      | true =>
        have h2 : (2 ^ k).testBit j = false := by rw [Nat.testBit_two_pow]; simp; omega
        simp only [cond_true, Nat.testBit_or, Nat.testBit_and, h2, ih]
        simp
      | false => simp only [cond_false, ih]
def mat (s : E23) (b d : Nat) : Nat := matK s b d (s.2.2.2.2.1).length
def DC (s : E23) (l : List E72) (b d : Nat) (m T : Int) : Prop := (-(moD s b d) ≤ m ∧ m ≤ moD s b d) ∧ HC s l b d m T
theorem mat_same {s : E23} {b b' d : Nat} (h : mat s b d = mat s b' d) : moD s b d = moD s b' d ∧ ∀ i, i < (s.2.2.2.2.1).length → (s.2.2.2.2.1).getD i 0 = (d : Int) → moS s b i = moS s b' i := by
  have key : ∀ j, (b.testBit j && (decide (j = (s.2.2.2.2.1).length + d) || (decide (j < (s.2.2.2.2.1).length) && (s.2.2.2.2.1).getD j 0 == (d : Int)))) = (b'.testBit j && (decide (j = (s.2.2.2.2.1).length + d) || (decide (j < (s.2.2.2.2.1).length) && (s.2.2.2.2.1).getD j 0 == (d : Int)))) := fun j => by
    rw [← matK_bit s b d j _ (Nat.le_refl _), ← matK_bit s b' d j _ (Nat.le_refl _)]
    show (mat s b d).testBit j = (mat s b' d).testBit j
    rw [h]
  refine ⟨?_, fun i hi hd => ?_⟩
  · have := key ((s.2.2.2.2.1).length + d)
    simp only [decide_true, Bool.true_or, Bool.and_true] at this
    unfold moD
    rw [this]
  · have := key i
    rw [hd] at this
    simp only [decide_eq_true hi, beq_self_eq_true, Bool.and_self, Bool.or_true, Bool.and_true] at this
    unfold moS
    rw [this]
theorem DC_same {s : E23} {l : List E72} {b b' d : Nat} (h : mat s b d = mat s b' d) (m T : Int) : DC s l b d m T ↔ DC s l b' d m T := by
  obtain ⟨h1, h2⟩ := mat_same h
  unfold DC HC Can
  rw [h1]
  refine and_congr_right fun _ => and_congr_right fun _ => forall_congr' fun i => forall_congr' fun hi => forall_congr' fun hd => ?_
  rw [h2 i hi hd]
def SpanIs (s : E23) (l : List E72) (b d : Nat) (m : Int) (q : E56) : Prop :=
  (DC s l b d m q.1 ∧ DC s l b d m q.2.1 ∧ ∀ T, DC s l b d m T → q.1 ≤ T ∧ T ≤ q.2.1) ∨ ((∀ T, ¬ DC s l b d m T) ∧ q = (-1, (-1, ())))
structure AnsIs (s : E23) (l : List E72) (b d : Nat) (v : E94) : Prop where
  len : v.1.length = 41
  span : ∀ k : Nat, k < 41 → SpanIs s l b d ((k : Int) - 20) (v.1.getD k (0, (0, ())))
  can : v.2.1 = true ↔ ∃ m T, DC s l b d m T
theorem SpanIs.same {s : E23} {l : List E72} {b b' d : Nat} (h : mat s b d = mat s b' d) {m : Int} {q : E56} (hq : SpanIs s l b d m q) : SpanIs s l b' d m q := by
  rcases hq with ⟨h1, h2, h3⟩ | ⟨h1, h2⟩
  · exact .inl ⟨(DC_same h _ _).1 h1, (DC_same h _ _).1 h2, fun T hT => h3 T ((DC_same h _ _).2 hT)⟩
  · exact .inr ⟨fun T hT => h1 T ((DC_same h _ _).2 hT), h2⟩
theorem AnsIs.same {s : E23} {l : List E72} {b b' d : Nat} (h : mat s b d = mat s b' d) {v : E94} (hv : AnsIs s l b d v) : AnsIs s l b' d v :=
  ⟨hv.len, fun k hk => (hv.span k hk).same h, hv.can.trans ⟨fun ⟨m, T, hT⟩ => ⟨m, T, (DC_same h _ _).1 hT⟩, fun ⟨m, T, hT⟩ => ⟨m, T, (DC_same h _ _).2 hT⟩⟩⟩
theorem eqK (k k' : E56) : eqD T56 k k' = decide (k = k') := by
  obtain ⟨a, b, u⟩ := k
  obtain ⟨c, e, u'⟩ := k'
  show (a == c && (b == e && true)) = _
  by_cases h1 : a = c <;> by_cases h2 : b = e <;> simp [h1, h2]
theorem find_put {α : Type} (k k' : E56) (v : α) : ∀ xs : List (E56 × α), findD T56 k' (putD T56 k v xs) = if k' = k then some v else findD T56 k' xs
  | [] => by
    simp only [putD, findD, eqK]
    by_cases h : k' = k
    · rw [if_pos h, decide_eq_true h]; rfl
    · rw [if_neg h, decide_eq_false h]; rfl
  | x :: xs => by
    have ih := find_put k k' v xs
    simp only [putD, eqK]
    by_cases h1 : k = x.1
    · rw [decide_eq_true h1]
      simp only [cond_true, findD, eqK]
      by_cases h : k' = k
      · rw [if_pos h, decide_eq_true h]; rfl
      · rw [if_neg h, decide_eq_false h, decide_eq_false (by rw [← h1]; exact h)]; rfl
    · rw [decide_eq_false h1]
      simp only [cond_false, findD, eqK]
      rw [ih]
      by_cases h : k' = k
      · simp only [if_pos h]; rw [decide_eq_false (by rw [h]; exact h1)]; rfl
      · simp only [if_neg h]
def MemoOk (s : E23) (l : List E72) (M : List (E56 × E94)) : Prop := ∀ (d b : Nat) (v : E94), findD T56 ((d : Int), (((mat s b d : Nat) : Int), ())) M = some v → AnsIs s l b d v
theorem MemoOk.put {s : E23} {l : List E72} {M : List (E56 × E94)} (h : MemoOk s l M) {d b : Nat} {v : E94} (hv : AnsIs s l b d v) : MemoOk s l (putD T56 ((d : Int), (((mat s b d : Nat) : Int), ())) v M) := fun d' b' v' hf => by
  rw [find_put] at hf
  split at hf
  · rename_i he
    simp only [Option.some.injEq] at hf
    subst hf
    simp only [Prod.mk.injEq, and_true] at he
    have h1 : d' = d := Int.ofNat.inj he.1
    subst h1
    have h2 : mat s b d' = mat s b' d' := (Int.ofNat.inj he.2).symm
    exact hv.same h2
  · exact h d' b' v' hf
end Go.Proofs.YtibmgbalfhfcdaaDoor.Abs
set_option linter.unusedVariables false
set_option linter.unusedSimpArgs false
set_option maxRecDepth 100000
namespace Go.Proofs.YtibmgbalfhfcdaaDoor.Abs
open Classical
theorem rstring_tells (s : E23) (h12 : (s.2.2.2.2.1).length ≤ 1000) : Tells (G42 s) (StrOk s) := by
  unfold G42 G42_l0_run
  have key := iter_fn (step := G42_l0_step) (n := (s.2.2.2.2.1).length) (k1 := 0) (k2 := 1) (fuel := G42_l0_fuel ((false, (0, ())), (s, ())))
    (bad := fun i => !decide (0 ≤ (s.2.2.2.2.1).getD i 0 ∧ (s.2.2.2.2.1).getD i 0 ≤ IntKind.wrap .i64 (s.2.2.2.1 - 1)))
    (fun i => ((false, ((i : Int), ())), (s, ()))) (fun i => ((false, ((i : Int), ())), (s, ()))) ((false, (((s.2.2.2.2.1).length : Int), ())), (s, ())) (fun i hi => by
      unfold G42_l0_step
      simp only [lt_int hi, ge0, Bool.and_self, cond_true, getD_toNat, rin_tells, Option.bind_some, wr1 (i := i) (by omega)]
      cases decide (0 ≤ (s.2.2.2.2.1).getD i 0 ∧ (s.2.2.2.2.1).getD i 0 ≤ IntKind.wrap .i64 (s.2.2.2.1 - 1)) <;> rfl) (by
      unfold G42_l0_step
      simp only [nlt_int, cond_false]) (by unfold G42_l0_fuel; simp)
  rcases key with ⟨j, hj, hb, _, he⟩ | ⟨hall, he⟩
  · rw [show iter G42_l0_step (G42_l0_fuel ((false, (0, ())), (s, ()))) ((false, (0, ())), (s, ())) = _ from he]
    refine tells_f fun hs => ?_
    have h1 := hs.at_ _ (getD_mem hj (d := 0))
    have hd := hs.depths
    rw [wr (by omega) (by omega)] at hb
    rw [Bool.not_eq_true'] at hb
    have : ¬ (0 ≤ (s.2.2.2.2.1).getD j 0 ∧ (s.2.2.2.2.1).getD j 0 ≤ s.2.2.2.1 - 1) := of_decide_eq_false hb
    exact this ⟨h1.1, by omega⟩
  · rw [show iter G42_l0_step (G42_l0_fuel ((false, (0, ())), (s, ()))) ((false, (0, ())), (s, ())) = _ from he]
    simp only [Option.bind_some, natK, rin_tells]
    have h : Tells (Option.bind (some (decide (0 ≤ s.1 ∧ s.1 ≤ 100))) fun r3 => bif r3 then Option.bind (some (decide (0 ≤ s.2.1 ∧ s.2.1 ≤ 20))) fun r4 => bif r4 then Option.bind (some (decide (0 ≤ s.2.2.1 ∧ s.2.2.1 ≤ 20))) fun r5 => bif r5 then Option.bind (some (decide (1 ≤ s.2.2.2.1 ∧ s.2.2.2.1 ≤ 4))) fun r6 => bif r6 then Option.bind (some (decide (1 ≤ ((s.2.2.2.2.1).length : Int) ∧ ((s.2.2.2.2.1).length : Int) ≤ 6))) fun r7 => some r7 else some false else some false else some false else some false)
      ((0 ≤ s.1 ∧ s.1 ≤ 100) ∧ (0 ≤ s.2.1 ∧ s.2.1 ≤ 20) ∧ (0 ≤ s.2.2.1 ∧ s.2.2.1 ≤ 20) ∧ (1 ≤ s.2.2.2.1 ∧ s.2.2.2.1 ≤ 4) ∧ (1 ≤ ((s.2.2.2.2.1).length : Int) ∧ ((s.2.2.2.2.1).length : Int) ≤ 6)) :=
      tells_and tells_dec fun _ => tells_and tells_dec fun _ => tells_and tells_dec fun _ => tells_and tells_dec fun hd => tells_bind tells_dec
    refine Tells.iff h ⟨fun h => ⟨h.1, h.2.1, h.2.2.1, h.2.2.2.1, by have := h.2.2.2.2; omega, ?_⟩, fun h => ⟨h.err, h.drift, h.warm, h.depths, by have := h.len; omega⟩⟩
    refine (forall_getD 0).1 fun i hi => ?_
    have := hall i hi
    rw [wr (by have := h.2.2.2.1; omega) (by have := h.2.2.2.1; omega)] at this
    have h2 : 0 ≤ (s.2.2.2.2.1).getD i 0 ∧ (s.2.2.2.2.1).getD i 0 ≤ s.2.2.2.1 - 1 := by simpa using this
    exact ⟨h2.1, by omega⟩
theorem rreadings_tells {s : E23} (hs : StrOk s) (l : List E72) (hl : l.length ≤ 1000) : Tells (G43 s l) (RdsOk s l) := by
  have hlen := hs.len
  unfold G43 G43_l0_run
  have key := iter_fn (step := G43_l0_step) (n := l.length) (k1 := 0) (k2 := 1) (fuel := G43_l0_fuel ((l, (false, (0, ()))), (s, ())))
    (bad := fun i => !decide (RdOk s (l.getD i (0, (0, (0, ()))))))
    (fun i => ((l, (false, ((i : Int), ()))), (s, ()))) (fun i => ((l, (false, ((i : Int), ()))), (s, ()))) ((l, (false, ((l.length : Int), ()))), (s, ())) (fun i hi => by
      unfold G43_l0_step
      have hw : IntKind.wrap .i64 (((s.2.2.2.2.1).length : Int) - 1) = ((s.2.2.2.2.1).length : Int) - 1 := wr (by omega) (by omega)
      simp only [hw, lt_int hi, ge0, Bool.and_self, cond_true, getD_toNat, rin_tells, Option.bind_some, wr1 (i := i) (by omega)]
      generalize l.getD i (0, (0, (0, ()))) = r
      have e : decide (RdOk s r) = (decide (0 ≤ r.1 ∧ r.1 ≤ ((s.2.2.2.2.1).length : Int) - 1) && (decide (0 ≤ r.2.1 ∧ r.2.1 ≤ 200) && decide (0 ≤ r.2.2.1 ∧ r.2.2.1 ≤ 6400))) := by
        rw [← Bool.decide_and, ← Bool.decide_and]
        refine decide_eq_decide.2 ⟨fun h => ⟨⟨h.1, by have := h.2.1; omega⟩, ⟨h.2.2.1, h.2.2.2.1⟩, h.2.2.2.2⟩, fun h => ⟨h.1.1, by have := h.1.2; omega, h.2.1.1, h.2.1.2, h.2.2⟩⟩
      rw [e]
      generalize decide (0 ≤ r.1 ∧ r.1 ≤ ((s.2.2.2.2.1).length : Int) - 1) = a
      generalize decide (0 ≤ r.2.1 ∧ r.2.1 ≤ 200) = b
      generalize decide (0 ≤ r.2.2.1 ∧ r.2.2.1 ≤ 6400) = c
      cases a <;> cases b <;> cases c <;> rfl) (by
      unfold G43_l0_step
      simp only [nlt_int, cond_false]) (by unfold G43_l0_fuel; simp)
  rcases key with ⟨j, hj, hb, _, he⟩ | ⟨hall, he⟩
  · rw [show iter G43_l0_step (G43_l0_fuel ((l, (false, (0, ()))), (s, ()))) ((l, (false, (0, ()))), (s, ())) = _ from he]
    refine tells_f fun hr => ?_
    have := hr _ (getD_mem hj (d := (0, (0, (0, ())))))
    rw [decide_eq_true this] at hb
    cases hb
  · rw [show iter G43_l0_step (G43_l0_fuel ((l, (false, (0, ()))), (s, ()))) ((l, (false, (0, ()))), (s, ())) = _ from he]
    refine tells_t ((forall_getD (0, (0, (0, ())))).1 fun i hi => ?_)
    simpa using hall i hi
def SlOk (s : E23) (l : List E72) : Prop := l.length ≤ 24 ∧ StrOk s ∧ RdsOk s l
theorem short_tells (s : E23) (l : List E72) : G11 s l = some (decide ((s.2.2.2.2.1).length ≤ 12 ∧ l.length ≤ 29)) := by
  unfold G11
  by_cases h : (s.2.2.2.2.1).length ≤ 12
  · by_cases h2 : l.length ≤ 29
    · rw [decide_eq_true (p := ((s.2.2.2.2.1).length : Int) ≤ 12) (by omega), cond_true]; congr 1; rw [decide_eq_decide]; omega
    · rw [decide_eq_true (p := ((s.2.2.2.2.1).length : Int) ≤ 12) (by omega), cond_true]; congr 1; rw [decide_eq_decide]; omega
  · rw [decide_eq_false (p := ((s.2.2.2.2.1).length : Int) ≤ 12) (by omega), cond_false]; rw [decide_eq_false (fun hh => h hh.1)]
theorem wanted_eq (s : E23) (l : List E72) (h1 : (s.2.2.2.2.1).length ≤ 1000) (h2 : l.length ≤ 1000) :
    (24 < l.length ∧ G13 s l = some 3) ∨ (l.length ≤ 24 ∧ ¬ SlOk s l ∧ G13 s l = some 2) ∨ (SlOk s l ∧ G13 s l = some 0) := by
  unfold G13
  by_cases hl : l.length ≤ 24
  · have : decide ((l.length : Int) > 24) = false := decide_eq_false (by omega)
    rw [this, cond_false]
    right
    by_cases hs : StrOk s
    · rw [(rstring_tells s h1).val hs]
      simp only [Option.bind_some, Bool.not_true, cond_false]
      by_cases hr : RdsOk s l
      · rw [(rreadings_tells hs l h2).val hr]
        exact .inr ⟨⟨hl, hs, hr⟩, rfl⟩
      · rw [(rreadings_tells hs l h2).nval hr]
        exact .inl ⟨hl, fun h => hr h.2.2, rfl⟩
    · rw [(rstring_tells s h1).nval hs]
      exact .inl ⟨hl, fun h => hs h.2.1, rfl⟩
  · have : decide ((l.length : Int) > 24) = true := decide_eq_true (by omega)
    rw [this, cond_true]
    exact .inl ⟨by omega, rfl⟩
end Go.Proofs.YtibmgbalfhfcdaaDoor.Abs
set_option linter.unusedVariables false
set_option linter.unusedSimpArgs false
set_option maxRecDepth 100000
namespace Go.Proofs.YtibmgbalfhfcdaaDoor.Abs
open Classical
end Go.Proofs.YtibmgbalfhfcdaaDoor.Abs
set_option linter.unusedVariables false
set_option linter.unusedSimpArgs false
set_option maxRecDepth 100000
namespace Go.Proofs.YtibmgbalfhfcdaaDoor.Abs
open Classical
def low (b i : Nat) : Prop := ∀ j, i ≤ j → b.testBit j = false
end Go.Proofs.YtibmgbalfhfcdaaDoor.Abs
set_option maxRecDepth 1000000
namespace Go.Proofs.YtibmgbalfhfcdaaDoor.Abs
theorem known_ok : G15 = some true := by kernel_rfl
end Go.Proofs.YtibmgbalfhfcdaaDoor.Abs
