import Derived.Test.YtibmgbalfhfcdaaDoorF3
import Derived.IntWalk
set_option linter.unusedVariables false
set_option linter.unusedSimpArgs false
set_option maxRecDepth 100000
namespace Go.Proofs.YtibmgbalfhfcdaaDoor.Abs
theorem wr {n : Int} (h : -9223372036854775808 ≤ n) (h' : n ≤ 9223372036854775807) : IntKind.wrap .i64 n = n := by rw [IntKind.wrap_i64]; omega
theorem wr1 {i : Nat} (h : i < 2 ^ 62) : IntKind.wrap .i64 ((i : Int) + 1) = ((i + 1 : Nat) : Int) := by rw [wr (by omega) (by omega)]; omega
theorem iter_one {α : Type} {step : α → Option (Nat × α)} {fuel : Nat} {s s' : α} (h : step s = some (0, s')) : iter step (fuel + 1) s = iter step fuel s' := by
  simp only [iter, h, Option.bind_some]
theorem iter_out {α : Type} {step : α → Option (Nat × α)} {fuel n : Nat} {s s' : α} (h : step s = some (n + 1, s')) : iter step (fuel + 1) s = some (n, s') := by
  simp only [iter, h, Option.bind_some]
theorem iter_fn' {α : Type} {step : α → Option (Nat × α)} {n k1 k2 : Nat} {bad : Nat → Bool} (F X : Nat → α) (Y : α) (hgo : ∀ i, i < n → step (F i) = some (bif bad i then (k1 + 1, X i) else (0, F (i + 1)))) (hend : step (F n) = some (k2 + 1, Y)) :
    ∀ (m i fuel : Nat), i + m = n → m < fuel → (∃ j, i ≤ j ∧ j < n ∧ bad j = true ∧ (∀ l, i ≤ l → l < j → bad l = false) ∧ iter step fuel (F i) = some (k1, X j)) ∨ ((∀ l, i ≤ l → l < n → bad l = false) ∧ iter step fuel (F i) = some (k2, Y))
  | _, _, 0, _, hf => by omega
  | 0, i, fuel + 1, hi, hf => by
    obtain rfl : i = n := by omega
    exact .inr ⟨fun l h h' => by omega, iter_out hend⟩
  | m + 1, i, fuel + 1, hi, hf => by
    have h := hgo i (by omega)
    cases hb : bad i with
    | true =>
      rw [hb] at h
      exact .inl ⟨i, Nat.le_refl _, by omega, hb, fun l h h' => by omega, iter_out h⟩
    | false =>
      rw [hb] at h
      rw [iter_one h]
      rcases iter_fn' F X Y hgo hend m (i + 1) fuel (by omega) (by omega) with ⟨j, a1, a2, a3, a4, a5⟩ | ⟨a1, a2⟩
      · refine .inl ⟨j, by omega, a2, a3, fun l h h' => ?_, a5⟩
        rcases Nat.eq_or_lt_of_le h with rfl | h
        · exact hb
        · exact a4 l h h'
      · refine .inr ⟨fun l h h' => ?_, a2⟩
        rcases Nat.eq_or_lt_of_le h with rfl | h
        · exact hb
        · exact a1 l h h'
theorem iter_fn {α : Type} {step : α → Option (Nat × α)} {n k1 k2 fuel : Nat} {bad : Nat → Bool} (F X : Nat → α) (Y : α) (hgo : ∀ i, i < n → step (F i) = some (bif bad i then (k1 + 1, X i) else (0, F (i + 1)))) (hend : step (F n) = some (k2 + 1, Y)) (hf : n < fuel) :
    (∃ j, j < n ∧ bad j = true ∧ (∀ l, l < j → bad l = false) ∧ iter step fuel (F 0) = some (k1, X j)) ∨ ((∀ l, l < n → bad l = false) ∧ iter step fuel (F 0) = some (k2, Y)) := by
  rcases iter_fn' F X Y hgo hend n 0 fuel (by omega) hf with ⟨j, _, h⟩ | ⟨h, h'⟩
  · exact .inl ⟨j, h.1, h.2.1, fun l hl => h.2.2.1 l (Nat.zero_le _) hl, h.2.2.2⟩
  · exact .inr ⟨fun l hl => h l (Nat.zero_le _) hl, h'⟩
theorem iter_run {α : Type} {step : α → Option (Nat × α)} {n k fuel : Nat} (F : Nat → α) (Y : α) (hgo : ∀ i, i < n → step (F i) = some (0, F (i + 1))) (hend : step (F n) = some (k + 1, Y)) (hf : n < fuel) : iter step fuel (F 0) = some (k, Y) := by
  rcases iter_fn (bad := fun _ => false) (k1 := 0) F F Y hgo hend hf with ⟨j, _, h, _⟩ | ⟨_, h⟩
  · cases h
  · exact h
theorem iter_inv {α : Type} {step : α → Option (Nat × α)} {k : Nat} (I : Nat → α → Prop) (E : α → Prop) {n : Nat} (hgo : ∀ i s, I i s → i < n → ∃ s', step s = some (0, s') ∧ I (i + 1) s') (hend : ∀ s, I n s → ∃ s', step s = some (k + 1, s') ∧ E s') :
    ∀ (m i fuel : Nat) (s : α), i + m = n → m < fuel → I i s → ∃ q, iter step fuel s = some (k, q) ∧ E q
  | _, _, 0, _, _, hf, _ => by omega
  | 0, i, fuel + 1, s, hi, hf, hs => by
    obtain rfl : i = n := by omega
    obtain ⟨s', h1, h2⟩ := hend s hs
    exact ⟨s', iter_out h1, h2⟩
  | m + 1, i, fuel + 1, s, hi, hf, hs => by
    obtain ⟨s', h1, h2⟩ := hgo i s hs (by omega)
    rw [iter_one h1]
    exact iter_inv I E hgo hend m (i + 1) fuel s' (by omega) (by omega) h2
def Tells (f : Option Bool) (P : Prop) : Prop := ∃ b, f = some b ∧ (b = true ↔ P)
theorem Tells.iff {f : Option Bool} {P Q : Prop} (h : Tells f P) (e : P ↔ Q) : Tells f Q := by obtain ⟨b, h1, h2⟩ := h; exact ⟨b, h1, h2.trans e⟩
theorem tells_dec {p : Prop} [Decidable p] : Tells (some (decide p)) p := ⟨_, rfl, decide_eq_true_iff⟩
theorem tells_f {P : Prop} (h : ¬ P) : Tells (some false) P := ⟨false, rfl, by simp [h]⟩
theorem tells_t {P : Prop} (h : P) : Tells (some true) P := ⟨true, rfl, by simp [h]⟩
theorem tells_and {f g : Option Bool} {P Q : Prop} (h : Tells f P) (k : P → Tells g Q) : Tells (Option.bind f fun r => bif r then g else some false) (P ∧ Q) := by
  obtain ⟨b, rfl, h2⟩ := h
  cases b with
  | true =>
    have hp := h2.1 rfl
    obtain ⟨c, h3, h4⟩ := k hp
    exact ⟨c, by simpa using h3, by simp [h4, hp]⟩
  | false => exact ⟨false, rfl, by simp; intro hp; exact absurd (h2.2 hp) (by simp)⟩
theorem tells_bind {f : Option Bool} {P : Prop} (h : Tells f P) : Tells (Option.bind f fun r => some r) P := by obtain ⟨b, rfl, h2⟩ := h; exact ⟨b, rfl, h2⟩
theorem Tells.val {f : Option Bool} {P : Prop} (h : Tells f P) (hp : P) : f = some true := by obtain ⟨b, rfl, h2⟩ := h; rw [h2.2 hp]
theorem Tells.nval {f : Option Bool} {P : Prop} (h : Tells f P) (hp : ¬ P) : f = some false := by
  obtain ⟨b, rfl, h2⟩ := h
  cases b with
  | true => exact absurd (h2.1 rfl) hp
  | false => rfl
theorem getD_toNat {α : Type} (l : List α) (i : Nat) (d : α) : List.getD l (Int.toNat (i : Int)) d = l.getD i d := by simp
theorem inside_lt {i n : Nat} (h : i < n) : (decide (0 ≤ (i : Int)) && decide ((i : Int) < (n : Int))) = true := by simp; omega
theorem ge0 (i : Nat) : decide (0 ≤ (i : Int)) = true := by simp
theorem lt_int {i n : Nat} (h : i < n) : decide ((i : Int) < (n : Int)) = true := by simp; omega
theorem nlt_int (n : Nat) : decide ((n : Int) < (n : Int)) = false := by simp
theorem getD_mem {α : Type} {l : List α} {i : Nat} {d : α} (h : i < l.length) : l.getD i d ∈ l := by
  rw [List.getD_eq_getElem?_getD, List.getElem?_eq_getElem h]; exact List.getElem_mem h
theorem forall_getD {α : Type} {l : List α} (d : α) {p : α → Prop} : (∀ i, i < l.length → p (l.getD i d)) ↔ ∀ x ∈ l, p x := by
  constructor
  · intro h x hx
    obtain ⟨i, hi, rfl⟩ := List.mem_iff_getElem.1 hx
    have := h i hi
    rwa [List.getD_eq_getElem?_getD, List.getElem?_eq_getElem hi] at this
  · intro h i hi
    exact h _ (getD_mem hi)
end Go.Proofs.YtibmgbalfhfcdaaDoor.Abs
set_option linter.unusedVariables false
set_option linter.unusedSimpArgs false
set_option maxRecDepth 100000
namespace Go.Proofs.YtibmgbalfhfcdaaDoor.Abs
theorem or_nat {a b : Nat} (ha : a < 2 ^ 62) (hb : b < 2 ^ 62) : IntKind.wrap .i64 ((BitVec.toNat (BitVec.ofInt (IntKind.bits .i64) (a : Int) ||| BitVec.ofInt (IntKind.bits .i64) (b : Int)) : Nat) : Int) = ((a ||| b : Nat) : Int) := by
  have h : a ||| b < 2 ^ 62 := Nat.or_lt_two_pow ha hb
  have key : (BitVec.ofInt 64 (a : Int) ||| BitVec.ofInt 64 (b : Int)).toNat = a ||| b := by
    rw [BitVec.ofInt_natCast, BitVec.ofInt_natCast, BitVec.toNat_or, BitVec.toNat_ofNat, BitVec.toNat_ofNat, Nat.mod_eq_of_lt (by omega), Nat.mod_eq_of_lt (by omega)]
  show IntKind.wrap .i64 (((BitVec.ofInt 64 (a : Int) ||| BitVec.ofInt 64 (b : Int)).toNat : Nat) : Int) = _
  rw [key]
  exact wr (by omega) (by omega)
theorem and_nat {a b : Nat} (ha : a < 2 ^ 62) (hb : b < 2 ^ 62) : IntKind.wrap .i64 ((BitVec.toNat (BitVec.ofInt (IntKind.bits .i64) (a : Int) &&& BitVec.ofInt (IntKind.bits .i64) (b : Int)) : Nat) : Int) = ((a &&& b : Nat) : Int) := by
  have h : a &&& b < 2 ^ 62 := Nat.and_lt_two_pow a hb
  have key : (BitVec.ofInt 64 (a : Int) &&& BitVec.ofInt 64 (b : Int)).toNat = a &&& b := by
    rw [BitVec.ofInt_natCast, BitVec.ofInt_natCast, BitVec.toNat_and, BitVec.toNat_ofNat, BitVec.toNat_ofNat, Nat.mod_eq_of_lt (by omega), Nat.mod_eq_of_lt (by omega)]
  show IntKind.wrap .i64 (((BitVec.ofInt 64 (a : Int) &&& BitVec.ofInt 64 (b : Int)).toNat : Nat) : Int) = _
  rw [key]
  exact wr (by omega) (by omega)
theorem and_m1 {b : Nat} (hb : b < 2 ^ 62) : IntKind.wrap .i64 ((BitVec.toNat (BitVec.ofInt (IntKind.bits .i64) (-1) &&& BitVec.ofInt (IntKind.bits .i64) (b : Int)) : Nat) : Int) = (b : Int) := by
  have key : (BitVec.ofInt 64 (-1) &&& BitVec.ofInt 64 (b : Int)).toNat = b := by
    have e : BitVec.ofInt 64 (-1) = BitVec.allOnes 64 := by decide
    rw [e, BitVec.allOnes_and, BitVec.ofInt_natCast, BitVec.toNat_ofNat, Nat.mod_eq_of_lt (by omega)]
  show IntKind.wrap .i64 (((BitVec.ofInt 64 (-1) &&& BitVec.ofInt 64 (b : Int)).toNat : Nat) : Int) = _
  rw [key]
  exact wr (by omega) (by omega)
theorem min_bits {k : Nat} (h : k < 62) : min k (IntKind.bits .i64) = k := Nat.min_eq_left (show k ≤ 64 by omega)
theorem shl_nat {k : Nat} (h : k < 62) : IntKind.wrap .i64 (1 * 2 ^ (min k (IntKind.bits .i64))) = ((2 ^ k : Nat) : Int) := by
  have hp : (2 : Nat) ^ k < 2 ^ 62 := Nat.pow_lt_pow_right (by decide) h
  have e2 : (1 * 2 ^ k : Int) = ((2 ^ k : Nat) : Int) := by rw [Int.one_mul]; simp
  rw [min_bits h, e2]
  generalize 2 ^ k = q at hp ⊢
  exact wr (by omega) (by omega)
theorem shr_nat {a k : Nat} (h : k < 62) : Int.fdiv (a : Int) (2 ^ (min k (IntKind.bits .i64))) = ((a / 2 ^ k : Nat) : Int) := by
  have e2 : (2 ^ k : Int) = ((2 ^ k : Nat) : Int) := by simp
  rw [min_bits h, e2]
  generalize 2 ^ k = q
  rw [Int.fdiv_eq_ediv_of_nonneg _ (by omega)]
  simp
theorem free_bit {b i : Nat} {m : Int} (hb : b < 2 ^ 62) (hi : i < 62) : G89 b i m = some (bif b.testBit i then m else 0) := by
  unfold G89
  have h0 : (!decide ((i : Int) < 0)) = true := by simp
  rw [h0, cond_true]
  have e : (Int.toNat (i : Int)) = i := by simp
  rw [e, shr_nat hi]
  have hq : b / 2 ^ i < 2 ^ 62 := Nat.lt_of_le_of_lt (Nat.div_le_self _ _) hb
  have e1 : BitVec.ofInt (IntKind.bits .i64) 1 = BitVec.ofInt (IntKind.bits .i64) ((1 : Nat) : Int) := rfl
  rw [e1, and_nat hq (by decide)]
  have hm : b / 2 ^ i &&& 1 = (b / 2 ^ i) % 2 := Nat.and_one_is_mod _
  rw [hm]
  cases ht : b.testBit i with
  | true =>
    have : b / 2 ^ i % 2 = 1 := by
      rw [Nat.testBit_eq_decide_div_mod_eq] at ht
      simpa using ht
    rw [this]; rfl
  | false =>
    have : b / 2 ^ i % 2 = 0 := by
      rw [Nat.testBit_eq_decide_div_mod_eq] at ht
      have : ¬ (b / 2 ^ i % 2 = 1) := by simpa using ht
      omega
    rw [this]; rfl
theorem in_tells (x a b : Int) : G68 x a b = some (decide (a ≤ x ∧ x ≤ b)) := by
  unfold G68
  by_cases h : a ≤ x
  · simp [h]
  · simp [h]
theorem rin_tells (x a b : Int) : G60 x a b = some (decide (a ≤ x ∧ x ≤ b)) := by
  unfold G60
  by_cases h : a ≤ x
  · simp [h]
  · simp [h]
structure StrOk (s : E23) : Prop where
  err : 0 ≤ s.1 ∧ s.1 ≤ 100
  drift : 0 ≤ s.2.1 ∧ s.2.1 ≤ 20
  warm : 0 ≤ s.2.2.1 ∧ s.2.2.1 ≤ 20
  depths : 1 ≤ s.2.2.2.1 ∧ s.2.2.2.1 ≤ 4
  len : 1 ≤ (s.2.2.2.2.1).length ∧ (s.2.2.2.2.1).length ≤ 6
  at_ : ∀ d ∈ s.2.2.2.2.1, 0 ≤ d ∧ d < s.2.2.2.1
def RdOk (s : E23) (r : E72) : Prop := 0 ≤ r.1 ∧ r.1 < ((s.2.2.2.2.1).length : Int) ∧ 0 ≤ r.2.1 ∧ r.2.1 ≤ 200 ∧ 0 ≤ r.2.2.1 ∧ r.2.2.1 ≤ 6400
def RdsOk (s : E23) (l : List E72) : Prop := ∀ r ∈ l, RdOk s r
end Go.Proofs.YtibmgbalfhfcdaaDoor.Abs
set_option linter.unusedVariables false
set_option linter.unusedSimpArgs false
set_option maxRecDepth 100000
namespace Go.Proofs.YtibmgbalfhfcdaaDoor.Abs
theorem notin_eq (n : Int) (s : E23) (h : 1 ≤ s.2.2.2.1 ∧ s.2.2.2.1 ≤ 4) : G98 n s = some (!decide (0 ≤ n ∧ n < s.2.2.2.1), (s, ())) := by
  unfold G98
  rw [wr (by omega) (by omega), in_tells]
  have : decide (0 ≤ n ∧ n ≤ s.2.2.2.1 - 1) = decide (0 ≤ n ∧ n < s.2.2.2.1) := by congr 1; apply propext; constructor <;> intro h' <;> exact ⟨h'.1, by omega⟩
  rw [this]; rfl
theorem any_of_getD {α : Type} {p : α → Bool} {l : List α} {d : α} {j : Nat} (hj : j < l.length) (h : p (l.getD j d) = true) : l.any p = true :=
  List.any_eq_true.2 ⟨_, getD_mem hj, h⟩
theorem any_not_getD {α : Type} {p : α → Bool} {l : List α} {d : α} (h : ∀ j, j < l.length → p (l.getD j d) = false) : l.any p = false := by
  rw [List.any_eq_false]
  intro x hx
  have := (forall_getD (l := l) d (p := fun x => p x = false)).1 h x hx
  simp [this]
theorem cf78 (a : List Int) (s : E23) (h : 1 ≤ s.2.2.2.1 ∧ s.2.2.2.1 ≤ 4) (hl : a.length < 2 ^ 62) : G78 a s = some (a.any (fun n => !decide (0 ≤ n ∧ n < s.2.2.2.1)), (s, ())) := by
  unfold G78 G95 G95_l0_run
  have key := iter_fn (step := G95_l0_step) (n := a.length) (k1 := 0) (k2 := 1) (fuel := G95_l0_fuel ((a, (0, ((List.length a : Int), (0, ())))), (s, ()))) (bad := fun i => !decide (0 ≤ a.getD i 0 ∧ a.getD i 0 < s.2.2.2.1))
    (fun i => ((a, (0, ((List.length a : Int), ((i : Int), ())))), (s, ()))) (fun i => ((a, ((i : Int), ((List.length a : Int), ((i : Int), ())))), (s, ()))) ((a, (0, ((List.length a : Int), ((a.length : Int), ())))), (s, ())) (fun i hi => by
      unfold G95_l0_step
      simp only [lt_int hi, inside_lt hi, cond_true, getD_toNat, notin_eq _ s h, Option.bind_some, wr1 (i := i) (by omega)]
      cases decide (0 ≤ a.getD i 0 ∧ a.getD i 0 < s.2.2.2.1) <;> rfl) (by
      unfold G95_l0_step
      simp only [nlt_int, cond_false]) (by unfold G95_l0_fuel; simp)
  rcases key with ⟨j, hj, hb, _, he⟩ | ⟨hall, he⟩
  · have he' : iter G95_l0_step (G95_l0_fuel ((a, (0, ((List.length a : Int), (0, ())))), (s, ()))) ((a, (0, ((List.length a : Int), (0, ())))), (s, ())) = _ := he
    rw [he', any_of_getD (p := fun n => !decide (0 ≤ n ∧ n < s.2.2.2.1)) hj hb]
    simp only [Option.bind_some, natK]
    simp
  · have he' : iter G95_l0_step (G95_l0_fuel ((a, (0, ((List.length a : Int), (0, ())))), (s, ()))) ((a, (0, ((List.length a : Int), (0, ())))), (s, ())) = _ := he
    rw [he', any_not_getD (p := fun n => !decide (0 ≤ n ∧ n < s.2.2.2.1)) hall]
    rfl
theorem valid_tells (s : E23) : Tells (G83 s) (StrOk s) := by
  have h : Tells (G83 s) ((0 ≤ s.1 ∧ s.1 ≤ 100) ∧ (0 ≤ s.2.1 ∧ s.2.1 ≤ 20) ∧ (0 ≤ s.2.2.1 ∧ s.2.2.1 ≤ 20) ∧ (1 ≤ s.2.2.2.1 ∧ s.2.2.2.1 ≤ 4) ∧ (1 ≤ ((s.2.2.2.2.1).length : Int) ∧ ((s.2.2.2.2.1).length : Int) ≤ 6) ∧ ∀ d ∈ s.2.2.2.2.1, 0 ≤ d ∧ d < s.2.2.2.1) := by
    unfold G83
    simp only [in_tells]
    refine tells_and tells_dec fun _ => tells_and tells_dec fun _ => tells_and tells_dec fun _ => tells_and tells_dec fun hd => tells_and tells_dec fun hl => ?_
    rw [cf78 _ _ hd (by have := hl.2; omega)]
    refine ⟨_, rfl, ?_⟩
    simp [List.any_eq_true]
  refine h.iff ⟨fun h => ⟨h.1, h.2.1, h.2.2.1, h.2.2.2.1, ?_, h.2.2.2.2.2⟩, fun h => ⟨h.err, h.drift, h.warm, h.depths, ?_, h.at_⟩⟩
  · have := h.2.2.2.2.1; omega
  · have := h.len; omega
instance (s : E23) (r : E72) : Decidable (RdOk s r) := by unfold RdOk; infer_instance
theorem rd_eq (r : E72) (s : E23) (hs : StrOk s) : G87 r s = some (!decide (RdOk s r), (s, ())) := by
  unfold G87
  have := hs.len
  rw [wr (by omega) (by omega)]
  simp only [in_tells, Option.bind_some]
  have e : decide (RdOk s r) = (decide (0 ≤ r.1 ∧ r.1 ≤ ((s.2.2.2.2.1).length : Int) - 1) && (decide (0 ≤ r.2.1 ∧ r.2.1 ≤ 200) && decide (0 ≤ r.2.2.1 ∧ r.2.2.1 ≤ 6400))) := by
    rw [← Bool.decide_and, ← Bool.decide_and]
    refine decide_eq_decide.2 ⟨fun h => ⟨⟨h.1, by have := h.2.1; omega⟩, ⟨h.2.2.1, h.2.2.2.1⟩, h.2.2.2.2⟩, fun h => ⟨h.1.1, by have := h.1.2; omega, h.2.1.1, h.2.1.2, h.2.2⟩⟩
  rw [e]
  generalize decide (0 ≤ r.1 ∧ r.1 ≤ ((s.2.2.2.2.1).length : Int) - 1) = a
  generalize decide (0 ≤ r.2.1 ∧ r.2.1 ≤ 200) = b
  generalize decide (0 ≤ r.2.2.1 ∧ r.2.2.1 ≤ 6400) = c
  cases a <;> cases b <;> cases c <;> rfl
theorem cf81 (a : List E72) (s : E23) (hs : StrOk s) (hl : a.length < 2 ^ 62) : G81 a s = some (a.any (fun r => !decide (RdOk s r)), (s, ())) := by
  unfold G81 G97 G97_l0_run
  have key := iter_fn (step := G97_l0_step) (n := a.length) (k1 := 0) (k2 := 1) (fuel := G97_l0_fuel ((a, (0, ((List.length a : Int), (0, ())))), (s, ()))) (bad := fun i => !decide (RdOk s (a.getD i (0, (0, (0, ()))))))
    (fun i => ((a, (0, ((List.length a : Int), ((i : Int), ())))), (s, ()))) (fun i => ((a, ((i : Int), ((List.length a : Int), ((i : Int), ())))), (s, ()))) ((a, (0, ((List.length a : Int), ((a.length : Int), ())))), (s, ())) (fun i hi => by
      unfold G97_l0_step
      simp only [lt_int hi, inside_lt hi, cond_true, getD_toNat, rd_eq _ s hs, Option.bind_some, wr1 (i := i) (by omega)]
      cases decide (RdOk s (a.getD i (0, (0, (0, ()))))) <;> rfl) (by
      unfold G97_l0_step
      simp only [nlt_int, cond_false]) (by unfold G97_l0_fuel; simp)
  rcases key with ⟨j, hj, hb, _, he⟩ | ⟨hall, he⟩
  · have he' : iter G97_l0_step (G97_l0_fuel ((a, (0, ((List.length a : Int), (0, ())))), (s, ()))) ((a, (0, ((List.length a : Int), (0, ())))), (s, ())) = _ := he
    rw [he', any_of_getD (p := fun r => !decide (RdOk s r)) hj hb]
    simp only [Option.bind_some, natK]
    simp
  · have he' : iter G97_l0_step (G97_l0_fuel ((a, (0, ((List.length a : Int), (0, ())))), (s, ()))) ((a, (0, ((List.length a : Int), (0, ())))), (s, ())) = _ := he
    rw [he', any_not_getD (p := fun r => !decide (RdOk s r)) hall]
    rfl
end Go.Proofs.YtibmgbalfhfcdaaDoor.Abs
set_option linter.unusedVariables false
set_option linter.unusedSimpArgs false
set_option maxRecDepth 100000
namespace Go.Proofs.YtibmgbalfhfcdaaDoor.Abs
theorem lim_ok {n m : Nat} (h : n ≤ 100000) (h' : m ≤ 100000) : decide (n + m ≤ LIM) = true := decide_eq_true (Nat.le_trans (Nat.add_le_add h h') (by decide))
theorem mulb {m w : Int} (h1 : -60 ≤ m) (h2 : m ≤ 60) (h3 : 0 ≤ w) (h4 : w ≤ 200) : -12000 ≤ m * w ∧ m * w ≤ 12000 := by
  have a := Int.mul_le_mul_of_nonneg_right h1 h3
  have b := Int.mul_le_mul_of_nonneg_right h2 h3
  omega
def agr1 (s : E23) (r : E72) (T m : Int) : Bool := decide (r.2.2.1 - m * r.2.1 - s.1 ≤ T) && decide (T ≤ r.2.2.1 - m * r.2.1 + s.1)
def agr (s : E23) (l : List E72) (i T m : Int) : Bool := l.all fun r => !(r.1 == i) || agr1 s r T m
def spanOf (s : E23) (m : Int) (r : E72) : E56 := (r.2.2.1 - m * r.2.1 - s.1, (r.2.2.1 - m * r.2.1 + s.1, ()))
def spansOf (s : E23) (l : List E72) (i m : Int) : List E56 := (l.filter fun r => r.1 == i).map (spanOf s m)
theorem spans_take {s : E23} {l : List E72} {i m : Int} {k : Nat} (hk : k < l.length) (d : E72) : spansOf s (l.take (k + 1)) i m = spansOf s (l.take k) i m ++ (bif (l.getD k d).1 == i then [spanOf s m (l.getD k d)] else []) := by
  have : l.take (k + 1) = l.take k ++ [l.getD k d] := by
    rw [List.take_add_one, List.getElem?_eq_getElem hk, List.getD_eq_getElem?_getD, List.getElem?_eq_getElem hk]; rfl
  unfold spansOf
  rw [this, List.filter_append, List.map_append]
  congr 1
  generalize l.getD k d = r
  cases h : r.1 == i with
  | true => simp [List.filter, h]
  | false => simp [List.filter, h]
theorem spans_len (s : E23) (l : List E72) (i m : Int) : (spansOf s l i m).length ≤ l.length := by
  unfold spansOf
  rw [List.length_map]
  exact List.length_filter_le _ _
def metL : List E56 → E56 → E56
  | [], q => q
  | x :: xs, q => metL xs ((if x.1 > q.1 then x.1 else q.1), ((if x.2.1 < q.2.1 then x.2.1 else q.2.1), ()))
theorem metL_spec : ∀ (xs : List E56) (q : E56), q.1 ≤ (metL xs q).1 ∧ (metL xs q).2.1 ≤ q.2.1 ∧ ∀ T, ((metL xs q).1 ≤ T ∧ T ≤ (metL xs q).2.1) ↔ ((q.1 ≤ T ∧ T ≤ q.2.1) ∧ ∀ x ∈ xs, x.1 ≤ T ∧ T ≤ x.2.1)
  | [], q => ⟨Int.le_refl _, Int.le_refl _, fun T => by simp [metL]⟩
  | x :: xs, q => by
    obtain ⟨h1, h2, h3⟩ := metL_spec xs ((if x.1 > q.1 then x.1 else q.1), ((if x.2.1 < q.2.1 then x.2.1 else q.2.1), ()))
    simp only at h1 h2 h3
    refine ⟨?_, ?_, fun T => ?_⟩
    · simp only [metL]; refine Int.le_trans ?_ h1; split <;> omega
    · simp only [metL]; refine Int.le_trans h2 ?_; split <;> omega
    · simp only [metL]
      rw [h3 T]
      simp only [List.mem_cons, forall_eq_or_imp]
      constructor
      · rintro ⟨h, h'⟩
        refine ⟨?_, ?_, h'⟩ <;> split at h <;> split at h <;> omega
      · rintro ⟨h, h', h''⟩
        refine ⟨?_, h''⟩
        split <;> split <;> omega
theorem met_eq (xs : List E56) (hl : xs.length ≤ 1000) : G107 xs = some (metL xs (2000, (3200, ()))) := by
  unfold G107 G107_l0_run
  have gen : ∀ (m k fuel : Nat) (q : E56), k + m = xs.length → m < fuel → iter G107_l0_step fuel ((xs, ((xs.length : Int), ((k : Int), ()))), ((0, (0, ())), (q, ()))) = some (0, ((xs, ((xs.length : Int), ((xs.length : Int), ()))), ((0, (0, ())), (metL (xs.drop k) q, ())))) := by
    intro m
    induction m with
    | zero =>
      intro k fuel q hk hf
      cases fuel with
      | zero => omega
      | succ fuel =>
        have hk' : k = xs.length := by omega
        subst hk'
        have : G107_l0_step ((xs, ((xs.length : Int), ((xs.length : Int), ()))), ((0, (0, ())), (q, ()))) = some (1, ((xs, ((xs.length : Int), ((xs.length : Int), ()))), ((0, (0, ())), (q, ())))) := by
          unfold G107_l0_step
          simp only [nlt_int, cond_false]
        rw [iter_out this]
        simp [metL]
    | succ m ih =>
      intro k fuel q hk hf
      cases fuel with
      | zero => omega
      | succ fuel =>
        have hlt : k < xs.length := by omega
        have : G107_l0_step ((xs, ((xs.length : Int), ((k : Int), ()))), ((0, (0, ())), (q, ()))) = some (0, ((xs, ((xs.length : Int), (((k + 1 : Nat) : Int), ()))), ((0, (0, ())), (((if (xs.getD k (0, (0, ()))).1 > q.1 then (xs.getD k (0, (0, ()))).1 else q.1), ((if (xs.getD k (0, (0, ()))).2.1 < q.2.1 then (xs.getD k (0, (0, ()))).2.1 else q.2.1), ())), ())))) := by
          unfold G107_l0_step
          simp only [lt_int hlt, ge0, Bool.and_self, cond_true, getD_toNat, wr1 (i := k) (by omega)]
        rw [iter_one this, ih (k + 1) fuel _ (by omega) (by omega)]
        have hd : xs.drop k = xs.getD k (0, (0, ())) :: xs.drop (k + 1) := by
          rw [List.drop_eq_getElem_cons hlt, List.getD_eq_getElem?_getD, List.getElem?_eq_getElem hlt]; rfl
        rw [hd]; rfl
  have := gen xs.length 0 (G107_l0_fuel ((xs, ((xs.length : Int), (0, ()))), ((0, (0, ())), ((2000, (3200, ())), ())))) (2000, (3200, ())) (by omega) (by unfold G107_l0_fuel; simp)
  have e : iter G107_l0_step (G107_l0_fuel ((xs, ((xs.length : Int), (0, ()))), ((0, (0, ())), ((2000, (3200, ())), ())))) ((xs, ((xs.length : Int), (0, ()))), ((0, (0, ())), ((2000, (3200, ())), ()))) = _ := this
  rw [e]
  rfl
abbrev XX (s : E23) (l : List E72) : E123 := (s, (l, ((), ())))
def showL (s : E23) (l : List E72) (i m : Int) : E56 := metL (spansOf s l i m) (2000, (3200, ()))
theorem shows_eq {s : E23} {l : List E72} (hs : StrOk s) (hl : RdsOk s l) (hn : l.length ≤ 1000) (i : Nat) {m : Int} (h1 : -60 ≤ m) (h2 : m ≤ 60) : G91 (XX s l) i m = some (showL s l i m) := by
  unfold G91 G91_l0_run
  have key := iter_run (step := G91_l0_step) (n := l.length) (k := 0) (fuel := G91_l0_fuel ((XX s l, ((i : Int), (m, ([], (l, ((l.length : Int), (0, ()))))))), ((0, (0, ())), ())))
    (fun k => ((XX s l, ((i : Int), (m, (spansOf s (l.take k) i m, (l, ((l.length : Int), ((k : Int), ()))))))), ((0, (0, ())), ()))) ((XX s l, ((i : Int), (m, (spansOf s l i m, (l, ((l.length : Int), ((l.length : Int), ()))))))), ((0, (0, ())), ())) (fun k hk => by
      have hr := hl _ (getD_mem hk (d := (0, (0, (0, ())))))
      have he := hs.err
      have hb := mulb h1 h2 hr.2.2.1 hr.2.2.2.1
      have hlen := spans_len s (l.take k) i m
      have htl : (l.take k).length ≤ 1000 := by rw [List.length_take]; omega
      unfold G91_l0_step
      simp only [lt_int hk, ge0, Bool.and_self, cond_true, getD_toNat, wr1 (i := k) (by omega)]
      rw [spans_take hk (0, (0, (0, ())))]
      generalize hrd : l.getD k (0, (0, (0, ()))) = r at hr hb ⊢
      cases hq : r.1 == (i : Int) with
      | false => simp only [cond_false, List.append_nil]
      | true =>
        simp only [cond_true]
        have a1 := hr.2.2.2.2.1
        have a2 := hr.2.2.2.2.2
        rw [wr (n := m * r.2.1) (by omega) (by omega), wr (n := r.2.2.1 - m * r.2.1) (by omega) (by omega), wr (n := r.2.2.1 - m * r.2.1 - s.1) (by omega) (by omega), wr (n := r.2.2.1 - m * r.2.1 + s.1) (by omega) (by omega)]
        rw [lim_ok (by omega) (by simp)]
        rfl) (by
      unfold G91_l0_step
      simp only [nlt_int, cond_false, List.take_length]) (by unfold G91_l0_fuel; simp)
  have e : iter G91_l0_step (G91_l0_fuel ((XX s l, ((i : Int), (m, ([], (l, ((l.length : Int), (0, ()))))))), ((0, (0, ())), ()))) ((XX s l, ((i : Int), (m, ([], (l, ((l.length : Int), (0, ()))))))), ((0, (0, ())), ())) = _ := key
  rw [e]
  simp only [Option.bind_some]
  rw [met_eq _ (Nat.le_trans (spans_len s l i m) hn)]
  rfl
theorem showL_spec (s : E23) (l : List E72) (i m : Int) : 2000 ≤ (showL s l i m).1 ∧ (showL s l i m).2.1 ≤ 3200 ∧ ∀ T, ((showL s l i m).1 ≤ T ∧ T ≤ (showL s l i m).2.1) ↔ ((2000 ≤ T ∧ T ≤ 3200) ∧ agr s l i T m = true) := by
  obtain ⟨h1, h2, h3⟩ := metL_spec (spansOf s l i m) (2000, (3200, ()))
  refine ⟨h1, h2, fun T => (h3 T).trans ?_⟩
  refine and_congr_right fun _ => ?_
  unfold spansOf agr
  simp only [List.mem_map, List.mem_filter, forall_exists_index, and_imp, List.all_eq_true, Bool.or_eq_true, Bool.not_eq_true']
  constructor
  · intro h r hr
    cases hq : r.1 == i with
    | false => exact .inl rfl
    | true =>
      have := h _ r hr hq rfl
      right
      unfold agr1
      simp only [Bool.and_eq_true, decide_eq_true_eq]
      exact this
  · intro h x r hr hq hx
    subst hx
    rcases h r hr with h | h
    · rw [h] at hq; cases hq
    · unfold agr1 at h
      have h2 : r.2.2.1 - m * r.2.1 - s.1 ≤ T ∧ T ≤ r.2.2.1 - m * r.2.1 + s.1 := by simpa only [Bool.and_eq_true, decide_eq_true_eq] using h
      exact h2
end Go.Proofs.YtibmgbalfhfcdaaDoor.Abs
set_option linter.unusedVariables false
set_option linter.unusedSimpArgs false
set_option maxRecDepth 100000
namespace Go.Proofs.YtibmgbalfhfcdaaDoor.Abs
open Classical
def moS (s : E23) (b i : Nat) : Int := bif b.testBit i then s.2.1 else 0
def moD (s : E23) (b d : Nat) : Int := bif b.testBit ((s.2.2.2.2.1).length + d) then s.2.2.1 else 0
theorem moS_bd {s : E23} (hs : StrOk s) (b i : Nat) : 0 ≤ moS s b i ∧ moS s b i ≤ 20 := by
  unfold moS
  have := hs.drift
  cases b.testBit i <;> simp <;> omega
theorem moD_bd {s : E23} (hs : StrOk s) (b d : Nat) : 0 ≤ moD s b d ∧ moD s b d ≤ 20 := by
  unfold moD
  have := hs.warm
  cases b.testBit ((s.2.2.2.2.1).length + d) <;> simp <;> omega
def Dr (s : E23) (l : List E72) (i : Int) (mo T m : Int) : Prop := ∃ q, -mo ≤ q ∧ q ≤ mo ∧ agr s l i T (m + q) = true
theorem drift_eq {s : E23} {l : List E72} (hs : StrOk s) (hl : RdsOk s l) (hn : l.length ≤ 1000) {i b : Nat} (hi : i < 62) (hb : b < 2 ^ 62) {T m : Int} (hT : 2000 ≤ T ∧ T ≤ 3200) (hm : -40 ≤ m ∧ m ≤ 40) :
    (∃ q, -(moS s b i) ≤ q ∧ q ≤ moS s b i ∧ agr s l i T (m + q) = true ∧ (∀ q', -(moS s b i) ≤ q' → q' < q → agr s l i T (m + q') = false) ∧ G55 (XX s l) i b T m = some (q, (true, ()))) ∨
      ((∀ q, -(moS s b i) ≤ q → q ≤ moS s b i → agr s l i T (m + q) = false) ∧ G55 (XX s l) i b T m = some (0, (false, ()))) := by
  have hmo := moS_bd hs b i
  unfold G55
  have hfree : G89 (b : Int) (i : Int) (XX s l).1.2.1 = some (moS s b i) := free_bit hb hi
  rw [hfree]
  simp only [Option.bind_some]
  generalize moS s b i = mo at hmo ⊢
  rw [wr (n := 0 - mo) (by omega) (by omega)]
  unfold G55_l0_run
  have key := iter_fn (step := G55_l0_step) (n := (2 * mo + 1).toNat) (k1 := 0) (k2 := 1) (fuel := G55_l0_fuel ((XX s l, ((i : Int), (T, (m, (0, (false, (mo, (0 - mo, ())))))))), ()))
    (bad := fun k => agr s l i T (m + ((k : Int) - mo)))
    (fun k => ((XX s l, ((i : Int), (T, (m, (0, (false, (mo, ((k : Int) - mo, ())))))))), ()))
    (fun k => ((XX s l, ((i : Int), (T, (m, ((k : Int) - mo, (true, (mo, ((k : Int) - mo, ())))))))), ()))
    ((XX s l, ((i : Int), (T, (m, (0, (false, (mo, ((((2 * mo + 1).toNat : Nat) : Int) - mo, ())))))))), ()) (fun k hk => by
      have hk' : (k : Int) ≤ 2 * mo := by omega
      have hle : decide ((k : Int) - mo ≤ mo) = true := decide_eq_true (by omega)
      obtain ⟨s1, s2, s3⟩ := showL_spec s l i (m + ((k : Int) - mo))
      unfold G55_l0_step
      simp only [hle, cond_true]
      rw [wr (n := m + ((k : Int) - mo)) (by omega) (by omega), shows_eq hs hl hn i (by omega) (by omega)]
      simp only [Option.bind_some, in_tells]
      rw [wr (n := (k : Int) - mo + 1) (by omega) (by omega)]
      have h3 := s3 T
      cases ha : agr s l i T (m + ((k : Int) - mo)) with
      | true =>
        have : decide ((showL s l i (m + ((k : Int) - mo))).1 ≤ T ∧ T ≤ (showL s l i (m + ((k : Int) - mo))).2.1) = true := decide_eq_true (h3.2 ⟨hT, ha⟩)
        rw [this]; rfl
      | false =>
        have : decide ((showL s l i (m + ((k : Int) - mo))).1 ≤ T ∧ T ≤ (showL s l i (m + ((k : Int) - mo))).2.1) = false := decide_eq_false fun h => by
          have := (h3.1 h).2
          rw [ha] at this; cases this
        rw [this]
        have e : (k : Int) - mo + 1 = ((k + 1 : Nat) : Int) - mo := by omega
        rw [e]; rfl) (by
      have hle : decide ((((2 * mo + 1).toNat : Nat) : Int) - mo ≤ mo) = false := decide_eq_false (by omega)
      unfold G55_l0_step
      simp only [hle, cond_false]) (by unfold G55_l0_fuel; omega)
  have e0 : (((0 : Nat) : Int) - mo) = 0 - mo := rfl
  rcases key with ⟨k, hk, hb, hbelow, he⟩ | ⟨hall, he⟩
  · left
    rw [show iter G55_l0_step (G55_l0_fuel ((XX s l, ((i : Int), (T, (m, (0, (false, (mo, (0 - mo, ())))))))), ())) ((XX s l, ((i : Int), (T, (m, (0, (false, (mo, (0 - mo, ())))))))), ()) = _ from he]
    refine ⟨(k : Int) - mo, by omega, by omega, hb, fun q' h1 h2 => ?_, rfl⟩
    have := hbelow (q' + mo).toNat (by omega)
    have e : (((q' + mo).toNat : Nat) : Int) - mo = q' := by omega
    rw [e] at this
    exact this
  · right
    rw [show iter G55_l0_step (G55_l0_fuel ((XX s l, ((i : Int), (T, (m, (0, (false, (mo, (0 - mo, ())))))))), ())) ((XX s l, ((i : Int), (T, (m, (0, (false, (mo, (0 - mo, ())))))))), ()) = _ from he]
    refine ⟨fun q h1 h2 => ?_, rfl⟩
    have := hall (q + mo).toNat (by omega)
    have e : (((q + mo).toNat : Nat) : Int) - mo = q := by omega
    rw [e] at this
    exact this
def Can (s : E23) (l : List E72) (b : Nat) (d : Int) (T m : Int) : Prop := ∀ i, i < (s.2.2.2.2.1).length → (s.2.2.2.2.1).getD i 0 = d → Dr s l i (moS s b i) T m
theorem can_tells {s : E23} {l : List E72} (hs : StrOk s) (hl : RdsOk s l) (hn : l.length ≤ 1000) {b : Nat} (hb : b < 2 ^ 62) (d : Int) {T m : Int} (hT : 2000 ≤ T ∧ T ≤ 3200) (hm : -40 ≤ m ∧ m ≤ 40) :
    Tells (G103 (XX s l) d b T m) (Can s l b d T m) := by
  have hlen := hs.len
  unfold G103 G103_l0_run
  have key := iter_fn (step := G103_l0_step) (n := (s.2.2.2.2.1).length) (k1 := 0) (k2 := 1) (fuel := G103_l0_fuel ((XX s l, (d, ((b : Int), (T, (m, (false, ((s.2.2.2.2.1), (((s.2.2.2.2.1).length : Int), (0, ()))))))))), ()))
    (bad := fun k => decide ((s.2.2.2.2.1).getD k 0 = d ∧ ¬ Dr s l k (moS s b k) T m))
    (fun k => ((XX s l, (d, ((b : Int), (T, (m, (false, ((s.2.2.2.2.1), (((s.2.2.2.2.1).length : Int), ((k : Int), ()))))))))), ()))
    (fun k => ((XX s l, (d, ((b : Int), (T, (m, (false, ((s.2.2.2.2.1), (((s.2.2.2.2.1).length : Int), ((k : Int), ()))))))))), ()))
    ((XX s l, (d, ((b : Int), (T, (m, (false, ((s.2.2.2.2.1), (((s.2.2.2.2.1).length : Int), (((s.2.2.2.2.1).length : Int), ()))))))))), ()) (fun k hk => by
      unfold G103_l0_step
      simp only [lt_int hk, ge0, Bool.and_self, cond_true, getD_toNat, wr1 (i := k) (by omega)]
      by_cases hd : (s.2.2.2.2.1).getD k 0 = d
      · have h1 : ((s.2.2.2.2.1).getD k 0 != d) = false := by rw [hd]; simp
        rw [h1, cond_false]
        rcases drift_eq hs hl hn (i := k) (by omega) hb hT hm with ⟨q, a1, a2, a3, a4, a5⟩ | ⟨a1, a2⟩
        · rw [a5]
          have : decide ((s.2.2.2.2.1).getD k 0 = d ∧ ¬ Dr s l k (moS s b k) T m) = false := decide_eq_false fun h => h.2 ⟨q, a1, a2, a3⟩
          rw [this]; rfl
        · rw [a2]
          have : decide ((s.2.2.2.2.1).getD k 0 = d ∧ ¬ Dr s l k (moS s b k) T m) = true := decide_eq_true ⟨hd, fun ⟨q, b1, b2, b3⟩ => by rw [a1 q b1 b2] at b3; cases b3⟩
          rw [this]; rfl
      · have h1 : ((s.2.2.2.2.1).getD k 0 != d) = true := bne_iff_ne.2 hd
        rw [h1, cond_true]
        have : decide ((s.2.2.2.2.1).getD k 0 = d ∧ ¬ Dr s l k (moS s b k) T m) = false := decide_eq_false fun h => hd h.1
        rw [this]; rfl) (by
      unfold G103_l0_step
      simp only [nlt_int, cond_false]) (by unfold G103_l0_fuel; simp)
  rcases key with ⟨k, hk, hb, hbelow, he⟩ | ⟨hall, he⟩
  · rw [show iter G103_l0_step (G103_l0_fuel ((XX s l, (d, ((b : Int), (T, (m, (false, ((s.2.2.2.2.1), (((s.2.2.2.2.1).length : Int), (0, ()))))))))), ())) ((XX s l, (d, ((b : Int), (T, (m, (false, ((s.2.2.2.2.1), (((s.2.2.2.2.1).length : Int), (0, ()))))))))), ()) = _ from he]
    have := of_decide_eq_true hb
    exact tells_f fun hc => this.2 (hc k hk this.1)
  · rw [show iter G103_l0_step (G103_l0_fuel ((XX s l, (d, ((b : Int), (T, (m, (false, ((s.2.2.2.2.1), (((s.2.2.2.2.1).length : Int), (0, ()))))))))), ())) ((XX s l, (d, ((b : Int), (T, (m, (false, ((s.2.2.2.2.1), (((s.2.2.2.2.1).length : Int), (0, ()))))))))), ()) = _ from he]
    refine tells_t fun k hk hd => ?_
    have := of_decide_eq_false (hall k hk)
    exact Classical.byContradiction fun hn => this ⟨hd, hn⟩
end Go.Proofs.YtibmgbalfhfcdaaDoor.Abs
set_option linter.unusedVariables false
set_option linter.unusedSimpArgs false
set_option maxRecDepth 100000
namespace Go.Proofs.YtibmgbalfhfcdaaDoor.Abs
open Classical
def HC (s : E23) (l : List E72) (b : Nat) (d m T : Int) : Prop := (2000 ≤ T ∧ T ≤ 3200) ∧ Can s l b d T m
theorem holds_eq {s : E23} {l : List E72} (hs : StrOk s) (hl : RdsOk s l) (hn : l.length ≤ 1000) {b : Nat} (hb : b < 2 ^ 62) (d : Int) {m : Int} (hm : -40 ≤ m ∧ m ≤ 40) (T : Int) :
    G102 T (XX s l) d b m = some (decide (HC s l b d m T), (XX s l, (d, ((b : Int), (m, ()))))) := by
  unfold G102
  rw [in_tells]
  simp only [Option.bind_some]
  by_cases hT : 2000 ≤ T ∧ T ≤ 3200
  · rw [decide_eq_true hT, cond_true]
    obtain ⟨c, h1, h2⟩ := can_tells hs hl hn hb d hT hm
    rw [h1]
    simp only [Option.bind_some]
    have : c = decide (HC s l b d m T) := by
      cases c with
      | true => exact (decide_eq_true ⟨hT, h2.1 rfl⟩).symm
      | false => exact (decide_eq_false fun h => by have := h2.2 h.2; cases this).symm
    rw [this]
  · rw [decide_eq_false hT, cond_false]
    have : decide (HC s l b d m T) = false := decide_eq_false fun h => hT h.1
    rw [this]
def Best (le : Int → Int → Prop) (P : Int → Prop) (xs : List Int) (out : Int) (found : Bool) : Prop :=
  (found = true → P out ∧ out ∈ xs ∧ ∀ x ∈ xs, P x → le out x) ∧ (found = false → out = 0 ∧ ∀ x ∈ xs, ¬ P x)
theorem best_nil (le : Int → Int → Prop) (P : Int → Prop) : Best le P [] 0 false := ⟨fun h => (by cases h), fun _ => ⟨rfl, fun x hx => (by cases hx)⟩⟩
theorem best_take {le : Int → Int → Prop} {P : Int → Prop} {xs : List Int} {k : Nat} (hk : k < xs.length) {out : Int} {found : Bool} : Best le P (xs.take k ++ [xs.getD k 0]) out found → Best le P (xs.take (k + 1)) out found := by
  have : xs.take (k + 1) = xs.take k ++ [xs.getD k 0] := by
    rw [List.take_add_one, List.getElem?_eq_getElem hk, List.getD_eq_getElem?_getD, List.getElem?_eq_getElem hk]; rfl
  rw [this]; exact id
theorem best_new {le : Int → Int → Prop} {P : Int → Prop} {xs : List Int} {x : Int} (hr : ∀ a, le a a) (h : ∀ y ∈ xs, P y → le x y) (hx : P x) : Best le P (xs ++ [x]) x true :=
  ⟨fun _ => ⟨hx, by simp, fun y hy hp => by
    rcases List.mem_append.1 hy with hy | hy
    · exact h y hy hp
    · simp only [List.mem_singleton] at hy; rw [hy]; exact hr x⟩, fun h => by cases h⟩
theorem best_old {le : Int → Int → Prop} {P : Int → Prop} {xs : List Int} {x out : Int} {found : Bool} (h : Best le P xs out found) (hx : P x → found = true ∧ le out x) : Best le P (xs ++ [x]) out found :=
  ⟨fun hf => by
    obtain ⟨h1, h2, h3⟩ := h.1 hf
    refine ⟨h1, by simp [h2], fun y hy hp => ?_⟩
    rcases List.mem_append.1 hy with hy | hy
    · exact h3 y hy hp
    · simp only [List.mem_singleton] at hy; subst hy; exact (hx hp).2, fun hf => by
    obtain ⟨h1, h2⟩ := h.2 hf
    refine ⟨h1, fun y hy hp => ?_⟩
    rcases List.mem_append.1 hy with hy | hy
    · exact h2 y hy hp
    · simp only [List.mem_singleton] at hy; subst hy; rw [(hx hp).1] at hf; cases hf⟩
theorem best_eq {s : E23} {l : List E72} (hs : StrOk s) (hl : RdsOk s l) (hn : l.length ≤ 1000) {b : Nat} (hb : b < 2 ^ 62) (d : Int) {m : Int} (hm : -40 ≤ m ∧ m ≤ 40) (xs : List Int) (hx : xs.length ≤ 1000) :
    ∃ out found, G104 xs (XX s l) d b m = some ((out, (found, ())), (XX s l, (d, ((b : Int), (m, ()))))) ∧ Best (fun a b => a ≤ b) (HC s l b d m) xs out found := by
  unfold G104 G104_l0_run
  obtain ⟨q, h1, out, found, h2, h3⟩ := iter_inv (step := G104_l0_step) (k := 0) (n := xs.length)
    (fun k st => ∃ out found, st = ((out, (found, (xs, ((xs.length : Int), ((k : Int), ()))))), (XX s l, (d, ((b : Int), (m, ()))))) ∧ Best (fun a b => a ≤ b) (HC s l b d m) (xs.take k) out found)
    (fun st => ∃ out found, st = ((out, (found, (xs, ((xs.length : Int), ((xs.length : Int), ()))))), (XX s l, (d, ((b : Int), (m, ()))))) ∧ Best (fun a b => a ≤ b) (HC s l b d m) xs out found)
    (by
      rintro k st ⟨out, found, rfl, hB⟩ hk
      unfold G104_l0_step
      simp only [lt_int hk, ge0, Bool.and_self, cond_true, getD_toNat, wr1 (i := k) (by omega)]
      cases found with
      | false =>
        simp only [Bool.not_false, cond_true]
        rw [holds_eq hs hl hn hb d hm]
        simp only [Option.bind_some]
        by_cases hp : HC s l b d m (xs.getD k 0)
        · rw [decide_eq_true hp, cond_true]
          exact ⟨_, rfl, _, _, rfl, best_take hk (best_new (fun a => Int.le_refl a) (fun y hy hq => absurd hq ((hB.2 rfl).2 y hy)) hp)⟩
        · rw [decide_eq_false hp, cond_false]
          exact ⟨_, rfl, _, _, rfl, best_take hk (best_old hB fun h => absurd h hp)⟩
      | true =>
        simp only [Bool.not_true, cond_false]
        unfold G105
        simp only [Option.bind_some]
        by_cases hlt : xs.getD k 0 < out
        · rw [decide_eq_true hlt, cond_true, holds_eq hs hl hn hb d hm]
          simp only [Option.bind_some]
          by_cases hp : HC s l b d m (xs.getD k 0)
          · rw [decide_eq_true hp, cond_true]
            exact ⟨_, rfl, _, _, rfl, best_take hk (best_new (fun a => Int.le_refl a) (fun y hy hq => by
              have := (hB.1 rfl).2.2 y hy hq
              simp only at this ⊢
              omega) hp)⟩
          · rw [decide_eq_false hp, cond_false]
            exact ⟨_, rfl, _, _, rfl, best_take hk (best_old hB fun h => absurd h hp)⟩
        · rw [decide_eq_false hlt, cond_false]
          exact ⟨_, rfl, _, _, rfl, best_take hk (best_old hB fun _ => ⟨rfl, by show (_ : Int) ≤ _; omega⟩)⟩)
    (by
      rintro st ⟨out, found, rfl, hB⟩
      unfold G104_l0_step
      simp only [nlt_int, cond_false]
      exact ⟨_, rfl, out, found, rfl, by rwa [List.take_length] at hB⟩)
    xs.length 0 (G104_l0_fuel ((0, (false, (xs, ((xs.length : Int), (0, ()))))), (XX s l, (d, ((b : Int), (m, ())))))) ((0, (false, (xs, ((xs.length : Int), (0, ()))))), (XX s l, (d, ((b : Int), (m, ()))))) (by omega) (by unfold G104_l0_fuel; simp) ⟨0, false, rfl, best_nil _ _⟩
  rw [h1]
  subst h2
  exact ⟨out, found, rfl, h3⟩
theorem bestv_eq {s : E23} {l : List E72} (hs : StrOk s) (hl : RdsOk s l) (hn : l.length ≤ 1000) {b : Nat} (hb : b < 2 ^ 62) (d : Int) {m : Int} (hm : -40 ≤ m ∧ m ≤ 40) (xs : List Int) (hx : xs.length ≤ 1000) :
    ∃ out found, G104_v1 xs (XX s l) d b m = some ((out, (found, ())), (XX s l, (d, ((b : Int), (m, ()))))) ∧ Best (fun a b => b ≤ a) (HC s l b d m) xs out found := by
  unfold G104_v1 G104_v1_l0_run
  obtain ⟨q, h1, out, found, h2, h3⟩ := iter_inv (step := G104_v1_l0_step) (k := 0) (n := xs.length)
    (fun k st => ∃ out found, st = ((out, (found, (xs, ((xs.length : Int), ((k : Int), ()))))), (XX s l, (d, ((b : Int), (m, ()))))) ∧ Best (fun a b => b ≤ a) (HC s l b d m) (xs.take k) out found)
    (fun st => ∃ out found, st = ((out, (found, (xs, ((xs.length : Int), ((xs.length : Int), ()))))), (XX s l, (d, ((b : Int), (m, ()))))) ∧ Best (fun a b => b ≤ a) (HC s l b d m) xs out found)
    (by
      rintro k st ⟨out, found, rfl, hB⟩ hk
      unfold G104_v1_l0_step
      simp only [lt_int hk, ge0, Bool.and_self, cond_true, getD_toNat, wr1 (i := k) (by omega)]
      cases found with
      | false =>
        simp only [Bool.not_false, cond_true]
        rw [holds_eq hs hl hn hb d hm]
        simp only [Option.bind_some]
        by_cases hp : HC s l b d m (xs.getD k 0)
        · rw [decide_eq_true hp, cond_true]
          exact ⟨_, rfl, _, _, rfl, best_take hk (best_new (fun a => Int.le_refl a) (fun y hy hq => absurd hq ((hB.2 rfl).2 y hy)) hp)⟩
        · rw [decide_eq_false hp, cond_false]
          exact ⟨_, rfl, _, _, rfl, best_take hk (best_old hB fun h => absurd h hp)⟩
      | true =>
        simp only [Bool.not_true, cond_false]
        unfold G106
        simp only [Option.bind_some]
        by_cases hlt : xs.getD k 0 > out
        · rw [decide_eq_true hlt, cond_true, holds_eq hs hl hn hb d hm]
          simp only [Option.bind_some]
          by_cases hp : HC s l b d m (xs.getD k 0)
          · rw [decide_eq_true hp, cond_true]
            exact ⟨_, rfl, _, _, rfl, best_take hk (best_new (fun a => Int.le_refl a) (fun y hy hq => by
              have := (hB.1 rfl).2.2 y hy hq
              simp only at this ⊢
              omega) hp)⟩
          · rw [decide_eq_false hp, cond_false]
            exact ⟨_, rfl, _, _, rfl, best_take hk (best_old hB fun h => absurd h hp)⟩
        · rw [decide_eq_false hlt, cond_false]
          exact ⟨_, rfl, _, _, rfl, best_take hk (best_old hB fun _ => ⟨rfl, by show (_ : Int) ≤ _; omega⟩)⟩)
    (by
      rintro st ⟨out, found, rfl, hB⟩
      unfold G104_v1_l0_step
      simp only [nlt_int, cond_false]
      exact ⟨_, rfl, out, found, rfl, by rwa [List.take_length] at hB⟩)
    xs.length 0 (G104_v1_l0_fuel ((0, (false, (xs, ((xs.length : Int), (0, ()))))), (XX s l, (d, ((b : Int), (m, ())))))) ((0, (false, (xs, ((xs.length : Int), (0, ()))))), (XX s l, (d, ((b : Int), (m, ()))))) (by omega) (by unfold G104_v1_l0_fuel; simp) ⟨0, false, rfl, best_nil _ _⟩
  rw [h1]
  subst h2
  exact ⟨out, found, rfl, h3⟩
def ends (s : E23) (l : List E72) (b : Nat) (d m : Int) (f : E56 → Int) (a : Int) : Nat → List Int
  | 0 => [a]
  | k + 1 => ends s l b d m f a k ++ (bif (s.2.2.2.2.1).getD k 0 == d then (List.range (2 * moS s b k + 1).toNat).map fun (t : Nat) => f (showL s l k (m + ((t : Int) - moS s b k))) else [])
theorem ends_len {s : E23} (hs : StrOk s) (l : List E72) (b : Nat) (d m : Int) (f : E56 → Int) (a : Int) : ∀ k, (ends s l b d m f a k).length ≤ 1 + 41 * k
  | 0 => by simp [ends]
  | k + 1 => by
    have := ends_len hs l b d m f a k
    have hmo := moS_bd hs b k
    simp only [ends, List.length_append]
    cases (s.2.2.2.2.1).getD k 0 == d with
    | true => simp only [cond_true, List.length_map, List.length_range]; omega
    | false => simp only [cond_false, List.length_nil]; omega
theorem ends_first (s : E23) (l : List E72) (b : Nat) (d m : Int) (f : E56 → Int) (a : Int) : ∀ k, a ∈ ends s l b d m f a k
  | 0 => by simp [ends]
  | k + 1 => by simp only [ends, List.mem_append]; exact .inl (ends_first s l b d m f a k)
theorem ends_mem {s : E23} {l : List E72} {b : Nat} {d m : Int} {f : E56 → Int} {a : Int} {i : Nat} {q : Int} (hd : (s.2.2.2.2.1).getD i 0 = d) (h1 : -(moS s b i) ≤ q) (h2 : q ≤ moS s b i) : ∀ k, i < k → f (showL s l i (m + q)) ∈ ends s l b d m f a k
  | k + 1, hk => by
    simp only [ends, List.mem_append]
    rcases Nat.lt_succ_iff_lt_or_eq.1 hk with h | h
    · exact .inl (ends_mem hd h1 h2 k h)
    · subst h
      right
      rw [hd]
      simp only [beq_self_eq_true, cond_true, List.mem_map, List.mem_range]
      exact ⟨(q + moS s b i).toNat, by omega, by
        have : (((q + moS s b i).toNat : Nat) : Int) - moS s b i = q := by omega
        rw [this]⟩
theorem rate_l1 {s : E23} {l : List E72} (hs : StrOk s) (hl : RdsOk s l) (hn : l.length ≤ 1000) {b i : Nat} {m : Int} (hm : -40 ≤ m ∧ m ≤ 40) (d : Int) (lo hi : List Int) (h1 : lo.length ≤ 1000) (h2 : hi.length ≤ 1000) (A : List Int) (n k : Int) :
    G90_l1_run ((lo, (hi, ((i : Int), (moS s b i, (0 - moS s b i, (A, (n, (k, ())))))))), (XX s l, (d, ((b : Int), (m, ((0, (0, ())), ()))))))
      = some (0, ((lo ++ (List.range (2 * moS s b i + 1).toNat).map fun (t : Nat) => (showL s l i (m + ((t : Int) - moS s b i))).1, (hi ++ (List.range (2 * moS s b i + 1).toNat).map fun (t : Nat) => (showL s l i (m + ((t : Int) - moS s b i))).2.1, ((i : Int), (moS s b i, ((((2 * moS s b i + 1).toNat : Nat) : Int) - moS s b i, (A, (n, (k, ())))))))), (XX s l, (d, ((b : Int), (m, ((0, (0, ())), ()))))))) := by
  have hmo := moS_bd hs b i
  generalize moS s b i = mo at hmo ⊢
  unfold G90_l1_run
  have key := iter_run (step := G90_l1_step) (n := (2 * mo + 1).toNat) (k := 0) (fuel := G90_l1_fuel ((lo, (hi, ((i : Int), (mo, (0 - mo, (A, (n, (k, ())))))))), (XX s l, (d, ((b : Int), (m, ((0, (0, ())), ())))))))
    (fun j => ((lo ++ (List.range j).map fun (t : Nat) => (showL s l i (m + ((t : Int) - mo))).1, (hi ++ (List.range j).map fun (t : Nat) => (showL s l i (m + ((t : Int) - mo))).2.1, ((i : Int), (mo, ((j : Int) - mo, (A, (n, (k, ())))))))), (XX s l, (d, ((b : Int), (m, ((0, (0, ())), ())))))))
    ((lo ++ (List.range (2 * mo + 1).toNat).map fun (t : Nat) => (showL s l i (m + ((t : Int) - mo))).1, (hi ++ (List.range (2 * mo + 1).toNat).map fun (t : Nat) => (showL s l i (m + ((t : Int) - mo))).2.1, ((i : Int), (mo, ((((2 * mo + 1).toNat : Nat) : Int) - mo, (A, (n, (k, ())))))))), (XX s l, (d, ((b : Int), (m, ((0, (0, ())), ())))))) (fun j hj => by
      have hle : decide ((j : Int) - mo ≤ mo) = true := decide_eq_true (by omega)
      unfold G90_l1_step
      simp only [hle, cond_true]
      rw [wr (n := m + ((j : Int) - mo)) (by omega) (by omega), shows_eq hs hl hn i (by omega) (by omega)]
      simp only [Option.bind_some]
      rw [lim_ok (by simp; omega) (by simp), lim_ok (by simp; omega) (by simp)]
      simp only [cond_true]
      rw [wr (n := (j : Int) - mo + 1) (by omega) (by omega)]
      have e : (j : Int) - mo + 1 = ((j + 1 : Nat) : Int) - mo := by omega
      rw [e, List.range_succ, List.map_append, List.map_append, ← List.append_assoc, ← List.append_assoc]
      rfl) (by
      have hle : decide ((((2 * mo + 1).toNat : Nat) : Int) - mo ≤ mo) = false := decide_eq_false (by omega)
      unfold G90_l1_step
      simp only [hle, cond_false]) (by unfold G90_l1_fuel; omega)
  have e0 : (((0 : Nat) : Int) - mo) = 0 - mo := rfl
  simp only [List.range_zero, List.map_nil, List.append_nil, e0] at key
  exact key
theorem rate_l0 {s : E23} {l : List E72} (hs : StrOk s) (hl : RdsOk s l) (hn : l.length ≤ 1000) {b : Nat} (hb : b < 2 ^ 62) {m : Int} (hm : -40 ≤ m ∧ m ≤ 40) (d : Int) :
    G90_l0_run (([2000], ([3200], ((s.2.2.2.2.1), (((s.2.2.2.2.1).length : Int), (0, ()))))), (XX s l, (d, ((b : Int), (m, ((0, (0, ())), ()))))))
      = some (0, ((ends s l b d m (·.1) 2000 (s.2.2.2.2.1).length, (ends s l b d m (·.2.1) 3200 (s.2.2.2.2.1).length, ((s.2.2.2.2.1), (((s.2.2.2.2.1).length : Int), (((s.2.2.2.2.1).length : Int), ()))))), (XX s l, (d, ((b : Int), (m, ((0, (0, ())), ()))))))) := by
  have hlen := hs.len
  unfold G90_l0_run
  refine iter_run (step := G90_l0_step) (n := (s.2.2.2.2.1).length) (k := 0)
    (fun k => ((ends s l b d m (·.1) 2000 k, (ends s l b d m (·.2.1) 3200 k, ((s.2.2.2.2.1), (((s.2.2.2.2.1).length : Int), ((k : Int), ()))))), (XX s l, (d, ((b : Int), (m, ((0, (0, ())), ()))))))) _ (fun k hk => ?_) ?_ (by unfold G90_l0_fuel; simp)
  · unfold G90_l0_step
    simp only [lt_int hk, ge0, Bool.and_self, cond_true, getD_toNat, wr1 (i := k) (by omega)]
    by_cases hd : (s.2.2.2.2.1).getD k 0 = d
    · have h1 : ((s.2.2.2.2.1).getD k 0 != d) = false := by rw [hd]; simp
      have h2 : ((s.2.2.2.2.1).getD k 0 == d) = true := by rw [hd]; simp
      have hmo := moS_bd hs b k
      have hfree : G89 (b : Int) (k : Int) (XX s l).1.2.1 = some (moS s b k) := free_bit hb (by omega)
      rw [h1, cond_false, hfree]
      simp only [Option.bind_some, ends, h2, cond_true]
      rw [wr (n := 0 - moS s b k) (by omega) (by omega)]
      have e1 := ends_len hs l b d m (·.1) 2000 k
      have e2 := ends_len hs l b d m (·.2.1) 3200 k
      rw [rate_l1 hs hl hn hm d _ _ (by omega) (by omega)]
      simp only [Option.bind_some, wr1 (i := k) (by omega)]
    · have h1 : ((s.2.2.2.2.1).getD k 0 != d) = true := bne_iff_ne.2 hd
      have h2 : ((s.2.2.2.2.1).getD k 0 == d) = false := beq_eq_false_iff_ne.2 hd
      rw [h1, cond_true]
      simp only [ends, h2, cond_false, List.append_nil]
  · unfold G90_l0_step
    simp only [nlt_int, cond_false]
theorem low_end {s : E23} {l : List E72} {b : Nat} {d m T : Int} (h : HC s l b d m T) (hn : ¬ HC s l b d m (T - 1)) : T ∈ ends s l b d m (·.1) 2000 (s.2.2.2.2.1).length := by
  apply Classical.byContradiction
  intro hc
  have h0 : T ≠ 2000 := fun e => hc (by rw [e]; exact ends_first ..)
  refine hn ⟨by have := h.1; omega, fun i hi hd => ?_⟩
  obtain ⟨q, q1, q2, q3⟩ := h.2 i hi hd
  obtain ⟨s1, s2, s3⟩ := showL_spec s l i (m + q)
  have ht := (s3 T).2 ⟨h.1, q3⟩
  have hne : (showL s l i (m + q)).1 ≠ T := fun e => hc (by rw [← e]; exact ends_mem (f := (·.1)) hd q1 q2 _ hi)
  exact ⟨q, q1, q2, ((s3 (T - 1)).1 ⟨by omega, by omega⟩).2⟩
theorem high_end {s : E23} {l : List E72} {b : Nat} {d m T : Int} (h : HC s l b d m T) (hn : ¬ HC s l b d m (T + 1)) : T ∈ ends s l b d m (·.2.1) 3200 (s.2.2.2.2.1).length := by
  apply Classical.byContradiction
  intro hc
  have h0 : T ≠ 3200 := fun e => hc (by rw [e]; exact ends_first ..)
  refine hn ⟨by have := h.1; omega, fun i hi hd => ?_⟩
  obtain ⟨q, q1, q2, q3⟩ := h.2 i hi hd
  obtain ⟨s1, s2, s3⟩ := showL_spec s l i (m + q)
  have ht := (s3 T).2 ⟨h.1, q3⟩
  have hne : (showL s l i (m + q)).2.1 ≠ T := fun e => hc (by rw [← e]; exact ends_mem (f := (·.2.1)) hd q1 q2 _ hi)
  exact ⟨q, q1, q2, ((s3 (T + 1)).1 ⟨by omega, by omega⟩).2⟩
theorem go_down {P : Int → Prop} (lb : ∀ T, P T → 2000 ≤ T) : ∀ (n : Nat) (T : Int), (T - 2000).toNat = n → P T → ∃ T', T' ≤ T ∧ P T' ∧ ¬ P (T' - 1) := by
  intro n
  induction n with
  | zero =>
    intro T hn hT
    have := lb T hT
    exact ⟨T, Int.le_refl _, hT, fun h => by have := lb _ h; omega⟩
  | succ n ih =>
    intro T hn hT
    by_cases h : P (T - 1)
    · obtain ⟨T', h1, h2⟩ := ih (T - 1) (by omega) h
      exact ⟨T', by omega, h2⟩
    · exact ⟨T, Int.le_refl _, hT, h⟩
theorem go_up {P : Int → Prop} (ub : ∀ T, P T → T ≤ 3200) : ∀ (n : Nat) (T : Int), (3200 - T).toNat = n → P T → ∃ T', T ≤ T' ∧ P T' ∧ ¬ P (T' + 1) := by
  intro n
  induction n with
  | zero =>
    intro T hn hT
    have := ub T hT
    exact ⟨T, Int.le_refl _, hT, fun h => by have := ub _ h; omega⟩
  | succ n ih =>
    intro T hn hT
    by_cases h : P (T + 1)
    · obtain ⟨T', h1, h2⟩ := ih (T + 1) (by omega) h
      exact ⟨T', by omega, h2⟩
    · exact ⟨T, Int.le_refl _, hT, h⟩
def RateIs (s : E23) (l : List E72) (b : Nat) (d m : Int) (q : E56) (is : Bool) : Prop :=
  (is = true → HC s l b d m q.1 ∧ HC s l b d m q.2.1 ∧ ∀ T, HC s l b d m T → q.1 ≤ T ∧ T ≤ q.2.1) ∧ (is = false → ∀ T, ¬ HC s l b d m T)
theorem rate_eq {s : E23} {l : List E72} (hs : StrOk s) (hl : RdsOk s l) (hn : l.length ≤ 1000) {b : Nat} (hb : b < 2 ^ 62) {m : Int} (hm : -40 ≤ m ∧ m ≤ 40) (d : Int) :
    ∃ q is, G90 (XX s l) d b m = some (q, (is, ())) ∧ RateIs s l b d m q is := by
  unfold G90
  rw [show G90_l0_run (([2000], ([3200], ((XX s l).1.2.2.2.2.1, (((XX s l).1.2.2.2.2.1.length : Int), (0, ()))))), (XX s l, (d, ((b : Int), (m, ((0, (0, ())), ())))))) = _ from rate_l0 hs hl hn hb hm d]
  simp only [Option.bind_some]
  have hlen := hs.len
  have e1 := ends_len hs l b d m (·.1) 2000 (s.2.2.2.2.1).length
  have e2 := ends_len hs l b d m (·.2.1) 3200 (s.2.2.2.2.1).length
  obtain ⟨lo, f1, h1, h2⟩ := best_eq hs hl hn hb d hm (ends s l b d m (·.1) 2000 (s.2.2.2.2.1).length) (by omega)
  rw [h1]
  simp only [Option.bind_some]
  obtain ⟨hi, f2, h3, h4⟩ := bestv_eq hs hl hn hb d hm (ends s l b d m (·.2.1) 3200 (s.2.2.2.2.1).length) (by omega)
  rw [h3]
  simp only [Option.bind_some]
  refine ⟨(lo, (hi, ())), f1, rfl, fun hf => ?_, fun hf T hT => ?_⟩
  · subst hf
    obtain ⟨k1, k2, k3⟩ := h2.1 rfl
    obtain ⟨Tm, m1, m2, m3⟩ := go_up (P := HC s l b d m) (fun T h => h.1.2) _ lo rfl k1
    have hf2 : f2 = true := by
      cases f2 with
      | true => rfl
      | false => exact absurd m2 ((h4.2 rfl).2 _ (high_end m2 m3))
    subst hf2
    obtain ⟨p1, p2, p3⟩ := h4.1 rfl
    refine ⟨k1, p1, fun T hT => ⟨?_, ?_⟩⟩
    · obtain ⟨T', a1, a2, a3⟩ := go_down (P := HC s l b d m) (fun T h => h.1.1) _ T rfl hT
      have := k3 _ (low_end a2 a3) a2
      show lo ≤ T
      omega
    · obtain ⟨T', a1, a2, a3⟩ := go_up (P := HC s l b d m) (fun T h => h.1.2) _ T rfl hT
      have := p3 _ (high_end a2 a3) a2
      show T ≤ hi
      omega
  · subst hf
    obtain ⟨T', a1, a2, a3⟩ := go_down (P := HC s l b d m) (fun T h => h.1.1) _ T rfl hT
    exact (h2.2 rfl).2 _ (low_end a2 a3) a2
end Go.Proofs.YtibmgbalfhfcdaaDoor.Abs
set_option linter.unusedVariables false
set_option linter.unusedSimpArgs false
set_option maxRecDepth 100000
namespace Go.Proofs.YtibmgbalfhfcdaaDoor.Abs
open Classical
def matK (s : E23) (b d : Nat) : Nat → Nat
  | 0 => b &&& 2 ^ ((s.2.2.2.2.1).length + d)
  | k + 1 => bif (s.2.2.2.2.1).getD k 0 == (d : Int) then matK s b d k ||| (b &&& 2 ^ k) else matK s b d k
theorem matK_lt {s : E23} {b d : Nat} (hb : b < 2 ^ 62) : ∀ k, matK s b d k < 2 ^ 62
  | 0 => Nat.lt_of_le_of_lt Nat.and_le_left hb
  | k + 1 => by
    simp only [matK]
    cases (s.2.2.2.2.1).getD k 0 == (d : Int) with
    | true => exact Nat.or_lt_two_pow (matK_lt hb k) (Nat.lt_of_le_of_lt Nat.and_le_left hb)
    | false => exact matK_lt hb k
theorem matK_bit (s : E23) (b d j : Nat) : ∀ k, k ≤ (s.2.2.2.2.1).length → (matK s b d k).testBit j = (b.testBit j && (decide (j = (s.2.2.2.2.1).length + d) || (decide (j < k) && (s.2.2.2.2.1).getD j 0 == (d : Int))))
  | 0, _ => by
    simp only [matK, Nat.testBit_and, Nat.testBit_two_pow]
    simp [eq_comm]
  | k + 1, hk => by
    have ih := matK_bit s b d j k (by omega)
    simp only [matK]
    by_cases hj : j = k
    · subst hj
      have h1 : decide (j = (s.2.2.2.2.1).length + d) = false := decide_eq_false (by omega)
      have h2 : decide (j < j) = false := decide_eq_false (by omega)
      have h3 : decide (j < j + 1) = true := decide_eq_true (by omega)
      rw [h1, h2] at ih
      rw [h1, h3]
      cases (s.2.2.2.2.1).getD j 0 == (d : Int) with
      | true =>
        simp only [cond_true, Nat.testBit_or, Nat.testBit_and, Nat.testBit_two_pow_self, ih]
        simp
      | false => simp only [cond_false, ih]; simp
    · have h1 : decide (j < k + 1) = decide (j < k) := decide_eq_decide.2 (by omega)
      rw [h1]
      cases (s.2.2.2.2.1).getD k 0 == (d : Int) with
      | true =>
        have h2 : (2 ^ k).testBit j = false := by rw [Nat.testBit_two_pow]; simp; omega
        simp only [cond_true, Nat.testBit_or, Nat.testBit_and, h2, ih]
        simp
      | false => simp only [cond_false, ih]
def mat (s : E23) (b d : Nat) : Nat := matK s b d (s.2.2.2.2.1).length
theorem mattering_eq {s : E23} (hs : StrOk s) (l : List E72) {b d : Nat} (hb : b < 2 ^ 62) (hd : d < 4) : G88 (XX s l) d b = some ((mat s b d : Nat) : Int) := by
  have hlen := hs.len
  unfold G88
  have e0 : (((s.2.2.2.2.1).length : Int) + (d : Int)) = (((s.2.2.2.2.1).length + d : Nat) : Int) := by omega
  have e1 : IntKind.wrap .i64 (((s.2.2.2.2.1).length : Int) + (d : Int)) = (((s.2.2.2.2.1).length + d : Nat) : Int) := by rw [e0]; exact wr (by omega) (by omega)
  have hneg : (!decide ((((s.2.2.2.2.1).length + d : Nat) : Int) < 0)) = true := by simp; omega
  simp only [e1, hneg, cond_true, Int.toNat_natCast]
  rw [shl_nat (by omega), and_nat hb (Nat.pow_lt_pow_right (by decide) (by omega))]
  unfold G88_l0_run
  have key := iter_run (step := G88_l0_step) (n := (s.2.2.2.2.1).length) (k := 0) (fuel := G88_l0_fuel (((d : Int), ((b : Int), (((b &&& 2 ^ ((s.2.2.2.2.1).length + d) : Nat) : Int), ((s.2.2.2.2.1), (((s.2.2.2.2.1).length : Int), (0, ())))))), ()))
    (fun k => (((d : Int), ((b : Int), (((matK s b d k : Nat) : Int), ((s.2.2.2.2.1), (((s.2.2.2.2.1).length : Int), ((k : Int), ())))))), ())) (((d : Int), ((b : Int), (((mat s b d : Nat) : Int), ((s.2.2.2.2.1), (((s.2.2.2.2.1).length : Int), (((s.2.2.2.2.1).length : Int), ())))))), ()) (fun k hk => by
      unfold G88_l0_step
      have hneg : (!decide ((k : Int) < 0)) = true := by simp
      simp only [lt_int hk, ge0, Bool.and_self, cond_true, getD_toNat, wr1 (i := k) (by omega), hneg, Int.toNat_natCast, matK]
      cases (s.2.2.2.2.1).getD k 0 == (d : Int) with
      | true =>
        simp only [cond_true]
        rw [shl_nat (by omega), and_nat hb (Nat.pow_lt_pow_right (by decide) (by omega)), or_nat (matK_lt hb k) (Nat.lt_of_le_of_lt Nat.and_le_left hb)]
      | false => rfl) (by
      unfold G88_l0_step
      simp only [nlt_int, cond_false]
      rfl) (by unfold G88_l0_fuel; simp)
  rw [show iter G88_l0_step (G88_l0_fuel (((d : Int), ((b : Int), (((b &&& 2 ^ ((s.2.2.2.2.1).length + d) : Nat) : Int), ((s.2.2.2.2.1), (((s.2.2.2.2.1).length : Int), (0, ())))))), ())) (((d : Int), ((b : Int), (((b &&& 2 ^ ((s.2.2.2.2.1).length + d) : Nat) : Int), ((s.2.2.2.2.1), (((s.2.2.2.2.1).length : Int), (0, ())))))), ()) = _ from key]
  rfl
def DC (s : E23) (l : List E72) (b d : Nat) (m T : Int) : Prop := (-(moD s b d) ≤ m ∧ m ≤ moD s b d) ∧ HC s l b d m T
theorem mat_same {s : E23} {b b' d : Nat} (h : mat s b d = mat s b' d) : moD s b d = moD s b' d ∧ ∀ i, i < (s.2.2.2.2.1).length → (s.2.2.2.2.1).getD i 0 = (d : Int) → moS s b i = moS s b' i := by
  have key : ∀ j, (b.testBit j && (decide (j = (s.2.2.2.2.1).length + d) || (decide (j < (s.2.2.2.2.1).length) && (s.2.2.2.2.1).getD j 0 == (d : Int)))) = (b'.testBit j && (decide (j = (s.2.2.2.2.1).length + d) || (decide (j < (s.2.2.2.2.1).length) && (s.2.2.2.2.1).getD j 0 == (d : Int)))) := fun j => by
    rw [← matK_bit s b d j _ (Nat.le_refl _), ← matK_bit s b' d j _ (Nat.le_refl _)]
    show (mat s b d).testBit j = (mat s b' d).testBit j
    rw [h]
  refine ⟨?_, fun i hi hd => ?_⟩
  · have := key ((s.2.2.2.2.1).length + d)
    simp only [decide_true, Bool.true_or, Bool.and_true] at this
    unfold moD
    rw [this]
  · have := key i
    rw [hd] at this
    simp only [decide_eq_true hi, beq_self_eq_true, Bool.and_self, Bool.or_true, Bool.and_true] at this
    unfold moS
    rw [this]
theorem DC_same {s : E23} {l : List E72} {b b' d : Nat} (h : mat s b d = mat s b' d) (m T : Int) : DC s l b d m T ↔ DC s l b' d m T := by
  obtain ⟨h1, h2⟩ := mat_same h
  unfold DC HC Can
  rw [h1]
  refine and_congr_right fun _ => and_congr_right fun _ => forall_congr' fun i => forall_congr' fun hi => forall_congr' fun hd => ?_
  rw [h2 i hi hd]
def SpanIs (s : E23) (l : List E72) (b d : Nat) (m : Int) (q : E56) : Prop :=
  (DC s l b d m q.1 ∧ DC s l b d m q.2.1 ∧ ∀ T, DC s l b d m T → q.1 ≤ T ∧ T ≤ q.2.1) ∨ ((∀ T, ¬ DC s l b d m T) ∧ q = (-1, (-1, ())))
structure AnsIs (s : E23) (l : List E72) (b d : Nat) (v : E94) : Prop where
  len : v.1.length = 41
  span : ∀ k : Nat, k < 41 → SpanIs s l b d ((k : Int) - 20) (v.1.getD k (0, (0, ())))
  can : v.2.1 = true ↔ ∃ m T, DC s l b d m T
theorem SpanIs.same {s : E23} {l : List E72} {b b' d : Nat} (h : mat s b d = mat s b' d) {m : Int} {q : E56} (hq : SpanIs s l b d m q) : SpanIs s l b' d m q := by
  rcases hq with ⟨h1, h2, h3⟩ | ⟨h1, h2⟩
  · exact .inl ⟨(DC_same h _ _).1 h1, (DC_same h _ _).1 h2, fun T hT => h3 T ((DC_same h _ _).2 hT)⟩
  · exact .inr ⟨fun T hT => h1 T ((DC_same h _ _).2 hT), h2⟩
theorem AnsIs.same {s : E23} {l : List E72} {b b' d : Nat} (h : mat s b d = mat s b' d) {v : E94} (hv : AnsIs s l b d v) : AnsIs s l b' d v :=
  ⟨hv.len, fun k hk => (hv.span k hk).same h, hv.can.trans ⟨fun ⟨m, T, hT⟩ => ⟨m, T, (DC_same h _ _).1 hT⟩, fun ⟨m, T, hT⟩ => ⟨m, T, (DC_same h _ _).2 hT⟩⟩⟩
theorem eqK (k k' : E56) : eqD T56 k k' = decide (k = k') := by
  obtain ⟨a, b, u⟩ := k
  obtain ⟨c, e, u'⟩ := k'
  show (a == c && (b == e && true)) = _
  by_cases h1 : a = c <;> by_cases h2 : b = e <;> simp [h1, h2]
theorem find_put {α : Type} (k k' : E56) (v : α) : ∀ xs : List (E56 × α), findD T56 k' (putD T56 k v xs) = if k' = k then some v else findD T56 k' xs
  | [] => by
    simp only [putD, findD, eqK]
    by_cases h : k' = k
    · rw [if_pos h, decide_eq_true h]; rfl
    · rw [if_neg h, decide_eq_false h]; rfl
  | x :: xs => by
    have ih := find_put k k' v xs
    simp only [putD, eqK]
    by_cases h1 : k = x.1
    · rw [decide_eq_true h1]
      simp only [cond_true, findD, eqK]
      by_cases h : k' = k
      · rw [if_pos h, decide_eq_true h]; rfl
      · rw [if_neg h, decide_eq_false h, decide_eq_false (by rw [← h1]; exact h)]; rfl
    · rw [decide_eq_false h1]
      simp only [cond_false, findD, eqK]
      rw [ih]
      by_cases h : k' = k
      · simp only [if_pos h]; rw [decide_eq_false (by rw [h]; exact h1)]; rfl
      · simp only [if_neg h]
def MemoOk (s : E23) (l : List E72) (M : List (E56 × E94)) : Prop := ∀ (d b : Nat) (v : E94), findD T56 ((d : Int), (((mat s b d : Nat) : Int), ())) M = some v → AnsIs s l b d v
theorem memo_nil (s : E23) (l : List E72) : MemoOk s l [] := fun d b v h => by cases h
theorem MemoOk.put {s : E23} {l : List E72} {M : List (E56 × E94)} (h : MemoOk s l M) {d b : Nat} {v : E94} (hv : AnsIs s l b d v) : MemoOk s l (putD T56 ((d : Int), (((mat s b d : Nat) : Int), ())) v M) := fun d' b' v' hf => by
  rw [find_put] at hf
  split at hf
  · rename_i he
    simp only [Option.some.injEq] at hf
    subst hf
    simp only [Prod.mk.injEq, and_true] at he
    have h1 : d' = d := Int.ofNat.inj he.1
    subst h1
    have h2 : mat s b d' = mat s b' d' := (Int.ofNat.inj he.2).symm
    exact hv.same h2
  · exact h d' b' v' hf
theorem set_getD {α : Type} (l : List α) (i j : Nat) (x d : α) (hi : i < l.length) : (l.set i x).getD j d = if j = i then x else l.getD j d := by
  rw [List.getD_eq_getElem?_getD, List.getElem?_set]
  by_cases h : i = j
  · subst h; simp [hi]
  · rw [if_neg h, if_neg (fun e => h e.symm), ← List.getD_eq_getElem?_getD]
theorem depth_eq {s : E23} {l : List E72} (hs : StrOk s) (hl : RdsOk s l) (hn : l.length ≤ 1000) {b d : Nat} (hb : b < 2 ^ 62) (hd : d < 4) {M : List (E56 × E94)} (hM : MemoOk s l M) :
    ∃ v M', G54 d b (XX s l) M = some (v, (XX s l, (M', ()))) ∧ AnsIs s l b d v ∧ MemoOk s l M' := by
  have hlen := hs.len
  have hmo := moD_bd hs b d
  unfold G54
  rw [show G88 ((XX s l).1, ((XX s l).2.1, ((), (XX s l).2.2.2))) d b = _ from mattering_eq hs l hb hd]
  simp only [Option.bind_some]
  cases hf : findD T56 ((d : Int), (((mat s b d : Nat) : Int), ())) M with
  | some v => exact ⟨v, M, rfl, hM d b v hf, hM⟩
  | none =>
    simp only [Option.isSome_none, cond_false]
    have e0 : (((s.2.2.2.2.1).length : Int) + (d : Int)) = (((s.2.2.2.2.1).length + d : Nat) : Int) := by omega
    have e1 : IntKind.wrap .i64 (((s.2.2.2.2.1).length : Int) + (d : Int)) = (((s.2.2.2.2.1).length + d : Nat) : Int) := by rw [e0]; exact wr (by omega) (by omega)
    rw [show G89 (b : Int) (IntKind.wrap .i64 (((XX s l).1.2.2.2.2.1.length : Int) + (d : Int))) (XX s l).1.2.2.1 = some (moD s b d) from by
      show G89 (b : Int) (IntKind.wrap .i64 (((s.2.2.2.2.1).length : Int) + (d : Int))) (s.2.2.1) = _
      rw [e1]; exact free_bit hb (by omega)]
    simp only [Option.bind_some]
    generalize hmo' : moD s b d = mo at hmo ⊢
    unfold G54_l0_run
    obtain ⟨q, h1, v, h2, h3⟩ := iter_inv (step := G54_l0_step) (k := 0) (n := 41)
      (fun k st => ∃ (a : E56) (z : E94) (v : E94), st = (((d : Int), ((b : Int), (mo, ((k : Int), ())))), ((s, (l, ((), ()))), (M, ((List.replicate 41 (0, (0, ())), (false, ())), (a, (z, (v, ())))))))  ∧ a = ((d : Int), (((mat s b d : Nat) : Int), ())) ∧ v.1.length = 41 ∧ (∀ j, j < k → SpanIs s l b d ((j : Int) - 20) (v.1.getD j (0, (0, ())))) ∧ (v.2.1 = true ↔ ∃ j T, j < k ∧ DC s l b d ((j : Int) - 20) T))
      (fun st => ∃ (v : E94), (∃ z, st = (((d : Int), ((b : Int), (mo, (41, ())))), ((s, (l, ((), ()))), (M, ((List.replicate 41 (0, (0, ())), (false, ())), (((d : Int), (((mat s b d : Nat) : Int), ())), (z, (v, ())))))))) ∧ AnsIs s l b d v)
      (by
        rintro k st ⟨a, z, v, rfl, rfl, hv1, hv2, hv3⟩ hk
        have hkl : decide ((k : Int) < 41) = true := decide_eq_true (by omega)
        have ew : IntKind.wrap .i64 ((k : Int) - 20) = (k : Int) - 20 := wr (by omega) (by omega)
        have ew2 : IntKind.wrap .i64 (0 - mo) = -mo := by rw [wr (by omega) (by omega)]; omega
        unfold G54_l0_step
        simp only [hkl, ge0, Bool.and_self, cond_true, Int.toNat_natCast, wr1 (i := k) (by omega), ew, ew2, in_tells, Option.bind_some]
        have old : ∀ (w : List E56) (x : E56), w.length = 41 → (∀ j, j < k → w.getD j (0, (0, ())) = v.1.getD j (0, (0, ()))) → ∀ j, j < k → SpanIs s l b d ((j : Int) - 20) (w.getD j (0, (0, ()))) := fun w x _ h j hj => by rw [h j hj]; exact hv2 j hj
        by_cases hin : -mo ≤ (k : Int) - 20 ∧ (k : Int) - 20 ≤ mo
        · rw [decide_eq_true hin, cond_true]
          obtain ⟨q, is, r1, r2, r3⟩ := rate_eq hs hl hn hb (m := (k : Int) - 20) (by omega) (d : Int)
          rw [show G90 (s, (l, ((), ()))) (d : Int) (b : Int) ((k : Int) - 20) = _ from r1]
          simp only [Option.bind_some]
          cases is with
          | true =>
            simp only [cond_true]
            obtain ⟨t1, t2, t3⟩ := r2 rfl
            refine ⟨_, rfl, _, _, _, rfl, rfl, by simp [hv1], fun j hj => ?_, ?_⟩
            · rcases Nat.lt_succ_iff_lt_or_eq.1 hj with h | h
              · rw [set_getD _ _ _ _ _ (by simp [hv1]; omega), if_neg (by omega), set_getD _ _ _ _ _ (by omega), if_neg (by omega)]
                exact hv2 j h
              · subst h
                rw [set_getD _ _ _ _ _ (by simp [hv1]; omega), if_pos rfl]
                exact .inl ⟨⟨by rw [hmo']; exact hin, t1⟩, ⟨by rw [hmo']; exact hin, t2⟩, fun T hT => t3 T hT.2⟩
            · refine ⟨fun _ => ⟨k, q.1, by omega, by rw [hmo']; exact hin, t1⟩, fun _ => rfl⟩
          | false =>
            simp only [cond_false]
            refine ⟨_, rfl, _, _, _, rfl, rfl, by simp [hv1], fun j hj => ?_, ?_⟩
            · rcases Nat.lt_succ_iff_lt_or_eq.1 hj with h | h
              · rw [set_getD _ _ _ _ _ (by omega), if_neg (by omega)]
                exact hv2 j h
              · subst h
                rw [set_getD _ _ _ _ _ (by omega), if_pos rfl]
                exact .inr ⟨fun T hT => r3 rfl T hT.2, rfl⟩
            · rw [show ((v.1.set k (-1, (-1, ())), v.2) : E94).2.1 = v.2.1 from rfl, hv3]
              refine ⟨fun ⟨j, T, hj, hT⟩ => ⟨j, T, by omega, hT⟩, fun ⟨j, T, hj, hT⟩ => ?_⟩
              rcases Nat.lt_succ_iff_lt_or_eq.1 hj with h | h
              · exact ⟨j, T, h, hT⟩
              · subst h; exact absurd hT.2 (r3 rfl T)
        · rw [decide_eq_false hin, cond_false]
          refine ⟨_, rfl, _, _, _, rfl, rfl, by simp [hv1], fun j hj => ?_, ?_⟩
          · rcases Nat.lt_succ_iff_lt_or_eq.1 hj with h | h
            · rw [set_getD _ _ _ _ _ (by omega), if_neg (by omega)]
              exact hv2 j h
            · subst h
              rw [set_getD _ _ _ _ _ (by omega), if_pos rfl]
              exact .inr ⟨fun T hT => hin (by rw [← hmo']; exact hT.1), rfl⟩
          · rw [show ((v.1.set k (-1, (-1, ())), v.2) : E94).2.1 = v.2.1 from rfl, hv3]
            refine ⟨fun ⟨j, T, hj, hT⟩ => ⟨j, T, by omega, hT⟩, fun ⟨j, T, hj, hT⟩ => ?_⟩
            rcases Nat.lt_succ_iff_lt_or_eq.1 hj with h | h
            · exact ⟨j, T, h, hT⟩
            · subst h; exact absurd (by rw [← hmo']; exact hT.1) hin)
      (by
        rintro st ⟨a, z, v, rfl, rfl, hv1, hv2, hv3⟩
        unfold G54_l0_step
        have hkl : decide (((41 : Nat) : Int) < 41) = false := by decide
        simp only [hkl, cond_false]
        refine ⟨_, rfl, v, ⟨z, rfl⟩, hv1, hv2, hv3.trans ⟨fun ⟨j, T, _, h⟩ => ⟨_, T, h⟩, fun ⟨m, T, h⟩ => ⟨(m + 20).toNat, T, ?_, ?_⟩⟩⟩
        · have := h.1; rw [hmo'] at this; omega
        · have h1 := h.1
          rw [hmo'] at h1
          have : (((m + 20).toNat : Nat) : Int) - 20 = m := by omega
          rw [this]; exact h)
      41 0 (G54_l0_fuel (((d : Int), ((b : Int), (mo, (0, ())))), ((s, (l, ((), ()))), (M, ((List.replicate 41 (0, (0, ())), (false, ())), (((d : Int), (((mat s b d : Nat) : Int), ())), ((List.replicate 41 (0, (0, ())), (false, ())), ((List.replicate 41 (0, (0, ())), (false, ())), ()))))))))
      (((d : Int), ((b : Int), (mo, (0, ())))), ((s, (l, ((), ()))), (M, ((List.replicate 41 (0, (0, ())), (false, ())), (((d : Int), (((mat s b d : Nat) : Int), ())), ((List.replicate 41 (0, (0, ())), (false, ())), ((List.replicate 41 (0, (0, ())), (false, ())), ())))))))
      rfl (by unfold G54_l0_fuel; simp) ⟨_, _, _, rfl, rfl, by simp, fun j hj => absurd hj (by omega), ⟨fun h => (by cases h), fun ⟨j, T, hj, _⟩ => absurd hj (by omega)⟩⟩
    obtain ⟨⟨z, rfl⟩, h3⟩ := And.intro h2 h3
    have h1' : iter G54_l0_step _ _ = _ := h1
    refine ⟨v, putD T56 ((d : Int), (((mat s b d : Nat) : Int), ())) v M, ?_, h3, hM.put h3⟩
    simp only [Option.getD_none]
    refine (congrArg (fun o => Option.bind o _) h1').trans ?_
    rfl
end Go.Proofs.YtibmgbalfhfcdaaDoor.Abs
set_option linter.unusedVariables false
set_option linter.unusedSimpArgs false
set_option maxRecDepth 100000
namespace Go.Proofs.YtibmgbalfhfcdaaDoor.Abs
open Classical
theorem iter_ex {α : Type} {step : α → Option (Nat × α)} (I : Nat → α → Prop) (E : Nat → α → Prop) {n : Nat} (hgo : ∀ i s, I i s → i < n → (∃ s', step s = some (0, s') ∧ I (i + 1) s') ∨ ∃ k s', step s = some (k + 1, s') ∧ E k s') (hend : ∀ s, I n s → ∃ k s', step s = some (k + 1, s') ∧ E k s') :
    ∀ (m i fuel : Nat) (s : α), i + m = n → m < fuel → I i s → ∃ k q, iter step fuel s = some (k, q) ∧ E k q
  | _, _, 0, _, _, hf, _ => by omega
  | 0, i, fuel + 1, s, hi, hf, hs => by
    obtain rfl : i = n := by omega
    obtain ⟨k, s', h1, h2⟩ := hend s hs
    exact ⟨k, s', iter_out h1, h2⟩
  | m + 1, i, fuel + 1, s, hi, hf, hs => by
    rcases hgo i s hs (by omega) with ⟨s', h1, h2⟩ | ⟨k, s', h1, h2⟩
    · rw [iter_one h1]
      exact iter_ex I E hgo hend m (i + 1) fuel s' (by omega) (by omega) h2
    · exact ⟨k, s', iter_out h1, h2⟩
theorem rstring_tells (s : E23) (h12 : (s.2.2.2.2.1).length ≤ 1000) : Tells (G42 s) (StrOk s) := by
  unfold G42 G42_l0_run
  have key := iter_fn (step := G42_l0_step) (n := (s.2.2.2.2.1).length) (k1 := 0) (k2 := 1) (fuel := G42_l0_fuel ((false, (0, ())), (s, ())))
    (bad := fun i => !decide (0 ≤ (s.2.2.2.2.1).getD i 0 ∧ (s.2.2.2.2.1).getD i 0 ≤ IntKind.wrap .i64 (s.2.2.2.1 - 1)))
    (fun i => ((false, ((i : Int), ())), (s, ()))) (fun i => ((false, ((i : Int), ())), (s, ()))) ((false, (((s.2.2.2.2.1).length : Int), ())), (s, ())) (fun i hi => by
      unfold G42_l0_step
      simp only [lt_int hi, ge0, Bool.and_self, cond_true, getD_toNat, rin_tells, Option.bind_some, wr1 (i := i) (by omega)]
      cases decide (0 ≤ (s.2.2.2.2.1).getD i 0 ∧ (s.2.2.2.2.1).getD i 0 ≤ IntKind.wrap .i64 (s.2.2.2.1 - 1)) <;> rfl) (by
      unfold G42_l0_step
      simp only [nlt_int, cond_false]) (by unfold G42_l0_fuel; simp)
  rcases key with ⟨j, hj, hb, _, he⟩ | ⟨hall, he⟩
  · rw [show iter G42_l0_step (G42_l0_fuel ((false, (0, ())), (s, ()))) ((false, (0, ())), (s, ())) = _ from he]
    refine tells_f fun hs => ?_
    have h1 := hs.at_ _ (getD_mem hj (d := 0))
    have hd := hs.depths
    rw [wr (by omega) (by omega)] at hb
    rw [Bool.not_eq_true'] at hb
    have : ¬ (0 ≤ (s.2.2.2.2.1).getD j 0 ∧ (s.2.2.2.2.1).getD j 0 ≤ s.2.2.2.1 - 1) := of_decide_eq_false hb
    exact this ⟨h1.1, by omega⟩
  · rw [show iter G42_l0_step (G42_l0_fuel ((false, (0, ())), (s, ()))) ((false, (0, ())), (s, ())) = _ from he]
    simp only [Option.bind_some, natK, rin_tells]
    have h : Tells (Option.bind (some (decide (0 ≤ s.1 ∧ s.1 ≤ 100))) fun r3 => bif r3 then Option.bind (some (decide (0 ≤ s.2.1 ∧ s.2.1 ≤ 20))) fun r4 => bif r4 then Option.bind (some (decide (0 ≤ s.2.2.1 ∧ s.2.2.1 ≤ 20))) fun r5 => bif r5 then Option.bind (some (decide (1 ≤ s.2.2.2.1 ∧ s.2.2.2.1 ≤ 4))) fun r6 => bif r6 then Option.bind (some (decide (1 ≤ ((s.2.2.2.2.1).length : Int) ∧ ((s.2.2.2.2.1).length : Int) ≤ 6))) fun r7 => some r7 else some false else some false else some false else some false)
      ((0 ≤ s.1 ∧ s.1 ≤ 100) ∧ (0 ≤ s.2.1 ∧ s.2.1 ≤ 20) ∧ (0 ≤ s.2.2.1 ∧ s.2.2.1 ≤ 20) ∧ (1 ≤ s.2.2.2.1 ∧ s.2.2.2.1 ≤ 4) ∧ (1 ≤ ((s.2.2.2.2.1).length : Int) ∧ ((s.2.2.2.2.1).length : Int) ≤ 6)) :=
      tells_and tells_dec fun _ => tells_and tells_dec fun _ => tells_and tells_dec fun _ => tells_and tells_dec fun hd => tells_bind tells_dec
    refine Tells.iff h ⟨fun h => ⟨h.1, h.2.1, h.2.2.1, h.2.2.2.1, by have := h.2.2.2.2; omega, ?_⟩, fun h => ⟨h.err, h.drift, h.warm, h.depths, by have := h.len; omega⟩⟩
    refine (forall_getD 0).1 fun i hi => ?_
    have := hall i hi
    rw [wr (by have := h.2.2.2.1; omega) (by have := h.2.2.2.1; omega)] at this
    have h2 : 0 ≤ (s.2.2.2.2.1).getD i 0 ∧ (s.2.2.2.2.1).getD i 0 ≤ s.2.2.2.1 - 1 := by simpa using this
    exact ⟨h2.1, by omega⟩
theorem rreadings_tells {s : E23} (hs : StrOk s) (l : List E72) (hl : l.length ≤ 1000) : Tells (G43 s l) (RdsOk s l) := by
  have hlen := hs.len
  unfold G43 G43_l0_run
  have key := iter_fn (step := G43_l0_step) (n := l.length) (k1 := 0) (k2 := 1) (fuel := G43_l0_fuel ((l, (false, (0, ()))), (s, ())))
    (bad := fun i => !decide (RdOk s (l.getD i (0, (0, (0, ()))))))
    (fun i => ((l, (false, ((i : Int), ()))), (s, ()))) (fun i => ((l, (false, ((i : Int), ()))), (s, ()))) ((l, (false, ((l.length : Int), ()))), (s, ())) (fun i hi => by
      unfold G43_l0_step
      have hw : IntKind.wrap .i64 (((s.2.2.2.2.1).length : Int) - 1) = ((s.2.2.2.2.1).length : Int) - 1 := wr (by omega) (by omega)
      simp only [hw, lt_int hi, ge0, Bool.and_self, cond_true, getD_toNat, rin_tells, Option.bind_some, wr1 (i := i) (by omega)]
      generalize l.getD i (0, (0, (0, ()))) = r
      have e : decide (RdOk s r) = (decide (0 ≤ r.1 ∧ r.1 ≤ ((s.2.2.2.2.1).length : Int) - 1) && (decide (0 ≤ r.2.1 ∧ r.2.1 ≤ 200) && decide (0 ≤ r.2.2.1 ∧ r.2.2.1 ≤ 6400))) := by
        rw [← Bool.decide_and, ← Bool.decide_and]
        refine decide_eq_decide.2 ⟨fun h => ⟨⟨h.1, by have := h.2.1; omega⟩, ⟨h.2.2.1, h.2.2.2.1⟩, h.2.2.2.2⟩, fun h => ⟨h.1.1, by have := h.1.2; omega, h.2.1.1, h.2.1.2, h.2.2⟩⟩
      rw [e]
      generalize decide (0 ≤ r.1 ∧ r.1 ≤ ((s.2.2.2.2.1).length : Int) - 1) = a
      generalize decide (0 ≤ r.2.1 ∧ r.2.1 ≤ 200) = b
      generalize decide (0 ≤ r.2.2.1 ∧ r.2.2.1 ≤ 6400) = c
      cases a <;> cases b <;> cases c <;> rfl) (by
      unfold G43_l0_step
      simp only [nlt_int, cond_false]) (by unfold G43_l0_fuel; simp)
  rcases key with ⟨j, hj, hb, _, he⟩ | ⟨hall, he⟩
  · rw [show iter G43_l0_step (G43_l0_fuel ((l, (false, (0, ()))), (s, ()))) ((l, (false, (0, ()))), (s, ())) = _ from he]
    refine tells_f fun hr => ?_
    have := hr _ (getD_mem hj (d := (0, (0, (0, ())))))
    rw [decide_eq_true this] at hb
    cases hb
  · rw [show iter G43_l0_step (G43_l0_fuel ((l, (false, (0, ()))), (s, ()))) ((l, (false, (0, ()))), (s, ())) = _ from he]
    refine tells_t ((forall_getD (0, (0, (0, ())))).1 fun i hi => ?_)
    simpa using hall i hi
def SlOk (s : E23) (l : List E72) : Prop := l.length ≤ 24 ∧ StrOk s ∧ RdsOk s l
theorem short_tells (s : E23) (l : List E72) : G11 s l = some (decide ((s.2.2.2.2.1).length ≤ 12 ∧ l.length ≤ 29)) := by
  unfold G11
  by_cases h : (s.2.2.2.2.1).length ≤ 12
  · by_cases h2 : l.length ≤ 29
    · rw [decide_eq_true (p := ((s.2.2.2.2.1).length : Int) ≤ 12) (by omega), cond_true]; congr 1; rw [decide_eq_decide]; omega
    · rw [decide_eq_true (p := ((s.2.2.2.2.1).length : Int) ≤ 12) (by omega), cond_true]; congr 1; rw [decide_eq_decide]; omega
  · rw [decide_eq_false (p := ((s.2.2.2.2.1).length : Int) ≤ 12) (by omega), cond_false]; rw [decide_eq_false (fun hh => h hh.1)]
theorem wanted_eq (s : E23) (l : List E72) (h1 : (s.2.2.2.2.1).length ≤ 1000) (h2 : l.length ≤ 1000) :
    (24 < l.length ∧ G13 s l = some 3) ∨ (l.length ≤ 24 ∧ ¬ SlOk s l ∧ G13 s l = some 2) ∨ (SlOk s l ∧ G13 s l = some 0) := by
  unfold G13
  by_cases hl : l.length ≤ 24
  · have : decide ((l.length : Int) > 24) = false := decide_eq_false (by omega)
    rw [this, cond_false]
    right
    by_cases hs : StrOk s
    · rw [(rstring_tells s h1).val hs]
      simp only [Option.bind_some, Bool.not_true, cond_false]
      by_cases hr : RdsOk s l
      · rw [(rreadings_tells hs l h2).val hr]
        exact .inr ⟨⟨hl, hs, hr⟩, rfl⟩
      · rw [(rreadings_tells hs l h2).nval hr]
        exact .inl ⟨hl, fun h => hr h.2.2, rfl⟩
    · rw [(rstring_tells s h1).nval hs]
      exact .inl ⟨hl, fun h => hs h.2.1, rfl⟩
  · have : decide ((l.length : Int) > 24) = true := decide_eq_true (by omega)
    rw [this, cond_true]
    exact .inl ⟨by omega, rfl⟩
def Rising (L : List Int) (B : Int) : Prop := ∀ i, i < L.length → (0 ≤ L.getD i 0 ∧ L.getD i 0 < B) ∧ (0 < i → L.getD (i - 1) 0 < L.getD i 0)
def CauseOk (s : E23) (c : E26) : Prop := Rising (c.1) ((s.2.2.2.2.1).length : Int) ∧ Rising (c.2.1) (s.2.2.2.1)
theorem toNat_pred {i : Nat} (h : 0 < i) (h2 : i < 2 ^ 62) : IntKind.wrap .i64 ((i : Int) - 1) = ((i - 1 : Nat) : Int) := by rw [wr (by omega) (by omega)]; omega
theorem has_tells (L : List Int) (n : Int) (hl : L.length < 2 ^ 62) : Tells (G29 L n) (n ∈ L) := by
  unfold G29 G29_l0_run
  have key := iter_fn (step := G29_l0_step) (n := L.length) (k1 := 0) (k2 := 1) (fuel := G29_l0_fuel ((L, (n, (false, (0, ())))), ()))
    (bad := fun i => L.getD i 0 == n)
    (fun i => ((L, (n, (false, ((i : Int), ())))), ())) (fun i => ((L, (n, (true, ((i : Int), ())))), ())) ((L, (n, (false, ((L.length : Int), ())))), ()) (fun i hi => by
      unfold G29_l0_step
      simp only [lt_int hi, ge0, Bool.and_self, cond_true, getD_toNat, wr1 (i := i) (by omega)]
      cases L.getD i 0 == n <;> rfl) (by
      unfold G29_l0_step
      simp only [nlt_int, cond_false]) (by unfold G29_l0_fuel; simp)
  rcases key with ⟨j, hj, hb, _, he⟩ | ⟨hall, he⟩
  · rw [show iter G29_l0_step (G29_l0_fuel ((L, (n, (false, (0, ())))), ())) ((L, (n, (false, (0, ())))), ()) = _ from he]
    exact tells_t (by rw [← (beq_iff_eq.1 hb)]; exact getD_mem hj)
  · rw [show iter G29_l0_step (G29_l0_fuel ((L, (n, (false, (0, ())))), ())) ((L, (n, (false, (0, ())))), ()) = _ from he]
    refine tells_f fun h => ?_
    obtain ⟨i, hi, he⟩ := List.mem_iff_getElem.1 h
    have := hall i hi
    rw [List.getD_eq_getElem?_getD, List.getElem?_eq_getElem hi] at this
    simp [he] at this
end Go.Proofs.YtibmgbalfhfcdaaDoor.Abs
set_option linter.unusedVariables false
set_option linter.unusedSimpArgs false
set_option maxRecDepth 100000
namespace Go.Proofs.YtibmgbalfhfcdaaDoor.Abs
open Classical
def orL (out first : Nat) (L : List Int) : Nat → Nat
  | 0 => out
  | k + 1 => orL out first L k ||| 2 ^ (first + (L.getD k 0).toNat)
theorem orL_bit (out first : Nat) (L : List Int) (j : Nat) : ∀ k, (orL out first L k).testBit j = (out.testBit j || decide (∃ i, i < k ∧ first + (L.getD i 0).toNat = j))
  | 0 => by simp [orL]
  | k + 1 => by
    simp only [orL, Nat.testBit_or, orL_bit out first L j k, Nat.testBit_two_pow, Bool.or_assoc]
    congr 1
    rw [← Bool.decide_or, decide_eq_decide]
    constructor
    · rintro (⟨i, h1, h2⟩ | h)
      · exact ⟨i, by omega, h2⟩
      · exact ⟨k, by omega, h⟩
    · rintro ⟨i, h1, h2⟩
      rcases Nat.lt_succ_iff_lt_or_eq.1 h1 with h | h
      · exact .inl ⟨i, h, h2⟩
      · subst h; exact .inr h2
def bitsOf (s : E23) (c : E26) : Nat := orL (orL 0 0 (c.1) (c.1).length) (s.2.2.2.2.1).length (c.2.1) (c.2.1).length
theorem mem_getD {L : List Int} {n : Int} : n ∈ L ↔ ∃ i, i < L.length ∧ L.getD i 0 = n := by
  constructor
  · intro h
    obtain ⟨i, hi, he⟩ := List.mem_iff_getElem.1 h
    exact ⟨i, hi, by rw [List.getD_eq_getElem?_getD, List.getElem?_eq_getElem hi]; exact he⟩
  · rintro ⟨i, hi, rfl⟩; exact getD_mem hi
theorem bitsOf_bit {s : E23} {c : E26} (hc : CauseOk s c) (j : Nat) : (bitsOf s c).testBit j = (decide ((j : Int) ∈ c.1) || decide ((s.2.2.2.2.1).length ≤ j ∧ ((j - (s.2.2.2.2.1).length : Nat) : Int) ∈ c.2.1)) := by
  unfold bitsOf
  rw [orL_bit, orL_bit]
  simp only [Nat.zero_testBit, Bool.false_or, Nat.zero_add]
  congr 1
  · rw [decide_eq_decide, mem_getD]
    constructor
    · rintro ⟨i, hi, he⟩
      have := (hc.1 i hi).1.1
      exact ⟨i, hi, by omega⟩
    · rintro ⟨i, hi, he⟩
      exact ⟨i, hi, by omega⟩
  · rw [decide_eq_decide]
    constructor
    · rintro ⟨i, hi, he⟩
      have := (hc.2 i hi).1.1
      refine ⟨by omega, mem_getD.2 ⟨i, hi, by omega⟩⟩
    · rintro ⟨h0, h⟩
      obtain ⟨i, hi, he⟩ := mem_getD.1 h
      exact ⟨i, hi, by omega⟩
def Ex (s : E23) (l : List E72) (b : Nat) : Prop := ∀ d : Nat, (d : Int) < s.2.2.2.1 → ∃ m T, DC s l b d m T
theorem explains_eq {s : E23} {l : List E72} (hs : StrOk s) (hl : RdsOk s l) (hn : l.length ≤ 1000) {b : Nat} (hb : b < 2 ^ 62) {M : List (E56 × E94)} (hM : MemoOk s l M) :
    ∃ r M', G52 b (XX s l) M = some (r, (XX s l, (M', ()))) ∧ (r = true ↔ Ex s l b) ∧ MemoOk s l M' := by
  have hdep := hs.depths
  unfold G52 G52_l0_run
  obtain ⟨k, q, h1, h2⟩ := iter_ex (step := G52_l0_step) (n := (s.2.2.2.1).toNat)
    (fun i st => ∃ M', st = (((b : Int), (false, (s.2.2.2.1, ((i : Int), ())))), (XX s l, (M', ()))) ∧ MemoOk s l M' ∧ ∀ d : Nat, d < i → ∃ m T, DC s l b d m T)
    (fun k st => ∃ r u M', st = (((b : Int), (r, u)), (XX s l, (M', ()))) ∧ MemoOk s l M' ∧ ((k = 0 ∧ r = false ∧ ¬ Ex s l b) ∨ (k = 1 ∧ Ex s l b)))
    (by
      rintro i st ⟨M', rfl, hM', hd⟩ hi
      have hlt : decide ((i : Int) < s.2.2.2.1) = true := decide_eq_true (by omega)
      obtain ⟨v, M2, e1, e2, e3⟩ := depth_eq hs hl hn hb (d := i) (by omega) hM'
      unfold G52_l0_step
      simp only [hlt, cond_true, wr1 (i := i) (by omega)]
      rw [show G54 (i : Int) (b : Int) ((XX s l).1, ((XX s l).2.1, ((), (XX s l).2.2.2))) M' = _ from e1]
      simp only [Option.bind_some]
      cases hv : v.2.1 with
      | true =>
        simp only [Bool.not_true, cond_false]
        refine .inl ⟨_, rfl, _, rfl, e3, fun d hd' => ?_⟩
        rcases Nat.lt_succ_iff_lt_or_eq.1 hd' with h | h
        · exact hd d h
        · subst h; exact e2.can.1 hv
      | false =>
        simp only [Bool.not_false, cond_true]
        refine .inr ⟨0, _, rfl, _, _, _, rfl, e3, .inl ⟨rfl, rfl, fun h => ?_⟩⟩
        have := e2.can.2 (h i (by omega))
        rw [hv] at this; cases this)
    (by
      rintro st ⟨M', rfl, hM', hd⟩
      have hlt : decide ((((s.2.2.2.1).toNat : Nat) : Int) < s.2.2.2.1) = false := decide_eq_false (by omega)
      unfold G52_l0_step
      simp only [hlt, cond_false]
      exact ⟨1, _, rfl, _, _, _, rfl, hM', .inr ⟨rfl, fun d hd' => hd d (by omega)⟩⟩)
    (s.2.2.2.1).toNat 0 (G52_l0_fuel (((b : Int), (false, (s.2.2.2.1, (0, ())))), (XX s l, (M, ())))) (((b : Int), (false, (s.2.2.2.1, (0, ())))), (XX s l, (M, ())))
    (by omega) (by unfold G52_l0_fuel; simp only; omega) ⟨M, rfl, hM, fun d hd => absurd hd (by omega)⟩
  rw [show iter G52_l0_step (G52_l0_fuel (((b : Int), (false, ((XX s l).1.2.2.2.1, (0, ())))), (((XX s l).1, ((XX s l).2.1, ((), (XX s l).2.2.2))), (M, ())))) (((b : Int), (false, ((XX s l).1.2.2.2.1, (0, ())))), (((XX s l).1, ((XX s l).2.1, ((), (XX s l).2.2.2))), (M, ()))) = _ from h1]
  obtain ⟨r, u, M', rfl, hM', ⟨rfl, rfl, hE⟩ | ⟨rfl, hE⟩⟩ := h2
  · exact ⟨false, M', rfl, by simp [hE], hM'⟩
  · exact ⟨true, M', rfl, by simp [hE], hM'⟩
end Go.Proofs.YtibmgbalfhfcdaaDoor.Abs
set_option linter.unusedVariables false
set_option linter.unusedSimpArgs false
set_option maxRecDepth 100000
namespace Go.Proofs.YtibmgbalfhfcdaaDoor.Abs
open Classical
def comb (n : Nat) : (rem left now : Nat) → List Nat
  | 0, left, now => if left = 0 then [now] else []
  | rem + 1, 0, now => [now]
  | rem + 1, left + 1, now => comb n rem left (now ||| 2 ^ (n - (rem + 1))) ++ comb n rem (left + 1) now
theorem comb_zero (n rem now : Nat) : comb n rem 0 now = [now] := by cases rem <;> simp [comb]
theorem comb_len (n : Nat) : ∀ rem left now, (comb n rem left now).length ≤ 2 ^ rem
  | 0, left, now => by simp only [comb]; split <;> simp
  | rem + 1, 0, now => by simp only [comb, List.length_singleton]; exact Nat.one_le_two_pow
  | rem + 1, left + 1, now => by
    have h1 := comb_len n rem left (now ||| 2 ^ (n - (rem + 1)))
    have h2 := comb_len n rem (left + 1) now
    simp only [comb, List.length_append]
    rw [Nat.pow_succ]; omega
def low (b i : Nat) : Prop := ∀ j, i ≤ j → b.testBit j = false
theorem low_lt {b i : Nat} (h : low b i) : b < 2 ^ i := Nat.lt_pow_two_of_testBit _ fun j hj => by simp [h j hj]
theorem low_or {b i : Nat} (h : low b i) : low (b ||| 2 ^ i) (i + 1) := fun j hj => by
  rw [Nat.testBit_or, h j (by omega), Nat.testBit_two_pow]; simp; omega
theorem low_mono {b i k : Nat} (h : low b i) (hk : i ≤ k) : low b k := fun j hj => h j (by omega)
theorem comb_low (n : Nat) : ∀ rem left now, rem ≤ n → low now (n - rem) → ∀ b ∈ comb n rem left now, low b n
  | 0, left, now, hr, h, b, hb => by
    simp only [comb] at hb
    split at hb
    · simp only [List.mem_singleton] at hb; subst hb; exact h
    · cases hb
  | rem + 1, 0, now, hr, h, b, hb => by
    simp only [comb, List.mem_singleton] at hb
    subst hb; exact low_mono h (by omega)
  | rem + 1, left + 1, now, hr, h, b, hb => by
    simp only [comb, List.mem_append] at hb
    rcases hb with hb | hb
    · refine comb_low n rem left _ (by omega) ?_ b hb
      have := low_or h
      have e : n - (rem + 1) + 1 = n - rem := by omega
      rwa [e] at this
    · exact comb_low n rem (left + 1) now (by omega) (low_mono h (by omega)) b hb
def cnt (b : Nat) : Nat → Nat
  | 0 => 0
  | k + 1 => cnt b k + (bif b.testBit k then 1 else 0)
theorem cnt_le (b : Nat) : ∀ k, cnt b k ≤ k
  | 0 => Nat.le_refl _
  | k + 1 => by have := cnt_le b k; simp only [cnt]; cases b.testBit k <;> simp <;> omega
theorem cnt_or {b i : Nat} (h : b.testBit i = false) : ∀ k, cnt (b ||| 2 ^ i) k = cnt b k + (if i < k then 1 else 0)
  | 0 => by simp [cnt]
  | k + 1 => by
    simp only [cnt, cnt_or h k, Nat.testBit_or, Nat.testBit_two_pow]
    by_cases hk : i = k
    · subst hk
      simp [h]
    · have e : decide (i = k) = false := decide_eq_false hk
      rw [e, Bool.or_false]
      by_cases h1 : i < k
      · rw [if_pos h1, if_pos (by omega)]; omega
      · rw [if_neg h1, if_neg (by omega)]; simp
theorem cnt_low {b i : Nat} (h : low b i) : ∀ k, i ≤ k → cnt b k = cnt b i
  | 0, hk => by have : i = 0 := by omega
                subst this; rfl
  | k + 1, hk => by
    by_cases he : i = k + 1
    · subst he; rfl
    · simp only [cnt, h k (by omega), cond_false, Nat.add_zero]
      exact cnt_low h k (by omega)
theorem comb_cnt (n : Nat) : ∀ rem left now, rem ≤ n → low now (n - rem) → ∀ b ∈ comb n rem left now, cnt b n = cnt now n + left
  | 0, left, now, hr, h, b, hb => by
    simp only [comb] at hb
    split at hb
    · rename_i h0
      simp only [List.mem_singleton] at hb; subst hb; omega
    · cases hb
  | rem + 1, 0, now, hr, h, b, hb => by
    simp only [comb, List.mem_singleton] at hb
    subst hb; rfl
  | rem + 1, left + 1, now, hr, h, b, hb => by
    simp only [comb, List.mem_append] at hb
    rcases hb with hb | hb
    · have := comb_cnt n rem left _ (by omega) (by
        have := low_or h
        have e : n - (rem + 1) + 1 = n - rem := by omega
        rwa [e] at this) b hb
      rw [this, cnt_or (h _ (Nat.le_refl _)), if_pos (by omega)]
      omega
    · exact comb_cnt n rem (left + 1) now (by omega) (low_mono h (by omega)) b hb
def ups (n : Nat) (p : Nat → Bool) : List Int := ((List.range n).filter p).map fun (i : Nat) => (i : Int)
theorem ups_succ (n : Nat) (p : Nat → Bool) : ups (n + 1) p = ups n p ++ (bif p n then [(n : Int)] else []) := by
  unfold ups
  rw [List.range_succ, List.filter_append, List.map_append]
  congr 1
  cases h : p n <;> simp [h]
theorem ups_mem {n : Nat} {p : Nat → Bool} {x : Int} : x ∈ ups n p ↔ ∃ i : Nat, i < n ∧ p i = true ∧ x = i := by
  unfold ups
  simp only [List.mem_map, List.mem_filter, List.mem_range]
  constructor
  · rintro ⟨i, ⟨h1, h2⟩, rfl⟩; exact ⟨i, h1, h2, rfl⟩
  · rintro ⟨i, h1, h2, rfl⟩; exact ⟨i, ⟨h1, h2⟩, rfl⟩
def causeOf (s : E23) (b : Nat) : E26 := (ups (s.2.2.2.2.1).length b.testBit, (ups (s.2.2.2.1).toNat (fun i => b.testBit ((s.2.2.2.2.1).length + i)), ()))
def nC (s : E23) : Nat := (s.2.2.2.2.1).length + (s.2.2.2.1).toNat
theorem many_eq {s : E23} (hs : StrOk s) (l : List E72) : G64 (XX s l) = some ((nC s : Nat) : Int) := by
  have := hs.len
  have := hs.depths
  unfold G64 nC
  rw [wr (by simp only; omega) (by simp only; omega)]
  congr 1
  simp only
  omega
end Go.Proofs.YtibmgbalfhfcdaaDoor.Abs
set_option maxRecDepth 1000000
namespace Go.Proofs.YtibmgbalfhfcdaaDoor.Abs
theorem known_ok : G15 = some true := by kernel_rfl
end Go.Proofs.YtibmgbalfhfcdaaDoor.Abs
