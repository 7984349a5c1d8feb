import Derived.Test.YtcijddeommognaaDoorX1
import Derived.IntWalk
import Derived.Lib.Split
import Derived.Lib.ItoaMem
import Derived.Test.YtcijddeommognaaDoorF2
set_option linter.unusedVariables false
set_option linter.unusedSimpArgs false
set_option maxRecDepth 100000
namespace Go.Proofs.YtcijddeommognaaDoor.Abs
theorem wr {n : Int} (h : -9223372036854775808 ≤ n) (h' : n ≤ 9223372036854775807) : IntKind.wrap .i64 n = n := by rw [IntKind.wrap_i64]; omega
theorem wr1 {i : Nat} (h : i < 2 ^ 62) : IntKind.wrap .i64 ((i : Int) + 1) = ((i + 1 : Nat) : Int) := by rw [wr (by omega) (by omega)]; omega
theorem iter_one {α : Type} {step : α → Option (Nat × α)} {fuel : Nat} {s s' : α} (h : step s = some (0, s')) : iter step (fuel + 1) s = iter step fuel s' := by
  simp only [iter, h, Option.bind_some]
theorem iter_out {α : Type} {step : α → Option (Nat × α)} {fuel n : Nat} {s s' : α} (h : step s = some (n + 1, s')) : iter step (fuel + 1) s = some (n, s') := by
  simp only [iter, h, Option.bind_some]
theorem iter_fn' {α : Type} {step : α → Option (Nat × α)} {n k1 k2 : Nat} {bad : Nat → Bool} (F X : Nat → α) (Y : α) (hgo : ∀ i, i < n → step (F i) = some (bif bad i then (k1 + 1, X i) else (0, F (i + 1)))) (hend : step (F n) = some (k2 + 1, Y)) :
    ∀ (m i fuel : Nat), i + m = n → m < fuel → (∃ j, i ≤ j ∧ j < n ∧ bad j = true ∧ (∀ l, i ≤ l → l < j → bad l = false) ∧ iter step fuel (F i) = some (k1, X j)) ∨ ((∀ l, i ≤ l → l < n → bad l = false) ∧ iter step fuel (F i) = some (k2, Y))
  | _, _, 0, _, hf => by omega
  | 0, i, fuel + 1, hi, hf => by
    obtain rfl : i = n := by omega
    exact .inr ⟨fun l h h' => by omega, iter_out hend⟩
  | m + 1, i, fuel + 1, hi, hf => by
    have h := hgo i (by omega)
    cases hb : bad i with
    | true =>
      rw [hb] at h
      exact .inl ⟨i, Nat.le_refl _, by omega, hb, fun l h h' => by omega, iter_out h⟩
    | false =>
      rw [hb] at h
      rw [iter_one h]
      rcases iter_fn' F X Y hgo hend m (i + 1) fuel (by omega) (by omega) with ⟨j, a1, a2, a3, a4, a5⟩ | ⟨a1, a2⟩
      · refine .inl ⟨j, by omega, a2, a3, fun l h h' => ?_, a5⟩
        rcases Nat.eq_or_lt_of_le h with rfl | h
        · exact hb
        · exact a4 l h h'
      · refine .inr ⟨fun l h h' => ?_, a2⟩
        rcases Nat.eq_or_lt_of_le h with rfl | h
        · exact hb
        · exact a1 l h h'
theorem iter_fn {α : Type} {step : α → Option (Nat × α)} {n k1 k2 fuel : Nat} {bad : Nat → Bool} (F X : Nat → α) (Y : α) (hgo : ∀ i, i < n → step (F i) = some (bif bad i then (k1 + 1, X i) else (0, F (i + 1)))) (hend : step (F n) = some (k2 + 1, Y)) (hf : n < fuel) :
    (∃ j, j < n ∧ bad j = true ∧ (∀ l, l < j → bad l = false) ∧ iter step fuel (F 0) = some (k1, X j)) ∨ ((∀ l, l < n → bad l = false) ∧ iter step fuel (F 0) = some (k2, Y)) := by
  rcases iter_fn' F X Y hgo hend n 0 fuel (by omega) hf with ⟨j, _, h⟩ | ⟨h, h'⟩
  · exact .inl ⟨j, h.1, h.2.1, fun l hl => h.2.2.1 l (Nat.zero_le _) hl, h.2.2.2⟩
  · exact .inr ⟨fun l hl => h l (Nat.zero_le _) hl, h'⟩
theorem iter_run {α : Type} {step : α → Option (Nat × α)} {n k fuel : Nat} (F : Nat → α) (Y : α) (hgo : ∀ i, i < n → step (F i) = some (0, F (i + 1))) (hend : step (F n) = some (k + 1, Y)) (hf : n < fuel) : iter step fuel (F 0) = some (k, Y) := by
  rcases iter_fn (bad := fun _ => false) (k1 := 0) F F Y hgo hend hf with ⟨j, _, h, _⟩ | ⟨_, h⟩
  · cases h
  · exact h
def Tells (f : Option Bool) (P : Prop) : Prop := ∃ b, f = some b ∧ (b = true ↔ P)
theorem Tells.iff {f : Option Bool} {P Q : Prop} (h : Tells f P) (e : P ↔ Q) : Tells f Q := by obtain ⟨b, h1, h2⟩ := h; exact ⟨b, h1, h2.trans e⟩
theorem tells_dec {p : Prop} [Decidable p] : Tells (some (decide p)) p := ⟨_, rfl, decide_eq_true_iff⟩
theorem tells_f {P : Prop} (h : ¬ P) : Tells (some false) P := ⟨false, rfl, by simp [h]⟩
theorem tells_t {P : Prop} (h : P) : Tells (some true) P := ⟨true, rfl, by simp [h]⟩
theorem three_lt {k : Nat} (h : k < 3) : (decide (0 ≤ (k : Int)) && decide ((k : Int) < (3 : Int))) = true := by simp; omega
theorem three_lt' {k : Nat} (h : k < 3) : decide ((k : Int) < (3 : Int)) = true := by simp; omega
theorem tells_and {f g : Option Bool} {P Q : Prop} (h : Tells f P) (k : P → Tells g Q) : Tells (Option.bind f fun r => bif r then g else some false) (P ∧ Q) := by
  obtain ⟨b, rfl, h2⟩ := h
  cases b with
  | true =>
    have hp := h2.1 rfl
    obtain ⟨c, h3, h4⟩ := k hp
    exact ⟨c, by simpa using h3, by simp [h4, hp]⟩
  | false => exact ⟨false, rfl, by simp; intro hp; exact absurd (h2.2 hp) (by simp)⟩
theorem tells_cond {g : Option Bool} {p Q : Prop} [Decidable p] (k : p → Tells g Q) : Tells (bif decide p then g else some false) (p ∧ Q) := by
  by_cases hp : p
  · obtain ⟨c, h3, h4⟩ := k hp
    exact ⟨c, by simpa [hp] using h3, by simp [h4, hp]⟩
  · exact ⟨false, by simp [hp], by simp [hp]⟩
theorem tells_bind {f : Option Bool} {P : Prop} (h : Tells f P) : Tells (Option.bind f fun r => some r) P := by obtain ⟨b, rfl, h2⟩ := h; exact ⟨b, rfl, h2⟩
theorem tells_not {f : Option Bool} {P : Prop} (h : Tells f P) : Tells (Option.bind f fun r => some (!r)) (¬ P) := by obtain ⟨b, rfl, h2⟩ := h; exact ⟨!b, rfl, by rw [← h2]; simp⟩
theorem Tells.val {f : Option Bool} {P : Prop} (h : Tells f P) (hp : P) : f = some true := by obtain ⟨b, rfl, h2⟩ := h; rw [h2.2 hp]
theorem Tells.nval {f : Option Bool} {P : Prop} (h : Tells f P) (hp : ¬ P) : f = some false := by
  obtain ⟨b, rfl, h2⟩ := h
  cases b with
  | true => exact absurd (h2.1 rfl) hp
  | false => rfl
theorem getD_toNat {α : Type} (l : List α) (i : Nat) (d : α) : List.getD l (Int.toNat (i : Int)) d = l.getD i d := by simp
theorem inside_lt {i n : Nat} (h : i < n) : (decide (0 ≤ (i : Int)) && decide ((i : Int) < (n : Int))) = true := by simp; omega
theorem ge0 (i : Nat) : decide (0 ≤ (i : Int)) = true := by simp
theorem lt_int {i n : Nat} (h : i < n) : decide ((i : Int) < (n : Int)) = true := by simp; omega
theorem nlt_int (n : Nat) : decide ((n : Int) < (n : Int)) = false := by simp
theorem getD_mem {α : Type} {l : List α} {i : Nat} {d : α} (h : i < l.length) : l.getD i d ∈ l := by
  rw [List.getD_eq_getElem?_getD, List.getElem?_eq_getElem h]; exact List.getElem_mem h
theorem forall_getD {α : Type} {l : List α} (d : α) {p : α → Prop} : (∀ i, i < l.length → p (l.getD i d)) ↔ ∀ x ∈ l, p x := by
  constructor
  · intro h x hx
    obtain ⟨i, hi, rfl⟩ := List.mem_iff_getElem.1 hx
    have := h i hi
    rwa [List.getD_eq_getElem?_getD, List.getElem?_eq_getElem hi] at this
  · intro h i hi
    exact h _ (getD_mem hi)
end Go.Proofs.YtcijddeommognaaDoor.Abs
set_option linter.unusedVariables false
set_option linter.unusedSimpArgs false
set_option maxRecDepth 100000
namespace Go.Proofs.YtcijddeommognaaDoor.Abs
theorem snoc_rec {α : Type} {P : List α → Prop} (h0 : P []) (h1 : ∀ l b, P l → P (l ++ [b])) (l : List α) : P l := by
  have : ∀ (n : Nat) (l : List α), l.length = n → P l := by
    intro n
    induction n with
    | zero => intro l hl; rw [List.length_eq_zero_iff.1 hl]; exact h0
    | succ n ih =>
      intro l hl
      rcases List.eq_nil_or_concat l with h | ⟨l', b, h⟩
      · subst h; simp at hl
      · subst h
        rw [List.concat_eq_append] at hl ⊢
        refine h1 _ _ (ih _ ?_)
        simpa using hl
  exact this _ l rfl
theorem iter_fnp' {α : Type} {step : α → Option (Nat × α)} {n k1 k2 : Nat} {bad : Nat → Bool} (F X : Nat → α) (Y : α) (hgo : ∀ i, i < n → (∀ l, l < i → bad l = false) → step (F i) = some (bif bad i then (k1 + 1, X i) else (0, F (i + 1)))) (hend : (∀ l, l < n → bad l = false) → step (F n) = some (k2 + 1, Y)) :
    ∀ (m i fuel : Nat), i + m = n → m < fuel → (∀ l, l < i → bad l = false) → (∃ j, j < n ∧ bad j = true ∧ (∀ l, l < j → bad l = false) ∧ iter step fuel (F i) = some (k1, X j)) ∨ ((∀ l, l < n → bad l = false) ∧ iter step fuel (F i) = some (k2, Y))
  | _, _, 0, _, hf, _ => by omega
  | 0, i, fuel + 1, hi, hf, hp => by
    obtain rfl : i = n := by omega
    exact .inr ⟨hp, iter_out (hend hp)⟩
  | m + 1, i, fuel + 1, hi, hf, hp => by
    have h := hgo i (by omega) hp
    cases hb : bad i with
    | true =>
      rw [hb] at h
      exact .inl ⟨i, by omega, hb, hp, iter_out h⟩
    | false =>
      rw [hb] at h
      rw [iter_one h]
      exact iter_fnp' F X Y hgo hend m (i + 1) fuel (by omega) (by omega) fun l hl => by
        rcases Nat.lt_succ_iff_lt_or_eq.1 hl with h1 | h1
        · exact hp l h1
        · rw [h1]; exact hb
theorem iter_fnp {α : Type} {step : α → Option (Nat × α)} {n k1 k2 fuel : Nat} {bad : Nat → Bool} (F X : Nat → α) (Y : α) (hgo : ∀ i, i < n → (∀ l, l < i → bad l = false) → step (F i) = some (bif bad i then (k1 + 1, X i) else (0, F (i + 1)))) (hend : (∀ l, l < n → bad l = false) → step (F n) = some (k2 + 1, Y)) (hf : n < fuel) :
    (∃ j, j < n ∧ bad j = true ∧ (∀ l, l < j → bad l = false) ∧ iter step fuel (F 0) = some (k1, X j)) ∨ ((∀ l, l < n → bad l = false) ∧ iter step fuel (F 0) = some (k2, Y)) :=
  iter_fnp' F X Y hgo hend n 0 fuel (by omega) hf fun l hl => by omega
abbrev bl (b : ByteArray) : List UInt8 := b.data.toList
def mkB (l : List UInt8) : ByteArray := ⟨l.toArray⟩
theorem bl_mk (l : List UInt8) : bl (mkB l) = l := rfl
theorem mk_bl (b : ByteArray) : mkB (bl b) = b := by obtain ⟨⟨l⟩⟩ := b; rfl
theorem bl_inj {a b : ByteArray} (h : bl a = bl b) : a = b := by rw [← mk_bl a, ← mk_bl b, h]
theorem bl_app (a b : ByteArray) : bl (ByteArray.append a b) = bl a ++ bl b := by
  have : ByteArray.append a b = a ++ b := rfl
  rw [this]
  show (a ++ b).data.toList = _
  rw [ByteArray.data_append, Array.toList_append]
theorem bl_len (a : ByteArray) : a.size = (bl a).length := Lib.size_eq a
theorem bl_ext (s : ByteArray) (a b : Nat) : bl (s.extract a b) = ((bl s).drop a).take (b - a) := Lib.extract_data s a b
theorem beq_bl (a b : ByteArray) : (ByteArray.toList a == ByteArray.toList b) = decide (bl a = bl b) := by
  rw [Lib.toList_data, Lib.toList_data]
  by_cases h : bl a = bl b
  · rw [decide_eq_true h, show a.data.toList = b.data.toList from h]; simp
  · rw [decide_eq_false h]; simpa using h
theorem bt_at {s : ByteArray} {i : Nat} (h : i < (bl s).length) : bt s (i : Int) = (((bl s)[i]).toNat : Int) := by
  unfold bt
  have h' : i < s.data.size := by simpa using h
  rw [Array.getD_eq_getD_getElem?, show (i : Int).toNat = i from rfl, Array.getElem?_eq_getElem h']
  simp
theorem get_bl {s : ByteArray} {i : Nat} (h : i < (bl s).length) : s.get! i = (bl s)[i] := by
  have h' : i < s.data.size := by simpa using h
  show s.data[i]! = _
  rw [getElem!_pos s.data i h']
  simp
theorem dec_asc {s : ByteArray} {i : Nat} (h : i < (bl s).length) (hb : ((bl s)[i]).toNat < 128) : Utf8.decode s i = (((bl s)[i]).toNat, 1) := by
  unfold Utf8.decode
  simp only [Nat.add_zero, get_bl h]
  rw [if_pos hb]
theorem dec_hi {s : ByteArray} {i : Nat} (h : i < (bl s).length) (hb : ¬ ((bl s)[i]).toNat < 128) : 128 ≤ (Utf8.decode s i).1 := by
  unfold Utf8.decode
  simp only [Nat.add_zero, get_bl h]
  rw [if_neg hb]
  split
  · split
    · assumption
    · decide
  · split
    · split
      · rename_i hh
        simp only [Bool.and_eq_true, decide_eq_true_eq] at hh
        have := hh.1
        omega
      · decide
    · split
      · split
        · rename_i hh
          simp only [Bool.and_eq_true, decide_eq_true_eq] at hh
          have := hh.1
          omega
        · decide
      · decide
def isDg (b : UInt8) : Prop := 48 ≤ b.toNat ∧ b.toNat ≤ 57
instance (b : UInt8) : Decidable (isDg b) := by unfold isDg; infer_instance
theorem dg_of {n : Nat} (h : n < 10) : (UInt8.ofNat (48 + n)).toNat = 48 + n := by
  rw [UInt8.toNat_ofNat']; omega
theorem dd_small {n : Nat} (h : n < 10) : Lib.decDigits n = [UInt8.ofNat (48 + n)] := by rw [Lib.decDigits, dif_pos h]
theorem dd_big {n : Nat} (h : ¬ n < 10) : Lib.decDigits n = Lib.decDigits (n / 10) ++ [UInt8.ofNat (48 + n % 10)] := by rw [Lib.decDigits, dif_neg h]
theorem dd_dg (n : Nat) : ∀ b ∈ Lib.decDigits n, isDg b := by
  induction n using Nat.strongRecOn with
  | _ n ih =>
    by_cases h : n < 10
    · rw [dd_small h]
      intro b hb
      simp only [List.mem_singleton] at hb
      subst hb
      unfold isDg
      rw [dg_of h]; omega
    · rw [dd_big h]
      intro b hb
      rcases List.mem_append.1 hb with hb | hb
      · exact ih (n / 10) (by omega) b hb
      · simp only [List.mem_singleton] at hb
        subst hb
        unfold isDg
        rw [dg_of (Nat.mod_lt _ (by decide))]; omega
def valD (l : List UInt8) : Nat := l.foldl (fun a b => 10 * a + (b.toNat - 48)) 0
theorem valD_snoc (l : List UInt8) (b : UInt8) : valD (l ++ [b]) = 10 * valD l + (b.toNat - 48) := by unfold valD; rw [List.foldl_append]; rfl
theorem valD_dd (n : Nat) : valD (Lib.decDigits n) = n := by
  induction n using Nat.strongRecOn with
  | _ n ih =>
    by_cases h : n < 10
    · rw [dd_small h]
      show 10 * 0 + ((UInt8.ofNat (48 + n)).toNat - 48) = n
      rw [dg_of h]; omega
    · rw [dd_big h, valD_snoc, ih (n / 10) (by omega), dg_of (Nat.mod_lt _ (by decide))]; omega
theorem dd_inj {a b : Nat} (h : Lib.decDigits a = Lib.decDigits b) : a = b := by rw [← valD_dd a, ← valD_dd b, h]
theorem dd_ne (n : Nat) : Lib.decDigits n ≠ [] := by
  by_cases h : n < 10
  · rw [dd_small h]; simp
  · rw [dd_big h]; simp
theorem valD_lt : ∀ (l : List UInt8), (∀ b ∈ l, isDg b) → valD l < 10 ^ l.length := by
  intro l
  refine snoc_rec (P := fun l => (∀ b ∈ l, isDg b) → valD l < 10 ^ l.length) ?_ ?_ l
  · intro _; decide
  · intro l b ih h
    have h1 := ih fun x hx => h x (by simp [hx])
    have h2 := h b (by simp)
    unfold isDg at h2
    rw [valD_snoc, List.length_append, List.length_singleton, Nat.pow_succ]
    omega
theorem dd_len_lt {n k : Nat} (h : (Lib.decDigits n).length ≤ k) : n < 10 ^ k := by
  have := valD_lt _ (dd_dg n)
  rw [valD_dd] at this
  exact Nat.lt_of_lt_of_le this (Nat.pow_le_pow_right (by decide) h)
theorem dd_len_le {n k : Nat} (hk : 1 ≤ k) (h : n < 10 ^ k) : (Lib.decDigits n).length ≤ k := by
  induction k generalizing n with
  | zero => omega
  | succ k ih =>
    by_cases h1 : n < 10
    · rw [dd_small h1]; simp
    · rw [dd_big h1, List.length_append, List.length_singleton]
      by_cases hk0 : k = 0
      · subst hk0; omega
      · have := ih (n := n / 10) (by omega) (by rw [Nat.pow_succ] at h; omega)
        omega
theorem itoa_nat (n : Nat) : Lib.itoa (n : Int) = Lib.decDigits n := Lib.itoa_nonneg n
end Go.Proofs.YtcijddeommognaaDoor.Abs
set_option linter.unusedVariables false
set_option linter.unusedSimpArgs false
set_option maxRecDepth 100000
namespace Go.Proofs.YtcijddeommognaaDoor.Abs
def hcons {α : Type} (b : α) : List (List α) → List (List α)
  | x :: xs => (b :: x) :: xs
  | [] => [[b]]
def happ {α : Type} (a : List α) : List (List α) → List (List α)
  | x :: xs => (a ++ x) :: xs
  | [] => [a]
def spl (c : UInt8) : List UInt8 → List (List UInt8)
  | [] => [[]]
  | b :: l => if b = c then [] :: spl c l else hcons b (spl c l)
theorem hcons_ne {α : Type} (b : α) (x : List (List α)) : hcons b x ≠ [] := by cases x <;> simp [hcons]
theorem spl_ne (c : UInt8) (l : List UInt8) : spl c l ≠ [] := by
  cases l with
  | nil => simp [spl]
  | cons b l =>
    unfold spl
    split
    · simp
    · exact hcons_ne _ _
theorem spl_cases (c : UInt8) (l : List UInt8) : ∃ x xs, spl c l = x :: xs := by
  cases h : spl c l with
  | nil => exact absurd h (spl_ne c l)
  | cons x xs => exact ⟨x, xs, rfl⟩
theorem happ_hcons {α : Type} (b : α) (a : List α) (x : List (List α)) (hx : x ≠ []) : happ (b :: a) x = hcons b (happ a x) := by
  cases x with
  | nil => exact absurd rfl hx
  | cons y ys => rfl
theorem spl_app {c : UInt8} : ∀ {a : List UInt8} (l : List UInt8), c ∉ a → spl c (a ++ l) = happ a (spl c l)
  | [], l, _ => by obtain ⟨y, ys, e⟩ := spl_cases c l; rw [List.nil_append, e]; rfl
  | b :: a, l, h => by
    have h1 : ¬ b = c := fun e => h (by rw [e]; exact List.mem_cons_self)
    rw [List.cons_append, spl, if_neg h1, spl_app l (fun hm => h (List.mem_cons_of_mem _ hm)), happ_hcons _ _ _ (spl_ne c l)]
theorem spl_sep {c : UInt8} {a : List UInt8} (l : List UInt8) (h : c ∉ a) : spl c (a ++ c :: l) = a :: spl c l := by
  rw [spl_app _ h, spl, if_pos rfl]; simp [happ]
theorem spl_one {c : UInt8} {a : List UInt8} (h : c ∉ a) : spl c a = [a] := by
  have := spl_app (c := c) (a := a) [] h
  rw [List.append_nil] at this
  rw [this]; simp [spl, happ]
theorem spl_snoc_c (c : UInt8) : ∀ (l : List UInt8), spl c (l ++ [c]) = spl c l ++ [[]]
  | [] => by simp [spl]
  | b :: l => by
    rw [List.cons_append, spl, spl]
    split
    · rw [spl_snoc_c c l]; rfl
    · rw [spl_snoc_c c l]
      obtain ⟨y, ys, e⟩ := spl_cases c l
      rw [e]; rfl
def jn (c : UInt8) : List (List UInt8) → List UInt8
  | [] => []
  | [x] => x
  | x :: y :: xs => x ++ c :: jn c (y :: xs)
theorem jn_cons (c : UInt8) (x : List UInt8) {xs : List (List UInt8)} (h : xs ≠ []) : jn c (x :: xs) = x ++ c :: jn c xs := by
  cases xs with
  | nil => exact absurd rfl h
  | cons y ys => rfl
theorem jn_spl (c : UInt8) : ∀ (l : List UInt8), jn c (spl c l) = l
  | [] => rfl
  | b :: l => by
    have ih := jn_spl c l
    unfold spl
    split
    · rename_i h
      rw [jn_cons _ _ (spl_ne c l), ih, h]; rfl
    · obtain ⟨y, ys, e⟩ := spl_cases c l
      rw [e] at ih ⊢
      cases ys with
      | nil => show b :: y = b :: l; rw [show y = l from ih]
      | cons z zs =>
        show jn c ((b :: y) :: z :: zs) = _
        rw [jn_cons _ _ (by simp)] at ih ⊢
        rw [List.cons_append, ih]
theorem spl_jn {c : UInt8} : ∀ {xs : List (List UInt8)}, xs ≠ [] → (∀ x ∈ xs, c ∉ x) → spl c (jn c xs) = xs
  | [x], _, h => spl_one (h x List.mem_cons_self)
  | x :: y :: xs, _, h => by
    rw [jn_cons _ _ (by simp), spl_sep _ (h x List.mem_cons_self), spl_jn (by simp) fun z hz => h z (List.mem_cons_of_mem _ hz)]
theorem jn_snoc (c : UInt8) (y : List UInt8) : ∀ {xs : List (List UInt8)}, xs ≠ [] → jn c (xs ++ [y]) = jn c xs ++ c :: y
  | [x], _ => rfl
  | x :: z :: xs, _ => by
    show jn c (x :: ((z :: xs) ++ [y])) = _
    rw [jn_cons c x (xs := (z :: xs) ++ [y]) (by simp), jn_snoc c y (xs := z :: xs) (by simp), jn_cons c x (xs := z :: xs) (by simp)]
    simp
theorem spl_mid {c p : UInt8} (hp : p ≠ c) (v : List UInt8) : ∀ (u : List UInt8), ∃ A m1 m2 B, (∀ q, q ≠ c → spl c (u ++ q :: v) = A ++ [m1 ++ q :: m2] ++ B)
  | [] => by
    obtain ⟨y, ys, e⟩ := spl_cases c v
    refine ⟨[], [], y, ys, fun q hq => ?_⟩
    rw [List.nil_append, spl, if_neg hq, e]; rfl
  | b :: u => by
    obtain ⟨A, m1, m2, B, h⟩ := spl_mid hp v u
    by_cases hb : b = c
    · refine ⟨[] :: A, m1, m2, B, fun q hq => ?_⟩
      rw [List.cons_append, spl, if_pos hb, h q hq]; rfl
    · cases A with
      | nil =>
        refine ⟨[], b :: m1, m2, B, fun q hq => ?_⟩
        rw [List.cons_append, spl, if_neg hb, h q hq]; rfl
      | cons a A =>
        refine ⟨(b :: a) :: A, m1, m2, B, fun q hq => ?_⟩
        rw [List.cons_append, spl, if_neg hb, h q hq]; rfl
theorem idx_sep {c : UInt8} (l : List UInt8) : ∀ {a : List UInt8}, c ∉ a → Lib.indexByte (a ++ c :: l) c = (a.length : Int)
  | [], _ => by unfold Lib.indexByte; simp
  | b :: a, h => by
    have h1 : (b == c) = false := by
      have : b ≠ c := fun e => h (by rw [e]; exact List.mem_cons_self)
      simpa using this
    rw [List.cons_append]
    unfold Lib.indexByte
    rw [h1, idx_sep l fun hm => h (List.mem_cons_of_mem _ hm)]
    have : ((a.length : Int) == -1) = false := by
      have : (a.length : Int) ≠ -1 := by omega
      exact beq_eq_false_iff_ne.2 this
    rw [this]
    simp
theorem split_at {c : UInt8} : ∀ (l : List UInt8), c ∉ l ∨ ∃ a r, c ∉ a ∧ l = a ++ c :: r
  | [] => .inl (by simp)
  | b :: l => by
    by_cases hb : b = c
    · exact .inr ⟨[], l, by simp, by rw [hb]; rfl⟩
    · rcases split_at (c := c) l with h | ⟨a, r, h, e⟩
      · exact .inl fun hm => by
          rcases List.mem_cons.1 hm with h1 | h1
          · exact hb h1.symm
          · exact h h1
      · exact .inr ⟨b :: a, r, fun hm => by
          rcases List.mem_cons.1 hm with h1 | h1
          · exact hb h1.symm
          · exact h h1, by rw [e]; rfl⟩
theorem cnt_free {c : UInt8} {l : List UInt8} (h : c ∉ l) : l.count c = 0 := List.count_eq_zero.2 h
theorem splK_spl (c : UInt8) : ∀ (n : Nat) (l : List UInt8), l.count c = n → Lib.splitK [c] 0 n l = spl c l := by
  intro n
  induction n with
  | zero =>
    intro l h
    rw [spl_one (List.count_eq_zero.1 h)]; rfl
  | succ n ih =>
    intro l h
    rcases split_at (c := c) l with h1 | ⟨a, r, h1, rfl⟩
    · rw [cnt_free h1] at h; omega
    · have h2 : r.count c = n := by
        rw [List.count_append, List.count_cons, cnt_free h1] at h
        simp at h; exact h
      unfold Lib.splitK
      rw [index_one, idx_sep r h1]
      have : ((a.length : Int) == -1) = false := by
        have : (a.length : Int) ≠ -1 := by omega
        exact beq_eq_false_iff_ne.2 this
      rw [this]
      simp only [Bool.false_eq_true, if_false, Int.toNat_natCast, Nat.add_zero, List.length_singleton]
      rw [spl_sep r h1, List.take_left, show a.length + 1 = (a ++ [c]).length by simp, show a ++ c :: r = (a ++ [c]) ++ r by simp, List.drop_left, ih r h2]
theorem genM_eq {s : ByteArray} (c : UInt8) (h : s.size < 2 ^ 31) : genM s ⟨#[c]⟩ 0 (-1) = some ((spl c (bl s)).map mkB) := by
  unfold genM
  simp only
  rw [decide_eq_true (p := s.size < 4294967281) (by omega)]
  simp only [decide_true, Bool.and_self, cond_true, Option.some.injEq]
  have hcn : Lib.countB s ⟨#[c]⟩ = (bl s).count c := by
    show Lib.count s.data.toList [c] = _
    rw [Lib.count_one]
  have h1 := Lib.splitB_data ⟨#[c]⟩ 0 (Lib.countB s ⟨#[c]⟩) s
  rw [hcn] at h1 ⊢
  have h2 : (Lib.splitB ⟨#[c]⟩ 0 ((bl s).count c) s).map bl = spl c (bl s) := by
    rw [show (Lib.splitB ⟨#[c]⟩ 0 ((bl s).count c) s).map bl = _ from h1]
    exact splK_spl c _ _ rfl
  rw [← h2, List.map_map]
  have : (mkB ∘ bl) = id := by funext x; exact mk_bl x
  rw [this, List.map_id]
end Go.Proofs.YtcijddeommognaaDoor.Abs
set_option linter.unusedVariables false
set_option linter.unusedSimpArgs false
set_option maxRecDepth 100000
namespace Go.Proofs.YtcijddeommognaaDoor.Abs
theorem spl_len (c : UInt8) : ∀ (l : List UInt8), (spl c l).length ≤ l.length + 1
  | [] => by simp [spl]
  | b :: l => by
    have ih := spl_len c l
    unfold spl
    split
    · simp; omega
    · obtain ⟨y, ys, e⟩ := spl_cases c l
      rw [e] at ih ⊢
      simp [hcons] at ih ⊢; omega
theorem part_len (c : UInt8) : ∀ (l : List UInt8), ∀ x ∈ spl c l, x.length ≤ l.length
  | [], x, h => by simp [spl] at h; subst h; simp
  | b :: l, x, h => by
    have ih := part_len c l
    unfold spl at h
    split at h
    · rcases List.mem_cons.1 h with rfl | h
      · simp
      · have := ih x h; simp; omega
    · obtain ⟨y, ys, e⟩ := spl_cases c l
      rw [e] at ih h
      rcases List.mem_cons.1 h with rfl | h
      · have := ih y List.mem_cons_self; simp; omega
      · have := ih x (List.mem_cons_of_mem _ h); simp; omega
theorem lim_le {a b : Nat} (h : a + b ≤ 2 ^ 35) : decide (a + b ≤ LIM) = true := decide_eq_true (Nat.le_trans h (by decide))
theorem mkB_size (l : List UInt8) : ByteArray.size (mkB l) = l.length := by rw [bl_len, bl_mk]
theorem app_mk (a b : List UInt8) : ByteArray.append (mkB a) (mkB b) = mkB (a ++ b) := bl_inj (by rw [bl_app, bl_mk, bl_mk, bl_mk])
theorem ext_mk (s : ByteArray) (a b : Nat) : s.extract a b = mkB (((bl s).drop a).take (b - a)) := bl_inj (by rw [bl_ext, bl_mk])
theorem split_eq {s : ByteArray} (c : UInt8) (h : s.size < 2 ^ 31) : G95 s ⟨#[c]⟩ = some ((spl c (bl s)).map mkB) := by
  unfold G95
  rw [genM_eq c h]; rfl
theorem w8_dg {d : Nat} (h : d < 10) : IntKind.wrap .u8 (IntKind.wrap .i64 ((48 : Int) + (d : Int))) = ((48 + d : Nat) : Int) := by
  rw [wr (by omega) (by omega), IntKind.wrap_u8]; omega
theorem itoaM_nat {n : Nat} (h : n < 2 ^ 62) : itoaM (n : Int) = some (mkB (Lib.decDigits n)) := by
  unfold itoaM
  rw [decide_eq_true (p := (-9223372036854775808 : Int) ≤ (n : Int)) (by omega), decide_eq_true (p := (n : Int) ≤ 9223372036854775807) (by omega), itoa_nat]
  rfl
end Go.Proofs.YtcijddeommognaaDoor.Abs
set_option linter.unusedVariables false
set_option linter.unusedSimpArgs false
set_option maxRecDepth 100000
namespace Go.Proofs.YtcijddeommognaaDoor.Abs
open Classical
def In (x lo hi : Int) : Prop := lo ≤ x ∧ x ≤ hi
def G3 (g : List Int) : Prop := In (g.getD 0 0) 0 1000 ∧ In (g.getD 1 0) 0 1000 ∧ In (g.getD 2 0) 0 1000
def OkShip (x : E39) : Prop := In x.1 0 7 ∧ G3 x.2.1 ∧ In x.2.2.1 0 1000000
def dShip : E39 := (0, ((List.replicate 3 0), (0, ())))
theorem G3.at {g : List Int} (h : G3 g) (k : Nat) : In (g.getD k 0) 0 1000 ∨ 3 ≤ k := by
  obtain ⟨h0, h1, h2⟩ := h
  match k with
  | 0 => exact .inl h0
  | 1 => exact .inl h1
  | 2 => exact .inl h2
  | n + 3 => exact .inr (by omega)
theorem in53 (x lo hi : Int) : Tells (G53 x lo hi) (In x lo hi) := by
  unfold G53
  exact (tells_cond fun _ => tells_dec).iff (by unfold In; constructor <;> intro h <;> exact ⟨h.1, h.2⟩)
theorem in46 (x lo hi : Int) : Tells (G46 x lo hi) (In x lo hi) := in53 x lo hi
theorem amount76 (g : List Int) : Tells (G76 g) (G3 g) := by
  have S : ∀ k : Nat, k < 3 → G76_l0_step ((false, ((k : Int), ())), (g, ())) = Option.bind (G53 (g.getD k 0) 0 1000) fun r1 => bif (!r1) then some (1, ((false, ((k : Int), ())), (g, ()))) else some (0, ((false, (((k + 1 : Nat) : Int), ())), (g, ()))) := fun k hk => by
    simp only [G76_l0_step, three_lt hk, cond_true, three_lt' hk, Bool.and_true, show decide (0 ≤ (k : Int)) = true by simp, getD_toNat, wr1 (i := k) (by omega)]
  rcases iter_fn (step := G76_l0_step) (n := 3) (k1 := 0) (k2 := 1) (bad := fun i => (G53 (g.getD i 0) 0 1000) == some false) (fuel := G76_l0_fuel ((false, (0, ())), (g, ())))
    (fun i => ((false, ((i : Int), ())), (g, ()))) (fun i => ((false, ((i : Int), ())), (g, ()))) ((false, (3, ())), (g, ()))
    (fun i hi => by
      rw [S i hi]
      obtain ⟨b, hb, _⟩ := in53 (g.getD i 0) 0 1000
      rw [hb]
      cases b <;> rfl) rfl (by simp [G76_l0_fuel]) with ⟨j, h1, h2, _, h3⟩ | ⟨h1, h2⟩
  · have h3' : G76_l0_run ((false, (0, ())), (g, ())) = some (0, ((false, ((j : Int), ())), (g, ()))) := h3
    unfold G76
    rw [h3']
    refine tells_f fun h => ?_
    have : G53 (g.getD j 0) 0 1000 = some false := by simpa using h2
    rcases h.at j with h | h
    · rw [(in53 _ _ _).val h] at this; cases this
    · omega
  · have h2' : G76_l0_run ((false, (0, ())), (g, ())) = some (1, ((false, (3, ())), (g, ()))) := h2
    unfold G76
    rw [h2']
    refine tells_t ?_
    have key : ∀ k, k < 3 → In (g.getD k 0) 0 1000 := fun k hk => by
      obtain ⟨b, hb, hb2⟩ := in53 (g.getD k 0) 0 1000
      have := h1 k hk
      rw [hb] at this
      cases b with
      | true => exact hb2.1 rfl
      | false => simp at this
    exact ⟨key 0 (by omega), key 1 (by omega), key 2 (by omega)⟩
theorem goods45 (g : List Int) : Tells (G45 g) (G3 g) := by
  unfold G45
  exact tells_and (in46 _ _ _) fun _ => tells_and (in46 _ _ _) fun _ => tells_bind (in46 _ _ _)
theorem ship78 (x : E39) : Tells (G78 x) (OkShip x) := by
  unfold G78
  exact tells_and (in53 _ _ _) fun _ => tells_and (amount76 _) fun _ => tells_bind (in53 _ _ _)
theorem tells_find {f : Option Bool} {n : Nat} {bad : Nat → Bool} (h : (∃ j, j < n ∧ bad j = true ∧ f = some true) ∨ ((∀ l, l < n → bad l = false) ∧ f = some false)) : Tells f (∃ j, j < n ∧ bad j = true) := by
  rcases h with ⟨j, h1, h2, h3⟩ | ⟨h1, h2⟩
  · rw [h3]; exact tells_t ⟨j, h1, h2⟩
  · rw [h2]; exact tells_f fun ⟨j, a, b⟩ => by rw [h1 j a] at b; cases b
theorem contains60w (l : List E39) (hl : l.length < 2 ^ 40) : Tells (G60_v2 l) (¬ ∀ x ∈ l, OkShip x) := by
  have h := iter_fn (step := G89_v2_l0_step) (n := l.length) (k1 := 0) (k2 := 1) (bad := fun i => G90 (l.getD i dShip) == some true) (fuel := G89_v2_l0_fuel ((l, (0, ((List.length l : Int), (0, ())))), ()))
    (fun i => ((l, (0, ((List.length l : Int), ((i : Int), ())))), ())) (fun i => ((l, ((i : Int), ((List.length l : Int), ((i : Int), ())))), ())) ((l, (0, ((List.length l : Int), ((List.length l : Int), ())))), ())
    (fun i hi => by
      simp only [G89_v2_l0_step, lt_int hi, inside_lt hi, cond_true, getD_toNat, wr1 (i := i) (by omega)]
      rw [show (0, ((List.replicate 3 0), (0, ()))) = dShip from rfl]
      obtain ⟨b, hb, _⟩ := tells_not (ship78 (l.getD i dShip))
      have hb : G90 (l.getD i dShip) = some b := hb
      rw [hb]
      cases b <;> rfl)
    (by simp only [G89_v2_l0_step, nlt_int, cond_false]) (by simp [G89_v2_l0_fuel])
  refine Tells.iff (tells_find (n := l.length) (bad := fun i => G90 (l.getD i dShip) == some true) ?_) ?_
  · rcases h with ⟨j, h1, h2, _, h3⟩ | ⟨h1, h2⟩
    · refine .inl ⟨j, h1, h2, ?_⟩
      unfold G60_v2 G89_v2 G89_v2_l0_run
      rw [show ((0 : Nat) : Int) = 0 from rfl] at h3
      rw [h3]
      simp [natK]
    · refine .inr ⟨h1, ?_⟩
      unfold G60_v2 G89_v2 G89_v2_l0_run
      rw [show ((0 : Nat) : Int) = 0 from rfl] at h2
      rw [h2]
      simp [natK]
  · constructor
    · rintro ⟨j, h1, h2⟩ h
      have := (tells_not (ship78 (l.getD j dShip))).nval (fun hn => hn (h _ (getD_mem h1)))
      have this : G90 (l.getD j dShip) = some false := this
      rw [this] at h2; simp at h2
    · intro h
      apply Classical.byContradiction
      intro hn
      apply h
      refine (forall_getD dShip).1 fun i hi => Classical.byContradiction fun hb => hn ⟨i, hi, ?_⟩
      have := (tells_not (ship78 (l.getD i dShip))).val hb
      have this : G90 (l.getD i dShip) = some true := this
      rw [this]; rfl
theorem ships40 (l : List E39) (hl : l.length < 2 ^ 40) : Tells (G40 l) (∀ x ∈ l, OkShip x) := by
  have h := iter_fn (step := G40_l0_step) (n := l.length) (k1 := 0) (k2 := 1) (bad := fun i => decide (¬ OkShip (l.getD i dShip))) (fuel := G40_l0_fuel ((l, (false, (0, ()))), ()))
    (fun i => ((l, (false, ((i : Int), ()))), ())) (fun i => ((l, (false, ((i : Int), ()))), ())) ((l, (false, ((l.length : Int), ()))), ())
    (fun i hi => by
      simp only [G40_l0_step, lt_int hi, ge0, Bool.and_true, cond_true, getD_toNat, wr1 (i := i) (by omega)]
      rw [show (0, ((List.replicate 3 0), (0, ()))) = dShip from rfl]
      obtain ⟨b1, h1, k1⟩ := in46 (l.getD i dShip).1 0 7
      obtain ⟨b2, h2, k2⟩ := goods45 (l.getD i dShip).2.1
      obtain ⟨b3, h3, k3⟩ := in46 (l.getD i dShip).2.2.1 0 1000000
      rw [h1, h2, h3]
      cases b1 with
      | false => rw [decide_eq_true (show ¬ OkShip (l.getD i dShip) from fun hn => by have := k1.2 hn.1; cases this)]; rfl
      | true =>
        cases b2 with
        | false => rw [decide_eq_true (show ¬ OkShip (l.getD i dShip) from fun hn => by have := k2.2 hn.2.1; cases this)]; rfl
        | true =>
          cases b3 with
          | false => rw [decide_eq_true (show ¬ OkShip (l.getD i dShip) from fun hn => by have := k3.2 hn.2.2; cases this)]; rfl
          | true => rw [decide_eq_false (show ¬ ¬ OkShip (l.getD i dShip) from fun hn => hn ⟨k1.1 rfl, k2.1 rfl, k3.1 rfl⟩)]; rfl)
    (by simp only [G40_l0_step, nlt_int, cond_false]) (by simp [G40_l0_fuel])
  rw [show ((0 : Nat) : Int) = 0 from rfl] at h
  unfold G40 G40_l0_run
  rcases h with ⟨j, h1, h2, _, h3⟩ | ⟨h1, h2⟩
  · rw [h3]
    exact tells_f fun hall => of_decide_eq_true h2 (hall _ (getD_mem h1))
  · rw [h2]
    exact tells_t ((forall_getD dShip).1 fun i hi => Classical.byContradiction fun hb => of_decide_eq_false (h1 i hi) hb)
end Go.Proofs.YtcijddeommognaaDoor.Abs
set_option linter.unusedVariables false
set_option linter.unusedSimpArgs false
set_option maxRecDepth 100000
namespace Go.Proofs.YtcijddeommognaaDoor.Abs
theorem getD_mk (W : List (List UInt8)) (i : Nat) : List.getD (W.map mkB) i (⟨#[]⟩ : ByteArray) = mkB (W.getD i []) := by
  rw [List.getD_eq_getElem?_getD, List.getD_eq_getElem?_getD, List.getElem?_map]
  cases W[i]? <;> rfl
theorem getD_at {α : Type} {l : List α} {i : Nat} {d : α} (h : i < l.length) : l.getD i d = l[i] := by rw [List.getD_eq_getElem?_getD, List.getElem?_eq_getElem h]; rfl
theorem take_next {α : Type} {l : List α} {i : Nat} (h : i < l.length) : l.take (i + 1) = l.take i ++ [l[i]] := by rw [List.take_add_one, List.getElem?_eq_getElem h]; rfl
theorem valD_take {l : List UInt8} {i : Nat} (h : i < l.length) : valD (l.take (i + 1)) = 10 * valD (l.take i) + ((l[i]).toNat - 48) := by
  rw [List.take_add_one, List.getElem?_eq_getElem h, Option.toList_some, valD_snoc]
theorem wrap_i32 {n : Int} (h : -2147483648 ≤ n) (h' : n ≤ 2147483647) : IntKind.wrap .i32 n = n := by rw [IntKind.wrap_i32]; omega
theorem bt_mk {w : List UInt8} {i : Nat} (h : i < w.length) : bt (mkB w) (i : Int) = ((w[i]).toNat : Int) := bt_at (s := mkB w) h
theorem dec_mk {w : List UInt8} {i : Nat} (h : i < w.length) (hb : (w[i]).toNat < 128) : Utf8.decode (mkB w) i = ((w[i]).toNat, 1) := dec_asc (s := mkB w) h hb
theorem dec_mk_hi {w : List UInt8} {i : Nat} (h : i < w.length) (hb : ¬ (w[i]).toNat < 128) : 128 ≤ (Utf8.decode (mkB w) i).1 := dec_hi (s := mkB w) h hb
def okw (w : List UInt8) : Bool := decide (Lib.decDigits (valD w) = w) && decide (w.length ≤ 9)
theorem okw_iff {w : List UInt8} : okw w = true ↔ Lib.decDigits (valD w) = w ∧ w.length ≤ 9 := by
  unfold okw
  rw [Bool.and_eq_true, decide_eq_true_eq, decide_eq_true_eq]
theorem dd9 {n : Nat} (h : n < 1000000000) : (Lib.decDigits n).length ≤ 9 := dd_len_le (by decide) h
theorem okw_dd {n : Nat} (h : n < 1000000000) : okw (Lib.decDigits n) = true := okw_iff.2 (by rw [valD_dd]; exact ⟨rfl, dd9 h⟩)
theorem okw_lt {w : List UInt8} (h : okw w = true) : valD w < 1000000000 := by
  have := okw_iff.1 h
  exact dd_len_lt (k := 9) (by rw [this.1]; exact this.2)
theorem okw_dg {w : List UInt8} (h : okw w = true) : ∀ b ∈ w, isDg b := fun b hb => by
  rw [← (okw_iff.1 h).1] at hb
  exact dd_dg _ b hb
theorem valD_lt9 {l : List UInt8} (hd : ∀ b ∈ l, isDg b) (h : l.length ≤ 9) : valD l < 1000000000 :=
  Nat.lt_of_lt_of_le (valD_lt l hd) (Nat.pow_le_pow_right (by decide) h)
theorem number_eq (w : List UInt8) (hw : w.length < 2 ^ 31) : G96 (mkB w) = some (if okw w = true then .inr ((valD w : Nat) : Int) else .inl ()) := by
  unfold G96
  let F : Nat → ((ByteArray × (Int × Unit)) × ((ByteArray × Nat) × Unit)) := fun i => ((mkB w, (((valD (w.take i) : Nat) : Int), ())), ((mkB w, i), ()))
  let X : Nat → ((ByteArray × (Int × Unit)) × ((ByteArray × Nat) × Unit)) := fun i => ((mkB w, (((valD (w.take i) : Nat) : Int), ())), ((mkB w, i + (Utf8.decode (mkB w) i).2), ()))
  let bad : Nat → Bool := fun i => !decide (isDg (w.getD i 0)) || decide (9 < w.length)
  have hbnd : ∀ i, (∀ j, j < i → bad j = false) → i ≤ w.length → valD (w.take i) < 1000000000 := fun i hb hi => by
    cases i with
    | zero => simp [valD]
    | succ i =>
      have h1 := hb i (by omega)
      simp only [bad, Bool.or_eq_false_iff, Bool.not_eq_false', decide_eq_true_eq, decide_eq_false_iff_not] at h1
      refine valD_lt9 (fun b hm => ?_) (by rw [List.length_take]; omega)
      obtain ⟨j, hj, e⟩ := List.mem_iff_getElem.1 hm
      rw [List.length_take] at hj
      have h1 := hb j (by omega)
      simp only [bad, Bool.or_eq_false_iff, Bool.not_eq_false', decide_eq_true_eq] at h1
      have h2 := h1.1
      rw [getD_at (by omega)] at h2
      rw [List.getElem_take] at e
      rw [← e]; exact h2
  have go : ∀ i, i < w.length → (∀ j, j < i → bad j = false) → G96_l0_step (F i) = some (bif bad i then (1, X i) else (0, F (i + 1))) := fun i hi hb => by
    unfold G96_l0_step
    simp only [F, X]
    have hv := hbnd i hb (by omega)
    have hg : w.getD i 0 = w[i] := getD_at hi
    rw [mkB_size, decide_eq_true (p := i < w.length) hi]
    simp only [cond_true]
    by_cases hasc : (w[i]).toNat < 128
    · rw [dec_mk hi hasc]
      simp only
      by_cases hd : isDg (w[i])
      · unfold isDg at hd
        rw [decide_eq_false (p := ((w[i]).toNat : Int) < 48) (by omega), decide_eq_false (p := ((w[i]).toNat : Int) > 57) (by omega)]
        simp only [cond_false]
        by_cases hbig : 9 < w.length
        · have hbt : bad i = true := by simp only [bad, hbig, decide_true, Bool.or_true]
          rw [hbt, decide_eq_true (p := (w.length : Int) > 9) (by omega)]
          rfl
        · have hbf : bad i = false := by
            have : isDg (w[i]) := by unfold isDg; omega
            simp only [bad, hg, hbig, this, decide_true, decide_false, Bool.not_true, Bool.or_self]
          rw [hbf, decide_eq_false (p := (w.length : Int) > 9) (by omega)]
          simp only [cond_false]
          have e1 : IntKind.wrap .i32 (((w[i]).toNat : Int) - 48) = (((w[i]).toNat - 48 : Nat) : Int) := by rw [wrap_i32 (by omega) (by omega)]; omega
          have e2 : IntKind.wrap .i64 (((w[i]).toNat - 48 : Nat) : Int) = (((w[i]).toNat - 48 : Nat) : Int) := wr (by omega) (by omega)
          rw [e1, e2, wr (n := (10 : Int) * ((valD (w.take i) : Nat) : Int)) (by omega) (by omega), wr (by omega) (by omega), valD_take hi]
          congr 3
      · have hbt : bad i = true := by simp only [bad, hg, hd, decide_false, Bool.not_false, Bool.true_or]
        unfold isDg at hd
        rw [hbt]
        by_cases h48 : (w[i]).toNat < 48
        · rw [decide_eq_true (p := ((w[i]).toNat : Int) < 48) (by omega)]; rfl
        · rw [decide_eq_false (p := ((w[i]).toNat : Int) < 48) (by omega), decide_eq_true (p := ((w[i]).toNat : Int) > 57) (by omega)]; rfl
    · have h128 := dec_mk_hi hi hasc
      have hbt : bad i = true := by
        have : ¬ isDg (w[i]) := by unfold isDg; omega
        simp only [bad, hg, this, decide_false, Bool.not_false, Bool.true_or]
      rw [hbt, decide_eq_false (p := ((Utf8.decode (mkB w) i).1 : Int) < 48) (by omega), decide_eq_true (p := ((Utf8.decode (mkB w) i).1 : Int) > 57) (by omega)]
      rfl
  have hend : (∀ j, j < w.length → bad j = false) → G96_l0_step (F w.length) = some (2, F w.length) := fun _ => by
    unfold G96_l0_step
    simp only [F]
    rw [mkB_size, decide_eq_false (p := w.length < w.length) (by omega)]
    rfl
  have hfuel : G96_l0_fuel ((mkB w, (0, ())), ((mkB w, 0), ())) = w.length + 1 := by
    unfold G96_l0_fuel
    simp only [mkB_size]
    omega
  unfold G96_l0_run
  rw [hfuel, show ((mkB w, ((0 : Int), ())), ((mkB w, 0), ())) = F 0 from rfl]
  rcases iter_fnp (bad := bad) F X (F w.length) go hend (Nat.lt_succ_self _) with ⟨j, hj, hbj, hlt, e⟩ | ⟨hall, e⟩
  · rw [e]
    simp only [bad, Bool.or_eq_true, Bool.not_eq_true', decide_eq_false_iff_not, decide_eq_true_eq] at hbj
    have hno : ¬ okw w = true := fun h => by
      rcases hbj with h1 | h1
      · rw [getD_at hj] at h1
        exact h1 (okw_dg h _ (List.getElem_mem _))
      · have := (okw_iff.1 h).2
        omega
    rw [if_neg hno]
    rfl
  · rw [e]
    have hv := hbnd _ hall (Nat.le_refl _)
    rw [List.take_length] at hv
    simp only [Option.bind_some, natK, F, List.take_length]
    rw [beq_bl, bl_mk, show bl (⟨#[]⟩ : ByteArray) = [] from rfl]
    by_cases h0 : w = []
    · rw [decide_eq_true h0, if_neg (fun h => by
        have := (okw_iff.1 h).1
        rw [h0] at this
        exact dd_ne _ this)]
      rfl
    rw [decide_eq_false h0, itoaM_nat (Nat.lt_trans hv (by decide))]
    simp only [cond_false, Option.bind_some]
    have h9 : w.length ≤ 9 := by
      have hpos : 0 < w.length := List.length_pos_iff.2 h0
      have := hall 0 hpos
      simp only [bad, Bool.or_eq_false_iff, decide_eq_false_iff_not] at this
      omega
    rw [beq_bl, bl_mk, bl_mk]
    by_cases hq : Lib.decDigits (valD w) = w
    · rw [decide_eq_true hq, if_pos (okw_iff.2 ⟨hq, h9⟩)]; rfl
    · rw [decide_eq_false hq, if_neg (fun h => hq (okw_iff.1 h).1)]; rfl
abbrev dcs (ns : List Nat) : List (List UInt8) := ns.map Lib.decDigits
abbrev ofN (ns : List Nat) : List Int := ns.map Int.ofNat
theorem getD_ofN {ns : List Nat} {i : Nat} (h : i < ns.length) : List.getD (ofN ns) i 0 = ((ns[i] : Nat) : Int) := by
  rw [getD_at (by simpa using h)]; simp
structure Sh where
  w : Nat
  c : Nat
  x : Nat
  y : Nat
  z : Nat
def Sh.Fine (s : Sh) : Prop := s.w < 1000000000 ∧ s.c < 1000000000 ∧ s.x < 1000000000 ∧ s.y < 1000000000 ∧ s.z < 1000000000
def encS (s : Sh) : E39 := ((s.w : Int), ([(s.x : Int), (s.y : Int), (s.z : Int)], ((s.c : Int), ())))
def nums (i : Nat) (s : Sh) : List Nat := [i, s.w, s.c, s.x, s.y, s.z]
def Small (ns : List Nat) : Prop := ∀ n ∈ ns, n < 1000000000
theorem nums_small {i : Nat} {s : Sh} (hi : i < 1000000000) (h : s.Fine) : Small (nums i s) := fun n hn => by
  obtain ⟨h1, h2, h3, h4, h5⟩ := h
  simp only [nums, List.mem_cons, List.not_mem_nil, or_false] at hn
  rcases hn with rfl | rfl | rfl | rfl | rfl | rfl <;> assumption
abbrev WShip : List UInt8 := [115, 104, 105, 112]
def tailB : List Nat → List UInt8
  | [] => []
  | n :: ns => 32 :: (Lib.decDigits n ++ tailB ns)
theorem tailB_snoc : ∀ (ns : List Nat) (n : Nat), tailB (ns ++ [n]) = tailB ns ++ 32 :: Lib.decDigits n
  | [], n => by simp [tailB]
  | m :: ns, n => by rw [List.cons_append, tailB, tailB, tailB_snoc ns n]; simp
theorem tailB_len : ∀ {ns : List Nat}, Small ns → (tailB ns).length ≤ 10 * ns.length
  | [], _ => by simp [tailB]
  | n :: ns, h => by
    have h1 := dd9 (h n List.mem_cons_self)
    have h2 := tailB_len (ns := ns) fun m hm => h m (List.mem_cons_of_mem _ hm)
    rw [tailB, List.length_cons, List.length_append, List.length_cons]; omega
def lnS (i : Nat) (s : Sh) : List UInt8 := WShip ++ tailB (nums i s)
theorem tailB_jn (word : List UInt8) : ∀ (ns : List Nat), word ++ tailB ns = jn 32 (word :: dcs ns)
  | [] => by simp [tailB, jn]
  | n :: ns => by
    rw [tailB, dcs, List.map_cons, jn_cons _ _ (by simp)]
    have := tailB_jn (Lib.decDigits n) ns
    rw [this]
theorem dg_ne {b : UInt8} (hb : isDg b) : b ≠ 32 ∧ b ≠ 10 := by
  unfold isDg at hb
  constructor <;> (intro h; subst h; revert hb; decide)
theorem dd_no (n : Nat) : (32 : UInt8) ∉ Lib.decDigits n ∧ (10 : UInt8) ∉ Lib.decDigits n := ⟨fun h => (dg_ne (dd_dg n _ h)).1 rfl, fun h => (dg_ne (dd_dg n _ h)).2 rfl⟩
theorem spl_lnS (i : Nat) (s : Sh) : spl 32 (lnS i s) = WShip :: dcs (nums i s) := by
  unfold lnS
  rw [tailB_jn]
  refine spl_jn (by simp) fun x hx => ?_
  rcases List.mem_cons.1 hx with rfl | hx
  · decide
  · obtain ⟨n, _, rfl⟩ := List.mem_map.1 hx
    exact (dd_no n).1
theorem tailB_no10 : ∀ (ns : List Nat), (10 : UInt8) ∉ tailB ns
  | [] => by simp [tailB]
  | n :: ns => by
    rw [tailB]
    intro h
    rcases List.mem_cons.1 h with h | h
    · revert h; decide
    rcases List.mem_append.1 h with h | h
    · exact (dd_no n).2 h
    · exact tailB_no10 ns h
theorem lnS_no10 (i : Nat) (s : Sh) : (10 : UInt8) ∉ lnS i s := by
  unfold lnS
  intro h
  rcases List.mem_append.1 h with h | h
  · revert h; decide
  · exact tailB_no10 _ h
theorem lnS_len {i : Nat} {s : Sh} (hi : i < 1000000000) (h : s.Fine) : (lnS i s).length ≤ 64 := by
  have := tailB_len (nums_small hi h)
  unfold lnS
  rw [List.length_append]
  have h2 : (nums i s).length = 6 := rfl
  have h3 : WShip.length = 4 := rfl
  omega
def cat (ls : List (List UInt8)) : List UInt8 := (ls.map (· ++ [10])).flatten
theorem cat_cons (l : List UInt8) (ls : List (List UInt8)) : cat (l :: ls) = l ++ 10 :: cat ls := by simp [cat]
theorem cat_app (a b : List (List UInt8)) : cat (a ++ b) = cat a ++ cat b := by simp [cat]
theorem cat_one (l : List UInt8) : cat [l] = l ++ [10] := by simp [cat]
theorem cat_len {ls : List (List UInt8)} {k : Nat} (h : ∀ l ∈ ls, l.length ≤ k) : (cat ls).length ≤ (k + 1) * ls.length := by
  induction ls with
  | nil => simp [cat]
  | cons l ls ih =>
    have h1 := h l List.mem_cons_self
    have h2 := ih fun x hx => h x (List.mem_cons_of_mem _ hx)
    rw [cat_cons, List.length_append, List.length_cons, List.length_cons, Nat.mul_succ]; omega
theorem spl_cat : ∀ {ls : List (List UInt8)}, (∀ l ∈ ls, (10 : UInt8) ∉ l) → spl 10 (cat ls) = ls ++ [[]]
  | [], _ => by simp [cat, spl]
  | l :: ls, h => by
    rw [cat_cons, spl_sep _ (h l List.mem_cons_self), spl_cat fun x hx => h x (List.mem_cons_of_mem _ hx)]; rfl
theorem jn_cat : ∀ (ls : List (List UInt8)), jn 10 (ls ++ [[]]) = cat ls
  | [] => rfl
  | l :: ls => by rw [List.cons_append, jn_cons _ _ (by simp), jn_cat ls, cat_cons]
theorem cat_jn {ls : List (List UInt8)} (h : ls ≠ []) : cat ls = jn 10 ls ++ [10] := by
  rw [← jn_cat, jn_snoc 10 [] h]
def wk : Nat → List Nat → Nat
  | _, [] => 0
  | k, n :: ns => n % 97 * (k + 1) + wk (k + 1) ns
theorem wk_snoc : ∀ (k : Nat) (ns : List Nat) (n : Nat), wk k (ns ++ [n]) = wk k ns + n % 97 * (k + ns.length + 1)
  | k, [], n => by simp [wk]
  | k, m :: ns, n => by
    rw [List.cons_append, wk, wk, wk_snoc (k + 1) ns n, List.length_cons, show k + 1 + ns.length = k + (ns.length + 1) by omega]; omega
def shL : Nat → List Sh → List (List UInt8)
  | _, [] => []
  | i, s :: l => lnS i s :: shL (i + 1) l
def csum : Nat → List Sh → Nat
  | _, [] => 0
  | i, s :: l => wk 0 (nums i s) + csum (i + 1) l
theorem shL_snoc : ∀ (i : Nat) (l : List Sh) (s : Sh), shL i (l ++ [s]) = shL i l ++ [lnS (i + l.length) s]
  | i, [], s => by simp [shL]
  | i, x :: l, s => by rw [List.cons_append, shL, shL, shL_snoc (i + 1) l s, List.length_cons, show i + 1 + l.length = i + (l.length + 1) by omega]; rfl
theorem csum_snoc : ∀ (i : Nat) (l : List Sh) (s : Sh), csum i (l ++ [s]) = csum i l + wk 0 (nums (i + l.length) s)
  | i, [], s => by simp [csum]
  | i, x :: l, s => by rw [List.cons_append, csum, csum, csum_snoc (i + 1) l s, List.length_cons, show i + 1 + l.length = i + (l.length + 1) by omega]; omega
theorem shL_len : ∀ (i : Nat) (l : List Sh), (shL i l).length = l.length
  | _, [] => rfl
  | i, s :: l => by rw [shL, List.length_cons, List.length_cons, shL_len]
theorem shL_at : ∀ (i : Nat) (l : List Sh) (j : Nat) (h : j < l.length), (shL i l).getD j [] = lnS (i + j) l[j]
  | _, [], j, h => by simp at h
  | i, s :: l, 0, h => by rw [shL]; rfl
  | i, s :: l, j + 1, h => by
    rw [shL, List.getD_cons_succ, shL_at (i + 1) l j (by simpa using h), show i + 1 + j = i + (j + 1) by omega]; rfl
theorem shL_mem : ∀ {i : Nat} {l : List Sh} {m : List UInt8}, m ∈ shL i l → ∃ j s, s ∈ l ∧ j < i + l.length ∧ m = lnS j s
  | _, [], m, h => by simp [shL] at h
  | i, s :: l, m, h => by
    rw [shL] at h
    rcases List.mem_cons.1 h with rfl | h
    · exact ⟨i, s, List.mem_cons_self, by simp, rfl⟩
    · obtain ⟨j, q, h1, h2, h3⟩ := shL_mem h
      exact ⟨j, q, List.mem_cons_of_mem _ h1, by simp; omega, h3⟩
def endL (l : List Sh) : List UInt8 := [101, 110, 100, 32] ++ Lib.decDigits l.length ++ [32] ++ Lib.decDigits (csum 0 l % 97 / 10) ++ Lib.decDigits (csum 0 l % 97 % 10)
def lines (l : List Sh) : List (List UInt8) := shL 0 l ++ [endL l]
def mani (l : List Sh) : List UInt8 := cat (lines l)
def FineL (l : List Sh) : Prop := ∀ s ∈ l, s.Fine
theorem endL_no10 (l : List Sh) : (10 : UInt8) ∉ endL l := by
  unfold endL
  intro h
  simp only [List.mem_append] at h
  rcases h with (((h | h) | h) | h) | h
  · revert h; decide
  · exact (dd_no _).2 h
  · revert h; decide
  · exact (dd_no _).2 h
  · exact (dd_no _).2 h
theorem lines_no10 (l : List Sh) : ∀ m ∈ lines l, (10 : UInt8) ∉ m := fun m hm => by
  rcases List.mem_append.1 hm with h | h
  · obtain ⟨j, s, _, _, rfl⟩ := shL_mem h
    exact lnS_no10 j s
  · rw [List.mem_singleton] at h
    subst h
    exact endL_no10 l
theorem lines_len (l : List Sh) : (lines l).length = l.length + 1 := by unfold lines; rw [List.length_append, shL_len]; rfl
theorem mani_eq (l : List Sh) : mani l = cat (shL 0 l) ++ (endL l ++ [10]) := by unfold mani lines; rw [cat_app, cat_one]
theorem lnS_inj {i j : Nat} {s t : Sh} (h : lnS i s = lnS j t) : i = j ∧ s = t := by
  have h1 := spl_lnS i s
  rw [h, spl_lnS] at h1
  simp only [nums, dcs, List.map_cons, List.map_nil, List.cons.injEq, and_true, true_and] at h1
  obtain ⟨h1, h2, h3, h4, h5, h6⟩ := h1
  obtain ⟨a, b, c, d, e⟩ := s
  obtain ⟨a', b', c', d', e'⟩ := t
  simp only at h2 h3 h4 h5 h6
  exact ⟨(dd_inj h1).symm, by rw [dd_inj h2, dd_inj h3, dd_inj h4, dd_inj h5, dd_inj h6]⟩
end Go.Proofs.YtcijddeommognaaDoor.Abs
set_option linter.unusedVariables false
set_option linter.unusedSimpArgs false
set_option maxRecDepth 100000
namespace Go.Proofs.YtcijddeommognaaDoor.Abs
theorem getD_enc {l : List Sh} {i : Nat} (h : i < l.length) : List.getD (l.map encS) i (0, ((List.replicate 3 0), (0, ()))) = encS l[i] := by
  rw [getD_at (by simpa using h)]; simp
theorem numbers_eq (i : Nat) (s : Sh) : G67 (i : Int) (encS s) = some (ofN (nums i s)) := by
  unfold G67
  rw [show (encS s).1 = (s.w : Int) from rfl, show (encS s).2.1 = [(s.x : Int), (s.y : Int), (s.z : Int)] from rfl, show (encS s).2.2.1 = (s.c : Int) from rfl, lim_le (by simp)]
  rfl
theorem csum_le {i : Nat} {l : List Sh} : csum i l % 97 < 97 := Nat.mod_lt _ (by decide)
theorem tmod97 (n : Nat) : Int.tmod (n : Int) 97 = ((n % 97 : Nat) : Int) := rfl
theorem check_l1 {ns : List Nat} (hs : Small ns) (hl : ns.length ≤ 10) (c : Nat) (L : List E39) (n i : Int) (x : E39) :
    G93_l1_run ((((c % 97 : Nat) : Int), (L, (n, (i, (ofN ns, ((List.length (ofN ns) : Int), (0, ()))))))), (x, ())) = some (0, ((((((c + wk 0 ns) % 97 : Nat)) : Int), (L, (n, (i, (ofN ns, ((ns.length : Int), ((ns.length : Int), ()))))))), (x, ()))) := by
  unfold G93_l1_run
  let F : Nat → ((Int × ((List E39) × (Int × (Int × ((List Int) × (Int × (Int × Unit))))))) × (E39 × Unit)) := fun k => ((((((c + wk 0 (ns.take k)) % 97 : Nat)) : Int), (L, (n, (i, (ofN ns, ((ns.length : Int), ((k : Int), ()))))))), (x, ()))
  rw [List.length_map, show ((((c % 97 : Nat) : Int), (L, (n, (i, (ofN ns, ((ns.length : Int), ((0 : Int), ()))))))), (x, ())) = F 0 by simp [F, wk], show ((((((c + wk 0 ns) % 97 : Nat)) : Int), (L, (n, (i, (ofN ns, ((ns.length : Int), ((ns.length : Int), ()))))))), (x, ())) = F ns.length by simp only [F, List.take_length]]
  refine iter_run (n := ns.length) F _ (fun k hk => ?_) ?_ ?_
  · unfold G93_l1_step
    simp only [F]
    rw [decide_eq_true (p := (k : Int) < (ns.length : Int)) (by omega), ge0, List.length_map, decide_eq_true (p := (k : Int) < (ns.length : Int)) (by omega)]
    simp only [cond_true, Bool.and_self, getD_toNat]
    rw [getD_ofN hk, tmod97, wr1 (i := k) (by omega)]
    have hm : ns[k] % 97 < 97 := Nat.mod_lt _ (by decide)
    have hc : (c + wk 0 (ns.take k)) % 97 < 97 := Nat.mod_lt _ (by decide)
    have hp : ns[k] % 97 * (k + 1) ≤ 97 * 11 := Nat.mul_le_mul (by omega) (by omega)
    have e1 : ((ns[k] % 97 : Nat) : Int) * ((k + 1 : Nat) : Int) = ((ns[k] % 97 * (k + 1) : Nat) : Int) := by simp
    rw [e1, wr (n := ((ns[k] % 97 * (k + 1) : Nat) : Int)) (by omega) (by omega), show (((c + wk 0 (ns.take k)) % 97 : Nat) : Int) + ((ns[k] % 97 * (k + 1) : Nat) : Int) = (((c + wk 0 (ns.take k)) % 97 + ns[k] % 97 * (k + 1) : Nat) : Int) by omega, wr (by omega) (by omega), tmod97, take_next hk, wk_snoc, List.length_take, Nat.min_eq_left (by omega), Nat.zero_add, ← Nat.add_assoc, Nat.mod_add_mod]
  · unfold G93_l1_step
    simp only [F]
    rw [decide_eq_false (p := (ns.length : Int) < (ns.length : Int)) (by omega)]
    rfl
  · unfold G93_l1_fuel
    simp only [F]
    omega
theorem take_map_next {l : List Sh} {i : Nat} (h : i < l.length) : csum 0 (l.take (i + 1)) = csum 0 (l.take i) + wk 0 (nums i l[i]) := by
  rw [take_next h, csum_snoc, List.length_take, Nat.min_eq_left (by omega), Nat.zero_add]
theorem check_eq {l : List Sh} (hf : FineL l) (hl : l.length ≤ 10 ^ 6) : G93 (l.map encS) = some (mkB (Lib.decDigits (csum 0 l % 97 / 10) ++ Lib.decDigits (csum 0 l % 97 % 10))) := by
  unfold G93
  let F : Nat → ((Int × ((List E39) × (Int × (Int × Unit)))) × Unit) := fun j => ((((csum 0 (l.take j) % 97 : Nat) : Int), (l.map encS, ((l.length : Int), ((j : Int), ())))), ())
  have hrun : G93_l0_run ((0, (l.map encS, ((List.length (l.map encS) : Int), (0, ())))), ()) = some (0, F l.length) := by
    unfold G93_l0_run
    rw [List.length_map, show (((0 : Int), (l.map encS, ((l.length : Int), ((0 : Int), ())))), ()) = F 0 by simp [F, csum]]
    refine iter_run (n := l.length) F _ (fun j hj => ?_) ?_ ?_
    · unfold G93_l0_step
      simp only [F]
      rw [decide_eq_true (p := (j : Int) < (l.length : Int)) (by omega), ge0, List.length_map, decide_eq_true (p := (j : Int) < (l.length : Int)) (by omega)]
      simp only [cond_true, Bool.and_self, getD_toNat]
      rw [getD_enc hj, numbers_eq]
      simp only [Option.bind_some]
      rw [check_l1 (nums_small (by omega) (hf _ (List.getElem_mem hj))) (by simp [nums])]
      simp only [Option.bind_some]
      rw [wr1 (i := j) (by omega), take_map_next hj]
    · unfold G93_l0_step
      simp only [F]
      rw [decide_eq_false (p := (l.length : Int) < (l.length : Int)) (by omega)]
      rfl
    · unfold G93_l0_fuel
      simp only [F]
      omega
  rw [hrun]
  simp only [Option.bind_some, F, List.take_length]
  have hm : csum 0 l % 97 < 97 := csum_le
  generalize csum 0 l % 97 = s at hm
  have e1 : Int.tdiv (s : Int) 10 = ((s / 10 : Nat) : Int) := rfl
  have e2 : Int.tmod (s : Int) 10 = ((s % 10 : Nat) : Int) := rfl
  rw [e1, e2, wr (n := ((s / 10 : Nat) : Int)) (by omega) (by omega), itoaM_nat (by omega), itoaM_nat (by omega)]
  have h1 := dd_len_le (n := s / 10) (k := 1) (by decide) (by omega)
  have h2 := dd_len_le (n := s % 10) (k := 1) (by decide) (by omega)
  simp only [Option.bind_some, mkB_size, app_mk]
  rw [lim_le (by omega)]
  rfl
theorem endL_len {l : List Sh} (hl : l.length ≤ 10 ^ 6) : (endL l).length ≤ 20 := by
  have h0 := dd_len_le (n := l.length) (k := 9) (by decide) (by omega)
  have hm : csum 0 l % 97 < 97 := csum_le
  have h1 := dd_len_le (n := csum 0 l % 97 / 10) (k := 1) (by decide) (by omega)
  have h2 := dd_len_le (n := csum 0 l % 97 % 10) (k := 1) (by decide) (by omega)
  unfold endL
  simp only [List.length_append, List.length_cons, List.length_nil]
  omega
theorem end_eq {l : List Sh} (hf : FineL l) (hl : l.length ≤ 10 ^ 6) : G70 (l.map encS) = some (mkB (endL l ++ [10])) := by
  unfold G70
  have h0 := dd_len_le (n := l.length) (k := 9) (by decide) (by omega)
  have hm : csum 0 l % 97 < 97 := csum_le
  have h1 := dd_len_le (n := csum 0 l % 97 / 10) (k := 1) (by decide) (by omega)
  have h2 := dd_len_le (n := csum 0 l % 97 % 10) (k := 1) (by decide) (by omega)
  rw [List.length_map, itoaM_nat (by omega), check_eq hf hl, show (⟨#[101, 110, 100, 32]⟩ : ByteArray) = mkB [101, 110, 100, 32] from rfl, show (⟨#[32]⟩ : ByteArray) = mkB [32] from rfl, show (⟨#[10]⟩ : ByteArray) = mkB [10] from rfl]
  simp only [Option.bind_some, mkB_size, app_mk, List.length_append, List.length_cons, List.length_nil]
  rw [lim_le (by omega), lim_le (by omega), lim_le (by omega), lim_le (by omega)]
  simp only [cond_true, endL, List.append_assoc]
theorem bI_len (l : List UInt8) : (bytesI (mkB l)).length = l.length := by unfold bytesI; rw [List.length_map]; rfl
theorem bI_app (a b : List UInt8) : bytesI (mkB a) ++ bytesI (mkB b) = bytesI (mkB (a ++ b)) := by
  show List.map _ a ++ List.map _ b = List.map _ (a ++ b)
  rw [List.map_append]
theorem sI_bI (l : List UInt8) : strI (bytesI (mkB l)) = mkB l := by
  show (⟨(List.map (fun n : Int => UInt8.ofNat n.toNat) (List.map (fun b : UInt8 => ((b.toNat : Nat) : Int)) l)).toArray⟩ : ByteArray) = mkB l
  rw [List.map_map]
  have h1 : ((fun n : Int => UInt8.ofNat n.toNat) ∘ fun b : UInt8 => ((b.toNat : Nat) : Int)) = id := by
    funext b
    simp [Function.comp]
  rw [h1, List.map_id]
  rfl
theorem bI_ok (l : List UInt8) : isBytes (bytesI (mkB l)) = true := by
  unfold isBytes
  refine List.all_eq_true.2 fun n hn => ?_
  obtain ⟨b, _, rfl⟩ := List.mem_map.1 hn
  have := UInt8.toNat_lt b
  rw [decide_eq_true (p := (0 : Int) ≤ ((b.toNat : Nat) : Int)) (by omega), decide_eq_true (p := ((b.toNat : Nat) : Int) < 256) (by omega)]
  rfl
theorem ws_eq {w b : List UInt8} (h : b.length + w.length ≤ 2 ^ 35) : G66 (mkB w) ((), (bytesI (mkB b), ())) = some (((w.length : Int), ((), ())), (((), (bytesI (mkB (b ++ w)), ())), ())) := by
  unfold G66 bchkM
  simp only [Option.bind_some]
  rw [bI_len, bI_len, lim_le h, bI_app, mkB_size]
  rfl
theorem bstr_eq {b : List UInt8} (h : b.length ≤ 2 ^ 35) : bstrM ((), (bytesI (mkB b), ())) = some (mkB b, (((), (bytesI (mkB b), ())), ())) := by
  unfold bstrM
  simp only
  rw [bI_ok, bI_len, decide_eq_true (p := b.length ≤ LIM) (Nat.le_trans h (by decide)), sI_bI]
  rfl
theorem tail_next {ns : List Nat} {k : Nat} (h : k < ns.length) : tailB (ns.take (k + 1)) = tailB (ns.take k) ++ 32 :: Lib.decDigits ns[k] := by rw [take_next h, tailB_snoc]
theorem tail_len {ns : List Nat} (hs : Small ns) (k : Nat) : (tailB (ns.take k)).length ≤ 10 * ns.length := by
  have := tailB_len (ns := ns.take k) fun n hn => hs n (List.mem_of_mem_take hn)
  rw [List.length_take] at this
  have h2 : 10 * min k ns.length ≤ 10 * ns.length := Nat.mul_le_mul_left _ (Nat.min_le_right _ _)
  omega
theorem print_l1 {ns : List Nat} (hs : Small ns) (hl : ns.length ≤ 10) {out : List UInt8} (ho : out.length ≤ 10 ^ 9) (L M : List E39) (n i : Int) (x : E39) :
    G39_l1_run ((L, (M, (n, (i, (ofN ns, ((List.length (ofN ns) : Int), (0, ()))))))), (((), (bytesI (mkB out), ())), (x, ()))) = some (0, ((L, (M, (n, (i, (ofN ns, ((ns.length : Int), ((ns.length : Int), ()))))))), (((), (bytesI (mkB (out ++ tailB ns)), ())), (x, ())))) := by
  unfold G39_l1_run
  let F : Nat → (((List E39) × ((List E39) × (Int × (Int × ((List Int) × (Int × (Int × Unit))))))) × ((Unit × ((List Int) × Unit)) × (E39 × Unit))) := fun k => ((L, (M, (n, (i, (ofN ns, ((ns.length : Int), ((k : Int), ()))))))), (((), (bytesI (mkB (out ++ tailB (ns.take k))), ())), (x, ())))
  rw [List.length_map, show ((L, (M, (n, (i, (ofN ns, ((ns.length : Int), ((0 : Int), ()))))))), (((), (bytesI (mkB out), ())), (x, ()))) = F 0 by simp [F, tailB], show ((L, (M, (n, (i, (ofN ns, ((ns.length : Int), ((ns.length : Int), ()))))))), (((), (bytesI (mkB (out ++ tailB ns)), ())), (x, ()))) = F ns.length by simp only [F, List.take_length]]
  refine iter_run (n := ns.length) F _ (fun k hk => ?_) ?_ ?_
  · unfold G39_l1_step
    simp only [F]
    have hn := hs _ (List.getElem_mem hk)
    have hd := dd9 hn
    have ht := tail_len hs k
    rw [decide_eq_true (p := (k : Int) < (ns.length : Int)) (by omega), ge0, List.length_map, decide_eq_true (p := (k : Int) < (ns.length : Int)) (by omega)]
    simp only [cond_true, Bool.and_self, getD_toNat]
    rw [getD_ofN hk, itoaM_nat (Nat.lt_trans hn (by decide)), show (⟨#[32]⟩ : ByteArray) = mkB [32] from rfl]
    simp only [Option.bind_some, mkB_size, app_mk, List.length_singleton]
    rw [lim_le (by omega)]
    simp only [cond_true]
    rw [ws_eq (by simp only [List.length_append, List.length_cons, List.length_nil]; omega)]
    simp only [Option.bind_some]
    rw [wr1 (i := k) (by omega), tail_next hk, List.append_assoc]
    rfl
  · unfold G39_l1_step
    simp only [F]
    rw [decide_eq_false (p := (ns.length : Int) < (ns.length : Int)) (by omega)]
    rfl
  · unfold G39_l1_fuel
    simp only [F]
    omega
theorem sh_next {l : List Sh} {i : Nat} (h : i < l.length) : cat (shL 0 (l.take (i + 1))) = cat (shL 0 (l.take i)) ++ (lnS i l[i] ++ [10]) := by
  rw [take_next h, shL_snoc, List.length_take, Nat.min_eq_left (by omega), Nat.zero_add, cat_app, cat_one]
theorem sh_len {l : List Sh} (hf : FineL l) (hl : l.length ≤ 10 ^ 6) (i : Nat) : (cat (shL 0 (l.take i))).length ≤ 65 * l.length := by
  have := cat_len (ls := shL 0 (l.take i)) (k := 64) fun m hm => by
    obtain ⟨j, s, h1, h2, rfl⟩ := shL_mem hm
    rw [List.length_take] at h2
    exact lnS_len (by omega) (hf s (List.mem_of_mem_take h1))
  rw [shL_len, List.length_take] at this
  have h2 : 65 * min i l.length ≤ 65 * l.length := Nat.mul_le_mul_left _ (Nat.min_le_right _ _)
  omega
theorem print_l0 {l : List Sh} (hf : FineL l) (hl : l.length ≤ 10 ^ 6) (L : List E39) :
    G39_l0_run ((L, (l.map encS, ((List.length (l.map encS) : Int), (0, ())))), (((), ([], ())), ())) = some (0, ((L, (l.map encS, ((l.length : Int), ((l.length : Int), ())))), (((), (bytesI (mkB (cat (shL 0 l))), ())), ()))) := by
  unfold G39_l0_run
  let F : Nat → (((List E39) × ((List E39) × (Int × (Int × Unit)))) × ((Unit × ((List Int) × Unit)) × Unit)) := fun j => ((L, (l.map encS, ((l.length : Int), ((j : Int), ())))), (((), (bytesI (mkB (cat (shL 0 (l.take j)))), ())), ()))
  rw [List.length_map, show ((L, (l.map encS, ((l.length : Int), ((0 : Int), ())))), (((), (([] : List Int), ())), ())) = F 0 by simp only [F, List.take_zero, Int.natCast_zero]; rfl, show ((L, (l.map encS, ((l.length : Int), ((l.length : Int), ())))), (((), (bytesI (mkB (cat (shL 0 l))), ())), ())) = F l.length by simp only [F, List.take_length]]
  refine iter_run (n := l.length) F _ (fun j hj => ?_) ?_ ?_
  · unfold G39_l0_step
    simp only [F]
    have h1 := sh_len hf hl j
    rw [decide_eq_true (p := (j : Int) < (l.length : Int)) (by omega), ge0, List.length_map, decide_eq_true (p := (j : Int) < (l.length : Int)) (by omega), show (⟨#[115, 104, 105, 112]⟩ : ByteArray) = mkB WShip from rfl, show (⟨#[10]⟩ : ByteArray) = mkB [10] from rfl]
    simp only [cond_true, Bool.and_self, getD_toNat]
    rw [getD_enc hj, numbers_eq, ws_eq (by simp only [List.length_cons, List.length_nil]; omega)]
    simp only [Option.bind_some]
    rw [print_l1 (nums_small (by omega) (hf _ (List.getElem_mem hj))) (by simp [nums]) (by simp only [List.length_append, List.length_cons, List.length_nil]; omega)]
    simp only [Option.bind_some]
    have h2 := tailB_len (nums_small (i := j) (by omega) (hf _ (List.getElem_mem hj)))
    rw [ws_eq (by simp only [List.length_append, List.length_cons, List.length_nil]; have : (nums j l[j]).length = 6 := rfl; omega)]
    simp only [Option.bind_some]
    rw [wr1 (i := j) (by omega), sh_next hj]
    have e : cat (shL 0 (l.take j)) ++ WShip ++ tailB (nums j l[j]) ++ [10] = cat (shL 0 (l.take j)) ++ (lnS j l[j] ++ [10]) := by unfold lnS; simp only [List.append_assoc]
    rw [e]
  · unfold G39_l0_step
    simp only [F]
    rw [decide_eq_false (p := (l.length : Int) < (l.length : Int)) (by omega)]
    rfl
  · unfold G39_l0_fuel
    simp only [F]
    omega
theorem manifested_eq (L : List E39) (hl : L.length < 2 ^ 40) : (6 < L.length ∧ G65 L = some 3) ∨ (L.length ≤ 6 ∧ (¬ ∀ x ∈ L, OkShip x) ∧ G65 L = some 2) ∨ (L.length ≤ 6 ∧ (∀ x ∈ L, OkShip x) ∧ G65 L = some 0) := by
  unfold G65
  by_cases h : 6 < L.length
  · rw [decide_eq_true (p := (L.length : Int) > 6) (by omega)]
    exact .inl ⟨h, rfl⟩
  rw [decide_eq_false (p := (L.length : Int) > 6) (by omega), cond_false]
  obtain ⟨b, hb, hi⟩ := contains60w L hl
  rw [hb]
  cases b with
  | true => exact .inr (.inl ⟨by omega, hi.1 rfl, rfl⟩)
  | false =>
    have hall : ∀ x ∈ L, OkShip x := Classical.byContradiction fun h => by have := hi.2 h; cases this
    exact .inr (.inr ⟨by omega, hall, rfl⟩)
theorem print_ok {l : List Sh} (hf : FineL l) (hl : l.length ≤ 6) (hok : ∀ x ∈ l.map encS, OkShip x) : G39 (l.map encS) = some (mkB (mani l), (0, ())) := by
  unfold G39
  have hm : G65 (l.map encS) = some 0 := by
    rcases manifested_eq (l.map encS) (by rw [List.length_map]; omega) with ⟨h, _⟩ | ⟨_, h, _⟩ | ⟨_, _, h⟩
    · rw [List.length_map] at h; omega
    · exact absurd hok h
    · exact h
  have hs := sh_len hf (by omega) l.length
  rw [List.take_length] at hs
  have he := endL_len (l := l) (by omega)
  rw [hm]
  simp only [Option.bind_some, show ((0 : Int) != 0) = false from rfl, cond_false]
  rw [print_l0 hf (by omega)]
  simp only [Option.bind_some]
  rw [bstr_eq (by omega), end_eq hf (by omega)]
  simp only [Option.bind_some, mkB_size, app_mk, List.length_append, List.length_singleton]
  rw [lim_le (by omega), mani_eq]
  rfl
end Go.Proofs.YtcijddeommognaaDoor.Abs
set_option linter.unusedVariables false
set_option linter.unusedSimpArgs false
set_option maxRecDepth 100000
namespace Go.Proofs.YtcijddeommognaaDoor.Abs
open Classical
def vs (l : List UInt8) : Sh := ⟨valD ((spl 32 l).getD 2 []), valD ((spl 32 l).getD 3 []), valD ((spl 32 l).getD 4 []), valD ((spl 32 l).getD 5 []), valD ((spl 32 l).getD 6 [])⟩
theorem vs_ln (i : Nat) (s : Sh) : vs (lnS i s) = s := by
  unfold vs
  rw [spl_lnS]
  obtain ⟨a, b, c, d, e⟩ := s
  simp [nums, valD_dd]
theorem seven {w0 w1 w2 w3 w4 w5 w6 l : List UInt8} (h : spl 32 l = [w0, w1, w2, w3, w4, w5, w6]) : vs l = ⟨valD w2, valD w3, valD w4, valD w5, valD w6⟩ := by
  unfold vs; rw [h]; rfl
theorem of7 {W : List (List UInt8)} (h : W.length = 7) : ∃ w0 w1 w2 w3 w4 w5 w6, W = [w0, w1, w2, w3, w4, w5, w6] := by
  match W, h with
  | [w0, w1, w2, w3, w4, w5, w6], _ => exact ⟨w0, w1, w2, w3, w4, w5, w6, rfl⟩
theorem is_ln {l w0 w1 w2 w3 w4 w5 w6 : List UInt8} {j : Nat} (hP : spl 32 l = [w0, w1, w2, w3, w4, w5, w6]) (h0 : w0 = WShip) (h1 : okw w1 = true) (hj : valD w1 = j) (h2 : okw w2 = true) (h3 : okw w3 = true) (h4 : okw w4 = true) (h5 : okw w5 = true) (h6 : okw w6 = true) :
    (vs l).Fine ∧ l = lnS j (vs l) := by
  rw [seven hP]
  refine ⟨⟨okw_lt h2, okw_lt h3, okw_lt h4, okw_lt h5, okw_lt h6⟩, ?_⟩
  have hb := jn_spl 32 l
  rw [hP] at hb
  unfold lnS
  rw [tailB_jn]
  simp only [dcs, nums, List.map_cons, List.map_nil]
  rw [(okw_iff.1 h2).1, (okw_iff.1 h3).1, (okw_iff.1 h4).1, (okw_iff.1 h5).1, (okw_iff.1 h6).1, ← hj, (okw_iff.1 h1).1, ← h0]
  exact hb.symm
theorem not_ln {l w0 w1 w2 w3 w4 w5 w6 : List UInt8} {j : Nat} (hP : spl 32 l = [w0, w1, w2, w3, w4, w5, w6]) (hj : j < 1000000000) {s : Sh} (hs : s.Fine) (h : l = lnS j s) :
    w0 = WShip ∧ okw w1 = true ∧ valD w1 = j ∧ okw w2 = true ∧ okw w3 = true ∧ okw w4 = true ∧ okw w5 = true ∧ okw w6 = true := by
  rw [h, spl_lnS] at hP
  simp only [nums, dcs, List.map_cons, List.map_nil, List.cons.injEq, and_true] at hP
  obtain ⟨e0, e1, e2, e3, e4, e5, e6⟩ := hP
  obtain ⟨h1, h2, h3, h4, h5⟩ := hs
  rw [← e0, ← e1, ← e2, ← e3, ← e4, ← e5, ← e6]
  exact ⟨rfl, okw_dd hj, valD_dd j, okw_dd h1, okw_dd h2, okw_dd h3, okw_dd h4, okw_dd h5⟩
theorem cut_eq (t : List UInt8) (ht : t.length < 2 ^ 31) : (∃ b, t = b ++ [10] ∧ G94 (mkB t) ⟨#[10]⟩ = some (mkB b, (true, ()))) ∨ ((∀ b, t ≠ b ++ [10]) ∧ ∃ z, G94 (mkB t) ⟨#[10]⟩ = some (z, (false, ()))) := by
  have hs : G109 (mkB t) ⟨#[10]⟩ = some (decide (∃ b, t = b ++ [10])) := by
    unfold G109
    rw [mkB_size, show ByteArray.size (⟨#[10]⟩ : ByteArray) = 1 from rfl]
    rcases List.eq_nil_or_concat t with rfl | ⟨b, c, rfl⟩
    · rw [decide_eq_false (p := ((([] : List UInt8).length : Int) ≥ ((1 : Nat) : Int))) (by simp), decide_eq_false (p := ∃ b, ([] : List UInt8) = b ++ [10]) (by simp)]
      rfl
    · rw [List.concat_eq_append] at ht ⊢
      simp only [List.length_append, List.length_singleton] at ht ⊢
      have hw : IntKind.wrap .i64 (((b.length + 1 : Nat) : Int) - ((1 : Nat) : Int)) = (b.length : Int) := by rw [wr (by omega) (by omega)]; omega
      rw [hw, decide_eq_true (p := ((b.length + 1 : Nat) : Int) ≥ ((1 : Nat) : Int)) (by omega), ge0, decide_eq_true (p := (b.length : Int) ≤ ((b.length + 1 : Nat) : Int)) (by omega), decide_eq_true (p := ((b.length + 1 : Nat) : Int) ≤ ((b.length + 1 : Nat) : Int)) (Int.le_refl _)]
      simp only [Bool.and_self, cond_true, Int.toNat_natCast]
      rw [ext_mk, beq_bl, bl_mk, bl_mk, show bl (⟨#[10]⟩ : ByteArray) = [10] from rfl, List.drop_left, List.take_of_length_le (by simp)]
      congr 1
      rw [decide_eq_decide]
      constructor
      · intro h; exact ⟨b, by rw [h]⟩
      · rintro ⟨b', h⟩; exact (List.append_inj' h rfl).2
  by_cases hb : ∃ b, t = b ++ [10]
  · obtain ⟨b, e⟩ := hb
    refine .inl ⟨b, e, ?_⟩
    have hl : t.length = b.length + 1 := by rw [e]; simp
    unfold G94 G103
    rw [hs, decide_eq_true ⟨b, e⟩]
    simp only [Option.bind_some, Bool.not_true, cond_false]
    have hw : IntKind.wrap .i64 ((ByteArray.size (mkB t) : Int) - (ByteArray.size (⟨#[10]⟩ : ByteArray) : Int)) = (b.length : Int) := by rw [mkB_size, show ByteArray.size (⟨#[10]⟩ : ByteArray) = 1 from rfl, wr (by omega) (by omega)]; omega
    rw [hw, show decide ((0 : Int) ≤ 0) = true from rfl, ge0, mkB_size, decide_eq_true (p := (b.length : Int) ≤ (t.length : Int)) (by omega)]
    simp only [Bool.and_self, cond_true, Int.toNat_natCast, Option.bind_some, Int.toNat_zero]
    rw [ext_mk, bl_mk, List.drop_zero, Nat.sub_zero, e, List.take_left]
  · refine .inr ⟨fun b h => hb ⟨b, h⟩, mkB t, ?_⟩
    unfold G94 G103
    rw [hs, decide_eq_false hb]
    rfl
theorem mani_tail (l : List Sh) : ∃ b, mani l = b ++ [10] ∧ spl 10 b = lines l := by
  refine ⟨cat (shL 0 l) ++ endL l, by rw [mani_eq, List.append_assoc], ?_⟩
  have h1 : spl 10 (mani l) = lines l ++ [[]] := spl_cat (lines_no10 l)
  rw [mani_eq, ← List.append_assoc, spl_snoc_c] at h1
  exact List.append_cancel_right h1
theorem read_eq {t : List UInt8} (ht : t.length ≤ 20000) :
    (∃ l : List Sh, FineL l ∧ t = mani l ∧ l.length ≤ t.length ∧ G72 (mkB t) = some (.inr (l.map encS, ()))) ∨ ((∀ l : List Sh, FineL l → t ≠ mani l) ∧ G72 (mkB t) = some (.inl ((), ()))) := by
  unfold G72
  rcases cut_eq t (by omega) with ⟨b, hb, e⟩ | ⟨hb, z, e⟩
  case inr =>
    rw [e]
    refine .inr ⟨fun l _ h => ?_, rfl⟩
    obtain ⟨b, h1, _⟩ := mani_tail l
    exact hb b (h.trans h1)
  rw [e]
  have hbl : b.length + 1 = t.length := by rw [hb]; simp
  have hsp : G95 (mkB b) ⟨#[10]⟩ = some ((spl 10 b).map mkB) := split_eq (s := mkB b) 10 (by rw [mkB_size]; omega)
  have hLl := spl_len 10 b
  have hLp := part_len 10 b
  have hLne := spl_ne 10 b
  have hback : jn 10 (spl 10 b) = b := jn_spl 10 b
  have inF : ∀ l : List Sh, t = mani l → spl 10 b = lines l := fun l h => by
    obtain ⟨b', h1, h2⟩ := mani_tail l
    have h3 := List.append_cancel_right (hb.symm.trans (h.trans h1))
    rw [h3]; exact h2
  simp only [Option.bind_some, Bool.not_true, cond_false, hsp, List.length_map]
  generalize spl 10 b = L at hLl hLp hLne hback inF
  have hm1 : 1 ≤ L.length := List.length_pos_iff.2 hLne
  obtain ⟨n, hn⟩ : ∃ n, L.length = n + 1 := ⟨L.length - 1, by omega⟩
  have hwl : IntKind.wrap .i64 ((L.length : Int) - 1) = (n : Int) := by rw [wr (by omega) (by omega)]; omega
  rw [hwl, show decide ((0 : Int) ≤ 0) = true from rfl, ge0, decide_eq_true (p := (n : Int) ≤ (L.length : Int)) (by omega)]
  simp only [Bool.and_self, cond_true, Int.toNat_zero, Int.toNat_natCast, List.drop_zero, List.length_take, List.length_map]
  rw [Nat.min_eq_left (by omega), ← List.map_take]
  have hMl : (L.take n).length = n := by rw [List.length_take]; omega
  have hMg : ∀ j, j < n → (L.take n).getD j [] = L.getD j [] := fun j hj => by
    rw [List.getD_eq_getElem?_getD, List.getD_eq_getElem?_getD, List.getElem?_take_of_lt hj]
  let F : Nat → (((List ByteArray) × (Int × ((List E39) × ((List ByteArray) × (Int × (Int × Unit)))))) × Unit) := fun j =>
    ((L.map mkB, ((n : Int), ((((L.take j).map vs).map encS), ((L.take n).map mkB, ((n : Int), ((j : Int), ())))))), ())
  let bad : Nat → Bool := fun j => !decide (∃ s, s.Fine ∧ L.getD j [] = lnS j s)
  have go : ∀ j, j < n → G72_l0_step (F j) = some (bif bad j then (1, F j) else (0, F (j + 1))) := fun j hj => by
    unfold G72_l0_step
    simp only [F, bad]
    rw [decide_eq_true (p := (j : Int) < (n : Int)) (by omega), ge0, List.length_map, hMl, decide_eq_true (p := (j : Int) < (n : Int)) (by omega)]
    simp only [Bool.and_self, cond_true, getD_toNat]
    rw [getD_mk, hMg j hj]
    have hlen : (L.getD j []).length < 2 ^ 31 := by
      rw [getD_at (by omega)]
      have := hLp _ (List.getElem_mem (show j < L.length by omega))
      omega
    have hnx : (L.take (j + 1)) = L.take j ++ [L.getD j []] := by rw [take_next (by omega), getD_at (by omega)]
    have hjl : (L.take j).length = j := by rw [List.length_take]; omega
    generalize hl : L.getD j [] = l at hlen hnx
    rw [split_eq (s := mkB l) 32 (by rw [mkB_size]; exact hlen), bl_mk]
    simp only [Option.bind_some, List.length_map]
    have bd : (¬ ∃ s, s.Fine ∧ l = lnS j s) → (!decide (∃ s, s.Fine ∧ l = lnS j s)) = true := fun h => by rw [decide_eq_false h]; rfl
    by_cases h7 : (spl 32 l).length = 7
    case neg =>
      rw [show (((spl 32 l).length : Int) != 7) = true from bne_iff_ne.2 (by omega), bd (fun ⟨s, _, h⟩ => h7 (by rw [h, spl_lnS]; rfl))]
      rfl
    obtain ⟨w0, w1, w2, w3, w4, w5, w6, hP⟩ := of7 h7
    have hpl : ∀ w ∈ spl 32 l, w.length < 2 ^ 31 := fun w hw => by have := part_len 32 l w hw; omega
    rw [hP] at hpl
    have hw1 := hpl w1 (by simp); have hw2 := hpl w2 (by simp); have hw3 := hpl w3 (by simp); have hw4 := hpl w4 (by simp); have hw5 := hpl w5 (by simp); have hw6 := hpl w6 (by simp)
    have no : ∀ {p : Prop}, ¬ p → (∀ s : Sh, s.Fine → l = lnS j s → p) → (!decide (∃ s, s.Fine ∧ l = lnS j s)) = true := fun h1 h2 => bd fun ⟨s, h3, h4⟩ => h1 (h2 s h3 h4)
    have inW : ∀ s : Sh, s.Fine → l = lnS j s → w0 = WShip ∧ okw w1 = true ∧ valD w1 = j ∧ okw w2 = true ∧ okw w3 = true ∧ okw w4 = true ∧ okw w5 = true ∧ okw w6 = true := fun s h1 h2 => not_ln hP (by omega) h1 h2
    rw [hP]
    simp only [List.length_cons, List.length_nil, List.map_cons, List.map_nil, Int.toNat_zero, show Int.toNat 1 = 1 from rfl, show Int.toNat 2 = 2 from rfl, show Int.toNat 3 = 3 from rfl, show Int.toNat 4 = 4 from rfl, show Int.toNat 5 = 5 from rfl, show Int.toNat 6 = 6 from rfl, List.getD_cons_zero, List.getD_cons_succ]
    simp only [show (((0 + 1 + 1 + 1 + 1 + 1 + 1 + 1 : Nat) : Int) != 7) = false from rfl, show decide ((0 : Int) < ((0 + 1 + 1 + 1 + 1 + 1 + 1 + 1 : Nat) : Int)) = true from rfl, show decide ((1 : Int) < ((0 + 1 + 1 + 1 + 1 + 1 + 1 + 1 : Nat) : Int)) = true from rfl, show decide ((2 : Int) < ((0 + 1 + 1 + 1 + 1 + 1 + 1 + 1 : Nat) : Int)) = true from rfl, show decide ((3 : Int) < ((0 + 1 + 1 + 1 + 1 + 1 + 1 + 1 : Nat) : Int)) = true from rfl, show decide ((4 : Int) < ((0 + 1 + 1 + 1 + 1 + 1 + 1 + 1 : Nat) : Int)) = true from rfl, show decide ((5 : Int) < ((0 + 1 + 1 + 1 + 1 + 1 + 1 + 1 : Nat) : Int)) = true from rfl, show decide ((6 : Int) < ((0 + 1 + 1 + 1 + 1 + 1 + 1 + 1 : Nat) : Int)) = true from rfl,
      show decide ((0 : Int) ≤ 0) = true from rfl, show decide ((0 : Int) ≤ 1) = true from rfl, show decide ((0 : Int) ≤ 2) = true from rfl, show decide ((0 : Int) ≤ 3) = true from rfl, show decide ((0 : Int) ≤ 4) = true from rfl, show decide ((0 : Int) ≤ 5) = true from rfl, show decide ((0 : Int) ≤ 6) = true from rfl, Bool.and_self, cond_true, cond_false]
    rw [show (⟨#[115, 104, 105, 112]⟩ : ByteArray) = mkB WShip from rfl, beq_bl, bl_mk, bl_mk]
    by_cases h0 : w0 = WShip
    case neg =>
      rw [decide_eq_false h0, no h0 fun s h1 h2 => (inW s h1 h2).1]
      rfl
    rw [decide_eq_true h0]
    simp only [Bool.not_true, cond_false, number_eq _ hw1, number_eq _ hw2, number_eq _ hw3, number_eq _ hw4, number_eq _ hw5, number_eq _ hw6, Option.bind_some]
    by_cases k1 : okw w1 = true
    case neg =>
      rw [no k1 fun s h1 h2 => (inW s h1 h2).2.1]
      simp only [if_neg k1, altK]
      rfl
    simp only [if_pos k1, altK]
    by_cases kj : valD w1 = j
    case neg =>
      rw [no kj fun s h1 h2 => (inW s h1 h2).2.2.1, show (((valD w1 : Nat) : Int) != (j : Int)) = true from bne_iff_ne.2 (by omega)]
      rfl
    rw [show (((valD w1 : Nat) : Int) != (j : Int)) = false by rw [kj]; simp]
    simp only [cond_false]
    by_cases k2 : okw w2 = true
    case neg =>
      rw [no k2 fun s h1 h2 => (inW s h1 h2).2.2.2.1]
      simp only [if_neg k2]
      rfl
    simp only [if_pos k2]
    by_cases k3 : okw w3 = true
    case neg =>
      rw [no k3 fun s h1 h2 => (inW s h1 h2).2.2.2.2.1]
      simp only [if_neg k3]
      rfl
    simp only [if_pos k3]
    by_cases k4 : okw w4 = true
    case neg =>
      rw [no k4 fun s h1 h2 => (inW s h1 h2).2.2.2.2.2.1]
      simp only [if_neg k4]
      rfl
    simp only [if_pos k4]
    by_cases k5 : okw w5 = true
    case neg =>
      rw [no k5 fun s h1 h2 => (inW s h1 h2).2.2.2.2.2.2.1]
      simp only [if_neg k5]
      rfl
    simp only [if_pos k5]
    by_cases k6 : okw w6 = true
    case neg =>
      rw [no k6 fun s h1 h2 => (inW s h1 h2).2.2.2.2.2.2.2]
      simp only [if_neg k6]
      rfl
    simp only [if_pos k6]
    obtain ⟨f1, f2⟩ := is_ln hP h0 k1 kj k2 k3 k4 k5 k6
    rw [decide_eq_true (p := ∃ s, s.Fine ∧ l = lnS j s) ⟨_, f1, f2⟩, hjl, lim_le (by omega), wr1 (i := j) (by omega), hnx, List.map_append, List.map_append, List.map_cons, List.map_nil, List.map_cons, List.map_nil, seven hP]
    rfl
  have hend : G72_l0_step (F n) = some (2, F n) := by
    unfold G72_l0_step
    simp only [F]
    rw [decide_eq_false (p := (n : Int) < (n : Int)) (by omega)]
    rfl
  have hfuel : G72_l0_fuel (F 0) = n + 1 := by
    unfold G72_l0_fuel
    simp only [F]
    omega
  unfold G72_l0_run
  rw [show ((L.map mkB, ((n : Int), (([] : List E39), ((L.take n).map mkB, ((n : Int), ((0 : Int), ())))))), ()) = F 0 by simp [F], hfuel]
  rcases iter_fn (bad := bad) F F (F n) go hend (Nat.lt_succ_self _) with ⟨j, hj, hbj, _, e4⟩ | ⟨hall, e4⟩
  · rw [e4]
    refine .inr ⟨fun l hf h => ?_, rfl⟩
    have h1 := inF l h
    have hl : l.length = n := by have := congrArg List.length h1; rw [lines_len] at this; omega
    simp only [bad, Bool.not_eq_true', decide_eq_false_iff_not] at hbj
    refine hbj ⟨l[j]'(by omega), hf _ (List.getElem_mem _), ?_⟩
    have h2 := shL_at 0 l j (by omega)
    rw [Nat.zero_add] at h2
    rw [← h2, h1]
    unfold lines
    rw [List.getD_eq_getElem?_getD, List.getElem?_append_left (by rw [shL_len]; omega), List.getD_eq_getElem?_getD]
  rw [e4]
  have hS : ∀ j, j < n → (vs (L.getD j [])).Fine ∧ L.getD j [] = lnS j (vs (L.getD j [])) := fun j hj => by
    have h1 := hall j hj
    simp only [bad, Bool.not_eq_false', decide_eq_true_eq] at h1
    obtain ⟨s, h2, h3⟩ := h1
    rw [h3, vs_ln]
    exact ⟨h2, rfl⟩
  simp only [Option.bind_some, natK, F, List.length_map]
  generalize hxs : (L.take n).map vs = xs
  have hxl : xs.length = n := by rw [← hxs, List.length_map, hMl]
  have hxat : ∀ j (hj : j < xs.length), xs[j] = vs (L.getD j []) := fun j hj => by
    subst hxs
    simp only [List.getElem_map, List.getElem_take]
    rw [getD_at (by omega)]
  have hf : FineL xs := fun s hs => by
    obtain ⟨j, hj, rfl⟩ := List.mem_iff_getElem.1 hs
    rw [hxat j hj]
    exact (hS j (by omega)).1
  rw [ge0, decide_eq_true (p := (n : Int) < (L.length : Int)) (by omega), getD_toNat, getD_mk, end_eq hf (by omega), show (⟨#[10]⟩ : ByteArray) = mkB [10] from rfl]
  have hlast : (L.getD n []).length ≤ 20000 := by
    rw [getD_at (by omega)]
    have := hLp _ (List.getElem_mem (show n < L.length by omega))
    omega
  simp only [Bool.and_self, cond_true, Option.bind_some, mkB_size, app_mk, List.length_singleton]
  rw [lim_le (by omega), beq_bl, bl_mk, bl_mk]
  simp only [cond_true]
  have hM : L.take n = shL 0 xs := List.ext_getElem (by rw [hMl, shL_len, hxl]) fun j h1 h2 => by
    have h3 := shL_at 0 xs j (by rw [shL_len] at h2; exact h2)
    rw [getD_at h2, Nat.zero_add, hxat] at h3
    have h4 := (hS j (by omega)).2
    rw [h3, ← h4, List.getElem_take, getD_at (by omega)]
  by_cases hq : L.getD n [] ++ [10] = endL xs ++ [10]
  · rw [decide_eq_true hq]
    refine .inl ⟨xs, hf, ?_, by omega, rfl⟩
    have h5 := List.append_cancel_right hq
    have h6 : L = lines xs := by
      unfold lines
      rw [← hM, ← h5, getD_at (by omega), ← take_next (by omega), List.take_of_length_le (by omega)]
    rw [hb, ← hback, ← cat_jn hLne, h6]
    rfl
  · rw [decide_eq_false hq]
    refine .inr ⟨fun l hl h => hq ?_, rfl⟩
    have h1 := inF l h
    have hll : l.length = n := by have := congrArg List.length h1; rw [lines_len] at this; omega
    have h2 : L.take n = shL 0 l := by rw [h1]; unfold lines; rw [List.take_left' (by rw [shL_len, hll])]
    have h3 : xs = l := by
      rw [← hxs, h2]
      refine List.ext_getElem (by rw [List.length_map, shL_len]) fun j h4 h5 => ?_
      have h6 := shL_at 0 l j h5
      rw [List.getElem_map]
      rw [getD_at (by rw [shL_len]; exact h5)] at h6
      rw [h6, vs_ln]
    have h4 : L.getD n [] = endL l := by
      rw [h1]; unfold lines
      rw [List.getD_eq_getElem?_getD, List.getElem?_append_right (by rw [shL_len]; omega), shL_len, hll]
      simp
    rw [h4, h3]
end Go.Proofs.YtcijddeommognaaDoor.Abs
set_option linter.unusedVariables false
set_option linter.unusedSimpArgs false
set_option maxRecDepth 100000
namespace Go.Proofs.YtcijddeommognaaDoor.Abs
open Classical
theorem mul_mod97 (s n k : Nat) : (s + n * k) % 97 = (s + n % 97 * k) % 97 := by
  rw [Nat.add_mod s (n * k) 97, Nat.mul_mod n k 97, Nat.add_mod s (n % 97 * k) 97, Nat.mul_mod (n % 97) k 97, Nat.mod_mod n 97]
end Go.Proofs.YtcijddeommognaaDoor.Abs
set_option linter.unusedVariables false
set_option linter.unusedSimpArgs false
set_option maxRecDepth 100000
namespace Go.Proofs.YtcijddeommognaaDoor.Abs
open Classical
theorem valD_app (a : List UInt8) : ∀ (b : List UInt8), valD (a ++ b) = valD a * 10 ^ b.length + valD b := by
  refine snoc_rec ?_ fun b c ih => ?_
  · simp [valD]
  · rw [← List.append_assoc, valD_snoc, valD_snoc, ih, List.length_append, List.length_singleton, Nat.pow_succ, Nat.mul_add, ← Nat.mul_assoc, Nat.add_assoc]
    congr 1
    rw [Nat.mul_comm 10 (valD a), Nat.mul_assoc, Nat.mul_comm 10]
theorem valD_at (k1 k2 : List UInt8) (p : UInt8) : valD (k1 ++ p :: k2) = (p.toNat - 48) * 10 ^ k2.length + (valD k1 * 10 ^ (k2.length + 1) + valD k2) := by
  have h1 : valD (p :: k2) = (p.toNat - 48) * 10 ^ k2.length + valD k2 := by
    have := valD_app [p] k2
    rw [List.singleton_append] at this
    rw [this]
    congr 2
    simp [valD]
  rw [valD_app, h1, List.length_cons]
  omega
theorem wk_app : ∀ (k : Nat) (a b : List Nat), wk k (a ++ b) = wk k a + wk (k + a.length) b
  | k, [], b => by simp [wk]
  | k, n :: a, b => by
    rw [List.cons_append, wk, wk, wk_app (k + 1) a b, List.length_cons, show k + 1 + a.length = k + (a.length + 1) by omega]; omega
theorem csum_diff : ∀ (i : Nat) (l m : List Sh) (a : Nat) (ha : a < l.length) (hb : a < m.length), l.length = m.length → (∀ j (h : j < l.length) (h' : j < m.length), j ≠ a → l[j] = m[j]) → ∃ c, csum i l = c + wk 0 (nums (i + a) l[a]) ∧ csum i m = c + wk 0 (nums (i + a) m[a])
  | i, [], m, a, ha, hb, _, _ => by simp at ha
  | i, x :: l, [], a, ha, hb, _, _ => by simp at hb
  | i, x :: l, y :: m, 0, ha, hb, hl, h => by
    have e : l = m := List.ext_getElem (by simpa using hl) fun j h1 h2 => h (j + 1) (by simpa using h1) (by simpa using h2) (by omega)
    subst e
    exact ⟨csum (i + 1) l, by rw [csum]; simp [Nat.add_comm], by rw [csum]; simp [Nat.add_comm]⟩
  | i, x :: l, y :: m, a + 1, ha, hb, hl, h => by
    obtain ⟨c, h1, h2⟩ := csum_diff (i + 1) l m a (by simpa using ha) (by simpa using hb) (by simpa using hl) fun j h1 h2 h3 => h (j + 1) (by simpa using h1) (by simpa using h2) (by omega)
    have h3 : x = y := h 0 (by simp) (by simp) (by omega)
    subst h3
    refine ⟨wk 0 (nums i x) + c, ?_, ?_⟩
    · rw [csum, h1, List.getElem_cons_succ, show i + 1 + a = i + (a + 1) by omega]; omega
    · rw [csum, h2, List.getElem_cons_succ, show i + 1 + a = i + (a + 1) by omega]; omega
theorem endL_sum {l m : List Sh} (hl : l.length = m.length) (h : endL l = endL m) : csum 0 l % 97 = csum 0 m % 97 := by
  unfold endL at h
  rw [hl] at h
  simp only [List.append_assoc] at h
  have h1 := List.append_cancel_left (List.append_cancel_left (List.append_cancel_left h))
  have ha : csum 0 l % 97 < 97 := csum_le
  have hb : csum 0 m % 97 < 97 := csum_le
  generalize csum 0 l % 97 = a at *
  generalize csum 0 m % 97 = b at *
  rw [dd_small (n := a / 10) (by omega), dd_small (n := a % 10) (by omega), dd_small (n := b / 10) (by omega), dd_small (n := b % 10) (by omega)] at h1
  simp only [List.cons_append, List.nil_append, List.cons.injEq, and_true] at h1
  have e1 := congrArg UInt8.toNat h1.1
  have e2 := congrArg UInt8.toNat h1.2
  rw [dg_of (by omega), dg_of (by omega)] at e1 e2
  omega
theorem mod97 : ∀ e, e < 9 → ∀ c, c < 6 → ∀ x, x < 10 → ∀ y, y < 10 → (x * (10 ^ e * (c + 1))) % 97 = (y * (10 ^ e * (c + 1))) % 97 → x = y := by decide +kernel
theorem spoilt_ln {a : Nat} (ha : a < 1000000000) {s t : Sh} (hs : s.Fine) (ht : t.Fine) {m1 m2 : List UInt8} {p q : UInt8} (hp : isDg p) (hq : isDg q) (h1 : lnS a s = m1 ++ p :: m2) (h2 : lnS a t = m1 ++ q :: m2) (hw : wk 0 (nums a s) % 97 = wk 0 (nums a t) % 97) : p = q := by
  obtain ⟨C, k1, k2, D, hc⟩ := spl_mid (dg_ne hp).1 m2 m1
  have c1 := hc p (dg_ne hp).1
  have c2 := hc q (dg_ne hq).1
  rw [← h1, spl_lnS] at c1
  rw [← h2, spl_lnS] at c2
  cases C with
  | nil =>
    simp only [List.nil_append, List.singleton_append, List.cons.injEq] at c1
    have : p ∈ WShip := by rw [c1.1]; simp
    have hno : ∀ b ∈ WShip, ¬ isDg b := by decide
    exact absurd hp (hno p this)
  | cons c C =>
    simp only [List.cons_append, List.cons.injEq] at c1 c2
    obtain ⟨_, c1⟩ := c1
    obtain ⟨_, c2⟩ := c2
    have v1 : nums a s = C.map valD ++ valD (k1 ++ p :: k2) :: D.map valD := by
      have := congrArg (List.map valD) c1
      rw [dcs, List.map_map] at this
      have hid : (valD ∘ Lib.decDigits) = id := by funext n; exact valD_dd n
      rw [hid, List.map_id] at this
      rw [this]; simp
    have v2 : nums a t = C.map valD ++ valD (k1 ++ q :: k2) :: D.map valD := by
      have := congrArg (List.map valD) c2
      rw [dcs, List.map_map] at this
      have hid : (valD ∘ Lib.decDigits) = id := by funext n; exact valD_dd n
      rw [hid, List.map_id] at this
      rw [this]; simp
    have hC : C.length < 6 := by
      have := congrArg List.length c1
      simp [nums] at this
      omega
    have hk : k2.length < 9 := by
      have hm : k1 ++ p :: k2 ∈ dcs (nums a s) := by rw [c1]; simp
      obtain ⟨n, hn, e⟩ := List.mem_map.1 hm
      have := dd9 (nums_small ha hs n hn)
      rw [e] at this
      simp at this; omega
    rw [v1, v2, wk_app, wk_app, wk, wk, List.length_map, Nat.zero_add] at hw
    have h3 : (valD (k1 ++ p :: k2) * (C.length + 1)) % 97 = (valD (k1 ++ q :: k2) * (C.length + 1)) % 97 := by
      have e1 := mul_mod97 0 (valD (k1 ++ p :: k2)) (C.length + 1)
      have e2 := mul_mod97 0 (valD (k1 ++ q :: k2)) (C.length + 1)
      rw [Nat.zero_add, Nat.zero_add] at e1 e2
      rw [e1, e2]
      generalize valD (k1 ++ p :: k2) % 97 * (C.length + 1) = P at hw ⊢
      generalize valD (k1 ++ q :: k2) % 97 * (C.length + 1) = Q at hw ⊢
      omega
    rw [valD_at, valD_at, Nat.add_mul, Nat.add_mul ((q.toNat - 48) * 10 ^ k2.length), Nat.mul_assoc, Nat.mul_assoc] at h3
    have h4 : ((p.toNat - 48) * (10 ^ k2.length * (C.length + 1))) % 97 = ((q.toNat - 48) * (10 ^ k2.length * (C.length + 1))) % 97 := by
      generalize (p.toNat - 48) * (10 ^ k2.length * (C.length + 1)) = P at h3 ⊢
      generalize (q.toNat - 48) * (10 ^ k2.length * (C.length + 1)) = Q at h3 ⊢
      generalize (valD k1 * 10 ^ (k2.length + 1) + valD k2) * (C.length + 1) = R at h3
      omega
    unfold isDg at hp hq
    have := mod97 _ hk _ hC _ (by omega) _ (by omega) h4
    exact UInt8.toNat_inj.1 (by omega)
theorem spoilt {l m : List Sh} (hf : FineL l) (hg : FineL m) (hl : l.length ≤ 10 ^ 6) {u v : List UInt8} {p q : UInt8} (hp : isDg p) (hq : isDg q) (h1 : mani l = u ++ p :: v) (h2 : mani m = u ++ q :: v) : p = q := by
  obtain ⟨A, m1, m2, B, hm⟩ := spl_mid (dg_ne hp).2 v u
  have s1 := hm p (dg_ne hp).2
  have s2 := hm q (dg_ne hq).2
  rw [← h1, show spl 10 (mani l) = lines l ++ [[]] from spl_cat (lines_no10 l)] at s1
  rw [← h2, show spl 10 (mani m) = lines m ++ [[]] from spl_cat (lines_no10 m)] at s2
  have n1 : l.length + 2 = A.length + 1 + B.length := by
    have := congrArg List.length s1
    rw [List.length_append, lines_len, List.length_append, List.length_append] at this
    simp at this; omega
  have n2 : m.length + 2 = A.length + 1 + B.length := by
    have := congrArg List.length s2
    rw [List.length_append, lines_len, List.length_append, List.length_append] at this
    simp at this; omega
  have hlm : l.length = m.length := by omega
  have at1 : ∀ (l : List Sh) (j : Nat) (h : j < l.length), (lines l ++ [[]]).getD j [] = lnS j l[j] := fun l j h => by
    have := shL_at 0 l j h
    rw [Nat.zero_add] at this
    unfold lines
    rw [List.getD_eq_getElem?_getD, List.append_assoc, List.getElem?_append_left (by rw [shL_len]; exact h), ← List.getD_eq_getElem?_getD, this]
  have at2 : ∀ (l : List Sh), (lines l ++ [[]]).getD l.length [] = endL l := fun l => by
    unfold lines
    rw [List.getD_eq_getElem?_getD, List.append_assoc, List.getElem?_append_right (by rw [shL_len]; omega), shL_len]
    simp
  have at3 : ∀ (l : List Sh), (lines l ++ [[]]).getD (l.length + 1) [] = [] := fun l => by
    rw [List.getD_eq_getElem?_getD, List.getElem?_append_right (by rw [lines_len]; omega), lines_len]
    simp
  have atA : ∀ b : UInt8, (A ++ [m1 ++ b :: m2] ++ B).getD A.length [] = m1 ++ b :: m2 := fun b => by
    rw [List.append_assoc, List.getD_eq_getElem?_getD, List.getElem?_append_right (Nat.le_refl _)]
    simp
  have off : ∀ j, j ≠ A.length → (A ++ [m1 ++ p :: m2] ++ B).getD j [] = (A ++ [m1 ++ q :: m2] ++ B).getD j [] := fun j hj => by
    rw [List.append_assoc, List.append_assoc, List.getD_eq_getElem?_getD, List.getD_eq_getElem?_getD]
    rcases Nat.lt_or_ge j A.length with h | h
    · rw [List.getElem?_append_left h, List.getElem?_append_left h]
    · rw [List.getElem?_append_right h, List.getElem?_append_right h]
      obtain ⟨k, hk⟩ : ∃ k, j - A.length = k + 1 := ⟨j - A.length - 1, by omega⟩
      rw [hk]; rfl
  rw [← s1, ← s2] at off
  have same : ∀ j (h : j < l.length) (h' : j < m.length), j ≠ A.length → l[j] = m[j] := fun j h h' hne => by
    have := off j hne
    rw [at1 l j h, at1 m j h'] at this
    exact (lnS_inj this).2
  rcases Nat.lt_or_ge A.length l.length with hA | hA
  · have e1 := atA p
    have e2 := atA q
    rw [← s1, at1 l _ hA] at e1
    rw [← s2, at1 m _ (by omega)] at e2
    have e3 := off l.length (by omega)
    rw [at2 l] at e3
    rw [hlm, at2 m] at e3
    have e4 := endL_sum hlm e3
    obtain ⟨c, d1, d2⟩ := csum_diff 0 l m A.length hA (by omega) hlm same
    rw [Nat.zero_add] at d1 d2
    rw [d1, d2] at e4
    refine spoilt_ln (a := A.length) (by omega) (hf _ (List.getElem_mem hA)) (hg _ (List.getElem_mem (by omega))) hp hq e1 e2 ?_
    generalize wk 0 (nums A.length l[A.length]) = P at e4 ⊢
    generalize wk 0 (nums A.length (m[A.length]'(by omega))) = Q at e4 ⊢
    omega
  · have e : l = m := List.ext_getElem hlm fun j h h' => same j h h' (by omega)
    rw [e, h2] at h1
    have := List.append_cancel_left h1
    rw [List.cons.injEq] at this
    exact this.1.symm
theorem toL {L : List E39} (hw : ∀ x ∈ L, x.2.1.length = 3) (h : ∀ x ∈ L, OkShip x) : ∃ l : List Sh, FineL l ∧ L = l.map encS := by
  have key : ∀ x ∈ L, ∃ s : Sh, s.Fine ∧ x = encS s := fun x hx => by
    have h1 := hw x hx
    have h2 := h x hx
    obtain ⟨w, g, c, u⟩ := x
    obtain ⟨g0, g1, g2, rfl⟩ : ∃ g0 g1 g2, g = [g0, g1, g2] := by
      match g, h1 with
      | [g0, g1, g2], _ => exact ⟨g0, g1, g2, rfl⟩
    obtain ⟨hw, ⟨h0, h1, h2⟩, hc⟩ := h2
    unfold In at hw h0 h1 h2 hc
    simp only [List.getD_cons_zero, List.getD_cons_succ] at hw h0 h1 h2 hc
    refine ⟨⟨w.toNat, c.toNat, g0.toNat, g1.toNat, g2.toNat⟩, ⟨by show w.toNat < _; omega, by show c.toNat < _; omega, by show g0.toNat < _; omega, by show g1.toNat < _; omega, by show g2.toNat < _; omega⟩, ?_⟩
    unfold encS
    simp only [Prod.mk.injEq, List.cons.injEq, and_true]
    omega
  clear hw h
  induction L with
  | nil => exact ⟨[], fun s hs => absurd hs (by simp), rfl⟩
  | cons x L ih =>
    obtain ⟨s, h1, h2⟩ := key x List.mem_cons_self
    obtain ⟨l, h3, h4⟩ := ih fun y hy => key y (List.mem_cons_of_mem _ hy)
    refine ⟨s :: l, fun y hy => ?_, by rw [h2, h4]; rfl⟩
    rcases List.mem_cons.1 hy with rfl | hy
    · exact h1
    · exact h3 y hy
theorem mani_len {l : List Sh} (hf : FineL l) (hl : l.length ≤ 6) : (mani l).length ≤ 10000 := by
  have hs := sh_len hf (by omega) l.length
  rw [List.take_length] at hs
  have he := endL_len (l := l) (by omega)
  rw [mani_eq]
  simp only [List.length_append, List.length_singleton]
  omega
theorem bl_spoil {x : ByteArray} {i : Nat} (d : Nat) (hd : d < 10) : bl (strI (List.set (bytesI x) i (spoilB (d : Int)))) = (bl x).set i (UInt8.ofNat (48 + d)) := by
  have h8 : spoilB (d : Int) = ((48 + d : Nat) : Int) := w8_dg hd
  rw [h8]
  unfold strI bytesI
  show List.map (fun n : Int => UInt8.ofNat n.toNat) _ = _
  rw [List.map_set, List.map_map]
  have h1 : ((fun n : Int => UInt8.ofNat n.toNat) ∘ fun b : UInt8 => ((b.toNat : Nat) : Int)) = id := by
    funext b
    simp [Function.comp]
  rw [h1, List.map_id]
  rfl
theorem set_app (l : List UInt8) (i : Nat) (h : i < l.length) (q : UInt8) : l.set i q = l.take i ++ q :: l.drop (i + 1) := by
  rw [List.set_eq_take_append_cons_drop, if_pos h]
theorem self_app (l : List UInt8) (i : Nat) (h : i < l.length) : l = l.take i ++ l[i] :: l.drop (i + 1) := by
  conv => lhs; rw [← List.take_append_drop i l, List.drop_eq_getElem_cons h]
theorem Read_eq {t : List UInt8} (ht : t.length ≤ 10000) :
    (∃ l : List Sh, FineL l ∧ t = mani l ∧ l.length ≤ t.length ∧ ((6 < l.length ∧ G41 (mkB t) = some ([], (3, ()))) ∨ (l.length ≤ 6 ∧ (¬ ∀ x ∈ l.map encS, OkShip x) ∧ G41 (mkB t) = some ([], (2, ()))) ∨ (l.length ≤ 6 ∧ (∀ x ∈ l.map encS, OkShip x) ∧ G41 (mkB t) = some (l.map encS, (0, ()))))) ∨
    ((∀ l : List Sh, FineL l → t ≠ mani l) ∧ G41 (mkB t) = some ([], (4, ()))) := by
  unfold G41
  rw [mkB_size, decide_eq_false (p := (t.length : Int) > 10000) (by omega), cond_false]
  rcases read_eq (t := t) (by omega) with ⟨l, hf, e, hl, h⟩ | ⟨h1, h⟩
  · refine .inl ⟨l, hf, e, hl, ?_⟩
    rw [h]
    simp only [Option.bind_some, altK]
    rcases manifested_eq (l.map encS) (by rw [List.length_map]; omega) with ⟨h1, h2⟩ | ⟨h0, h1, h2⟩ | ⟨h0, h1, h2⟩
    · rw [List.length_map] at h1
      exact .inl ⟨h1, by rw [h2]; rfl⟩
    · rw [List.length_map] at h0
      exact .inr (.inl ⟨h0, h1, by rw [h2]; rfl⟩)
    · rw [List.length_map] at h0
      exact .inr (.inr ⟨h0, h1, by rw [h2]; rfl⟩)
  · refine .inr ⟨h1, ?_⟩
    rw [h]
    rfl
end Go.Proofs.YtcijddeommognaaDoor.Abs
set_option maxRecDepth 1000000
namespace Go.Proofs.YtcijddeommognaaDoor.Abs
theorem known_ok : G20 = some true := by kernel_rfl
end Go.Proofs.YtcijddeommognaaDoor.Abs
