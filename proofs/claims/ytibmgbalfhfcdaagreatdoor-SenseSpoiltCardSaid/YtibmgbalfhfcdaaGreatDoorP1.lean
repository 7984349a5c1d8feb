import Derived.Test.YtibmgbalfhfcdaaGreatDoorX1
import Derived.IntWalk
import Derived.Lib.Split
import Derived.Lib.ItoaMem
import Derived.Test.YtibmgbalfhfcdaaGreatDoorF3
set_option linter.unusedVariables false
set_option linter.unusedSimpArgs false
set_option maxRecDepth 100000
namespace Go.Proofs.YtibmgbalfhfcdaaGreatDoor.Abs
theorem wr {n : Int} (h : -9223372036854775808 ≤ n) (h' : n ≤ 9223372036854775807) : IntKind.wrap .i64 n = n := by rw [IntKind.wrap_i64]; omega
theorem wr1 {i : Nat} (h : i < 2 ^ 62) : IntKind.wrap .i64 ((i : Int) + 1) = ((i + 1 : Nat) : Int) := by rw [wr (by omega) (by omega)]; omega
theorem iter_one {α : Type} {step : α → Option (Nat × α)} {fuel : Nat} {s s' : α} (h : step s = some (0, s')) : iter step (fuel + 1) s = iter step fuel s' := by
  simp only [iter, h, Option.bind_some]
theorem iter_out {α : Type} {step : α → Option (Nat × α)} {fuel n : Nat} {s s' : α} (h : step s = some (n + 1, s')) : iter step (fuel + 1) s = some (n, s') := by
  simp only [iter, h, Option.bind_some]
theorem iter_fn' {α : Type} {step : α → Option (Nat × α)} {n k1 k2 : Nat} {bad : Nat → Bool} (F X : Nat → α) (Y : α) (hgo : ∀ i, i < n → step (F i) = some (bif bad i then (k1 + 1, X i) else (0, F (i + 1)))) (hend : step (F n) = some (k2 + 1, Y)) :
    ∀ (m i fuel : Nat), i + m = n → m < fuel → (∃ j, i ≤ j ∧ j < n ∧ bad j = true ∧ (∀ l, i ≤ l → l < j → bad l = false) ∧ iter step fuel (F i) = some (k1, X j)) ∨ ((∀ l, i ≤ l → l < n → bad l = false) ∧ iter step fuel (F i) = some (k2, Y))
  | _, _, 0, _, hf => by omega
  | 0, i, fuel + 1, hi, hf => by
    obtain rfl : i = n := by omega
    exact .inr ⟨fun l h h' => by omega, iter_out hend⟩
  | m + 1, i, fuel + 1, hi, hf => by
    have h := hgo i (by omega)
    cases hb : bad i with
    | true =>
      rw [hb] at h
      exact .inl ⟨i, Nat.le_refl _, by omega, hb, fun l h h' => by omega, iter_out h⟩
    | false =>
      rw [hb] at h
      rw [iter_one h]
      rcases iter_fn' F X Y hgo hend m (i + 1) fuel (by omega) (by omega) with ⟨j, a1, a2, a3, a4, a5⟩ | ⟨a1, a2⟩
      · refine .inl ⟨j, by omega, a2, a3, fun l h h' => ?_, a5⟩
        rcases Nat.eq_or_lt_of_le h with rfl | h
        · exact hb
        · exact a4 l h h'
      · refine .inr ⟨fun l h h' => ?_, a2⟩
        rcases Nat.eq_or_lt_of_le h with rfl | h
        · exact hb
        · exact a1 l h h'
theorem iter_fn {α : Type} {step : α → Option (Nat × α)} {n k1 k2 fuel : Nat} {bad : Nat → Bool} (F X : Nat → α) (Y : α) (hgo : ∀ i, i < n → step (F i) = some (bif bad i then (k1 + 1, X i) else (0, F (i + 1)))) (hend : step (F n) = some (k2 + 1, Y)) (hf : n < fuel) :
    (∃ j, j < n ∧ bad j = true ∧ (∀ l, l < j → bad l = false) ∧ iter step fuel (F 0) = some (k1, X j)) ∨ ((∀ l, l < n → bad l = false) ∧ iter step fuel (F 0) = some (k2, Y)) := by
  rcases iter_fn' F X Y hgo hend n 0 fuel (by omega) hf with ⟨j, _, h⟩ | ⟨h, h'⟩
  · exact .inl ⟨j, h.1, h.2.1, fun l hl => h.2.2.1 l (Nat.zero_le _) hl, h.2.2.2⟩
  · exact .inr ⟨fun l hl => h l (Nat.zero_le _) hl, h'⟩
theorem iter_run {α : Type} {step : α → Option (Nat × α)} {n k fuel : Nat} (F : Nat → α) (Y : α) (hgo : ∀ i, i < n → step (F i) = some (0, F (i + 1))) (hend : step (F n) = some (k + 1, Y)) (hf : n < fuel) : iter step fuel (F 0) = some (k, Y) := by
  rcases iter_fn (bad := fun _ => false) (k1 := 0) F F Y hgo hend hf with ⟨j, _, h, _⟩ | ⟨_, h⟩
  · cases h
  · exact h
def Tells (f : Option Bool) (P : Prop) : Prop := ∃ b, f = some b ∧ (b = true ↔ P)
theorem Tells.iff {f : Option Bool} {P Q : Prop} (h : Tells f P) (e : P ↔ Q) : Tells f Q := by obtain ⟨b, h1, h2⟩ := h; exact ⟨b, h1, h2.trans e⟩
theorem tells_dec {p : Prop} [Decidable p] : Tells (some (decide p)) p := ⟨_, rfl, decide_eq_true_iff⟩
theorem tells_f {P : Prop} (h : ¬ P) : Tells (some false) P := ⟨false, rfl, by simp [h]⟩
theorem tells_t {P : Prop} (h : P) : Tells (some true) P := ⟨true, rfl, by simp [h]⟩
theorem tells_and {f g : Option Bool} {P Q : Prop} (h : Tells f P) (k : P → Tells g Q) : Tells (Option.bind f fun r => bif r then g else some false) (P ∧ Q) := by
  obtain ⟨b, rfl, h2⟩ := h
  cases b with
  | true =>
    have hp := h2.1 rfl
    obtain ⟨c, h3, h4⟩ := k hp
    exact ⟨c, by simpa using h3, by simp [h4, hp]⟩
  | false => exact ⟨false, rfl, by simp; intro hp; exact absurd (h2.2 hp) (by simp)⟩
theorem tells_bind {f : Option Bool} {P : Prop} (h : Tells f P) : Tells (Option.bind f fun r => some r) P := by obtain ⟨b, rfl, h2⟩ := h; exact ⟨b, rfl, h2⟩
theorem Tells.val {f : Option Bool} {P : Prop} (h : Tells f P) (hp : P) : f = some true := by obtain ⟨b, rfl, h2⟩ := h; rw [h2.2 hp]
theorem Tells.nval {f : Option Bool} {P : Prop} (h : Tells f P) (hp : ¬ P) : f = some false := by
  obtain ⟨b, rfl, h2⟩ := h
  cases b with
  | true => exact absurd (h2.1 rfl) hp
  | false => rfl
theorem getD_toNat {α : Type} (l : List α) (i : Nat) (d : α) : List.getD l (Int.toNat (i : Int)) d = l.getD i d := by simp
theorem inside_lt {i n : Nat} (h : i < n) : (decide (0 ≤ (i : Int)) && decide ((i : Int) < (n : Int))) = true := by simp; omega
theorem ge0 (i : Nat) : decide (0 ≤ (i : Int)) = true := by simp
theorem lt_int {i n : Nat} (h : i < n) : decide ((i : Int) < (n : Int)) = true := by simp; omega
theorem nlt_int (n : Nat) : decide ((n : Int) < (n : Int)) = false := by simp
theorem getD_mem {α : Type} {l : List α} {i : Nat} {d : α} (h : i < l.length) : l.getD i d ∈ l := by
  rw [List.getD_eq_getElem?_getD, List.getElem?_eq_getElem h]; exact List.getElem_mem h
theorem forall_getD {α : Type} {l : List α} (d : α) {p : α → Prop} : (∀ i, i < l.length → p (l.getD i d)) ↔ ∀ x ∈ l, p x := by
  constructor
  · intro h x hx
    obtain ⟨i, hi, rfl⟩ := List.mem_iff_getElem.1 hx
    have := h i hi
    rwa [List.getD_eq_getElem?_getD, List.getElem?_eq_getElem hi] at this
  · intro h i hi
    exact h _ (getD_mem hi)
end Go.Proofs.YtibmgbalfhfcdaaGreatDoor.Abs
set_option linter.unusedVariables false
set_option linter.unusedSimpArgs false
set_option maxRecDepth 100000
namespace Go.Proofs.YtibmgbalfhfcdaaGreatDoor.Abs
theorem snoc_rec {α : Type} {P : List α → Prop} (h0 : P []) (h1 : ∀ l b, P l → P (l ++ [b])) (l : List α) : P l := by
  have : ∀ (n : Nat) (l : List α), l.length = n → P l := by
    intro n
    induction n with
    | zero => intro l hl; rw [List.length_eq_zero_iff.1 hl]; exact h0
    | succ n ih =>
      intro l hl
      rcases List.eq_nil_or_concat l with h | ⟨l', b, h⟩
      · subst h; simp at hl
      · subst h
        rw [List.concat_eq_append] at hl ⊢
        refine h1 _ _ (ih _ ?_)
        simpa using hl
  exact this _ l rfl
theorem iter_fnp' {α : Type} {step : α → Option (Nat × α)} {n k1 k2 : Nat} {bad : Nat → Bool} (F X : Nat → α) (Y : α) (hgo : ∀ i, i < n → (∀ l, l < i → bad l = false) → step (F i) = some (bif bad i then (k1 + 1, X i) else (0, F (i + 1)))) (hend : (∀ l, l < n → bad l = false) → step (F n) = some (k2 + 1, Y)) :
    ∀ (m i fuel : Nat), i + m = n → m < fuel → (∀ l, l < i → bad l = false) → (∃ j, j < n ∧ bad j = true ∧ (∀ l, l < j → bad l = false) ∧ iter step fuel (F i) = some (k1, X j)) ∨ ((∀ l, l < n → bad l = false) ∧ iter step fuel (F i) = some (k2, Y))
  | _, _, 0, _, hf, _ => by omega
  | 0, i, fuel + 1, hi, hf, hp => by
    obtain rfl : i = n := by omega
    exact .inr ⟨hp, iter_out (hend hp)⟩
  | m + 1, i, fuel + 1, hi, hf, hp => by
    have h := hgo i (by omega) hp
    cases hb : bad i with
    | true =>
      rw [hb] at h
      exact .inl ⟨i, by omega, hb, hp, iter_out h⟩
    | false =>
      rw [hb] at h
      rw [iter_one h]
      exact iter_fnp' F X Y hgo hend m (i + 1) fuel (by omega) (by omega) fun l hl => by
        rcases Nat.lt_succ_iff_lt_or_eq.1 hl with h1 | h1
        · exact hp l h1
        · rw [h1]; exact hb
theorem iter_fnp {α : Type} {step : α → Option (Nat × α)} {n k1 k2 fuel : Nat} {bad : Nat → Bool} (F X : Nat → α) (Y : α) (hgo : ∀ i, i < n → (∀ l, l < i → bad l = false) → step (F i) = some (bif bad i then (k1 + 1, X i) else (0, F (i + 1)))) (hend : (∀ l, l < n → bad l = false) → step (F n) = some (k2 + 1, Y)) (hf : n < fuel) :
    (∃ j, j < n ∧ bad j = true ∧ (∀ l, l < j → bad l = false) ∧ iter step fuel (F 0) = some (k1, X j)) ∨ ((∀ l, l < n → bad l = false) ∧ iter step fuel (F 0) = some (k2, Y)) :=
  iter_fnp' F X Y hgo hend n 0 fuel (by omega) hf fun l hl => by omega
abbrev bl (b : ByteArray) : List UInt8 := b.data.toList
def mkB (l : List UInt8) : ByteArray := ⟨l.toArray⟩
theorem bl_mk (l : List UInt8) : bl (mkB l) = l := rfl
theorem mk_bl (b : ByteArray) : mkB (bl b) = b := by obtain ⟨⟨l⟩⟩ := b; rfl
theorem bl_inj {a b : ByteArray} (h : bl a = bl b) : a = b := by rw [← mk_bl a, ← mk_bl b, h]
theorem bl_app (a b : ByteArray) : bl (ByteArray.append a b) = bl a ++ bl b := by
  have : ByteArray.append a b = a ++ b := rfl
  rw [this]
  show (a ++ b).data.toList = _
  rw [ByteArray.data_append, Array.toList_append]
theorem bl_len (a : ByteArray) : a.size = (bl a).length := Lib.size_eq a
theorem bl_ext (s : ByteArray) (a b : Nat) : bl (s.extract a b) = ((bl s).drop a).take (b - a) := Lib.extract_data s a b
theorem beq_bl (a b : ByteArray) : (ByteArray.toList a == ByteArray.toList b) = decide (bl a = bl b) := by
  rw [Lib.toList_data, Lib.toList_data]
  by_cases h : bl a = bl b
  · rw [decide_eq_true h, show a.data.toList = b.data.toList from h]; simp
  · rw [decide_eq_false h]; simpa using h
theorem bt_at {s : ByteArray} {i : Nat} (h : i < (bl s).length) : bt s (i : Int) = (((bl s)[i]).toNat : Int) := by
  unfold bt
  have h' : i < s.data.size := by simpa using h
  rw [Array.getD_eq_getD_getElem?, show (i : Int).toNat = i from rfl, Array.getElem?_eq_getElem h']
  simp
theorem get_bl {s : ByteArray} {i : Nat} (h : i < (bl s).length) : s.get! i = (bl s)[i] := by
  have h' : i < s.data.size := by simpa using h
  show s.data[i]! = _
  rw [getElem!_pos s.data i h']
  simp
theorem dec_asc {s : ByteArray} {i : Nat} (h : i < (bl s).length) (hb : ((bl s)[i]).toNat < 128) : Utf8.decode s i = (((bl s)[i]).toNat, 1) := by
  unfold Utf8.decode
  simp only [Nat.add_zero, get_bl h]
  rw [if_pos hb]
theorem dec_hi {s : ByteArray} {i : Nat} (h : i < (bl s).length) (hb : ¬ ((bl s)[i]).toNat < 128) : 128 ≤ (Utf8.decode s i).1 := by
  unfold Utf8.decode
  simp only [Nat.add_zero, get_bl h]
  rw [if_neg hb]
  split
  · split
    · assumption
    · decide
  · split
    · split
      · rename_i hh
        simp only [Bool.and_eq_true, decide_eq_true_eq] at hh
        have := hh.1
        omega
      · decide
    · split
      · split
        · rename_i hh
          simp only [Bool.and_eq_true, decide_eq_true_eq] at hh
          have := hh.1
          omega
        · decide
      · decide
def isDg (b : UInt8) : Prop := 48 ≤ b.toNat ∧ b.toNat ≤ 57
instance (b : UInt8) : Decidable (isDg b) := by unfold isDg; infer_instance
theorem dg_of {n : Nat} (h : n < 10) : (UInt8.ofNat (48 + n)).toNat = 48 + n := by
  rw [UInt8.toNat_ofNat']; omega
theorem dd_small {n : Nat} (h : n < 10) : Lib.decDigits n = [UInt8.ofNat (48 + n)] := by rw [Lib.decDigits, dif_pos h]
theorem dd_big {n : Nat} (h : ¬ n < 10) : Lib.decDigits n = Lib.decDigits (n / 10) ++ [UInt8.ofNat (48 + n % 10)] := by rw [Lib.decDigits, dif_neg h]
theorem dd_dg (n : Nat) : ∀ b ∈ Lib.decDigits n, isDg b := by
  induction n using Nat.strongRecOn with
  | _ n ih =>
    by_cases h : n < 10
    · rw [dd_small h]
      intro b hb
      simp only [List.mem_singleton] at hb
      subst hb
      unfold isDg
      rw [dg_of h]; omega
    · rw [dd_big h]
      intro b hb
      rcases List.mem_append.1 hb with hb | hb
      · exact ih (n / 10) (by omega) b hb
      · simp only [List.mem_singleton] at hb
        subst hb
        unfold isDg
        rw [dg_of (Nat.mod_lt _ (by decide))]; omega
def valD (l : List UInt8) : Nat := l.foldl (fun a b => 10 * a + (b.toNat - 48)) 0
theorem valD_snoc (l : List UInt8) (b : UInt8) : valD (l ++ [b]) = 10 * valD l + (b.toNat - 48) := by unfold valD; rw [List.foldl_append]; rfl
theorem valD_dd (n : Nat) : valD (Lib.decDigits n) = n := by
  induction n using Nat.strongRecOn with
  | _ n ih =>
    by_cases h : n < 10
    · rw [dd_small h]
      show 10 * 0 + ((UInt8.ofNat (48 + n)).toNat - 48) = n
      rw [dg_of h]; omega
    · rw [dd_big h, valD_snoc, ih (n / 10) (by omega), dg_of (Nat.mod_lt _ (by decide))]; omega
theorem dd_inj {a b : Nat} (h : Lib.decDigits a = Lib.decDigits b) : a = b := by rw [← valD_dd a, ← valD_dd b, h]
theorem valD_lt : ∀ (l : List UInt8), (∀ b ∈ l, isDg b) → valD l < 10 ^ l.length := by
  intro l
  refine snoc_rec (P := fun l => (∀ b ∈ l, isDg b) → valD l < 10 ^ l.length) ?_ ?_ l
  · intro _; decide
  · intro l b ih h
    have h1 := ih fun x hx => h x (by simp [hx])
    have h2 := h b (by simp)
    unfold isDg at h2
    rw [valD_snoc, List.length_append, List.length_singleton, Nat.pow_succ]
    omega
theorem dd_len_lt {n k : Nat} (h : (Lib.decDigits n).length ≤ k) : n < 10 ^ k := by
  have := valD_lt _ (dd_dg n)
  rw [valD_dd] at this
  exact Nat.lt_of_lt_of_le this (Nat.pow_le_pow_right (by decide) h)
theorem dd_len_le {n k : Nat} (hk : 1 ≤ k) (h : n < 10 ^ k) : (Lib.decDigits n).length ≤ k := by
  induction k generalizing n with
  | zero => omega
  | succ k ih =>
    by_cases h1 : n < 10
    · rw [dd_small h1]; simp
    · rw [dd_big h1, List.length_append, List.length_singleton]
      by_cases hk0 : k = 0
      · subst hk0; omega
      · have := ih (n := n / 10) (by omega) (by rw [Nat.pow_succ] at h; omega)
        omega
theorem itoa_nat (n : Nat) : Lib.itoa (n : Int) = Lib.decDigits n := Lib.itoa_nonneg n
end Go.Proofs.YtibmgbalfhfcdaaGreatDoor.Abs
set_option linter.unusedVariables false
set_option linter.unusedSimpArgs false
set_option maxRecDepth 100000
namespace Go.Proofs.YtibmgbalfhfcdaaGreatDoor.Abs
def hcons {α : Type} (b : α) : List (List α) → List (List α)
  | x :: xs => (b :: x) :: xs
  | [] => [[b]]
def happ {α : Type} (a : List α) : List (List α) → List (List α)
  | x :: xs => (a ++ x) :: xs
  | [] => [a]
def spl (c : UInt8) : List UInt8 → List (List UInt8)
  | [] => [[]]
  | b :: l => if b = c then [] :: spl c l else hcons b (spl c l)
theorem hcons_ne {α : Type} (b : α) (x : List (List α)) : hcons b x ≠ [] := by cases x <;> simp [hcons]
theorem spl_ne (c : UInt8) (l : List UInt8) : spl c l ≠ [] := by
  cases l with
  | nil => simp [spl]
  | cons b l =>
    unfold spl
    split
    · simp
    · exact hcons_ne _ _
theorem spl_cases (c : UInt8) (l : List UInt8) : ∃ x xs, spl c l = x :: xs := by
  cases h : spl c l with
  | nil => exact absurd h (spl_ne c l)
  | cons x xs => exact ⟨x, xs, rfl⟩
theorem happ_hcons {α : Type} (b : α) (a : List α) (x : List (List α)) (hx : x ≠ []) : happ (b :: a) x = hcons b (happ a x) := by
  cases x with
  | nil => exact absurd rfl hx
  | cons y ys => rfl
theorem spl_app {c : UInt8} : ∀ {a : List UInt8} (l : List UInt8), c ∉ a → spl c (a ++ l) = happ a (spl c l)
  | [], l, _ => by obtain ⟨y, ys, e⟩ := spl_cases c l; rw [List.nil_append, e]; rfl
  | b :: a, l, h => by
    have h1 : ¬ b = c := fun e => h (by rw [e]; exact List.mem_cons_self)
    rw [List.cons_append, spl, if_neg h1, spl_app l (fun hm => h (List.mem_cons_of_mem _ hm)), happ_hcons _ _ _ (spl_ne c l)]
theorem spl_sep {c : UInt8} {a : List UInt8} (l : List UInt8) (h : c ∉ a) : spl c (a ++ c :: l) = a :: spl c l := by
  rw [spl_app _ h, spl, if_pos rfl]; simp [happ]
theorem spl_one {c : UInt8} {a : List UInt8} (h : c ∉ a) : spl c a = [a] := by
  have := spl_app (c := c) (a := a) [] h
  rw [List.append_nil] at this
  rw [this]; simp [spl, happ]
def jn (c : UInt8) : List (List UInt8) → List UInt8
  | [] => []
  | [x] => x
  | x :: y :: xs => x ++ c :: jn c (y :: xs)
theorem jn_cons (c : UInt8) (x : List UInt8) {xs : List (List UInt8)} (h : xs ≠ []) : jn c (x :: xs) = x ++ c :: jn c xs := by
  cases xs with
  | nil => exact absurd rfl h
  | cons y ys => rfl
theorem jn_spl (c : UInt8) : ∀ (l : List UInt8), jn c (spl c l) = l
  | [] => rfl
  | b :: l => by
    have ih := jn_spl c l
    unfold spl
    split
    · rename_i h
      rw [jn_cons _ _ (spl_ne c l), ih, h]; rfl
    · obtain ⟨y, ys, e⟩ := spl_cases c l
      rw [e] at ih ⊢
      cases ys with
      | nil => show b :: y = b :: l; rw [show y = l from ih]
      | cons z zs =>
        show jn c ((b :: y) :: z :: zs) = _
        rw [jn_cons _ _ (by simp)] at ih ⊢
        rw [List.cons_append, ih]
theorem spl_jn {c : UInt8} : ∀ {xs : List (List UInt8)}, xs ≠ [] → (∀ x ∈ xs, c ∉ x) → spl c (jn c xs) = xs
  | [x], _, h => spl_one (h x List.mem_cons_self)
  | x :: y :: xs, _, h => by
    rw [jn_cons _ _ (by simp), spl_sep _ (h x List.mem_cons_self), spl_jn (by simp) fun z hz => h z (List.mem_cons_of_mem _ hz)]
theorem spl_mid {c p : UInt8} (hp : p ≠ c) (v : List UInt8) : ∀ (u : List UInt8), ∃ A m1 m2 B, (∀ q, q ≠ c → spl c (u ++ q :: v) = A ++ [m1 ++ q :: m2] ++ B)
  | [] => by
    obtain ⟨y, ys, e⟩ := spl_cases c v
    refine ⟨[], [], y, ys, fun q hq => ?_⟩
    rw [List.nil_append, spl, if_neg hq, e]; rfl
  | b :: u => by
    obtain ⟨A, m1, m2, B, h⟩ := spl_mid hp v u
    by_cases hb : b = c
    · refine ⟨[] :: A, m1, m2, B, fun q hq => ?_⟩
      rw [List.cons_append, spl, if_pos hb, h q hq]; rfl
    · cases A with
      | nil =>
        refine ⟨[], b :: m1, m2, B, fun q hq => ?_⟩
        rw [List.cons_append, spl, if_neg hb, h q hq]; rfl
      | cons a A =>
        refine ⟨(b :: a) :: A, m1, m2, B, fun q hq => ?_⟩
        rw [List.cons_append, spl, if_neg hb, h q hq]; rfl
theorem idx_free {c : UInt8} : ∀ {l : List UInt8}, c ∉ l → Lib.indexByte l c = -1
  | [], _ => rfl
  | b :: l, h => by
    have h1 : (b == c) = false := by
      have : b ≠ c := fun e => h (by rw [e]; exact List.mem_cons_self)
      simpa using this
    unfold Lib.indexByte
    rw [h1, idx_free fun hm => h (List.mem_cons_of_mem _ hm)]
    rfl
theorem idx_sep {c : UInt8} (l : List UInt8) : ∀ {a : List UInt8}, c ∉ a → Lib.indexByte (a ++ c :: l) c = (a.length : Int)
  | [], _ => by unfold Lib.indexByte; simp
  | b :: a, h => by
    have h1 : (b == c) = false := by
      have : b ≠ c := fun e => h (by rw [e]; exact List.mem_cons_self)
      simpa using this
    rw [List.cons_append]
    unfold Lib.indexByte
    rw [h1, idx_sep l fun hm => h (List.mem_cons_of_mem _ hm)]
    have : ((a.length : Int) == -1) = false := by
      have : (a.length : Int) ≠ -1 := by omega
      exact beq_eq_false_iff_ne.2 this
    rw [this]
    simp
theorem split_at {c : UInt8} : ∀ (l : List UInt8), c ∉ l ∨ ∃ a r, c ∉ a ∧ l = a ++ c :: r
  | [] => .inl (by simp)
  | b :: l => by
    by_cases hb : b = c
    · exact .inr ⟨[], l, by simp, by rw [hb]; rfl⟩
    · rcases split_at (c := c) l with h | ⟨a, r, h, e⟩
      · exact .inl fun hm => by
          rcases List.mem_cons.1 hm with h1 | h1
          · exact hb h1.symm
          · exact h h1
      · exact .inr ⟨b :: a, r, fun hm => by
          rcases List.mem_cons.1 hm with h1 | h1
          · exact hb h1.symm
          · exact h h1, by rw [e]; rfl⟩
theorem cnt_free {c : UInt8} {l : List UInt8} (h : c ∉ l) : l.count c = 0 := List.count_eq_zero.2 h
theorem splK_spl (c : UInt8) : ∀ (n : Nat) (l : List UInt8), l.count c = n → Lib.splitK [c] 0 n l = spl c l := by
  intro n
  induction n with
  | zero =>
    intro l h
    rw [spl_one (List.count_eq_zero.1 h)]; rfl
  | succ n ih =>
    intro l h
    rcases split_at (c := c) l with h1 | ⟨a, r, h1, rfl⟩
    · rw [cnt_free h1] at h; omega
    · have h2 : r.count c = n := by
        rw [List.count_append, List.count_cons, cnt_free h1] at h
        simp at h; exact h
      unfold Lib.splitK
      rw [index_one, idx_sep r h1]
      have : ((a.length : Int) == -1) = false := by
        have : (a.length : Int) ≠ -1 := by omega
        exact beq_eq_false_iff_ne.2 this
      rw [this]
      simp only [Bool.false_eq_true, if_false, Int.toNat_natCast, Nat.add_zero, List.length_singleton]
      rw [spl_sep r h1, List.take_left, show a.length + 1 = (a ++ [c]).length by simp, show a ++ c :: r = (a ++ [c]) ++ r by simp, List.drop_left, ih r h2]
theorem genM_eq {s : ByteArray} (c : UInt8) (h : s.size < 2 ^ 31) : genM s ⟨#[c]⟩ 0 (-1) = some ((spl c (bl s)).map mkB) := by
  unfold genM
  simp only
  rw [decide_eq_true (p := s.size < 4294967281) (by omega)]
  simp only [decide_true, Bool.and_self, cond_true, Option.some.injEq]
  have hcn : Lib.countB s ⟨#[c]⟩ = (bl s).count c := by
    show Lib.count s.data.toList [c] = _
    rw [Lib.count_one]
  have h1 := Lib.splitB_data ⟨#[c]⟩ 0 (Lib.countB s ⟨#[c]⟩) s
  rw [hcn] at h1 ⊢
  have h2 : (Lib.splitB ⟨#[c]⟩ 0 ((bl s).count c) s).map bl = spl c (bl s) := by
    rw [show (Lib.splitB ⟨#[c]⟩ 0 ((bl s).count c) s).map bl = _ from h1]
    exact splK_spl c _ _ rfl
  rw [← h2, List.map_map]
  have : (mkB ∘ bl) = id := by funext x; exact mk_bl x
  rw [this, List.map_id]
end Go.Proofs.YtibmgbalfhfcdaaGreatDoor.Abs
set_option linter.unusedVariables false
set_option linter.unusedSimpArgs false
set_option maxRecDepth 100000
namespace Go.Proofs.YtibmgbalfhfcdaaGreatDoor.Abs
theorem spl_len (c : UInt8) : ∀ (l : List UInt8), (spl c l).length ≤ l.length + 1
  | [] => by simp [spl]
  | b :: l => by
    have ih := spl_len c l
    unfold spl
    split
    · simp; omega
    · obtain ⟨y, ys, e⟩ := spl_cases c l
      rw [e] at ih ⊢
      simp [hcons] at ih ⊢; omega
theorem lim_le {a b : Nat} (h : a + b ≤ 2 ^ 35) : decide (a + b ≤ LIM) = true := decide_eq_true (Nat.le_trans h (by decide))
theorem mkB_size (l : List UInt8) : ByteArray.size (mkB l) = l.length := by rw [bl_len, bl_mk]
theorem app_mk (a b : List UInt8) : ByteArray.append (mkB a) (mkB b) = mkB (a ++ b) := bl_inj (by rw [bl_app, bl_mk, bl_mk, bl_mk])
theorem ext_mk (s : ByteArray) (a b : Nat) : s.extract a b = mkB (((bl s).drop a).take (b - a)) := bl_inj (by rw [bl_ext, bl_mk])
theorem cut_free {s : ByteArray} {c : UInt8} (h : c ∉ bl s) : G64 s ⟨#[c]⟩ = some (s, (⟨#[]⟩, (false, ()))) := by
  have e : G83 s ⟨#[c]⟩ = some (s, (⟨#[]⟩, (false, ()))) := by
    unfold G83
    rw [show idxM s ⟨#[c]⟩ = some (-1) from congrArg some (idx_free h)]
    rfl
  unfold G64
  rw [e]; rfl
theorem cut_sep {s : ByteArray} {c : UInt8} {a r : List UInt8} (h : c ∉ a) (e : bl s = a ++ c :: r) (hs : s.size < 2 ^ 31) : G64 s ⟨#[c]⟩ = some (mkB a, (mkB r, (true, ()))) := by
  have hl : s.size = a.length + (r.length + 1) := by rw [bl_len, e]; simp
  have e : G83 s ⟨#[c]⟩ = some (mkB a, (mkB r, (true, ()))) := by
    unfold G83
    have : Lib.indexByte (bl s) c = (a.length : Int) := by rw [e]; exact idx_sep r h
    rw [show idxM s ⟨#[c]⟩ = some (a.length : Int) from congrArg some this]
    have h1 : (ByteArray.size (⟨#[c]⟩ : ByteArray) : Int) = 1 := rfl
    have hw : IntKind.wrap .i64 ((a.length : Int) + 1) = ((a.length + 1 : Nat) : Int) := wr1 (by omega)
    simp only [Option.bind_some, h1, hw]
    rw [decide_eq_true (p := (a.length : Int) ≥ 0) (by omega), decide_eq_true (p := (a.length : Int) ≤ (s.size : Int)) (by omega), decide_eq_true (p := (0 : Int) ≤ ((a.length + 1 : Nat) : Int)) (by omega), decide_eq_true (p := ((a.length + 1 : Nat) : Int) ≤ (s.size : Int)) (by omega)]
    simp only [Int.le_refl, decide_true, Bool.and_self, cond_true, Int.toNat_natCast, Int.toNat_zero]
    rw [ext_mk, ext_mk, e]
    have h2 : (a ++ c :: r) = (a ++ [c]) ++ r := by simp
    have h3 : List.take (a.length - 0) (List.drop 0 (a ++ c :: r)) = a := by simp
    have h4 : List.take (s.size - (a.length + 1)) (List.drop (a.length + 1) (a ++ c :: r)) = r := by
      rw [h2, show a.length + 1 = (a ++ [c]).length by simp, List.drop_left, List.take_of_length_le]
      rw [hl]; simp; omega
    rw [h3, h4]
  unfold G64
  rw [e]; rfl
theorem split_eq {s : ByteArray} (c : UInt8) (h : s.size < 2 ^ 31) : G65 s ⟨#[c]⟩ = some ((spl c (bl s)).map mkB) := by
  unfold G65
  rw [genM_eq c h]; rfl
theorem w8_dg {d : Nat} (h : d < 10) : IntKind.wrap .u8 (IntKind.wrap .i64 ((48 : Int) + (d : Int))) = ((48 + d : Nat) : Int) := by
  rw [wr (by omega) (by omega), IntKind.wrap_u8]; omega
theorem itoaM_nat {n : Nat} (h : n < 2 ^ 62) : itoaM (n : Int) = some (mkB (Lib.decDigits n)) := by
  unfold itoaM
  rw [decide_eq_true (p := (-9223372036854775808 : Int) ≤ (n : Int)) (by omega), decide_eq_true (p := (n : Int) ≤ 9223372036854775807) (by omega), itoa_nat]
  rfl
def Says (w : List UInt8) (n : Nat) : Prop := w = Lib.decDigits n ∧ w.length ≤ 4
theorem Says.lt {w : List UInt8} {n : Nat} (h : Says w n) : n < 10000 := by
  have := dd_len_lt (n := n) (k := 4) (by rw [← h.1]; exact h.2)
  exact this
theorem valD_take {l : List UInt8} {i : Nat} (h : i < l.length) : valD (l.take (i + 1)) = 10 * valD (l.take i) + ((l[i]).toNat - 48) := by
  rw [List.take_add_one, List.getElem?_eq_getElem h, Option.toList_some, valD_snoc]
theorem valD_lt4 {l : List UInt8} (hd : ∀ b ∈ l, isDg b) (h : l.length ≤ 4) : valD l < 10000 :=
  Nat.lt_of_lt_of_le (valD_lt l hd) (Nat.pow_le_pow_right (by decide) h)
theorem wrap_i32 {n : Int} (h : -2147483648 ≤ n) (h' : n ≤ 2147483647) : IntKind.wrap .i32 n = n := by rw [IntKind.wrap_i32]; omega
theorem isDg_num (w : ByteArray) : (∃ n, Says (bl w) n ∧ G66 w = some (.inr ((n : Int), ()))) ∨ ((∀ n, ¬ Says (bl w) n) ∧ G66 w = some (.inl ((), ()))) := by
  unfold G66
  have hl : w.size = (bl w).length := bl_len w
  by_cases h4 : (bl w).length ≤ 4
  case neg =>
    rw [decide_eq_true (p := (w.size : Int) > 4) (by omega)]
    exact .inr ⟨fun n h => h4 h.2, rfl⟩
  rw [decide_eq_false (p := (w.size : Int) > 4) (by omega)]
  simp only [cond_false]
  let F : Nat → ((ByteArray × (Int × Unit)) × ((ByteArray × Nat) × Unit)) := fun i => ((w, (((valD ((bl w).take i) : Nat) : Int), ())), ((w, i), ()))
  let X : Nat → ((ByteArray × (Int × Unit)) × ((ByteArray × Nat) × Unit)) := fun i => ((w, (((valD ((bl w).take i) : Nat) : Int), ())), ((w, i + (Utf8.decode w i).2), ()))
  let bad : Nat → Bool := fun i => !decide (isDg ((bl w).getD i 0))
  have hbnd : ∀ i, (∀ j, j < i → bad j = false) → i ≤ (bl w).length → valD ((bl w).take i) < 10000 := fun i hb hi => by
    refine valD_lt4 (fun b hm => ?_) (by rw [List.length_take]; omega)
    obtain ⟨j, hj, e⟩ := List.mem_iff_getElem.1 hm
    rw [List.length_take] at hj
    have h1 := hb j (by omega)
    simp only [bad, Bool.not_eq_false', decide_eq_true_eq] at h1
    rw [List.getD_eq_getElem?_getD, List.getElem?_eq_getElem (by omega)] at h1
    rw [List.getElem_take] at e
    rw [← e]; exact h1
  have go : ∀ i, i < (bl w).length → (∀ j, j < i → bad j = false) → G66_l0_step (F i) = some (bif bad i then (1, X i) else (0, F (i + 1))) := fun i hi hb => by
    unfold G66_l0_step
    simp only [F, X]
    have hv := hbnd i hb (by omega)
    have hg : (bl w).getD i 0 = (bl w)[i] := by rw [List.getD_eq_getElem?_getD, List.getElem?_eq_getElem hi]; rfl
    rw [decide_eq_true (p := i < w.size) (by omega)]
    simp only [cond_true]
    by_cases hasc : ((bl w)[i]).toNat < 128
    · rw [dec_asc hi hasc]
      simp only
      by_cases hd : isDg ((bl w)[i])
      · have hbf : bad i = false := by simp only [bad, hg, hd, decide_true, Bool.not_true]
        unfold isDg at hd
        rw [decide_eq_false (p := (((bl w)[i]).toNat : Int) < 48) (by omega), decide_eq_false (p := (((bl w)[i]).toNat : Int) > 57) (by omega), hbf]
        simp only [cond_false]
        have e1 : IntKind.wrap .i32 ((((bl w)[i]).toNat : Int) - 48) = ((((bl w)[i]).toNat - 48 : Nat) : Int) := by rw [wrap_i32 (by omega) (by omega)]; omega
        have e2 : IntKind.wrap .i64 ((((bl w)[i]).toNat - 48 : Nat) : Int) = ((((bl w)[i]).toNat - 48 : Nat) : Int) := wr (by omega) (by omega)
        rw [e1, e2, wr (n := (10 : Int) * ((valD ((bl w).take i) : Nat) : Int)) (by omega) (by omega), wr (by omega) (by omega), valD_take hi]
        congr 3
      · have hbt : bad i = true := by simp only [bad, hg, hd, decide_false, Bool.not_false]
        unfold isDg at hd
        rw [hbt]
        by_cases h48 : ((bl w)[i]).toNat < 48
        · rw [decide_eq_true (p := (((bl w)[i]).toNat : Int) < 48) (by omega)]; rfl
        · rw [decide_eq_false (p := (((bl w)[i]).toNat : Int) < 48) (by omega), decide_eq_true (p := (((bl w)[i]).toNat : Int) > 57) (by omega)]; rfl
    · have h128 := dec_hi hi hasc
      have hbt : bad i = true := by
        have : ¬ isDg ((bl w)[i]) := by unfold isDg; omega
        simp only [bad, hg, this, decide_false, Bool.not_false]
      rw [hbt, decide_eq_false (p := ((Utf8.decode w i).1 : Int) < 48) (by omega), decide_eq_true (p := ((Utf8.decode w i).1 : Int) > 57) (by omega)]
      rfl
  have hend : (∀ j, j < (bl w).length → bad j = false) → G66_l0_step (F (bl w).length) = some (2, F (bl w).length) := fun _ => by
    unfold G66_l0_step
    simp only [F]
    rw [decide_eq_false (p := (bl w).length < w.size) (by omega)]
    rfl
  have hfuel : G66_l0_fuel ((w, ((0 : Int), ())), ((w, 0), ())) = (bl w).length + 1 := by
    unfold G66_l0_fuel
    simp only
    omega
  have hF0 : ((w, ((0 : Int), ())), ((w, (0 : Nat)), ())) = F 0 := rfl
  unfold G66_l0_run
  rw [hfuel, hF0]
  rcases iter_fnp (bad := bad) F X (F (bl w).length) go hend (Nat.lt_succ_self _) with ⟨j, hj, hbj, hlt, e⟩ | ⟨hall, e⟩
  · rw [e]
    refine .inr ⟨fun n h => ?_, rfl⟩
    have hd := dd_dg n ((bl w)[j]) (by rw [← h.1]; exact List.getElem_mem _)
    simp only [bad, Bool.not_eq_true', decide_eq_false_iff_not] at hbj
    rw [List.getD_eq_getElem?_getD, List.getElem?_eq_getElem hj] at hbj
    exact hbj hd
  · rw [e]
    have hv := hbnd _ hall (Nat.le_refl _)
    rw [List.take_length] at hv
    simp only [Option.bind_some, natK, F, List.take_length]
    rw [itoaM_nat (Nat.lt_trans hv (by decide))]
    simp only [Option.bind_some]
    rw [beq_bl, bl_mk]
    by_cases hq : Lib.decDigits (valD (bl w)) = bl w
    · rw [decide_eq_true hq]
      exact .inl ⟨valD (bl w), ⟨hq.symm, h4⟩, rfl⟩
    · rw [decide_eq_false hq]
      refine .inr ⟨fun n h => hq ?_, rfl⟩
      rw [h.1, valD_dd]
end Go.Proofs.YtibmgbalfhfcdaaGreatDoor.Abs
set_option linter.unusedVariables false
set_option linter.unusedSimpArgs false
set_option maxRecDepth 100000
namespace Go.Proofs.YtibmgbalfhfcdaaGreatDoor.Abs
def wsum : Nat → List UInt8 → Nat
  | _, [] => 0
  | k, b :: l => k * (b.toNat - 48) + wsum (k + 1) l
theorem wsum_app : ∀ (k : Nat) (l m : List UInt8), wsum k (l ++ m) = wsum k l + wsum (k + l.length) m
  | k, [], m => by simp [wsum]
  | k, b :: l, m => by
    rw [List.cons_append, wsum, wsum, wsum_app (k + 1) l m, List.length_cons, show k + 1 + l.length = k + (l.length + 1) by omega]; omega
theorem wsum_snoc (k : Nat) (l : List UInt8) (b : UInt8) : wsum k (l ++ [b]) = wsum k l + (k + l.length) * (b.toNat - 48) := by
  rw [wsum_app]; simp [wsum]
theorem wsum_take (k : Nat) (l : List UInt8) (i : Nat) : wsum k (l.take i) ≤ wsum k l := by
  have := wsum_app k (l.take i) (l.drop i)
  rw [List.take_append_drop] at this; omega
theorem wsum_le : ∀ (l : List UInt8) (k : Nat), (∀ b ∈ l, isDg b) → wsum k l ≤ 9 * ((k + l.length) * l.length)
  | [], k, _ => by simp [wsum]
  | b :: l, k, h => by
    have ih := wsum_le l (k + 1) fun x hx => h x (List.mem_cons_of_mem _ hx)
    have hb := h b List.mem_cons_self
    unfold isDg at hb
    rw [wsum, List.length_cons]
    have h1 : k * (b.toNat - 48) ≤ k * 9 := Nat.mul_le_mul_left _ (by omega)
    have h2 : (k + (l.length + 1)) * (l.length + 1) = (k + 1 + l.length) * l.length + (k + 1 + l.length) := by rw [show k + (l.length + 1) = k + 1 + l.length by omega, Nat.mul_succ]
    omega
def chkC (ws : List (List UInt8)) : UInt8 := UInt8.ofNat (97 + wsum 1 ws.flatten % 23)
theorem chkC_nat (ws : List (List UInt8)) : (chkC ws).toNat = 97 + wsum 1 ws.flatten % 23 := by
  unfold chkC
  rw [UInt8.toNat_ofNat']
  have := Nat.mod_lt (wsum 1 ws.flatten) (show 0 < 23 by decide)
  omega
theorem getD_mk (W : List (List UInt8)) (i : Nat) : List.getD (W.map mkB) i (⟨#[]⟩ : ByteArray) = mkB (W.getD i []) := by
  rw [List.getD_eq_getElem?_getD, List.getD_eq_getElem?_getD, List.getElem?_map]
  cases W[i]? <;> rfl
theorem getD_at {α : Type} {l : List α} {i : Nat} {d : α} (h : i < l.length) : l.getD i d = l[i] := by rw [List.getD_eq_getElem?_getD, List.getElem?_eq_getElem h]; rfl
theorem take_next {α : Type} {l : List α} {i : Nat} (h : i < l.length) : l.take (i + 1) = l.take i ++ [l[i]] := by rw [List.take_add_one, List.getElem?_eq_getElem h]; rfl
theorem check_l1 {w : List UInt8} (hd : ∀ b ∈ w, isDg b) (S p : Nat) (hS : S + wsum (p + 1) w < 2 ^ 40) (hp : p + w.length < 2 ^ 30) (R : List ByteArray × (Int × (Int × Unit))) :
    G62_l1_run (((S : Int), ((p : Int), R)), ((mkB w, 0), ())) = some (0, ((((S + wsum (p + 1) w : Nat) : Int), (((p + w.length : Nat) : Int), R)), ((mkB w, w.length), ()))) := by
  unfold G62_l1_run
  let F : Nat → ((Int × (Int × ((List ByteArray) × (Int × (Int × Unit))))) × ((ByteArray × Nat) × Unit)) := fun i => ((((S + wsum (p + 1) (w.take i) : Nat) : Int), (((p + i : Nat) : Int), R)), ((mkB w, i), ()))
  have h0 : (((S : Int), ((p : Int), R)), ((mkB w, (0 : Nat)), ())) = F 0 := by simp [F, wsum]
  have he : ((((S + wsum (p + 1) w : Nat) : Int), (((p + w.length : Nat) : Int), R)), ((mkB w, w.length), ())) = F w.length := by simp only [F, List.take_length]
  rw [h0, he]
  refine iter_run (n := w.length) F _ (fun i hi => ?_) ?_ ?_
  · unfold G62_l1_step
    simp only [F]
    have hb := hd _ (List.getElem_mem hi)
    unfold isDg at hb
    have ht := wsum_take (p + 1) w (i + 1)
    have hsn : wsum (p + 1) (w.take (i + 1)) = wsum (p + 1) (w.take i) + (p + 1 + i) * ((w[i]).toNat - 48) := by
      rw [take_next hi, wsum_snoc, List.length_take, Nat.min_eq_left (by omega)]
    rw [decide_eq_true (p := i < ByteArray.size (mkB w)) (by rw [mkB_size]; exact hi), dec_asc (s := mkB w) (i := i) hi (by show (w[i]).toNat < 128; omega)]
    simp only [bl_mk, cond_true]
    have e1 : IntKind.wrap .i32 (((w[i]).toNat : Int) - 48) = (((w[i]).toNat - 48 : Nat) : Int) := by rw [wrap_i32 (by omega) (by omega)]; omega
    have e2 : IntKind.wrap .i64 (((w[i]).toNat - 48 : Nat) : Int) = (((w[i]).toNat - 48 : Nat) : Int) := wr (by omega) (by omega)
    have e3 : IntKind.wrap .i64 (((p + i : Nat) : Int) + 1) = ((p + 1 + i : Nat) : Int) := by rw [wr1 (by omega)]; congr 1; omega
    have e4 : ((p + 1 + i : Nat) : Int) * (((w[i]).toNat - 48 : Nat) : Int) = (((p + 1 + i) * ((w[i]).toNat - 48) : Nat) : Int) := by rw [Int.natCast_mul]
    rw [e1, e2, e3, e4, wr (n := (((p + 1 + i) * ((w[i]).toNat - 48) : Nat) : Int)) (by omega) (by omega), wr (by omega) (by omega), hsn]
    congr 3
    · congr 1
      · omega
      · congr 1
        · omega
  · unfold G62_l1_step
    simp only [F]
    rw [decide_eq_false (p := w.length < ByteArray.size (mkB w)) (by rw [mkB_size]; omega)]
    rfl
  · unfold G62_l1_fuel
    simp only [F, mkB_size]
    omega
theorem flat_take_le (W : List (List UInt8)) (i : Nat) : ((W.take i).flatten).length ≤ W.flatten.length := by
  have : W.flatten = (W.take i).flatten ++ (W.drop i).flatten := by rw [← List.flatten_append, List.take_append_drop]
  rw [this, List.length_append]; omega
theorem flat_next {W : List (List UInt8)} {i : Nat} (h : i < W.length) : (W.take (i + 1)).flatten = (W.take i).flatten ++ W[i] := by
  rw [take_next h, List.flatten_append]; simp
theorem flat_dg {W : List (List UInt8)} (hd : ∀ w ∈ W, ∀ b ∈ w, isDg b) : ∀ b ∈ W.flatten, isDg b := fun b hb => by
  obtain ⟨w, hw, hb⟩ := List.mem_flatten.1 hb
  exact hd w hw b hb
theorem flat_sum_lt {W : List (List UInt8)} (hd : ∀ w ∈ W, ∀ b ∈ w, isDg b) (hl : W.flatten.length ≤ 100) : wsum 1 W.flatten < 2 ^ 20 := by
  have h1 := wsum_le W.flatten 1 (flat_dg hd)
  have h2 : (1 + W.flatten.length) * W.flatten.length ≤ 101 * 100 := Nat.mul_le_mul (by omega) hl
  omega
theorem check_eq {W : List (List UInt8)} (hd : ∀ w ∈ W, ∀ b ∈ w, isDg b) (hl : W.flatten.length ≤ 100) (hW : W.length < 2 ^ 40) : G62 (W.map mkB) = some (mkB [chkC W]) := by
  unfold G62
  have hs := flat_sum_lt hd hl
  let F : Nat → ((Int × (Int × ((List ByteArray) × (Int × (Int × Unit))))) × Unit) := fun i => ((((wsum 1 (W.take i).flatten : Nat) : Int), ((((W.take i).flatten.length : Nat) : Int), (W.map mkB, ((W.length : Int), ((i : Int), ()))))), ())
  have hrun : G62_l0_run ((0, (0, (W.map mkB, ((List.length (W.map mkB) : Int), (0, ()))))), ()) = some (0, F W.length) := by
    unfold G62_l0_run
    have h0 : (((0 : Int), ((0 : Int), (W.map mkB, ((List.length (W.map mkB) : Int), ((0 : Int), ()))))), ()) = F 0 := by simp [F, wsum]
    rw [h0]
    refine iter_run (n := W.length) F _ (fun i hi => ?_) ?_ ?_
    · unfold G62_l0_step
      simp only [F]
      have hle := flat_take_le W (i + 1)
      rw [flat_next hi, List.length_append] at hle
      have hsum : wsum 1 (W.take (i + 1)).flatten ≤ wsum 1 W.flatten := by
        have : W.flatten = (W.take (i + 1)).flatten ++ (W.drop (i + 1)).flatten := by rw [← List.flatten_append, List.take_append_drop]
        rw [this, wsum_app]; omega
      rw [flat_next hi, wsum_app] at hsum
      rw [decide_eq_true (p := (i : Int) < (W.length : Int)) (by omega), ge0, List.length_map, decide_eq_true (p := (i : Int) < (W.length : Int)) (by omega)]
      simp only [cond_true, Bool.and_self, getD_toNat]
      rw [getD_mk, getD_at hi, check_l1 (hd _ (List.getElem_mem hi)) _ _ (by rw [Nat.add_comm _ 1]; omega) (by omega)]
      simp only [Option.bind_some]
      rw [wr1 (i := i) (by omega), flat_next hi, wsum_app, List.length_append, Nat.add_comm 1]
    · unfold G62_l0_step
      simp only [F]
      rw [decide_eq_false (p := (W.length : Int) < (W.length : Int)) (by omega)]
      rfl
    · unfold G62_l0_fuel
      simp [F]
  rw [hrun]
  simp only [Option.bind_some, F, List.take_length]
  have e1 : Int.tmod ((wsum 1 W.flatten : Nat) : Int) 23 = ((wsum 1 W.flatten % 23 : Nat) : Int) := rfl
  have hm := Nat.mod_lt (wsum 1 W.flatten) (show 0 < 23 by decide)
  rw [e1, wr (n := (97 : Int) + ((wsum 1 W.flatten % 23 : Nat) : Int)) (by omega) (by omega), wrap_i32 (by omega) (by omega)]
  have e2 : (97 : Int) + ((wsum 1 W.flatten % 23 : Nat) : Int) = ((97 + wsum 1 W.flatten % 23 : Nat) : Int) := by omega
  rw [e2]
  generalize hx : 97 + wsum 1 W.flatten % 23 = x
  unfold chkC
  rw [hx]
  unfold Utf8.encode
  have hv : Utf8.valid (x : Int) = true := by
    unfold Utf8.valid
    simp only [Bool.or_eq_true, Bool.and_eq_true, decide_eq_true_eq]
    left; omega
  simp only [hv, if_true, Int.toNat_natCast]
  rw [if_pos (by omega)]
  rfl
abbrev dcs (ns : List Nat) : List (List UInt8) := ns.map Lib.decDigits
abbrev ofN (ns : List Nat) : List Int := ns.map Int.ofNat
theorem dcs_dg (ns : List Nat) : ∀ w ∈ dcs ns, ∀ b ∈ w, isDg b := fun w hw => by
  obtain ⟨n, _, rfl⟩ := List.mem_map.1 hw
  exact dd_dg n
theorem getD_ofN {ns : List Nat} {i : Nat} (h : i < ns.length) : List.getD (ofN ns) i 0 = ((ns[i] : Nat) : Int) := by
  rw [getD_at (by simpa using h)]; simp
def lineB (word : List UInt8) (ns : List Nat) : List UInt8 := jn 32 (word :: (dcs ns ++ [[chkC (dcs ns)]]))
def Small (ns : List Nat) : Prop := ns ≠ [] ∧ ns.length ≤ 5 ∧ ∀ n ∈ ns, n < 10000
theorem dd4 {n : Nat} (h : n < 10000) : (Lib.decDigits n).length ≤ 4 := dd_len_le (by decide) h
theorem flat_small : ∀ {ns : List Nat}, (∀ n ∈ ns, n < 10000) → (dcs ns).flatten.length ≤ 4 * ns.length
  | [], _ => by simp
  | n :: ns, h => by
    have := flat_small (ns := ns) fun x hx => h x (List.mem_cons_of_mem _ hx)
    have h1 := dd4 (h n List.mem_cons_self)
    simp only [dcs, List.map_cons, List.flatten_cons, List.length_append, List.length_cons] at this ⊢
    omega
theorem Small.flat {ns : List Nat} (h : Small ns) : (dcs ns).flatten.length ≤ 20 := by
  have := flat_small h.2.2
  have := h.2.1
  omega
theorem jn_app {c : UInt8} : ∀ {a : List (List UInt8)} (b : List (List UInt8)), a ≠ [] → b ≠ [] → jn c (a ++ b) = jn c a ++ c :: jn c b
  | [x], b, _, hb => by rw [List.singleton_append, jn_cons _ _ hb]; rfl
  | x :: y :: a, b, _, hb => by
    show jn c (x :: ((y :: a) ++ b)) = _
    rw [jn_cons c x (xs := (y :: a) ++ b) (by simp), jn_app (a := y :: a) b (by simp) hb, jn_cons c x (xs := y :: a) (by simp)]
    simp
theorem join_jn (c : UInt8) : ∀ (xs : List (List UInt8)), Lib.join xs [c] = jn c xs
  | [] => rfl
  | [x] => by rw [Lib.join_one]; rfl
  | x :: y :: xs => by
    have ih := join_jn c (y :: xs)
    rw [Lib.join_cons] at ih ⊢
    rw [jn_cons _ _ (by simp), ← ih]
    simp [Lib.joinTail]
theorem jn_len (c : UInt8) : ∀ (xs : List (List UInt8)), (jn c xs).length ≤ xs.flatten.length + xs.length
  | [] => by simp [jn]
  | [x] => by simp [jn]
  | x :: y :: xs => by
    have ih := jn_len c (y :: xs)
    rw [jn_cons _ _ (by simp)]
    simp only [List.length_append, List.length_cons, List.flatten_cons] at ih ⊢
    omega
theorem lineB_eq {word : List UInt8} {ns : List Nat} (h : ns ≠ []) : lineB word ns = word ++ 32 :: (jn 32 (dcs ns) ++ 32 :: [chkC (dcs ns)]) := by
  unfold lineB
  rw [jn_cons _ _ (by simp), jn_app _ (by simpa using h) (by simp)]
  rfl
theorem lineB_len {word : List UInt8} {ns : List Nat} (h : Small ns) : (lineB word ns).length ≤ word.length + 30 := by
  rw [lineB_eq h.1]
  have h1 := jn_len 32 (dcs ns)
  have h2 := h.flat
  have h3 := h.2.1
  simp only [List.length_append, List.length_cons, List.length_map, List.length_nil] at h1 ⊢
  omega
theorem line_eq {word : List UInt8} {ns : List Nat} (hw : word.length ≤ 10) (h : Small ns) : G28 (mkB word) (ofN ns) = some (mkB (lineB word ns ++ [10])) := by
  unfold G28
  have hl5 := h.2.1
  let F : Nat → ((ByteArray × ((List ByteArray) × ((List Int) × (Int × (Int × Unit))))) × Unit) := fun i => ((mkB word, (((dcs ns).take i).map mkB, (ofN ns, ((ns.length : Int), ((i : Int), ()))))), ())
  have hrun : G28_l0_run ((mkB word, ([], (ofN ns, ((List.length (ofN ns) : Int), (0, ()))))), ()) = some (0, F ns.length) := by
    unfold G28_l0_run
    have h0 : ((mkB word, (([] : List ByteArray), (ofN ns, ((List.length (ofN ns) : Int), ((0 : Int), ()))))), ()) = F 0 := by simp [F]
    rw [h0]
    refine iter_run (n := ns.length) F _ (fun i hi => ?_) ?_ ?_
    · unfold G28_l0_step
      simp only [F]
      have hi' : i < (dcs ns).length := by simpa using hi
      have hgi : (dcs ns)[i] = Lib.decDigits (ns[i]) := by simp
      rw [show (List.length (ofN ns) : Int) = (ns.length : Int) by simp, decide_eq_true (p := (i : Int) < (ns.length : Int)) (by omega), ge0]
      simp only [cond_true, Bool.and_self, getD_toNat]
      rw [getD_ofN hi, itoaM_nat (Nat.lt_trans (h.2.2 _ (List.getElem_mem hi)) (by decide))]
      simp only [Option.bind_some, List.length_map, List.length_take, List.length_singleton]
      rw [lim_le (by omega), wr1 (i := i) (by omega), take_next hi', List.map_append, hgi]
      rfl
    · unfold G28_l0_step
      simp only [F]
      rw [decide_eq_false (p := (ns.length : Int) < (ns.length : Int)) (by omega)]
      rfl
    · unfold G28_l0_fuel
      simp [F]
  rw [hrun]
  simp only [Option.bind_some, F]
  have htk : (dcs ns).take ns.length = dcs ns := List.take_of_length_le (by simp)
  rw [htk]
  have h1 := jn_len 32 (dcs ns)
  have h2 := h.flat
  rw [List.length_map] at h1
  have hbl : (List.map mkB (dcs ns)).map (·.data.toList) = dcs ns := by
    rw [List.map_map]
    have : ((·.data.toList) ∘ mkB) = id := by funext x; rfl
    rw [this, List.map_id]
  have hj : joinM ((dcs ns).map mkB) (⟨#[32]⟩ : ByteArray) = some (mkB (jn 32 (dcs ns))) := by
    unfold joinM
    rw [hbl, join_jn, List.length_map, List.length_map, decide_eq_true (p := ns.length ≤ LIM) (Nat.le_trans hl5 (by decide)), decide_eq_true (p := (jn 32 (dcs ns)).length ≤ LIM) (Nat.le_trans (show (jn 32 (dcs ns)).length ≤ 25 by omega) (by decide))]
    rfl
  have hck := check_eq (W := dcs ns) (dcs_dg ns) (by omega) (by rw [List.length_map]; omega)
  have h32 : (⟨#[32]⟩ : ByteArray) = mkB [32] := rfl
  have h10 : (⟨#[10]⟩ : ByteArray) = mkB [10] := rfl
  simp only [mkB_size, h32] at hj ⊢
  simp only [hj, hck, h10, app_mk, mkB_size, Option.bind_some, List.length_append, List.length_singleton]
  rw [lim_le (by omega), lim_le (by omega), lim_le (by omega), lim_le (by omega), lim_le (by omega)]
  simp only [cond_true, lineB_eq h.1]
  simp
end Go.Proofs.YtibmgbalfhfcdaaGreatDoor.Abs
set_option linter.unusedVariables false
set_option linter.unusedSimpArgs false
set_option maxRecDepth 100000
namespace Go.Proofs.YtibmgbalfhfcdaaGreatDoor.Abs
def okw (w : List UInt8) : Bool := decide (Lib.decDigits (valD w) = w) && decide (w.length ≤ 4)
theorem okw_iff {w : List UInt8} : okw w = true ↔ Says w (valD w) := by
  unfold okw Says
  rw [Bool.and_eq_true, decide_eq_true_eq, decide_eq_true_eq]
  exact ⟨fun h => ⟨h.1.symm, h.2⟩, fun h => ⟨h.1.symm, h.2⟩⟩
theorem Says.val {w : List UInt8} {n : Nat} (h : Says w n) : n = valD w := by rw [h.1, valD_dd]
theorem okw_dd {n : Nat} (h : n < 10000) : okw (Lib.decDigits n) = true := okw_iff.2 (by rw [valD_dd]; exact ⟨rfl, dd4 h⟩)
theorem number_ok {w : List UInt8} (h : okw w = true) : G66 (mkB w) = some (.inr (((valD w : Nat) : Int), ())) := by
  rcases isDg_num (mkB w) with ⟨n, h1, h2⟩ | ⟨h1, _⟩
  · rw [h2, show n = valD w from h1.val]
  · exact absurd (okw_iff.1 h) (h1 _)
theorem number_no {w : List UInt8} (h : okw w = false) : G66 (mkB w) = some (.inl ((), ())) := by
  rcases isDg_num (mkB w) with ⟨n, h1, h2⟩ | ⟨_, h2⟩
  · have h1' : Says w n := h1
    have := okw_iff.2 (h1'.val ▸ h1')
    rw [h] at this; cases this
  · exact h2
theorem all_okw {W : List (List UInt8)} (h : ∀ w ∈ W, okw w = true) : W = dcs (W.map valD) := by
  rw [dcs, List.map_map]
  conv => lhs; rw [← List.map_id W]
  refine List.map_congr_left fun w hw => ?_
  have := (okw_iff.1 (h w hw)).1
  exact this
theorem chk_mem {ns : List Nat} : ∀ x ∈ (dcs ns ++ [[chkC (dcs ns)]]), (32 : UInt8) ∉ x ∧ (10 : UInt8) ∉ x := fun x hx => by
  have hdg : ∀ b : UInt8, isDg b → b ≠ 32 ∧ b ≠ 10 := fun b hb => by
    unfold isDg at hb
    constructor <;> (intro h; subst h; revert hb; decide)
  rcases List.mem_append.1 hx with h | h
  · exact ⟨fun hm => (hdg _ (dcs_dg ns x h _ hm)).1 rfl, fun hm => (hdg _ (dcs_dg ns x h _ hm)).2 rfl⟩
  · rw [List.mem_singleton] at h
    subst h
    have h1 := chkC_nat (dcs ns)
    constructor
    · intro hm
      rw [List.mem_singleton] at hm
      rw [← hm] at h1
      have : (32 : UInt8).toNat = 32 := rfl
      omega
    · intro hm
      rw [List.mem_singleton] at hm
      rw [← hm] at h1
      have : (10 : UInt8).toNat = 10 := rfl
      omega
theorem jn_mem {c x : UInt8} : ∀ {xs : List (List UInt8)}, x ∈ jn c xs → x = c ∨ ∃ y ∈ xs, x ∈ y
  | [], h => by simp [jn] at h
  | [y], h => .inr ⟨y, List.mem_cons_self, h⟩
  | y :: z :: xs, h => by
    rw [jn_cons _ _ (by simp)] at h
    rcases List.mem_append.1 h with h | h
    · exact .inr ⟨y, List.mem_cons_self, h⟩
    · rcases List.mem_cons.1 h with h | h
      · exact .inl h
      · rcases jn_mem h with h | ⟨w, hw, h⟩
        · exact .inl h
        · exact .inr ⟨w, List.mem_cons_of_mem _ hw, h⟩
theorem lineB_no10 {word : List UInt8} {ns : List Nat} (h : (10 : UInt8) ∉ word) : (10 : UInt8) ∉ lineB word ns := fun hm => by
  rcases jn_mem hm with h1 | ⟨y, hy, h1⟩
  · revert h1; decide
  · rcases List.mem_cons.1 hy with rfl | hy
    · exact h h1
    · exact (chk_mem y hy).2 h1
theorem spl_lineB {word : List UInt8} {ns : List Nat} (h : (32 : UInt8) ∉ word) : spl 32 (lineB word ns) = word :: (dcs ns ++ [[chkC (dcs ns)]]) := by
  refine spl_jn (by simp) fun x hx => ?_
  rcases List.mem_cons.1 hx with rfl | hx
  · exact h
  · exact (chk_mem x hx).1
theorem is_lineB {word l : List UInt8} {ns : List Nat} (h : spl 32 l = word :: (dcs ns ++ [[chkC (dcs ns)]])) : l = lineB word ns := by
  rw [← jn_spl 32 l, h]; rfl
theorem sep_uniq {c : UInt8} : ∀ {a b r s : List UInt8}, c ∉ a → c ∉ b → a ++ c :: r = b ++ c :: s → a = b ∧ r = s
  | [], [], r, s, _, _, h => ⟨rfl, by simpa using h⟩
  | [], y :: b, r, s, _, hb, h => by
    rw [List.nil_append, List.cons_append, List.cons.injEq] at h
    exact absurd (h.1 ▸ List.mem_cons_self) hb
  | x :: a, [], r, s, ha, _, h => by
    rw [List.nil_append, List.cons_append, List.cons.injEq] at h
    exact absurd (h.1 ▸ List.mem_cons_self) ha
  | x :: a, y :: b, r, s, ha, hb, h => by
    rw [List.cons_append, List.cons_append, List.cons.injEq] at h
    obtain ⟨e1, e2⟩ := sep_uniq (fun hm => ha (List.mem_cons_of_mem _ hm)) (fun hm => hb (List.mem_cons_of_mem _ hm)) h.2
    exact ⟨by rw [h.1, e1], e2⟩
theorem three_parts {P : List (List UInt8)} {many : Nat} (h : P.length = many + 2) : P = P.getD 0 [] :: ((P.take (many + 1)).drop 1 ++ [P.getD (many + 1) []]) := by
  have h1 : P.take (many + 2) = P.take (many + 1) ++ [P[many + 1]] := take_next (by omega)
  have h2 : P.take (many + 2) = P := List.take_of_length_le (by omega)
  rw [getD_at (l := P) (i := many + 1) (by omega), getD_at (l := P) (i := 0) (by omega)]
  conv => lhs; rw [← h2, h1]
  cases P with
  | nil => simp at h
  | cons x P => simp
theorem mid_len {P : List (List UInt8)} {many : Nat} (h : P.length = many + 2) : ((P.take (many + 1)).drop 1).length = many := by simp; omega
theorem numbers_eq {word : List UInt8} (h32 : (32 : UInt8) ∉ word) {many : Nat} (hm : 1 ≤ many ∧ many ≤ 5) {rest : ByteArray} (hs : rest.size < 2 ^ 31) :
    (∃ l r ns, bl rest = l ++ 10 :: r ∧ (10 : UInt8) ∉ l ∧ ns.length = many ∧ Small ns ∧ l = lineB word ns ∧ G32 (mkB word) (many : Int) (rest, ()) = some (.inr (ofN ns, ((mkB r, ()), ())))) ∨
    ((∀ l r ns, bl rest = l ++ 10 :: r → (10 : UInt8) ∉ l → ns.length = many → Small ns → l ≠ lineB word ns) ∧ ∃ z, G32 (mkB word) (many : Int) (rest, ()) = some (.inl ((), (z, ())))) := by
  unfold G32
  rcases split_at (c := 10) (bl rest) with hf | ⟨a, r, ha, e⟩
  · refine .inr ⟨fun l r ns h => absurd (show (10 : UInt8) ∈ bl rest by rw [h]; simp) hf, (rest, ()), ?_⟩
    simp only [cut_free hf, Option.bind_some, split_eq 32 hs]
    rfl
  · have hal : a.length + (r.length + 1) = rest.size := by rw [bl_len, e]; simp
    simp only [cut_sep ha e hs, Option.bind_some]
    have hsa : ByteArray.size (mkB a) < 2 ^ 31 := by rw [mkB_size]; omega
    simp only [split_eq 32 hsa, Option.bind_some, bl_mk, Bool.not_true, cond_false, List.length_map]
    have hPl := spl_len 32 a
    have pre : ∀ {ns : List Nat}, (∀ l' r' ns', bl rest = l' ++ 10 :: r' → (10 : UInt8) ∉ l' → l' = lineB word ns' → spl 32 a = word :: (dcs ns' ++ [[chkC (dcs ns')]]) ) := fun {_} l' r' ns' h1 h2 h3 => by
      obtain ⟨rfl, _⟩ := sep_uniq ha h2 (e.symm.trans h1)
      rw [h3]; exact spl_lineB h32
    have hwm : IntKind.wrap .i64 ((many : Int) + 2) = ((many + 2 : Nat) : Int) := by rw [wr (by omega) (by omega)]; omega
    have hwm1 : IntKind.wrap .i64 ((many : Int) + 1) = ((many + 1 : Nat) : Int) := wr1 (by omega)
    rw [hwm]
    by_cases hn : (spl 32 a).length = many + 2
    case neg =>
      rw [show (((spl 32 a).length : Int) != ((many + 2 : Nat) : Int)) = true from bne_iff_ne.2 (by omega)]
      refine .inr ⟨fun l' r' ns' h1 h2 h3 _ h4 => hn ?_, _, rfl⟩
      rw [pre (ns := []) l' r' ns' h1 h2 h4]
      simp [h3]
    rw [show (((spl 32 a).length : Int) != ((many + 2 : Nat) : Int)) = false from by rw [hn]; simp]
    have hP3 := three_parts hn
    have hWl := mid_len hn
    have hWm : ∀ w ∈ (List.drop 1 (List.take (many + 1) (spl 32 a))), w ∈ spl 32 a := fun w hw => List.mem_of_mem_take (List.mem_of_mem_drop hw)
    generalize hP0 : (spl 32 a).getD 0 [] = w0 at hP3
    generalize hPe : (spl 32 a).getD (many + 1) [] = wl at hP3
    generalize hW : List.drop 1 (List.take (many + 1) (spl 32 a)) = W at hP3 hWl hWm
    have hWmap : List.drop 1 (List.take (many + 1) ((spl 32 a).map mkB)) = W.map mkB := by rw [← List.map_take, ← List.map_drop, hW]
    simp only [cond_false, hwm1, Int.toNat_zero, Int.toNat_natCast, show Int.toNat 1 = 1 from rfl, hWmap]
    rw [decide_eq_true (p := (0 : Int) < ((spl 32 a).length : Int)) (by omega), decide_eq_true (p := (1 : Int) ≤ ((many + 1 : Nat) : Int)) (by omega), decide_eq_true (p := ((many + 1 : Nat) : Int) ≤ ((spl 32 a).length : Int)) (by omega), getD_mk, hP0, beq_bl, bl_mk, bl_mk]
    simp only [show decide ((0 : Int) ≤ 0) = true from rfl, show decide ((0 : Int) ≤ 1) = true from rfl, Bool.and_self, cond_true]
    by_cases hw0 : w0 = word
    case neg =>
      rw [decide_eq_false hw0]
      refine .inr ⟨fun l' r' ns' h1 h2 h3 _ h4 => hw0 ?_, _, rfl⟩
      have := pre (ns := []) l' r' ns' h1 h2 h4
      rw [hP3, List.cons.injEq] at this
      exact this.1
    subst hw0
    rw [decide_eq_true rfl]
    simp only [Bool.not_true, cond_false]
    let F : Nat → ((Int × (ByteArray × ((List ByteArray) × ((List Int) × ((List ByteArray) × (Int × (Int × Unit))))))) × ((ByteArray × Unit) × Unit)) := fun i => (((many : Int), (mkB a, ((spl 32 a).map mkB, (ofN ((W.take i).map valD), (W.map mkB, ((W.length : Int), ((i : Int), ()))))))), ((mkB r, ()), ()))
    let bad : Nat → Bool := fun i => !okw (W.getD i [])
    have go : ∀ i, i < W.length → G32_l0_step (F i) = some (bif bad i then (1, F i) else (0, F (i + 1))) := fun i hi => by
      unfold G32_l0_step
      simp only [F, bad]
      rw [decide_eq_true (p := (i : Int) < (W.length : Int)) (by omega), ge0, List.length_map, decide_eq_true (p := (i : Int) < (W.length : Int)) (by omega)]
      simp only [cond_true, Bool.and_self, getD_toNat]
      rw [getD_mk]
      cases hok : okw (W.getD i []) with
      | true =>
        rw [number_ok hok]
        simp only [Option.bind_some, altK, Bool.not_true, cond_false, List.length_map, List.length_take, List.length_singleton]
        rw [lim_le (by omega), wr1 (i := i) (by omega), take_next hi, List.map_append, getD_at hi]
        simp [ofN]
      | false =>
        rw [number_no hok]
        rfl
    have hend : G32_l0_step (F W.length) = some (2, F W.length) := by
      unfold G32_l0_step
      simp only [F]
      rw [decide_eq_false (p := (W.length : Int) < (W.length : Int)) (by omega)]
      rfl
    have hF0 : (((many : Int), (mkB a, ((spl 32 a).map mkB, (([] : List Int), (W.map mkB, ((List.length (W.map mkB) : Int), ((0 : Int), ()))))))), ((mkB r, ()), ())) = F 0 := by simp [F]
    have hfuel : G32_l0_fuel (F 0) = W.length + 1 := by
      unfold G32_l0_fuel
      simp only [F]
      omega
    unfold G32_l0_run
    rw [hF0, hfuel]
    rcases iter_fn (bad := bad) F F (F W.length) go hend (Nat.lt_succ_self _) with ⟨j, hj, hbj, _, e1⟩ | ⟨hall, e1⟩
    · rw [e1]
      refine .inr ⟨fun l' r' ns' h1 h2 h3 h5 h4 => ?_, _, rfl⟩
      have h6 := pre (ns := []) l' r' ns' h1 h2 h4
      rw [hP3, List.cons.injEq] at h6
      have h7 := List.append_inj_left h6.2 (by rw [hWl, List.length_map, h3])
      have h8 : okw (W.getD j []) = true := by
        rw [getD_at hj]
        have : W[j] ∈ dcs ns' := by rw [← h7]; exact List.getElem_mem _
        obtain ⟨n, hn, e2⟩ := List.mem_map.1 this
        rw [← e2]
        exact okw_dd (h5.2.2 n hn)
      simp only [bad, h8] at hbj
      cases hbj
    · rw [e1]
      have hok : ∀ w ∈ W, okw w = true := fun w hw => by
        obtain ⟨j, hj, e2⟩ := List.mem_iff_getElem.1 hw
        have := hall j hj
        simp only [bad, getD_at hj, e2, Bool.not_eq_false'] at this
        exact this
      have hWd := all_okw hok
      have hsmall : Small (W.map valD) := ⟨by intro h0; have := congrArg List.length h0; simp at this; rw [this] at hWl; simp at hWl; omega, by rw [List.length_map]; omega, fun n hn => by
        obtain ⟨w, hw, rfl⟩ := List.mem_map.1 hn
        exact (okw_iff.1 (hok w hw)).lt⟩
      have hck := check_eq (W := W) (by rw [hWd]; exact dcs_dg _) (by have := hsmall.flat; rw [← hWd] at this; omega) (by omega)
      have hfl : List.take W.length W = W := List.take_length
      simp only [Option.bind_some, natK, F, hwm1, List.length_map, Int.toNat_natCast, show Int.toNat 1 = 1 from rfl, hWmap, hfl]
      rw [decide_eq_true (p := (0 : Int) ≤ ((many + 1 : Nat) : Int)) (by omega), decide_eq_true (p := ((many + 1 : Nat) : Int) < ((spl 32 a).length : Int)) (by omega), decide_eq_true (p := (1 : Int) ≤ ((many + 1 : Nat) : Int)) (by omega), decide_eq_true (p := ((many + 1 : Nat) : Int) ≤ ((spl 32 a).length : Int)) (by omega), getD_mk, hPe]
      simp only [show decide ((0 : Int) ≤ 1) = true from rfl, Bool.and_self, cond_true, hck, Option.bind_some]
      rw [beq_bl, bl_mk, bl_mk]
      by_cases hc : wl = [chkC W]
      · rw [decide_eq_true hc]
        refine .inl ⟨a, r, W.map valD, e, ha, by rw [List.length_map, hWl], hsmall, is_lineB ?_, rfl⟩
        rw [hP3, ← hWd, hc]
      · rw [decide_eq_false hc]
        refine .inr ⟨fun l' r' ns' h1 h2 h3 h5 h4 => hc ?_, _, rfl⟩
        have h6 := pre (ns := []) l' r' ns' h1 h2 h4
        rw [hP3, List.cons.injEq] at h6
        have h7 := List.append_inj h6.2 (by rw [hWl, List.length_map, h3])
        have h8 := h7.2
        rw [List.cons.injEq] at h8
        rw [h8.1, h7.1]
end Go.Proofs.YtibmgbalfhfcdaaGreatDoor.Abs
set_option linter.unusedVariables false
set_option linter.unusedSimpArgs false
set_option maxRecDepth 100000
namespace Go.Proofs.YtibmgbalfhfcdaaGreatDoor.Abs
open Classical
theorem in_tells (x a b : Int) : G51 x a b = some (decide (a ≤ x ∧ x ≤ b)) := by
  unfold G51
  by_cases h : a ≤ x
  · simp [h]
  · simp [h]
theorem rin_tells (x a b : Int) : G63 x a b = some (decide (a ≤ x ∧ x ≤ b)) := by
  unfold G63
  by_cases h : a ≤ x
  · simp [h]
  · simp [h]
structure StrOk (s : E23) : Prop where
  err : 0 ≤ s.1 ∧ s.1 ≤ 100
  drift : 0 ≤ s.2.1 ∧ s.2.1 ≤ 20
  warm : 0 ≤ s.2.2.1 ∧ s.2.2.1 ≤ 20
  depths : 1 ≤ s.2.2.2.1 ∧ s.2.2.2.1 ≤ 4
  len : 1 ≤ (s.2.2.2.2.1).length ∧ (s.2.2.2.2.1).length ≤ 6
  at_ : ∀ d ∈ s.2.2.2.2.1, 0 ≤ d ∧ d < s.2.2.2.1
def RdOk (s : E23) (r : E71) : Prop := 0 ≤ r.1 ∧ r.1 < ((s.2.2.2.2.1).length : Int) ∧ 0 ≤ r.2.1 ∧ r.2.1 ≤ 200 ∧ 0 ≤ r.2.2.1 ∧ r.2.2.1 ≤ 6400
def RdsOk (s : E23) (l : List E71) : Prop := ∀ r ∈ l, RdOk s r
theorem notin_eq (n : Int) (s : E23) (h : 1 ≤ s.2.2.2.1 ∧ s.2.2.2.1 ≤ 4) : G77 n s = some (!decide (0 ≤ n ∧ n < s.2.2.2.1), (s, ())) := by
  unfold G77
  rw [wr (by omega) (by omega), in_tells]
  have : decide (0 ≤ n ∧ n ≤ s.2.2.2.1 - 1) = decide (0 ≤ n ∧ n < s.2.2.2.1) := by congr 1; apply propext; constructor <;> intro h' <;> exact ⟨h'.1, by omega⟩
  rw [this]; rfl
theorem any_of_getD {α : Type} {p : α → Bool} {l : List α} {d : α} {j : Nat} (hj : j < l.length) (h : p (l.getD j d) = true) : l.any p = true :=
  List.any_eq_true.2 ⟨_, getD_mem hj, h⟩
theorem any_not_getD {α : Type} {p : α → Bool} {l : List α} {d : α} (h : ∀ j, j < l.length → p (l.getD j d) = false) : l.any p = false := by
  rw [List.any_eq_false]
  intro x hx
  have := (forall_getD (l := l) d (p := fun x => p x = false)).1 h x hx
  simp [this]
theorem cf78 (a : List Int) (s : E23) (h : 1 ≤ s.2.2.2.1 ∧ s.2.2.2.1 ≤ 4) (hl : a.length < 2 ^ 62) : G76 a s = some (a.any (fun n => !decide (0 ≤ n ∧ n < s.2.2.2.1)), (s, ())) := by
  unfold G76 G91 G91_l0_run
  have key := iter_fn (step := G91_l0_step) (n := a.length) (k1 := 0) (k2 := 1) (fuel := G91_l0_fuel ((a, (0, ((List.length a : Int), (0, ())))), (s, ()))) (bad := fun i => !decide (0 ≤ a.getD i 0 ∧ a.getD i 0 < s.2.2.2.1))
    (fun i => ((a, (0, ((List.length a : Int), ((i : Int), ())))), (s, ()))) (fun i => ((a, ((i : Int), ((List.length a : Int), ((i : Int), ())))), (s, ()))) ((a, (0, ((List.length a : Int), ((a.length : Int), ())))), (s, ())) (fun i hi => by
      unfold G91_l0_step
      simp only [lt_int hi, inside_lt hi, cond_true, getD_toNat, notin_eq _ s h, Option.bind_some, wr1 (i := i) (by omega)]
      cases decide (0 ≤ a.getD i 0 ∧ a.getD i 0 < s.2.2.2.1) <;> rfl) (by
      unfold G91_l0_step
      simp only [nlt_int, cond_false]) (by unfold G91_l0_fuel; simp)
  rcases key with ⟨j, hj, hb, _, he⟩ | ⟨hall, he⟩
  · have he' : iter G91_l0_step (G91_l0_fuel ((a, (0, ((List.length a : Int), (0, ())))), (s, ()))) ((a, (0, ((List.length a : Int), (0, ())))), (s, ())) = _ := he
    rw [he', any_of_getD (p := fun n => !decide (0 ≤ n ∧ n < s.2.2.2.1)) hj hb]
    simp only [Option.bind_some, natK]
    simp
  · have he' : iter G91_l0_step (G91_l0_fuel ((a, (0, ((List.length a : Int), (0, ())))), (s, ()))) ((a, (0, ((List.length a : Int), (0, ())))), (s, ())) = _ := he
    rw [he', any_not_getD (p := fun n => !decide (0 ≤ n ∧ n < s.2.2.2.1)) hall]
    rfl
theorem valid_tells (s : E23) : Tells (G57 s) (StrOk s) := by
  have h : Tells (G57 s) ((0 ≤ s.1 ∧ s.1 ≤ 100) ∧ (0 ≤ s.2.1 ∧ s.2.1 ≤ 20) ∧ (0 ≤ s.2.2.1 ∧ s.2.2.1 ≤ 20) ∧ (1 ≤ s.2.2.2.1 ∧ s.2.2.2.1 ≤ 4) ∧ (1 ≤ ((s.2.2.2.2.1).length : Int) ∧ ((s.2.2.2.2.1).length : Int) ≤ 6) ∧ ∀ d ∈ s.2.2.2.2.1, 0 ≤ d ∧ d < s.2.2.2.1) := by
    unfold G57
    simp only [in_tells]
    refine tells_and tells_dec fun _ => tells_and tells_dec fun _ => tells_and tells_dec fun _ => tells_and tells_dec fun hd => tells_and tells_dec fun hl => ?_
    rw [cf78 _ _ hd (by have := hl.2; omega)]
    refine ⟨_, rfl, ?_⟩
    simp [List.any_eq_true]
  refine h.iff ⟨fun h => ⟨h.1, h.2.1, h.2.2.1, h.2.2.2.1, ?_, h.2.2.2.2.2⟩, fun h => ⟨h.err, h.drift, h.warm, h.depths, ?_, h.at_⟩⟩
  · have := h.2.2.2.2.1; omega
  · have := h.len; omega
instance (s : E23) (r : E71) : Decidable (RdOk s r) := by unfold RdOk; infer_instance
theorem rd_eq (r : E71) (s : E23) (hs : StrOk s) : G59 r s = some (!decide (RdOk s r), (s, ())) := by
  unfold G59
  have := hs.len
  rw [wr (by omega) (by omega)]
  simp only [in_tells, Option.bind_some]
  have e : decide (RdOk s r) = (decide (0 ≤ r.1 ∧ r.1 ≤ ((s.2.2.2.2.1).length : Int) - 1) && (decide (0 ≤ r.2.1 ∧ r.2.1 ≤ 200) && decide (0 ≤ r.2.2.1 ∧ r.2.2.1 ≤ 6400))) := by
    rw [← Bool.decide_and, ← Bool.decide_and]
    refine decide_eq_decide.2 ⟨fun h => ⟨⟨h.1, by have := h.2.1; omega⟩, ⟨h.2.2.1, h.2.2.2.1⟩, h.2.2.2.2⟩, fun h => ⟨h.1.1, by have := h.1.2; omega, h.2.1.1, h.2.1.2, h.2.2⟩⟩
  rw [e]
  generalize decide (0 ≤ r.1 ∧ r.1 ≤ ((s.2.2.2.2.1).length : Int) - 1) = a
  generalize decide (0 ≤ r.2.1 ∧ r.2.1 ≤ 200) = b
  generalize decide (0 ≤ r.2.2.1 ∧ r.2.2.1 ≤ 6400) = c
  cases a <;> cases b <;> cases c <;> rfl
theorem cf81 (a : List E71) (s : E23) (hs : StrOk s) (hl : a.length < 2 ^ 62) : G58 a s = some (a.any (fun r => !decide (RdOk s r)), (s, ())) := by
  unfold G58 G78 G78_l0_run
  have key := iter_fn (step := G78_l0_step) (n := a.length) (k1 := 0) (k2 := 1) (fuel := G78_l0_fuel ((a, (0, ((List.length a : Int), (0, ())))), (s, ()))) (bad := fun i => !decide (RdOk s (a.getD i (0, (0, (0, ()))))))
    (fun i => ((a, (0, ((List.length a : Int), ((i : Int), ())))), (s, ()))) (fun i => ((a, ((i : Int), ((List.length a : Int), ((i : Int), ())))), (s, ()))) ((a, (0, ((List.length a : Int), ((a.length : Int), ())))), (s, ())) (fun i hi => by
      unfold G78_l0_step
      simp only [lt_int hi, inside_lt hi, cond_true, getD_toNat, rd_eq _ s hs, Option.bind_some, wr1 (i := i) (by omega)]
      cases decide (RdOk s (a.getD i (0, (0, (0, ()))))) <;> rfl) (by
      unfold G78_l0_step
      simp only [nlt_int, cond_false]) (by unfold G78_l0_fuel; simp)
  rcases key with ⟨j, hj, hb, _, he⟩ | ⟨hall, he⟩
  · have he' : iter G78_l0_step (G78_l0_fuel ((a, (0, ((List.length a : Int), (0, ())))), (s, ()))) ((a, (0, ((List.length a : Int), (0, ())))), (s, ())) = _ := he
    rw [he', any_of_getD (p := fun r => !decide (RdOk s r)) hj hb]
    simp only [Option.bind_some, natK]
    simp
  · have he' : iter G78_l0_step (G78_l0_fuel ((a, (0, ((List.length a : Int), (0, ())))), (s, ()))) ((a, (0, ((List.length a : Int), (0, ())))), (s, ())) = _ := he
    rw [he', any_not_getD (p := fun r => !decide (RdOk s r)) hall]
    rfl
theorem rstring_tells (s : E23) (h12 : (s.2.2.2.2.1).length ≤ 1000) : Tells (G29 s) (StrOk s) := by
  unfold G29 G29_l0_run
  have key := iter_fn (step := G29_l0_step) (n := (s.2.2.2.2.1).length) (k1 := 0) (k2 := 1) (fuel := G29_l0_fuel ((false, (0, ())), (s, ())))
    (bad := fun i => !decide (0 ≤ (s.2.2.2.2.1).getD i 0 ∧ (s.2.2.2.2.1).getD i 0 ≤ IntKind.wrap .i64 (s.2.2.2.1 - 1)))
    (fun i => ((false, ((i : Int), ())), (s, ()))) (fun i => ((false, ((i : Int), ())), (s, ()))) ((false, (((s.2.2.2.2.1).length : Int), ())), (s, ())) (fun i hi => by
      unfold G29_l0_step
      simp only [lt_int hi, ge0, Bool.and_self, cond_true, getD_toNat, rin_tells, Option.bind_some, wr1 (i := i) (by omega)]
      cases decide (0 ≤ (s.2.2.2.2.1).getD i 0 ∧ (s.2.2.2.2.1).getD i 0 ≤ IntKind.wrap .i64 (s.2.2.2.1 - 1)) <;> rfl) (by
      unfold G29_l0_step
      simp only [nlt_int, cond_false]) (by unfold G29_l0_fuel; simp)
  rcases key with ⟨j, hj, hb, _, he⟩ | ⟨hall, he⟩
  · rw [show iter G29_l0_step (G29_l0_fuel ((false, (0, ())), (s, ()))) ((false, (0, ())), (s, ())) = _ from he]
    refine tells_f fun hs => ?_
    have h1 := hs.at_ _ (getD_mem hj (d := 0))
    have hd := hs.depths
    rw [wr (by omega) (by omega)] at hb
    rw [Bool.not_eq_true'] at hb
    have : ¬ (0 ≤ (s.2.2.2.2.1).getD j 0 ∧ (s.2.2.2.2.1).getD j 0 ≤ s.2.2.2.1 - 1) := of_decide_eq_false hb
    exact this ⟨h1.1, by omega⟩
  · rw [show iter G29_l0_step (G29_l0_fuel ((false, (0, ())), (s, ()))) ((false, (0, ())), (s, ())) = _ from he]
    simp only [Option.bind_some, natK, rin_tells]
    have h : Tells (Option.bind (some (decide (0 ≤ s.1 ∧ s.1 ≤ 100))) fun r3 => bif r3 then Option.bind (some (decide (0 ≤ s.2.1 ∧ s.2.1 ≤ 20))) fun r4 => bif r4 then Option.bind (some (decide (0 ≤ s.2.2.1 ∧ s.2.2.1 ≤ 20))) fun r5 => bif r5 then Option.bind (some (decide (1 ≤ s.2.2.2.1 ∧ s.2.2.2.1 ≤ 4))) fun r6 => bif r6 then Option.bind (some (decide (1 ≤ ((s.2.2.2.2.1).length : Int) ∧ ((s.2.2.2.2.1).length : Int) ≤ 6))) fun r7 => some r7 else some false else some false else some false else some false)
      ((0 ≤ s.1 ∧ s.1 ≤ 100) ∧ (0 ≤ s.2.1 ∧ s.2.1 ≤ 20) ∧ (0 ≤ s.2.2.1 ∧ s.2.2.1 ≤ 20) ∧ (1 ≤ s.2.2.2.1 ∧ s.2.2.2.1 ≤ 4) ∧ (1 ≤ ((s.2.2.2.2.1).length : Int) ∧ ((s.2.2.2.2.1).length : Int) ≤ 6)) :=
      tells_and tells_dec fun _ => tells_and tells_dec fun _ => tells_and tells_dec fun _ => tells_and tells_dec fun hd => tells_bind tells_dec
    refine Tells.iff h ⟨fun h => ⟨h.1, h.2.1, h.2.2.1, h.2.2.2.1, by have := h.2.2.2.2; omega, ?_⟩, fun h => ⟨h.err, h.drift, h.warm, h.depths, by have := h.len; omega⟩⟩
    refine (forall_getD 0).1 fun i hi => ?_
    have := hall i hi
    rw [wr (by have := h.2.2.2.1; omega) (by have := h.2.2.2.1; omega)] at this
    have h2 : 0 ≤ (s.2.2.2.2.1).getD i 0 ∧ (s.2.2.2.2.1).getD i 0 ≤ s.2.2.2.1 - 1 := by simpa using this
    exact ⟨h2.1, by omega⟩
theorem rreadings_tells {s : E23} (hs : StrOk s) (l : List E71) (hl : l.length ≤ 1000) : Tells (G30 s l) (RdsOk s l) := by
  have hlen := hs.len
  unfold G30 G30_l0_run
  have key := iter_fn (step := G30_l0_step) (n := l.length) (k1 := 0) (k2 := 1) (fuel := G30_l0_fuel ((l, (false, (0, ()))), (s, ())))
    (bad := fun i => !decide (RdOk s (l.getD i (0, (0, (0, ()))))))
    (fun i => ((l, (false, ((i : Int), ()))), (s, ()))) (fun i => ((l, (false, ((i : Int), ()))), (s, ()))) ((l, (false, ((l.length : Int), ()))), (s, ())) (fun i hi => by
      unfold G30_l0_step
      have hw : IntKind.wrap .i64 (((s.2.2.2.2.1).length : Int) - 1) = ((s.2.2.2.2.1).length : Int) - 1 := wr (by omega) (by omega)
      simp only [hw, lt_int hi, ge0, Bool.and_self, cond_true, getD_toNat, rin_tells, Option.bind_some, wr1 (i := i) (by omega)]
      generalize l.getD i (0, (0, (0, ()))) = r
      have e : decide (RdOk s r) = (decide (0 ≤ r.1 ∧ r.1 ≤ ((s.2.2.2.2.1).length : Int) - 1) && (decide (0 ≤ r.2.1 ∧ r.2.1 ≤ 200) && decide (0 ≤ r.2.2.1 ∧ r.2.2.1 ≤ 6400))) := by
        rw [← Bool.decide_and, ← Bool.decide_and]
        refine decide_eq_decide.2 ⟨fun h => ⟨⟨h.1, by have := h.2.1; omega⟩, ⟨h.2.2.1, h.2.2.2.1⟩, h.2.2.2.2⟩, fun h => ⟨h.1.1, by have := h.1.2; omega, h.2.1.1, h.2.1.2, h.2.2⟩⟩
      rw [e]
      generalize decide (0 ≤ r.1 ∧ r.1 ≤ ((s.2.2.2.2.1).length : Int) - 1) = a
      generalize decide (0 ≤ r.2.1 ∧ r.2.1 ≤ 200) = b
      generalize decide (0 ≤ r.2.2.1 ∧ r.2.2.1 ≤ 6400) = c
      cases a <;> cases b <;> cases c <;> rfl) (by
      unfold G30_l0_step
      simp only [nlt_int, cond_false]) (by unfold G30_l0_fuel; simp)
  rcases key with ⟨j, hj, hb, _, he⟩ | ⟨hall, he⟩
  · rw [show iter G30_l0_step (G30_l0_fuel ((l, (false, (0, ()))), (s, ()))) ((l, (false, (0, ()))), (s, ())) = _ from he]
    refine tells_f fun hr => ?_
    have := hr _ (getD_mem hj (d := (0, (0, (0, ())))))
    rw [decide_eq_true this] at hb
    cases hb
  · rw [show iter G30_l0_step (G30_l0_fuel ((l, (false, (0, ()))), (s, ()))) ((l, (false, (0, ()))), (s, ())) = _ from he]
    refine tells_t ((forall_getD (0, (0, (0, ())))).1 fun i hi => ?_)
    simpa using hall i hi
def SlOk (s : E23) (l : List E71) : Prop := l.length ≤ 24 ∧ StrOk s ∧ RdsOk s l
theorem short_tells (s : E23) (l : List E71) : G6 s l = some (decide ((s.2.2.2.2.1).length ≤ 12 ∧ l.length ≤ 29)) := by
  unfold G6
  by_cases h : (s.2.2.2.2.1).length ≤ 12
  · by_cases h2 : l.length ≤ 29
    · rw [decide_eq_true (p := ((s.2.2.2.2.1).length : Int) ≤ 12) (by omega), cond_true]; congr 1; rw [decide_eq_decide]; omega
    · rw [decide_eq_true (p := ((s.2.2.2.2.1).length : Int) ≤ 12) (by omega), cond_true]; congr 1; rw [decide_eq_decide]; omega
  · rw [decide_eq_false (p := ((s.2.2.2.2.1).length : Int) ≤ 12) (by omega), cond_false]; rw [decide_eq_false (fun hh => h hh.1)]
theorem wanted_eq (s : E23) (l : List E71) (h1 : (s.2.2.2.2.1).length ≤ 1000) (h2 : l.length ≤ 1000) :
    (24 < l.length ∧ G9 s l = some 3) ∨ (l.length ≤ 24 ∧ ¬ SlOk s l ∧ G9 s l = some 2) ∨ (SlOk s l ∧ G9 s l = some 0) := by
  unfold G9
  by_cases hl : l.length ≤ 24
  · have : decide ((l.length : Int) > 24) = false := decide_eq_false (by omega)
    rw [this, cond_false]
    right
    by_cases hs : StrOk s
    · rw [(rstring_tells s h1).val hs]
      simp only [Option.bind_some, Bool.not_true, cond_false]
      by_cases hr : RdsOk s l
      · rw [(rreadings_tells hs l h2).val hr]
        exact .inr ⟨⟨hl, hs, hr⟩, rfl⟩
      · rw [(rreadings_tells hs l h2).nval hr]
        exact .inl ⟨hl, fun h => hr h.2.2, rfl⟩
    · rw [(rstring_tells s h1).nval hs]
      exact .inl ⟨hl, fun h => hs h.2.1, rfl⟩
  · have : decide ((l.length : Int) > 24) = true := decide_eq_true (by omega)
    rw [this, cond_true]
    exact .inl ⟨by omega, rfl⟩
theorem given5_eq (s : E23) (l : List E71) (h0 : l.length < 2 ^ 62) :
    (24 < l.length ∧ G26_v5 s l = some (.inl (((), (3, ())), ()))) ∨ (l.length ≤ 24 ∧ ¬ SlOk s l ∧ G26_v5 s l = some (.inl (((), (2, ())), ()))) ∨ (SlOk s l ∧ ∃ z, G26_v5 s l = some (.inr (((), (0, ())), z))) := by
  unfold G26_v5
  by_cases hl : l.length ≤ 24
  case neg =>
    rw [decide_eq_true (p := (l.length : Int) > 24) (by omega)]
    exact .inl ⟨by omega, rfl⟩
  right
  rw [decide_eq_false (p := (l.length : Int) > 24) (by omega), cond_false]
  by_cases hs : StrOk s
  case neg =>
    rw [(valid_tells s).nval hs]
    exact .inl ⟨hl, fun h => hs h.2.1, rfl⟩
  rw [(valid_tells s).val hs]
  simp only [Option.bind_some, Bool.not_true, cond_false]
  rw [cf81 l s hs h0]
  simp only [Option.bind_some]
  cases ha : l.any (fun r => !decide (RdOk s r)) with
  | true =>
    refine .inl ⟨hl, fun h => ?_, rfl⟩
    rw [List.any_eq_true] at ha
    obtain ⟨x, hx, hx'⟩ := ha
    rw [decide_eq_true (h.2.2 x hx)] at hx'
    cases hx'
  | false =>
    have hr : RdsOk s l := by
      intro r hr
      have := List.any_eq_false.1 ha r hr
      simpa using this
    exact .inr ⟨⟨hl, hs, hr⟩, _, rfl⟩
theorem given6_eq (s : E23) (l : List E71) : G26_v6 s l = G26_v5 s l := rfl
end Go.Proofs.YtibmgbalfhfcdaaGreatDoor.Abs
set_option linter.unusedVariables false
set_option linter.unusedSimpArgs false
set_option maxRecDepth 100000
namespace Go.Proofs.YtibmgbalfhfcdaaGreatDoor.Abs
def Ln (word : List UInt8) (many : Nat) (l : List UInt8) (ns : List Nat) : Prop := ns.length = many ∧ Small ns ∧ l = lineB word ns
theorem Ln.uniq {word l : List UInt8} {many : Nat} {ns ns' : List Nat} (h32 : (32 : UInt8) ∉ word) (h : Ln word many l ns) (h' : Ln word many l ns') : ns = ns' := by
  have h1 := spl_lineB (ns := ns) h32
  have h2 := spl_lineB (ns := ns') h32
  rw [← h.2.2] at h1
  rw [← h'.2.2, h1, List.cons.injEq] at h2
  have h3 := List.append_inj_left h2.2 (by rw [List.length_map, List.length_map, h.1, h'.1])
  have : ∀ (a b : List Nat), dcs a = dcs b → a = b := by
    intro a
    induction a with
    | nil => intro b hb; cases b <;> simp at hb ⊢
    | cons x a ih =>
      intro b hb
      cases b with
      | nil => simp at hb
      | cons y b =>
        simp only [dcs, List.map_cons, List.cons.injEq] at hb
        rw [dd_inj hb.1, ih b hb.2]
  exact this _ _ h3
end Go.Proofs.YtibmgbalfhfcdaaGreatDoor.Abs
set_option linter.unusedVariables false
set_option linter.unusedSimpArgs false
set_option maxRecDepth 100000
namespace Go.Proofs.YtibmgbalfhfcdaaGreatDoor.Abs
abbrev WStr : List UInt8 := [115, 116, 114, 105, 110, 103]
abbrev WSen : List UInt8 := [115, 101, 110, 115, 111, 114]
abbrev WRead : List UInt8 := [114, 101, 97, 100]
abbrev WEnd : List UInt8 := [101, 110, 100]
structure Fd where
  e : Nat
  d : Nat
  w : Nat
  p : Nat
  ss : List Nat
  rs : List (Nat × Nat × Nat)
def Fd.Fine (f : Fd) : Prop := f.e < 10000 ∧ f.d < 10000 ∧ f.w < 10000 ∧ f.p < 10000 ∧ f.ss.length < 10000 ∧ (∀ x ∈ f.ss, x < 10000) ∧ f.rs.length < 10000 ∧ ∀ r ∈ f.rs, r.1 < 10000 ∧ r.2.1 < 10000 ∧ r.2.2 < 10000
def sensL (ss : List Nat) : List (List UInt8) := ss.map fun x => lineB WSen [x]
def readsL (rs : List (Nat × Nat × Nat)) : List (List UInt8) := rs.map fun r => lineB WRead [r.1, r.2.1, r.2.2]
def headL (f : Fd) : List UInt8 := lineB WStr [f.e, f.d, f.w, f.p, f.ss.length]
def endL (f : Fd) : List UInt8 := lineB WEnd [f.rs.length]
def cat (ls : List (List UInt8)) : List UInt8 := (ls.map (· ++ [10])).flatten
theorem cat_cons (l : List UInt8) (ls : List (List UInt8)) : cat (l :: ls) = l ++ 10 :: cat ls := by simp [cat]
theorem cat_app (a b : List (List UInt8)) : cat (a ++ b) = cat a ++ cat b := by simp [cat]
theorem cat_one (l : List UInt8) : cat [l] = l ++ [10] := by simp [cat]
theorem cat_len {ls : List (List UInt8)} {k : Nat} (h : ∀ l ∈ ls, l.length ≤ k) : (cat ls).length ≤ (k + 1) * ls.length := by
  induction ls with
  | nil => simp [cat]
  | cons l ls ih =>
    have h1 := h l List.mem_cons_self
    have h2 := ih fun x hx => h x (List.mem_cons_of_mem _ hx)
    rw [cat_cons, List.length_append, List.length_cons, List.length_cons, Nat.mul_succ]; omega
def linesL (f : Fd) : List (List UInt8) := headL f :: (sensL f.ss ++ (readsL f.rs ++ [endL f]))
def file (f : Fd) : List UInt8 := cat (linesL f)
theorem file_eq (f : Fd) : file f = headL f ++ 10 :: (cat (sensL f.ss) ++ (cat (readsL f.rs) ++ (endL f ++ [10]))) := by
  unfold file linesL
  rw [cat_cons, cat_app, cat_app, cat_one]
def encS (f : Fd) : E23 := ((f.e : Int), ((f.d : Int), ((f.w : Int), ((f.p : Int), (ofN f.ss, ())))))
def encR1 (r : Nat × Nat × Nat) : E71 := ((r.1 : Int), ((r.2.1 : Int), ((r.2.2 : Int), ())))
def encR (f : Fd) : List E71 := f.rs.map encR1
theorem Fd.Fine.head {f : Fd} (h : f.Fine) : Small [f.e, f.d, f.w, f.p, f.ss.length] := ⟨by simp, by simp, fun n hn => by
  obtain ⟨h1, h2, h3, h4, h5, _⟩ := h
  simp only [List.mem_cons, List.not_mem_nil, or_false] at hn
  rcases hn with rfl | rfl | rfl | rfl | rfl <;> assumption⟩
theorem small1 {x : Nat} (h : x < 10000) : Small [x] := ⟨by simp, by simp, fun n hn => by rw [List.mem_singleton] at hn; subst hn; exact h⟩
theorem small3 {r : Nat × Nat × Nat} (h : r.1 < 10000 ∧ r.2.1 < 10000 ∧ r.2.2 < 10000) : Small [r.1, r.2.1, r.2.2] := ⟨by simp, by simp, fun n hn => by
  obtain ⟨h1, h2, h3⟩ := h
  simp only [List.mem_cons, List.not_mem_nil, or_false] at hn
  rcases hn with rfl | rfl | rfl <;> assumption⟩
theorem sensL_len {ss : List Nat} (h : ∀ x ∈ ss, x < 10000) : ∀ l ∈ sensL ss, l.length ≤ 36 := fun l hl => by
  obtain ⟨x, hx, rfl⟩ := List.mem_map.1 hl
  have := lineB_len (word := WSen) (small1 (h x hx))
  simpa using this
theorem readsL_len {rs : List (Nat × Nat × Nat)} (h : ∀ r ∈ rs, r.1 < 10000 ∧ r.2.1 < 10000 ∧ r.2.2 < 10000) : ∀ l ∈ readsL rs, l.length ≤ 36 := fun l hl => by
  obtain ⟨x, hx, rfl⟩ := List.mem_map.1 hl
  have := lineB_len (word := WRead) (small3 (h x hx))
  simp at this; omega
theorem catS_len {ss : List Nat} (h : ∀ x ∈ ss, x < 10000) (i : Nat) : (cat (sensL (ss.take i))).length ≤ 37 * ss.length := by
  have := cat_len (sensL_len (ss := ss.take i) fun x hx => h x (List.mem_of_mem_take hx))
  unfold sensL at this ⊢
  rw [List.length_map, List.length_take] at this
  have h2 : 37 * min i ss.length ≤ 37 * ss.length := Nat.mul_le_mul_left _ (Nat.min_le_right _ _)
  omega
theorem catR_len {rs : List (Nat × Nat × Nat)} (h : ∀ r ∈ rs, r.1 < 10000 ∧ r.2.1 < 10000 ∧ r.2.2 < 10000) (i : Nat) : (cat (readsL (rs.take i))).length ≤ 37 * rs.length := by
  have := cat_len (readsL_len (rs := rs.take i) fun x hx => h x (List.mem_of_mem_take hx))
  unfold readsL at this ⊢
  rw [List.length_map, List.length_take] at this
  have h2 : 37 * min i rs.length ≤ 37 * rs.length := Nat.mul_le_mul_left _ (Nat.min_le_right _ _)
  omega
theorem head_len {f : Fd} (h : f.Fine) : (headL f).length ≤ 36 := by have := lineB_len (word := WStr) h.head; simpa [headL] using this
theorem end_len {f : Fd} (h : f.Fine) : (endL f).length ≤ 36 := by
  have := lineB_len (word := WEnd) (small1 h.2.2.2.2.2.2.1)
  unfold endL
  simp at this; omega
theorem catS_next {ss : List Nat} {i : Nat} (h : i < ss.length) : cat (sensL (ss.take (i + 1))) = cat (sensL (ss.take i)) ++ (lineB WSen [ss[i]] ++ [10]) := by
  rw [take_next h]; unfold sensL; rw [List.map_append, cat_app, List.map_cons, List.map_nil, cat_one]
theorem catR_next {rs : List (Nat × Nat × Nat)} {i : Nat} (h : i < rs.length) : cat (readsL (rs.take (i + 1))) = cat (readsL (rs.take i)) ++ (lineB WRead [(rs[i]).1, (rs[i]).2.1, (rs[i]).2.2] ++ [10]) := by
  rw [take_next h]; unfold readsL; rw [List.map_append, cat_app, List.map_cons, List.map_nil, cat_one]
theorem getD_encR {rs : List (Nat × Nat × Nat)} {i : Nat} (h : i < rs.length) : List.getD (rs.map encR1) i (0, (0, (0, ()))) = encR1 (rs[i]) := by
  rw [getD_at (by simpa using h)]; simp
theorem print_l0 {f : Fd} (h : f.Fine) {out : List UInt8} (ho : out.length ≤ 10 ^ 6) (l : List E71) (s : E23) :
    G8_l0_run ((l, (mkB out, (ofN f.ss, ((List.length (ofN f.ss) : Int), (0, ()))))), (s, ())) = some (0, ((l, (mkB (out ++ cat (sensL f.ss)), (ofN f.ss, ((f.ss.length : Int), ((f.ss.length : Int), ()))))), (s, ()))) := by
  unfold G8_l0_run
  have hb := h.2.2.2.2.1
  have hx := h.2.2.2.2.2.1
  let F : Nat → (((List E71) × (ByteArray × ((List Int) × (Int × (Int × Unit))))) × (E23 × Unit)) := fun i => ((l, (mkB (out ++ cat (sensL (f.ss.take i))), (ofN f.ss, ((f.ss.length : Int), ((i : Int), ()))))), (s, ()))
  rw [show ((l, (mkB out, (ofN f.ss, ((List.length (ofN f.ss) : Int), ((0 : Int), ()))))), (s, ())) = F 0 by simp [F, sensL, cat], show ((l, (mkB (out ++ cat (sensL f.ss)), (ofN f.ss, ((f.ss.length : Int), ((f.ss.length : Int), ()))))), (s, ())) = F f.ss.length by simp only [F, List.take_length]]
  refine iter_run (n := f.ss.length) F _ (fun i hi => ?_) ?_ ?_
  · unfold G8_l0_step
    simp only [F]
    have hl := catS_len hx i
    have hsm := small1 (hx _ (List.getElem_mem hi))
    have hln := lineB_len (word := WSen) hsm
    rw [show (List.length (ofN f.ss) : Int) = (f.ss.length : Int) by simp, decide_eq_true (p := (i : Int) < (f.ss.length : Int)) (by omega), ge0]
    simp only [cond_true, Bool.and_self, getD_toNat]
    rw [getD_ofN hi, show (⟨#[115, 101, 110, 115, 111, 114]⟩ : ByteArray) = mkB WSen from rfl, show [((f.ss[i] : Nat) : Int)] = ofN [f.ss[i]] from rfl, line_eq (by decide) hsm]
    simp only [Option.bind_some, mkB_size, app_mk, List.length_append, List.length_singleton]
    rw [lim_le (by simp at hln; omega), wr1 (i := i) (by omega), catS_next hi, List.append_assoc]
    rfl
  · unfold G8_l0_step
    simp only [F]
    rw [decide_eq_false (p := (f.ss.length : Int) < (f.ss.length : Int)) (by omega)]
    rfl
  · unfold G8_l0_fuel
    simp [F]
theorem print_l1 {f : Fd} (h : f.Fine) {out : List UInt8} (ho : out.length ≤ 10 ^ 6) (s : E23) :
    G8_l1_run ((encR f, (mkB out, (encR f, ((List.length (encR f) : Int), (0, ()))))), (s, ())) = some (0, ((encR f, (mkB (out ++ cat (readsL f.rs)), (encR f, ((f.rs.length : Int), ((f.rs.length : Int), ()))))), (s, ()))) := by
  unfold G8_l1_run
  have hb := h.2.2.2.2.2.2.1
  have hx := h.2.2.2.2.2.2.2
  have hel : (List.length (encR f) : Int) = (f.rs.length : Int) := by simp [encR]
  let F : Nat → (((List E71) × (ByteArray × ((List E71) × (Int × (Int × Unit))))) × (E23 × Unit)) := fun i => ((encR f, (mkB (out ++ cat (readsL (f.rs.take i))), (encR f, ((f.rs.length : Int), ((i : Int), ()))))), (s, ()))
  rw [hel, show ((encR f, (mkB out, (encR f, ((f.rs.length : Int), ((0 : Int), ()))))), (s, ())) = F 0 by simp [F, readsL, cat], show ((encR f, (mkB (out ++ cat (readsL f.rs)), (encR f, ((f.rs.length : Int), ((f.rs.length : Int), ()))))), (s, ())) = F f.rs.length by simp only [F, List.take_length]]
  refine iter_run (n := f.rs.length) F _ (fun i hi => ?_) ?_ ?_
  · unfold G8_l1_step
    simp only [F]
    have hl := catR_len hx i
    have hsm := small3 (hx _ (List.getElem_mem hi))
    have hln := lineB_len (word := WRead) hsm
    rw [hel, decide_eq_true (p := (i : Int) < (f.rs.length : Int)) (by omega), ge0]
    simp only [cond_true, Bool.and_self, getD_toNat]
    rw [show List.getD (encR f) i (0, (0, (0, ()))) = encR1 (f.rs[i]) from getD_encR hi, show (⟨#[114, 101, 97, 100]⟩ : ByteArray) = mkB WRead from rfl, show [(encR1 (f.rs[i])).1, (encR1 (f.rs[i])).2.1, (encR1 (f.rs[i])).2.2.1] = ofN [(f.rs[i]).1, (f.rs[i]).2.1, (f.rs[i]).2.2] from rfl, line_eq (by decide) hsm]
    simp only [Option.bind_some, mkB_size, app_mk, List.length_append, List.length_singleton]
    rw [lim_le (by simp at hln; omega), wr1 (i := i) (by omega), catR_next hi, List.append_assoc]
    rfl
  · unfold G8_l1_step
    simp only [F]
    rw [decide_eq_false (p := (f.rs.length : Int) < (f.rs.length : Int)) (by omega)]
    rfl
  · unfold G8_l1_fuel
    simp [F]
theorem print_ok {f : Fd} (h : f.Fine) (hsl : SlOk (encS f) (encR f)) : G8 (encS f) (encR f) = some (mkB (file f), (0, ())) := by
  unfold G8
  have hb := h.2.2.2.2.1
  have hb2 := h.2.2.2.2.2.2.1
  rcases given5_eq (encS f) (encR f) (by simp [encR]; omega) with ⟨h1, _⟩ | ⟨_, h1, _⟩ | ⟨_, z, hg⟩
  · exact absurd hsl.1 (by omega)
  · exact absurd hsl h1
  rw [hg]
  have hS := catS_len h.2.2.2.2.2.1 f.ss.length
  rw [List.take_length] at hS
  have hR := catR_len h.2.2.2.2.2.2.2 f.rs.length
  rw [List.take_length] at hR
  have hh := head_len h
  have he := end_len h
  simp only [Option.bind_some, altK, show ((0 : Int) != 0) = false from rfl, cond_false]
  rw [show (⟨#[115, 116, 114, 105, 110, 103]⟩ : ByteArray) = mkB WStr from rfl, show [(encS f).1, (encS f).2.1, (encS f).2.2.1, (encS f).2.2.2.1, (List.length (encS f).2.2.2.2.1 : Int)] = ofN [f.e, f.d, f.w, f.p, f.ss.length] by simp [encS, ofN], line_eq (by decide) h.head]
  simp only [Option.bind_some]
  rw [show (encS f).2.2.2.2.1 = ofN f.ss from rfl, print_l0 h (by rw [List.length_append]; show (headL f).length + 1 ≤ _; omega)]
  simp only [Option.bind_some]
  rw [print_l1 h (by rw [List.length_append, List.length_append]; show (headL f).length + 1 + _ ≤ _; omega)]
  simp only [Option.bind_some]
  rw [show (⟨#[101, 110, 100]⟩ : ByteArray) = mkB WEnd from rfl, show [(List.length (encR f) : Int)] = ofN [f.rs.length] by simp [encR, ofN], line_eq (by decide) (small1 hb2)]
  simp only [Option.bind_some, mkB_size, app_mk, List.length_append, List.length_singleton]
  rw [lim_le (by
    have h1 : (lineB WStr [f.e, f.d, f.w, f.p, f.ss.length]).length ≤ 36 := hh
    have h2 : (lineB WEnd [f.rs.length]).length ≤ 36 := he
    omega), file_eq]
  simp only [cond_true, headL, endL]
  simp
end Go.Proofs.YtibmgbalfhfcdaaGreatDoor.Abs
set_option linter.unusedVariables false
set_option linter.unusedSimpArgs false
set_option maxRecDepth 100000
namespace Go.Proofs.YtibmgbalfhfcdaaGreatDoor.Abs
theorem numbers_ln {word : List UInt8} (h32 : (32 : UInt8) ∉ word) (h10 : (10 : UInt8) ∉ word) {many : Nat} (hm : 1 ≤ many ∧ many ≤ 5) {t : List UInt8} (hs : t.length < 2 ^ 31) :
    (∃ l r ns, t = l ++ 10 :: r ∧ Ln word many l ns ∧ G32 (mkB word) (many : Int) (mkB t, ()) = some (.inr (ofN ns, ((mkB r, ()), ())))) ∨
    ((∀ l r ns, t = l ++ 10 :: r → ¬ Ln word many l ns) ∧ ∃ z, G32 (mkB word) (many : Int) (mkB t, ()) = some (.inl ((), (z, ())))) := by
  rcases numbers_eq h32 hm (rest := mkB t) (by rw [mkB_size]; exact hs) with ⟨l, r, ns, h1, _, h2, h3, h4, h5⟩ | ⟨h1, h2⟩
  · exact .inl ⟨l, r, ns, h1, ⟨h2, h3, h4⟩, h5⟩
  · exact .inr ⟨fun l r ns h h' => h1 l r ns h (by rw [h'.2.2]; exact lineB_no10 h10) h'.1 h'.2.1 h'.2.2, h2⟩
theorem ln_uniq {word : List UInt8} (h32 : (32 : UInt8) ∉ word) (h10 : (10 : UInt8) ∉ word) {many : Nat} {l l' r r' : List UInt8} {ns ns' : List Nat} (h : Ln word many l ns) (h' : Ln word many l' ns') (e : l ++ 10 :: r = l' ++ 10 :: r') : ns = ns' ∧ r = r' := by
  obtain ⟨rfl, rfl⟩ := sep_uniq (by rw [h.2.2]; exact lineB_no10 h10) (by rw [h'.2.2]; exact lineB_no10 h10) e
  exact ⟨h.uniq h32 h', rfl⟩
theorem of1 {l : List Nat} (h : l.length = 1) : ∃ x, l = [x] := by
  match l, h with
  | [x], _ => exact ⟨x, rfl⟩
theorem of3 {l : List Nat} (h : l.length = 3) : ∃ x y z, l = [x, y, z] := by
  match l, h with
  | [x, y, z], _ => exact ⟨x, y, z, rfl⟩
theorem of5 {l : List Nat} (h : l.length = 5) : ∃ a b c d e, l = [a, b, c, d, e] := by
  match l, h with
  | [a, b, c, d, e], _ => exact ⟨a, b, c, d, e, rfl⟩
theorem senS : (32 : UInt8) ∉ WSen ∧ (10 : UInt8) ∉ WSen := by decide
theorem strS : (32 : UInt8) ∉ WStr ∧ (10 : UInt8) ∉ WStr := by decide
theorem readS : (32 : UInt8) ∉ WRead ∧ (10 : UInt8) ∉ WRead := by decide
theorem endS : (32 : UInt8) ∉ WEnd ∧ (10 : UInt8) ∉ WEnd := by decide
theorem ln1 {word : List UInt8} {x : Nat} (h : x < 10000) : Ln word 1 (lineB word [x]) [x] := ⟨rfl, small1 h, rfl⟩
theorem ln3 {word : List UInt8} {r : Nat × Nat × Nat} (h : r.1 < 10000 ∧ r.2.1 < 10000 ∧ r.2.2 < 10000) : Ln word 3 (lineB word [r.1, r.2.1, r.2.2]) [r.1, r.2.1, r.2.2] := ⟨rfl, small3 h, rfl⟩
theorem sens_cons (x : Nat) (ss : List Nat) (r : List UInt8) : cat (sensL (x :: ss)) ++ r = lineB WSen [x] ++ 10 :: (cat (sensL ss) ++ r) := by
  unfold sensL; rw [List.map_cons, cat_cons]; simp
theorem reads_cons (x : Nat × Nat × Nat) (rs : List (Nat × Nat × Nat)) (r : List UInt8) : cat (readsL (x :: rs)) ++ r = lineB WRead [x.1, x.2.1, x.2.2] ++ 10 :: (cat (readsL rs) ++ r) := by
  unfold readsL; rw [List.map_cons, cat_cons]; simp
abbrev rd0 (n i : Nat) (e d w p : Int) (acc : List Int) (t : List UInt8) : (Int × (Int × Unit)) × ((Int × (Int × (Int × (Int × ((List Int) × Unit))))) × ((List E71) × (Int × ((ByteArray × Unit) × Unit)))) :=
  (((n : Int), ((i : Int), ())), ((e, (d, (w, (p, (acc, ()))))), ([], (0, ((mkB t, ()), ())))))
theorem read_l0 {n : Nat} (hn : n < 10000) (e d w p : Int) : ∀ (k i : Nat) (acc : List Int) (t : List UInt8) (fuel : Nat), i + k = n → k < fuel → acc.length ≤ i → t.length < 2 ^ 31 →
    (∃ ss r, ss.length = k ∧ (∀ x ∈ ss, x < 10000) ∧ t = cat (sensL ss) ++ r ∧ iter G10_l0_step fuel (rd0 n i e d w p acc t) = some (1, rd0 n n e d w p (acc ++ ofN ss) r)) ∨
    ((∀ ss r, ss.length = k → (∀ x ∈ ss, x < 10000) → t ≠ cat (sensL ss) ++ r) ∧ ∃ z, iter G10_l0_step fuel (rd0 n i e d w p acc t) = some (0, z))
  | _, _, _, _, 0, _, hf, _, _ => by omega
  | 0, i, acc, t, fuel + 1, hi, hf, ha, ht => by
    obtain rfl : i = n := by omega
    refine .inl ⟨[], t, rfl, by simp, by simp [sensL, cat], iter_out ?_⟩
    unfold G10_l0_step
    simp only [rd0]
    rw [decide_eq_false (p := (i : Int) < (i : Int)) (by omega)]
    simp
  | k + 1, i, acc, t, fuel + 1, hi, hf, ha, ht => by
    have hstep : G10_l0_step (rd0 n i e d w p acc t) = G10_l0_step (rd0 n i e d w p acc t) := rfl
    conv at hstep => rhs; unfold G10_l0_step
    simp only [rd0] at hstep
    rw [decide_eq_true (p := (i : Int) < (n : Int)) (by omega), show (⟨#[115, 101, 110, 115, 111, 114]⟩ : ByteArray) = mkB WSen from rfl] at hstep
    simp only [cond_true] at hstep
    rcases numbers_ln senS.1 senS.2 (many := 1) (by decide) ht with ⟨l, r, ns, e1, e2, e3⟩ | ⟨e1, z, e3⟩
    · have e3' : G32 (mkB WSen) 1 (mkB t, ()) = _ := e3
      rw [e3'] at hstep
      simp only [Option.bind_some, altK] at hstep
      obtain ⟨x, rfl⟩ := of1 e2.1
      have hx : x < 10000 := e2.2.1.2.2 x List.mem_cons_self
      rw [show decide ((0 : Int) < ((ofN [x]).length : Int)) = true from rfl, show decide ((0 : Int) ≤ 0) = true from rfl, show List.getD (ofN [x]) (Int.toNat 0) 0 = (x : Int) from rfl, lim_le (by simp; omega), wr1 (i := i) (by omega)] at hstep
      simp only [Bool.and_self, cond_true] at hstep
      have hlt : r.length < 2 ^ 31 := by rw [e1] at ht; simp at ht; omega
      rcases read_l0 hn e d w p k (i + 1) (acc ++ [(x : Int)]) r fuel (by omega) (by omega) (by simp; omega) hlt with ⟨ss, r', h1, h2, h3, h4⟩ | ⟨h1, z, h4⟩
      · refine .inl ⟨x :: ss, r', by simp [h1], fun y hy => ?_, ?_, (iter_one hstep).trans (h4.trans ?_)⟩
        · rcases List.mem_cons.1 hy with rfl | hy
          · exact hx
          · exact h2 y hy
        · rw [sens_cons, ← h3, e1, e2.2.2]
        · rw [List.append_assoc]; rfl
      · refine .inr ⟨fun ss r' h5 h6 h7 => ?_, z, (iter_one hstep).trans h4⟩
        cases ss with
        | nil => simp at h5
        | cons y ss =>
          rw [sens_cons, e1] at h7
          obtain ⟨_, h8⟩ := ln_uniq senS.1 senS.2 e2 (ln1 (h6 y List.mem_cons_self)) h7
          exact h1 ss r' (by simpa using h5) (fun q hq => h6 q (List.mem_cons_of_mem _ hq)) h8
    · have e3' : G32 (mkB WSen) 1 (mkB t, ()) = _ := e3
      rw [e3'] at hstep
      simp only [Option.bind_some, altK] at hstep
      refine .inr ⟨fun ss r' h5 h6 h7 => ?_, _, iter_out hstep⟩
      cases ss with
      | nil => simp at h5
      | cons y ss =>
        rw [sens_cons] at h7
        exact e1 _ _ _ h7 (ln1 (h6 y List.mem_cons_self))
def nextW (t : List UInt8) : List UInt8 := (spl 32 t).getD 0 []
theorem next_eq {t : List UInt8} (ht : t.length < 2 ^ 31) : G33 (mkB t, ()) = some (mkB (nextW t), ((mkB t, ()), ())) := by
  unfold G33 nextW
  rcases split_at (c := 32) t with h | ⟨a, r, h, e⟩
  · rw [show G64 (mkB t, ()).1 ⟨#[32]⟩ = _ from cut_free (s := mkB t) h, spl_one h]
    rfl
  · rw [show G64 (mkB t, ()).1 ⟨#[32]⟩ = _ from cut_sep (s := mkB t) h e (by rw [mkB_size]; exact ht), e, spl_sep r h]
    rfl
theorem next_line {word : List UInt8} (h32 : (32 : UInt8) ∉ word) {ns : List Nat} (hn : ns ≠ []) (r : List UInt8) : nextW (lineB word ns ++ r) = word := by
  unfold nextW
  rw [lineB_eq hn, List.append_assoc, List.cons_append, spl_sep _ h32]
  rfl
def FineR (rs : List (Nat × Nat × Nat)) : Prop := ∀ r ∈ rs, r.1 < 10000 ∧ r.2.1 < 10000 ∧ r.2.2 < 10000
abbrev rd1 (S : Int × (Int × (Int × (Int × ((List Int) × Unit))))) (acc : List E71) (t : List UInt8) : Unit × ((Int × (Int × (Int × (Int × ((List Int) × Unit))))) × ((List E71) × (Int × ((ByteArray × Unit) × Unit)))) :=
  ((), (S, (acc, (0, ((mkB t, ()), ())))))
theorem read_l1 (S : Int × (Int × (Int × (Int × ((List Int) × Unit))))) : ∀ (k : Nat) (acc : List E71) (t : List UInt8) (fuel : Nat), t.length ≤ k → k < fuel → acc.length + k ≤ 10 ^ 6 →
    (∃ rs r, FineR rs ∧ t = cat (readsL rs) ++ r ∧ nextW r ≠ WRead ∧ iter G10_l1_step fuel (rd1 S acc t) = some (1, rd1 S (acc ++ rs.map encR1) r)) ∨
    ((∀ rs r, FineR rs → t = cat (readsL rs) ++ r → nextW r = WRead) ∧ ∃ z, iter G10_l1_step fuel (rd1 S acc t) = some (0, z))
  | _, _, _, 0, _, hf, _ => by omega
  | k, acc, t, fuel + 1, ht, hf, ha => by
    have ht31 : t.length < 2 ^ 31 := by omega
    have hstep : G10_l1_step (rd1 S acc t) = G10_l1_step (rd1 S acc t) := rfl
    conv at hstep => rhs; unfold G10_l1_step
    simp only [rd1] at hstep
    rw [next_eq ht31] at hstep
    simp only [Option.bind_some, show (⟨#[114, 101, 97, 100]⟩ : ByteArray) = mkB WRead from rfl] at hstep
    rw [beq_bl, bl_mk, bl_mk] at hstep
    by_cases hnx : nextW t = WRead
    case neg =>
      rw [decide_eq_false hnx] at hstep
      exact .inl ⟨[], t, (fun r hr => absurd hr (by simp)), by simp [readsL, cat], hnx, (iter_out hstep).trans (by simp [rd1])⟩
    rw [decide_eq_true hnx] at hstep
    simp only [cond_true] at hstep
    rcases numbers_ln readS.1 readS.2 (many := 3) (by decide) ht31 with ⟨l, r, ns, e1, e2, e3⟩ | ⟨e1, z, e3⟩
    · have e3' : G32 (mkB WRead) 3 (mkB t, ()) = _ := e3
      rw [e3'] at hstep
      simp only [Option.bind_some, altK] at hstep
      obtain ⟨x, y, z, rfl⟩ := of3 e2.1
      have hsm := e2.2.1.2.2
      have hxyz : x < 10000 ∧ y < 10000 ∧ z < 10000 := ⟨hsm x (by simp), hsm y (by simp), hsm z (by simp)⟩
      have hrl : r.length + 1 ≤ t.length := by rw [e1]; simp
      rw [show decide ((0 : Int) < ((ofN [x, y, z]).length : Int)) = true from rfl, show decide ((1 : Int) < ((ofN [x, y, z]).length : Int)) = true from rfl, show decide ((2 : Int) < ((ofN [x, y, z]).length : Int)) = true from rfl, show decide ((0 : Int) ≤ 0) = true from rfl, show decide ((0 : Int) ≤ 1) = true from rfl, show decide ((0 : Int) ≤ 2) = true from rfl,
        show List.getD (ofN [x, y, z]) (Int.toNat 0) 0 = (x : Int) from rfl, show List.getD (ofN [x, y, z]) (Int.toNat 1) 0 = (y : Int) from rfl, show List.getD (ofN [x, y, z]) (Int.toNat 2) 0 = (z : Int) from rfl, lim_le (by simp; omega)] at hstep
      simp only [Bool.and_self, cond_true] at hstep
      rcases read_l1 S (k - 1) (acc ++ [encR1 (x, y, z)]) r fuel (by omega) (by omega) (by simp; omega) with ⟨rs, r', h1, h2, h3, h4⟩ | ⟨h1, z', h4⟩
      · refine .inl ⟨(x, y, z) :: rs, r', fun q hq => ?_, ?_, h3, (iter_one hstep).trans (h4.trans ?_)⟩
        · rcases List.mem_cons.1 hq with rfl | hq
          · exact hxyz
          · exact h1 q hq
        · rw [reads_cons, ← h2, e1, e2.2.2]
        · rw [List.append_assoc]; rfl
      · refine .inr ⟨fun rs r' h5 h6 => ?_, z', (iter_one hstep).trans h4⟩
        cases rs with
        | nil =>
          have : r' = t := by rw [h6]; simp [readsL, cat]
          rw [this]; exact hnx
        | cons q rs =>
          rw [reads_cons, e1] at h6
          obtain ⟨_, h8⟩ := ln_uniq readS.1 readS.2 e2 (ln3 (h5 q List.mem_cons_self)) h6
          exact h1 rs r' (fun x hx => h5 x (List.mem_cons_of_mem _ hx)) h8
    · have e3' : G32 (mkB WRead) 3 (mkB t, ()) = _ := e3
      rw [e3'] at hstep
      simp only [Option.bind_some, altK] at hstep
      refine .inr ⟨fun rs r' h5 h6 => ?_, _, iter_out hstep⟩
      cases rs with
      | nil =>
        have : r' = t := by rw [h6]; simp [readsL, cat]
        rw [this]; exact hnx
      | cons q rs =>
        rw [reads_cons] at h6
        exact absurd (ln3 (h5 q List.mem_cons_self)) (e1 _ _ _ h6)
theorem reads_uniq : ∀ {rs rs' : List (Nat × Nat × Nat)} {r r' : List UInt8}, FineR rs → FineR rs' → nextW r ≠ WRead → nextW r' ≠ WRead → cat (readsL rs) ++ r = cat (readsL rs') ++ r' → rs = rs' ∧ r = r'
  | [], [], r, r', _, _, _, _, h => ⟨rfl, by simpa [readsL, cat] using h⟩
  | [], q :: rs', r, r', _, _, h1, _, h => by
    rw [reads_cons, show cat (readsL []) ++ r = r by simp [readsL, cat]] at h
    rw [h, next_line readS.1 (by simp)] at h1
    exact absurd rfl h1
  | q :: rs, [], r, r', _, _, _, h1, h => by
    rw [reads_cons, show cat (readsL []) ++ r' = r' by simp [readsL, cat]] at h
    rw [← h, next_line readS.1 (by simp)] at h1
    exact absurd rfl h1
  | q :: rs, q' :: rs', r, r', h1, h2, h3, h4, h => by
    rw [reads_cons, reads_cons] at h
    obtain ⟨h5, h6⟩ := ln_uniq readS.1 readS.2 (ln3 (h1 q List.mem_cons_self)) (ln3 (h2 q' List.mem_cons_self)) h
    obtain ⟨h7, h8⟩ := reads_uniq (fun x hx => h1 x (List.mem_cons_of_mem _ hx)) (fun x hx => h2 x (List.mem_cons_of_mem _ hx)) h3 h4 h6
    simp only [List.cons.injEq, and_true] at h5
    refine ⟨?_, h8⟩
    rw [h7]
    congr 1
    exact Prod.ext h5.1 (Prod.ext h5.2.1 h5.2.2)
abbrev zS : E23 := (0, (0, (0, (0, ([], ())))))
open Classical in
noncomputable def readE (f : Fd) : E23 × ((List E71) × (Int × Unit)) := if SlOk (encS f) (encR f) then (encS f, (encR f, (0, ()))) else (zS, ([], ((if 24 < f.rs.length then 3 else 2), ())))
theorem readfile_eq {t : List UInt8} (ht : t.length ≤ 5000) :
    (∃ f : Fd, f.Fine ∧ t = file f ∧ G10 (mkB t) = some (readE f)) ∨ ((∀ f : Fd, f.Fine → t ≠ file f) ∧ G10 (mkB t) = some (zS, ([], (4, ())))) := by
  unfold G10
  rw [decide_eq_false (p := (ByteArray.size (mkB t) : Int) > 5000) (by rw [mkB_size]; omega), cond_false, show (⟨#[115, 116, 114, 105, 110, 103]⟩ : ByteArray) = mkB WStr from rfl, show (⟨#[101, 110, 100]⟩ : ByteArray) = mkB WEnd from rfl]
  have hhead : ∀ f : Fd, f.Fine → Ln WStr 5 (headL f) [f.e, f.d, f.w, f.p, f.ss.length] := fun f hf => ⟨rfl, hf.head, rfl⟩
  rcases numbers_ln strS.1 strS.2 (many := 5) (by decide) (t := t) (by omega) with ⟨l, r, ns, e1, e2, e3⟩ | ⟨e1, z, e3⟩
  case inr =>
    have e3' : G32 (mkB WStr) 5 (mkB t, ()) = _ := e3
    rw [e3']
    refine .inr ⟨fun f hf h => ?_, rfl⟩
    rw [file_eq] at h
    exact e1 _ _ _ h (hhead f hf)
  have e3' : G32 (mkB WStr) 5 (mkB t, ()) = _ := e3
  rw [e3']
  obtain ⟨a, b, c, d, n, rfl⟩ := of5 e2.1
  have hsm := e2.2.1.2.2
  have hnum : a < 10000 ∧ b < 10000 ∧ c < 10000 ∧ d < 10000 ∧ n < 10000 := ⟨hsm a (by simp), hsm b (by simp), hsm c (by simp), hsm d (by simp), hsm n (by simp)⟩
  simp only [Option.bind_some, altK]
  rw [show decide ((0 : Int) < ((ofN [a, b, c, d, n]).length : Int)) = true from rfl, show decide ((1 : Int) < ((ofN [a, b, c, d, n]).length : Int)) = true from rfl, show decide ((2 : Int) < ((ofN [a, b, c, d, n]).length : Int)) = true from rfl, show decide ((3 : Int) < ((ofN [a, b, c, d, n]).length : Int)) = true from rfl, show decide ((4 : Int) < ((ofN [a, b, c, d, n]).length : Int)) = true from rfl,
    show List.getD (ofN [a, b, c, d, n]) (Int.toNat 0) 0 = (a : Int) from rfl, show List.getD (ofN [a, b, c, d, n]) (Int.toNat 1) 0 = (b : Int) from rfl, show List.getD (ofN [a, b, c, d, n]) (Int.toNat 2) 0 = (c : Int) from rfl, show List.getD (ofN [a, b, c, d, n]) (Int.toNat 3) 0 = (d : Int) from rfl, show List.getD (ofN [a, b, c, d, n]) (Int.toNat 4) 0 = (n : Int) from rfl]
  simp only [show decide ((0 : Int) ≤ 0) = true from rfl, show decide ((0 : Int) ≤ 1) = true from rfl, show decide ((0 : Int) ≤ 2) = true from rfl, show decide ((0 : Int) ≤ 3) = true from rfl, show decide ((0 : Int) ≤ 4) = true from rfl, Bool.and_self, cond_true]
  have inHead : ∀ f : Fd, f.Fine → t = file f → a = f.e ∧ b = f.d ∧ c = f.w ∧ d = f.p ∧ n = f.ss.length ∧ r = cat (sensL f.ss) ++ (cat (readsL f.rs) ++ (endL f ++ [10])) := fun f hf h => by
    rw [file_eq, e1] at h
    obtain ⟨h1, h2⟩ := ln_uniq strS.1 strS.2 e2 (hhead f hf) h
    simp only [List.cons.injEq, and_true] at h1
    exact ⟨h1.1, h1.2.1, h1.2.2.1, h1.2.2.2.1, h1.2.2.2.2, h2⟩
  have hrl : r.length + 1 ≤ t.length := by rw [e1]; simp
  unfold G10_l0_run
  rw [show (((n : Int), ((0 : Int), ())), (((a : Int), ((b : Int), ((c : Int), ((d : Int), (([] : List Int), ()))))), (([] : List E71), ((0 : Int), ((mkB r, ()), ()))))) = rd0 n 0 a b c d [] r from rfl, show G10_l0_fuel (rd0 n 0 a b c d [] r) = n + 1 by unfold G10_l0_fuel rd0; simp only; omega]
  rcases read_l0 (n := n) (by omega) (a : Int) b c d n 0 [] r (n + 1) (by omega) (by omega) (by simp) (by omega) with ⟨ss, r1, s1, s2, s3, s4⟩ | ⟨s1, z, s4⟩
  case inr =>
    rw [s4]
    refine .inr ⟨fun f hf h => ?_, rfl⟩
    obtain ⟨_, _, _, _, h5, h6⟩ := inHead f hf h
    exact s1 f.ss _ h5.symm hf.2.2.2.2.2.1 h6
  rw [s4]
  simp only [Option.bind_some, natK, rd0, List.nil_append]
  unfold G10_l1_run
  rw [show (((), (((a : Int), ((b : Int), ((c : Int), ((d : Int), (ofN ss, ()))))), (([] : List E71), ((0 : Int), ((mkB r1, ()), ()))))) : Unit × _) = rd1 ((a : Int), ((b : Int), ((c : Int), ((d : Int), (ofN ss, ()))))) [] r1 from rfl, show ∀ x, G10_l1_fuel x = 100000 from fun _ => rfl]
  have hr1 : r1.length ≤ 5000 := by rw [s3] at hrl; simp at hrl; omega
  have inSens : ∀ f : Fd, f.Fine → t = file f → ss = f.ss ∧ r1 = cat (readsL f.rs) ++ (endL f ++ [10]) := fun f hf h => by
    obtain ⟨_, _, _, _, h5, h6⟩ := inHead f hf h
    have su : ∀ (xs ys : List Nat) (u v : List UInt8), xs.length = ys.length → (∀ x ∈ xs, x < 10000) → (∀ x ∈ ys, x < 10000) → cat (sensL xs) ++ u = cat (sensL ys) ++ v → xs = ys ∧ u = v := by
      intro xs
      induction xs with
      | nil =>
        intro ys u v h1 _ _ h
        cases ys with
        | nil => exact ⟨rfl, by simpa [sensL, cat] using h⟩
        | cons y ys => simp at h1
      | cons x xs ih =>
        intro ys u v h1 h2 h3 h
        cases ys with
        | nil => simp at h1
        | cons y ys =>
          rw [sens_cons, sens_cons] at h
          obtain ⟨h4, h5⟩ := ln_uniq senS.1 senS.2 (ln1 (h2 x List.mem_cons_self)) (ln1 (h3 y List.mem_cons_self)) h
          obtain ⟨h6, h7⟩ := ih ys u v (by simpa using h1) (fun q hq => h2 q (List.mem_cons_of_mem _ hq)) (fun q hq => h3 q (List.mem_cons_of_mem _ hq)) h5
          simp only [List.cons.injEq, and_true] at h4
          exact ⟨by rw [h4, h6], h7⟩
    exact su ss f.ss r1 _ (by omega) s2 hf.2.2.2.2.2.1 (s3.symm.trans h6)
  rcases read_l1 ((a : Int), ((b : Int), ((c : Int), ((d : Int), (ofN ss, ()))))) 5000 [] r1 100000 hr1 (by decide) (by decide) with ⟨rs, r2, q1, q2, q3, q4⟩ | ⟨q1, z, q4⟩
  case inr =>
    rw [q4]
    refine .inr ⟨fun f hf h => ?_, rfl⟩
    obtain ⟨_, h6⟩ := inSens f hf h
    have := q1 f.rs _ hf.2.2.2.2.2.2.2 h6
    rw [endL, next_line endS.1 (by simp)] at this
    revert this; decide
  rw [q4]
  simp only [Option.bind_some, natK, rd1, List.nil_append]
  have hr2 : r2.length ≤ 5000 := by rw [q2] at hr1; simp at hr1; omega
  have inReads : ∀ f : Fd, f.Fine → t = file f → rs = f.rs ∧ r2 = endL f ++ [10] := fun f hf h => by
    obtain ⟨_, h6⟩ := inSens f hf h
    refine reads_uniq q1 hf.2.2.2.2.2.2.2 q3 ?_ (q2.symm.trans h6)
    rw [endL, next_line endS.1 (by simp)]
    decide
  have hrsl : rs.length ≤ 5000 := by
    have : ∀ (xs : List (Nat × Nat × Nat)), xs.length ≤ (cat (readsL xs)).length := by
      intro xs
      induction xs with
      | nil => simp
      | cons x xs ih =>
        have := reads_cons x xs []
        rw [List.append_nil, List.append_nil] at this
        rw [this]; simp; omega
    have h1 := this rs
    rw [q2] at hr1; simp at hr1; omega
  rcases numbers_ln endS.1 endS.2 (many := 1) (by decide) (t := r2) (by omega) with ⟨l2, r3, ns2, f1, f2, f3⟩ | ⟨f1, z, f3⟩
  case inr =>
    have f3' : G32 (mkB WEnd) 1 (mkB r2, ()) = _ := f3
    rw [f3']
    refine .inr ⟨fun f hf h => ?_, rfl⟩
    obtain ⟨_, h6⟩ := inReads f hf h
    exact f1 _ _ _ h6 (ln1 hf.2.2.2.2.2.2.1)
  have f3' : G32 (mkB WEnd) 1 (mkB r2, ()) = _ := f3
  obtain ⟨x, rfl⟩ := of1 f2.1
  have hx : x < 10000 := f2.2.1.2.2 x List.mem_cons_self
  have inEnd : ∀ f : Fd, f.Fine → t = file f → x = rs.length ∧ r3 = [] := fun f hf h => by
    obtain ⟨h5, h6⟩ := inReads f hf h
    obtain ⟨h7, h8⟩ := ln_uniq endS.1 endS.2 f2 (ln1 hf.2.2.2.2.2.2.1) (f1.symm.trans h6)
    simp only [List.cons.injEq, and_true] at h7
    exact ⟨by rw [h7, h5], h8⟩
  rw [f3']
  simp only [Option.bind_some]
  rw [show decide ((0 : Int) < ((ofN [x]).length : Int)) = true from rfl, show List.getD (ofN [x]) (Int.toNat 0) 0 = (x : Int) from rfl, List.length_map]
  simp only [Bool.and_self, cond_true]
  by_cases hxl : x = rs.length
  case neg =>
    rw [show ((x : Int) != (rs.length : Int)) = true from bne_iff_ne.2 (by omega)]
    exact .inr ⟨fun f hf h => hxl (inEnd f hf h).1, rfl⟩
  rw [show ((x : Int) != (rs.length : Int)) = false by rw [hxl]; simp, cond_false, beq_bl, bl_mk, show bl (⟨#[]⟩ : ByteArray) = [] from rfl]
  by_cases hr3 : r3 = []
  case neg =>
    rw [decide_eq_false hr3]
    exact .inr ⟨fun f hf h => hr3 (inEnd f hf h).2, rfl⟩
  rw [decide_eq_true hr3]
  simp only [Bool.not_true, cond_false]
  let f : Fd := ⟨a, b, c, d, ss, rs⟩
  have hf : f.Fine := ⟨hnum.1, hnum.2.1, hnum.2.2.1, hnum.2.2.2.1, by show ss.length < _; omega, s2, by show rs.length < _; omega, q1⟩
  have hfile : t = file f := by
    rw [file_eq, e1, s3, q2, f1, hr3, e2.2.2, f2.2.2]
    show _ = lineB WStr [a, b, c, d, ss.length] ++ _
    rw [s1, hxl]
    rfl
  refine .inl ⟨f, hf, hfile, ?_⟩
  rw [given6_eq]
  show Option.bind (G26_v5 (encS f) (encR f)) _ = _
  unfold readE
  rcases given5_eq (encS f) (encR f) (by simp [encR]; show rs.length < _; omega) with ⟨g1, g2⟩ | ⟨g0, g1, g2⟩ | ⟨g1, z, g2⟩
  · rw [g2, if_neg (fun h => by have := h.1; omega), if_pos (by simpa [encR] using g1)]; rfl
  · rw [g2, if_neg g1, if_neg (by simp [encR] at g0; omega)]; rfl
  · rw [g2, if_pos g1]; rfl
end Go.Proofs.YtibmgbalfhfcdaaGreatDoor.Abs
set_option linter.unusedVariables false
set_option linter.unusedSimpArgs false
set_option maxRecDepth 100000
namespace Go.Proofs.YtibmgbalfhfcdaaGreatDoor.Abs
open Classical
theorem spl_cat : ∀ {ls : List (List UInt8)}, (∀ l ∈ ls, (10 : UInt8) ∉ l) → spl 10 (cat ls) = ls ++ [[]]
  | [], _ => by simp [cat, spl]
  | l :: ls, h => by
    rw [cat_cons, spl_sep _ (h l List.mem_cons_self), spl_cat fun x hx => h x (List.mem_cons_of_mem _ hx)]; rfl
theorem lines_no10 (f : Fd) : ∀ l ∈ linesL f, (10 : UInt8) ∉ l := fun l hl => by
  unfold linesL at hl
  rcases List.mem_cons.1 hl with rfl | hl
  · exact lineB_no10 strS.2
  rcases List.mem_append.1 hl with hl | hl
  · obtain ⟨x, _, rfl⟩ := List.mem_map.1 hl
    exact lineB_no10 senS.2
  rcases List.mem_append.1 hl with hl | hl
  · obtain ⟨x, _, rfl⟩ := List.mem_map.1 hl
    exact lineB_no10 readS.2
  · rw [List.mem_singleton] at hl
    subst hl
    exact lineB_no10 endS.2
end Go.Proofs.YtibmgbalfhfcdaaGreatDoor.Abs
set_option linter.unusedVariables false
set_option linter.unusedSimpArgs false
set_option maxRecDepth 100000
namespace Go.Proofs.YtibmgbalfhfcdaaGreatDoor.Abs
open Classical
theorem toFd {s : E23} {l : List E71} (h : SlOk s l) : ∃ f : Fd, f.Fine ∧ s = encS f ∧ l = encR f ∧ f.ss.length ≤ 6 ∧ f.rs.length ≤ 24 := by
  obtain ⟨e, d, w, p, ss, u⟩ := s
  obtain ⟨hl, hs, hr⟩ := h
  have he := hs.err; have hd := hs.drift; have hw := hs.warm; have hp := hs.depths; have hlen := hs.len; have hat := hs.at_
  simp only at he hd hw hp hlen hat
  have l1 : ss = ofN (ss.map Int.toNat) := by
    rw [ofN, List.map_map]
    conv => lhs; rw [← List.map_id ss]
    refine List.map_congr_left fun x hx => ?_
    have := (hat x hx).1
    show x = Int.ofNat x.toNat
    simp; omega
  have l2 : l = (l.map fun r : E71 => (r.1.toNat, r.2.1.toNat, r.2.2.1.toNat)).map encR1 := by
    rw [List.map_map]
    conv => lhs; rw [← List.map_id l]
    refine List.map_congr_left fun x hx => ?_
    have hx := hr x hx
    obtain ⟨a, b, c, u⟩ := x
    unfold RdOk at hx
    simp only at hx
    show (a, (b, (c, u))) = encR1 (a.toNat, b.toNat, c.toNat)
    unfold encR1
    simp only [Prod.mk.injEq, and_true]
    omega
  refine ⟨⟨e.toNat, d.toNat, w.toNat, p.toNat, ss.map Int.toNat, l.map fun r : E71 => (r.1.toNat, r.2.1.toNat, r.2.2.1.toNat)⟩, ⟨by show e.toNat < _; omega, by show d.toNat < _; omega, by show w.toNat < _; omega, by show p.toNat < _; omega, by show (ss.map _).length < _; rw [List.length_map]; omega, fun x hx => ?_, by show (l.map _).length < _; rw [List.length_map]; omega, fun r hx => ?_⟩, ?_, l2, by show (ss.map _).length ≤ _; rw [List.length_map]; omega, by show (l.map _).length ≤ _; rw [List.length_map]; omega⟩
  · obtain ⟨y, hy, rfl⟩ := List.mem_map.1 hx
    have := hat y hy
    omega
  · obtain ⟨y, hy, rfl⟩ := List.mem_map.1 hx
    have hx := hr y hy
    unfold RdOk at hx
    simp only at hx ⊢
    omega
  · unfold encS
    show (e, (d, (w, (p, (ss, u))))) = ((e.toNat : Int), ((d.toNat : Int), ((w.toNat : Int), ((p.toNat : Int), (ofN (ss.map Int.toNat), ())))))
    rw [← l1]
    simp only [Prod.mk.injEq, and_true, true_and]
    omega
theorem file_len {f : Fd} (h : f.Fine) (h1 : f.ss.length ≤ 6) (h2 : f.rs.length ≤ 24) : (file f).length ≤ 5000 := by
  have hS := catS_len h.2.2.2.2.2.1 f.ss.length
  rw [List.take_length] at hS
  have hR := catR_len h.2.2.2.2.2.2.2 f.rs.length
  rw [List.take_length] at hR
  have hh := head_len h
  have he := end_len h
  rw [file_eq]
  simp only [List.length_append, List.length_cons, List.length_nil]
  omega
theorem mod23 : ∀ a, a < 21 → 1 ≤ a → ∀ x, x < 10 → ∀ y, y < 10 → (a * x) % 23 = (a * y) % 23 → x = y := by decide
theorem line_of {f : Fd} (hf : f.Fine) {m : List UInt8} (h : m ∈ linesL f) : ∃ word ns, (word = WStr ∨ word = WSen ∨ word = WRead ∨ word = WEnd) ∧ Small ns ∧ m = lineB word ns := by
  unfold linesL at h
  rcases List.mem_cons.1 h with rfl | h
  · exact ⟨_, _, .inl rfl, hf.head, rfl⟩
  rcases List.mem_append.1 h with h | h
  · obtain ⟨x, hx, rfl⟩ := List.mem_map.1 h
    exact ⟨_, _, .inr (.inl rfl), small1 (hf.2.2.2.2.2.1 x hx), rfl⟩
  rcases List.mem_append.1 h with h | h
  · obtain ⟨x, hx, rfl⟩ := List.mem_map.1 h
    exact ⟨_, _, .inr (.inr (.inl rfl)), small3 (hf.2.2.2.2.2.2.2 x hx), rfl⟩
  · rw [List.mem_singleton] at h
    subst h
    exact ⟨_, _, .inr (.inr (.inr rfl)), small1 hf.2.2.2.2.2.2.1, rfl⟩
theorem words_nodg {word : List UInt8} (h : word = WStr ∨ word = WSen ∨ word = WRead ∨ word = WEnd) : (∀ b ∈ word, ¬ isDg b) ∧ (32 : UInt8) ∉ word := by
  rcases h with rfl | rfl | rfl | rfl <;> decide
theorem in_line {C D : List (List UInt8)} {k : List UInt8} {b : UInt8} (hb : isDg b) (hk : b ∈ k) {word : List UInt8} {ns : List Nat} (hw : ∀ b ∈ word, ¬ isDg b) (h : word :: (dcs ns ++ [[chkC (dcs ns)]]) = C ++ [k] ++ D) :
    ∃ C' D', C = word :: C' ∧ D = D' ++ [[chkC (dcs ns)]] ∧ dcs ns = C' ++ [k] ++ D' := by
  cases C with
  | nil =>
    simp only [List.nil_append, List.singleton_append, List.cons.injEq] at h
    rw [← h.1] at hk
    exact absurd hb (hw b hk)
  | cons c C' =>
    simp only [List.cons_append, List.append_assoc, List.cons.injEq] at h
    obtain ⟨rfl, h⟩ := h
    rcases List.eq_nil_or_concat D with rfl | ⟨D', d, rfl⟩
    · rw [List.append_nil] at h
      have h2 := List.append_inj_right' h (by simp)
      rw [List.cons.injEq] at h2
      rw [← h2.1, List.mem_singleton] at hk
      have h3 := chkC_nat (dcs ns)
      rw [← hk] at h3
      unfold isDg at hb
      omega
    · rw [List.concat_eq_append] at h ⊢
      have h' : dcs ns ++ [[chkC (dcs ns)]] = (C' ++ [k] ++ D') ++ [d] := by rw [h]; simp
      have h1 := List.append_inj' h' rfl
      have h2 := h1.2
      rw [List.cons.injEq] at h2
      exact ⟨C', D', rfl, by rw [h2.1], h1.1⟩
theorem flat_at {C D : List (List UInt8)} {k1 k2 : List UInt8} {b : UInt8} : (C ++ [k1 ++ b :: k2] ++ D).flatten = (C.flatten ++ k1) ++ b :: (k2 ++ D.flatten) := by simp
theorem chk_at {a : List UInt8} {b : UInt8} {r : List UInt8} : wsum 1 (a ++ b :: r) = wsum 1 a + ((1 + a.length) * (b.toNat - 48) + wsum (1 + a.length + 1) r) := by
  rw [wsum_app]; rfl
theorem spoilt {f g : Fd} (hf : f.Fine) (hg : g.Fine) {u v : List UInt8} {p q : UInt8} (hp : isDg p) (hq : isDg q) (h1 : file f = u ++ p :: v) (h2 : file g = u ++ q :: v) : p = q := by
  have ne10 : ∀ b : UInt8, isDg b → b ≠ 10 ∧ b ≠ 32 := fun b hb => by
    unfold isDg at hb
    constructor <;> (intro h; subst h; revert hb; decide)
  obtain ⟨A, m1, m2, B, hm⟩ := spl_mid (ne10 p hp).1 v u
  have s1 := hm p (ne10 p hp).1
  have s2 := hm q (ne10 q hq).1
  rw [← h1, show spl 10 (file f) = linesL f ++ [[]] from spl_cat (lines_no10 f)] at s1
  rw [← h2, show spl 10 (file g) = linesL g ++ [[]] from spl_cat (lines_no10 g)] at s2
  have memf : ∀ {f : Fd} {b : UInt8}, linesL f ++ [[]] = A ++ [m1 ++ b :: m2] ++ B → m1 ++ b :: m2 ∈ linesL f := fun {f b} s => by
    have : m1 ++ b :: m2 ∈ linesL f ++ [[]] := by rw [s]; simp
    rcases List.mem_append.1 this with h | h
    · exact h
    · rw [List.mem_singleton] at h; simp at h
  obtain ⟨wf, nf, w1, w2, w3⟩ := line_of hf (memf s1)
  obtain ⟨wg, ng, x1, x2, x3⟩ := line_of hg (memf s2)
  obtain ⟨C, k1, k2, D, hc⟩ := spl_mid (ne10 p hp).2 m2 m1
  have c1 := hc p (ne10 p hp).2
  have c2 := hc q (ne10 q hq).2
  rw [w3, spl_lineB (words_nodg w1).2] at c1
  rw [x3, spl_lineB (words_nodg x1).2] at c2
  obtain ⟨C1, D1, a1, a2, a3⟩ := in_line hp (by simp) (words_nodg w1).1 c1
  obtain ⟨C2, D2, b1, b2, b3⟩ := in_line hq (by simp) (words_nodg x1).1 c2
  rw [a1, List.cons.injEq] at b1
  obtain ⟨_, rfl⟩ := b1
  rw [a2] at b2
  have b2' := List.append_inj' b2 rfl
  obtain ⟨rfl, b5⟩ := b2'
  simp only [List.cons.injEq, and_true] at b5
  have e1 := chkC_nat (dcs nf)
  have e2 := chkC_nat (dcs ng)
  rw [← b5, e1, a3, b3, flat_at, flat_at, chk_at, chk_at] at e2
  have hfl := w2.flat
  rw [a3, flat_at] at hfl
  simp only [List.length_append, List.length_cons] at hfl
  have hlen : (C1.flatten ++ k1).length < 20 := by rw [List.length_append]; omega
  unfold isDg at hp hq
  have h3 := mod23 (1 + (C1.flatten ++ k1).length) (by omega) (by omega) (p.toNat - 48) (by omega) (q.toNat - 48) (by omega) (by
    generalize (1 + (C1.flatten ++ k1).length) * (p.toNat - 48) = X at *
    generalize (1 + (C1.flatten ++ k1).length) * (q.toNat - 48) = Y at *
    omega)
  exact UInt8.toNat_inj.1 (by omega)
end Go.Proofs.YtibmgbalfhfcdaaGreatDoor.Abs
set_option linter.unusedVariables false
set_option linter.unusedSimpArgs false
set_option maxRecDepth 100000
namespace Go.Proofs.YtibmgbalfhfcdaaGreatDoor.Abs
theorem same_self (l : List Int) (h : l.length < 2 ^ 62) : G36 l l = some true := by
  unfold G36
  rw [show ((l.length : Int) != (l.length : Int)) = false by simp, cond_false]
  unfold G36_l0_run
  rw [show iter G36_l0_step (G36_l0_fuel ((l, (l, (false, (0, ())))), ())) ((l, (l, (false, ((0 : Int), ())))), ()) = some (1, ((l, (l, (false, ((l.length : Int), ())))), ())) from
    iter_run (n := l.length) (fun i => ((l, (l, (false, ((i : Int), ())))), ())) _ (fun i hi => by
      unfold G36_l0_step
      simp only [lt_int hi, ge0, Bool.and_self, cond_true, getD_toNat, wr1 (i := i) (by omega)]
      rw [show (l.getD i 0 != l.getD i 0) = false by simp, cond_false]) (by
      unfold G36_l0_step
      simp only [nlt_int, cond_false]) (by unfold G36_l0_fuel; simp)]
  rfl
theorem sameS_self (s : E23) (h : s.2.2.2.2.1.length < 2 ^ 62) : G12 s s = some true := by
  unfold G12
  rw [same_self _ h]
  simp
theorem sameZ : G12 zS (0, (0, (0, (0, ([], ()))))) = some true := sameS_self zS (by decide)
theorem bl_spoil {x : ByteArray} {i : Nat} (d : Nat) (hd : d < 10) : bl (strI (List.set (bytesI x) i (spoilB (d : Int)))) = (bl x).set i (UInt8.ofNat (48 + d)) := by
  have h8 : spoilB (d : Int) = ((48 + d : Nat) : Int) := w8_dg hd
  rw [h8]
  unfold strI bytesI
  show List.map (fun n : Int => UInt8.ofNat n.toNat) _ = _
  rw [List.map_set, List.map_map]
  have h1 : ((fun n : Int => UInt8.ofNat n.toNat) ∘ fun b : UInt8 => ((b.toNat : Nat) : Int)) = id := by
    funext b
    simp [Function.comp]
  rw [h1, List.map_id]
  rfl
theorem set_app (l : List UInt8) (i : Nat) (h : i < l.length) (q : UInt8) : l.set i q = l.take i ++ q :: l.drop (i + 1) := by
  rw [List.set_eq_take_append_cons_drop, if_pos h]
theorem self_app (l : List UInt8) (i : Nat) (h : i < l.length) : l = l.take i ++ l[i] :: l.drop (i + 1) := by
  conv => lhs; rw [← List.take_append_drop i l, List.drop_eq_getElem_cons h]
end Go.Proofs.YtibmgbalfhfcdaaGreatDoor.Abs
set_option maxRecDepth 1000000
namespace Go.Proofs.YtibmgbalfhfcdaaGreatDoor.Abs
theorem known_ok : G7 = some true := by kernel_rfl
end Go.Proofs.YtibmgbalfhfcdaaGreatDoor.Abs
