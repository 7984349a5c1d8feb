import Derived.Test.YtbidmbjkjpdgdaaGreatDoorX1
import Derived.IntWalk
import Derived.Lib.Split
import Derived.Lib.ItoaMem
import Derived.Test.YtbidmbjkjpdgdaaGreatDoorF2
set_option linter.unusedVariables false
set_option linter.unusedSimpArgs false
set_option maxRecDepth 100000
namespace Go.Proofs.YtbidmbjkjpdgdaaGreatDoor.Abs
theorem wr {n : Int} (h : -9223372036854775808 ≤ n) (h' : n ≤ 9223372036854775807) : IntKind.wrap .i64 n = n := by rw [IntKind.wrap_i64]; omega
theorem wr1 {i : Nat} (h : i < 2 ^ 62) : IntKind.wrap .i64 ((i : Int) + 1) = ((i + 1 : Nat) : Int) := by rw [wr (by omega) (by omega)]; omega
theorem iter_one {α : Type} {step : α → Option (Nat × α)} {fuel : Nat} {s s' : α} (h : step s = some (0, s')) : iter step (fuel + 1) s = iter step fuel s' := by
  simp only [iter, h, Option.bind_some]
theorem iter_out {α : Type} {step : α → Option (Nat × α)} {fuel n : Nat} {s s' : α} (h : step s = some (n + 1, s')) : iter step (fuel + 1) s = some (n, s') := by
  simp only [iter, h, Option.bind_some]
theorem iter_fn' {α : Type} {step : α → Option (Nat × α)} {n k1 k2 : Nat} {bad : Nat → Bool} (F X : Nat → α) (Y : α) (hgo : ∀ i, i < n → step (F i) = some (bif bad i then (k1 + 1, X i) else (0, F (i + 1)))) (hend : step (F n) = some (k2 + 1, Y)) :
    ∀ (m i fuel : Nat), i + m = n → m < fuel → (∃ j, i ≤ j ∧ j < n ∧ bad j = true ∧ (∀ l, i ≤ l → l < j → bad l = false) ∧ iter step fuel (F i) = some (k1, X j)) ∨ ((∀ l, i ≤ l → l < n → bad l = false) ∧ iter step fuel (F i) = some (k2, Y))
  | _, _, 0, _, hf => by omega
  | 0, i, fuel + 1, hi, hf => by
    obtain rfl : i = n := by omega
    exact .inr ⟨fun l h h' => by omega, iter_out hend⟩
  | m + 1, i, fuel + 1, hi, hf => by
    have h := hgo i (by omega)
    cases hb : bad i with
    | true =>
      rw [hb] at h
      exact .inl ⟨i, Nat.le_refl _, by omega, hb, fun l h h' => by omega, iter_out h⟩
    | false =>
      rw [hb] at h
      rw [iter_one h]
      rcases iter_fn' F X Y hgo hend m (i + 1) fuel (by omega) (by omega) with ⟨j, a1, a2, a3, a4, a5⟩ | ⟨a1, a2⟩
      · refine .inl ⟨j, by omega, a2, a3, fun l h h' => ?_, a5⟩
        rcases Nat.eq_or_lt_of_le h with rfl | h
        · exact hb
        · exact a4 l h h'
      · refine .inr ⟨fun l h h' => ?_, a2⟩
        rcases Nat.eq_or_lt_of_le h with rfl | h
        · exact hb
        · exact a1 l h h'
theorem iter_fn {α : Type} {step : α → Option (Nat × α)} {n k1 k2 fuel : Nat} {bad : Nat → Bool} (F X : Nat → α) (Y : α) (hgo : ∀ i, i < n → step (F i) = some (bif bad i then (k1 + 1, X i) else (0, F (i + 1)))) (hend : step (F n) = some (k2 + 1, Y)) (hf : n < fuel) :
    (∃ j, j < n ∧ bad j = true ∧ (∀ l, l < j → bad l = false) ∧ iter step fuel (F 0) = some (k1, X j)) ∨ ((∀ l, l < n → bad l = false) ∧ iter step fuel (F 0) = some (k2, Y)) := by
  rcases iter_fn' F X Y hgo hend n 0 fuel (by omega) hf with ⟨j, _, h⟩ | ⟨h, h'⟩
  · exact .inl ⟨j, h.1, h.2.1, fun l hl => h.2.2.1 l (Nat.zero_le _) hl, h.2.2.2⟩
  · exact .inr ⟨fun l hl => h l (Nat.zero_le _) hl, h'⟩
theorem iter_run {α : Type} {step : α → Option (Nat × α)} {n k fuel : Nat} (F : Nat → α) (Y : α) (hgo : ∀ i, i < n → step (F i) = some (0, F (i + 1))) (hend : step (F n) = some (k + 1, Y)) (hf : n < fuel) : iter step fuel (F 0) = some (k, Y) := by
  rcases iter_fn (bad := fun _ => false) (k1 := 0) F F Y hgo hend hf with ⟨j, _, h, _⟩ | ⟨_, h⟩
  · cases h
  · exact h
def Tells (f : Option Bool) (P : Prop) : Prop := ∃ b, f = some b ∧ (b = true ↔ P)
theorem Tells.val {f : Option Bool} {P : Prop} (h : Tells f P) (hp : P) : f = some true := by obtain ⟨b, rfl, h2⟩ := h; rw [h2.2 hp]
theorem getD_toNat {α : Type} (l : List α) (i : Nat) (d : α) : List.getD l (Int.toNat (i : Int)) d = l.getD i d := by simp
theorem inside_lt {i n : Nat} (h : i < n) : (decide (0 ≤ (i : Int)) && decide ((i : Int) < (n : Int))) = true := by simp; omega
theorem ge0 (i : Nat) : decide (0 ≤ (i : Int)) = true := by simp
theorem lt_int {i n : Nat} (h : i < n) : decide ((i : Int) < (n : Int)) = true := by simp; omega
theorem nlt_int (n : Nat) : decide ((n : Int) < (n : Int)) = false := by simp
end Go.Proofs.YtbidmbjkjpdgdaaGreatDoor.Abs
set_option linter.unusedVariables false
set_option linter.unusedSimpArgs false
set_option maxRecDepth 100000
namespace Go.Proofs.YtbidmbjkjpdgdaaGreatDoor.Abs
theorem snoc_rec {α : Type} {P : List α → Prop} (h0 : P []) (h1 : ∀ l b, P l → P (l ++ [b])) (l : List α) : P l := by
  have : ∀ (n : Nat) (l : List α), l.length = n → P l := by
    intro n
    induction n with
    | zero => intro l hl; rw [List.length_eq_zero_iff.1 hl]; exact h0
    | succ n ih =>
      intro l hl
      rcases List.eq_nil_or_concat l with h | ⟨l', b, h⟩
      · subst h; simp at hl
      · subst h
        rw [List.concat_eq_append] at hl ⊢
        refine h1 _ _ (ih _ ?_)
        simpa using hl
  exact this _ l rfl
theorem iter_fnp' {α : Type} {step : α → Option (Nat × α)} {n k1 k2 : Nat} {bad : Nat → Bool} (F X : Nat → α) (Y : α) (hgo : ∀ i, i < n → (∀ l, l < i → bad l = false) → step (F i) = some (bif bad i then (k1 + 1, X i) else (0, F (i + 1)))) (hend : (∀ l, l < n → bad l = false) → step (F n) = some (k2 + 1, Y)) :
    ∀ (m i fuel : Nat), i + m = n → m < fuel → (∀ l, l < i → bad l = false) → (∃ j, j < n ∧ bad j = true ∧ (∀ l, l < j → bad l = false) ∧ iter step fuel (F i) = some (k1, X j)) ∨ ((∀ l, l < n → bad l = false) ∧ iter step fuel (F i) = some (k2, Y))
  | _, _, 0, _, hf, _ => by omega
  | 0, i, fuel + 1, hi, hf, hp => by
    obtain rfl : i = n := by omega
    exact .inr ⟨hp, iter_out (hend hp)⟩
  | m + 1, i, fuel + 1, hi, hf, hp => by
    have h := hgo i (by omega) hp
    cases hb : bad i with
    | true =>
      rw [hb] at h
      exact .inl ⟨i, by omega, hb, hp, iter_out h⟩
    | false =>
      rw [hb] at h
      rw [iter_one h]
      exact iter_fnp' F X Y hgo hend m (i + 1) fuel (by omega) (by omega) fun l hl => by
        rcases Nat.lt_succ_iff_lt_or_eq.1 hl with h1 | h1
        · exact hp l h1
        · rw [h1]; exact hb
theorem iter_fnp {α : Type} {step : α → Option (Nat × α)} {n k1 k2 fuel : Nat} {bad : Nat → Bool} (F X : Nat → α) (Y : α) (hgo : ∀ i, i < n → (∀ l, l < i → bad l = false) → step (F i) = some (bif bad i then (k1 + 1, X i) else (0, F (i + 1)))) (hend : (∀ l, l < n → bad l = false) → step (F n) = some (k2 + 1, Y)) (hf : n < fuel) :
    (∃ j, j < n ∧ bad j = true ∧ (∀ l, l < j → bad l = false) ∧ iter step fuel (F 0) = some (k1, X j)) ∨ ((∀ l, l < n → bad l = false) ∧ iter step fuel (F 0) = some (k2, Y)) :=
  iter_fnp' F X Y hgo hend n 0 fuel (by omega) hf fun l hl => by omega
abbrev bl (b : ByteArray) : List UInt8 := b.data.toList
def mkB (l : List UInt8) : ByteArray := ⟨l.toArray⟩
theorem bl_mk (l : List UInt8) : bl (mkB l) = l := rfl
theorem mk_bl (b : ByteArray) : mkB (bl b) = b := by obtain ⟨⟨l⟩⟩ := b; rfl
theorem bl_inj {a b : ByteArray} (h : bl a = bl b) : a = b := by rw [← mk_bl a, ← mk_bl b, h]
theorem bl_app (a b : ByteArray) : bl (ByteArray.append a b) = bl a ++ bl b := by
  have : ByteArray.append a b = a ++ b := rfl
  rw [this]
  show (a ++ b).data.toList = _
  rw [ByteArray.data_append, Array.toList_append]
theorem bl_len (a : ByteArray) : a.size = (bl a).length := Lib.size_eq a
theorem bl_ext (s : ByteArray) (a b : Nat) : bl (s.extract a b) = ((bl s).drop a).take (b - a) := Lib.extract_data s a b
theorem beq_bl (a b : ByteArray) : (ByteArray.toList a == ByteArray.toList b) = decide (bl a = bl b) := by
  rw [Lib.toList_data, Lib.toList_data]
  by_cases h : bl a = bl b
  · rw [decide_eq_true h, show a.data.toList = b.data.toList from h]; simp
  · rw [decide_eq_false h]; simpa using h
theorem bt_at {s : ByteArray} {i : Nat} (h : i < (bl s).length) : bt s (i : Int) = (((bl s)[i]).toNat : Int) := by
  unfold bt
  have h' : i < s.data.size := by simpa using h
  rw [Array.getD_eq_getD_getElem?, show (i : Int).toNat = i from rfl, Array.getElem?_eq_getElem h']
  simp
theorem get_bl {s : ByteArray} {i : Nat} (h : i < (bl s).length) : s.get! i = (bl s)[i] := by
  have h' : i < s.data.size := by simpa using h
  show s.data[i]! = _
  rw [getElem!_pos s.data i h']
  simp
theorem dec_asc {s : ByteArray} {i : Nat} (h : i < (bl s).length) (hb : ((bl s)[i]).toNat < 128) : Utf8.decode s i = (((bl s)[i]).toNat, 1) := by
  unfold Utf8.decode
  simp only [Nat.add_zero, get_bl h]
  rw [if_pos hb]
theorem dec_hi {s : ByteArray} {i : Nat} (h : i < (bl s).length) (hb : ¬ ((bl s)[i]).toNat < 128) : 128 ≤ (Utf8.decode s i).1 := by
  unfold Utf8.decode
  simp only [Nat.add_zero, get_bl h]
  rw [if_neg hb]
  split
  · split
    · assumption
    · decide
  · split
    · split
      · rename_i hh
        simp only [Bool.and_eq_true, decide_eq_true_eq] at hh
        have := hh.1
        omega
      · decide
    · split
      · split
        · rename_i hh
          simp only [Bool.and_eq_true, decide_eq_true_eq] at hh
          have := hh.1
          omega
        · decide
      · decide
def isDg (b : UInt8) : Prop := 48 ≤ b.toNat ∧ b.toNat ≤ 57
instance (b : UInt8) : Decidable (isDg b) := by unfold isDg; infer_instance
theorem dg_of {n : Nat} (h : n < 10) : (UInt8.ofNat (48 + n)).toNat = 48 + n := by
  rw [UInt8.toNat_ofNat']; omega
theorem dd_small {n : Nat} (h : n < 10) : Lib.decDigits n = [UInt8.ofNat (48 + n)] := by rw [Lib.decDigits, dif_pos h]
theorem dd_big {n : Nat} (h : ¬ n < 10) : Lib.decDigits n = Lib.decDigits (n / 10) ++ [UInt8.ofNat (48 + n % 10)] := by rw [Lib.decDigits, dif_neg h]
theorem dd_dg (n : Nat) : ∀ b ∈ Lib.decDigits n, isDg b := by
  induction n using Nat.strongRecOn with
  | _ n ih =>
    by_cases h : n < 10
    · rw [dd_small h]
      intro b hb
      simp only [List.mem_singleton] at hb
      subst hb
      unfold isDg
      rw [dg_of h]; omega
    · rw [dd_big h]
      intro b hb
      rcases List.mem_append.1 hb with hb | hb
      · exact ih (n / 10) (by omega) b hb
      · simp only [List.mem_singleton] at hb
        subst hb
        unfold isDg
        rw [dg_of (Nat.mod_lt _ (by decide))]; omega
def valD (l : List UInt8) : Nat := l.foldl (fun a b => 10 * a + (b.toNat - 48)) 0
theorem valD_snoc (l : List UInt8) (b : UInt8) : valD (l ++ [b]) = 10 * valD l + (b.toNat - 48) := by unfold valD; rw [List.foldl_append]; rfl
theorem valD_dd (n : Nat) : valD (Lib.decDigits n) = n := by
  induction n using Nat.strongRecOn with
  | _ n ih =>
    by_cases h : n < 10
    · rw [dd_small h]
      show 10 * 0 + ((UInt8.ofNat (48 + n)).toNat - 48) = n
      rw [dg_of h]; omega
    · rw [dd_big h, valD_snoc, ih (n / 10) (by omega), dg_of (Nat.mod_lt _ (by decide))]; omega
theorem dd_inj {a b : Nat} (h : Lib.decDigits a = Lib.decDigits b) : a = b := by rw [← valD_dd a, ← valD_dd b, h]
theorem valD_lt : ∀ (l : List UInt8), (∀ b ∈ l, isDg b) → valD l < 10 ^ l.length := by
  intro l
  refine snoc_rec (P := fun l => (∀ b ∈ l, isDg b) → valD l < 10 ^ l.length) ?_ ?_ l
  · intro _; decide
  · intro l b ih h
    have h1 := ih fun x hx => h x (by simp [hx])
    have h2 := h b (by simp)
    unfold isDg at h2
    rw [valD_snoc, List.length_append, List.length_singleton, Nat.pow_succ]
    omega
theorem dd_len_lt {n k : Nat} (h : (Lib.decDigits n).length ≤ k) : n < 10 ^ k := by
  have := valD_lt _ (dd_dg n)
  rw [valD_dd] at this
  exact Nat.lt_of_lt_of_le this (Nat.pow_le_pow_right (by decide) h)
theorem dd_len_le {n k : Nat} (hk : 1 ≤ k) (h : n < 10 ^ k) : (Lib.decDigits n).length ≤ k := by
  induction k generalizing n with
  | zero => omega
  | succ k ih =>
    by_cases h1 : n < 10
    · rw [dd_small h1]; simp
    · rw [dd_big h1, List.length_append, List.length_singleton]
      by_cases hk0 : k = 0
      · subst hk0; omega
      · have := ih (n := n / 10) (by omega) (by rw [Nat.pow_succ] at h; omega)
        omega
theorem itoa_nat (n : Nat) : Lib.itoa (n : Int) = Lib.decDigits n := Lib.itoa_nonneg n
end Go.Proofs.YtbidmbjkjpdgdaaGreatDoor.Abs
set_option linter.unusedVariables false
set_option linter.unusedSimpArgs false
set_option maxRecDepth 100000
namespace Go.Proofs.YtbidmbjkjpdgdaaGreatDoor.Abs
def hcons {α : Type} (b : α) : List (List α) → List (List α)
  | x :: xs => (b :: x) :: xs
  | [] => [[b]]
def happ {α : Type} (a : List α) : List (List α) → List (List α)
  | x :: xs => (a ++ x) :: xs
  | [] => [a]
def spl (c : UInt8) : List UInt8 → List (List UInt8)
  | [] => [[]]
  | b :: l => if b = c then [] :: spl c l else hcons b (spl c l)
theorem hcons_ne {α : Type} (b : α) (x : List (List α)) : hcons b x ≠ [] := by cases x <;> simp [hcons]
theorem spl_ne (c : UInt8) (l : List UInt8) : spl c l ≠ [] := by
  cases l with
  | nil => simp [spl]
  | cons b l =>
    unfold spl
    split
    · simp
    · exact hcons_ne _ _
theorem spl_cases (c : UInt8) (l : List UInt8) : ∃ x xs, spl c l = x :: xs := by
  cases h : spl c l with
  | nil => exact absurd h (spl_ne c l)
  | cons x xs => exact ⟨x, xs, rfl⟩
theorem happ_hcons {α : Type} (b : α) (a : List α) (x : List (List α)) (hx : x ≠ []) : happ (b :: a) x = hcons b (happ a x) := by
  cases x with
  | nil => exact absurd rfl hx
  | cons y ys => rfl
theorem spl_app {c : UInt8} : ∀ {a : List UInt8} (l : List UInt8), c ∉ a → spl c (a ++ l) = happ a (spl c l)
  | [], l, _ => by obtain ⟨y, ys, e⟩ := spl_cases c l; rw [List.nil_append, e]; rfl
  | b :: a, l, h => by
    have h1 : ¬ b = c := fun e => h (by rw [e]; exact List.mem_cons_self)
    rw [List.cons_append, spl, if_neg h1, spl_app l (fun hm => h (List.mem_cons_of_mem _ hm)), happ_hcons _ _ _ (spl_ne c l)]
theorem spl_sep {c : UInt8} {a : List UInt8} (l : List UInt8) (h : c ∉ a) : spl c (a ++ c :: l) = a :: spl c l := by
  rw [spl_app _ h, spl, if_pos rfl]; simp [happ]
theorem spl_one {c : UInt8} {a : List UInt8} (h : c ∉ a) : spl c a = [a] := by
  have := spl_app (c := c) (a := a) [] h
  rw [List.append_nil] at this
  rw [this]; simp [spl, happ]
def jn (c : UInt8) : List (List UInt8) → List UInt8
  | [] => []
  | [x] => x
  | x :: y :: xs => x ++ c :: jn c (y :: xs)
theorem jn_cons (c : UInt8) (x : List UInt8) {xs : List (List UInt8)} (h : xs ≠ []) : jn c (x :: xs) = x ++ c :: jn c xs := by
  cases xs with
  | nil => exact absurd rfl h
  | cons y ys => rfl
theorem jn_spl (c : UInt8) : ∀ (l : List UInt8), jn c (spl c l) = l
  | [] => rfl
  | b :: l => by
    have ih := jn_spl c l
    unfold spl
    split
    · rename_i h
      rw [jn_cons _ _ (spl_ne c l), ih, h]; rfl
    · obtain ⟨y, ys, e⟩ := spl_cases c l
      rw [e] at ih ⊢
      cases ys with
      | nil => show b :: y = b :: l; rw [show y = l from ih]
      | cons z zs =>
        show jn c ((b :: y) :: z :: zs) = _
        rw [jn_cons _ _ (by simp)] at ih ⊢
        rw [List.cons_append, ih]
theorem spl_jn {c : UInt8} : ∀ {xs : List (List UInt8)}, xs ≠ [] → (∀ x ∈ xs, c ∉ x) → spl c (jn c xs) = xs
  | [x], _, h => spl_one (h x List.mem_cons_self)
  | x :: y :: xs, _, h => by
    rw [jn_cons _ _ (by simp), spl_sep _ (h x List.mem_cons_self), spl_jn (by simp) fun z hz => h z (List.mem_cons_of_mem _ hz)]
theorem idx_free {c : UInt8} : ∀ {l : List UInt8}, c ∉ l → Lib.indexByte l c = -1
  | [], _ => rfl
  | b :: l, h => by
    have h1 : (b == c) = false := by
      have : b ≠ c := fun e => h (by rw [e]; exact List.mem_cons_self)
      simpa using this
    unfold Lib.indexByte
    rw [h1, idx_free fun hm => h (List.mem_cons_of_mem _ hm)]
    rfl
theorem idx_sep {c : UInt8} (l : List UInt8) : ∀ {a : List UInt8}, c ∉ a → Lib.indexByte (a ++ c :: l) c = (a.length : Int)
  | [], _ => by unfold Lib.indexByte; simp
  | b :: a, h => by
    have h1 : (b == c) = false := by
      have : b ≠ c := fun e => h (by rw [e]; exact List.mem_cons_self)
      simpa using this
    rw [List.cons_append]
    unfold Lib.indexByte
    rw [h1, idx_sep l fun hm => h (List.mem_cons_of_mem _ hm)]
    have : ((a.length : Int) == -1) = false := by
      have : (a.length : Int) ≠ -1 := by omega
      exact beq_eq_false_iff_ne.2 this
    rw [this]
    simp
theorem split_at {c : UInt8} : ∀ (l : List UInt8), c ∉ l ∨ ∃ a r, c ∉ a ∧ l = a ++ c :: r
  | [] => .inl (by simp)
  | b :: l => by
    by_cases hb : b = c
    · exact .inr ⟨[], l, by simp, by rw [hb]; rfl⟩
    · rcases split_at (c := c) l with h | ⟨a, r, h, e⟩
      · exact .inl fun hm => by
          rcases List.mem_cons.1 hm with h1 | h1
          · exact hb h1.symm
          · exact h h1
      · exact .inr ⟨b :: a, r, fun hm => by
          rcases List.mem_cons.1 hm with h1 | h1
          · exact hb h1.symm
          · exact h h1, by rw [e]; rfl⟩
theorem cnt_free {c : UInt8} {l : List UInt8} (h : c ∉ l) : l.count c = 0 := List.count_eq_zero.2 h
theorem splK_spl (c : UInt8) : ∀ (n : Nat) (l : List UInt8), l.count c = n → Lib.splitK [c] 0 n l = spl c l := by
  intro n
  induction n with
  | zero =>
    intro l h
    rw [spl_one (List.count_eq_zero.1 h)]; rfl
  | succ n ih =>
    intro l h
    rcases split_at (c := c) l with h1 | ⟨a, r, h1, rfl⟩
    · rw [cnt_free h1] at h; omega
    · have h2 : r.count c = n := by
        rw [List.count_append, List.count_cons, cnt_free h1] at h
        simp at h; exact h
      unfold Lib.splitK
      rw [index_one, idx_sep r h1]
      have : ((a.length : Int) == -1) = false := by
        have : (a.length : Int) ≠ -1 := by omega
        exact beq_eq_false_iff_ne.2 this
      rw [this]
      simp only [Bool.false_eq_true, if_false, Int.toNat_natCast, Nat.add_zero, List.length_singleton]
      rw [spl_sep r h1, List.take_left, show a.length + 1 = (a ++ [c]).length by simp, show a ++ c :: r = (a ++ [c]) ++ r by simp, List.drop_left, ih r h2]
theorem genM_eq {s : ByteArray} (c : UInt8) (h : s.size < 2 ^ 31) : genM s ⟨#[c]⟩ 0 (-1) = some ((spl c (bl s)).map mkB) := by
  unfold genM
  simp only
  rw [decide_eq_true (p := s.size < 4294967281) (by omega)]
  simp only [decide_true, Bool.and_self, cond_true, Option.some.injEq]
  have hcn : Lib.countB s ⟨#[c]⟩ = (bl s).count c := by
    show Lib.count s.data.toList [c] = _
    rw [Lib.count_one]
  have h1 := Lib.splitB_data ⟨#[c]⟩ 0 (Lib.countB s ⟨#[c]⟩) s
  rw [hcn] at h1 ⊢
  have h2 : (Lib.splitB ⟨#[c]⟩ 0 ((bl s).count c) s).map bl = spl c (bl s) := by
    rw [show (Lib.splitB ⟨#[c]⟩ 0 ((bl s).count c) s).map bl = _ from h1]
    exact splK_spl c _ _ rfl
  rw [← h2, List.map_map]
  have : (mkB ∘ bl) = id := by funext x; exact mk_bl x
  rw [this, List.map_id]
end Go.Proofs.YtbidmbjkjpdgdaaGreatDoor.Abs
set_option linter.unusedVariables false
set_option linter.unusedSimpArgs false
set_option maxRecDepth 100000
namespace Go.Proofs.YtbidmbjkjpdgdaaGreatDoor.Abs
theorem part_len (c : UInt8) : ∀ (l : List UInt8), ∀ x ∈ spl c l, x.length ≤ l.length
  | [], x, h => by simp [spl] at h; subst h; simp
  | b :: l, x, h => by
    have ih := part_len c l
    unfold spl at h
    split at h
    · rcases List.mem_cons.1 h with rfl | h
      · simp
      · have := ih x h; simp; omega
    · obtain ⟨y, ys, e⟩ := spl_cases c l
      rw [e] at ih h
      rcases List.mem_cons.1 h with rfl | h
      · have := ih y List.mem_cons_self; simp; omega
      · have := ih x (List.mem_cons_of_mem _ h); simp; omega
theorem lim_le {a b : Nat} (h : a + b ≤ 2 ^ 35) : decide (a + b ≤ LIM) = true := decide_eq_true (Nat.le_trans h (by decide))
theorem mkB_size (l : List UInt8) : ByteArray.size (mkB l) = l.length := by rw [bl_len, bl_mk]
theorem app_mk (a b : List UInt8) : ByteArray.append (mkB a) (mkB b) = mkB (a ++ b) := bl_inj (by rw [bl_app, bl_mk, bl_mk, bl_mk])
theorem ext_mk (s : ByteArray) (a b : Nat) : s.extract a b = mkB (((bl s).drop a).take (b - a)) := bl_inj (by rw [bl_ext, bl_mk])
theorem cut_free {s : ByteArray} {c : UInt8} (h : c ∉ bl s) : G74 s ⟨#[c]⟩ = some (s, (⟨#[]⟩, (false, ()))) := by
  have e : G88 s ⟨#[c]⟩ = some (s, (⟨#[]⟩, (false, ()))) := by
    unfold G88
    rw [show idxM s ⟨#[c]⟩ = some (-1) from congrArg some (idx_free h)]
    rfl
  unfold G74
  rw [e]; rfl
theorem cut_sep {s : ByteArray} {c : UInt8} {a r : List UInt8} (h : c ∉ a) (e : bl s = a ++ c :: r) (hs : s.size < 2 ^ 31) : G74 s ⟨#[c]⟩ = some (mkB a, (mkB r, (true, ()))) := by
  have hl : s.size = a.length + (r.length + 1) := by rw [bl_len, e]; simp
  have e : G88 s ⟨#[c]⟩ = some (mkB a, (mkB r, (true, ()))) := by
    unfold G88
    have : Lib.indexByte (bl s) c = (a.length : Int) := by rw [e]; exact idx_sep r h
    rw [show idxM s ⟨#[c]⟩ = some (a.length : Int) from congrArg some this]
    have h1 : (ByteArray.size (⟨#[c]⟩ : ByteArray) : Int) = 1 := rfl
    have hw : IntKind.wrap .i64 ((a.length : Int) + 1) = ((a.length + 1 : Nat) : Int) := wr1 (by omega)
    simp only [Option.bind_some, h1, hw]
    rw [decide_eq_true (p := (a.length : Int) ≥ 0) (by omega), decide_eq_true (p := (a.length : Int) ≤ (s.size : Int)) (by omega), decide_eq_true (p := (0 : Int) ≤ ((a.length + 1 : Nat) : Int)) (by omega), decide_eq_true (p := ((a.length + 1 : Nat) : Int) ≤ (s.size : Int)) (by omega)]
    simp only [Int.le_refl, decide_true, Bool.and_self, cond_true, Int.toNat_natCast, Int.toNat_zero]
    rw [ext_mk, ext_mk, e]
    have h2 : (a ++ c :: r) = (a ++ [c]) ++ r := by simp
    have h3 : List.take (a.length - 0) (List.drop 0 (a ++ c :: r)) = a := by simp
    have h4 : List.take (s.size - (a.length + 1)) (List.drop (a.length + 1) (a ++ c :: r)) = r := by
      rw [h2, show a.length + 1 = (a ++ [c]).length by simp, List.drop_left, List.take_of_length_le]
      rw [hl]; simp; omega
    rw [h3, h4]
  unfold G74
  rw [e]; rfl
theorem split_eq {s : ByteArray} (c : UInt8) (h : s.size < 2 ^ 31) : G75 s ⟨#[c]⟩ = some ((spl c (bl s)).map mkB) := by
  unfold G75
  rw [genM_eq c h]; rfl
theorem itoaM_nat {n : Nat} (h : n < 2 ^ 62) : itoaM (n : Int) = some (mkB (Lib.decDigits n)) := by
  unfold itoaM
  rw [decide_eq_true (p := (-9223372036854775808 : Int) ≤ (n : Int)) (by omega), decide_eq_true (p := (n : Int) ≤ 9223372036854775807) (by omega), itoa_nat]
  rfl
end Go.Proofs.YtbidmbjkjpdgdaaGreatDoor.Abs
set_option linter.unusedVariables false
set_option linter.unusedSimpArgs false
set_option maxRecDepth 100000
namespace Go.Proofs.YtbidmbjkjpdgdaaGreatDoor.Abs
theorem iter_find {α : Type} {step : α → Option (Nat × α)} {bad : Nat → Bool} {n k1 k2 : Nat} (I : Nat → α → Prop) (E1 : Nat → α → Prop) (E2 : α → Prop)
    (hgo : ∀ i s, I i s → i < n → bad i = false → ∃ s', step s = some (0, s') ∧ I (i + 1) s') (hbad : ∀ i s, I i s → i < n → bad i = true → ∃ s', step s = some (k1 + 1, s') ∧ E1 i s') (hend : ∀ s, I n s → ∃ s', step s = some (k2 + 1, s') ∧ E2 s') :
    ∀ (m i fuel : Nat) (s : α), i + m = n → m < fuel → I i s → (∃ j q, i ≤ j ∧ j < n ∧ bad j = true ∧ (∀ l, i ≤ l → l < j → bad l = false) ∧ iter step fuel s = some (k1, q) ∧ E1 j q) ∨ ((∀ l, i ≤ l → l < n → bad l = false) ∧ ∃ q, iter step fuel s = some (k2, q) ∧ E2 q)
  | 0, i, 0, s, hi, hf, hs => by omega
  | 0, i, fuel + 1, s, hi, hf, hs => by
    obtain rfl : i = n := by omega
    obtain ⟨s', h1, h2⟩ := hend s hs
    exact .inr ⟨fun l h h' => by omega, s', iter_out h1, h2⟩
  | m + 1, i, 0, s, hi, hf, hs => by omega
  | m + 1, i, fuel + 1, s, hi, hf, hs => by
    cases hb : bad i with
    | true =>
      obtain ⟨s', h1, h2⟩ := hbad i s hs (by omega) hb
      exact .inl ⟨i, s', Nat.le_refl _, by omega, hb, fun l h h' => by omega, iter_out h1, h2⟩
    | false =>
      obtain ⟨s', h1, h2⟩ := hgo i s hs (by omega) hb
      rw [iter_one h1]
      rcases iter_find I E1 E2 hgo hbad hend m (i + 1) fuel s' (by omega) (by omega) h2 with ⟨j, q, a1, a2, a3, a4, a5⟩ | ⟨a1, a2⟩
      · refine .inl ⟨j, q, by omega, a2, a3, fun l h h' => ?_, a5⟩
        rcases Nat.eq_or_lt_of_le h with rfl | h
        · exact hb
        · exact a4 l h h'
      · refine .inr ⟨fun l h h' => ?_, a2⟩
        rcases Nat.eq_or_lt_of_le h with rfl | h
        · exact hb
        · exact a1 l h h'
def inB (x lo hi : Int) : Bool := decide (lo ≤ x) && decide (x ≤ hi)
def spB (s : E23) (lo hi : Int) : Bool := decide (lo ≤ s.1) && decide (s.1 ≤ s.2.1) && decide (s.2.1 ≤ hi)
def okL (x : E65) : Bool := inB x.1 1 20000 && spB x.2.1 1 1000
def okPl (p : E25) : Bool := inB (List.length p.1 : Int) 1 6 && spB p.2.1 0 1000000 && p.1.all okL
def dL : E65 := (0, ((0, (0, ())), ()))
theorem tg70 (x lo hi : Int) : G53 x lo hi = some (inB x lo hi) := by
  unfold G53 inB
  by_cases h : lo ≤ x <;> simp [h]
theorem tg59 (x lo hi : Int) : G26 x lo hi = some (inB x lo hi) := tg70 x lo hi
theorem tg73 (s : E23) (lo hi : Int) : G54 s lo hi = some (spB s lo hi) := by
  unfold G54 spB
  by_cases h : lo ≤ s.1 <;> by_cases h' : s.1 ≤ s.2.1 <;> simp [h, h']
theorem tg67 (s : E23) (lo hi : Int) : G27 s lo hi = some (spB s lo hi) := tg73 s lo hi
theorem tg83 (x : E65) : G56 x = some (!okL x) := by
  unfold G56 okL
  rw [tg70, tg73]
  simp only [Option.bind_some]
  cases inB x.1 1 20000 <;> simp
theorem all_of_get {α : Type} {l : List α} {f : α → Bool} {d : α} : l.all f = true ↔ ∀ i, i < l.length → f (l.getD i d) = true := by
  constructor
  · intro h i hi
    rw [List.getD_eq_getElem?_getD, List.getElem?_eq_getElem hi]
    exact List.all_eq_true.1 h _ (List.getElem_mem hi)
  · intro h
    refine List.all_eq_true.2 fun x hx => ?_
    obtain ⟨i, hi, rfl⟩ := List.mem_iff_getElem.1 hx
    have := h i hi
    rw [List.getD_eq_getElem?_getD, List.getElem?_eq_getElem hi] at this
    exact this
theorem not_all_of {α : Type} {l : List α} {f : α → Bool} {d : α} {i : Nat} (hi : i < l.length) (h : f (l.getD i d) = false) : l.all f = false := by
  cases ha : l.all f with
  | false => rfl
  | true => rw [all_of_get.1 ha i hi] at h; cases h
theorem tg94 (l : List E65) (hl : l.length < 2 ^ 40) : ∃ r, G72 l = some r ∧ decide (r ≥ 0) = !l.all okL := by
  unfold G72 G72_l0_run
  rcases iter_find (step := G72_l0_step) (bad := fun i => !okL (l.getD i dL)) (n := l.length) (k1 := 0) (k2 := 1) (fun i s => s.1.1 = l ∧ s.1.2.2.1 = (l.length : Int) ∧ s.1.2.2.2.1 = (i : Int)) (fun j s => s.1.2.1 = (j : Int)) (fun _ => True)
    (fun i s h hi hb => by
      obtain ⟨h1, h2, h3⟩ := h
      simp only [G72_l0_step, h1, h2, h3, inside_lt hi, tg83, getD_toNat, show decide ((i : Int) < (l.length : Int)) = true from by simp; omega, cond_true, Option.bind_some]
      rw [show (0, ((0, (0, ())), ())) = dL from rfl, hb]
      exact ⟨_, rfl, rfl, rfl, wr (by omega) (by omega)⟩)
    (fun i s h hi hb => by
      obtain ⟨h1, h2, h3⟩ := h
      simp only [G72_l0_step, h1, h2, h3, inside_lt hi, tg83, getD_toNat, show decide ((i : Int) < (l.length : Int)) = true from by simp; omega, cond_true, Option.bind_some]
      rw [show (0, ((0, (0, ())), ())) = dL from rfl, hb]
      exact ⟨_, rfl, rfl⟩)
    (fun s h => by
      obtain ⟨h1, h2, h3⟩ := h
      simp only [G72_l0_step, h1, h2, h3, show decide ((l.length : Int) < (l.length : Int)) = false from by simp, cond_false]
      exact ⟨_, rfl, trivial⟩)
    l.length 0 (G72_l0_fuel ((l, (0, ((List.length l : Int), (0, ())))), ())) ((l, (0, ((List.length l : Int), (0, ())))), ()) (by omega) (by simp [G72_l0_fuel]) ⟨rfl, rfl, rfl⟩ with ⟨j, q, _, hj, hb, _, h1, h2⟩ | ⟨hb, q, h1, _⟩
  · refine ⟨(j : Int), ?_, ?_⟩
    · rw [h1]; simp only [Option.bind_some, natK, h2]
    · rw [not_all_of (d := dL) hj (by simpa using hb)]; simp
  · refine ⟨-1, ?_, ?_⟩
    · rw [h1]; simp only [Option.bind_some, natK]
    · rw [(all_of_get (d := dL)).2 fun i hi => by simpa using hb i (by omega) hi]; simp
theorem tg82 (l : List E65) (hl : l.length < 2 ^ 40) : G55 l = some (!l.all okL) := by
  obtain ⟨r, h1, h2⟩ := tg94 l hl
  unfold G55
  rw [h1]; simp only [Option.bind_some, h2]
theorem tg66 (p : E25) (hl : p.1.length < 2 ^ 40) : G23 p = some (okPl p) := by
  unfold G23 okPl
  simp only [tg70, tg73, tg82 p.1 hl, Option.bind_some]
  cases inB (List.length p.1 : Int) 1 6 <;> cases spB p.2.1 0 1000000 <;> simp
theorem tg38 (p : E25) (hl : p.1.length < 2 ^ 40) : G8 p = some (okPl p) := by
  unfold G8 G8_l0_run
  rcases iter_find (step := G8_l0_step) (bad := fun i => !okL (p.1.getD i dL)) (n := p.1.length) (k1 := 0) (k2 := 1) (fun i s => s.2.1 = p ∧ s.1.2.1 = (i : Int)) (fun j s => s.1.1 = false) (fun s => s.2.1 = p)
    (fun i s h hi hb => by
      obtain ⟨h1, h3⟩ := h
      simp only [G8_l0_step, h1, h3, inside_lt hi, tg59, tg67, getD_toNat, show decide ((i : Int) < (p.1.length : Int)) = true from by simp; omega, cond_true, Option.bind_some]
      rw [show (0, ((0, (0, ())), ())) = dL from rfl]
      unfold okL at hb
      simp only [Bool.not_eq_false', Bool.and_eq_true] at hb
      rw [hb.1, hb.2]
      exact ⟨_, rfl, rfl, wr (by omega) (by omega)⟩)
    (fun i s h hi hb => by
      obtain ⟨h1, h3⟩ := h
      simp only [G8_l0_step, h1, h3, inside_lt hi, tg59, tg67, getD_toNat, show decide ((i : Int) < (p.1.length : Int)) = true from by simp; omega, cond_true, Option.bind_some]
      rw [show (0, ((0, (0, ())), ())) = dL from rfl]
      unfold okL at hb
      revert hb
      cases inB (List.getD p.1 i dL).1 1 20000 with
      | false => intro _; exact ⟨_, rfl, rfl⟩
      | true =>
        cases spB (List.getD p.1 i dL).2.1 1 1000 with
        | false => intro _; exact ⟨_, rfl, rfl⟩
        | true => intro h; simp at h)
    (fun s h => by
      obtain ⟨h1, h3⟩ := h
      simp only [G8_l0_step, h1, h3, show decide ((p.1.length : Int) < (p.1.length : Int)) = false from by simp, cond_false]
      exact ⟨_, rfl, rfl⟩)
    p.1.length 0 (G8_l0_fuel ((false, (0, ())), (p, ()))) ((false, (0, ())), (p, ())) (by omega) (by simp [G8_l0_fuel]) ⟨rfl, rfl⟩ with ⟨j, q, _, hj, hb, _, h1, h2⟩ | ⟨hb, q, h1, h2⟩
  · rw [h1]
    simp only [Option.bind_some, natK, h2]
    unfold okPl
    rw [not_all_of (d := dL) hj (by simpa using hb)]; simp
  · rw [h1]
    simp only [Option.bind_some, natK, h2, tg59, tg67]
    unfold okPl
    rw [(all_of_get (d := dL)).2 fun i hi => by simpa using hb i (by omega) hi]
    cases inB (List.length p.1 : Int) 1 6 <;> simp
end Go.Proofs.YtbidmbjkjpdgdaaGreatDoor.Abs
set_option linter.unusedVariables false
set_option linter.unusedSimpArgs false
set_option maxRecDepth 100000
namespace Go.Proofs.YtbidmbjkjpdgdaaGreatDoor.Abs
theorem getD_at {α : Type} {l : List α} {i : Nat} {d : α} (h : i < l.length) : l.getD i d = l[i] := by rw [List.getD_eq_getElem?_getD, List.getElem?_eq_getElem h]; rfl
theorem take_next {α : Type} {l : List α} {i : Nat} (h : i < l.length) : l.take (i + 1) = l.take i ++ [l[i]] := by rw [List.take_add_one, List.getElem?_eq_getElem h]; rfl
theorem valD_take {l : List UInt8} {i : Nat} (h : i < l.length) : valD (l.take (i + 1)) = 10 * valD (l.take i) + ((l[i]).toNat - 48) := by
  rw [List.take_add_one, List.getElem?_eq_getElem h, Option.toList_some, valD_snoc]
theorem wrap_i32 {n : Int} (h : -2147483648 ≤ n) (h' : n ≤ 2147483647) : IntKind.wrap .i32 n = n := by rw [IntKind.wrap_i32]; omega
theorem bt_mk {w : List UInt8} {i : Nat} (h : i < w.length) : bt (mkB w) (i : Int) = ((w[i]).toNat : Int) := bt_at (s := mkB w) h
theorem dec_mk {w : List UInt8} {i : Nat} (h : i < w.length) (hb : (w[i]).toNat < 128) : Utf8.decode (mkB w) i = ((w[i]).toNat, 1) := dec_asc (s := mkB w) h hb
theorem dec_mk_hi {w : List UInt8} {i : Nat} (h : i < w.length) (hb : ¬ (w[i]).toNat < 128) : 128 ≤ (Utf8.decode (mkB w) i).1 := dec_hi (s := mkB w) h hb
def okw (w : List UInt8) : Bool := decide (Lib.decDigits (valD w) = w) && decide (w.length ≤ 8)
theorem okw_iff {w : List UInt8} : okw w = true ↔ Lib.decDigits (valD w) = w ∧ w.length ≤ 8 := by
  unfold okw
  rw [Bool.and_eq_true, decide_eq_true_eq, decide_eq_true_eq]
theorem dd8 {n : Nat} (h : n < 100000000) : (Lib.decDigits n).length ≤ 8 := dd_len_le (by decide) h
theorem okw_dd {n : Nat} (h : n < 100000000) : okw (Lib.decDigits n) = true := okw_iff.2 (by rw [valD_dd]; exact ⟨rfl, dd8 h⟩)
theorem okw_lt {w : List UInt8} (h : okw w = true) : valD w < 100000000 := by
  have := okw_iff.1 h
  exact dd_len_lt (k := 8) (by rw [this.1]; exact this.2)
theorem okw_dg {w : List UInt8} (h : okw w = true) : ∀ b ∈ w, isDg b := fun b hb => by
  rw [← (okw_iff.1 h).1] at hb
  exact dd_dg _ b hb
theorem valD_lt8 {l : List UInt8} (hd : ∀ b ∈ l, isDg b) (h : l.length ≤ 8) : valD l < 100000000 :=
  Nat.lt_of_lt_of_le (valD_lt l hd) (Nat.pow_le_pow_right (by decide) h)
theorem number_eq (w : List UInt8) (hw : w.length < 2 ^ 31) : G76 (mkB w) = some (if okw w = true then .inr ((valD w : Nat) : Int) else .inl ()) := by
  unfold G76
  let F : Nat → ((ByteArray × (Int × Unit)) × ((ByteArray × Nat) × Unit)) := fun i => ((mkB w, (((valD (w.take i) : Nat) : Int), ())), ((mkB w, i), ()))
  let X : Nat → ((ByteArray × (Int × Unit)) × ((ByteArray × Nat) × Unit)) := fun i => ((mkB w, (((valD (w.take i) : Nat) : Int), ())), ((mkB w, i + (Utf8.decode (mkB w) i).2), ()))
  let bad : Nat → Bool := fun i => !decide (isDg (w.getD i 0)) || decide (99999999 < valD (w.take i))
  have hbnd : ∀ i, (∀ j, j < i → bad j = false) → i ≤ w.length → valD (w.take i) ≤ 999999999 := fun i hb hi => by
    cases i with
    | zero => simp [valD]
    | succ i =>
      have h1 := hb i (by omega)
      simp only [bad, Bool.or_eq_false_iff, Bool.not_eq_false', decide_eq_true_eq, decide_eq_false_iff_not] at h1
      have h2 := h1.1
      rw [getD_at (by omega)] at h2
      unfold isDg at h2
      rw [valD_take (by omega)]
      omega
  have go : ∀ i, i < w.length → (∀ j, j < i → bad j = false) → G76_l0_step (F i) = some (bif bad i then (1, X i) else (0, F (i + 1))) := fun i hi hb => by
    unfold G76_l0_step
    simp only [F, X]
    have hv := hbnd i hb (by omega)
    have hg : w.getD i 0 = w[i] := getD_at hi
    rw [decide_eq_true (p := i < ByteArray.size (mkB w)) (by rw [mkB_size]; exact hi)]
    simp only [cond_true]
    by_cases hasc : (w[i]).toNat < 128
    · rw [dec_mk hi hasc]
      simp only
      by_cases hd : isDg (w[i])
      · unfold isDg at hd
        rw [decide_eq_false (p := ((w[i]).toNat : Int) < 48) (by omega), decide_eq_false (p := ((w[i]).toNat : Int) > 57) (by omega)]
        simp only [cond_false]
        by_cases hbig : 99999999 < valD (w.take i)
        · have hbt : bad i = true := by simp only [bad, hbig, decide_true, Bool.or_true]
          rw [hbt, decide_eq_true (p := ((valD (w.take i) : Nat) : Int) > 99999999) (by omega)]
          rfl
        · have hbf : bad i = false := by
            have : isDg (w[i]) := by unfold isDg; omega
            simp only [bad, hg, hbig, this, decide_true, decide_false, Bool.not_true, Bool.or_self]
          rw [hbf, decide_eq_false (p := ((valD (w.take i) : Nat) : Int) > 99999999) (by omega)]
          simp only [cond_false]
          have e1 : IntKind.wrap .i32 (((w[i]).toNat : Int) - 48) = (((w[i]).toNat - 48 : Nat) : Int) := by rw [wrap_i32 (by omega) (by omega)]; omega
          have e2 : IntKind.wrap .i64 (((w[i]).toNat - 48 : Nat) : Int) = (((w[i]).toNat - 48 : Nat) : Int) := wr (by omega) (by omega)
          rw [e1, e2, wr (n := (10 : Int) * ((valD (w.take i) : Nat) : Int)) (by omega) (by omega), wr (by omega) (by omega), valD_take hi]
          congr 3
      · have hbt : bad i = true := by simp only [bad, hg, hd, decide_false, Bool.not_false, Bool.true_or]
        unfold isDg at hd
        rw [hbt]
        by_cases h48 : (w[i]).toNat < 48
        · rw [decide_eq_true (p := ((w[i]).toNat : Int) < 48) (by omega)]; rfl
        · rw [decide_eq_false (p := ((w[i]).toNat : Int) < 48) (by omega), decide_eq_true (p := ((w[i]).toNat : Int) > 57) (by omega)]; rfl
    · have h128 := dec_mk_hi hi hasc
      have hbt : bad i = true := by
        have : ¬ isDg (w[i]) := by unfold isDg; omega
        simp only [bad, hg, this, decide_false, Bool.not_false, Bool.true_or]
      rw [hbt, decide_eq_false (p := ((Utf8.decode (mkB w) i).1 : Int) < 48) (by omega), decide_eq_true (p := ((Utf8.decode (mkB w) i).1 : Int) > 57) (by omega)]
      rfl
  have hend : (∀ j, j < w.length → bad j = false) → G76_l0_step (F w.length) = some (2, F w.length) := fun _ => by
    unfold G76_l0_step
    simp only [F]
    rw [decide_eq_false (p := w.length < ByteArray.size (mkB w)) (by rw [mkB_size]; omega)]
    rfl
  have hfuel : G76_l0_fuel ((mkB w, ((0 : Int), ())), ((mkB w, 0), ())) = w.length + 1 := by
    unfold G76_l0_fuel
    simp only [mkB_size]
    omega
  unfold G76_l0_run
  rw [hfuel, show ((mkB w, ((0 : Int), ())), ((mkB w, (0 : Nat)), ())) = F 0 from rfl]
  rcases iter_fnp (bad := bad) F X (F w.length) go hend (Nat.lt_succ_self _) with ⟨j, hj, hbj, hlt, e⟩ | ⟨hall, e⟩
  · rw [e]
    have hno : ¬ okw w = true := fun h => by
      simp only [bad, Bool.or_eq_true, Bool.not_eq_true', decide_eq_false_iff_not, decide_eq_true_eq] at hbj
      rcases hbj with h1 | h1
      · rw [getD_at hj] at h1
        exact h1 (okw_dg h _ (List.getElem_mem _))
      · have := valD_lt8 (l := w.take j) (fun b hb => okw_dg h b (List.mem_of_mem_take hb)) (by have := (okw_iff.1 h).2; rw [List.length_take]; omega)
        omega
    rw [if_neg hno]
    rfl
  · rw [e]
    have hv := hbnd _ hall (Nat.le_refl _)
    rw [List.take_length] at hv
    simp only [Option.bind_some, natK, F, List.take_length, mkB_size]
    by_cases h8 : w.length ≤ 8
    case neg =>
      rw [decide_eq_true (p := (w.length : Int) > 8) (by omega), if_neg (fun h => h8 (okw_iff.1 h).2)]
      rfl
    rw [decide_eq_false (p := (w.length : Int) > 8) (by omega), itoaM_nat (Nat.lt_of_le_of_lt hv (by decide))]
    simp only [cond_false, Option.bind_some]
    rw [beq_bl, bl_mk, bl_mk]
    by_cases hq : Lib.decDigits (valD w) = w
    · rw [decide_eq_true hq, if_pos (okw_iff.2 ⟨hq, h8⟩)]; rfl
    · rw [decide_eq_false hq, if_neg (fun h => hq (okw_iff.1 h).1)]; rfl
abbrev ofN (ns : List Nat) : List Int := ns.map Int.ofNat
theorem getD_ofN {ns : List Nat} {i : Nat} (h : i < ns.length) : List.getD (ofN ns) i 0 = ((ns[i] : Nat) : Int) := by
  rw [getD_at (by simpa using h)]; simp
def ln3 (word : List UInt8) (a b c : Nat) : List UInt8 := jn 32 [word, Lib.decDigits a, Lib.decDigits b, Lib.decDigits c]
theorem ln3_eq (word : List UInt8) (a b c : Nat) : ln3 word a b c = word ++ 32 :: (Lib.decDigits a ++ 32 :: (Lib.decDigits b ++ 32 :: Lib.decDigits c)) := rfl
def Sm (a b c : Nat) : Prop := a < 100000000 ∧ b < 100000000 ∧ c < 100000000
theorem ln3_len {word : List UInt8} {a b c : Nat} (h : Sm a b c) : (ln3 word a b c).length ≤ word.length + 27 := by
  have h1 := dd8 h.1; have h2 := dd8 h.2.1; have h3 := dd8 h.2.2
  rw [ln3_eq]
  simp only [List.length_append, List.length_cons]
  omega
theorem line_eq {word : List UInt8} {a b c : Nat} (hw : word.length ≤ 10) (h : Sm a b c) : G24 (mkB word) (ofN [a, b, c]) = some (mkB (ln3 word a b c ++ [10])) := by
  have h1 := dd8 h.1; have h2 := dd8 h.2.1; have h3 := dd8 h.2.2
  have h32 : (⟨#[32]⟩ : ByteArray) = mkB [32] := rfl
  have h10 : (⟨#[10]⟩ : ByteArray) = mkB [10] := rfl
  have st : ∀ (i : Nat) (out : List UInt8) (n : Nat), i < 3 → ([a, b, c]).getD i 0 = n → n < 100000000 → out.length ≤ 100 → G24_l0_step ((mkB out, (ofN [a, b, c], ((3 : Int), ((i : Int), ())))), ()) = some (0, ((mkB (out ++ 32 :: Lib.decDigits n), (ofN [a, b, c], ((3 : Int), (((i + 1 : Nat) : Int), ())))), ())) := fun i out n hi hn hn8 ho => by
    unfold G24_l0_step
    have hd := dd8 hn8
    rw [getD_at (by simpa using hi)] at hn
    simp only
    rw [decide_eq_true (p := (i : Int) < 3) (by omega), ge0, show (List.length (ofN [a, b, c]) : Int) = 3 from rfl, decide_eq_true (p := (i : Int) < 3) (by omega)]
    simp only [cond_true, Bool.and_self, getD_toNat]
    rw [getD_ofN (by simpa using hi), hn, itoaM_nat (Nat.lt_trans hn8 (by decide))]
    simp only [Option.bind_some, h32, mkB_size, app_mk, List.length_append, List.length_singleton]
    rw [lim_le (by omega), lim_le (by omega), wr1 (i := i) (by omega)]
    rfl
  have s0 := st 0 word a (by omega) rfl h.1 (by omega)
  have s1 := st 1 (word ++ 32 :: Lib.decDigits a) b (by omega) rfl h.2.1 (by simp; omega)
  have s2 := st 2 (word ++ 32 :: Lib.decDigits a ++ 32 :: Lib.decDigits b) c (by omega) rfl h.2.2 (by simp; omega)
  have s3 : G24_l0_step ((mkB (word ++ 32 :: Lib.decDigits a ++ 32 :: Lib.decDigits b ++ 32 :: Lib.decDigits c), (ofN [a, b, c], ((3 : Int), (((2 + 1 : Nat) : Int), ())))), ()) = some (1, ((mkB (word ++ 32 :: Lib.decDigits a ++ 32 :: Lib.decDigits b ++ 32 :: Lib.decDigits c), (ofN [a, b, c], ((3 : Int), ((3 : Int), ())))), ())) := rfl
  unfold G24 G24_l0_run
  rw [show G24_l0_fuel ((mkB word, (ofN [a, b, c], ((List.length (ofN [a, b, c]) : Int), ((0 : Int), ())))), ()) = 4 from rfl]
  rw [show iter G24_l0_step 4 ((mkB word, (ofN [a, b, c], ((List.length (ofN [a, b, c]) : Int), ((0 : Int), ())))), ()) = _ from (iter_one s0).trans ((iter_one s1).trans ((iter_one s2).trans (iter_out s3)))]
  simp only [Option.bind_some, h10, mkB_size, app_mk]
  rw [lim_le (by simp; omega), ln3_eq]
  simp
def bsum : List UInt8 → Nat
  | [] => 0
  | b :: l => b.toNat + bsum l
theorem bsum_app : ∀ (l m : List UInt8), bsum (l ++ m) = bsum l + bsum m
  | [], m => by simp [bsum]
  | b :: l, m => by rw [List.cons_append, bsum, bsum, bsum_app l m]; omega
theorem bsum_take {l : List UInt8} {i : Nat} (h : i < l.length) : bsum (l.take (i + 1)) = bsum (l.take i) + (l[i]).toNat := by
  rw [take_next h, bsum_app]; simp [bsum]
def hexL : List UInt8 := [48, 49, 50, 51, 52, 53, 54, 55, 56, 57, 97, 98, 99, 100, 101, 102]
def hx (d : Nat) : UInt8 := hexL.getD d 0
def endB (body : List UInt8) : List UInt8 := [101, 110, 100, 32] ++ [hx (bsum body % 251 / 16), hx (bsum body % 251 % 16)] ++ [10]
theorem endB_len (body : List UInt8) : (endB body).length = 7 := rfl
theorem hex_ext {d : Nat} (h : d < 16) : ByteArray.extract (⟨#[48, 49, 50, 51, 52, 53, 54, 55, 56, 57, 97, 98, 99, 100, 101, 102]⟩ : ByteArray) d (d + 1) = mkB [hx d] := by
  have : ∀ d, d < 16 → bl (ByteArray.extract (⟨#[48, 49, 50, 51, 52, 53, 54, 55, 56, 57, 97, 98, 99, 100, 101, 102]⟩ : ByteArray) d (d + 1)) = [hx d] := by
    intro d hd
    rw [bl_ext]
    show List.take (d + 1 - d) (List.drop d hexL) = [hx d]
    rw [show d + 1 - d = 1 by omega, List.drop_eq_getElem_cons (show d < hexL.length from hd), List.take_succ_cons, List.take_zero]
    unfold hx
    rw [getD_at (show d < hexL.length from hd)]
  exact bl_inj (by rw [this d h, bl_mk])
theorem end16_eq {body : List UInt8} (hb : body.length ≤ 10 ^ 6) : G25 (mkB body) = some (mkB (endB body)) := by
  unfold G25
  let F : Nat → ((ByteArray × (Int × (Int × (Int × Unit)))) × Unit) := fun i => ((mkB body, (((bsum (body.take i) % 251 : Nat) : Int), ((body.length : Int), ((i : Int), ())))), ())
  have hrun : G25_l0_run ((mkB body, (0, ((ByteArray.size (mkB body) : Int), (0, ())))), ()) = some (0, F body.length) := by
    unfold G25_l0_run
    rw [mkB_size, show ((mkB body, ((0 : Int), ((body.length : Int), ((0 : Int), ())))), ()) = F 0 by simp [F, bsum]]
    refine iter_run (n := body.length) F _ (fun i hi => ?_) ?_ ?_
    · unfold G25_l0_step
      simp only [F]
      rw [mkB_size, decide_eq_true (p := (i : Int) < (body.length : Int)) (by omega), ge0, bt_mk hi]
      simp only [cond_true, Bool.and_self]
      have hlt := UInt8.toNat_lt (body[i])
      have hm := Nat.mod_lt (bsum (body.take i)) (show 0 < 251 by decide)
      have e1 : ((bsum (body.take i) % 251 : Nat) : Int) + ((body[i]).toNat : Int) = ((bsum (body.take i) % 251 + (body[i]).toNat : Nat) : Int) := by omega
      have e2 : Int.tmod ((bsum (body.take i) % 251 + (body[i]).toNat : Nat) : Int) 251 = (((bsum (body.take i) % 251 + (body[i]).toNat) % 251 : Nat) : Int) := rfl
      rw [wr (n := ((body[i]).toNat : Int)) (by omega) (by omega), e1, wr (by omega) (by omega), e2, wr1 (i := i) (by omega), bsum_take hi]
      congr 6
      rw [Nat.mod_add_mod]
    · unfold G25_l0_step
      simp only [F]
      rw [decide_eq_false (p := (body.length : Int) < (body.length : Int)) (by omega)]
      rfl
    · unfold G25_l0_fuel
      simp only [F]
      omega
  rw [hrun]
  simp only [Option.bind_some, F, List.take_length]
  have hm := Nat.mod_lt (bsum body) (show 0 < 251 by decide)
  generalize hs : bsum body % 251 = s at hm
  have hsz : (ByteArray.size (⟨#[48, 49, 50, 51, 52, 53, 54, 55, 56, 57, 97, 98, 99, 100, 101, 102]⟩ : ByteArray) : Int) = 16 := rfl
  have e1 : Int.tdiv (s : Int) 16 = ((s / 16 : Nat) : Int) := rfl
  have e2 : Int.tmod (s : Int) 16 = ((s % 16 : Nat) : Int) := rfl
  have h16 : s / 16 < 16 := by omega
  have h16' : s % 16 < 16 := Nat.mod_lt _ (by decide)
  rw [e1, e2, wr (n := ((s / 16 : Nat) : Int)) (by omega) (by omega), wr1 (i := s / 16) (by omega), wr1 (i := s % 16) (by omega), hsz]
  simp only [Int.toNat_natCast]
  have x1 := hex_ext h16
  have x2 := hex_ext h16'
  simp only [x1, x2, show (⟨#[101, 110, 100, 32]⟩ : ByteArray) = mkB [101, 110, 100, 32] from rfl, show (⟨#[10]⟩ : ByteArray) = mkB [10] from rfl, app_mk, mkB_size, List.length_append, List.length_cons, List.length_nil]
  rw [decide_eq_true (p := (0 : Int) ≤ ((s / 16 : Nat) : Int)) (by omega), decide_eq_true (p := ((s / 16 : Nat) : Int) ≤ ((s / 16 + 1 : Nat) : Int)) (by omega), decide_eq_true (p := ((s / 16 + 1 : Nat) : Int) ≤ 16) (by omega),
    decide_eq_true (p := (0 : Int) ≤ ((s % 16 : Nat) : Int)) (by omega), decide_eq_true (p := ((s % 16 : Nat) : Int) ≤ ((s % 16 + 1 : Nat) : Int)) (by omega), decide_eq_true (p := ((s % 16 + 1 : Nat) : Int) ≤ 16) (by omega)]
  rw [lim_le (by omega), lim_le (by omega), lim_le (by omega)]
  simp only [Bool.and_self, cond_true, endB, hs]
  rfl
end Go.Proofs.YtbidmbjkjpdgdaaGreatDoor.Abs
set_option linter.unusedVariables false
set_option linter.unusedSimpArgs false
set_option maxRecDepth 100000
namespace Go.Proofs.YtbidmbjkjpdgdaaGreatDoor.Abs
theorem dg_ne {b : UInt8} (hb : isDg b) : b ≠ 32 ∧ b ≠ 10 := by
  unfold isDg at hb
  constructor <;> (intro h; subst h; revert hb; decide)
theorem dd_no (n : Nat) : (32 : UInt8) ∉ Lib.decDigits n ∧ (10 : UInt8) ∉ Lib.decDigits n := ⟨fun h => (dg_ne (dd_dg n _ h)).1 rfl, fun h => (dg_ne (dd_dg n _ h)).2 rfl⟩
theorem spl_ln3 {word : List UInt8} (h : (32 : UInt8) ∉ word) (a b c : Nat) : spl 32 (ln3 word a b c) = [word, Lib.decDigits a, Lib.decDigits b, Lib.decDigits c] := by
  refine spl_jn (by simp) fun x hx => ?_
  simp only [List.mem_cons, List.not_mem_nil, or_false] at hx
  rcases hx with rfl | rfl | rfl | rfl
  · exact h
  · exact (dd_no a).1
  · exact (dd_no b).1
  · exact (dd_no c).1
theorem ln3_no10 {word : List UInt8} (h : (10 : UInt8) ∉ word) (a b c : Nat) : (10 : UInt8) ∉ ln3 word a b c := by
  rw [ln3_eq]
  intro hm
  simp only [List.mem_append, List.mem_cons] at hm
  have e : ¬ (10 : UInt8) = 32 := by decide
  rcases hm with hm | hm | hm | hm | hm | hm | hm
  · exact h hm
  · exact e hm
  · exact (dd_no a).2 hm
  · exact e hm
  · exact (dd_no b).2 hm
  · exact e hm
  · exact (dd_no c).2 hm
theorem ln3_inj {word : List UInt8} (h : (32 : UInt8) ∉ word) {a b c a' b' c' : Nat} (e : ln3 word a b c = ln3 word a' b' c') : a = a' ∧ b = b' ∧ c = c' := by
  have h1 := spl_ln3 h a b c
  rw [e, spl_ln3 h] at h1
  simp only [List.cons.injEq, and_true, true_and] at h1
  exact ⟨(dd_inj h1.1).symm, (dd_inj h1.2.1).symm, (dd_inj h1.2.2).symm⟩
theorem sep_uniq {c : UInt8} : ∀ {a b r s : List UInt8}, c ∉ a → c ∉ b → a ++ c :: r = b ++ c :: s → a = b ∧ r = s
  | [], [], r, s, _, _, h => ⟨rfl, by simpa using h⟩
  | [], y :: b, r, s, _, hb, h => by
    rw [List.nil_append, List.cons_append, List.cons.injEq] at h
    exact absurd (h.1 ▸ List.mem_cons_self) hb
  | x :: a, [], r, s, ha, _, h => by
    rw [List.nil_append, List.cons_append, List.cons.injEq] at h
    exact absurd (h.1 ▸ List.mem_cons_self) ha
  | x :: a, y :: b, r, s, ha, hb, h => by
    rw [List.cons_append, List.cons_append, List.cons.injEq] at h
    obtain ⟨e1, e2⟩ := sep_uniq (fun hm => ha (List.mem_cons_of_mem _ hm)) (fun hm => hb (List.mem_cons_of_mem _ hm)) h.2
    exact ⟨by rw [h.1, e1], e2⟩
theorem ln_uniq {word : List UInt8} (h32 : (32 : UInt8) ∉ word) (h10 : (10 : UInt8) ∉ word) {a b c a' b' c' : Nat} {r r' : List UInt8} (e : ln3 word a b c ++ 10 :: r = ln3 word a' b' c' ++ 10 :: r') : a = a' ∧ b = b' ∧ c = c' ∧ r = r' := by
  obtain ⟨e1, e2⟩ := sep_uniq (ln3_no10 h10 a b c) (ln3_no10 h10 a' b' c') e
  obtain ⟨h1, h2, h3⟩ := ln3_inj h32 e1
  exact ⟨h1, h2, h3, e2⟩
abbrev RR := (Int × (((List E65) × ((Int × (Int × Unit)) × Unit)) × Unit))
theorem numbers_eq {word : List UInt8} (h32 : (32 : UInt8) ∉ word) (h10 : (10 : UInt8) ∉ word) {t : List UInt8} (ht : t.length < 2 ^ 31) (R : RR) :
    (∃ a b c r, t = ln3 word a b c ++ 10 :: r ∧ Sm a b c ∧ G58 (mkB word) (mkB t, R) = some (.inr (((a : Int) :: ((b : Int) :: ((c : Int) :: []))), ((mkB r, R), ())))) ∨
    ((∀ a b c r, Sm a b c → t ≠ ln3 word a b c ++ 10 :: r) ∧ ∃ z, G58 (mkB word) (mkB t, R) = some (.inl ((), (z, ())))) := by
  unfold G58
  simp only
  rcases split_at (c := 10) t with hf | ⟨l, r, hl, e⟩
  · refine .inr ⟨fun a b c r _ h => hf (by rw [h]; simp), (mkB t, R), ?_⟩
    simp only [cut_free (s := mkB t) hf, Option.bind_some, split_eq (s := mkB t) 32 (by rw [mkB_size]; exact ht)]
    rfl
  have hll : l.length + (r.length + 1) = t.length := by rw [e]; simp
  simp only [cut_sep (s := mkB t) hl e (by rw [mkB_size]; exact ht), Option.bind_some, split_eq (s := mkB l) 32 (by rw [mkB_size]; omega), bl_mk, Bool.not_true, cond_false, List.length_map]
  have pre : ∀ a b c r', t = ln3 word a b c ++ 10 :: r' → spl 32 l = [word, Lib.decDigits a, Lib.decDigits b, Lib.decDigits c] := fun a b c r' h => by
    obtain ⟨h1, _⟩ := sep_uniq hl (ln3_no10 h10 a b c) (e.symm.trans h)
    rw [h1]; exact spl_ln3 h32 a b c
  by_cases hn : (spl 32 l).length = 4
  case neg =>
    rw [show (((spl 32 l).length : Int) != 4) = true from bne_iff_ne.2 (by omega)]
    refine .inr ⟨fun a b c r' _ h => hn ?_, _, rfl⟩
    rw [pre a b c r' h]; rfl
  obtain ⟨w0, w1, w2, w3, hP⟩ : ∃ w0 w1 w2 w3, spl 32 l = [w0, w1, w2, w3] := by
    match spl 32 l, hn with
    | [w0, w1, w2, w3], _ => exact ⟨w0, w1, w2, w3, rfl⟩
  have hpl : ∀ w ∈ spl 32 l, w.length < 2 ^ 31 := fun w hw => by have := part_len 32 l w hw; omega
  rw [hP] at pre hpl
  rw [hP]
  have hw1 := hpl w1 (by simp)
  have hw2 := hpl w2 (by simp)
  have hw3 := hpl w3 (by simp)
  simp only [List.length_cons, List.length_nil, List.map_cons, List.map_nil, Int.toNat_zero, show Int.toNat 1 = 1 from rfl, show Int.toNat 2 = 2 from rfl, show Int.toNat 3 = 3 from rfl, List.getD_cons_zero, List.getD_cons_succ]
  simp only [show (((0 + 1 + 1 + 1 + 1 : Nat) : Int) != 4) = false from rfl, show decide ((0 : Int) < ((0 + 1 + 1 + 1 + 1 : Nat) : Int)) = true from rfl, show decide ((1 : Int) < ((0 + 1 + 1 + 1 + 1 : Nat) : Int)) = true from rfl, show decide ((2 : Int) < ((0 + 1 + 1 + 1 + 1 : Nat) : Int)) = true from rfl, show decide ((3 : Int) < ((0 + 1 + 1 + 1 + 1 : Nat) : Int)) = true from rfl,
    show decide ((0 : Int) ≤ 0) = true from rfl, show decide ((0 : Int) ≤ 1) = true from rfl, show decide ((0 : Int) ≤ 2) = true from rfl, show decide ((0 : Int) ≤ 3) = true from rfl, Bool.and_self, cond_true, cond_false]
  rw [beq_bl, bl_mk, bl_mk]
  by_cases hw0 : w0 = word
  case neg =>
    rw [decide_eq_false hw0]
    refine .inr ⟨fun a b c r' _ h => hw0 ?_, _, rfl⟩
    have := pre a b c r' h
    simp only [List.cons.injEq, and_true] at this
    exact this.1
  rw [decide_eq_true hw0]
  simp only [Bool.not_true, cond_false, number_eq _ hw1, number_eq _ hw2, number_eq _ hw3, Option.bind_some]
  have no : ∀ (w : List UInt8), (w = w1 ∨ w = w2 ∨ w = w3) → ¬ okw w = true → ∀ a b c r, Sm a b c → t ≠ ln3 word a b c ++ 10 :: r := fun w hw hk a b c r' hs h => by
    have := pre a b c r' h
    simp only [List.cons.injEq, and_true] at this
    rcases hw with rfl | rfl | rfl
    · rw [this.2.1] at hk; exact hk (okw_dd hs.1)
    · rw [this.2.2.1] at hk; exact hk (okw_dd hs.2.1)
    · rw [this.2.2.2] at hk; exact hk (okw_dd hs.2.2)
  by_cases k1 : okw w1 = true
  case neg =>
    simp only [if_neg k1, altK]
    exact .inr ⟨no w1 (.inl rfl) k1, _, rfl⟩
  simp only [if_pos k1, altK]
  by_cases k2 : okw w2 = true
  case neg =>
    simp only [if_neg k2]
    exact .inr ⟨no w2 (.inr (.inl rfl)) k2, _, rfl⟩
  simp only [if_pos k2]
  by_cases k3 : okw w3 = true
  case neg =>
    simp only [if_neg k3]
    exact .inr ⟨no w3 (.inr (.inr rfl)) k3, _, rfl⟩
  simp only [if_pos k3]
  refine .inl ⟨valD w1, valD w2, valD w3, r, ?_, ⟨okw_lt k1, okw_lt k2, okw_lt k3⟩, rfl⟩
  rw [e]
  congr 1
  rw [← jn_spl 32 l, hP, hw0]
  unfold ln3
  rw [(okw_iff.1 k1).1, (okw_iff.1 k2).1, (okw_iff.1 k3).1]
abbrev WHole : List UInt8 := [104, 111, 108, 101]
abbrev WLayer : List UInt8 := [108, 97, 121, 101, 114]
theorem holeS : (32 : UInt8) ∉ WHole ∧ (10 : UInt8) ∉ WHole := by decide
theorem layerS : (32 : UInt8) ∉ WLayer ∧ (10 : UInt8) ∉ WLayer := by decide
theorem hole_eq {t : List UInt8} (ht : t.length < 2 ^ 31) (x : Int) (ls : List E65) (sp : Int × (Int × Unit)) :
    (∃ a b c r, t = ln3 WHole a b c ++ 10 :: r ∧ Sm a b c ∧ G30 (mkB t, (x, ((ls, (sp, ())), ()))) = some (.inr ((), ((mkB r, ((a : Int), ((ls, (((b : Int), ((c : Int), ())), ())), ()))), ())))) ∨
    ((∀ a b c r, Sm a b c → t ≠ ln3 WHole a b c ++ 10 :: r) ∧ ∃ z, G30 (mkB t, (x, ((ls, (sp, ())), ()))) = some (.inl ((), (z, ())))) := by
  unfold G30
  rcases numbers_eq holeS.1 holeS.2 ht (x, ((ls, (sp, ())), ())) with ⟨a, b, c, r, h1, h2, h3⟩ | ⟨h1, z, h3⟩
  · refine .inl ⟨a, b, c, r, h1, h2, ?_⟩
    rw [show (⟨#[104, 111, 108, 101]⟩ : ByteArray) = mkB WHole from rfl, h3]
    rfl
  · refine .inr ⟨h1, z, ?_⟩
    rw [show (⟨#[104, 111, 108, 101]⟩ : ByteArray) = mkB WHole from rfl, h3]
    rfl
def encL (y : Nat × Nat × Nat) : E65 := ((y.1 : Int), (((y.2.1 : Int), ((y.2.2 : Int), ())), ()))
theorem layer_eq {t : List UInt8} (ht : t.length < 2 ^ 31) (x : Int) (ls : List E65) (hls : ls.length ≤ 2 ^ 32) (sp : Int × (Int × Unit)) :
    (∃ a b c r, t = ln3 WLayer a b c ++ 10 :: r ∧ Sm a b c ∧ G31 (mkB t, (x, ((ls, (sp, ())), ()))) = some (.inr ((), ((mkB r, (x, ((ls ++ [encL (a, b, c)], (sp, ())), ()))), ())))) ∨
    ((∀ a b c r, Sm a b c → t ≠ ln3 WLayer a b c ++ 10 :: r) ∧ ∃ z, G31 (mkB t, (x, ((ls, (sp, ())), ()))) = some (.inl ((), (z, ())))) := by
  unfold G31
  rcases numbers_eq layerS.1 layerS.2 ht (x, ((ls, (sp, ())), ())) with ⟨a, b, c, r, h1, h2, h3⟩ | ⟨h1, z, h3⟩
  · refine .inl ⟨a, b, c, r, h1, h2, ?_⟩
    rw [show (⟨#[108, 97, 121, 101, 114]⟩ : ByteArray) = mkB WLayer from rfl, h3]
    simp only [Option.bind_some, altK, List.length_singleton]
    rw [lim_le (by omega)]
    rfl
  · refine .inr ⟨h1, z, ?_⟩
    rw [show (⟨#[108, 97, 121, 101, 114]⟩ : ByteArray) = mkB WLayer from rfl, h3]
    rfl
def cat (ls : List (List UInt8)) : List UInt8 := (ls.map (· ++ [10])).flatten
theorem cat_cons (l : List UInt8) (ls : List (List UInt8)) : cat (l :: ls) = l ++ 10 :: cat ls := by simp [cat]
theorem cat_app (a b : List (List UInt8)) : cat (a ++ b) = cat a ++ cat b := by simp [cat]
theorem cat_one (l : List UInt8) : cat [l] = l ++ [10] := by simp [cat]
def layL (ys : List (Nat × Nat × Nat)) : List (List UInt8) := ys.map fun y => ln3 WLayer y.1 y.2.1 y.2.2
theorem lay_cons (y : Nat × Nat × Nat) (ys : List (Nat × Nat × Nat)) (r : List UInt8) : cat (layL (y :: ys)) ++ r = ln3 WLayer y.1 y.2.1 y.2.2 ++ 10 :: (cat (layL ys) ++ r) := by
  unfold layL; rw [List.map_cons, cat_cons]; simp
def FineY (ys : List (Nat × Nat × Nat)) : Prop := ∀ y ∈ ys, Sm y.1 y.2.1 y.2.2
abbrev tS (n i : Nat) (t : List UInt8) (x : Int) (ls : List E65) (sp : Int × (Int × Unit)) : (Int × (Int × Unit)) × ((ByteArray × (Int × (((List E65) × ((Int × (Int × Unit)) × Unit)) × Unit))) × Unit) :=
  (((n : Int), ((i : Int), ())), ((mkB t, (x, ((ls, (sp, ())), ()))), ()))
theorem times_l0 {n : Nat} (hn : n < 100000000) (x : Int) (sp : Int × (Int × Unit)) : ∀ (k i : Nat) (ls : List E65) (t : List UInt8) (fuel : Nat), i + k = n → k < fuel → ls.length ≤ i → t.length < 2 ^ 31 →
    (∃ ys r, ys.length = k ∧ FineY ys ∧ t = cat (layL ys) ++ r ∧ iter G29_v1_l0_step fuel (tS n i t x ls sp) = some (1, tS n n r x (ls ++ ys.map encL) sp)) ∨
    ((∀ ys r, ys.length = k → FineY ys → t ≠ cat (layL ys) ++ r) ∧ ∃ z, iter G29_v1_l0_step fuel (tS n i t x ls sp) = some (0, z))
  | _, _, _, _, 0, _, hf, _, _ => by omega
  | 0, i, ls, t, fuel + 1, hi, hf, ha, ht => by
    obtain rfl : i = n := by omega
    refine .inl ⟨[], t, rfl, (fun y hy => absurd hy (by simp)), by simp [layL, cat], iter_out ?_⟩
    unfold G29_v1_l0_step
    simp only [tS]
    rw [decide_eq_false (p := (i : Int) < (i : Int)) (by omega)]
    simp
  | k + 1, i, ls, t, fuel + 1, hi, hf, ha, ht => by
    have hstep : G29_v1_l0_step (tS n i t x ls sp) = G29_v1_l0_step (tS n i t x ls sp) := rfl
    conv at hstep => rhs; unfold G29_v1_l0_step
    simp only [tS] at hstep
    rw [decide_eq_true (p := (i : Int) < (n : Int)) (by omega)] at hstep
    simp only [cond_true] at hstep
    rcases layer_eq ht x ls (by omega) sp with ⟨a, b, c, r, e1, e2, e3⟩ | ⟨e1, z, e3⟩
    · rw [e3] at hstep
      simp only [Option.bind_some, altK] at hstep
      rw [wr1 (i := i) (by omega)] at hstep
      have hrl : r.length < 2 ^ 31 := by rw [e1] at ht; simp at ht; omega
      rcases times_l0 hn x sp k (i + 1) (ls ++ [encL (a, b, c)]) r fuel (by omega) (by omega) (by simp; omega) hrl with ⟨ys, r', h1, h2, h3, h4⟩ | ⟨h1, z, h4⟩
      · refine .inl ⟨(a, b, c) :: ys, r', by simp [h1], fun y hy => ?_, ?_, (iter_one hstep).trans (h4.trans ?_)⟩
        · rcases List.mem_cons.1 hy with rfl | hy
          · exact e2
          · exact h2 y hy
        · rw [lay_cons, ← h3, e1]
        · rw [List.append_assoc]; rfl
      · refine .inr ⟨fun ys r' h5 h6 h7 => ?_, z, (iter_one hstep).trans h4⟩
        cases ys with
        | nil => simp at h5
        | cons y ys =>
          rw [lay_cons, e1] at h7
          obtain ⟨_, _, _, h8⟩ := ln_uniq layerS.1 layerS.2 h7
          exact h1 ys r' (by simpa using h5) (fun q hq => h6 q (List.mem_cons_of_mem _ hq)) h8
    · rw [e3] at hstep
      simp only [Option.bind_some, altK] at hstep
      refine .inr ⟨fun ys r' h5 h6 h7 => ?_, _, iter_out hstep⟩
      cases ys with
      | nil => simp at h5
      | cons y ys =>
        rw [lay_cons] at h7
        exact e1 _ _ _ _ (h6 y List.mem_cons_self) h7
theorem lay_uniq : ∀ {xs ys : List (Nat × Nat × Nat)} {u v : List UInt8}, xs.length = ys.length → cat (layL xs) ++ u = cat (layL ys) ++ v → xs = ys ∧ u = v
  | [], [], u, v, _, h => ⟨rfl, by simpa [layL, cat] using h⟩
  | [], y :: ys, u, v, h1, h => by simp at h1
  | x :: xs, [], u, v, h1, h => by simp at h1
  | x :: xs, y :: ys, u, v, h1, h => by
    rw [lay_cons, lay_cons] at h
    obtain ⟨h2, h3, h4, h5⟩ := ln_uniq layerS.1 layerS.2 h
    obtain ⟨h6, h7⟩ := lay_uniq (by simpa using h1) h5
    refine ⟨?_, h7⟩
    rw [h6]
    congr 1
    exact Prod.ext h2 (Prod.ext h3 h4)
structure Lg where
  lo : Nat
  hi : Nat
  ys : List (Nat × Nat × Nat)
def Lg.Fine (f : Lg) : Prop := f.lo < 100000000 ∧ f.hi < 100000000 ∧ f.ys.length < 100000000 ∧ FineY f.ys
def bodyL (f : Lg) : List (List UInt8) := ln3 WHole f.ys.length f.lo f.hi :: layL f.ys
def body (f : Lg) : List UInt8 := cat (bodyL f)
def log (f : Lg) : List UInt8 := body f ++ endB (body f)
def encP (f : Lg) : E25 := (f.ys.map encL, (((f.lo : Int), ((f.hi : Int), ())), ()))
theorem log_eq (f : Lg) : log f = ln3 WHole f.ys.length f.lo f.hi ++ 10 :: (cat (layL f.ys) ++ endB (body f)) := by
  have hb : body f = ln3 WHole f.ys.length f.lo f.hi ++ 10 :: cat (layL f.ys) := by
    unfold body bodyL
    rw [cat_cons]
  show body f ++ endB (body f) = _
  generalize endB (body f) = e
  rw [hb, List.append_assoc, List.cons_append]
theorem trim_eq (a r : List UInt8) (hl : (a ++ r).length ≤ 10 ^ 6) : G32 (mkB (a ++ r)) (mkB r) = some (mkB a) := by
  have h1 : (a ++ r).length = a.length + r.length := List.length_append
  have hw : IntKind.wrap .i64 (((a ++ r).length : Int) - (r.length : Int)) = (a.length : Int) := by rw [wr (by omega) (by omega)]; omega
  have hs : G77 (mkB (a ++ r)) (mkB r) = some true := by
    unfold G77
    rw [mkB_size, mkB_size, hw, decide_eq_true (p := ((a ++ r).length : Int) ≥ (r.length : Int)) (by omega), ge0, decide_eq_true (p := (a.length : Int) ≤ ((a ++ r).length : Int)) (by omega), decide_eq_true (p := ((a ++ r).length : Int) ≤ ((a ++ r).length : Int)) (Int.le_refl _)]
    simp only [Bool.and_self, cond_true, Int.toNat_natCast]
    rw [ext_mk, beq_bl, bl_mk, bl_mk, bl_mk, List.drop_left, List.take_of_length_le (by omega), decide_eq_true rfl]
  have e : G59 (mkB (a ++ r)) (mkB r) = some (mkB a) := by
    unfold G59
    rw [hs]
    simp only [Option.bind_some, cond_true]
    rw [mkB_size, mkB_size, hw, show decide ((0 : Int) ≤ 0) = true from rfl, decide_eq_true (p := (0 : Int) ≤ (a.length : Int)) (by omega), decide_eq_true (p := (a.length : Int) ≤ ((a ++ r).length : Int)) (by omega)]
    simp only [Bool.and_self, cond_true, Int.toNat_natCast, Int.toNat_zero]
    rw [ext_mk, bl_mk, List.drop_zero, Nat.sub_zero, List.take_left]
  unfold G32
  rw [e]; rfl
abbrev zP : E25 := ([], ((0, (0, ())), ()))
theorem read_eq {t : List UInt8} (ht : t.length ≤ 5000) :
    (∃ f : Lg, f.Fine ∧ t = log f ∧ G9 (mkB t) = some (if okPl (encP f) = true then (encP f, (0, ())) else (zP, (2, ())))) ∨ ((∀ f : Lg, f.Fine → t ≠ log f) ∧ G9 (mkB t) = some (zP, (4, ()))) := by
  unfold G9
  rw [decide_eq_false (p := (ByteArray.size (mkB t) : Int) > 5000) (by rw [mkB_size]; omega), cond_false]
  rcases hole_eq (t := t) (by omega) 0 [] (0, (0, ())) with ⟨n, lo, hi, r, e1, e2, e3⟩ | ⟨e1, z, e3⟩
  case inr =>
    have h1 : G29 1 (mkB t, (0, (([], ((0, (0, ())), ())), ()))) = some (.inl ((), (z, ()))) := by
      unfold G29 G29_l0_run
      rw [show G29_l0_fuel (((1 : Int), ((0 : Int), ())), ((mkB t, ((0 : Int), ((([] : List E65), (((0 : Int), ((0 : Int), ())), ())), ()))), ())) = 2 from rfl]
      rw [show iter G29_l0_step 2 (((1 : Int), ((0 : Int), ())), ((mkB t, ((0 : Int), ((([] : List E65), (((0 : Int), ((0 : Int), ())), ())), ()))), ())) = some (0, (((1 : Int), ((0 : Int), ())), (z, ()))) from iter_out (by
        unfold G29_l0_step
        simp only [show decide ((0 : Int) < 1) = true from rfl, cond_true, e3, Option.bind_some, altK])]
      rfl
    rw [h1]
    refine .inr ⟨fun f hf h => ?_, rfl⟩
    rw [log_eq] at h
    exact e1 _ _ _ _ ⟨hf.2.2.1, hf.1, hf.2.1⟩ h
  have h1 : G29 1 (mkB t, (0, (([], ((0, (0, ())), ())), ()))) = some (.inr ((), ((mkB r, ((n : Int), (([], (((lo : Int), ((hi : Int), ())), ())), ()))), ()))) := by
    unfold G29 G29_l0_run
    rw [show G29_l0_fuel (((1 : Int), ((0 : Int), ())), ((mkB t, ((0 : Int), ((([] : List E65), (((0 : Int), ((0 : Int), ())), ())), ()))), ())) = 2 from rfl]
    rw [show iter G29_l0_step 2 (((1 : Int), ((0 : Int), ())), ((mkB t, ((0 : Int), ((([] : List E65), (((0 : Int), ((0 : Int), ())), ())), ()))), ())) = some (1, (((1 : Int), ((1 : Int), ())), ((mkB r, ((n : Int), (([], (((lo : Int), ((hi : Int), ())), ())), ()))), ()))) from
      (iter_one (s' := (((1 : Int), ((1 : Int), ())), ((mkB r, ((n : Int), (([], (((lo : Int), ((hi : Int), ())), ())), ()))), ()))) (by
        unfold G29_l0_step
        simp only [show decide ((0 : Int) < 1) = true from rfl, cond_true, e3, Option.bind_some, altK]
        rfl)).trans (iter_out (by
        unfold G29_l0_step
        simp only [show decide ((1 : Int) < 1) = false from rfl, cond_false]))]
    rfl
  rw [h1]
  simp only [Option.bind_some, altK]
  have hrl : r.length + 1 ≤ t.length := by rw [e1]; simp
  have inHead : ∀ f : Lg, t = log f → n = f.ys.length ∧ lo = f.lo ∧ hi = f.hi ∧ r = cat (layL f.ys) ++ endB (body f) := fun f h => by
    rw [log_eq, e1] at h
    exact ln_uniq holeS.1 holeS.2 h
  rcases times_l0 (n := n) e2.1 (n : Int) ((lo : Int), ((hi : Int), ())) n 0 [] r (n + 1) (by omega) (by omega) (by simp) (by omega) with ⟨ys, r1, s1, s2, s3, s4⟩ | ⟨s1, z, s4⟩
  case inr =>
    have h2 : G29_v1 (n : Int) (mkB r, ((n : Int), (([], (((lo : Int), ((hi : Int), ())), ())), ()))) = some (.inl ((), (z.2.1, ()))) := by
      unfold G29_v1 G29_v1_l0_run
      rw [show (((n : Int), ((0 : Int), ())), ((mkB r, ((n : Int), ((([] : List E65), (((lo : Int), ((hi : Int), ())), ())), ()))), ())) = tS n 0 r (n : Int) [] ((lo : Int), ((hi : Int), ())) from rfl, show G29_v1_l0_fuel (tS n 0 r (n : Int) [] ((lo : Int), ((hi : Int), ()))) = n + 1 by unfold G29_v1_l0_fuel; simp only [tS]; omega, s4]
      rfl
    rw [h2]
    refine .inr ⟨fun f hf h => ?_, rfl⟩
    obtain ⟨h5, _, _, h6⟩ := inHead f h
    exact s1 f.ys _ h5.symm hf.2.2.2 h6
  have h2 : G29_v1 (n : Int) (mkB r, ((n : Int), (([], (((lo : Int), ((hi : Int), ())), ())), ()))) = some (.inr ((), ((mkB r1, ((n : Int), ((ys.map encL, (((lo : Int), ((hi : Int), ())), ())), ()))), ()))) := by
    unfold G29_v1 G29_v1_l0_run
    rw [show (((n : Int), ((0 : Int), ())), ((mkB r, ((n : Int), ((([] : List E65), (((lo : Int), ((hi : Int), ())), ())), ()))), ())) = tS n 0 r (n : Int) [] ((lo : Int), ((hi : Int), ())) from rfl, show G29_v1_l0_fuel (tS n 0 r (n : Int) [] ((lo : Int), ((hi : Int), ()))) = n + 1 by unfold G29_v1_l0_fuel; simp only [tS]; omega, s4]
    rfl
  rw [h2]
  simp only [Option.bind_some]
  let f : Lg := ⟨lo, hi, ys⟩
  have hf : f.Fine := ⟨e2.2.1, e2.2.2, by show ys.length < _; rw [s1]; exact e2.1, s2⟩
  have hbody : t = body f ++ r1 := by
    rw [e1, s3]
    show _ = cat (ln3 WHole ys.length lo hi :: layL ys) ++ r1
    rw [cat_cons, s1, List.append_assoc, List.cons_append]
  have hbl : (body f).length ≤ 5000 := by rw [hbody] at ht; simp at ht; omega
  have htr : G32 (mkB t) (mkB r1) = some (mkB (body f)) := by
    conv => lhs; rw [hbody]
    exact trim_eq (body f) r1 (by rw [← hbody]; omega)
  rw [htr]
  simp only [Option.bind_some, end16_eq (body := body f) (by omega)]
  rw [beq_bl, bl_mk, bl_mk]
  by_cases hr1 : r1 = endB (body f)
  case neg =>
    rw [decide_eq_false hr1]
    refine .inr ⟨fun g hg h => hr1 ?_, rfl⟩
    obtain ⟨h5, h7, h8, h6⟩ := inHead g h
    obtain ⟨h9, h10⟩ := lay_uniq (by omega) (s3.symm.trans h6)
    rw [h10]
    congr 1
    show cat (bodyL g) = cat (bodyL f)
    unfold bodyL
    rw [← h9, ← h7, ← h8]
  rw [decide_eq_true hr1]
  simp only [Bool.not_true, cond_false]
  refine .inl ⟨f, hf, by rw [hbody, hr1]; rfl, ?_⟩
  rw [show G23 (ys.map encL, (((lo : Int), ((hi : Int), ())), ())) = some (okPl (encP f)) from tg66 (encP f) (by show (ys.map encL).length < _; rw [List.length_map, s1]; have := e2.1; omega)]
  simp only [Option.bind_some]
  cases okPl (encP f) <;> rfl
end Go.Proofs.YtbidmbjkjpdgdaaGreatDoor.Abs
set_option linter.unusedVariables false
set_option linter.unusedSimpArgs false
set_option maxRecDepth 100000
namespace Go.Proofs.YtbidmbjkjpdgdaaGreatDoor.Abs
theorem cat_len {ls : List (List UInt8)} {k : Nat} (h : ∀ l ∈ ls, l.length ≤ k) : (cat ls).length ≤ (k + 1) * ls.length := by
  induction ls with
  | nil => simp [cat]
  | cons l ls ih =>
    have h1 := h l List.mem_cons_self
    have h2 := ih fun x hx => h x (List.mem_cons_of_mem _ hx)
    rw [cat_cons, List.length_append, List.length_cons, List.length_cons, Nat.mul_succ]; omega
theorem lay_len {ys : List (Nat × Nat × Nat)} (h : FineY ys) : ∀ l ∈ layL ys, l.length ≤ 36 := fun l hl => by
  obtain ⟨x, hx, rfl⟩ := List.mem_map.1 hl
  have := ln3_len (word := WLayer) (h x hx)
  simp at this ⊢
  omega
theorem catL_len {ys : List (Nat × Nat × Nat)} (h : FineY ys) (i : Nat) : (cat (layL (ys.take i))).length ≤ 37 * ys.length := by
  have := cat_len (lay_len (ys := ys.take i) fun x hx => h x (List.mem_of_mem_take hx))
  unfold layL at this ⊢
  rw [List.length_map, List.length_take] at this
  have h2 : 37 * min i ys.length ≤ 37 * ys.length := Nat.mul_le_mul_left _ (Nat.min_le_right _ _)
  omega
theorem catL_next {ys : List (Nat × Nat × Nat)} {i : Nat} (h : i < ys.length) : cat (layL (ys.take (i + 1))) = cat (layL (ys.take i)) ++ (ln3 WLayer (ys[i]).1 (ys[i]).2.1 (ys[i]).2.2 ++ [10]) := by
  rw [take_next h]; unfold layL; rw [List.map_append, cat_app, List.map_cons, List.map_nil, cat_one]
theorem getD_encL {ys : List (Nat × Nat × Nat)} {i : Nat} (h : i < ys.length) : List.getD (ys.map encL) i (0, ((0, (0, ())), ())) = encL (ys[i]) := by
  rw [getD_at (by simpa using h)]; simp
theorem body_eq (f : Lg) : body f = ln3 WHole f.ys.length f.lo f.hi ++ 10 :: cat (layL f.ys) := by
  unfold body bodyL
  rw [cat_cons]
theorem Lg.Fine.head {f : Lg} (h : f.Fine) : Sm f.ys.length f.lo f.hi := ⟨h.2.2.1, h.1, h.2.1⟩
theorem body_len {f : Lg} (h : f.Fine) : (body f).length ≤ 36 + 37 * f.ys.length := by
  have h1 := ln3_len (word := WHole) h.head
  have h2 := catL_len h.2.2.2 f.ys.length
  rw [List.take_length] at h2
  rw [body_eq]
  simp only [List.length_append, List.length_cons, List.length_nil] at h1 ⊢
  omega
theorem print_l0 {f : Lg} (h : f.Fine) (hn : f.ys.length ≤ 10000) {out : List UInt8} (ho : out.length ≤ 100) (s : E25) :
    G7_l0_run ((mkB out, (f.ys.map encL, ((List.length (f.ys.map encL) : Int), (0, ())))), (s, ())) = some (0, ((mkB (out ++ cat (layL f.ys)), (f.ys.map encL, ((f.ys.length : Int), ((f.ys.length : Int), ())))), (s, ()))) := by
  unfold G7_l0_run
  let F : Nat → ((ByteArray × ((List E65) × (Int × (Int × Unit)))) × (E25 × Unit)) := fun i => ((mkB (out ++ cat (layL (f.ys.take i))), (f.ys.map encL, ((f.ys.length : Int), ((i : Int), ())))), (s, ()))
  rw [show ((mkB out, (f.ys.map encL, ((List.length (f.ys.map encL) : Int), ((0 : Int), ())))), (s, ())) = F 0 by simp [F, layL, cat], show ((mkB (out ++ cat (layL f.ys)), (f.ys.map encL, ((f.ys.length : Int), ((f.ys.length : Int), ())))), (s, ())) = F f.ys.length by simp only [F, List.take_length]]
  refine iter_run (n := f.ys.length) F _ (fun i hi => ?_) ?_ ?_
  · unfold G7_l0_step
    simp only [F]
    have hl := catL_len h.2.2.2 i
    have hsm := h.2.2.2 _ (List.getElem_mem hi)
    have hln := ln3_len (word := WLayer) hsm
    rw [List.length_map, decide_eq_true (p := (i : Int) < (f.ys.length : Int)) (by omega), ge0]
    simp only [cond_true, Bool.and_self, getD_toNat]
    rw [getD_encL hi, show (⟨#[108, 97, 121, 101, 114]⟩ : ByteArray) = mkB WLayer from rfl, show [(encL (f.ys[i])).1, (encL (f.ys[i])).2.1.1, (encL (f.ys[i])).2.1.2.1] = ofN [(f.ys[i]).1, (f.ys[i]).2.1, (f.ys[i]).2.2] from rfl, line_eq (by decide) hsm]
    simp only [Option.bind_some, mkB_size, app_mk, List.length_append, List.length_singleton]
    rw [lim_le (by simp at hln; omega), wr1 (i := i) (by omega), catL_next hi, List.append_assoc]
    rfl
  · unfold G7_l0_step
    simp only [F]
    rw [decide_eq_false (p := (f.ys.length : Int) < (f.ys.length : Int)) (by omega)]
    rfl
  · unfold G7_l0_fuel
    simp [F]
theorem print_ok {f : Lg} (h : f.Fine) (hn : f.ys.length ≤ 1000) (hok : okPl (encP f) = true) : G7 (encP f) = some (mkB (log f), (0, ())) := by
  unfold G7
  have hl := catL_len h.2.2.2 f.ys.length
  rw [List.take_length] at hl
  have hh := ln3_len (word := WHole) h.head
  have hb := body_len h
  rw [tg66 (encP f) (by show (f.ys.map encL).length < _; rw [List.length_map]; omega), hok]
  simp only [Option.bind_some, Bool.not_true, cond_false]
  rw [show (⟨#[104, 111, 108, 101]⟩ : ByteArray) = mkB WHole from rfl, show [(List.length (encP f).1 : Int), (encP f).2.1.1, (encP f).2.1.2.1] = ofN [f.ys.length, f.lo, f.hi] by simp [encP, ofN], line_eq (by decide) h.head]
  simp only [Option.bind_some]
  rw [show (encP f).1 = f.ys.map encL from rfl, print_l0 h (by omega) (by simp at hh ⊢; omega)]
  simp only [Option.bind_some]
  have hbd : ln3 WHole f.ys.length f.lo f.hi ++ [10] ++ cat (layL f.ys) = body f := by rw [body_eq]; simp
  rw [hbd, end16_eq (by omega)]
  simp only [Option.bind_some, mkB_size, app_mk, endB_len]
  rw [lim_le (by omega)]
  rfl
end Go.Proofs.YtbidmbjkjpdgdaaGreatDoor.Abs
set_option linter.unusedVariables false
set_option linter.unusedSimpArgs false
set_option maxRecDepth 100000
namespace Go.Proofs.YtbidmbjkjpdgdaaGreatDoor.Abs
open Classical
theorem toLg {p : E25} (h : okPl p = true) : ∃ f : Lg, f.Fine ∧ p = encP f ∧ f.ys.length ≤ 6 := by
  obtain ⟨l, ⟨lo, hi, u⟩, u'⟩ := p
  unfold okPl inB spB at h
  simp only [Bool.and_eq_true, decide_eq_true_eq] at h
  obtain ⟨⟨⟨h1, h2⟩, ⟨h3, h4⟩, h5⟩, h6⟩ := h
  have hl : l = (l.map fun x : E65 => (x.1.toNat, x.2.1.1.toNat, x.2.1.2.1.toNat)).map encL := by
    rw [List.map_map]
    conv => lhs; rw [← List.map_id l]
    refine List.map_congr_left fun x hx => ?_
    have hx := List.all_eq_true.1 h6 x hx
    obtain ⟨a, ⟨b, c, v⟩, v'⟩ := x
    unfold okL inB spB at hx
    simp only [Bool.and_eq_true, decide_eq_true_eq] at hx
    show (a, ((b, (c, v)), v')) = encL (a.toNat, b.toNat, c.toNat)
    unfold encL
    simp only [Prod.mk.injEq, and_true]
    omega
  refine ⟨⟨lo.toNat, hi.toNat, l.map fun x : E65 => (x.1.toNat, x.2.1.1.toNat, x.2.1.2.1.toNat)⟩, ⟨by show lo.toNat < _; omega, by show hi.toNat < _; omega, by show (l.map _).length < _; rw [List.length_map]; omega, fun r hx => ?_⟩, ?_, by show (l.map _).length ≤ _; rw [List.length_map]; omega⟩
  · obtain ⟨y, hy, rfl⟩ := List.mem_map.1 hx
    have hx := List.all_eq_true.1 h6 y hy
    unfold okL inB spB at hx
    simp only [Bool.and_eq_true, decide_eq_true_eq] at hx
    unfold Sm
    simp only
    omega
  · unfold encP
    show (l, ((lo, (hi, u)), u')) = (List.map encL (l.map fun x : E65 => (x.1.toNat, x.2.1.1.toNat, x.2.1.2.1.toNat)), (((lo.toNat : Int), ((hi.toNat : Int), ())), ()))
    rw [← hl]
    simp only [Prod.mk.injEq, and_true, true_and]
    omega
theorem log_len {f : Lg} (h : f.Fine) (h1 : f.ys.length ≤ 6) : (log f).length ≤ 400 := by
  have := body_len h
  unfold log
  rw [List.length_append, endB_len]
  omega
theorem app_eq_len {α : Type} {a b c d : List α} (h : a ++ b = c ++ d) (hl : b.length = d.length) : a = c ∧ b = d := List.append_inj' h hl
theorem hx_inj {a b : Nat} (ha : a < 16) (hb : b < 16) (h : hx a = hx b) : a = b := by
  have : ∀ a, a < 16 → ∀ b, b < 16 → hx a = hx b → a = b := by decide
  exact this a ha b hb h
theorem endB_sum {a b : List UInt8} (h : endB a = endB b) : bsum a % 251 = bsum b % 251 := by
  unfold endB at h
  simp only [List.cons_append, List.nil_append, List.cons.injEq, and_true, true_and] at h
  have ha := Nat.mod_lt (bsum a) (show 0 < 251 by decide)
  have hb := Nat.mod_lt (bsum b) (show 0 < 251 by decide)
  have h1 := hx_inj (by omega) (by omega) h.1
  have h2 := hx_inj (Nat.mod_lt _ (by decide)) (Nat.mod_lt _ (by decide)) h.2
  omega
theorem spoilt {f g : Lg} {u v : List UInt8} {p q : UInt8} (hq : 5 ≤ q.toNat ∧ q.toNat ≤ 250) (h1 : log f = u ++ p :: v) (h2 : log g = u ++ q :: v) : p = q := by
  by_cases hv : v.length < 7
  ·
    have hl : (body f).length = (body g).length := by
      have a1 := congrArg List.length h1
      have a2 := congrArg List.length h2
      unfold log at a1 a2
      simp only [List.length_append, List.length_cons, endB_len] at a1 a2
      omega
    have e1 : body f = (u ++ p :: v).take (body f).length := by rw [← h1]; unfold log; rw [List.take_left]
    have e2 : body g = (u ++ q :: v).take (body g).length := by rw [← h2]; unfold log; rw [List.take_left]
    have hu : (body f).length ≤ u.length := by
      have a1 := congrArg List.length h1
      unfold log at a1
      simp only [List.length_append, List.length_cons, endB_len] at a1
      omega
    have e3 : body f = body g := by
      rw [e1, e2, ← hl, List.take_append_of_le_length hu, List.take_append_of_le_length hu]
    have e4 : log f = log g := by unfold log; rw [e3]
    rw [h1, h2] at e4
    have := List.append_cancel_left e4
    rw [List.cons.injEq] at this
    exact this.1
  ·
    have hs : v = v.take (v.length - 7) ++ v.drop (v.length - 7) := (List.take_append_drop _ _).symm
    have hd : (v.drop (v.length - 7)).length = 7 := by rw [List.length_drop]; omega
    generalize hv1 : v.take (v.length - 7) = v1 at hs
    generalize hv2 : v.drop (v.length - 7) = v2 at hs hd
    rw [hs] at h1 h2
    have h1' : body f ++ endB (body f) = (u ++ p :: v1) ++ v2 := by show log f = _; rw [h1]; simp
    have h2' : body g ++ endB (body g) = (u ++ q :: v1) ++ v2 := by show log g = _; rw [h2]; simp
    obtain ⟨b1, b2⟩ := app_eq_len h1' (by rw [hd, endB_len])
    obtain ⟨b3, b4⟩ := app_eq_len h2' (by rw [hd, endB_len])
    have := endB_sum (b2.trans b4.symm)
    rw [b1, b3, bsum_app, bsum_app, bsum, bsum] at this
    have hp := UInt8.toNat_lt p
    exact UInt8.toNat_inj.1 (by omega)
theorem same_self (p : E25) (h : p.1.length < 2 ^ 62) : G11 p p = some true := by
  unfold G11
  simp only [beq_self_eq_true, Bool.and_self, Bool.not_true, cond_false, bne_self_eq_false]
  unfold G11_l0_run
  rw [show iter G11_l0_step (G11_l0_fuel ((false, (0, ())), (p, (p, ())))) ((false, ((0 : Int), ())), (p, (p, ()))) = some (1, ((false, ((p.1.length : Int), ())), (p, (p, ())))) from
    iter_run (n := p.1.length) (fun i => ((false, ((i : Int), ())), (p, (p, ())))) _ (fun i hi => by
      unfold G11_l0_step
      simp only [lt_int hi, ge0, Bool.and_self, cond_true, getD_toNat, wr1 (i := i) (by omega), beq_self_eq_true, Bool.not_true, cond_false]) (by
      unfold G11_l0_step
      simp only [nlt_int, cond_false]) (by unfold G11_l0_fuel; simp)]
  rfl
theorem same_z : G11 zP ([], ((0, (0, ())), ())) = some true := same_self zP (by decide)
theorem bl_spoil {x : ByteArray} {i : Nat} (d : Nat) (hd : d < 256) : bl (strI (List.set (bytesI x) i (spoilB (d : Int)))) = (bl x).set i (UInt8.ofNat d) := by
  have h8 : spoilB (d : Int) = (d : Int) := by
    show IntKind.wrap .u8 (d : Int) = _
    rw [IntKind.wrap_u8]; omega
  rw [h8]
  unfold strI bytesI
  show List.map (fun n : Int => UInt8.ofNat n.toNat) _ = _
  rw [List.map_set, List.map_map]
  have h1 : ((fun n : Int => UInt8.ofNat n.toNat) ∘ fun b : UInt8 => ((b.toNat : Nat) : Int)) = id := by
    funext b
    simp [Function.comp]
  rw [h1, List.map_id]
  rfl
theorem set_app (l : List UInt8) (i : Nat) (h : i < l.length) (q : UInt8) : l.set i q = l.take i ++ q :: l.drop (i + 1) := by
  rw [List.set_eq_take_append_cons_drop, if_pos h]
theorem self_app (l : List UInt8) (i : Nat) (h : i < l.length) : l = l.take i ++ l[i] :: l.drop (i + 1) := by
  conv => lhs; rw [← List.take_append_drop i l, List.drop_eq_getElem_cons h]
end Go.Proofs.YtbidmbjkjpdgdaaGreatDoor.Abs
set_option maxRecDepth 1000000
namespace Go.Proofs.YtbidmbjkjpdgdaaGreatDoor.Abs
theorem known_ok : G6 = some true := by kernel_rfl
end Go.Proofs.YtbidmbjkjpdgdaaGreatDoor.Abs
