/-
  The abstract semantics, nineteenth part: patterns: states told by typed data.
-/
import Derived.Test.YtbidmbjkjpdgdaaDoorAbs18
set_option linter.unusedVariables false
set_option linter.unusedSimpArgs false
namespace Go.Proofs.YtbidmbjkjpdgdaaDoor.Abs

inductive PTy where
  | any
  | fix (a : AVal)
  | dat (T : DTy)
  | own (tok : Nat) (T : DTy)
  | cons (h t : PTy)
  | nil
  | tup (p : PTy)
  | map (K V : DTy)
  | ip (T : DTy)
  | lp (g i : Nat) (ps : PTy)

@[reducible] def PTy.El : PTy → Type
  | .any => Unit
  | .fix _ => Unit
  | .dat T => T.El
  | .own _ T => List T.El
  | .cons h t => h.El × t.El
  | .nil => Unit
  | .tup p => p.El
  | .map K V => List (K.El × V.El)
  | .ip T => T.El
  | .lp _ _ ps => Nat × ps.El

def PTy.enc : (p : PTy) → p.El → AVal
  | .any, _ => .any
  | .fix a, _ => a
  | .dat T, x => .d T x
  | .own k T, x => .own k T x
  | .cons h t, x => .cons (h.enc x.1) (t.enc x.2)
  | .nil, _ => .nil
  | .tup p, x => .tuple (p.enc x)
  | .map K V, x => .mobj K V x
  | .ip T, x => .iptr T x
  | .lp g i ps, x => .lobj g i x.1 (ps.enc x.2)

/-- A pattern of a list of values. -/
def PTy.lst : PTy → Bool
  | .nil => true
  | .cons _ t => t.lst
  | _ => false

def sameP : List PStep → List PStep → Bool
  | [], [] => true
  | .fld k o :: p, .fld k' o' :: q => k == k' && o == o' && sameP p q
  | .ix i s n :: p, .ix i' s' n' :: q => i == i' && s == s' && n == n' && sameP p q
  | _, _ => false
theorem sameP_eq : {p q : List PStep} → sameP p q = true → p = q
  | [], [], _ => rfl
  | .fld k o :: p, .fld k' o' :: q, h => by
    simp only [sameP, Bool.and_eq_true, beq_iff_eq] at h
    obtain ⟨⟨rfl, rfl⟩, h⟩ := h
    rw [sameP_eq h]
  | .ix i s n :: p, .ix i' s' n' :: q, h => by
    simp only [sameP, Bool.and_eq_true, beq_iff_eq] at h
    obtain ⟨⟨⟨rfl, rfl⟩, rfl⟩, h⟩ := h
    rw [sameP_eq h]
  | [], _ :: _, h | _ :: _, [], h | .fld .. :: _, .ix .. :: _, h | .ix .. :: _, .fld .. :: _, h => by simp [sameP] at h

/-- Equality of abstract values without data. -/
def sameA : AVal → AVal → Bool
  | .nil, .nil => true
  | .cons a b, .cons c d => sameA a c && sameA b d
  | .pnil, .pnil => true
  | .fnil, .fnil => true
  | .snil, .snil => true
  | .inil, .inil => true
  | .mnil, .mnil => true
  | .bptr b p, .bptr c q => b == c && sameP p q
  | .mref b, .mref c => b == c
  | .yref b, .yref c => b == c
  | .func f a b, .func g c d => f == g && sameA a c && sameA b d
  | _, _ => false
theorem sameA_eq {a b : AVal} (h : sameA a b = true) : a = b := by
  induction a generalizing b with
  | cons x y ih1 ih2 =>
    cases b with
    | cons u v =>
      simp only [sameA, Bool.and_eq_true] at h
      rw [ih1 h.1, ih2 h.2]
    | _ => simp [sameA] at h
  | func f x y ih1 ih2 =>
    cases b with
    | func g u v =>
      simp only [sameA, Bool.and_eq_true, beq_iff_eq] at h
      rw [h.1.1, ih1 h.1.2, ih2 h.2]
    | _ => simp [sameA] at h
  | bptr c p =>
    cases b with
    | bptr d q =>
      simp only [sameA, Bool.and_eq_true, beq_iff_eq] at h
      rw [h.1, sameP_eq h.2]
    | _ => simp [sameA] at h
  | mref c =>
    cases b with
    | mref d =>
      simp only [sameA, beq_iff_eq] at h
      rw [h]
    | _ => simp [sameA] at h
  | yref c =>
    cases b with
    | yref d =>
      simp only [sameA, beq_iff_eq] at h
      rw [h]
    | _ => simp [sameA] at h
  | nil | pnil | fnil | snil | inil | mnil => cases b <;> first | rfl | simp [sameA] at h
  | _ => simp [sameA] at h

/-- All boxes that a value without data points to are among the first so many. -/
def under (m : Nat) : AVal → Bool
  | .cons a b => under m a && under m b
  | .bptr b _ => decide (b < m)
  | .mref b => decide (b < m)
  | .yref b => decide (b < m)
  | .func _ a b => under m a && under m b
  | .iface _ v => under m v
  | .tuple v => under m v
  | _ => true

/-- The typed data of a value, by a pattern; and which tokens become which. -/
def PTy.dec : (p : PTy) → AVal → Option (p.El × List (Nat × Nat))
  | .any, _ => some ((), [])
  | .fix a, v => bif sameA a v then some ((), []) else none
  | .dat T, v => match asData v T with
    | some x => some (x, [])
    | none => none
  | .own k T, .own t T' xs => if h : T' = T then some (h ▸ xs, [(k, t)]) else none
  | .own _ T, .snil => some ([], [])
  | .own _ _, _ => none
  | .cons h t, .cons a b => match h.dec a, t.dec b with
    | some (x, l), some (y, m) => some ((x, y), l ++ m)
    | _, _ => none
  | .cons h t, .d (.cons T U) x => match h.dec (.d T x.1), t.dec (.d U x.2) with
    | some (x, l), some (y, m) => some ((x, y), l ++ m)
    | _, _ => none
  | .cons _ _, _ => none
  | .nil, .nil => some ((), [])
  | .nil, .d .nil _ => some ((), [])
  | .nil, _ => none
  | .tup p, .tuple a => bif p.lst then p.dec a else none
  | .tup _, _ => none
  | .map K V, .mobj K' V' xs => if h : K' = K ∧ V' = V then some (h.1 ▸ h.2 ▸ xs, []) else none
  | .map _ _, _ => none
  | .ip T, .iptr T' x => if h : T' = T then some (h ▸ x, []) else none
  | .ip _, _ => none
  | .lp g i ps, .lobj g' i' k env => bif g == g' && i == i' && ps.lst then match ps.dec env with
      | some (x, l) => some ((k, x), l)
      | none => none
    else none
  | .lp _ _ _, _ => none
theorem dec_lp {g i : Nat} {ps : PTy} {a : AVal} {x : (PTy.lp g i ps).El} {l : List (Nat × Nat)} (h : (PTy.lp g i ps).dec a = some (x, l)) : ∃ env, a = .lobj g i x.1 env ∧ ps.dec env = some (x.2, l) ∧ ps.lst = true := by
  cases a with
  | lobj g' i' k env =>
    simp only [PTy.dec] at h
    cases hb : g == g' && i == i' && ps.lst with
    | false => rw [hb] at h; cases h
    | true =>
      rw [hb] at h
      simp only [cond_true] at h
      simp only [Bool.and_eq_true, beq_iff_eq] at hb
      obtain ⟨⟨rfl, rfl⟩, hl⟩ := hb
      split at h
      · rename_i y m hy
        simp only [Option.some.injEq, Prod.mk.injEq] at h
        obtain ⟨rfl, rfl⟩ := h
        exact ⟨env, rfl, hy, hl⟩
      · cases h
  | _ => simp [PTy.dec] at h
theorem dec_ip {T : DTy} {a : AVal} {x : (PTy.ip T).El} {l : List (Nat × Nat)} (h : (PTy.ip T).dec a = some (x, l)) : a = .iptr T x ∧ l = [] := by
  cases a with
  | iptr T' y =>
    simp only [PTy.dec] at h
    split at h
    · rename_i hh
      subst hh
      simp only [Option.some.injEq, Prod.mk.injEq] at h
      obtain ⟨rfl, rfl⟩ := h
      exact ⟨rfl, rfl⟩
    · cases h
  | _ => simp [PTy.dec] at h
theorem dec_map {K V : DTy} {a : AVal} {x : (PTy.map K V).El} {l : List (Nat × Nat)} (h : (PTy.map K V).dec a = some (x, l)) : a = .mobj K V x ∧ l = [] := by
  cases a with
  | mobj K' V' xs =>
    simp only [PTy.dec] at h
    split at h
    · rename_i hh
      obtain ⟨rfl, rfl⟩ := hh
      simp only [Option.some.injEq, Prod.mk.injEq] at h
      obtain ⟨rfl, rfl⟩ := h
      exact ⟨rfl, rfl⟩
    · cases h
  | _ => simp [PTy.dec] at h

/-- Tokens called anew. -/
structure ReTok (G : Gh) (dead : List Nat) (G' : Gh) (m : Nat) (l : List (Nat × Nat)) : Prop where
  imm : G'.imm = G.imm
  addr : G'.addr = G.addr.take m
  own : ∀ k t, (k, t) ∈ l → t ∉ dead ∧ G'.own k = G.own t

theorem sameA_self_agg {a v : AVal} (h : sameA a v = true) : a = v := sameA_eq h

/-- A value without data, the boxes behind some place being forgotten. -/
theorem under_rp {G G' : Gh} {dead : List Nat} {m : Nat} {l : List (Nat × Nat)} (hr : ReTok G dead G' m l) : (a : AVal) → under m a = true → sameA a a = true → (∀ cs, (Rp G dead a).1 cs → (Rp G' [] a).1 cs) ∧ (∀ vs, (Rp G dead a).2 vs → (Rp G' [] a).2 vs)
  | .nil, _, _ => ⟨fun _ h => h, fun _ h => h⟩
  | .cons a b, hu, hs => by
    simp only [under, Bool.and_eq_true] at hu
    simp only [sameA, Bool.and_eq_true] at hs
    have m1 := under_rp hr a hu.1 hs.1
    have m2 := under_rp hr b hu.2 hs.2
    exact ⟨fun cs h => by
      obtain ⟨c1, c2, rfl, h1, h2⟩ := h
      exact ⟨c1, c2, rfl, m1.1 _ h1, m2.1 _ h2⟩, fun vs h => by
      obtain ⟨v, l, rfl, ⟨cs, hc, hv⟩, hl⟩ := h
      exact ⟨v, l, rfl, ⟨cs, m1.1 _ hc, hv⟩, m2.2 _ hl⟩⟩
  | .pnil, _, _ => ⟨fun _ h => h, fun _ h => h⟩
  | .fnil, _, _ => ⟨fun _ h => h, fun _ h => h⟩
  | .snil, _, _ => ⟨fun _ h => h, fun _ h => h⟩
  | .inil, _, _ => ⟨fun _ h => h, fun _ h => h⟩
  | .bptr b p, hu, _ => ⟨fun cs h => by
      obtain ⟨blk, hb, ho, rfl⟩ := h
      simp only [under, decide_eq_true_eq] at hu
      exact ⟨blk, by rw [hr.addr, List.getElem?_take_of_lt hu]; exact hb, ho, rfl⟩, fun _ h => h⟩
  | .func fn f c, hu, hs => by
    simp only [under, Bool.and_eq_true] at hu
    simp only [sameA, Bool.and_eq_true] at hs
    have m1 := under_rp hr f hu.1 hs.1.2
    have m2 := under_rp hr c hu.2 hs.2
    exact ⟨fun cs h => by
      obtain ⟨fv, cv, rfl, h1, h2⟩ := h
      exact ⟨fv, cv, rfl, m1.2 _ h1, m2.2 _ h2⟩, fun _ h => h⟩
  | .mnil, _, _ => ⟨fun _ h => h, fun _ h => h⟩
  | .mref b, hu, _ => ⟨fun cs h => by
      obtain ⟨blk, hb, rfl⟩ := h
      simp only [under, decide_eq_true_eq] at hu
      exact ⟨blk, by rw [hr.addr, List.getElem?_take_of_lt hu]; exact hb, rfl⟩, fun _ h => h⟩
  | .yref b, hu, _ => ⟨fun cs h => by
      obtain ⟨blk, hb, rfl⟩ := h
      simp only [under, decide_eq_true_eq] at hu
      exact ⟨blk, by rw [hr.addr, List.getElem?_take_of_lt hu]; exact hb, rfl⟩, fun _ h => h⟩
  | .d .., _, hs | .own .., _, hs | .iptr .., _, hs | .iface .., _, hs | .tuple .., _, hs | .any, _, hs | .mobj .., _, hs | .lobj .., _, hs => by simp [sameA] at hs

/-- No box of a pattern lies behind some place. -/
def PTy.isAny : PTy → Bool
  | .any => true
  | _ => false
mutual
def PTy.under (m : Nat) : PTy → Bool
  | .any => false
  | .fix a => Abs.under m a && sameA a a
  | .cons h t => h.under m && t.under m
  | .tup p => p.under m
  | .lp _ _ ps => ps.underL m
  | .dat _ => true
  | .own _ _ => true
  | .nil => true
  | .map _ _ => true
  | .ip _ => true
/-- .. of a list of values, of which some may be anything at all -/
def PTy.underL (m : Nat) : PTy → Bool
  | .cons h t => (h.isAny || h.under m) && t.underL m
  | .any => true
  | .dat _ => true
  | .fix _ => true
  | .own _ _ => true
  | .nil => true
  | .tup _ => true
  | .map _ _ => true
  | .ip _ => true
  | .lp _ _ _ => true
end
theorem underL_of {m : Nat} : {p : PTy} → p.under m = true → p.underL m = true
  | .cons a b, h => by
    simp only [PTy.under, Bool.and_eq_true] at h
    simp only [PTy.underL, Bool.and_eq_true, Bool.or_eq_true]
    exact ⟨.inr h.1, underL_of h.2⟩
  | .any, h => by simp [PTy.under] at h
  | .dat _, _ | .fix _, _ | .own _ _, _ | .nil, _ | .tup _, _ | .map _ _, _ | .ip _, _ | .lp _ _ _, _ => by simp [PTy.underL]

/-- A pattern that a slot may have: anything at all, or a value as told. -/
def PTy.top (m : Nat) : PTy → Bool
  | .any => true
  | p => p.under m
theorem under_top {m : Nat} {p : PTy} (h : p.under m = true) : p.top m = true := by
  cases p <;> first | rfl | exact h

theorem dec_agg {m : Nat} {p : PTy} {a : AVal} {x : p.El} {l : List (Nat × Nat)} (h : p.dec a = some (x, l)) (hu : p.under m = true) : (p.enc x).agg = a.agg := by
  cases p with
  | any => simp [PTy.under] at hu
  | fix b =>
    simp only [PTy.dec] at h
    cases hb : sameA b a with
    | false => simp [hb] at h
    | true => rw [← sameA_eq hb]; rfl
  | dat T =>
    simp only [PTy.dec] at h
    split at h
    · rename_i y hy
      exact asData_agg hy
    · cases h
  | own k T => cases a <;> first | rfl | simp [PTy.dec] at h
  | cons p q =>
    cases a with
    | cons a b => rfl
    | d T w => cases T <;> first | rfl | simp [PTy.dec] at h
    | _ => simp [PTy.dec] at h
  | nil =>
    cases a with
    | nil => rfl
    | d T w => cases T <;> first | rfl | simp [PTy.dec] at h
    | _ => simp [PTy.dec] at h
  | tup p => cases a <;> first | rfl | simp [PTy.dec] at h
  | map K V => rw [(dec_map h).1]; rfl
  | ip T => rw [(dec_ip h).1]; rfl
  | lp g i ps => obtain ⟨env, rfl, _⟩ := dec_lp h; rfl
theorem dec_knd {m : Nat} {p : PTy} {a : AVal} {x : p.El} {l : List (Nat × Nat)} (h : p.dec a = some (x, l)) (hu : p.under m = true) : (p.enc x).knd = a.knd := by
  cases p with
  | any => simp [PTy.under] at hu
  | fix b =>
    simp only [PTy.dec] at h
    cases hb : sameA b a with
    | false => simp [hb] at h
    | true => rw [← sameA_eq hb]; rfl
  | dat T =>
    simp only [PTy.dec] at h
    split at h
    · rename_i y hy
      show Knd.cells = a.knd
      cases a <;> first | rfl | simp [asData] at hy
    · cases h
  | own k T => cases a <;> first | rfl | simp [PTy.dec] at h
  | cons p q =>
    cases a with
    | cons a b => rfl
    | d T w => cases T <;> first | rfl | simp [PTy.dec] at h
    | _ => simp [PTy.dec] at h
  | nil =>
    cases a with
    | nil => rfl
    | d T w => cases T <;> first | rfl | simp [PTy.dec] at h
    | _ => simp [PTy.dec] at h
  | tup p => cases a <;> first | rfl | simp [PTy.dec] at h
  | map K V => rw [(dec_map h).1]; rfl
  | ip T => rw [(dec_ip h).1]; rfl
  | lp g i ps => obtain ⟨env, rfl, _⟩ := dec_lp h; rfl

mutual
theorem dec_spec {G G' : Gh} {dead : List Nat} {m : Nat} {l0 : List (Nat × Nat)} (hr : ReTok G dead G' m l0) : {p : PTy} → {a : AVal} → {x : p.El} → {l : List (Nat × Nat)} → p.dec a = some (x, l) → p.under m = true → (∀ q ∈ l, q ∈ l0) → ∀ cs, Rc G dead a cs → Rc G' [] (p.enc x) cs
  | .tup p, a, x, l, h, hu, hl, cs, hc => by
    cases a with
    | tuple a =>
      simp only [PTy.dec] at h
      cases hb : p.lst with
      | false => rw [hb] at h; cases h
      | true =>
        simp only [hb, cond_true] at h
        obtain ⟨vs, rfl, hvs⟩ := hc
        exact ⟨vs, rfl, decL_spec hr h hb (underL_of hu) hl vs hvs⟩
    | _ => simp [PTy.dec] at h
  | .any, a, x, l, h, hu, _, cs, hc => by simp [PTy.under] at hu
  | .fix b, a, x, l, h, hu, _, cs, hc => by
    simp only [PTy.dec] at h
    cases hb : sameA b a with
    | false => simp [hb] at h
    | true =>
      have := sameA_eq hb
      subst this
      simp only [PTy.under, Bool.and_eq_true] at hu
      exact (under_rp hr b hu.1 hu.2).1 cs hc
  | .dat T, a, x, l, h, _, _, cs, hc => by
    simp only [PTy.dec] at h
    split at h
    · rename_i y hy
      simp only [Option.some.injEq, Prod.mk.injEq] at h
      obtain ⟨rfl, _⟩ := h
      have := asData_spec hy cs hc
      show RD G'.imm T y cs
      rw [hr.imm]
      exact this
    · cases h
  | .own k T, a, x, l, h, _, hl, cs, hc => by
    cases a with
    | own t T' xs =>
      simp only [PTy.dec] at h
      split at h
      · rename_i hT
        subst hT
        simp only [Option.some.injEq, Prod.mk.injEq] at h
        obtain ⟨rfl, rfl⟩ := h
        obtain ⟨hrd, A, cap, rfl, hor⟩ := hc
        obtain ⟨hnd, heq⟩ := hr.own k t (hl _ (by simp))
        refine ⟨by rw [hr.imm]; exact hrd, A, cap, rfl, .inr ?_⟩
        rcases hor with hor | hor | ⟨b, row, h1, h2, h3, h4⟩
        · exact absurd hor hnd
        · exact .inl hor
        · exact .inr ⟨b, row, h1, by rw [heq]; exact h2, by rw [hr.imm]; exact h3, h4⟩
      · cases h
    | snil =>
      simp only [PTy.dec, Option.some.injEq, Prod.mk.injEq] at h
      obtain ⟨rfl, _⟩ := h
      have hc : cs = [.slice none 0 0] := hc
      subst hc
      exact ⟨⟨none, 0, rfl, Nat.le_refl _, fun h => absurd rfl h⟩, none, 0, rfl, .inr (.inl ⟨rfl, rfl, rfl⟩)⟩
    | _ => simp [PTy.dec] at h
  | .cons p q, a, x, l, h, hu, hl, cs, hc => by
    simp only [PTy.under, Bool.and_eq_true] at hu
    cases a with
    | cons a b =>
      simp only [PTy.dec] at h
      split at h
      · rename_i y l1 z l2 h1 h2
        simp only [Option.some.injEq, Prod.mk.injEq] at h
        obtain ⟨rfl, rfl⟩ := h
        obtain ⟨c1, c2, rfl, k1, k2⟩ := hc
        exact ⟨c1, c2, rfl, dec_spec hr h1 hu.1 (fun q hq => hl q (by simp [hq])) c1 k1, dec_spec hr h2 hu.2 (fun q hq => hl q (by simp [hq])) c2 k2⟩
      · cases h
    | d T w =>
      cases T with
      | cons T U =>
        simp only [PTy.dec] at h
        split at h
        · rename_i y l1 z l2 h1 h2
          simp only [Option.some.injEq, Prod.mk.injEq] at h
          obtain ⟨rfl, rfl⟩ := h
          obtain ⟨c1, c2, rfl, k1, k2⟩ := hc
          exact ⟨c1, c2, rfl, dec_spec hr h1 hu.1 (fun q hq => hl q (by simp [hq])) c1 k1, dec_spec hr h2 hu.2 (fun q hq => hl q (by simp [hq])) c2 k2⟩
        · cases h
      | _ => simp [PTy.dec] at h
    | _ => simp [PTy.dec] at h
  | .map K V, a, x, l, h, _, _, cs, hc => by
    obtain ⟨rfl, _⟩ := dec_map h
    show RM G'.imm K V x cs
    rw [hr.imm]
    exact hc
  | .ip T, a, x, l, h, _, _, cs, hc => by
    obtain ⟨rfl, _⟩ := dec_ip h
    obtain ⟨b, off, row, e, h1, h2, h3⟩ := hc
    exact ⟨b, off, row, e, by rw [hr.imm]; exact h1, h2, by rw [hr.imm]; exact h3⟩
  | .nil, a, x, l, h, _, _, cs, hc => by
    cases a with
    | nil => exact hc
    | d T w =>
      cases T with
      | nil => exact hc
      | _ => simp [PTy.dec] at h
    | _ => simp [PTy.dec] at h
  | .lp g i ps, a, x, l, h, hu, hl, cs, hc => by
    obtain ⟨env, rfl, hd, hls⟩ := dec_lp h
    exact decL_spec hr hd hls (by simpa [PTy.under] using hu) hl cs hc

theorem decL_spec {G G' : Gh} {dead : List Nat} {m : Nat} {l0 : List (Nat × Nat)} (hr : ReTok G dead G' m l0) : {p : PTy} → {a : AVal} → {x : p.El} → {l : List (Nat × Nat)} → p.dec a = some (x, l) → p.lst = true → p.underL m = true → (∀ q ∈ l, q ∈ l0) → ∀ vs, Rl G dead a vs → Rl G' [] (p.enc x) vs
  | .cons p q, a, x, l, h, hls, hu, hl, vs, hc => by
    simp only [PTy.underL, Bool.and_eq_true, Bool.or_eq_true] at hu
    cases a with
    | cons a b =>
      simp only [PTy.dec] at h
      split at h
      · rename_i y l1 z l2 h1 h2
        simp only [Option.some.injEq, Prod.mk.injEq] at h
        obtain ⟨rfl, rfl⟩ := h
        obtain ⟨v, us, rfl, ⟨cs, k1, k2⟩, k3⟩ := hc
        have hhead : p.under m = true → ∃ cs, Rc G' [] (p.enc y) cs ∧ (((p.enc y).agg = true ∧ v = .agg cs.toArray) ∨ ((p.enc y).agg = false ∧ cs = [v])) := fun hu1 =>
          ⟨cs, dec_spec hr h1 hu1 (fun q hq => hl q (by simp [hq])) cs k1, by rw [dec_agg h1 hu1]; exact k2⟩
        have htail := decL_spec hr h2 hls hu.2 (fun q hq => hl q (by simp [hq])) us k3
        refine ⟨v, us, rfl, ?_, htail⟩
        rcases hu.1 with hu1 | hu1
        · cases p with
          | any => exact any_v v
          | _ => simp [PTy.isAny] at hu1
        · exact hhead hu1
      · cases h
    | d T w => exact hc.elim
    | _ => simp [PTy.dec] at h
  | .nil, a, x, l, h, _, _, _, vs, hc => by
    cases a with
    | nil => exact hc
    | d T w => exact hc.elim
    | _ => simp [PTy.dec] at h
  | .any, _, _, _, _, h, _, _, _, _ | .fix _, _, _, _, _, h, _, _, _, _ | .dat _, _, _, _, _, h, _, _, _, _ | .own _ _, _, _, _, _, h, _, _, _, _ | .tup _, _, _, _, _, h, _, _, _, _ | .map _ _, _, _, _, _, h, _, _, _, _ | .ip _, _, _, _, _, h, _, _, _, _ | .lp _ _ _, _, _, _, _, h, _, _, _, _ => by simp [PTy.lst] at h
end

theorem dec_v {G G' : Gh} {dead : List Nat} {m : Nat} {l0 : List (Nat × Nat)} (hr : ReTok G dead G' m l0) {p : PTy} {a : AVal} {x : p.El} {l : List (Nat × Nat)} (h : p.dec a = some (x, l)) (hu : p.top m = true) (hl : ∀ q ∈ l, q ∈ l0) {v : Value} (hv : Rv G dead a v) : Rv G' [] (p.enc x) v := by
  have main : p.under m = true → Rv G' [] (p.enc x) v := fun hu => by
    obtain ⟨cs, hc, hh⟩ := hv
    refine ⟨cs, dec_spec hr h hu hl cs hc, ?_⟩
    rw [dec_agg h hu]
    exact hh
  cases p with
  | any => exact any_v v
  | _ => exact main hu

/-! ### Lists of patterns -/
@[reducible] def Els : List PTy → Type
  | [] => Unit
  | .any :: ps => Els ps
  | .fix _ :: ps => Els ps
  | .nil :: ps => Els ps
  | .dat T :: ps => T.El × Els ps
  | .own _ T :: ps => List T.El × Els ps
  | .cons h t :: ps => (h.El × t.El) × Els ps
  | .tup p :: ps => p.El × Els ps
  | .map K V :: ps => List (K.El × V.El) × Els ps
  | .ip T :: ps => T.El × Els ps
  | .lp _ _ q :: ps => (Nat × q.El) × Els ps
def encs : (ps : List PTy) → Els ps → List AVal
  | [], _ => []
  | .any :: ps, x => .any :: encs ps x
  | .fix a :: ps, x => a :: encs ps x
  | .nil :: ps, x => .nil :: encs ps x
  | .dat T :: ps, x => .d T x.1 :: encs ps x.2
  | .own k T :: ps, x => .own k T x.1 :: encs ps x.2
  | .cons h t :: ps, x => .cons (h.enc x.1.1) (t.enc x.1.2) :: encs ps x.2
  | .tup p :: ps, x => .tuple (p.enc x.1) :: encs ps x.2
  | .map K V :: ps, x => .mobj K V x.1 :: encs ps x.2
  | .ip T :: ps, x => .iptr T x.1 :: encs ps x.2
  | .lp g i q :: ps, x => .lobj g i x.1.1 (q.enc x.1.2) :: encs ps x.2
def decs : (ps : List PTy) → List AVal → Option (Els ps × List (Nat × Nat))
  | [], _ => some ((), [])
  | _ :: _, [] => none
  | .any :: ps, a :: az => match PTy.any.dec a, decs ps az with
    | some (_, l), some (y, m) => some (y, l ++ m)
    | _, _ => none
  | .fix b :: ps, a :: az => match (PTy.fix b).dec a, decs ps az with
    | some (_, l), some (y, m) => some (y, l ++ m)
    | _, _ => none
  | .nil :: ps, a :: az => match PTy.nil.dec a, decs ps az with
    | some (_, l), some (y, m) => some (y, l ++ m)
    | _, _ => none
  | .dat T :: ps, a :: az => match (PTy.dat T).dec a, decs ps az with
    | some (x, l), some (y, m) => some ((x, y), l ++ m)
    | _, _ => none
  | .own k T :: ps, a :: az => match (PTy.own k T).dec a, decs ps az with
    | some (x, l), some (y, m) => some ((x, y), l ++ m)
    | _, _ => none
  | .cons h t :: ps, a :: az => match (PTy.cons h t).dec a, decs ps az with
    | some (x, l), some (y, m) => some ((x, y), l ++ m)
    | _, _ => none
  | .tup p :: ps, a :: az => match (PTy.tup p).dec a, decs ps az with
    | some (x, l), some (y, m) => some ((x, y), l ++ m)
    | _, _ => none
  | .map K V :: ps, a :: az => match (PTy.map K V).dec a, decs ps az with
    | some (x, l), some (y, m) => some ((x, y), l ++ m)
    | _, _ => none
  | .ip T :: ps, a :: az => match (PTy.ip T).dec a, decs ps az with
    | some (x, l), some (y, m) => some ((x, y), l ++ m)
    | _, _ => none
  | .lp g i q :: ps, a :: az => match (PTy.lp g i q).dec a, decs ps az with
    | some (x, l), some (y, m) => some ((x, y), l ++ m)
    | _, _ => none

/-- One pattern more. -/
theorem decs_cons {p : PTy} {ps : List PTy} {a : AVal} {az : List AVal} {x : Els (p :: ps)} {l : List (Nat × Nat)} (h : decs (p :: ps) (a :: az) = some (x, l)) :
    ∃ (y : p.El) (l1 : List (Nat × Nat)) (z : Els ps) (l2 : List (Nat × Nat)), p.dec a = some (y, l1) ∧ decs ps az = some (z, l2) ∧ l = l1 ++ l2 ∧ encs (p :: ps) x = p.enc y :: encs ps z := by
  cases p
  all_goals
    simp only [decs] at h
    split at h
    · rename_i y l1 z l2 h1 h2
      simp only [Option.some.injEq, Prod.mk.injEq] at h
      obtain ⟨rfl, rfl⟩ := h
      exact ⟨_, l1, z, l2, h1, h2, rfl, rfl⟩
    · cases h

theorem decs_len : {ps : List PTy} → {az : List AVal} → {x : Els ps} → {l : List (Nat × Nat)} → decs ps az = some (x, l) → ps.length ≤ az.length
  | [], _, _, _, _ => by simp
  | p :: ps, a :: az, x, l, h => by
    obtain ⟨y, l1, z, l2, h1, h2, _⟩ := decs_cons h
    have := decs_len h2
    simp only [List.length_cons]
    omega
  | p :: ps, [], x, l, h => by simp [decs] at h
theorem encs_len : {ps : List PTy} → {x : Els ps} → (encs ps x).length = ps.length
  | [], _ => rfl
  | p :: ps, x => by cases p <;> simp [encs, encs_len (ps := ps)]
theorem decs_get : {ps : List PTy} → {az : List AVal} → {x : Els ps} → {l : List (Nat × Nat)} → decs ps az = some (x, l) → ∀ i, i < ps.length → ∃ (p : PTy) (a : AVal) (y : p.El) (m : List (Nat × Nat)), ps[i]? = some p ∧ az[i]? = some a ∧ p.dec a = some (y, m) ∧ (encs ps x)[i]? = some (p.enc y) ∧ (∀ q ∈ m, q ∈ l)
  | p :: ps, a :: az, x, l, h, i, hi => by
    obtain ⟨y, l1, z, l2, h1, h2, rfl, he⟩ := decs_cons h
    cases i with
    | zero => exact ⟨p, a, y, l1, rfl, rfl, h1, by rw [he]; rfl, fun q hq => by simp [hq]⟩
    | succ i =>
      obtain ⟨p', a', y', m, g1, g2, g3, g4, g5⟩ := decs_get h2 i (by simpa using hi)
      exact ⟨p', a', y', m, by simpa using g1, by simpa using g2, g3, by rw [he]; simpa using g4, fun q hq => by simp [g5 q hq]⟩
  | [], _, _, _, _, i, hi => by simp at hi
  | p :: ps, [], x, l, h, _, _ => by simp [decs] at h

/-- No token is named twice. -/
def okToks (dead : List Nat) : List (Nat × Nat) → Bool
  | [] => true
  | (k, t) :: l => !dead.contains t && (l.all fun q => q.1 != k && q.2 != t) && okToks dead l

theorem okToks_spec {dead : List Nat} : {l : List (Nat × Nat)} → okToks dead l = true → (∀ k t, (k, t) ∈ l → t ∉ dead) ∧ (∀ k t t', (k, t) ∈ l → (k, t') ∈ l → t = t') ∧ (∀ k k' t, (k, t) ∈ l → (k', t) ∈ l → k = k')
  | [], _ => ⟨fun _ _ h => by simp at h, fun _ _ _ h => by simp at h, fun _ _ _ h => by simp at h⟩
  | (k, t) :: l, h => by
    simp only [okToks, Bool.and_eq_true, Bool.not_eq_true'] at h
    obtain ⟨⟨h1, h2⟩, h3⟩ := h
    obtain ⟨g1, g2, g3⟩ := okToks_spec h3
    have ne : ∀ q ∈ l, q.1 ≠ k ∧ q.2 ≠ t := fun q hq => by
      have := List.all_eq_true.1 h2 q hq
      simpa using this
    refine ⟨fun k' t' hm => ?_, fun k' t1 t2 hm1 hm2 => ?_, fun k1 k2 t' hm1 hm2 => ?_⟩
    · rcases List.mem_cons.1 hm with hm | hm
      · simp only [Prod.mk.injEq] at hm
        obtain ⟨rfl, rfl⟩ := hm
        intro hd
        have := List.contains_iff_mem.2 hd
        rw [h1] at this; cases this
      · exact g1 _ _ hm
    · rcases List.mem_cons.1 hm1 with hm1 | hm1 <;> rcases List.mem_cons.1 hm2 with hm2 | hm2
      · simp only [Prod.mk.injEq] at hm1 hm2; rw [hm1.2, hm2.2]
      · simp only [Prod.mk.injEq] at hm1; exact absurd hm1.1 (ne _ hm2).1
      · simp only [Prod.mk.injEq] at hm2; exact absurd hm2.1 (ne _ hm1).1
      · exact g2 _ _ _ hm1 hm2
    · rcases List.mem_cons.1 hm1 with hm1 | hm1 <;> rcases List.mem_cons.1 hm2 with hm2 | hm2
      · simp only [Prod.mk.injEq] at hm1 hm2; rw [hm1.1, hm2.1]
      · simp only [Prod.mk.injEq] at hm1; exact absurd hm1.2 (ne _ hm2).2
      · simp only [Prod.mk.injEq] at hm2; exact absurd hm2.2 (ne _ hm1).2
      · exact g3 _ _ _ hm1 hm2

end Go.Proofs.YtbidmbjkjpdgdaaDoor.Abs
