/-
  The abstract semantics, between the thirteenth and the fourteenth part: paths that part.
-/
import Derived.Test.YtbidmbjkjpdgdaaDoorAbsM2
set_option linter.unusedVariables false
set_option linter.unusedSimpArgs false
namespace Go.Proofs.YtbidmbjkjpdgdaaDoor.Abs

/-- Two paths that part at a field. -/
def parted : List PStep → List PStep → Bool
  | .fld k _ :: p, .fld k' _ :: q => bif k == k' then parted p q else true
  | _, _ => false

theorem setD_child {T : DTy} : {x : T.El} → {k j : Nat} → {o : Nat} → {c v b : AVal} → childA (.d T x) k = some (o, c) → v.size = c.size → setC (.d T x) k v = some b → childA b j = if j = k then some (o, v) else childA (.d T x) j := by
  induction T with
  | cons h t ih1 ih2 =>
    intro x k j o c v b hc hv hs
    cases k with
    | zero =>
      simp only [setC, Option.some.injEq] at hs
      subst hs
      simp only [childA, fldD, Option.some.injEq, Prod.mk.injEq] at hc
      obtain ⟨rfl, rfl⟩ := hc
      cases j with
      | zero => simp [childA]
      | succ j =>
        have hv' : v.size = h.sz := hv
        simp only [childA, fldD, hv']
        cases fldD t x.2 j <;> simp
    | succ k =>
      simp only [setC] at hs
      split at hs
      · rename_i b' hb'
        simp only [Option.some.injEq] at hs
        subst hs
        simp only [childA, fldD] at hc
        split at hc
        · rename_i o1 a1 h1
          simp only [Option.some.injEq, Prod.mk.injEq] at hc
          obtain ⟨rfl, rfl⟩ := hc
          cases j with
          | zero => simp [childA, fldD]
          | succ j =>
            have := ih2 (x := x.2) (k := k) (j := j) (o := o1) (c := a1) (v := v) (b := b') h1 hv hb'
            simp only [childA, this]
            by_cases hjk : j = k
            · subst hjk; simp [AVal.size]
            · simp only [hjk, if_false, childA, fldD, AVal.size, Nat.add_right_cancel_iff]
              cases fldD t x.2 j <;> simp
        · cases hc
      · cases hs
  | _ => intro x k j o c v b hc hv hs; simp [childA, fldD] at hc

theorem setC_child : {a : AVal} → {k j : Nat} → {o : Nat} → {c v b : AVal} → childA a k = some (o, c) → v.size = c.size → setC a k v = some b → childA b j = if j = k then some (o, v) else childA a j
  | .d T x, k, j, o, c, v, b, hc, hv, hs => setD_child hc hv hs
  | .cons h t, 0, j, o, c, v, b, hc, hv, hs => by
    simp only [setC, Option.some.injEq] at hs
    subst hs
    simp only [childA, Option.some.injEq, Prod.mk.injEq] at hc
    obtain ⟨rfl, rfl⟩ := hc
    cases j with
    | zero => simp [childA]
    | succ j => simp [childA, hv]
  | .cons h t, k + 1, j, o, c, v, b, hc, hv, hs => by
    simp only [setC] at hs
    split at hs
    · rename_i b' hb'
      simp only [Option.some.injEq] at hs
      subst hs
      simp only [childA] at hc
      split at hc
      · rename_i o1 a1 h1
        simp only [Option.some.injEq, Prod.mk.injEq] at hc
        obtain ⟨rfl, rfl⟩ := hc
        cases j with
        | zero => simp [childA]
        | succ j =>
          have := setC_child (j := j) h1 hv hb'
          simp only [childA, this]
          by_cases hjk : j = k
          · subst hjk; simp
          · simp [hjk]
      · cases hc
    · cases hs
  | .own .., k, _, _, _, _, _, hc, _, _ | .nil, k, _, _, _, _, _, hc, _, _ | .pnil, k, _, _, _, _, _, hc, _, _ | .bptr .., k, _, _, _, _, _, hc, _, _ | .iptr .., k, _, _, _, _, _, hc, _, _ | .func .., k, _, _, _, _, _, hc, _, _ | .fnil, k, _, _, _, _, _, hc, _, _ | .snil, k, _, _, _, _, _, hc, _, _ | .iface .., k, _, _, _, _, _, hc, _, _ | .inil, k, _, _, _, _, _, hc, _, _ | .tuple .., k, _, _, _, _, _, hc, _, _ | .any, k, _, _, _, _, _, hc, _, _ | .mnil, k, _, _, _, _, _, hc, _, _ | .mref _, k, _, _, _, _, _, hc, _, _ | .mobj .., k, _, _, _, _, _, hc, _, _ | .yref _, k, _, _, _, _, _, hc, _, _ | .lobj .., k, _, _, _, _, _, hc, _, _ => by
    cases k <;> simp [childA] at hc

theorem getP_setP : {p q : List PStep} → {a v b : AVal} → setP a p v = some b → parted p q = true → getP b q = getP a q
  | .fld k o :: p, .fld k' o' :: q, a, v, b, hs, hp => by
    simp only [setP] at hs
    split at hs
    · rename_i o1 c hc
      split at hs
      · rename_i c' hc'
        cases hb : o1 == o && c'.size == c.size with
        | false => rw [hb] at hs; cases hs
        | true =>
          rw [hb] at hs
          simp only [cond_true] at hs
          simp only [Bool.and_eq_true, beq_iff_eq] at hb
          have hch := setC_child (j := k') hc hb.2 hs
          simp only [getP, hch]
          by_cases hk : k' = k
          · subst hk
            simp only [parted, beq_self_eq_true, cond_true] at hp
            simp only [if_true, hc]
            rw [getP_setP hc' hp]
          · simp only [hk, if_false]
      · cases hs
    · cases hs
  | [], _, _, _, _, _, hp => by simp [parted] at hp
  | .ix .. :: _, _, _, _, _, _, hp => by simp [parted] at hp
  | .fld .. :: _, [], _, _, _, _, hp => by simp [parted] at hp
  | .fld .. :: _, .ix .. :: _, _, _, _, _, hp => by simp [parted] at hp

end Go.Proofs.YtbidmbjkjpdgdaaDoor.Abs
