/-
  The abstract semantics, seventeenth part: a drawn region comes to what it comes to in the text's order.
-/
import Derived.Test.YtbidmbjkjpdgdaaDoorAbs16
set_option linter.unusedVariables false
set_option linter.unusedSimpArgs false
namespace Go.Proofs.YtbidmbjkjpdgdaaDoor.Abs

/-- How the temporaries stand, some operations having been carried out. -/
def EnvL (ops : Array Oper) (vs : Nat → AVal) (env0 : List AVal) (listed : Nat → Prop) (env : List AVal) : Prop :=
  env.length = env0.length ∧ ∀ t, (∀ j o, ops.toList[j]? = some o → o.dst = some t → listed j → env.getD t .any = vs j) ∧
    ((∀ j o, ops.toList[j]? = some o → o.dst = some t → ¬ listed j) → env.getD t .any = env0.getD t .any)

theorem setA_len (env : List AVal) (d : Option Tmp) (v : AVal) : (setA env d v).length = env.length := by cases d <;> simp [setA]
theorem setA_get (env : List AVal) (d : Option Tmp) (v : AVal) (t : Tmp) : (setA env d v).getD t .any = if d = some t ∧ t < env.length then v else env.getD t .any := by
  cases d with
  | none => simp [setA]
  | some u =>
    simp only [setA, List.getD_eq_getElem?_getD, List.getElem?_set, Option.some.injEq]
    by_cases h : u = t
    · subst h
      by_cases hl : u < env.length
      · simp [hl]
      · simp [hl]
    · simp [h]

theorem EnvL.step {C : CalT} {ops : Array Oper} {vs : Nat → AVal} {env0 env : List AVal} {listed listed' : Nat → Prop} {i : Nat} {o : Oper} {n0 : Nat} {envN : List AVal} (hd : DrawP C ops env0.length n0 envN) (h : EnvL ops vs env0 listed env) (ho : ops.toList[i]? = some o) (hl : ∀ j, listed' j ↔ listed j ∨ j = i) (hi : ¬ listed i) :
    EnvL ops vs env0 listed' (setA env o.dst (vs i)) := by
  refine ⟨by rw [setA_len, h.1], fun t => ⟨fun j oj hoj hdj hlj => ?_, fun hno => ?_⟩⟩
  · rw [setA_get]
    by_cases hji : j = i
    · subst hji
      rw [ho] at hoj; cases hoj
      have := hd.lt j o t ho hdj
      rw [if_pos ⟨hdj, by rw [h.1]; exact this⟩]
    · have hne : ¬ (o.dst = some t) := fun he => hji (hd.apart j i oj o t hoj ho hdj he)
      rw [if_neg (fun hh => hne hh.1)]
      exact (h.2 t).1 j oj hoj hdj (((hl j).1 hlj).resolve_right hji)
  · rw [setA_get]
    have hne : ¬ (o.dst = some t) := fun he => hno i o ho he ((hl i).2 (.inr rfl))
    rw [if_neg (fun hh => hne hh.1)]
    exact (h.2 t).2 fun j oj hoj hdj hlj => hno j oj hoj hdj ((hl j).2 (.inl hlj))

theorem envs_L {P : Program} {C : CalT} {ops : Array Oper} {envs : Nat → List AVal} {bs : Nat → Bx} {vs : Nat → AVal} {wn : Nat → Bool} {n0 : Nat} {envN : List AVal} (hd : DrawP C ops (envs 0).length n0 envN) (ht : TrI P C ops ops.toList envs bs vs wn) : ∀ i, i ≤ ops.toList.length → EnvL ops vs (envs 0) (fun j => j < i) (envs i)
  | 0, _ => ⟨rfl, fun t => ⟨fun j o _ _ h => absurd h (by omega), fun _ => rfl⟩⟩
  | i + 1, hi => by
    have ih := envs_L hd ht i (by omega)
    have ho : ops.toList[i]? = some ops.toList[i] := List.getElem?_eq_getElem (by omega)
    rw [ht.env i _ ho]
    exact EnvL.step hd ih ho (fun j => by show j < i + 1 ↔ j < i ∨ j = i; omega) (by show ¬ i < i; omega)

/-- The same where an operation looks. -/
theorem same_looks {P : Program} {C : CalT} {ops : Array Oper} {vs : Nat → AVal} {env0 env1 env2 : List AVal} {l1 l2 : Nat → Prop} {i : Nat} {o : Oper} {n0 : Nat} {envN : List AVal} (hd : DrawP C ops env0.length n0 envN) (h1 : EnvL ops vs env0 l1 env1) (h2 : EnvL ops vs env0 l2 env2) (ho : ops.toList[i]? = some o)
    (hl1 : ∀ j, ((ancs ops.toList).getD i 0).testBit j = true → l1 j) (hl2 : ∀ j, j < i → l2 j) (hle : ∀ j, l2 j → j < i) (hun : ¬ l1 i) (hlate : ∀ j oj, ops.toList[j]? = some oj → ((ancs ops.toList).getD j 0).testBit i = true → ¬ l1 j) : ∀ t ∈ o.looksAt ops, env1.getD t .any = env2.getD t .any := by
  intro t ht
  by_cases hex : ∃ (j : Nat) (oj : Oper), ops.toList[j]? = some oj ∧ oj.dst = some t
  · obtain ⟨j, oj, hoj, hdj⟩ := hex
    have before : ¬ l1 j → ¬ j < i → env1.getD t .any = env2.getD t .any := fun k1 k2 => by
      have uniq : ∀ q oq, ops.toList[q]? = some oq → oq.dst = some t → q = j := fun q oq hoq hdq => hd.apart q j oq oj t hoq hoj hdq hdj
      rw [(h1.2 t).2 (fun q oq hoq hdq hl => k1 (uniq q oq hoq hdq ▸ hl)), (h2.2 t).2 (fun q oq hoq hdq hl => k2 (uniq q oq hoq hdq ▸ hle q hl))]
    rcases hd.look i j o oj t ho hoj ht hdj with ⟨hji, hb⟩ | rfl | ⟨hij, hb⟩
    · rw [(h1.2 t).1 j oj hoj hdj (hl1 j hb), (h2.2 t).1 j oj hoj hdj (hl2 j hji)]
    · exact before hun (by omega)
    · exact before (hlate j oj hoj hb) (by omega)
  · rw [(h1.2 t).2 (fun j oj hoj hdj _ => hex ⟨j, oj, hoj, hdj⟩), (h2.2 t).2 (fun j oj hoj hdj _ => hex ⟨j, oj, hoj, hdj⟩)]

theorem opA_looks {ops : Array Oper} {o : Oper} {env1 env2 : List AVal} (h : ∀ t ∈ o.looksAt ops, env1.getD t .any = env2.getD t .any) : ∀ x ∈ o.op.operands, opA env1 x = opA env2 x := by
  intro x hx
  cases x with
  | tmp t =>
    refine h t ?_
    unfold Oper.looksAt
    refine List.mem_append_left _ (List.mem_filterMap.2 ⟨.tmp t, Array.mem_toList_iff.2 hx, rfl⟩)
  | _ => rfl
theorem wantedA_looks {ops : Array Oper} {o : Oper} {env1 env2 : List AVal} (h : ∀ t ∈ o.looksAt ops, env1.getD t .any = env2.getD t .any) : wantedA ops env1 o = wantedA ops env2 o := by
  unfold wantedA
  split
  · rfl
  · rename_i j want hg
    split
    · rename_i t ht
      rw [h t]
      unfold Oper.looksAt
      refine List.mem_append_right _ ?_
      rw [hg]
      have : (ops[j]?).bind (·.dst) = some t := ht
      simp [this]
    · rfl

theorem bs_same {P : Program} {C : CalT} {ops : Array Oper} {envs : Nat → List AVal} {bs : Nat → Bx} {vs : Nat → AVal} {wn : Nat → Bool} (ht : TrI P C ops ops.toList envs bs vs wn) {s : Nat} : ∀ i, s ≤ i → i ≤ ops.toList.length → (∀ j o, ops.toList[j]? = some o → isC C o = true → s ≤ j → ¬ j < i) → bs i = bs s
  | 0, hs, _, _ => by have : s = 0 := by omega
                      rw [this]
  | i + 1, hs, hi, hn => by
    by_cases h : s = i + 1
    · rw [h]
    · have ho : ops.toList[i]? = some ops.toList[i] := List.getElem?_eq_getElem (by omega)
      have hc : isC C ops.toList[i] = false := by
        cases hcc : isC C ops.toList[i] with
        | false => rfl
        | true => exact absurd (by omega : i < i + 1) (hn i _ ho hcc (by omega))
      rw [ht.still i _ ho hc]
      exact bs_same ht i (by omega) (by omega) fun j o hoj hcj hsj hji => hn j o hoj hcj hsj (by omega)

/-- Step by step. -/
theorem bs_tel {R : Bx → Bx → Prop} (hr : ∀ B, R B B) (htr : ∀ A B D, R A B → R B D → R A D) {bs : Nat → Bx} {s : Nat} : ∀ i, s ≤ i → (∀ j, s ≤ j → j < i → R (bs j) (bs (j + 1))) → R (bs s) (bs i)
  | 0, hs, _ => by have : s = 0 := by omega
                   rw [this]; exact hr _
  | i + 1, hs, h => by
    by_cases he : s = i + 1
    · rw [he]; exact hr _
    · exact htr _ _ _ (bs_tel hr htr i (by omega) fun j h1 h2 => h j h1 (by omega)) (h i (by omega) (by omega))

theorem bs_len {P : Program} {C : CalT} {ops : Array Oper} {envs : Nat → List AVal} {bs : Nat → Bx} {vs : Nat → AVal} {wn : Nat → Bool} (ht : TrI P C ops ops.toList envs bs vs wn) {i : Nat} (hi : i ≤ ops.toList.length) : (bs 0).box.length ≤ (bs i).box.length :=
  bs_tel (R := fun A B => A.box.length ≤ B.box.length) (fun _ => Nat.le_refl _) (fun _ _ _ => Nat.le_trans) i (Nat.zero_le _) fun j _ hj => (ht.eff j _ (List.getElem?_eq_getElem (by omega))).len

/-- A temporary that is written no more is as in the end. -/
theorem late_same {P : Program} {C : CalT} {ops : Array Oper} {envs : Nat → List AVal} {bs : Nat → Bx} {vs : Nat → AVal} {wn : Nat → Bool} {n0 : Nat} {envN : List AVal} (hd : DrawP C ops (envs 0).length n0 envN) (ht : TrI P C ops ops.toList envs bs vs wn) {i : Nat} (hi : i ≤ ops.toList.length) {t : Tmp} (hl : late ops i t = false) :
    (envs ops.toList.length).getD t .any = (envs i).getD t .any := by
  have h1 := envs_L hd ht i hi
  have h2 := envs_L hd ht ops.toList.length (Nat.le_refl _)
  have notlate : ∀ j o, ops.toList[j]? = some o → o.dst = some t → j < i := fun j o ho hdj => by
    rcases Nat.lt_or_ge j i with h | h
    · exact h
    · exfalso
      unfold late at hl
      have := List.any_eq_false.1 hl (o, j) (List.mem_zipIdx_iff_getElem?.2 ho)
      simp [hdj, h] at this
  by_cases hex : ∃ (j : Nat) (oj : Oper), ops.toList[j]? = some oj ∧ oj.dst = some t
  · obtain ⟨j, oj, hoj, hdj⟩ := hex
    have hj := notlate j oj hoj hdj
    rw [(h2.2 t).1 j oj hoj hdj (by show j < _; omega), (h1.2 t).1 j oj hoj hdj hj]
  · rw [(h2.2 t).2 (fun j oj hoj hdj _ => hex ⟨j, oj, hoj, hdj⟩), (h1.2 t).2 (fun j oj hoj hdj _ => hex ⟨j, oj, hoj, hdj⟩)]

theorem touchesX_spec {P : Program} {C : CalT} {ops : Array Oper} {envs : Nat → List AVal} {bs : Nat → Bx} {vs : Nat → AVal} {wn : Nat → Bool} {n0 : Nat} (hd : DrawP C ops (envs 0).length n0 (envs ops.toList.length)) (ht : TrI P C ops ops.toList envs bs vs wn) {j b : Nat} {q : List PStep} {o : Oper} (hj : j ≤ ops.toList.length)
    (h : touchesX ops (envs ops.toList.length) n0 j o b q = false) : touches o (opA (envs j)) n0 b q = false := by
  unfold touchesX at h
  split at h
  · rename_i t x y ho
    split at h
    · rename_i tm
      simp only [Bool.or_eq_false_iff] at h
      have he := late_same hd ht hj h.1
      have h2 := h.2
      unfold touches at h2 ⊢
      rw [ho] at h2 ⊢
      simp only at h2 ⊢
      have : opA (envs ops.toList.length) (.tmp tm) = opA (envs j) (.tmp tm) := he
      rw [← this]
      exact h2
    · cases h
  · rename_i hno
    unfold touches at h ⊢
    cases hop : o.op <;> rw [hop] at h <;> first | exact h | skip
    exact absurd hop (hno _ _ _)

/-- Where a drawn region stands. -/
structure Stands (C : CalT) (ops : Array Oper) (env0 : List AVal) (bs : Nat → Bx) (vs : Nat → AVal) (listed : Array Bool) (env : List AVal) (B : Bx) : Prop where
  size : listed.size = ops.size
  closed : Closed ops.toList fun j => listed.getD j false = true
  env : EnvL ops vs env0 (fun j => listed.getD j false = true) env
  stage : ∃ s, s ≤ ops.toList.length ∧ B = bs s ∧ ∀ j o, ops.toList[j]? = some o → isC C o = true → (listed.getD j false = true ↔ j < s)

theorem toList_get {ops : Array Oper} {i : Nat} {o : Oper} : ops.toList[i]? = some o ↔ ops[i]? = some o := by rw [Array.getElem?_toList]

theorem Stands.take {P : Program} {C : CalT} {ops : Array Oper} {envs : Nat → List AVal} {bs : Nat → Bx} {vs : Nat → AVal} {wn : Nat → Bool} {listed : Array Bool} {env : List AVal} {B : Bx} {i : Nat} {o : Oper} {n0 : Nat} (hn0 : (bs 0).box.length = n0) (hd : DrawP C ops (envs 0).length n0 (envs ops.toList.length)) (ht : TrI P C ops ops.toList envs bs vs wn)
    (h : Stands C ops (envs 0) bs vs listed env B) (hi : i ∈ Region.ready .any ops listed) (ho : ops[i]? = some o) :
    wantedA ops env o = some (wn i) ∧ ∃ B', Stands C ops (envs 0) bs vs (listed.setIfInBounds i true) (setA env o.dst (vs i)) B' ∧ (wn i = true → OpD P o (opA env) B (vs i) B') ∧ (wn i = false → vs i = .tuple .nil ∧ B' = B) := by
  obtain ⟨hun, o', ho', hall⟩ := mem_ready.1 hi
  rw [ho] at ho'; cases ho'
  have hol := toList_get.2 ho
  have hil : i < ops.toList.length := (List.getElem?_eq_some_iff.1 hol).1
  have hisz : i < listed.size := by rw [h.size]; simpa using hil
  have hunf : listed.getD i false = false := by simp [hisz] at hun ⊢; exact hun
  have hunf' : ¬ listed.getD i false = true := by rw [hunf]; simp
  have hanc : ∀ j, ((ancs ops.toList).getD i 0).testBit j = true → listed.getD j false = true := anc_listed h.closed hd.edge i o hol hall
  have hset : ∀ j, (listed.setIfInBounds i true).getD j false = true ↔ listed.getD j false = true ∨ j = i := fun j => by
    by_cases hji : j = i
    · subst hji; simp [hisz]
    · have : (listed.setIfInBounds i true).getD j false = listed.getD j false := getD_set_ne false (Ne.symm hji)
      rw [this]; simp [hji]
  have hlook := same_looks (P := P) hd h.env (envs_L hd ht i (by omega)) hol hanc (fun j hj => hj) (fun j hj => hj) hunf' (fun j oj hoj hb hlj => hunf' (anc_listed h.closed hd.edge j oj hoj (fun e he hb => h.closed j oj hoj hlj e he hb) i hb))
  have hops := opA_looks hlook
  have hclosed' : Closed ops.toList fun j => (listed.setIfInBounds i true).getD j false = true := by
    intro j oj hoj hlj e he hb
    refine (hset e.on).2 (.inl ?_)
    rcases (hset j).1 hlj with hlj | rfl
    · exact h.closed j oj hoj hlj e he hb
    · rw [hol] at hoj; cases hoj
      exact hall e he hb
  have henv' := EnvL.step hd h.env hol hset hunf'
  obtain ⟨s, hs, rfl, hst⟩ := h.stage
  have opcong : ∀ {B0 B1 : Bx} {v : AVal}, OpD P o (opA (envs i)) B0 v B1 → OpD P o (opA env) B0 v B1 := fun hop G a w ha hw next Q hn => hop G a w (fun x hx => by rw [← hops x hx]; exact ha x hx) hw next Q hn
  refine ⟨by rw [wantedA_looks hlook]; exact ht.wanted i o hol, ?_⟩
  by_cases hp : isP C o = true
  · have hc : isC C o = false := by simp [isC, hp]
    refine ⟨bs s, ⟨by simp [h.size], hclosed', henv', s, hs, rfl, fun j oj hoj hcj => ?_⟩, fun hw => opcong ((ht.run i o hol hw).2.1 hp (bs s)) , fun hw => ⟨(ht.skip i o hol hw).1, rfl⟩⟩
    rw [hset j, ← hst j oj hoj hcj]
    refine ⟨fun hh => hh.resolve_right fun hji => ?_, .inl⟩
    subst hji; rw [hol] at hoj; cases hoj
    rw [hc] at hcj; cases hcj
  · have hp' : isP C o = false := by simpa using hp
    have order : ∀ j oj, ops.toList[j]? = some oj → isC C oj = true → (inOrder C ops (envs ops.toList.length) n0 j oj i o = true ∧ inOrder C ops (envs ops.toList.length) n0 i o j oj = true) → (j < s ↔ j < i) := fun j oj hoj hcj hin => by
      rw [← hst j oj hoj hcj]
      refine ⟨fun hlj => ?_, fun hji => hanc j (hd.conf i j o oj hol hoj hji hin.1)⟩
      rcases Nat.lt_or_ge j i with hh | hh
      · exact hh
      · have hne : j ≠ i := fun he => by subst he; exact hunf' hlj
        have hanc2 : ((ancs ops.toList).getD j 0).testBit i = true := hd.conf j i oj o hoj hol (by omega) hin.2
        have := anc_listed h.closed hd.edge j oj hoj (fun e he hb => h.closed j oj hoj hlj e he hb) i hanc2
        exact absurd this hunf'
    by_cases hc : isC C o = true
    · have hsame : ∀ j oj, ops.toList[j]? = some oj → isC C oj = true → (j < s ↔ j < i) := fun j oj hoj hcj => order j oj hoj hcj (by simp [inOrder, hcj, hc])
      have hbs : bs i = bs s := by
        rcases Nat.le_total s i with hsi | his
        · exact bs_same ht i hsi (by omega) fun j oj hoj hcj hsj hji => by have := (hsame j oj hoj hcj).2 hji; omega
        · exact (bs_same ht s his hs fun j oj hoj hcj hij hjs => by have := (hsame j oj hoj hcj).1 hjs; omega).symm
      refine ⟨bs (i + 1), ⟨by simp [h.size], hclosed', henv', ?_⟩, fun hw => by rw [← hbs]; exact opcong (ht.run i o hol hw).1, fun hw => ⟨(ht.skip i o hol hw).1, by rw [(ht.skip i o hol hw).2, hbs]⟩⟩
      refine ⟨i + 1, by omega, rfl, fun j oj hoj hcj => ?_⟩
      rw [hset j, hst j oj hoj hcj, hsame j oj hoj hcj]
      omega
    · have hc' : isC C o = false := by simpa using hc
      have hr : isR C o = true := by
        cases hrr : isR C o with
        | true => rfl
        | false => simp [isC, hp', hrr] at hc'
      -- what stands between is no matter
      have unord : ∀ j oj, ops.toList[j]? = some oj → isC C oj = true → ¬ (j < s ↔ j < i) → clash C ops (envs ops.toList.length) n0 i o j oj = false := fun j oj hoj hcj hn => by
        cases hcl : clash C ops (envs ops.toList.length) n0 i o j oj with
        | false => rfl
        | true => exact absurd (order j oj hoj hcj ⟨by unfold inOrder; rw [hcj, hr, hcl]; simp, by unfold inOrder; rw [hcj, hr, hcl]; simp⟩) hn
      have tel : ∀ (R : Bx → Bx → Prop), (∀ B, R B B) → (∀ A B D, R A B → R B D → R A D) → (∀ A B, R A B → R B A) → (∀ j oj, ops.toList[j]? = some oj → isC C oj = true → clash C ops (envs ops.toList.length) n0 i o j oj = false → R (bs j) (bs (j + 1))) → R (bs i) (bs s) := fun R h1 h2 h3 h4 => by
        have step : ∀ j, j < ops.toList.length → ¬ (j < s ↔ j < i) → R (bs j) (bs (j + 1)) := fun j hj hn => by
          have hoj : ops.toList[j]? = some ops.toList[j] := List.getElem?_eq_getElem hj
          cases hcj : isC C ops.toList[j] with
          | false => rw [ht.still j _ hoj hcj]; exact h1 _
          | true => exact h4 j _ hoj hcj (unord j _ hoj hcj hn)
        rcases Nat.le_total s i with hsi | his
        · exact h3 _ _ (bs_tel h1 h2 i hsi fun j h5 h6 => step j (by omega) (by omega))
        · exact bs_tel h1 h2 s his fun j h5 h6 => step j (by omega) (by omega)
      have hsame : Same C o (opA (envs i)) (bs i) (bs s) := by
        unfold Same
        split
        · rename_i tt x hop
          intro b p hx
          refine tel (fun A B => atP B b p = atP A b p) (fun _ => rfl) (fun _ _ _ k1 k2 => k2.trans k1) (fun _ _ k => k.symm) fun j oj hoj hcj hcl => ?_
          have hjl : j ≤ ops.toList.length := by have := (List.getElem?_eq_some_iff.1 hoj).1; omega
          unfold clash at hcl
          rw [hop] at hcl
          simp only at hcl
          split at hcl
          · rename_i tm
            simp only [Bool.or_eq_false_iff] at hcl
            have he := late_same hd ht (by omega) hcl.1
            have hx' : (envs i).getD tm .any = .bptr b p := hx
            have hcl2 := hcl.2
            rw [he, hx'] at hcl2
            simp only at hcl2
            exact (ht.eff j oj hoj).keep n0 b p (by rw [← hn0]; exact bs_len ht hjl) (touchesX_spec hd ht hjl hcl2)
          · cases hcl
        · rename_i hop
          cases ha : isAny C o with
          | true => exact .inl rfl
          | false =>
            refine .inr (tel Sim Sim.refl (fun _ _ _ => Sim.trans) (fun _ _ => Sim.symm) fun j oj hoj hcj hcl => ?_)
            unfold clash at hcl
            split at hcl
            · rename_i tt x hl
              exact absurd hl (hop _ _)
            · have hnn : isN oj = true := by simpa [ha] using hcl
              exact ht.sim j oj hoj hnn
      refine ⟨bs s, ⟨by simp [h.size], hclosed', henv', s, hs, rfl, fun j oj hoj hcj => ?_⟩, fun hw => opcong ((ht.run i o hol hw).2.2 hr (bs s) hsame), fun hw => ⟨(ht.skip i o hol hw).1, rfl⟩⟩
      rw [hset j, ← hst j oj hoj hcj]
      refine ⟨fun hh => hh.resolve_right fun hji => ?_, .inl⟩
      subst hji; rw [hol] at hoj; cases hoj
      rw [hc'] at hcj; cases hcj

theorem all_listed {C : CalT} {ops : Array Oper} {env0 : List AVal} {listed : Array Bool} {n0 : Nat} {envN : List AVal} (hd : DrawP C ops env0.length n0 envN) (hsz : listed.size = ops.size) (h : Region.ready .any ops listed = []) : ∀ i, i < ops.size → listed.getD i false = true := by
  intro i
  induction i using Nat.strongRecOn with
  | _ i ih =>
    intro hi
    cases hl : listed.getD i false with
    | true => rfl
    | false =>
      exfalso
      have ho : ops[i]? = some ops[i] := Array.getElem?_eq_getElem hi
      have hmem : i ∈ Region.ready .any ops listed := mem_ready.2 ⟨by
        have : i < listed.size := by rw [hsz]; exact hi
        simp [this] at hl ⊢; exact hl, ops[i], ho, fun e he hb => by
        have := hd.edge i _ (toList_get.2 ho) e he hb
        exact ih e.on this (by omega)⟩
      rw [h] at hmem
      cases hmem

theorem draw_any {n : Nat} {P : Program} {C : CalT} {ops : Array Oper} {envs : Nat → List AVal} {bs : Nat → Bx} {vs : Nat → AVal} {wn : Nat → Bool} (hd : DrawP C ops (envs 0).length (bs 0).box.length (envs ops.toList.length)) (ht : TrI P C ops ops.toList envs bs vs wn) {Q : Exit → Act → World → Prop} (r : Option Nat) :
    ∀ (fuel : Nat) (listed : Array Bool) (env : List AVal) (B : Bx) (G : Gh) (a : Act) (w : World), listed.toList.count false ≤ fuel → Stands C ops (envs 0) bs vs listed env B → Ok G B env a w →
      (∀ G1 a1 w1, Goes n G a w G1 (bs ops.toList.length) (envs ops.toList.length) a1 w1 → Q .normal a1 w1) → wpAnyIn (Fr r) 0 P .any ops Q fuel listed a w := by
  have fin : ∀ (listed : Array Bool) (env : List AVal) (B : Bx) (G : Gh) (a : Act) (w : World), Stands C ops (envs 0) bs vs listed env B → Ok G B env a w → Region.ready .any ops listed = [] →
      (∀ G1 a1 w1, Goes n G a w G1 (bs ops.toList.length) (envs ops.toList.length) a1 w1 → Q .normal a1 w1) → Q .normal a w := by
    intro listed env B G a w hs hok hr hQ
    have hall := all_listed hd hs.size hr
    obtain ⟨s, hsl, rfl, hst⟩ := hs.stage
    have hb : bs ops.toList.length = bs s := bs_same ht _ hsl (Nat.le_refl _) fun j o hoj hcj hsj hji => by
      have := (hst j o hoj hcj).1 (hall j (by simpa using hji)); omega
    have henv : env = envs ops.toList.length := by
      have h2 := envs_L hd ht ops.toList.length (Nat.le_refl _)
      have h1 := hs.env
      apply List.ext_getElem?
      intro t
      have hg : env.getD t .any = (envs ops.toList.length).getD t .any := by
        by_cases hex : ∃ (j : Nat) (oj : Oper), ops.toList[j]? = some oj ∧ oj.dst = some t
        · obtain ⟨j, oj, hoj, hdj⟩ := hex
          have hj := (List.getElem?_eq_some_iff.1 hoj).1
          rw [(h1.2 t).1 j oj hoj hdj (hall j (by simpa using hj)), (h2.2 t).1 j oj hoj hdj hj]
        · rw [(h1.2 t).2 (fun j oj hoj hdj _ => hex ⟨j, oj, hoj, hdj⟩), (h2.2 t).2 (fun j oj hoj hdj _ => hex ⟨j, oj, hoj, hdj⟩)]
      have hlen : env.length = (envs ops.toList.length).length := by rw [h1.1, h2.1]
      rcases Nat.lt_or_ge t env.length with hlt | hge
      · rw [List.getD_eq_getElem?_getD, List.getD_eq_getElem?_getD, List.getElem?_eq_getElem hlt, List.getElem?_eq_getElem (by omega)] at hg
        rw [List.getElem?_eq_getElem hlt, List.getElem?_eq_getElem (by omega)]
        simpa using hg
      · rw [List.getElem?_eq_none hge, List.getElem?_eq_none (by omega)]
    refine hQ G a w (Goes.refl ?_)
    rw [hb, ← henv]; exact hok
  intro fuel
  induction fuel with
  | zero =>
    intro listed env B G a w hc hs hok hQ
    have hr : Region.ready .any ops listed = [] := by
      cases hrr : Region.ready .any ops listed with
      | nil => rfl
      | cons i l =>
        exfalso
        obtain ⟨hun, o, ho, _⟩ := mem_ready.1 (by rw [hrr]; exact List.mem_cons_self : i ∈ Region.ready .any ops listed)
        have hi : i < listed.size := by rw [hs.size]; exact (Array.getElem?_eq_some_iff.1 ho).1
        have hf : listed[i] = false := by simp [hi] at hun; exact hun
        have : false ∈ listed.toList := by rw [← hf]; exact Array.mem_toList_iff.2 (Array.getElem_mem hi)
        have := List.count_pos_iff.2 this
        omega
    exact ⟨hr, fin listed env B G a w hs hok hr hQ⟩
  | succ fuel ih =>
    intro listed env B G a w hc hs hok hQ
    refine ⟨fun hr => fin listed env B G a w hs hok hr hQ, fun i hi => ?_⟩
    obtain ⟨hun, o, ho, _⟩ := mem_ready.1 hi
    obtain ⟨hwa, B', hs', hrun, hskip⟩ := hs.take rfl hd ht hi ho
    have hlt : i < listed.size := by rw [hs.size]; exact (Array.getElem?_eq_some_iff.1 ho).1
    have hcount : (listed.setIfInBounds i true).toList.count false ≤ fuel := by
      have hf : listed[i] = false := by simp [hlt] at hun; exact hun
      have : (listed.setIfInBounds i true).toList = listed.toList.set i true := by simp
      rw [this]
      have hl : i < listed.toList.length := by simpa using hlt
      have hfi : listed.toList[i] = false := by simpa using hf
      have e1 : listed.toList = listed.toList.take i ++ false :: listed.toList.drop (i + 1) := by
        rw [← hfi, ← List.drop_eq_getElem_cons hl, List.take_append_drop]
      have e2 : listed.toList.set i true = listed.toList.take i ++ true :: listed.toList.drop (i + 1) := by
        rw [List.set_eq_take_append_cons_drop, if_pos hl]
      have c1 := congrArg (List.count false) e1
      have c2 := congrArg (List.count false) e2
      simp only [List.count_append, List.count_cons] at c1 c2
      simp at c1 c2
      rw [e2]
      simp only [List.count_append, List.count_cons]
      simp
      simp at hc
      omega
    unfold wpOpIn
    rw [ho]
    simp only
    cases hw : wn i with
    | true =>
      rw [if_pos (wantedA_spec hok.env (by rw [hwa, hw]))]
      refine hrun hw G a w (fun x _ => hok.env.op x) hok.w _ Q (fun cv G1 w1 h1 h2 h3 h4 => ?_) r
      have hok1 : Ok G1 B' (setA env o.dst (vs i)) (a.put o.dst cv) w1 := ⟨(hok.env.mono h3).put o.dst h1, h2, by rw [put_defers']; exact hok.marks.ext h4⟩
      exact ih _ _ _ _ _ _ hcount hs' hok1 fun G2 a2 w2 h => hQ G2 a2 w2 (Goes.trans ⟨hok1, h4, (fun d hd => .inl (by rw [put_defers'] at hd; exact hd)), fun i b _ hb => prefix_getElem? h3.addr hb⟩ h)
    | false =>
      rw [if_neg (by rw [wantedA_spec hok.env (by rw [hwa, hw])]; simp)]
      obtain ⟨hv, rfl⟩ := hskip hw
      have hok1 : Ok G B' (setA env o.dst (vs i)) (a.put o.dst undef) w := ⟨hok.env.put o.dst (by rw [hv]; exact undef_v G _), hok.w, by rw [put_defers']; exact hok.marks⟩
      exact ⟨fun _ _ => trivial, ih _ _ _ _ _ _ hcount hs' hok1 fun G2 a2 w2 h => hQ G2 a2 w2 (Goes.trans ⟨hok1, Ext.refl _ _, (fun d hd => .inl (by rw [put_defers'] at hd; exact hd)), fun _ _ _ h => h⟩ h)⟩

/-- A drawn region. -/
theorem draw_sound {n : Nat} {P : Program} {C : CalT} {ops : Array Oper} {id : Nat} {env env' : List AVal} {B B' : Bx} (hm : P.follows .mixedOrders = true) (hd : drawOk C ops env.length B.box.length env' = true) (ht : Tr P C ops ops.toList env B env' B') {G : Gh} {a : Act} {w : World} {Q : Exit → Act → World → Prop} (r : Option Nat) (hok : Ok G B env a w)
    (hQ : ∀ G1 a1 w1, Goes n G a w G1 B' env' a1 w1 → Q .normal a1 w1) : (Code.region id ops true).wpIn (Fr r) 0 P Q a w := by
  obtain ⟨envs, bs, vs, wn, rfl, rfl, rfl, rfl, hti⟩ := tr_index ht
  have hdp := drawOk_spec hd
  refine wpIn_region_any hm ?_
  have hok' : Ok G (bs 0) (envs 0) a w.drew := ⟨hok.env, hok.w.heap rfl, hok.marks.ext (Ext.drew G w)⟩
  have hrep : ∀ j, (Array.replicate ops.size false).getD j false = false := fun j => by
    rcases Nat.lt_or_ge j ops.size with h | h
    · simp [h]
    · simp [h]
  refine draw_any hdp hti r ops.size (Array.replicate ops.size false) (envs 0) (bs 0) G a w.drew (by simp) ⟨by simp, (fun i o _ h => by simp only [hrep] at h; cases h), ⟨rfl, fun t => ⟨(fun j o _ _ h => by simp only [hrep] at h; cases h), fun _ => rfl⟩⟩, 0, Nat.zero_le _, rfl, fun j o _ _ => by rw [hrep]; simp⟩ hok' fun G1 a1 w1 h => hQ G1 a1 w1 ⟨h.ok, (Ext.drew G w).trans h.ext, h.defers, h.held⟩

end Go.Proofs.YtbidmbjkjpdgdaaDoor.Abs
