import Derived.Test.YtcijddeommognaaDoorF2
import Derived.Test.YtcijddeommognaaDoorP1
import Derived.Test.YtcijddeommognaaDoorA4
import Derived.Test.YtcijddeommognaaDoorCards
import Derived.Test.YtcijddeommognaaDoorTie
import Derived.WalkKit
import Derived.ProofKit
import Derived.OpenShut
import Derived.Deep.DeepHandedRow
import Derived.Lib.LaidTab
import Derived.Stop.LaidErr
set_option linter.unusedVariables false
set_option maxRecDepth 100000
namespace Go.Proofs.YtcijddeommognaaDoor.Abs
open Go.Shelf Go.Sort
noncomputable def G13_C : CalT := tabC [G20_E, G41_E, G44_E, G40_E, G39_E, G43_E]
theorem G13_CV : CV Tryd.prog G13_C := tabC_valid (l := _) ⟨G20_valid, G41_valid, G44_valid, G40_valid, G39_valid, G43_valid, trivial⟩
noncomputable def G13_k0_S0 : SPat := ⟨[.dat .str, .any, .any, .any, .any, .any, .any, .any, .any, .any, .any, .any, .any, .any, .any, .any, .any, .any, .any, .any, .any, .any, .any, .any, .any, .any, .any, .any, .any, .any, .any, .any, .any, .any, .any, .any, .any, .any, .any, .any, .any, .any, .any, .any, .any, .any, .any, .any, .any, .any, .any, .any, .any, .any, .any, .any, .any, .any, .any, .any, .any, .any, .any, .any, .any, .any, .any, .any, .any, .any, .any, .any, .any, .any, .any, .any, .any, .any, .any, .any, .any, .any], [], 0⟩
noncomputable def G13_k0_S1 : SPat := ⟨[.dat .str, .any, .any, .any, .any, .any, .any, .any, .any, .any, .any, .any, .any, .any, .any, .any, .any, .any, .any, .any, .any, .any, .dat .bool, .any, .any, .any, .any, .any, .any, .any, .any, .any, .any, .any, .any, .any, .any, .any, .any, .any, .any, .any, .any, .any, .any, .any, .any, .any, .any, .any, .any, .any, .any, .any, .any, .any, .any, .any, .any, .any, .any, .any, .any, .any, .any, .any, .any, .any, .any, .any, .any, .any, .any, .any, .any, .any, .any, .any, .any, .any, .any, .any], [], 0⟩
noncomputable def G13_k0_run (s : ((ByteArray × Unit) × Unit)) : Option (Nat × ((ByteArray × (Bool × Unit)) × Unit)) :=
  (bif (decide ((ByteArray.size s.1.1 : Int) > 800)) then
  (bif (decide ((ByteArray.size s.1.1 : Int) ≤ 10000)) then
    some (0, ((s.1.1, (true, ())), ()))
    else
    some (0, ((s.1.1, ((decide ((ByteArray.size s.1.1 : Int) > 10100)), ())), ())))
  else
  some (0, ((s.1.1, ((decide ((ByteArray.size s.1.1 : Int) > 10100)), ())), ())))
noncomputable def G13_k0_L : LoopT := cutT G13_k0_S0 G13_k0_S1 [.normal] G13_k0_run
noncomputable def G13_k1_S0 : SPat := ⟨[.dat .str, .any, .any, .dat (.list T39), .dat (.int .i64), .dat (.list T39), .dat .bool, .dat (.int .i64), .any, .any, .any, .any, .any, .any, .any, .any, .any, .any, .any, .any, .any, .any, .any, .any, .any, .any, .any, .any, .any, .any, .any, .any, .any, .any, .any, .any, .any, .any, .any, .any, .any, .any, .any, .any, .any, .any, .any, .any, .any, .any, .any, .any, .any, .any, .any, .any, .any, .any, .any, .any, .any, .any, .any, .any, .any, .any, .any, .any, .any, .any, .any, .any, .any, .any, .any, .any, .any, .any, .any, .any, .any, .any], [], 0⟩
noncomputable def G13_k1_S1 : SPat := ⟨[.dat .str, .any, .any, .dat (.list T39), .dat (.int .i64), .dat (.list T39), .any, .dat (.int .i64), .any, .any, .any, .any, .any, .any, .any, .any, .any, .any, .any, .any, .any, .any, .any, .any, .any, .any, .any, .any, .any, .any, .any, .any, .any, .any, .any, .any, .any, .any, .any, .any, .any, .any, .any, .any, .any, .any, .any, .any, .any, .any, .any, .any, .any, .any, .any, .any, .any, .any, .any, .any, .any, .any, .any, .any, .any, .any, .any, .any, .any, .any, .any, .any, .any, .any, .any, .any, .any, .any, .any, .any, .any, .any], [], 0⟩
abbrev TY89 : Type := (Nat × ((ByteArray × ((List E39) × (Int × ((List E39) × (Int × Unit))))) × Unit))
noncomputable def G13_k1_run (s : ((ByteArray × ((List E39) × (Int × ((List E39) × (Bool × (Int × Unit)))))) × Unit)) : Option TY89 :=
  (bif (decide ((ByteArray.size s.1.1 : Int) > 10000)) then
  some (0, ((s.1.1, (s.1.2.1, (s.1.2.2.1, (s.1.2.2.2.1, (3, ()))))), ()))
  else
  (bif (!s.1.2.2.2.2.1) then
    some (0, ((s.1.1, (s.1.2.1, (s.1.2.2.1, (s.1.2.2.2.1, (4, ()))))), ()))
    else
    (bif (decide ((List.length s.1.2.2.2.1 : Int) > 6)) then
      some (0, ((s.1.1, (s.1.2.1, (s.1.2.2.1, (s.1.2.2.2.1, (3, ()))))), ()))
      else
      (Option.bind (G40 s.1.2.2.2.1) fun r16 =>
        (bif (!r16) then
          some (0, ((s.1.1, (s.1.2.1, (s.1.2.2.1, (s.1.2.2.2.1, (2, ()))))), ()))
          else
          some (0, ((s.1.1, (s.1.2.1, (s.1.2.2.1, (s.1.2.2.2.1, (s.1.2.2.2.2.2.1, ()))))), ())))))))
noncomputable def G13_k1_L : LoopT := cutT G13_k1_S0 G13_k1_S1 [.normal] G13_k1_run
noncomputable def G13_k2_S0 : SPat := ⟨[.any, .any, .any, .dat (.list T39), .dat (.int .i64), .any, .any, .dat (.int .i64), .any, .any, .any, .any, .any, .any, .any, .any, .any, .any, .any, .any, .any, .any, .any, .any, .any, .any, .any, .any, .any, .any, .any, .any, .any, .any, .any, .any, .any, .any, .any, .any, .any, .any, .any, .any, .any, .any, .any, .any, .any, .any, .any, .any, .any, .any, .any, .any, .any, .any, .any, .any, .any, .any, .any, .any, .any, .any, .any, .any, .any, .any, .any, .any, .any, .any, .any, .any, .any, .any, .any, .any, .any, .any], [], 0⟩
noncomputable def G13_k2_S1 : SPat := ⟨[.any, .any, .dat .bool, .any, .any, .any, .any, .any, .any, .any, .any, .any, .any, .any, .any, .any, .any, .any, .any, .any, .any, .any, .any, .any, .any, .any, .any, .any, .any, .any, .any, .any, .any, .any, .any, .any, .any, .any, .any, .any, .any, .any, .any, .any, .any, .any, .any, .any, .any, .any, .any, .any, .any, .any, .any, .any, .any, .any, .any, .any, .any, .any, .any, .any, .any, .any, .any, .any, .any, .any, .any, .any, .any, .any, .any, .any, .any, .any, .any, .any, .any, .any], [], 0⟩
noncomputable def G13_k2_run (s : (((List E39) × (Int × (Int × Unit))) × Unit)) : Option (Nat × ((Bool × Unit) × Unit)) :=
  (bif (s.1.2.1 == s.1.2.2.1) then
  (bif ((List.length s.1.1 : Int) == 0) then
    (Option.bind G20 fun r21 =>
      some (0, ((r21, ()), ())))
    else
    some (0, ((false, ()), ())))
  else
  some (0, ((false, ()), ())))
noncomputable def G13_k2_L : LoopT := cutT G13_k2_S0 G13_k2_S1 [.normal] G13_k2_run
noncomputable def G13_k3_S0 : SPat := ⟨[.dat .str, .any, .any, .dat (.list T39), .dat (.int .i64), .dat (.list T39), .any, .any, .dat .str, .dat (.int .i64), .any, .any, .any, .any, .any, .any, .any, .any, .any, .any, .any, .any, .any, .any, .any, .any, .any, .any, .any, .any, .any, .any, .any, .any, .any, .any, .any, .any, .any, .any, .any, .any, .any, .any, .any, .any, .any, .any, .any, .any, .any, .any, .any, .any, .any, .any, .any, .any, .any, .any, .any, .any, .any, .any, .any, .any, .any, .any, .any, .any, .any, .any, .any, .any, .any, .any, .any, .any, .any, .any, .any, .any], [], 0⟩
noncomputable def G13_k3_S1 : SPat := ⟨[.any, .any, .dat .bool, .any, .any, .any, .any, .any, .any, .any, .any, .any, .any, .any, .any, .any, .any, .any, .any, .any, .any, .any, .any, .any, .any, .any, .any, .any, .any, .any, .any, .any, .any, .any, .any, .any, .any, .any, .any, .any, .any, .any, .any, .any, .any, .any, .any, .any, .any, .any, .any, .any, .any, .any, .any, .any, .any, .any, .any, .any, .any, .any, .any, .any, .any, .any, .any, .any, .any, .any, .any, .any, .any, .any, .any, .any, .any, .any, .any, .any, .any, .any], [], 0⟩
noncomputable def G13_k3_run (s : ((ByteArray × ((List E39) × (Int × ((List E39) × (ByteArray × (Int × Unit)))))) × Unit)) : Option (Nat × ((Bool × Unit) × Unit)) :=
  (bif (s.1.2.2.1 == 0) then
  (Option.bind (G43 s.1.2.1 s.1.2.2.2.1) fun r29 =>
    (bif r29 then
      (bif (s.1.2.2.2.2.2.1 == 0) then
        (bif (ByteArray.toList s.1.2.2.2.2.1 == ByteArray.toList s.1.1) then
          (Option.bind G20 fun r30 =>
            some (0, ((r30, ()), ())))
          else
          some (0, ((false, ()), ())))
        else
        some (0, ((false, ()), ())))
      else
      some (0, ((false, ()), ()))))
  else
  some (0, ((false, ()), ())))
noncomputable def G13_k3_L : LoopT := cutT G13_k3_S0 G13_k3_S1 [.normal] G13_k3_run
noncomputable def G13 (a0 : ByteArray) : Option Bool :=
  (Option.bind (G13_k0_run ((a0, ()), ())) fun q7 =>
  (bif q7.2.1.2.1 then
    (Option.bind G20 fun r8 =>
      some r8)
    else
    (Option.bind (G41 q7.2.1.1) fun r10 =>
      (Option.bind (G44 q7.2.1.1) fun r12 =>
        (Option.bind (G13_k1_run ((q7.2.1.1, (r10.1, (r10.2.1, (r12.1, (r12.2.1, (0, ())))))), ())) fun q17 =>
          (bif (q17.2.1.2.2.2.2.1 != 0) then
            (Option.bind (G13_k2_run ((q17.2.1.2.1, (q17.2.1.2.2.1, (q17.2.1.2.2.2.2.1, ()))), ())) fun q22 =>
              some q22.2.1.1)
            else
            (Option.bind (G39 q17.2.1.2.1) fun r24 =>
              (Option.bind (G13_k3_run ((q17.2.1.1, (q17.2.1.2.1, (q17.2.1.2.2.1, (q17.2.1.2.2.2.1, (r24.1, (r24.2.1, ())))))), ())) fun q31 =>
                some q31.2.1.1))))))))
noncomputable def G13_k0_J : Jn := (.whole [])
theorem G13_k0_JV : JV 0 Tryd.prog false (G13_k0_J) (seqL (seqL (seqR (bodyOf Tryd.f13)))) := jv_nil
theorem G13_k0_V : LValid 0 Tryd.prog (seqL (seqL (seqR (bodyOf Tryd.f13)))) (G13_k0_L) false :=
  cutT_valid (ev := jnT Tryd.prog G13_C (G13_k0_J) (seqL (seqL (seqR (bodyOf Tryd.f13))))) (jnT_valid mixed G13_CV (G13_k0_JV)) (by kernel_rfl) (by kernel_rfl) (by decide) (by decide) (by intro s; kernel_rfl)
noncomputable def G13_k1_J : Jn := (.whole [])
theorem G13_k1_JV : JV 0 Tryd.prog false (G13_k1_J) (seqL (seqR (seqR (seqR (seqR (seqR (bodyOf Tryd.f13))))))) := jv_nil
theorem G13_k1_V : LValid 0 Tryd.prog (seqL (seqR (seqR (seqR (seqR (seqR (bodyOf Tryd.f13))))))) (G13_k1_L) false :=
  cutT_valid (ev := jnT Tryd.prog G13_C (G13_k1_J) (seqL (seqR (seqR (seqR (seqR (seqR (bodyOf Tryd.f13)))))))) (jnT_valid mixed G13_CV (G13_k1_JV)) (by kernel_rfl) (by kernel_rfl) (by decide) (by decide) (by intro s; kernel_rfl)
noncomputable def G13_k2_J : Jn := (.whole [])
theorem G13_k2_JV : JV 0 Tryd.prog false (G13_k2_J) (seqL (conL (seqR (seqL (seqR (seqR (seqR (seqR (seqR (seqR (bodyOf Tryd.f13))))))))))) := jv_nil
theorem G13_k2_V : LValid 0 Tryd.prog (seqL (conL (seqR (seqL (seqR (seqR (seqR (seqR (seqR (seqR (bodyOf Tryd.f13))))))))))) (G13_k2_L) false :=
  cutT_valid (ev := jnT Tryd.prog G13_C (G13_k2_J) (seqL (conL (seqR (seqL (seqR (seqR (seqR (seqR (seqR (seqR (bodyOf Tryd.f13)))))))))))) (jnT_valid mixed G13_CV (G13_k2_JV)) (by kernel_rfl) (by kernel_rfl) (by decide) (by decide) (by intro s; kernel_rfl)
noncomputable def G13_k3_J : Jn := (.whole [])
theorem G13_k3_JV : JV 0 Tryd.prog false (G13_k3_J) (seqL (seqR (seqR (seqR (seqR (seqR (seqR (seqR (seqR (bodyOf Tryd.f13)))))))))) := jv_nil
theorem G13_k3_V : LValid 0 Tryd.prog (seqL (seqR (seqR (seqR (seqR (seqR (seqR (seqR (seqR (bodyOf Tryd.f13)))))))))) (G13_k3_L) false :=
  cutT_valid (ev := jnT Tryd.prog G13_C (G13_k3_J) (seqL (seqR (seqR (seqR (seqR (seqR (seqR (seqR (seqR (bodyOf Tryd.f13))))))))))) (jnT_valid mixed G13_CV (G13_k3_JV)) (by kernel_rfl) (by kernel_rfl) (by decide) (by decide) (by intro s; kernel_rfl)
noncomputable def G13_J : Jn := (.seq (.whole []) (.seq (.seq (.cut G13_k0_L) (.whole [])) (.seq (.whole []) (.seq (.whole []) (.seq (.whole []) (.seq (.cut G13_k1_L) (.seq (.seq (.whole []) (.cond (.seq (.cut G13_k2_L) (.whole [])) (.whole []))) (.seq (.whole []) (.seq (.cut G13_k3_L) (.whole []))))))))))
theorem G13_JV : JV 0 Tryd.prog false (G13_J) (bodyOf Tryd.f13) := (jv_seq (by kernel_rfl) jv_nil (jv_seq (by kernel_rfl) (jv_seq (by kernel_rfl) (jv_cut G13_k0_V) jv_nil) (jv_seq (by kernel_rfl) jv_nil (jv_seq (by kernel_rfl) jv_nil (jv_seq (by kernel_rfl) jv_nil (jv_seq (by kernel_rfl) (jv_cut G13_k1_V) (jv_seq (by kernel_rfl) (jv_seq (by kernel_rfl) jv_nil (jv_con (by kernel_rfl) (jv_seq (by kernel_rfl) (jv_cut G13_k2_V) jv_nil) jv_nil)) (jv_seq (by kernel_rfl) jv_nil (jv_seq (by kernel_rfl) (jv_cut G13_k3_V) jv_nil)))))))))
theorem G13_ent : Ent Tryd.prog 13 := ⟨by decide, enters_of Tryd.func13 (by kernel_rfl) rfl⟩
theorem G13_hev : ∀ x, fnE (jnT Tryd.prog G13_C (G13_J) (bodyOf Tryd.f13)) Tryd.prog Tryd.f13 (encs [.dat .str] x) ⟨[], [], 0⟩ (frzF (.dat .bool)) = G13 x.1 := by
  intro x; kernel_rfl
theorem G13_lcall : ∀ x r, (fun x : Els [.dat .str] => G13 x.1) x = some r → LCall 0 Tryd.prog 13 (encs [.dat .str] x) ⟨[], [], 0⟩ (.d .bool r) ⟨[], [], 0⟩ := frz_lcallE (ev := (jnT Tryd.prog G13_C (G13_J) (bodyOf Tryd.f13))) (R := .dat .bool) Tryd.func13 rfl G13_ent (jnT_valid mixed G13_CV (G13_JV)) (by kernel_rfl) (by kernel_rfl) G13_hev
end Go.Proofs.YtcijddeommognaaDoor.Abs
set_option linter.unusedVariables false
set_option linter.unusedSimpArgs false
set_option maxRecDepth 100000
namespace Go.Proofs.YtcijddeommognaaDoor.Abs
open Classical
attribute [local irreducible] G20 G41 G39 G44 G40 G43
theorem law13 (t : ByteArray) : G13 t = some true := by
  unfold G13
  have hk0 : G13_k0_run ((t, ()), ()) = some (0, ((t, (decide (800 < t.size ∧ t.size ≤ 10000 ∨ 10100 < t.size), ())), ())) := by
    unfold G13_k0_run
    simp only
    by_cases h1 : 800 < t.size
    · rw [decide_eq_true (p := (t.size : Int) > 800) (by omega)]
      by_cases h2 : t.size ≤ 10000
      · rw [decide_eq_true (p := (t.size : Int) ≤ 10000) (by omega), decide_eq_true (p := 800 < t.size ∧ t.size ≤ 10000 ∨ 10100 < t.size) (.inl ⟨h1, h2⟩)]; rfl
      · rw [decide_eq_false (p := (t.size : Int) ≤ 10000) (by omega)]
        simp only [cond_true, cond_false]
        congr 5
        rw [decide_eq_decide]; omega
    · rw [decide_eq_false (p := (t.size : Int) > 800) (by omega)]
      simp only [cond_false]
      congr 5
      rw [decide_eq_decide]; omega
  rw [hk0]
  simp only [Option.bind_some]
  by_cases hbig : 800 < t.size ∧ t.size ≤ 10000 ∨ 10100 < t.size
  · rw [decide_eq_true hbig]
    simp only [cond_true, known_ok, Option.bind_some]
  rw [decide_eq_false hbig]
  simp only [cond_false]
  have hsz := bl_len t
  rw [← mk_bl t]
  generalize hT : bl t = T at hsz
  have hms : ByteArray.size (mkB T) = T.length := mkB_size T
  have bad : ∀ (e : Int), G13_k2_run ((([] : List E39), (e, (e, ()))), ()) = some (0, ((true, ()), ())) := fun e => by
    unfold G13_k2_run
    simp only [beq_self_eq_true, cond_true, Option.bind_some, known_ok, List.length_nil]
    rfl
  by_cases h5 : 10000 < T.length
  · have hr : G41 (mkB T) = some ([], (3, ())) := by
      unfold G41
      rw [decide_eq_true (p := (ByteArray.size (mkB T) : Int) > 10000) (by rw [hms]; omega)]
      rfl
    obtain ⟨z, b, hq⟩ : ∃ z b, G44 (mkB T) = some (z, (b, ())) := by
      rcases rread_eq (t := T) (by omega) with ⟨f, _, _, h⟩ | ⟨_, z, h⟩
      · exact ⟨_, _, h⟩
      · exact ⟨_, _, h⟩
    have hk1 : G13_k1_run ((mkB T, (([] : List E39), (3, (z, (b, (0, ())))))), ()) = some (0, ((mkB T, (([] : List E39), (3, (z, (3, ()))))), ())) := by
      unfold G13_k1_run
      simp only
      rw [decide_eq_true (p := (ByteArray.size (mkB T) : Int) > 10000) (by rw [hms]; omega)]
      rfl
    simp only [hr, hq, Option.bind_some]
    rw [hk1]
    simp only [Option.bind_some, show ((3 : Int) != 0) = true from rfl, cond_true]
    rw [bad 3]
    rfl
  have hT5 : T.length ≤ 10000 := by omega
  rcases rread_eq (t := T) (by omega) with ⟨l, hf, e1, hq⟩ | ⟨h1, z, hq⟩
  · have hr := Read_eq hT5
    have hr : l.length ≤ T.length ∧ ((6 < l.length ∧ G41 (mkB T) = some ([], (3, ()))) ∨ (l.length ≤ 6 ∧ (¬ ∀ x ∈ l.map encS, OkShip x) ∧ G41 (mkB T) = some ([], (2, ()))) ∨ (l.length ≤ 6 ∧ (∀ x ∈ l.map encS, OkShip x) ∧ G41 (mkB T) = some (l.map encS, (0, ())))) := by
      rcases hr with ⟨m, hm, e, h⟩ | ⟨h, _⟩
      · rw [mani_inj (e1.symm.trans e)]; exact h
      · exact absurd e1 (h l hf)
    obtain ⟨hll, hr⟩ := hr
    have hk : ∀ (o : List E39) (e : Int), e = (if 6 < l.length then 3 else if ∀ x ∈ l.map encS, OkShip x then 0 else 2) → G13_k1_run ((mkB T, (o, (e, (l.map encS, (true, (0, ())))))), ()) = some (0, ((mkB T, (o, (e, (l.map encS, (e, ()))))), ())) := fun o e he => by
      unfold G13_k1_run
      simp only
      rw [decide_eq_false (p := (ByteArray.size (mkB T) : Int) > 10000) (by rw [hms]; omega), List.length_map]
      simp only [cond_false, Bool.not_true]
      by_cases h6 : 6 < l.length
      · rw [decide_eq_true (p := (l.length : Int) > 6) (by omega), he, if_pos h6]; rfl
      · rw [decide_eq_false (p := (l.length : Int) > 6) (by omega), he, if_neg h6]
        by_cases hok : ∀ x ∈ l.map encS, OkShip x
        · rw [(ships40 _ (by rw [List.length_map]; omega)).val hok, if_pos hok]; rfl
        · rw [(ships40 _ (by rw [List.length_map]; omega)).nval hok, if_neg hok]; rfl
    rcases hr with ⟨h6, hr⟩ | ⟨h6, hno, hr⟩ | ⟨h6, hok, hr⟩
    · simp only [hr, hq, Option.bind_some]
      rw [hk [] 3 (by rw [if_pos h6])]
      simp only [Option.bind_some, show ((3 : Int) != 0) = true from rfl, cond_true]
      rw [bad 3]
      rfl
    · simp only [hr, hq, Option.bind_some]
      rw [hk [] 2 (by rw [if_neg (by omega), if_neg hno])]
      simp only [Option.bind_some, show ((2 : Int) != 0) = true from rfl, cond_true]
      rw [bad 2]
      rfl
    · have hk3 : G13_k3_run ((mkB T, (l.map encS, (0, (l.map encS, (mkB T, (0, ())))))), ()) = some (0, ((true, ()), ())) := by
        unfold G13_k3_run
        simp only [beq_self_eq_true, cond_true, same_self (l.map encS) (by rw [List.length_map]; omega), Option.bind_some, known_ok]
      have hp := print_ok hf h6 hok
      rw [← e1] at hp
      simp only [hr, hq, Option.bind_some]
      rw [hk (l.map encS) 0 (by rw [if_neg (by omega), if_pos hok])]
      simp only [Option.bind_some, show ((0 : Int) != 0) = false from rfl, cond_false, hp]
      rw [hk3]
      rfl
  · have hr : G41 (mkB T) = some ([], (4, ())) := by
      rcases Read_eq hT5 with ⟨g, hg, e, _⟩ | ⟨_, h⟩
      · exact absurd e (h1 g hg)
      · exact h
    have hk1 : G13_k1_run ((mkB T, (([] : List E39), (4, (z, (false, (0, ())))))), ()) = some (0, ((mkB T, (([] : List E39), (4, (z, (4, ()))))), ())) := by
      unfold G13_k1_run
      simp only
      rw [decide_eq_false (p := (ByteArray.size (mkB T) : Int) > 10000) (by rw [hms]; omega)]
      rfl
    simp only [hr, hq, Option.bind_some]
    rw [hk1]
    simp only [Option.bind_some, show ((4 : Int) != 0) = true from rfl, cond_true]
    rw [bad 4]
    rfl
theorem G13_true : ∀ x : Els [.dat .str], wfs [.dat .str] x → G13 x.1 = some true := fun x _ => law13 _
end Go.Proofs.YtcijddeommognaaDoor.Abs
set_option linter.unusedVariables false
set_option maxRecDepth 100000
namespace Go.Proofs.YtcijddeommognaaDoor.Abs.storeReads
open Go.ChangeShapes Go.WideShapes Go.RowKit
theorem own : ownKnob Tryd.prog.godebug = none := by kernel_rfl
theorem laidOut : laidOutB Tryd.prog = true := by kernel_rfl
theorem gTab : Tryd.prog.globalNamed "internal/strconv.uint64pow10" = some 0 := by kernel_rfl
theorem gTabType : (Tryd.prog.globals[0]?).map (·.type) = some 153 := by kernel_rfl
theorem cellsT : Tryd.prog.cellsOf 153 = 20 := by kernel_rfl
theorem cellsE : Tryd.prog.cellsOf 143 = 1 := by kernel_rfl
theorem undT : Tryd.prog.underlying 153 = some (.array 20 143) := by kernel_rfl
theorem undE : Tryd.prog.underlying 143 = some (.int .u64) := by kernel_rfl
theorem table {W : World} (h : laidMetH Tryd.prog Rows.storeReadsRow.laid W) : Lib.TabIs Tryd.prog W "internal/strconv.uint64pow10" .u64 [1, 10, 100, 1000, 10000, 100000, 1000000, 10000000, 100000000, 1000000000, 10000000000, 100000000000, 1000000000000, 10000000000000, 100000000000000, 1000000000000000, 10000000000000000, 100000000000000000, 1000000000000000000, 10000000000000000000] :=
  Lib.tabIs_of_head (rest := [("unicode/utf8.acceptRanges", Rows.laid_unicode_utf8_acceptRanges), ("unicode/utf8.first", Rows.laid_unicode_utf8_first)]) gTab gTabType undT undE cellsE cellsT (laidMet.tail (laidMet.tail (h)))
theorem tabOk {W : World} (h : laidMetH Tryd.prog Rows.storeReadsRow.laid W) : ∀ q ∈ TABS, ∃ e fr, W.heap[q.1]? = some (.cells q.2 e fr) := by
  have ht := table h
  unfold Lib.TabIs World.var? at ht
  rw [gTab] at ht
  simp only [Option.bind_some] at ht
  intro q hq
  have hq' : q = (0, _) := List.mem_singleton.1 hq
  subst hq'
  show ∃ e fr, W.heap[0]? = _
  split at ht
  · rename_i cs e fr hc
    exact ⟨e, fr, by rw [hc]; simp only [Option.some.injEq] at ht; rw [ht]; rfl⟩
  · cases ht
noncomputable def laidWorld (os : Os) : World :=
  { World.holding Tryd.prog os ⟨#[], #[], []⟩ with heap := ((((((World.holding Tryd.prog os ⟨#[], #[], []⟩).heap.modify 2 fun | .cells _ t frozen => .cells #[.int .u8 0, .int .u8 1, .int .u8 28, .int .u8 2, .int .u8 29, .int .u8 14, .int .u8 24, .int .u8 3, .int .u8 30, .int .u8 22, .int .u8 20, .int .u8 15, .int .u8 25, .int .u8 17, .int .u8 4, .int .u8 8, .int .u8 31, .int .u8 27, .int .u8 13, .int .u8 23, .int .u8 21, .int .u8 19, .int .u8 16, .int .u8 7, .int .u8 26, .int .u8 12, .int .u8 18, .int .u8 6, .int .u8 11, .int .u8 5, .int .u8 10, .int .u8 9] t frozen | o => o).modify 3 fun | .cells _ t frozen => .cells #[.int .u8 0, .int .u8 1, .int .u8 56, .int .u8 2, .int .u8 57, .int .u8 49, .int .u8 28, .int .u8 3, .int .u8 61, .int .u8 58, .int .u8 42, .int .u8 50, .int .u8 38, .int .u8 29, .int .u8 17, .int .u8 4, .int .u8 62, .int .u8 47, .int .u8 59, .int .u8 36, .int .u8 45, .int .u8 43, .int .u8 51, .int .u8 22, .int .u8 53, .int .u8 39, .int .u8 33, .int .u8 30, .int .u8 24, .int .u8 18, .int .u8 12, .int .u8 5, .int .u8 63, .int .u8 55, .int .u8 48, .int .u8 27, .int .u8 60, .int .u8 41, .int .u8 37, .int .u8 16, .int .u8 46, .int .u8 35, .int .u8 44, .int .u8 21, .int .u8 52, .int .u8 32, .int .u8 23, .int .u8 11, .int .u8 54, .int .u8 26, .int .u8 40, .int .u8 15, .int .u8 34, .int .u8 20, .int .u8 31, .int .u8 10, .int .u8 25, .int .u8 14, .int .u8 19, .int .u8 9, .int .u8 13, .int .u8 8, .int .u8 7, .int .u8 6] t frozen | o => o).modify 0 fun | .cells _ t frozen => .cells #[.int .u64 1, .int .u64 10, .int .u64 100, .int .u64 1000, .int .u64 10000, .int .u64 100000, .int .u64 1000000, .int .u64 10000000, .int .u64 100000000, .int .u64 1000000000, .int .u64 10000000000, .int .u64 100000000000, .int .u64 1000000000000, .int .u64 10000000000000, .int .u64 100000000000000, .int .u64 1000000000000000, .int .u64 10000000000000000, .int .u64 100000000000000000, .int .u64 1000000000000000000, .int .u64 10000000000000000000] t frozen | o => o).modify 5 fun | .cells _ t frozen => .cells #[.int .u8 128, .int .u8 191, .int .u8 160, .int .u8 191, .int .u8 128, .int .u8 159, .int .u8 144, .int .u8 191, .int .u8 128, .int .u8 143, .int .u8 0, .int .u8 0, .int .u8 0, .int .u8 0, .int .u8 0, .int .u8 0, .int .u8 0, .int .u8 0, .int .u8 0, .int .u8 0, .int .u8 0, .int .u8 0, .int .u8 0, .int .u8 0, .int .u8 0, .int .u8 0, .int .u8 0, .int .u8 0, .int .u8 0, .int .u8 0, .int .u8 0, .int .u8 0] t frozen | o => o).modify 4 fun | .cells _ t frozen => .cells (Go.Pinned.utf8FirstZ.map fun n : Nat => Value.int .u8 (n : Int)).toArray t frozen | o => o) }
theorem laid_met (os : Os) : laidMet Tryd.prog Rows.storeReadsRow.laid ((laidWorld os).forCall (fun _ _ => 0) ⟨#[], #[(Value.string ⟨#[]⟩)], []⟩).memory :=
  laidMet_of_run' 8 (by kernel_rfl) (by kernel_rfl)
theorem reads (os : Os) {H : Type} (enc : TypeId × Value → H) : ∃ places, DataW.whole enc Tryd.prog ((laidWorld os).forCall (fun _ _ => 0) ⟨#[], #[(Value.string ⟨#[]⟩)], []⟩).memory Tryd.f13.params.toList Rows.storeReadsSpec.vars false #[(Value.string ⟨#[]⟩)].toList 16 = some ([.lit (.string [])], [], places) :=
  ⟨[], by kernel_rfl⟩
theorem spec_fn (H : Type) : (ds : List (DataW H)) → ds.length = Tryd.f13.params.toList.length → (Rows.storeReadsSpec.fn H ds).results = [.lit (.bool true)] ∧ (Rows.storeReadsSpec.fn H ds).args = ds ∧ (Rows.storeReadsSpec.fn H ds).vars = []
  | [], h => by rw [show Tryd.f13.params.toList.length = 1 from by kernel_rfl] at h; simp at h
  | [d0], _ => ⟨rfl, rfl, rfl⟩
  | d0 :: _ :: _, h => by rw [show Tryd.f13.params.toList.length = 1 from by kernel_rfl] at h; simp at h
theorem contract (H : Type) (enc : TypeId × Value → H) (W : World) (base : Nat) (args : Array Value) (ds gs : List (DataW H)) (before : List MemPlace)
    (hval : ∀ (j : Nat) t v, Tryd.f13.params[j]? = some t → args[j]? = some v → Value.okWide Tryd.prog W .any base t v)
    (hW : DataW.Whole enc Tryd.prog Tryd.f13.params.toList Rows.storeReadsSpec.vars false W args.toList ds gs before) (hL : laidMetH Tryd.prog Rows.storeReadsRow.laid W) :
    Calls Tryd.prog 13 args W fun e W' => ∃ v, e = .returned v ∧ Rows.storeReadsSpec.post enc Tryd.prog Tryd.f13 false true false false W args v W' :=
  law_contract (n := 20) (fun x r h => G13_lcall x r h) (fun x hx => G13_true x hx) (by decide) (show Tryd.f13.resultTypes = #[4] by kernel_rfl) (by kernel_rfl) (by kernel_rfl) laidOut (by
    intro t ht
    have : (Tryd.f13.params.toList.all fun t => Tryd.prog.readableRec t && decide (t < Tryd.prog.types.size)) = true := by kernel_rfl
    have := List.all_eq_true.1 this t ht
    simpa using this) rfl spec_fn hval hW (tabOk hL)
theorem lifted (os : Os) (started : os.Started) (H : Type) (enc : TypeId × Value → H) (F : Stop.Interp) :
    ReturnsInHanded {} Tryd.checked os 13 .any ((OpenSpec.ofChange Rows.storeReadsSpec).preRow enc Tryd.prog Tryd.f13 Rows.storeReadsRow.domain false Rows.storeReadsRow.laid) (((OpenSpec.ofChange Rows.storeReadsSpec).at F).post enc Tryd.prog Tryd.f13 false true false false) := by
  obtain ⟨places, hx⟩ := reads os enc
  refine returnsInHanded_of_row (C := Tryd.checked) (s := OpenSpec.ofChange Rows.storeReadsSpec) own started (by kernel_rfl) Tryd.func13
    (witness_row_at (enc := enc) (C := Tryd.checked) false (laidWorld os) #[(Value.string ⟨#[]⟩)] rfl (by kernel_rfl) (by kernel_rfl) (by kernel_rfl)
      (OpenSpec.preRow_of_cond 16 hx (by kernel_rfl) (fun k hk => by cases hk) (by kernel_rfl) (laid_met os))) ?_
  intro W base args ds gs before hval hW _ _ _ hL _ _
  exact contract H enc W base args ds gs before hval hW hL
theorem said : Rows.StoreReadsSaid :=
  OpenClaim.holds_of_cond 13 Tryd.f13 rfl rfl rfl rfl rfl rfl rfl ⟨rfl, rfl, rfl, rfl, rfl⟩ rfl rfl rfl rfl rfl (by kernel_rfl) Tryd.func13 (by kernel_rfl)
    (of_decide_eq_true (by kernel_rfl)) (by unfold Func.isWrapper; first | (rw [if_pos (by decide +kernel)]; kernel_rfl) | (rw [if_neg (by decide +kernel)]; exact ⟨rfl, rfl⟩))
    (fun os started H enc _ F => by rw [OpenClaim.pre_eq_preRow]; exact lifted os started H enc F)
theorem plain (f : FuncId) (fn : Func) (hf : Tryd.pinned.checked.prog.funcNamed "talik/taliklaw06.StoreReads" = some f) (hfn : Tryd.pinned.checked.prog.funcs[f]? = some fn) :
    true = Tryd.pinned.checked.prog.looks [] ∧ ∀ (j : Nat) t, fn.params[j]? = some t → Tryd.pinned.checked.prog.wantsStandIn t = false := by
  obtain rfl : f = 13 := Option.some.inj ((show Tryd.prog.funcNamed "talik/taliklaw06.StoreReads" = some 13 by kernel_rfl).symm.trans hf) |>.symm
  obtain rfl : fn = Tryd.f13 := (Option.some.inj (Tryd.func13.symm.trans hfn)).symm
  refine ⟨by kernel_rfl, fun j t ht => ?_⟩
  have h : (Tryd.f13.params.toList.all fun t => !Tryd.prog.wantsStandIn t) = true := by kernel_rfl
  have := List.all_eq_true.1 h t (by rw [← Array.getElem?_toList] at ht; exact List.mem_of_getElem? ht)
  exact (show Tryd.prog.wantsStandIn t = false by simpa using this)
theorem card : Rows.StoreReadsCardSaid :=
  Claim7.holds_tied_plain_at .later [] _ _ _ _ said (fun _ h => by cases h) (by kernel_rfl) (fun _ h => by cases h) storeReads_row_tie rfl ⟨rfl, rfl⟩ (by kernel_rfl) rfl plain (by kernel_rfl)
end Go.Proofs.YtcijddeommognaaDoor.Abs.storeReads
namespace Go.Proofs.YtcijddeommognaaDoor
theorem storeReads_card : Rows.StoreReadsCardSaid := Abs.storeReads.card
end Go.Proofs.YtcijddeommognaaDoor
