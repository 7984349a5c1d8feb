import Derived.Test.YtbidmbjkjpdgdaaGreatDoorF2
import Derived.Test.YtbidmbjkjpdgdaaGreatDoorP1
import Derived.Test.YtbidmbjkjpdgdaaGreatDoorA4
import Derived.Test.YtbidmbjkjpdgdaaGreatDoorCards
import Derived.Test.YtbidmbjkjpdgdaaGreatDoorTie
import Derived.WalkKit
import Derived.ProofKit
import Derived.OpenShut
import Derived.Deep.DeepHandedRow
import Derived.Lib.LaidTab
import Derived.Stop.LaidErr
set_option linter.unusedVariables false
set_option maxRecDepth 100000
namespace Go.Proofs.YtbidmbjkjpdgdaaGreatDoor.Abs
open Go.Shelf Go.Sort
noncomputable def G4_C : CalT := tabC [G6_E, G9_E, G12_E, G8_E, G11_E, G7_E]
theorem G4_CV : CV Tryz.prog G4_C := tabC_valid (l := _) ⟨G6_valid, G9_valid, G12_valid, G8_valid, G11_valid, G7_valid, trivial⟩
noncomputable def G4_k0_S0 : SPat := ⟨[.dat .str, .any, .any, .any, .any, .any, .any, .any, .any, .any, .any, .any, .any, .any, .any, .any, .any, .any, .any, .any, .any, .any, .any, .any, .any, .any, .any, .any, .any, .any, .any, .any, .any, .any, .any, .any, .any, .any, .any, .any, .any, .any, .any, .any, .any, .any, .any, .any, .any, .any, .any, .any, .any, .any, .any, .any, .any, .any, .any, .any, .any, .any, .any, .any, .any, .any, .any, .any, .any, .any, .any, .any, .any, .any, .any, .any, .any, .any, .any], [], 0⟩
noncomputable def G4_k0_S1 : SPat := ⟨[.dat .str, .any, .any, .any, .any, .any, .any, .any, .any, .any, .any, .any, .any, .any, .any, .any, .any, .any, .any, .any, .any, .any, .dat .bool, .any, .any, .any, .any, .any, .any, .any, .any, .any, .any, .any, .any, .any, .any, .any, .any, .any, .any, .any, .any, .any, .any, .any, .any, .any, .any, .any, .any, .any, .any, .any, .any, .any, .any, .any, .any, .any, .any, .any, .any, .any, .any, .any, .any, .any, .any, .any, .any, .any, .any, .any, .any, .any, .any, .any, .any], [], 0⟩
noncomputable def G4_k0_run (s : ((ByteArray × Unit) × Unit)) : Option (Nat × ((ByteArray × (Bool × Unit)) × Unit)) :=
  (bif (decide ((ByteArray.size s.1.1 : Int) > 400)) then
  (bif (decide ((ByteArray.size s.1.1 : Int) ≤ 5000)) then
    some (0, ((s.1.1, (true, ())), ()))
    else
    some (0, ((s.1.1, ((decide ((ByteArray.size s.1.1 : Int) > 5100)), ())), ())))
  else
  some (0, ((s.1.1, ((decide ((ByteArray.size s.1.1 : Int) > 5100)), ())), ())))
noncomputable def G4_k0_L : LoopT := cutT G4_k0_S0 G4_k0_S1 [.normal] G4_k0_run
noncomputable def G4_k1_S0 : SPat := ⟨[.dat .str, .any, .any, .fix (.bptr 0 []), .dat (.int .i64), .fix (.bptr 1 []), .dat .bool, .dat (.int .i64), .any, .any, .any, .any, .any, .any, .any, .any, .any, .any, .any, .any, .any, .any, .any, .any, .any, .any, .any, .any, .any, .any, .any, .any, .any, .any, .any, .any, .any, .any, .any, .any, .any, .any, .any, .any, .any, .any, .any, .any, .any, .any, .any, .any, .any, .any, .any, .any, .any, .any, .any, .any, .any, .any, .any, .any, .any, .any, .any, .any, .any, .any, .any, .any, .any, .any, .any, .any, .any, .any, .any], [.dat T25, .dat T25], 0⟩
noncomputable def G4_k1_S1 : SPat := ⟨[.dat .str, .any, .any, .fix (.bptr 0 []), .dat (.int .i64), .fix (.bptr 1 []), .any, .dat (.int .i64), .any, .any, .any, .any, .any, .any, .any, .any, .any, .any, .any, .any, .any, .any, .any, .any, .any, .any, .any, .any, .any, .any, .any, .any, .any, .any, .any, .any, .any, .any, .any, .any, .any, .any, .any, .any, .any, .any, .any, .any, .any, .any, .any, .any, .any, .any, .any, .any, .any, .any, .any, .any, .any, .any, .any, .any, .any, .any, .any, .any, .any, .any, .any, .any, .any, .any, .any, .any, .any, .any, .any], [.dat T25, .dat T25], 0⟩
noncomputable def G4_k1_run (s : ((ByteArray × (Int × (Bool × (Int × Unit)))) × (E25 × (E25 × Unit)))) : Option (Nat × ((ByteArray × (Int × (Int × Unit))) × (E25 × (E25 × Unit)))) :=
  (bif (decide ((ByteArray.size s.1.1 : Int) > 5000)) then
  some (0, ((s.1.1, (s.1.2.1, (3, ()))), (s.2.1, (s.2.2.1, ()))))
  else
  (bif (!s.1.2.2.1) then
    some (0, ((s.1.1, (s.1.2.1, (4, ()))), (s.2.1, (s.2.2.1, ()))))
    else
    (Option.bind (G8 s.2.2.1) fun r16 =>
      (bif (!r16) then
        some (0, ((s.1.1, (s.1.2.1, (2, ()))), (s.2.1, (s.2.2.1, ()))))
        else
        some (0, ((s.1.1, (s.1.2.1, (s.1.2.2.2.1, ()))), (s.2.1, (s.2.2.1, ()))))))))
noncomputable def G4_k1_L : LoopT := cutT G4_k1_S0 G4_k1_S1 [.normal] G4_k1_run
noncomputable def G4_k2_S0 : SPat := ⟨[.any, .any, .any, .fix (.bptr 0 []), .dat (.int .i64), .any, .any, .dat (.int .i64), .any, .any, .any, .any, .any, .any, .any, .any, .any, .any, .any, .any, .any, .any, .any, .any, .any, .any, .any, .any, .any, .any, .any, .any, .any, .any, .any, .any, .any, .any, .any, .any, .any, .any, .any, .any, .any, .any, .any, .any, .any, .any, .any, .any, .any, .any, .any, .any, .any, .any, .any, .any, .any, .any, .any, .any, .any, .any, .any, .any, .any, .any, .any, .any, .any, .any, .any, .any, .any, .any, .any], [.dat T25, .dat T25], 0⟩
noncomputable def G4_k2_S1 : SPat := ⟨[.any, .any, .dat .bool, .any, .any, .any, .any, .any, .any, .any, .any, .any, .any, .any, .any, .any, .any, .any, .any, .any, .any, .any, .any, .any, .any, .any, .any, .any, .any, .any, .any, .any, .any, .any, .any, .any, .any, .any, .any, .any, .any, .any, .any, .any, .any, .any, .any, .any, .any, .any, .any, .any, .any, .any, .any, .any, .any, .any, .any, .any, .any, .any, .any, .any, .any, .any, .any, .any, .any, .any, .any, .any, .any, .any, .any, .any, .any, .any, .any], [.dat T25, .dat T25], 0⟩
noncomputable def G4_k2_run (s : ((Int × (Int × Unit)) × (E25 × (E25 × Unit)))) : Option (Nat × ((Bool × Unit) × (E25 × (E25 × Unit)))) :=
  (bif (s.1.1 == s.1.2.1) then
  (Option.bind (G11 s.2.1 ([], ((0, (0, ())), ()))) fun r24 =>
    (bif r24 then
      (Option.bind G6 fun r25 =>
        some (0, ((r25, ()), (s.2.1, (s.2.2.1, ())))))
      else
      some (0, ((false, ()), (s.2.1, (s.2.2.1, ()))))))
  else
  some (0, ((false, ()), (s.2.1, (s.2.2.1, ())))))
noncomputable def G4_k2_L : LoopT := cutT G4_k2_S0 G4_k2_S1 [.normal] G4_k2_run
noncomputable def G4_k3_S0 : SPat := ⟨[.dat .str, .any, .any, .fix (.bptr 0 []), .dat (.int .i64), .fix (.bptr 1 []), .any, .any, .dat .str, .dat (.int .i64), .any, .any, .any, .any, .any, .any, .any, .any, .any, .any, .any, .any, .any, .any, .any, .any, .any, .any, .any, .any, .any, .any, .any, .any, .any, .any, .any, .any, .any, .any, .any, .any, .any, .any, .any, .any, .any, .any, .any, .any, .any, .any, .any, .any, .any, .any, .any, .any, .any, .any, .any, .any, .any, .any, .any, .any, .any, .any, .any, .any, .any, .any, .any, .any, .any, .any, .any, .any, .any], [.dat T25, .dat T25], 0⟩
noncomputable def G4_k3_S1 : SPat := ⟨[.any, .any, .dat .bool, .any, .any, .any, .any, .any, .any, .any, .any, .any, .any, .any, .any, .any, .any, .any, .any, .any, .any, .any, .any, .any, .any, .any, .any, .any, .any, .any, .any, .any, .any, .any, .any, .any, .any, .any, .any, .any, .any, .any, .any, .any, .any, .any, .any, .any, .any, .any, .any, .any, .any, .any, .any, .any, .any, .any, .any, .any, .any, .any, .any, .any, .any, .any, .any, .any, .any, .any, .any, .any, .any, .any, .any, .any, .any, .any, .any], [.dat T25, .dat T25], 0⟩
noncomputable def G4_k3_run (s : ((ByteArray × (Int × (ByteArray × (Int × Unit)))) × (E25 × (E25 × Unit)))) : Option (Nat × ((Bool × Unit) × (E25 × (E25 × Unit)))) :=
  (bif (s.1.2.1 == 0) then
  (Option.bind (G11 s.2.1 s.2.2.1) fun r33 =>
    (bif r33 then
      (bif (s.1.2.2.2.1 == 0) then
        (bif (ByteArray.toList s.1.2.2.1 == ByteArray.toList s.1.1) then
          (Option.bind G6 fun r34 =>
            some (0, ((r34, ()), (s.2.1, (s.2.2.1, ())))))
          else
          some (0, ((false, ()), (s.2.1, (s.2.2.1, ())))))
        else
        some (0, ((false, ()), (s.2.1, (s.2.2.1, ())))))
      else
      some (0, ((false, ()), (s.2.1, (s.2.2.1, ()))))))
  else
  some (0, ((false, ()), (s.2.1, (s.2.2.1, ())))))
noncomputable def G4_k3_L : LoopT := cutT G4_k3_S0 G4_k3_S1 [.normal] G4_k3_run
noncomputable def G4 (a0 : ByteArray) : Option Bool :=
  (Option.bind (G4_k0_run ((a0, ()), ())) fun q7 =>
  (bif q7.2.1.2.1 then
    (Option.bind G6 fun r8 =>
      some r8)
    else
    (Option.bind (G9 q7.2.1.1) fun r10 =>
      (Option.bind (G12 q7.2.1.1) fun r12 =>
        (Option.bind (G4_k1_run ((q7.2.1.1, (r10.2.1, (r12.2.1, (0, ())))), (r10.1, (r12.1, ())))) fun q17 =>
          (bif (q17.2.1.2.2.1 != 0) then
            (Option.bind (G4_k2_run ((q17.2.1.2.1, (q17.2.1.2.2.1, ())), (q17.2.2.1, (q17.2.2.2.1, ())))) fun q26 =>
              some q26.2.1.1)
            else
            (Option.bind (G7 q17.2.2.1) fun r28 =>
              (Option.bind (G4_k3_run ((q17.2.1.1, (q17.2.1.2.1, (r28.1, (r28.2.1, ())))), (q17.2.2.1, (q17.2.2.2.1, ())))) fun q35 =>
                some q35.2.1.1))))))))
noncomputable def G4_k0_J : Jn := (.whole [])
theorem G4_k0_JV : JV 0 Tryz.prog false (G4_k0_J) (seqL (seqL (seqR (bodyOf Tryz.f4)))) := jv_nil
theorem G4_k0_V : LValid 0 Tryz.prog (seqL (seqL (seqR (bodyOf Tryz.f4)))) (G4_k0_L) false :=
  cutT_valid (ev := jnT Tryz.prog G4_C (G4_k0_J) (seqL (seqL (seqR (bodyOf Tryz.f4))))) (jnT_valid mixed G4_CV (G4_k0_JV)) (by kernel_rfl) (by kernel_rfl) (by decide) (by decide) (by intro s; kernel_rfl)
noncomputable def G4_k1_J : Jn := (.whole [])
theorem G4_k1_JV : JV 0 Tryz.prog false (G4_k1_J) (seqL (seqR (seqR (seqR (seqR (seqR (bodyOf Tryz.f4))))))) := jv_nil
theorem G4_k1_V : LValid 0 Tryz.prog (seqL (seqR (seqR (seqR (seqR (seqR (bodyOf Tryz.f4))))))) (G4_k1_L) false :=
  cutT_valid (ev := jnT Tryz.prog G4_C (G4_k1_J) (seqL (seqR (seqR (seqR (seqR (seqR (bodyOf Tryz.f4)))))))) (jnT_valid mixed G4_CV (G4_k1_JV)) (by kernel_rfl) (by kernel_rfl) (by decide) (by decide) (by intro s; kernel_rfl)
noncomputable def G4_k2_J : Jn := (.whole [])
theorem G4_k2_JV : JV 0 Tryz.prog false (G4_k2_J) (seqL (conL (seqR (seqL (seqR (seqR (seqR (seqR (seqR (seqR (bodyOf Tryz.f4))))))))))) := jv_nil
theorem G4_k2_V : LValid 0 Tryz.prog (seqL (conL (seqR (seqL (seqR (seqR (seqR (seqR (seqR (seqR (bodyOf Tryz.f4))))))))))) (G4_k2_L) false :=
  cutT_valid (ev := jnT Tryz.prog G4_C (G4_k2_J) (seqL (conL (seqR (seqL (seqR (seqR (seqR (seqR (seqR (seqR (bodyOf Tryz.f4)))))))))))) (jnT_valid mixed G4_CV (G4_k2_JV)) (by kernel_rfl) (by kernel_rfl) (by decide) (by decide) (by intro s; kernel_rfl)
noncomputable def G4_k3_J : Jn := (.whole [])
theorem G4_k3_JV : JV 0 Tryz.prog false (G4_k3_J) (seqL (seqR (seqR (seqR (seqR (seqR (seqR (seqR (seqR (bodyOf Tryz.f4)))))))))) := jv_nil
theorem G4_k3_V : LValid 0 Tryz.prog (seqL (seqR (seqR (seqR (seqR (seqR (seqR (seqR (seqR (bodyOf Tryz.f4)))))))))) (G4_k3_L) false :=
  cutT_valid (ev := jnT Tryz.prog G4_C (G4_k3_J) (seqL (seqR (seqR (seqR (seqR (seqR (seqR (seqR (seqR (bodyOf Tryz.f4))))))))))) (jnT_valid mixed G4_CV (G4_k3_JV)) (by kernel_rfl) (by kernel_rfl) (by decide) (by decide) (by intro s; kernel_rfl)
noncomputable def G4_J : Jn := (.seq (.whole []) (.seq (.seq (.cut G4_k0_L) (.whole [])) (.seq (.whole []) (.seq (.whole []) (.seq (.whole []) (.seq (.cut G4_k1_L) (.seq (.seq (.whole []) (.cond (.seq (.cut G4_k2_L) (.whole [])) (.whole []))) (.seq (.whole []) (.seq (.cut G4_k3_L) (.whole []))))))))))
theorem G4_JV : JV 0 Tryz.prog false (G4_J) (bodyOf Tryz.f4) := (jv_seq (by kernel_rfl) jv_nil (jv_seq (by kernel_rfl) (jv_seq (by kernel_rfl) (jv_cut G4_k0_V) jv_nil) (jv_seq (by kernel_rfl) jv_nil (jv_seq (by kernel_rfl) jv_nil (jv_seq (by kernel_rfl) jv_nil (jv_seq (by kernel_rfl) (jv_cut G4_k1_V) (jv_seq (by kernel_rfl) (jv_seq (by kernel_rfl) jv_nil (jv_con (by kernel_rfl) (jv_seq (by kernel_rfl) (jv_cut G4_k2_V) jv_nil) jv_nil)) (jv_seq (by kernel_rfl) jv_nil (jv_seq (by kernel_rfl) (jv_cut G4_k3_V) jv_nil)))))))))
theorem G4_ent : Ent Tryz.prog 4 := ⟨by decide, enters_of Tryz.func4 (by kernel_rfl) rfl⟩
theorem G4_hev : ∀ x, fnE (jnT Tryz.prog G4_C (G4_J) (bodyOf Tryz.f4)) Tryz.prog Tryz.f4 (encs [.dat .str] x) ⟨[], [], 0⟩ (frzF (.dat .bool)) = G4 x.1 := by
  intro x; kernel_rfl
theorem G4_lcall : ∀ x r, (fun x : Els [.dat .str] => G4 x.1) x = some r → LCall 0 Tryz.prog 4 (encs [.dat .str] x) ⟨[], [], 0⟩ (.d .bool r) ⟨[], [], 0⟩ := frz_lcallE (ev := (jnT Tryz.prog G4_C (G4_J) (bodyOf Tryz.f4))) (R := .dat .bool) Tryz.func4 rfl G4_ent (jnT_valid mixed G4_CV (G4_JV)) (by kernel_rfl) (by kernel_rfl) G4_hev
end Go.Proofs.YtbidmbjkjpdgdaaGreatDoor.Abs
set_option linter.unusedVariables false
set_option linter.unusedSimpArgs false
set_option maxRecDepth 100000
namespace Go.Proofs.YtbidmbjkjpdgdaaGreatDoor.Abs
open Classical
attribute [local irreducible] G6 G9 G7 G12 G8 G11
theorem law4 (t : ByteArray) : G4 t = some true := by
  unfold G4
  have hk0 : G4_k0_run ((t, ()), ()) = some (0, ((t, (decide (400 < t.size ∧ t.size ≤ 5000 ∨ 5100 < t.size), ())), ())) := by
    unfold G4_k0_run
    simp only
    by_cases h1 : 400 < t.size
    · rw [decide_eq_true (p := (t.size : Int) > 400) (by omega)]
      by_cases h2 : t.size ≤ 5000
      · rw [decide_eq_true (p := (t.size : Int) ≤ 5000) (by omega), decide_eq_true (p := 400 < t.size ∧ t.size ≤ 5000 ∨ 5100 < t.size) (.inl ⟨h1, h2⟩)]; rfl
      · rw [decide_eq_false (p := (t.size : Int) ≤ 5000) (by omega)]
        simp only [cond_true, cond_false]
        congr 5
        rw [decide_eq_decide]; omega
    · rw [decide_eq_false (p := (t.size : Int) > 400) (by omega)]
      simp only [cond_false]
      congr 5
      rw [decide_eq_decide]; omega
  rw [hk0]
  simp only [Option.bind_some]
  by_cases hbig : 400 < t.size ∧ t.size ≤ 5000 ∨ 5100 < t.size
  · rw [decide_eq_true hbig]
    simp only [cond_true, known_ok, Option.bind_some]
  rw [decide_eq_false hbig]
  simp only [cond_false]
  have hsz := bl_len t
  rw [← mk_bl t]
  generalize hT : bl t = T at hsz
  have hms : ByteArray.size (mkB T) = T.length := mkB_size T
  have bad : ∀ (e : Int) (z : E25), G4_k2_run ((e, (e, ())), (zP, (z, ()))) = some (0, ((true, ()), (zP, (z, ())))) := fun e z => by
    unfold G4_k2_run
    simp only [beq_self_eq_true, cond_true, same_z, Option.bind_some, known_ok]
  by_cases h5 : 5000 < T.length
  · have hr : G9 (mkB T) = some (zP, (3, ())) := by
      unfold G9
      rw [decide_eq_true (p := (ByteArray.size (mkB T) : Int) > 5000) (by rw [hms]; omega)]
      rfl
    obtain ⟨z, b, hq⟩ : ∃ z b, G12 (mkB T) = some (z, (b, ())) := by
      rcases rread_eq (t := T) (by omega) with ⟨f, _, _, h⟩ | ⟨_, z, h⟩
      · exact ⟨_, _, h⟩
      · exact ⟨_, _, h⟩
    have hk1 : G4_k1_run ((mkB T, (3, (b, (0, ())))), (zP, (z, ()))) = some (0, ((mkB T, (3, (3, ()))), (zP, (z, ())))) := by
      unfold G4_k1_run
      simp only
      rw [decide_eq_true (p := (ByteArray.size (mkB T) : Int) > 5000) (by rw [hms]; omega)]
      rfl
    simp only [hr, hq, Option.bind_some]
    rw [hk1]
    simp only [Option.bind_some, show ((3 : Int) != 0) = true from rfl, cond_true]
    rw [bad 3 z]
    rfl
  have hT5 : T.length ≤ 5000 := by omega
  rcases rread_eq (t := T) (by omega) with ⟨f, hf, e1, hq⟩ | ⟨h1, z, hq⟩
  · have hr : G9 (mkB T) = some (if okPl (encP f) = true then (encP f, (0, ())) else (zP, (2, ()))) := by
      rcases read_eq hT5 with ⟨g, hg, e, h⟩ | ⟨h, _⟩
      · rw [h, log_inj (e1.symm.trans e)]
      · exact absurd e1 (h f hf)
    have hls : f.ys.length ≤ 1000 := by
      have c1 : ∀ xs : List (Nat × Nat × Nat), xs.length ≤ (cat (layL xs)).length := by
        intro xs
        induction xs with
        | nil => simp
        | cons x xs ih =>
          have := lay_cons x xs []
          rw [List.append_nil, List.append_nil] at this
          rw [this]; simp; omega
      have h1 := c1 f.ys
      have h3 : T.length ≤ 400 := by omega
      rw [e1, log_eq] at h3
      simp only [List.length_append, List.length_cons] at h3
      omega
    have hlp : (encP f).1.length = f.ys.length := by simp [encP]
    by_cases hok : okPl (encP f) = true
    · rw [if_pos hok] at hr
      have hk1 : G4_k1_run ((mkB T, (0, (true, (0, ())))), (encP f, (encP f, ()))) = some (0, ((mkB T, (0, (0, ()))), (encP f, (encP f, ())))) := by
        unfold G4_k1_run
        simp only
        rw [decide_eq_false (p := (ByteArray.size (mkB T) : Int) > 5000) (by rw [hms]; omega), tg38 (encP f) (by omega), hok]
        rfl
      have hk3 : G4_k3_run ((mkB T, (0, (mkB T, (0, ())))), (encP f, (encP f, ()))) = some (0, ((true, ()), (encP f, (encP f, ())))) := by
        unfold G4_k3_run
        simp only [beq_self_eq_true, cond_true, same_self (encP f) (by omega), Option.bind_some, known_ok]
      have hp := print_ok hf hls hok
      rw [← e1] at hp
      simp only [hr, hq, Option.bind_some]
      rw [hk1]
      simp only [Option.bind_some, show ((0 : Int) != 0) = false from rfl, cond_false, hp]
      rw [hk3]
      rfl
    · rw [if_neg hok] at hr
      have hok' : okPl (encP f) = false := by cases h : okPl (encP f) <;> simp_all
      have hk1 : G4_k1_run ((mkB T, (2, (true, (0, ())))), (zP, (encP f, ()))) = some (0, ((mkB T, (2, (2, ()))), (zP, (encP f, ())))) := by
        unfold G4_k1_run
        simp only
        rw [decide_eq_false (p := (ByteArray.size (mkB T) : Int) > 5000) (by rw [hms]; omega), tg38 (encP f) (by omega), hok']
        rfl
      simp only [hr, hq, Option.bind_some]
      rw [hk1]
      simp only [Option.bind_some, show ((2 : Int) != 0) = true from rfl, cond_true]
      rw [bad 2 (encP f)]
      rfl
  · have hr : G9 (mkB T) = some (zP, (4, ())) := by
      rcases read_eq hT5 with ⟨g, hg, e, h⟩ | ⟨_, h⟩
      · exact absurd e (h1 g hg)
      · exact h
    have hk1 : G4_k1_run ((mkB T, (4, (false, (0, ())))), (zP, (z, ()))) = some (0, ((mkB T, (4, (4, ()))), (zP, (z, ())))) := by
      unfold G4_k1_run
      simp only
      rw [decide_eq_false (p := (ByteArray.size (mkB T) : Int) > 5000) (by rw [hms]; omega)]
      rfl
    simp only [hr, hq, Option.bind_some]
    rw [hk1]
    simp only [Option.bind_some, show ((4 : Int) != 0) = true from rfl, cond_true]
    rw [bad 4 z]
    rfl
theorem G4_true : ∀ x : Els [.dat .str], wfs [.dat .str] x → G4 x.1 = some true := fun x _ => law4 _
end Go.Proofs.YtbidmbjkjpdgdaaGreatDoor.Abs
set_option linter.unusedVariables false
set_option maxRecDepth 100000
namespace Go.Proofs.YtbidmbjkjpdgdaaGreatDoor.Abs.groundReads
open Go.ChangeShapes Go.WideShapes Go.RowKit
theorem own : ownKnob Tryz.prog.godebug = none := by kernel_rfl
theorem laidOut : laidOutB Tryz.prog = true := by kernel_rfl
theorem gTab : Tryz.prog.globalNamed "internal/strconv.uint64pow10" = some 0 := by kernel_rfl
theorem gTabType : (Tryz.prog.globals[0]?).map (·.type) = some 140 := by kernel_rfl
theorem cellsT : Tryz.prog.cellsOf 140 = 20 := by kernel_rfl
theorem cellsE : Tryz.prog.cellsOf 131 = 1 := by kernel_rfl
theorem undT : Tryz.prog.underlying 140 = some (.array 20 131) := by kernel_rfl
theorem undE : Tryz.prog.underlying 131 = some (.int .u64) := by kernel_rfl
theorem table {W : World} (h : laidMetH Tryz.prog Rows.groundReadsRow.laid W) : Lib.TabIs Tryz.prog W "internal/strconv.uint64pow10" .u64 [1, 10, 100, 1000, 10000, 100000, 1000000, 10000000, 100000000, 1000000000, 10000000000, 100000000000, 1000000000000, 10000000000000, 100000000000000, 1000000000000000, 10000000000000000, 100000000000000000, 1000000000000000000, 10000000000000000000] :=
  Lib.tabIs_of_head (rest := [("unicode/utf8.acceptRanges", Rows.laid_unicode_utf8_acceptRanges), ("unicode/utf8.first", Rows.laid_unicode_utf8_first)]) gTab gTabType undT undE cellsE cellsT (laidMet.tail (laidMet.tail (h)))
theorem tabOk {W : World} (h : laidMetH Tryz.prog Rows.groundReadsRow.laid W) : ∀ q ∈ TABS, ∃ e fr, W.heap[q.1]? = some (.cells q.2 e fr) := by
  have ht := table h
  unfold Lib.TabIs World.var? at ht
  rw [gTab] at ht
  simp only [Option.bind_some] at ht
  intro q hq
  have hq' : q = (0, _) := List.mem_singleton.1 hq
  subst hq'
  show ∃ e fr, W.heap[0]? = _
  split at ht
  · rename_i cs e fr hc
    exact ⟨e, fr, by rw [hc]; simp only [Option.some.injEq] at ht; rw [ht]; rfl⟩
  · cases ht
noncomputable def laidWorld (os : Os) : World :=
  { World.holding Tryz.prog os ⟨#[], #[], []⟩ with heap := ((((((World.holding Tryz.prog os ⟨#[], #[], []⟩).heap.modify 2 fun | .cells _ t frozen => .cells #[.int .u8 0, .int .u8 1, .int .u8 28, .int .u8 2, .int .u8 29, .int .u8 14, .int .u8 24, .int .u8 3, .int .u8 30, .int .u8 22, .int .u8 20, .int .u8 15, .int .u8 25, .int .u8 17, .int .u8 4, .int .u8 8, .int .u8 31, .int .u8 27, .int .u8 13, .int .u8 23, .int .u8 21, .int .u8 19, .int .u8 16, .int .u8 7, .int .u8 26, .int .u8 12, .int .u8 18, .int .u8 6, .int .u8 11, .int .u8 5, .int .u8 10, .int .u8 9] t frozen | o => o).modify 3 fun | .cells _ t frozen => .cells #[.int .u8 0, .int .u8 1, .int .u8 56, .int .u8 2, .int .u8 57, .int .u8 49, .int .u8 28, .int .u8 3, .int .u8 61, .int .u8 58, .int .u8 42, .int .u8 50, .int .u8 38, .int .u8 29, .int .u8 17, .int .u8 4, .int .u8 62, .int .u8 47, .int .u8 59, .int .u8 36, .int .u8 45, .int .u8 43, .int .u8 51, .int .u8 22, .int .u8 53, .int .u8 39, .int .u8 33, .int .u8 30, .int .u8 24, .int .u8 18, .int .u8 12, .int .u8 5, .int .u8 63, .int .u8 55, .int .u8 48, .int .u8 27, .int .u8 60, .int .u8 41, .int .u8 37, .int .u8 16, .int .u8 46, .int .u8 35, .int .u8 44, .int .u8 21, .int .u8 52, .int .u8 32, .int .u8 23, .int .u8 11, .int .u8 54, .int .u8 26, .int .u8 40, .int .u8 15, .int .u8 34, .int .u8 20, .int .u8 31, .int .u8 10, .int .u8 25, .int .u8 14, .int .u8 19, .int .u8 9, .int .u8 13, .int .u8 8, .int .u8 7, .int .u8 6] t frozen | o => o).modify 0 fun | .cells _ t frozen => .cells #[.int .u64 1, .int .u64 10, .int .u64 100, .int .u64 1000, .int .u64 10000, .int .u64 100000, .int .u64 1000000, .int .u64 10000000, .int .u64 100000000, .int .u64 1000000000, .int .u64 10000000000, .int .u64 100000000000, .int .u64 1000000000000, .int .u64 10000000000000, .int .u64 100000000000000, .int .u64 1000000000000000, .int .u64 10000000000000000, .int .u64 100000000000000000, .int .u64 1000000000000000000, .int .u64 10000000000000000000] t frozen | o => o).modify 5 fun | .cells _ t frozen => .cells #[.int .u8 128, .int .u8 191, .int .u8 160, .int .u8 191, .int .u8 128, .int .u8 159, .int .u8 144, .int .u8 191, .int .u8 128, .int .u8 143, .int .u8 0, .int .u8 0, .int .u8 0, .int .u8 0, .int .u8 0, .int .u8 0, .int .u8 0, .int .u8 0, .int .u8 0, .int .u8 0, .int .u8 0, .int .u8 0, .int .u8 0, .int .u8 0, .int .u8 0, .int .u8 0, .int .u8 0, .int .u8 0, .int .u8 0, .int .u8 0, .int .u8 0, .int .u8 0] t frozen | o => o).modify 4 fun | .cells _ t frozen => .cells (Go.Pinned.utf8FirstZ.map fun n : Nat => Value.int .u8 (n : Int)).toArray t frozen | o => o) }
theorem laid_met (os : Os) : laidMet Tryz.prog Rows.groundReadsRow.laid ((laidWorld os).forCall (fun _ _ => 0) ⟨#[], #[(Value.string ⟨#[]⟩)], []⟩).memory :=
  laidMet_of_run' 8 (by kernel_rfl) (by kernel_rfl)
theorem reads (os : Os) {H : Type} (enc : TypeId × Value → H) : ∃ places, DataW.whole enc Tryz.prog ((laidWorld os).forCall (fun _ _ => 0) ⟨#[], #[(Value.string ⟨#[]⟩)], []⟩).memory Tryz.f4.params.toList Rows.groundReadsSpec.vars false #[(Value.string ⟨#[]⟩)].toList 16 = some ([.lit (.string [])], [], places) :=
  ⟨[], by kernel_rfl⟩
theorem spec_fn (H : Type) : (ds : List (DataW H)) → ds.length = Tryz.f4.params.toList.length → (Rows.groundReadsSpec.fn H ds).results = [.lit (.bool true)] ∧ (Rows.groundReadsSpec.fn H ds).args = ds ∧ (Rows.groundReadsSpec.fn H ds).vars = []
  | [], h => by rw [show Tryz.f4.params.toList.length = 1 from by kernel_rfl] at h; simp at h
  | [d0], _ => ⟨rfl, rfl, rfl⟩
  | d0 :: _ :: _, h => by rw [show Tryz.f4.params.toList.length = 1 from by kernel_rfl] at h; simp at h
theorem contract (H : Type) (enc : TypeId × Value → H) (W : World) (base : Nat) (args : Array Value) (ds gs : List (DataW H)) (before : List MemPlace)
    (hval : ∀ (j : Nat) t v, Tryz.f4.params[j]? = some t → args[j]? = some v → Value.okWide Tryz.prog W .any base t v)
    (hW : DataW.Whole enc Tryz.prog Tryz.f4.params.toList Rows.groundReadsSpec.vars false W args.toList ds gs before) (hL : laidMetH Tryz.prog Rows.groundReadsRow.laid W) :
    Calls Tryz.prog 4 args W fun e W' => ∃ v, e = .returned v ∧ Rows.groundReadsSpec.post enc Tryz.prog Tryz.f4 false true false false W args v W' :=
  law_contract (n := 20) (fun x r h => G4_lcall x r h) (fun x hx => G4_true x hx) (by decide) (show Tryz.f4.resultTypes = #[4] by kernel_rfl) (by kernel_rfl) (by kernel_rfl) laidOut (by
    intro t ht
    have : (Tryz.f4.params.toList.all fun t => Tryz.prog.readableRec t && decide (t < Tryz.prog.types.size)) = true := by kernel_rfl
    have := List.all_eq_true.1 this t ht
    simpa using this) rfl spec_fn hval hW (tabOk hL)
theorem lifted (os : Os) (started : os.Started) (H : Type) (enc : TypeId × Value → H) (F : Stop.Interp) :
    ReturnsInHanded {} Tryz.checked os 4 .any ((OpenSpec.ofChange Rows.groundReadsSpec).preRow enc Tryz.prog Tryz.f4 Rows.groundReadsRow.domain false Rows.groundReadsRow.laid) (((OpenSpec.ofChange Rows.groundReadsSpec).at F).post enc Tryz.prog Tryz.f4 false true false false) := by
  obtain ⟨places, hx⟩ := reads os enc
  refine returnsInHanded_of_row (C := Tryz.checked) (s := OpenSpec.ofChange Rows.groundReadsSpec) own started (by kernel_rfl) Tryz.func4
    (witness_row_at (enc := enc) (C := Tryz.checked) false (laidWorld os) #[(Value.string ⟨#[]⟩)] rfl (by kernel_rfl) (by kernel_rfl) (by kernel_rfl)
      (OpenSpec.preRow_of_cond 16 hx (by kernel_rfl) (fun k hk => by cases hk) (by kernel_rfl) (laid_met os))) ?_
  intro W base args ds gs before hval hW _ _ _ hL _ _
  exact contract H enc W base args ds gs before hval hW hL
theorem said : Rows.GroundReadsSaid :=
  OpenClaim.holds_of_cond 4 Tryz.f4 rfl rfl rfl rfl rfl rfl rfl ⟨rfl, rfl, rfl, rfl, rfl⟩ rfl rfl rfl rfl rfl (by kernel_rfl) Tryz.func4 (by kernel_rfl)
    (of_decide_eq_true (by kernel_rfl)) (by unfold Func.isWrapper; first | (rw [if_pos (by decide +kernel)]; kernel_rfl) | (rw [if_neg (by decide +kernel)]; exact ⟨rfl, rfl⟩))
    (fun os started H enc _ F => by rw [OpenClaim.pre_eq_preRow]; exact lifted os started H enc F)
theorem plain (f : FuncId) (fn : Func) (hf : Tryz.pinned.checked.prog.funcNamed "talik/taliklaw01.GroundReads" = some f) (hfn : Tryz.pinned.checked.prog.funcs[f]? = some fn) :
    true = Tryz.pinned.checked.prog.looks [] ∧ ∀ (j : Nat) t, fn.params[j]? = some t → Tryz.pinned.checked.prog.wantsStandIn t = false := by
  obtain rfl : f = 4 := Option.some.inj ((show Tryz.prog.funcNamed "talik/taliklaw01.GroundReads" = some 4 by kernel_rfl).symm.trans hf) |>.symm
  obtain rfl : fn = Tryz.f4 := (Option.some.inj (Tryz.func4.symm.trans hfn)).symm
  refine ⟨by kernel_rfl, fun j t ht => ?_⟩
  have h : (Tryz.f4.params.toList.all fun t => !Tryz.prog.wantsStandIn t) = true := by kernel_rfl
  have := List.all_eq_true.1 h t (by rw [← Array.getElem?_toList] at ht; exact List.mem_of_getElem? ht)
  exact (show Tryz.prog.wantsStandIn t = false by simpa using this)
theorem card : Rows.GroundReadsCardSaid :=
  Claim7.holds_tied_plain_at .later [] _ _ _ _ said (fun _ h => by cases h) (by kernel_rfl) (fun _ h => by cases h) groundReads_row_tie rfl ⟨rfl, rfl⟩ (by kernel_rfl) rfl plain (by kernel_rfl)
end Go.Proofs.YtbidmbjkjpdgdaaGreatDoor.Abs.groundReads
namespace Go.Proofs.YtbidmbjkjpdgdaaGreatDoor
theorem groundReads_card : Rows.GroundReadsCardSaid := Abs.groundReads.card
end Go.Proofs.YtbidmbjkjpdgdaaGreatDoor
