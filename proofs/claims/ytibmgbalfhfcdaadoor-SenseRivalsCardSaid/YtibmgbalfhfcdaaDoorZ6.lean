import Derived.Test.YtibmgbalfhfcdaaDoorF3
import Derived.Test.YtibmgbalfhfcdaaDoorP2
import Derived.Test.YtibmgbalfhfcdaaDoorA3
import Derived.Test.YtibmgbalfhfcdaaDoorP1
import Derived.Test.YtibmgbalfhfcdaaDoorCards
import Derived.Test.YtibmgbalfhfcdaaDoorTie
import Derived.WalkKit
import Derived.ProofKit
import Derived.OpenShut
import Derived.Deep.DeepHandedRow
import Derived.Lib.LaidTab
import Derived.Stop.LaidErr
set_option linter.unusedVariables false
set_option maxRecDepth 100000
namespace Go.Proofs.YtibmgbalfhfcdaaDoor.Abs
open Go.Shelf Go.Sort
noncomputable def G6_C : CalT := tabC [G11_E, G15_E, G12_E, G13_E, G18_E, G23_E, g25_sense_Least_E, G16_E, G27_E, G33_E]
theorem G6_CV : CV Tryd.prog G6_C := tabC_valid (l := _) ⟨G11_valid, G15_valid, G12_valid, G13_valid, G18_valid, G23_valid, g25_sense_Least_valid, G16_valid, G27_valid, G33_valid, trivial⟩
noncomputable def G6_l0_c : Code := loopAt (bodyOf Tryd.f6) 0
noncomputable def G6_l0_S : SPat := ⟨[.any, .dat (.list T72), .any, .fix (.bptr 0 []), .any, .fix (.bptr 1 []), .dat .bool, .dat (.list T26), .any, .dat .bool, .any, .dat .bool, .dat (.int .i64), .any, .any, .any, .any, .any, .any, .any, .any, .any, .any, .any, .any, .any, .any, .any, .any, .any, .any, .any, .any, .any, .any, .any, .any, .any, .any, .any, .any, .any, .any, .any, .any, .any, .any, .any, .any, .any, .any, .any, .any, .any, .any, .any, .any, .any, .any, .any, .any, .any, .any, .any, .any, .any, .any, .any, .any, .any, .any, .any, .any, .any, .any, .any, .any, .any, .any, .any, .any, .any, .any, .any, .any, .any, .any, .any, .any, .any, .any, .any, .any, .any, .any, .any, .any, .any, .any, .any, .any, .any, .any, .any, .any, .any, .any, .any, .any, .any, .any, .any, .any, .any, .any, .any, .any, .any, .any, .any, .any, .any, .any, .any, .any, .any, .any, .any, .any, .any, .any, .any, .any, .any, .any, .any, .any, .any, .any, .any, .any, .any, .any, .any, .any, .any, .any, .any, .any, .any, .any, .any, .any, .any, .any, .any, .any, .any, .any, .any], [.dat T23, .dat T26], 0⟩
abbrev TY120 : Type := (((List E72) × (Bool × ((List E26) × (Bool × (Bool × (Int × Unit)))))) × (E23 × (E26 × Unit)))
abbrev TY121 : Type := (Nat × (((List E72) × (Bool × ((List E26) × (Bool × (Bool × (Int × Unit)))))) × (E23 × (E26 × Unit))))
noncomputable def G6_l0_step (s : TY120) : Option TY121 :=
  (bif (decide (s.1.2.2.2.2.2.1 < (List.length s.1.2.2.1 : Int))) then
  (bif (decide (0 ≤ s.1.2.2.2.2.2.1) && decide (s.1.2.2.2.2.2.1 < (List.length s.1.2.2.1 : Int))) then
    (Option.bind (G18 s.2.1 (List.getD s.1.2.2.1 (Int.toNat s.1.2.2.2.2.2.1) ([], ([], ())))) fun r14 =>
      (bif (!r14) then
        some (1, ((s.1.1, (false, (s.1.2.2.1, (s.1.2.2.2.1, (s.1.2.2.2.2.1, (s.1.2.2.2.2.2.1, ())))))), (s.2.1, (s.2.2.1, ()))))
        else
        (bif (decide (0 ≤ s.1.2.2.2.2.2.1) && decide (s.1.2.2.2.2.2.1 < (List.length s.1.2.2.1 : Int))) then
          (Option.bind (G27 (List.getD s.1.2.2.1 (Int.toNat s.1.2.2.2.2.2.1) ([], ([], ())))) fun r15 =>
            (bif (decide (0 ≤ (0 : Int)) && decide ((0 : Int) < (List.length s.1.2.2.1 : Int))) then
              (Option.bind (G27 (List.getD s.1.2.2.1 (Int.toNat 0) ([], ([], ())))) fun r16 =>
                (bif (r15 != r16) then
                  some (1, ((s.1.1, (false, (s.1.2.2.1, (s.1.2.2.2.1, (s.1.2.2.2.2.1, (s.1.2.2.2.2.2.1, ())))))), (s.2.1, (s.2.2.1, ()))))
                  else
                  (bif (decide (s.1.2.2.2.2.2.1 > 0)) then
                    (bif (decide (0 ≤ s.1.2.2.2.2.2.1) && decide (s.1.2.2.2.2.2.1 < (List.length s.1.2.2.1 : Int))) then
                      (bif (decide (0 ≤ (IntKind.wrap .i64 (s.1.2.2.2.2.2.1 - 1))) && decide ((IntKind.wrap .i64 (s.1.2.2.2.2.2.1 - 1)) < (List.length s.1.2.2.1 : Int))) then
                        (Option.bind (G33 (List.getD s.1.2.2.1 (Int.toNat s.1.2.2.2.2.2.1) ([], ([], ()))) (List.getD s.1.2.2.1 (Int.toNat (IntKind.wrap .i64 (s.1.2.2.2.2.2.1 - 1))) ([], ([], ())))) fun r17 =>
                          (bif r17 then
                            some (1, ((s.1.1, (false, (s.1.2.2.1, (s.1.2.2.2.1, (s.1.2.2.2.2.1, (s.1.2.2.2.2.2.1, ())))))), (s.2.1, (s.2.2.1, ()))))
                            else
                            (bif (decide (0 ≤ s.1.2.2.2.2.2.1) && decide (s.1.2.2.2.2.2.1 < (List.length s.1.2.2.1 : Int))) then
                              (Option.bind (G16 s.2.1 s.1.1 (List.getD s.1.2.2.1 (Int.toNat s.1.2.2.2.2.2.1) ([], ([], ())))) fun r18 =>
                                (bif (r18.2.1 != 0) then
                                  some (1, ((s.1.1, (false, (s.1.2.2.1, (s.1.2.2.2.1, (s.1.2.2.2.2.1, (s.1.2.2.2.2.2.1, ())))))), (s.2.1, (s.2.2.1, ()))))
                                  else
                                  (bif (!r18.1) then
                                    some (1, ((s.1.1, (false, (s.1.2.2.1, (s.1.2.2.2.1, (s.1.2.2.2.2.1, (s.1.2.2.2.2.2.1, ())))))), (s.2.1, (s.2.2.1, ()))))
                                    else
                                    (bif s.1.2.2.2.2.1 then
                                      some (0, ((s.1.1, (s.1.2.1, (s.1.2.2.1, (s.1.2.2.2.1, (true, ((IntKind.wrap .i64 (s.1.2.2.2.2.2.1 + 1)), ())))))), (s.2.1, (s.2.2.1, ()))))
                                      else
                                      (bif (decide (0 ≤ s.1.2.2.2.2.2.1) && decide (s.1.2.2.2.2.2.1 < (List.length s.1.2.2.1 : Int))) then
                                        (Option.bind (G33 (List.getD s.1.2.2.1 (Int.toNat s.1.2.2.2.2.2.1) ([], ([], ()))) s.2.2.1) fun r19 =>
                                          some (0, ((s.1.1, (s.1.2.1, (s.1.2.2.1, (s.1.2.2.2.1, (r19, ((IntKind.wrap .i64 (s.1.2.2.2.2.2.1 + 1)), ())))))), (s.2.1, (s.2.2.1, ())))))
                                        else
                                        none)))))
                              else
                              none)))
                        else
                        none)
                      else
                      none)
                    else
                    (bif (decide (0 ≤ s.1.2.2.2.2.2.1) && decide (s.1.2.2.2.2.2.1 < (List.length s.1.2.2.1 : Int))) then
                      (Option.bind (G16 s.2.1 s.1.1 (List.getD s.1.2.2.1 (Int.toNat s.1.2.2.2.2.2.1) ([], ([], ())))) fun r20 =>
                        (bif (r20.2.1 != 0) then
                          some (1, ((s.1.1, (false, (s.1.2.2.1, (s.1.2.2.2.1, (s.1.2.2.2.2.1, (s.1.2.2.2.2.2.1, ())))))), (s.2.1, (s.2.2.1, ()))))
                          else
                          (bif (!r20.1) then
                            some (1, ((s.1.1, (false, (s.1.2.2.1, (s.1.2.2.2.1, (s.1.2.2.2.2.1, (s.1.2.2.2.2.2.1, ())))))), (s.2.1, (s.2.2.1, ()))))
                            else
                            (bif s.1.2.2.2.2.1 then
                              some (0, ((s.1.1, (s.1.2.1, (s.1.2.2.1, (s.1.2.2.2.1, (true, ((IntKind.wrap .i64 (s.1.2.2.2.2.2.1 + 1)), ())))))), (s.2.1, (s.2.2.1, ()))))
                              else
                              (bif (decide (0 ≤ s.1.2.2.2.2.2.1) && decide (s.1.2.2.2.2.2.1 < (List.length s.1.2.2.1 : Int))) then
                                (Option.bind (G33 (List.getD s.1.2.2.1 (Int.toNat s.1.2.2.2.2.2.1) ([], ([], ()))) s.2.2.1) fun r21 =>
                                  some (0, ((s.1.1, (s.1.2.1, (s.1.2.2.1, (s.1.2.2.2.1, (r21, ((IntKind.wrap .i64 (s.1.2.2.2.2.2.1 + 1)), ())))))), (s.2.1, (s.2.2.1, ())))))
                                else
                                none)))))
                      else
                      none))))
              else
              none))
          else
          none)))
    else
    none)
  else
  some (2, ((s.1.1, (s.1.2.1, (s.1.2.2.1, (s.1.2.2.2.1, (s.1.2.2.2.2.1, (s.1.2.2.2.2.2.1, ())))))), (s.2.1, (s.2.2.1, ())))))
noncomputable def G6_l0_fuel (s : TY120) : Nat := Int.toNat ((List.length s.1.2.2.1 : Int) - s.1.2.2.2.2.2.1) + 1
noncomputable def G6_l0_run (s : TY120) : Option TY121 := iter G6_l0_step (G6_l0_fuel s) s
noncomputable def G6_l0_L : LoopT := loopT G6_l0_S [.ret, .exit 0] G6_l0_run
noncomputable def G6 (a0 : E23) (a1 : (List E72)) (a2 : E26) : Option Bool :=
  (Option.bind (G11 a0 a1) fun r1 =>
  (bif (!r1) then
    (Option.bind G15 fun r2 =>
      some r2)
    else
    (Option.bind (G12 a2 ([], ([], ([], ())))) fun r3 =>
      (bif (!r3) then
        (Option.bind G15 fun r4 =>
          some r4)
        else
        (Option.bind (G13 a0 a1) fun r5 =>
          (bif (r5 != 0) then
            (Option.bind G15 fun r6 =>
              some r6)
            else
            (Option.bind (G18 a0 a2) fun r7 =>
              (bif (!r7) then
                (Option.bind G15 fun r8 =>
                  some r8)
                else
                (Option.bind (G23 a0) fun r9 =>
                  (bif (decide (r9 > 7)) then
                    (Option.bind G15 fun r10 =>
                      some r10)
                    else
                    (Option.bind (g25_sense_Least a0 a1) fun r11 =>
                      (Option.bind (G16 a0 a1 a2) fun r12 =>
                        (bif (r12.2.1 != 0) then
                          some false
                          else
                          (bif (r11.2.1 != 0) then
                            (bif (r11.2.1 == 5) then
                              (bif (!r12.1) then
                                (Option.bind G15 fun r13 =>
                                  some r13)
                                else
                                some false)
                              else
                              some false)
                            else
                            (bif ((List.length r11.1 : Int) == 0) then
                              some false
                              else
                              (bif (decide ((List.length r11.1 : Int) > 200)) then
                                some false
                                else
                                (Option.bind (G6_l0_run ((a1, (false, (r11.1, (r12.1, (false, (0, ())))))), (a0, (a2, ())))) fun q22 =>
                                  (natK q22.1
                                    (some q22.2.1.2.1)
                                    (fun _ => (bif (!q22.2.1.2.2.2.1) then
                                      (Option.bind G15 fun r23 =>
                                        some r23)
                                      else
                                      (Option.bind (G27 q22.2.2.2.1) fun r24 =>
                                        (bif (decide (0 ≤ (0 : Int)) && decide ((0 : Int) < (List.length q22.2.1.2.2.1 : Int))) then
                                          (Option.bind (G27 (List.getD q22.2.1.2.2.1 (Int.toNat 0) ([], ([], ())))) fun r25 =>
                                            (bif (decide (r24 > r25)) then
                                              (Option.bind G15 fun r26 =>
                                                some r26)
                                              else
                                              (bif q22.2.1.2.2.2.2.1 then
                                                (Option.bind G15 fun r27 =>
                                                  some r27)
                                                else
                                                some false)))
                                          else
                                          none))))))))))))))))))))))
theorem G6_l0_V : LValid 0 Tryd.prog (.loop G6_l0_c) G6_l0_L false := by
  exact loopT_valid (fuel := G6_l0_fuel) mixed G6_CV (lvNil _) (by kernel_rfl) (by decide) rfl (by intro s; kernel_rfl) (fun s r h => h)
theorem G6_LV : LV 0 Tryd.prog false (loopsOf (bodyOf Tryd.f6)) [G6_l0_L] := by
  have hl : loopsOf (bodyOf Tryd.f6) = [.loop G6_l0_c] := by kernel_rfl
  rw [hl]; exact ⟨G6_l0_V, trivial⟩
theorem G6_ent : Ent Tryd.prog 6 := ⟨by decide, enters_of Tryd.func6 (by kernel_rfl) rfl⟩
theorem G6_hev : ∀ x, fnR Tryd.prog G6_C [G6_l0_L] Tryd.f6 (bodyOf Tryd.f6) (encs [.dat T23, .dat (.list T72), .dat T26] x) ⟨[], [], 0⟩ (frzF (.dat .bool)) = G6 x.1 x.2.1 x.2.2.1 := by
  intro x; kernel_rfl
theorem G6_lcall : ∀ x r, (fun x : Els [.dat T23, .dat (.list T72), .dat T26] => G6 x.1 x.2.1 x.2.2.1) x = some r → LCall 0 Tryd.prog 6 (encs [.dat T23, .dat (.list T72), .dat T26] x) ⟨[], [], 0⟩ (.d .bool r) ⟨[], [], 0⟩ := frz_lcall (R := .dat .bool) mixed Tryd.func6 rfl G6_ent G6_CV G6_LV (by kernel_rfl) (by kernel_rfl) G6_hev
end Go.Proofs.YtibmgbalfhfcdaaDoor.Abs
set_option linter.unusedVariables false
set_option linter.unusedSimpArgs false
set_option maxRecDepth 100000
namespace Go.Proofs.YtibmgbalfhfcdaaDoor.Abs
open Classical
attribute [local irreducible] G15 G13 G16 g25_sense_Least G18 G12 G33
def Tld (out : List E26) (o : E26) (i : Nat) : Prop := ∃ j, j < i ∧ out.getD j ([], ([], ())) = o
theorem rivals_loop {s : E23} {l : List E72} (hsl : SlOk s l) {out : List E26} {m : Nat} (ho : out = (exs s l (comb (nC s) (nC s) m 0)).map (causeOf s)) (own : Bool) (o : E26) (hl : out.length ≤ 1000) :
    ∃ t, G6_l0_run ((l, (false, (out, (own, (false, (0, ())))))), (s, (o, ()))) = some (1, ((l, (false, (out, (own, (t, ((out.length : Int), ())))))), (s, (o, ())))) ∧ (t = true ↔ ∃ j, j < out.length ∧ out.getD j ([], ([], ())) = o) := by
  have hs := hsl.2.1
  have hsl1 := hsl.1
  have hn10 := nC_le hs
  have hnd := least_nodup (l := l) hs m
  rw [← ho] at hnd
  unfold G6_l0_run
  refine ⟨decide (Tld out o out.length), ?_, decide_eq_true_iff⟩
  have many : ∀ i, i < out.length → G27 (out.getD i ([], ([], ()))) = some (m : Int) := fun i hi => by
    obtain ⟨h1, h2, h3⟩ := least_mem hs ho (getD_mem hi (d := ([], ([], ()))))
    unfold G27
    have := cause_len hs h1
    rw [wr (by omega) (by omega)]
    congr 1
    omega
  have key := iter_run (step := G6_l0_step) (n := out.length) (k := 1) (fuel := G6_l0_fuel ((l, (false, (out, (own, (false, (0, ())))))), (s, (o, ()))))
    (fun i => ((l, (false, (out, (own, (decide (Tld out o i), ((i : Int), ())))))), (s, (o, ())))) ((l, (false, (out, (own, (decide (Tld out o out.length), ((out.length : Int), ())))))), (s, (o, ()))) (fun i hi => by
      obtain ⟨h1, h2, h3⟩ := least_mem hs ho (getD_mem hi (d := ([], ([], ()))))
      have hcl := cause_len hs h1
      have ex : G16 s l (out.getD i ([], ([], ()))) = some (true, (0, ())) := by
        rcases sexplains_eq s l (out.getD i ([], ([], ()))) (by omega) (by omega) (by omega) with ⟨h, _⟩ | ⟨_, h, _⟩ | ⟨_, _, b, h, hb⟩
        · omega
        · exact absurd ⟨hsl, h1⟩ h
        · rw [h, hb.2 h3]
      have hsame := samecause_tells (out.getD i ([], ([], ()))) o (by omega) (by omega)
      have h00 : (decide (0 ≤ (0 : Int)) && decide ((0 : Int) < (out.length : Int))) = true := by rw [decide_eq_true (show (0 : Int) < (out.length : Int) by omega)]; rfl
      have g0 : List.getD out (Int.toNat 0) ([], ([], ())) = out.getD 0 ([], ([], ())) := rfl
      have mm : ((m : Int) != (m : Int)) = false := beqn_f rfl
      have n0 : ((0 : Int) != 0) = false := rfl
      have tail : ∀ t : Bool, (t = true ↔ ∃ j, j < i ∧ out.getD j ([], ([], ())) = o) → (bif t then some (0, ((l, (false, (out, (own, (true, (((i + 1 : Nat) : Int), ())))))), (s, (o, ())))) else Option.bind (G33 (out.getD i ([], ([], ()))) o) fun r19 => some (0, ((l, (false, (out, (own, (r19, (((i + 1 : Nat) : Int), ())))))), (s, (o, ()))))) = some ((0 : Nat), (((l, (false, (out, (own, (decide (Tld out o (i + 1)), (((i + 1 : Nat) : Int), ())))))), (s, (o, ()))) : TY120)) := by
        intro t ht
        cases t with
        | true =>
          obtain ⟨j, hj, e⟩ := ht.1 rfl
          have : decide (Tld out o (i + 1)) = true := decide_eq_true ⟨j, by omega, e⟩
          rw [this]; rfl
        | false =>
          have hno : ¬ ∃ j, j < i ∧ out.getD j ([], ([], ())) = o := fun h => by have := ht.2 h; cases this
          by_cases he : out.getD i ([], ([], ())) = o
          · have : decide (Tld out o (i + 1)) = true := decide_eq_true ⟨i, by omega, he⟩
            rw [this, hsame.val he]; rfl
          · have : decide (Tld out o (i + 1)) = false := decide_eq_false fun ⟨j, hj, e⟩ => by
              rcases Nat.lt_succ_iff_lt_or_eq.1 hj with h | h
              · exact hno ⟨j, h, e⟩
              · subst h; exact he e
            rw [this, hsame.nval he]; rfl
      unfold G6_l0_step
      simp only [lt_int hi, ge0, Bool.and_self, cond_true, getD_toNat, wr1 (i := i) (by omega), (rcause_tells hs _ (show (out.getD i ([], ([], ()))).1.length < 2 ^ 62 by omega) (show (out.getD i ([], ([], ()))).2.1.length < 2 ^ 62 by omega)).val h1, Option.bind_some, Bool.not_true, cond_false, many i hi, h00, g0, many 0 (by omega), mm, ex, n0]
      by_cases hi0 : 0 < i
      · have hd : decide ((i : Int) > 0) = true := decide_eq_true (by omega)
        have hns : G33 (out.getD i ([], ([], ()))) (out.getD (i - 1) ([], ([], ()))) = some false := (samecause_tells _ _ (by omega) (by omega)).nval fun e => by
          have hg : ∀ j (hj : j < out.length), out.getD j ([], ([], ())) = out[j] := fun j hj => by rw [List.getD_eq_getElem?_getD, List.getElem?_eq_getElem hj]; rfl
          rw [hg i hi, hg (i - 1) (by omega)] at e
          exact List.pairwise_iff_getElem.1 hnd (i - 1) i (by omega) hi (by omega) e.symm
        have hw : IntKind.wrap .i64 ((i : Int) - 1) = ((i - 1 : Nat) : Int) := toNat_pred hi0 (by omega)
        simp only [hd, cond_true, hw, ge0, lt_int (show i - 1 < out.length by omega), Bool.and_self, getD_toNat, hns, Option.bind_some, cond_false]
        exact tail _ decide_eq_true_iff
      · have hd : decide ((i : Int) > 0) = false := decide_eq_false (by omega)
        simp only [hd, cond_false]
        exact tail _ decide_eq_true_iff) (by
      unfold G6_l0_step
      simp only [nlt_int, cond_false]) (by unfold G6_l0_fuel; simp)
  have e0 : decide (Tld out o 0) = false := decide_eq_false fun ⟨j, hj, _⟩ => by omega
  simp only [e0] at key
  exact key
attribute [local irreducible] G6_l0_run
theorem law6 (s : E23) (l : List E72) (o : E26) : G6 s l o = some true := by
  unfold G6
  by_cases h1 : (s.2.2.2.2.1).length ≤ 12 ∧ l.length ≤ 29
  case neg =>
    rw [short_tells, decide_eq_false h1]
    simp only [Option.bind_some, Bool.not_false, cond_true, known_ok]
  simp only [short_tells, decide_eq_true h1, Option.bind_some, Bool.not_true, cond_false]
  by_cases h2 : Sized o ([], ([], ([], ())))
  case neg =>
    simp only [(sized_tells _ _).nval h2, Option.bind_some, Bool.not_false, cond_true, known_ok]
  simp only [(sized_tells _ _).val h2, Option.bind_some, Bool.not_true, cond_false]
  have t4 := h2.s
  have t5 := h2.d
  have n00 : ((0 : Int) != 0) = false := rfl
  have n20 : ((2 : Int) != 0) = true := rfl
  have n30 : ((3 : Int) != 0) = true := rfl
  have n50 : ((5 : Int) != 0) = true := rfl
  have e55 : ((5 : Int) == 5) = true := rfl
  rcases wanted_eq s l (by omega) (by omega) with ⟨hl, e⟩ | ⟨hl, hn, e⟩ | ⟨hsl, e⟩
  · simp only [e, Option.bind_some, n30, cond_true, known_ok]
  · simp only [e, Option.bind_some, n20, cond_true, known_ok]
  have hs := hsl.2.1
  have hsl1 := hsl.1
  simp only [e, Option.bind_some, n00, cond_false]
  by_cases hc : CauseOk s o
  case neg =>
    simp only [(rcause_tells hs o (by omega) (by omega)).nval hc, Option.bind_some, Bool.not_false, cond_true, known_ok]
  simp only [(rcause_tells hs o (by omega) (by omega)).val hc, Option.bind_some, Bool.not_true, cond_false]
  have hdep := hs.depths
  have hlen := hs.len
  have ec : G23 s = some ((nC s : Nat) : Int) := by
    unfold G23 nC
    rw [wr (by omega) (by omega)]
    congr 1
    omega
  simp only [ec, Option.bind_some]
  by_cases h7 : ((nC s : Nat) : Int) > 7
  · simp only [decide_eq_true h7, cond_true, known_ok, Option.bind_some]
  simp only [decide_eq_false h7, cond_false]
  have ex : ∃ b, G16 s l o = some (b, (0, ())) ∧ (b = true ↔ Ex s l (bitsOf s o)) := by
    rcases sexplains_eq s l o (by omega) (by omega) (by omega) with ⟨h, _⟩ | ⟨_, h, _⟩ | ⟨_, _, h⟩
    · omega
    · exact absurd ⟨hsl, hc⟩ h
    · exact h
  obtain ⟨xb, ex, hxb⟩ := ex
  have le : ((∀ m, m ≤ nC s → exs s l (comb (nC s) (nC s) m 0) = []) ∧ g25_sense_Least s l = some ([], (5, ()))) ∨ (∃ out, LeastOut s l out ∧ g25_sense_Least s l = some (out, (0, ()))) := by
    rcases sleast_eq s l (by omega) with ⟨h, _⟩ | ⟨_, h, _⟩ | ⟨_, h⟩
    · omega
    · exact absurd hsl h
    · exact h
  have hcl := cause_len hs hc
  rcases le with ⟨hno, el⟩ | ⟨out, ⟨m, hm, hless, hne, ho⟩, el⟩
  · have hxf : xb = false := by
      cases xb with
      | false => rfl
      | true =>
        have := least_has hs hc (hxb.1 rfl)
        rw [hno _ hcl] at this
        cases this
    subst hxf
    simp only [el, ex, Option.bind_some, n00, cond_false, n50, cond_true, e55, Bool.not_false, known_ok]
  · have hol : out.length ≤ 128 ∧ 0 < out.length := by
      rw [ho, List.length_map]
      have h1 := comb_len (nC s) (nC s) m 0
      have h2 : 2 ^ nC s ≤ 2 ^ 7 := Nat.pow_le_pow_right (by decide) (by omega)
      have h3 : (exs s l (comb (nC s) (nC s) m 0)).length ≤ (comb (nC s) (nC s) m 0).length := List.length_filter_le _ _
      have h4 := List.length_pos_iff.2 hne
      omega
    have hl0 : ((out.length : Int) == 0) = false := beq_eq_false_iff_ne.2 (by omega)
    have hl2 : decide ((out.length : Int) > 200) = false := decide_eq_false (by omega)
    obtain ⟨t, et, ht⟩ := rivals_loop hsl ho xb o (by omega)
    simp only [el, ex, Option.bind_some, n00, cond_false, hl0, hl2, et, natK]
    cases xb with
    | false => simp only [Bool.not_false, cond_true, known_ok, Option.bind_some]
    | true =>
      have hE := hxb.1 rfl
      have hmem := least_has hs hc hE
      have hge : m ≤ (o.1).length + (o.2.1).length := by
        apply Classical.byContradiction
        intro hlt
        rw [hless _ (by omega)] at hmem
        cases hmem
      obtain ⟨g1, g2, g3⟩ := least_mem hs ho (getD_mem hol.2 (d := ([], ([], ()))))
      have m1 : G27 o = some (((o.1).length + (o.2.1).length : Nat) : Int) := by
        unfold G27
        rw [wr (by omega) (by omega)]
        congr 1
      have m2 : G27 (List.getD out (Int.toNat 0) ([], ([], ()))) = some (m : Int) := by
        have := cause_len hs g1
        show G27 (out.getD 0 ([], ([], ()))) = _
        unfold G27
        rw [wr (by omega) (by omega)]
        congr 1
        omega
      have h00 : (decide (0 ≤ (0 : Int)) && decide ((0 : Int) < (out.length : Int))) = true := by rw [decide_eq_true (show (0 : Int) < (out.length : Int) by omega)]; rfl
      simp only [Bool.not_true, cond_false, m1, m2, h00, cond_true, Option.bind_some]
      by_cases hgt : (((o.1).length + (o.2.1).length : Nat) : Int) > (m : Int)
      · simp only [decide_eq_true hgt, cond_true, known_ok, Option.bind_some]
      · have hem : (o.1).length + (o.2.1).length = m := by omega
        rw [hem] at hmem
        have hin : o ∈ out := by
          rw [ho]
          exact List.mem_map.2 ⟨_, hmem, cause_bits hs hc⟩
        have htt : t = true := ht.2 (by
          obtain ⟨j, hj, e⟩ := List.mem_iff_getElem.1 hin
          exact ⟨j, hj, by rw [List.getD_eq_getElem?_getD, List.getElem?_eq_getElem hj]; exact e⟩)
        simp only [decide_eq_false hgt, cond_false, htt, cond_true, known_ok, Option.bind_some]
theorem G6_true : ∀ x : Els [.dat T23, .dat (.list T72), .dat T26], wfs [.dat T23, .dat (.list T72), .dat T26] x → G6 x.1 x.2.1 x.2.2.1 = some true := fun x _ => law6 _ _ _
end Go.Proofs.YtibmgbalfhfcdaaDoor.Abs
set_option linter.unusedVariables false
set_option maxRecDepth 100000
namespace Go.Proofs.YtibmgbalfhfcdaaDoor.Abs.senseRivals
open Go.ChangeShapes Go.WideShapes Go.RowKit
theorem own : ownKnob Tryd.prog.godebug = none := by kernel_rfl
theorem laidOut : laidOutB Tryd.prog = true := by kernel_rfl
theorem gTab : Tryd.prog.globalNamed "internal/strconv.uint64pow10" = some 0 := by kernel_rfl
theorem gTabType : (Tryd.prog.globals[0]?).map (·.type) = some 171 := by kernel_rfl
theorem cellsT : Tryd.prog.cellsOf 171 = 20 := by kernel_rfl
theorem cellsE : Tryd.prog.cellsOf 162 = 1 := by kernel_rfl
theorem undT : Tryd.prog.underlying 171 = some (.array 20 162) := by kernel_rfl
theorem undE : Tryd.prog.underlying 162 = some (.int .u64) := by kernel_rfl
theorem table {W : World} (h : laidMetH Tryd.prog Rows.senseRivalsRow.laid W) : Lib.TabIs Tryd.prog W "internal/strconv.uint64pow10" .u64 [1, 10, 100, 1000, 10000, 100000, 1000000, 10000000, 100000000, 1000000000, 10000000000, 100000000000, 1000000000000, 10000000000000, 100000000000000, 1000000000000000, 10000000000000000, 100000000000000000, 1000000000000000000, 10000000000000000000] :=
  Lib.tabIs_of_head (rest := []) gTab gTabType undT undE cellsE cellsT (laidMet.tail (laidMet.tail (h)))
theorem tabOk {W : World} (h : laidMetH Tryd.prog Rows.senseRivalsRow.laid W) : ∀ q ∈ TABS, ∃ e fr, W.heap[q.1]? = some (.cells q.2 e fr) := by
  have ht := table h
  unfold Lib.TabIs World.var? at ht
  rw [gTab] at ht
  simp only [Option.bind_some] at ht
  intro q hq
  have hq' : q = (0, _) := List.mem_singleton.1 hq
  subst hq'
  show ∃ e fr, W.heap[0]? = _
  split at ht
  · rename_i cs e fr hc
    exact ⟨e, fr, by rw [hc]; simp only [Option.some.injEq] at ht; rw [ht]; rfl⟩
  · cases ht
noncomputable def laidWorld (os : Os) : World :=
  { World.holding Tryd.prog os ⟨#[], #[], []⟩ with heap := ((((World.holding Tryd.prog os ⟨#[], #[], []⟩).heap.modify 2 fun | .cells _ t frozen => .cells #[.int .u8 0, .int .u8 1, .int .u8 28, .int .u8 2, .int .u8 29, .int .u8 14, .int .u8 24, .int .u8 3, .int .u8 30, .int .u8 22, .int .u8 20, .int .u8 15, .int .u8 25, .int .u8 17, .int .u8 4, .int .u8 8, .int .u8 31, .int .u8 27, .int .u8 13, .int .u8 23, .int .u8 21, .int .u8 19, .int .u8 16, .int .u8 7, .int .u8 26, .int .u8 12, .int .u8 18, .int .u8 6, .int .u8 11, .int .u8 5, .int .u8 10, .int .u8 9] t frozen | o => o).modify 3 fun | .cells _ t frozen => .cells #[.int .u8 0, .int .u8 1, .int .u8 56, .int .u8 2, .int .u8 57, .int .u8 49, .int .u8 28, .int .u8 3, .int .u8 61, .int .u8 58, .int .u8 42, .int .u8 50, .int .u8 38, .int .u8 29, .int .u8 17, .int .u8 4, .int .u8 62, .int .u8 47, .int .u8 59, .int .u8 36, .int .u8 45, .int .u8 43, .int .u8 51, .int .u8 22, .int .u8 53, .int .u8 39, .int .u8 33, .int .u8 30, .int .u8 24, .int .u8 18, .int .u8 12, .int .u8 5, .int .u8 63, .int .u8 55, .int .u8 48, .int .u8 27, .int .u8 60, .int .u8 41, .int .u8 37, .int .u8 16, .int .u8 46, .int .u8 35, .int .u8 44, .int .u8 21, .int .u8 52, .int .u8 32, .int .u8 23, .int .u8 11, .int .u8 54, .int .u8 26, .int .u8 40, .int .u8 15, .int .u8 34, .int .u8 20, .int .u8 31, .int .u8 10, .int .u8 25, .int .u8 14, .int .u8 19, .int .u8 9, .int .u8 13, .int .u8 8, .int .u8 7, .int .u8 6] t frozen | o => o).modify 0 fun | .cells _ t frozen => .cells #[.int .u64 1, .int .u64 10, .int .u64 100, .int .u64 1000, .int .u64 10000, .int .u64 100000, .int .u64 1000000, .int .u64 10000000, .int .u64 100000000, .int .u64 1000000000, .int .u64 10000000000, .int .u64 100000000000, .int .u64 1000000000000, .int .u64 10000000000000, .int .u64 100000000000000, .int .u64 1000000000000000, .int .u64 10000000000000000, .int .u64 100000000000000000, .int .u64 1000000000000000000, .int .u64 10000000000000000000] t frozen | o => o) }
theorem laid_met (os : Os) : laidMet Tryd.prog Rows.senseRivalsRow.laid ((laidWorld os).forCall (fun _ _ => 0) ⟨#[], #[(Value.agg #[.int .i64 0, .int .i64 0, .int .i64 0, .int .i64 0, .slice none 0 0]), (Value.slice none 0 0), (Value.agg #[.slice none 0 0, .slice none 0 0])], []⟩).memory :=
  laidMet_of_run' 8 (by kernel_rfl) (by kernel_rfl)
theorem reads (os : Os) {H : Type} (enc : TypeId × Value → H) : ∃ places, DataW.whole enc Tryd.prog ((laidWorld os).forCall (fun _ _ => 0) ⟨#[], #[(Value.agg #[.int .i64 0, .int .i64 0, .int .i64 0, .int .i64 0, .slice none 0 0]), (Value.slice none 0 0), (Value.agg #[.slice none 0 0, .slice none 0 0])], []⟩).memory Tryd.f6.params.toList Rows.senseRivalsSpec.vars false #[(Value.agg #[.int .i64 0, .int .i64 0, .int .i64 0, .int .i64 0, .slice none 0 0]), (Value.slice none 0 0), (Value.agg #[.slice none 0 0, .slice none 0 0])].toList 16 = some ([.agg [.lit (.int .i64 0), .lit (.int .i64 0), .lit (.int .i64 0), .lit (.int .i64 0), .nil], .nil, .agg [.nil, .nil]], [], places) :=
  ⟨[], by kernel_rfl⟩
theorem spec_fn (H : Type) : (ds : List (DataW H)) → ds.length = Tryd.f6.params.toList.length → (Rows.senseRivalsSpec.fn H ds).results = [.lit (.bool true)] ∧ (Rows.senseRivalsSpec.fn H ds).args = ds ∧ (Rows.senseRivalsSpec.fn H ds).vars = []
  | [], h => by rw [show Tryd.f6.params.toList.length = 3 from by kernel_rfl] at h; simp at h
  | [d0], h => by rw [show Tryd.f6.params.toList.length = 3 from by kernel_rfl] at h; simp at h
  | [d0, d1], h => by rw [show Tryd.f6.params.toList.length = 3 from by kernel_rfl] at h; simp at h
  | [d0, d1, d2], _ => ⟨rfl, rfl, rfl⟩
  | d0 :: d1 :: d2 :: _ :: _, h => by rw [show Tryd.f6.params.toList.length = 3 from by kernel_rfl] at h; simp at h
theorem contract (H : Type) (enc : TypeId × Value → H) (W : World) (base : Nat) (args : Array Value) (ds gs : List (DataW H)) (before : List MemPlace)
    (hval : ∀ (j : Nat) t v, Tryd.f6.params[j]? = some t → args[j]? = some v → Value.okWide Tryd.prog W .any base t v)
    (hW : DataW.Whole enc Tryd.prog Tryd.f6.params.toList Rows.senseRivalsSpec.vars false W args.toList ds gs before) (hL : laidMetH Tryd.prog Rows.senseRivalsRow.laid W) :
    Calls Tryd.prog 6 args W fun e W' => ∃ v, e = .returned v ∧ Rows.senseRivalsSpec.post enc Tryd.prog Tryd.f6 false true false false W args v W' :=
  law_contract (n := 20) (fun x r h => G6_lcall x r h) (fun x hx => G6_true x hx) (by decide) (show Tryd.f6.resultTypes = #[4] by kernel_rfl) (by kernel_rfl) (by kernel_rfl) laidOut (by
    intro t ht
    have : (Tryd.f6.params.toList.all fun t => Tryd.prog.readableRec t && decide (t < Tryd.prog.types.size)) = true := by kernel_rfl
    have := List.all_eq_true.1 this t ht
    simpa using this) rfl spec_fn hval hW (tabOk hL)
theorem lifted (os : Os) (started : os.Started) (H : Type) (enc : TypeId × Value → H) (F : Stop.Interp) :
    ReturnsInHanded {} Tryd.checked os 6 .any ((OpenSpec.ofChange Rows.senseRivalsSpec).preRow enc Tryd.prog Tryd.f6 Rows.senseRivalsRow.domain false Rows.senseRivalsRow.laid) (((OpenSpec.ofChange Rows.senseRivalsSpec).at F).post enc Tryd.prog Tryd.f6 false true false false) := by
  obtain ⟨places, hx⟩ := reads os enc
  refine returnsInHanded_of_row (C := Tryd.checked) (s := OpenSpec.ofChange Rows.senseRivalsSpec) own started (by kernel_rfl) Tryd.func6
    (witness_row_at (enc := enc) (C := Tryd.checked) false (laidWorld os) #[(Value.agg #[.int .i64 0, .int .i64 0, .int .i64 0, .int .i64 0, .slice none 0 0]), (Value.slice none 0 0), (Value.agg #[.slice none 0 0, .slice none 0 0])] rfl (by kernel_rfl) (by kernel_rfl) (by kernel_rfl)
      (OpenSpec.preRow_of_cond 16 hx (by kernel_rfl) (fun k hk => by cases hk) (by kernel_rfl) (laid_met os))) ?_
  intro W base args ds gs before hval hW _ _ _ hL _ _
  exact contract H enc W base args ds gs before hval hW hL
theorem said : Rows.SenseRivalsSaid :=
  OpenClaim.holds_of_cond 6 Tryd.f6 rfl rfl rfl rfl rfl rfl rfl ⟨rfl, rfl, rfl, rfl, rfl⟩ rfl rfl rfl rfl rfl (by kernel_rfl) Tryd.func6 (by kernel_rfl)
    (of_decide_eq_true (by kernel_rfl)) (by unfold Func.isWrapper; first | (rw [if_pos (by decide +kernel)]; kernel_rfl) | (rw [if_neg (by decide +kernel)]; exact ⟨rfl, rfl⟩))
    (fun os started H enc _ F => by rw [OpenClaim.pre_eq_preRow]; exact lifted os started H enc F)
theorem plain (f : FuncId) (fn : Func) (hf : Tryd.pinned.checked.prog.funcNamed "talik/taliklaw05.SenseRivals" = some f) (hfn : Tryd.pinned.checked.prog.funcs[f]? = some fn) :
    false = Tryd.pinned.checked.prog.looks [] ∧ ∀ (j : Nat) t, fn.params[j]? = some t → Tryd.pinned.checked.prog.wantsStandIn t = false := by
  obtain rfl : f = 6 := Option.some.inj ((show Tryd.prog.funcNamed "talik/taliklaw05.SenseRivals" = some 6 by kernel_rfl).symm.trans hf) |>.symm
  obtain rfl : fn = Tryd.f6 := (Option.some.inj (Tryd.func6.symm.trans hfn)).symm
  refine ⟨by kernel_rfl, fun j t ht => ?_⟩
  have h : (Tryd.f6.params.toList.all fun t => !Tryd.prog.wantsStandIn t) = true := by kernel_rfl
  have := List.all_eq_true.1 h t (by rw [← Array.getElem?_toList] at ht; exact List.mem_of_getElem? ht)
  exact (show Tryd.prog.wantsStandIn t = false by simpa using this)
theorem card : Rows.SenseRivalsCardSaid :=
  Claim7.holds_tied_plain_at .later [] _ _ _ _ said (fun _ h => by cases h) (by kernel_rfl) (fun _ h => by cases h) senseRivals_row_tie rfl ⟨rfl, rfl⟩ (by kernel_rfl) rfl plain (by kernel_rfl)
end Go.Proofs.YtibmgbalfhfcdaaDoor.Abs.senseRivals
namespace Go.Proofs.YtibmgbalfhfcdaaDoor
theorem senseRivals_card : Rows.SenseRivalsCardSaid := Abs.senseRivals.card
end Go.Proofs.YtibmgbalfhfcdaaDoor
