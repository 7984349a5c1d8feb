import Derived.Test.YtibmgbalfhfcdaaDoorF3
import Derived.Test.YtibmgbalfhfcdaaDoorP1
import Derived.Test.YtibmgbalfhfcdaaDoorA3
import Derived.Test.YtibmgbalfhfcdaaDoorCards
import Derived.Test.YtibmgbalfhfcdaaDoorTie
import Derived.WalkKit
import Derived.ProofKit
import Derived.OpenShut
import Derived.Deep.DeepHandedRow
import Derived.Lib.LaidTab
import Derived.Stop.LaidErr
set_option linter.unusedVariables false
set_option maxRecDepth 100000
namespace Go.Proofs.YtibmgbalfhfcdaaDoor.Abs
open Go.Shelf Go.Sort
noncomputable def G9_C : CalT := tabC [G11_E, G15_E, G12_E, G13_E, G18_E, G21_E, G17_E, G16_E, G38_E, G22_E, G39_E, G40_E]
theorem G9_CV : CV Tryd.prog G9_C := tabC_valid (l := _) ⟨G11_valid, G15_valid, G12_valid, G13_valid, G18_valid, G21_valid, G17_valid, G16_valid, G38_valid, G22_valid, G39_valid, G40_valid, trivial⟩
noncomputable def G9_l0_c : Code := loopAt (bodyOf Tryd.f9) 0
noncomputable def G9_l0_S : SPat := ⟨[.any, .any, .any, .any, .any, .any, .any, .any, .dat .bool, .any, .any, .any, .any, .dat .bool, .any, .any, .dat (.list (.int .i64)), .dat (.list (.int .i64)), .dat (.int .i64), .any, .any, .any, .any, .any, .any, .any, .any, .any, .any, .any, .any, .any, .any, .any, .any, .any, .any, .any, .any, .any, .any, .any, .any, .any, .any, .any, .any, .any, .any, .any, .any, .any, .any, .any, .any, .any, .any, .any, .any, .any, .any, .any, .any, .any, .any, .any, .any, .any, .any, .any, .any, .any, .any, .any, .any, .any, .any, .any, .any, .any, .any, .any, .any, .any, .any, .any, .any, .any, .any, .any, .any, .any, .any, .any, .any, .any, .any, .any, .any, .any, .any, .any, .any, .any, .any, .any, .any, .any, .any, .any, .any, .any, .any, .any, .any, .any, .any, .any, .any, .any, .any, .any, .any, .any, .any, .any, .any, .any, .any, .any, .any, .any, .any, .any, .any, .any, .any, .any, .any, .any, .any, .any, .any, .any, .any, .any, .any, .any, .any, .any, .any], [.dat T23, .dat T26, .dat T30, .dat T30], 0⟩
abbrev TY154 : Type := (Nat × ((Bool × (Bool × ((List Int) × ((List Int) × (Int × Unit))))) × (E23 × (E26 × (E30 × (E30 × Unit))))))
noncomputable def G9_l0_step (s : ((Bool × (Bool × ((List Int) × ((List Int) × (Int × Unit))))) × (E23 × (E26 × (E30 × (E30 × Unit)))))) : Option TY154 :=
  (bif (decide (s.1.2.2.2.2.1 < (List.length s.1.2.2.1 : Int))) then
  (bif (decide (0 ≤ s.1.2.2.2.2.1) && decide (s.1.2.2.2.2.1 < (List.length s.1.2.2.1 : Int))) then
    (bif (decide (0 ≤ s.1.2.2.2.2.1) && decide (s.1.2.2.2.2.1 < (List.length s.1.2.2.2.1 : Int))) then
      (bif ((List.getD s.1.2.2.1 (Int.toNat s.1.2.2.2.2.1) 0) != (List.getD s.1.2.2.2.1 (Int.toNat s.1.2.2.2.2.1) 0)) then
        (bif (!s.1.2.1) then
          (Option.bind G15 fun r21 =>
            some (1, ((r21, (s.1.2.1, (s.1.2.2.1, (s.1.2.2.2.1, (s.1.2.2.2.2.1, ()))))), (s.2.1, (s.2.2.1, (s.2.2.2.1, (s.2.2.2.2.1, ())))))))
          else
          (bif (decide (0 ≤ s.1.2.2.2.2.1) && decide (s.1.2.2.2.2.1 < (List.length s.1.2.2.1 : Int))) then
            (bif (decide (0 ≤ s.1.2.2.2.2.1) && decide (s.1.2.2.2.2.1 < (List.length s.1.2.2.2.1 : Int))) then
              (bif (decide ((List.getD s.1.2.2.1 (Int.toNat s.1.2.2.2.2.1) 0) < (List.getD s.1.2.2.2.1 (Int.toNat s.1.2.2.2.2.1) 0))) then
                (Option.bind G15 fun r22 =>
                  some (1, ((r22, (s.1.2.1, (s.1.2.2.1, (s.1.2.2.2.1, (s.1.2.2.2.2.1, ()))))), (s.2.1, (s.2.2.1, (s.2.2.2.1, (s.2.2.2.2.1, ())))))))
                else
                some (1, ((false, (s.1.2.1, (s.1.2.2.1, (s.1.2.2.2.1, (s.1.2.2.2.2.1, ()))))), (s.2.1, (s.2.2.1, (s.2.2.2.1, (s.2.2.2.2.1, ())))))))
              else
              none)
            else
            none))
        else
        some (0, ((s.1.1, (s.1.2.1, (s.1.2.2.1, (s.1.2.2.2.1, ((IntKind.wrap .i64 (s.1.2.2.2.2.1 + 1)), ()))))), (s.2.1, (s.2.2.1, (s.2.2.2.1, (s.2.2.2.2.1, ())))))))
      else
      none)
    else
    none)
  else
  some (2, ((s.1.1, (s.1.2.1, (s.1.2.2.1, (s.1.2.2.2.1, (s.1.2.2.2.2.1, ()))))), (s.2.1, (s.2.2.1, (s.2.2.2.1, (s.2.2.2.2.1, ())))))))
noncomputable def G9_l0_fuel (s : ((Bool × (Bool × ((List Int) × ((List Int) × (Int × Unit))))) × (E23 × (E26 × (E30 × (E30 × Unit)))))) : Nat := Int.toNat ((List.length s.1.2.2.1 : Int) - s.1.2.2.2.2.1) + 1
noncomputable def G9_l0_run (s : ((Bool × (Bool × ((List Int) × ((List Int) × (Int × Unit))))) × (E23 × (E26 × (E30 × (E30 × Unit)))))) : Option TY154 := iter G9_l0_step (G9_l0_fuel s) s
noncomputable def G9_l0_L : LoopT := loopT G9_l0_S [.ret, .exit 0] G9_l0_run
noncomputable def G9 (a0 : E23) (a1 : (List E72)) (a2 : E26) (a3 : E30) : Option Bool :=
  (Option.bind (G11 a0 a1) fun r1 =>
  (bif (!r1) then
    (Option.bind G15 fun r2 =>
      some r2)
    else
    (Option.bind (G12 a2 a3) fun r3 =>
      (bif (!r3) then
        (Option.bind G15 fun r4 =>
          some r4)
        else
        (Option.bind (G13 a0 a1) fun r5 =>
          (bif (r5 != 0) then
            (Option.bind G15 fun r6 =>
              some r6)
            else
            (Option.bind (G18 a0 a2) fun r7 =>
              (bif (!r7) then
                (Option.bind G15 fun r8 =>
                  some r8)
                else
                (Option.bind (G21 a0 a3) fun r9 =>
                  (bif (!r9) then
                    (Option.bind G15 fun r10 =>
                      some r10)
                    else
                    (Option.bind (G17 a0 a1 a2) fun r11 =>
                      (Option.bind (G16 a0 a1 a2) fun r12 =>
                        (Option.bind (G38 a3 a2) fun r13 =>
                          (bif r13 then
                            (Option.bind (G22 a0 a1 a3) fun r14 =>
                              (bif (r12.2.1 != 0) then
                                some false
                                else
                                (bif (!(r12.1 == (r11.2.1 == 0))) then
                                  some false
                                  else
                                  (bif (r11.2.1 != 0) then
                                    (bif (r11.2.1 == 5) then
                                      (bif (!r14) then
                                        (Option.bind G15 fun r15 =>
                                          some r15)
                                        else
                                        some false)
                                      else
                                      some false)
                                    else
                                    (Option.bind (G21 a0 r11.1) fun r16 =>
                                      (bif (!r16) then
                                        some false
                                        else
                                        (Option.bind (G38 r11.1 a2) fun r17 =>
                                          (bif (!r17) then
                                            some false
                                            else
                                            (Option.bind (G39 a0 a1 r11.1) fun r18 =>
                                              (bif (r18.2.1 != 0) then
                                                some false
                                                else
                                                (bif (!r18.1) then
                                                  some false
                                                  else
                                                  (Option.bind (G40 a0 r11.1) fun r19 =>
                                                    (Option.bind (G40 a0 a3) fun r20 =>
                                                      (Option.bind (G9_l0_run ((false, (r14, (r19, (r20, (0, ()))))), (a0, (a2, (a3, (r11.1, ())))))) fun q23 =>
                                                        (natK q23.1
                                                          (some q23.2.1.1)
                                                          (fun _ => (Option.bind G15 fun r24 =>
                                                            some r24)))))))))))))))))
                            else
                            (bif (r12.2.1 != 0) then
                              some false
                              else
                              (bif (!(r12.1 == (r11.2.1 == 0))) then
                                some false
                                else
                                (bif (r11.2.1 != 0) then
                                  (bif (r11.2.1 == 5) then
                                    (Option.bind G15 fun r25 =>
                                      some r25)
                                    else
                                    some false)
                                  else
                                  (Option.bind (G21 a0 r11.1) fun r26 =>
                                    (bif (!r26) then
                                      some false
                                      else
                                      (Option.bind (G38 r11.1 a2) fun r27 =>
                                        (bif (!r27) then
                                          some false
                                          else
                                          (Option.bind (G39 a0 a1 r11.1) fun r28 =>
                                            (bif (r28.2.1 != 0) then
                                              some false
                                              else
                                              (bif (!r28.1) then
                                                some false
                                                else
                                                (Option.bind (G40 a0 r11.1) fun r29 =>
                                                  (Option.bind (G40 a0 a3) fun r30 =>
                                                    (Option.bind (G9_l0_run ((false, (false, (r29, (r30, (0, ()))))), (a0, (a2, (a3, (r11.1, ())))))) fun q31 =>
                                                      (natK q31.1
                                                        (some q31.2.1.1)
                                                        (fun _ => (Option.bind G15 fun r32 =>
                                                          some r32))))))))))))))))))))))))))))))
theorem G9_l0_V : LValid 0 Tryd.prog (.loop G9_l0_c) G9_l0_L false := by
  exact loopT_valid (fuel := G9_l0_fuel) mixed G9_CV (lvNil _) (by kernel_rfl) (by decide) rfl (by intro s; kernel_rfl) (fun s r h => h)
theorem G9_LV : LV 0 Tryd.prog false (loopsOf (bodyOf Tryd.f9)) [G9_l0_L] := by
  have hl : loopsOf (bodyOf Tryd.f9) = [.loop G9_l0_c] := by kernel_rfl
  rw [hl]; exact ⟨G9_l0_V, trivial⟩
theorem G9_ent : Ent Tryd.prog 9 := ⟨by decide, enters_of Tryd.func9 (by kernel_rfl) rfl⟩
theorem G9_hev : ∀ x, fnR Tryd.prog G9_C [G9_l0_L] Tryd.f9 (bodyOf Tryd.f9) (encs [.dat T23, .dat (.list T72), .dat T26, .dat T30] x) ⟨[], [], 0⟩ (frzF (.dat .bool)) = G9 x.1 x.2.1 x.2.2.1 x.2.2.2.1 := by
  intro x; kernel_rfl
theorem G9_lcall : ∀ x r, (fun x : Els [.dat T23, .dat (.list T72), .dat T26, .dat T30] => G9 x.1 x.2.1 x.2.2.1 x.2.2.2.1) x = some r → LCall 0 Tryd.prog 9 (encs [.dat T23, .dat (.list T72), .dat T26, .dat T30] x) ⟨[], [], 0⟩ (.d .bool r) ⟨[], [], 0⟩ := frz_lcall (R := .dat .bool) mixed Tryd.func9 rfl G9_ent G9_CV G9_LV (by kernel_rfl) (by kernel_rfl) G9_hev
end Go.Proofs.YtibmgbalfhfcdaaDoor.Abs
set_option linter.unusedVariables false
set_option linter.unusedSimpArgs false
set_option maxRecDepth 100000
namespace Go.Proofs.YtibmgbalfhfcdaaDoor.Abs
open Classical
structure TrOk (s : E23) (t : E30) : Prop where
  lt : (t.1).length = (s.2.2.2.1).toNat
  lr : (t.2.1).length = (s.2.2.2.1).toNat
  ld : (t.2.2.1).length = (s.2.2.2.2.1).length
  temp : ∀ x ∈ t.1, 2000 ≤ x ∧ x ≤ 3200
  rate : ∀ x ∈ t.2.1, 0 - s.2.2.1 ≤ x ∧ x ≤ s.2.2.1
  drift : ∀ x ∈ t.2.2.1, 0 - s.2.1 ≤ x ∧ x ≤ s.2.1
theorem TrOk.t_ {s : E23} {t : E30} (h : TrOk s t) {k : Nat} (hk : k < (s.2.2.2.1).toNat) : 2000 ≤ (t.1).getD k 0 ∧ (t.1).getD k 0 ≤ 3200 := h.temp _ (getD_mem (by rw [h.lt]; exact hk))
theorem TrOk.r_ {s : E23} {t : E30} (h : TrOk s t) {k : Nat} (hk : k < (s.2.2.2.1).toNat) : 0 - s.2.2.1 ≤ (t.2.1).getD k 0 ∧ (t.2.1).getD k 0 ≤ s.2.2.1 := h.rate _ (getD_mem (by rw [h.lr]; exact hk))
theorem TrOk.d_ {s : E23} {t : E30} (h : TrOk s t) {k : Nat} (hk : k < (s.2.2.2.2.1).length) : 0 - s.2.1 ≤ (t.2.2.1).getD k 0 ∧ (t.2.2.1).getD k 0 ≤ s.2.1 := h.drift _ (getD_mem (by rw [h.ld]; exact hk))
theorem beqn_f {a b : Int} (h : a = b) : (a != b) = false := by simp [h]
theorem beqn_t {a b : Int} (h : a ≠ b) : (a != b) = true := by simp [h]
theorem truth_tells {s : E23} (hs : StrOk s) (t : E30) : Tells (G21 s t) (TrOk s t) := by
  have hlen := hs.len
  have hd := hs.depths
  have hw := hs.warm
  have hdr := hs.drift
  unfold G21
  by_cases h1 : (t.1).length = (s.2.2.2.1).toNat
  case neg =>
    rw [beqn_t (a := ((t.1).length : Int)) (b := s.2.2.2.1) (by omega)]
    exact tells_f fun h => h1 h.lt
  by_cases h2 : (t.2.1).length = (s.2.2.2.1).toNat
  case neg =>
    rw [beqn_f (a := ((t.1).length : Int)) (b := s.2.2.2.1) (by omega), beqn_t (a := ((t.2.1).length : Int)) (b := s.2.2.2.1) (by omega)]
    exact tells_f fun h => h2 h.lr
  by_cases h3 : (t.2.2.1).length = (s.2.2.2.2.1).length
  case neg =>
    rw [beqn_f (a := ((t.1).length : Int)) (b := s.2.2.2.1) (by omega), beqn_f (a := ((t.2.1).length : Int)) (b := s.2.2.2.1) (by omega), beqn_t (a := ((t.2.2.1).length : Int)) (b := ((s.2.2.2.2.1).length : Int)) (by omega)]
    exact tells_f fun h => h3 h.ld
  rw [beqn_f (a := ((t.1).length : Int)) (b := s.2.2.2.1) (by omega), beqn_f (a := ((t.2.1).length : Int)) (b := s.2.2.2.1) (by omega), beqn_f (a := ((t.2.2.1).length : Int)) (b := ((s.2.2.2.2.1).length : Int)) (by omega)]
  simp only [cond_false]
  have w1 : IntKind.wrap .i64 (0 - s.2.2.1) = 0 - s.2.2.1 := wr (by omega) (by omega)
  have w2 : IntKind.wrap .i64 (0 - s.2.1) = 0 - s.2.1 := wr (by omega) (by omega)
  have key0 := iter_fn (step := G21_l0_step) (n := (s.2.2.2.1).toNat) (k1 := 0) (k2 := 1) (fuel := G21_l0_fuel ((false, (0, ())), (s, (t, ()))))
    (bad := fun i => !(decide (2000 ≤ (t.1).getD i 0 ∧ (t.1).getD i 0 ≤ 3200) && decide (0 - s.2.2.1 ≤ (t.2.1).getD i 0 ∧ (t.2.1).getD i 0 ≤ s.2.2.1)))
    (fun i => ((false, ((i : Int), ())), (s, (t, ())))) (fun i => ((false, ((i : Int), ())), (s, (t, ())))) ((false, ((((s.2.2.2.1).toNat : Nat) : Int), ())), (s, (t, ()))) (fun i hi => by
      unfold G21_l0_step
      have e0 : decide ((i : Int) < s.2.2.2.1) = true := decide_eq_true (by omega)
      simp only [e0, cond_true, w1, lt_int (show i < t.1.length by omega), lt_int (show i < t.2.1.length by omega), ge0, Bool.and_self, getD_toNat, rin_tells, Option.bind_some, wr1 (i := i) (by omega)]
      cases decide (2000 ≤ t.1.getD i 0 ∧ t.1.getD i 0 ≤ 3200) <;> cases decide (0 - s.2.2.1 ≤ t.2.1.getD i 0 ∧ t.2.1.getD i 0 ≤ s.2.2.1) <;> rfl) (by
      unfold G21_l0_step
      have e0 : decide (((s.2.2.2.1.toNat : Nat) : Int) < s.2.2.2.1) = false := decide_eq_false (by omega)
      simp only [e0, cond_false]) (by unfold G21_l0_fuel; simp only; omega)
  have hfl : ∀ (l : List Int) (a b : Int), (∀ i, i < l.length → a ≤ l.getD i 0 ∧ l.getD i 0 ≤ b) → ∀ x ∈ l, a ≤ x ∧ x ≤ b := fun l a b h => (forall_getD 0).1 h
  rcases key0 with ⟨j, hj, hb, _, he⟩ | ⟨hall, he⟩
  · rw [show G21_l0_run ((false, (0, ())), (s, (t, ()))) = _ from he]
    refine tells_f fun h => ?_
    rw [decide_eq_true (h.t_ hj), decide_eq_true (h.r_ hj)] at hb
    cases hb
  · rw [show G21_l0_run ((false, (0, ())), (s, (t, ()))) = _ from he]
    simp only [Option.bind_some, natK]
    have key1 := iter_fn (step := G21_l1_step) (n := (s.2.2.2.2.1).length) (k1 := 0) (k2 := 1) (fuel := G21_l1_fuel ((false, (0, ())), (s, (t, ()))))
      (bad := fun i => !(decide (0 - s.2.1 ≤ (t.2.2.1).getD i 0 ∧ (t.2.2.1).getD i 0 ≤ s.2.1)))
      (fun i => ((false, ((i : Int), ())), (s, (t, ())))) (fun i => ((false, ((i : Int), ())), (s, (t, ())))) ((false, (((s.2.2.2.2.1).length : Int), ())), (s, (t, ()))) (fun i hi => by
        unfold G21_l1_step
        simp only [lt_int hi, cond_true, w2, lt_int (show i < t.2.2.1.length by omega), ge0, Bool.and_self, getD_toNat, rin_tells, Option.bind_some, wr1 (i := i) (by omega)]
        cases decide (0 - s.2.1 ≤ t.2.2.1.getD i 0 ∧ t.2.2.1.getD i 0 ≤ s.2.1) <;> rfl) (by
        unfold G21_l1_step
        simp only [nlt_int, cond_false]) (by unfold G21_l1_fuel; simp)
    rcases key1 with ⟨j, hj, hb, _, he⟩ | ⟨hall1, he⟩
    · rw [show G21_l1_run ((false, (0, ())), (s, (t, ()))) = _ from he]
      refine tells_f fun h => ?_
      rw [decide_eq_true (h.d_ hj)] at hb
      cases hb
    · rw [show G21_l1_run ((false, (0, ())), (s, (t, ()))) = _ from he]
      refine tells_t ⟨h1, h2, h3, hfl _ _ _ fun i hi => ?_, hfl _ _ _ fun i hi => ?_, hfl _ _ _ fun i hi => ?_⟩
      · have := hall i (by omega)
        simp only [Bool.not_eq_false', Bool.and_eq_true, decide_eq_true_eq] at this
        exact this.1
      · have := hall i (by omega)
        simp only [Bool.not_eq_false', Bool.and_eq_true, decide_eq_true_eq] at this
        exact this.2
      · have := hall1 i (by omega)
        simpa only [Bool.not_eq_false', decide_eq_true_eq] using this
def atN (s : E23) (i : Nat) : Nat := ((s.2.2.2.2.1).getD i 0).toNat
theorem at_ok {s : E23} (hs : StrOk s) {i : Nat} (hi : i < (s.2.2.2.2.1).length) : (((atN s i : Nat) : Int) = (s.2.2.2.2.1).getD i 0) ∧ atN s i < (s.2.2.2.1).toNat := by
  have := hs.at_ _ (getD_mem hi (d := 0))
  unfold atN
  omega
def AgR (s : E23) (t : E30) (r : E72) : Bool := agr1 s r ((t.1).getD (atN s (r.1).toNat) 0) ((t.2.1).getD (atN s (r.1).toNat) 0 + (t.2.2.1).getD (r.1).toNat 0)
def Ag (s : E23) (l : List E72) (t : E30) : Prop := ∀ r ∈ l, AgR s t r = true
theorem rd_i {s : E23} {r : E72} (hr : RdOk s r) : ∃ i : Nat, r.1 = (i : Int) ∧ i < (s.2.2.2.2.1).length := ⟨(r.1).toNat, by have := hr.1; omega, by have := hr.1; have := hr.2.1; omega⟩
theorem shows_ref {s : E23} {t : E30} (hs : StrOk s) (ht : TrOk s t) {i : Nat} (hi : i < (s.2.2.2.2.1).length) {w : Int} (hw : 0 ≤ w ∧ w ≤ 200) :
    G61 s t i w = some ((t.1).getD (atN s i) 0 + ((t.2.1).getD (atN s i) 0 + (t.2.2.1).getD i 0) * w) := by
  obtain ⟨ha, hb⟩ := at_ok hs hi
  have b1 := ht.t_ hb
  have b2 := ht.r_ hb
  have b3 := ht.d_ hi
  have hw1 := hs.warm
  have hw2 := hs.drift
  have hm := mulb (m := (t.2.1).getD (atN s i) 0 + (t.2.2.1).getD i 0) (w := w) (by omega) (by omega) hw.1 hw.2
  unfold G61
  simp only [ge0, lt_int hi, Bool.and_self, cond_true, getD_toNat, ← ha, lt_int (show atN s i < t.1.length by have := ht.lt; omega), lt_int (show atN s i < t.2.1.length by have := ht.lr; omega), lt_int (show i < t.2.2.1.length by have := ht.ld; omega)]
  rw [wr (n := t.2.1.getD (atN s i) 0 + t.2.2.1.getD i 0) (by omega) (by omega)]
  rw [wr (n := (t.2.1.getD (atN s i) 0 + t.2.2.1.getD i 0) * w) (by omega) (by omega)]
  rw [wr (by omega) (by omega)]
theorem ref_in {s : E23} {t : E30} (hs : StrOk s) (ht : TrOk s t) {r : E72} (hr : RdOk s r) {i : Nat} (hi : r.1 = (i : Int)) (hi' : i < (s.2.2.2.2.1).length) :
    G60 (r.2.2.1) (IntKind.wrap .i64 ((t.1).getD (atN s i) 0 + ((t.2.1).getD (atN s i) 0 + (t.2.2.1).getD i 0) * r.2.1 - s.1)) (IntKind.wrap .i64 ((t.1).getD (atN s i) 0 + ((t.2.1).getD (atN s i) 0 + (t.2.2.1).getD i 0) * r.2.1 + s.1)) = some (AgR s t r) := by
  have hw1 := hs.warm
  have hw2 := hs.drift
  have hw3 := hs.err
  obtain ⟨ha, hb⟩ := at_ok hs hi'
  have b1 := ht.t_ hb
  have b2 := ht.r_ hb
  have b3 := ht.d_ hi'
  have hm := mulb (m := (t.2.1).getD (atN s i) 0 + (t.2.2.1).getD i 0) (w := r.2.1) (by omega) (by omega) hr.2.2.1 hr.2.2.2.1
  unfold AgR agr1
  rw [hi, Int.toNat_natCast]
  generalize ((t.2.1).getD (atN s i) 0 + (t.2.2.1).getD i 0) * r.2.1 = x at hm ⊢
  rw [wr (by omega) (by omega), wr (by omega) (by omega), rin_tells]
  congr 1
  rw [← Bool.decide_and, decide_eq_decide]; omega
theorem ragrees_tells {s : E23} {l : List E72} {t : E30} (hs : StrOk s) (hl : RdsOk s l) (hn : l.length ≤ 1000) (ht : TrOk s t) : Tells (G22 s l t) (Ag s l t) := by
  have hw1 := hs.warm
  have hw2 := hs.drift
  have hw3 := hs.err
  unfold G22
  have key := iter_fn (step := G22_l0_step) (n := l.length) (k1 := 0) (k2 := 1) (fuel := G22_l0_fuel ((l, (false, (0, ()))), (s, (t, ()))))
    (bad := fun k => !(AgR s t (l.getD k (0, (0, (0, ()))))))
    (fun k => ((l, (false, ((k : Int), ()))), (s, (t, ())))) (fun k => ((l, (false, ((k : Int), ()))), (s, (t, ())))) ((l, (false, ((l.length : Int), ()))), (s, (t, ()))) (fun k hk => by
      unfold G22_l0_step
      simp only [lt_int hk, ge0, Bool.and_self, cond_true, getD_toNat, wr1 (i := k) (by omega)]
      have hr := hl _ (getD_mem hk (d := (0, (0, (0, ())))))
      generalize l.getD k (0, (0, (0, ()))) = r at hr ⊢
      obtain ⟨i, hi, hi'⟩ := rd_i hr
      have h2 := ref_in hs ht hr hi hi'
      rw [hi, shows_ref hs ht hi' ⟨hr.2.2.1, hr.2.2.2.1⟩]
      simp only [Option.bind_some]
      rw [h2]
      simp only [Option.bind_some]
      cases AgR s t r <;> rfl) (by
      unfold G22_l0_step
      simp only [nlt_int, cond_false]) (by unfold G22_l0_fuel; simp)
  rcases key with ⟨j, hj, hb, _, he⟩ | ⟨hall, he⟩
  · rw [show G22_l0_run ((l, (false, (0, ()))), (s, (t, ()))) = _ from he]
    refine tells_f fun h => ?_
    rw [h _ (getD_mem hj)] at hb
    cases hb
  · rw [show G22_l0_run ((l, (false, (0, ()))), (s, (t, ()))) = _ from he]
    refine tells_t ((forall_getD (0, (0, (0, ())))).1 fun i hi => ?_)
    simpa using hall i hi
theorem cf78a (a : List Int) (hl : a.length < 2 ^ 62) : G78_v1 a = some (a.any (fun n => !decide (2000 ≤ n ∧ n ≤ 3200))) := by
  unfold G78_v1 G95_v1 G95_v1_l0_run
  have key := iter_fn (step := G95_v1_l0_step) (n := a.length) (k1 := 0) (k2 := 1) (fuel := G95_v1_l0_fuel ((a, (0, ((List.length a : Int), (0, ())))), ())) (bad := fun i => !decide (2000 ≤ a.getD i 0 ∧ a.getD i 0 ≤ 3200))
    (fun i => ((a, (0, ((List.length a : Int), ((i : Int), ())))), ())) (fun i => ((a, ((i : Int), ((List.length a : Int), ((i : Int), ())))), ())) ((a, (0, ((List.length a : Int), ((a.length : Int), ())))), ()) (fun i hi => by
      unfold G95_v1_l0_step G79
      simp only [lt_int hi, inside_lt hi, cond_true, getD_toNat, in_tells, Option.bind_some, wr1 (i := i) (by omega)]
      cases decide (2000 ≤ a.getD i 0 ∧ a.getD i 0 ≤ 3200) <;> rfl) (by
      unfold G95_v1_l0_step
      simp only [nlt_int, cond_false]) (by unfold G95_v1_l0_fuel; simp)
  rcases key with ⟨j, hj, hb, _, he⟩ | ⟨hall, he⟩
  · have he' : iter G95_v1_l0_step (G95_v1_l0_fuel ((a, (0, ((List.length a : Int), (0, ())))), ())) ((a, (0, ((List.length a : Int), (0, ())))), ()) = _ := he
    rw [he', any_of_getD (p := fun n => !decide (2000 ≤ n ∧ n ≤ 3200)) hj hb]
    simp only [Option.bind_some, natK]
    simp
  · have he' : iter G95_v1_l0_step (G95_v1_l0_fuel ((a, (0, ((List.length a : Int), (0, ())))), ())) ((a, (0, ((List.length a : Int), (0, ())))), ()) = _ := he
    rw [he', any_not_getD (p := fun n => !decide (2000 ≤ n ∧ n ≤ 3200)) hall]
    rfl
theorem cf78b (a : List Int) (m : Int) (hm : 0 ≤ m ∧ m ≤ 20) (hl : a.length < 2 ^ 62) : G78_v2 a m = some (a.any (fun n => !decide (0 - m ≤ n ∧ n ≤ m)), (m, ())) := by
  unfold G78_v2 G95_v2 G95_v2_l0_run
  have key := iter_fn (step := G95_v2_l0_step) (n := a.length) (k1 := 0) (k2 := 1) (fuel := G95_v2_l0_fuel ((a, (0, ((List.length a : Int), (0, ())))), (m, ()))) (bad := fun i => !decide (0 - m ≤ a.getD i 0 ∧ a.getD i 0 ≤ m))
    (fun i => ((a, (0, ((List.length a : Int), ((i : Int), ())))), (m, ()))) (fun i => ((a, ((i : Int), ((List.length a : Int), ((i : Int), ())))), (m, ()))) ((a, (0, ((List.length a : Int), ((a.length : Int), ())))), (m, ())) (fun i hi => by
      unfold G95_v2_l0_step G96
      have w : IntKind.wrap .i64 (0 - m) = 0 - m := wr (by omega) (by omega)
      simp only [w, lt_int hi, inside_lt hi, cond_true, getD_toNat, in_tells, Option.bind_some, wr1 (i := i) (by omega)]
      cases decide (0 - m ≤ a.getD i 0 ∧ a.getD i 0 ≤ m) <;> rfl) (by
      unfold G95_v2_l0_step
      simp only [nlt_int, cond_false]) (by unfold G95_v2_l0_fuel; simp)
  rcases key with ⟨j, hj, hb, _, he⟩ | ⟨hall, he⟩
  · have he' : iter G95_v2_l0_step (G95_v2_l0_fuel ((a, (0, ((List.length a : Int), (0, ())))), (m, ()))) ((a, (0, ((List.length a : Int), (0, ())))), (m, ())) = _ := he
    rw [he', any_of_getD (p := fun n => !decide (0 - m ≤ n ∧ n ≤ m)) hj hb]
    simp only [Option.bind_some, natK]
    simp
  · have he' : iter G95_v2_l0_step (G95_v2_l0_fuel ((a, (0, ((List.length a : Int), (0, ())))), (m, ()))) ((a, (0, ((List.length a : Int), (0, ())))), (m, ())) = _ := he
    rw [he', any_not_getD (p := fun n => !decide (0 - m ≤ n ∧ n ≤ m)) hall]
    rfl
theorem rates_tells (a : List Int) (n m : Int) (hm : 0 ≤ m ∧ m ≤ 20) (hl : a.length < 2 ^ 62) : Tells (G80 a n m) ((a.length : Int) = n ∧ ∀ x ∈ a, 0 - m ≤ x ∧ x ≤ m) := by
  unfold G80
  by_cases h : (a.length : Int) = n
  · rw [beq_iff_eq.2 h, cond_true, cf78b a m hm hl]
    refine ⟨_, rfl, ?_⟩
    simp only [Bool.not_eq_true', List.any_eq_false]
    exact ⟨fun hh => ⟨h, fun x hx => by simpa using hh x hx⟩, fun hh x hx => by simpa using hh.2 x hx⟩
  · rw [beq_eq_false_iff_ne.2 h, cond_false]
    exact tells_f fun hh => h hh.1
theorem fine6 {s : E23} (hs : StrOk s) (l : List E72) (t : E30) (h1 : (t.1).length < 2 ^ 62) (h2 : (t.2.1).length < 2 ^ 62) (h3 : (t.2.2.1).length < 2 ^ 62) :
    ∃ b, G77 (XX s l) t s [] = some (b, (XX s l, (t, (s, ([], ()))))) ∧ (b = true ↔ TrOk s t) := by
  have hd := hs.depths
  unfold G77
  by_cases e1 : ((t.1).length : Int) = s.2.2.2.1
  case neg =>
    rw [beq_eq_false_iff_ne.2 e1]
    exact ⟨false, rfl, by simp; intro h; have := h.lt; omega⟩
  rw [beq_iff_eq.2 e1, cond_true, cf78a _ h1]
  simp only [Option.bind_some]
  cases ha : (t.1).any (fun n => !decide (2000 ≤ n ∧ n ≤ 3200)) with
  | true =>
    refine ⟨false, rfl, by
      simp only [Bool.false_eq_true, false_iff]
      intro h
      rw [List.any_eq_true] at ha
      obtain ⟨x, hx, hx'⟩ := ha
      rw [decide_eq_true (h.temp x hx)] at hx'
      cases hx'⟩
  | false =>
    have ht : ∀ x ∈ t.1, 2000 ≤ x ∧ x ≤ 3200 := by
      simpa only [List.any_eq_false, Bool.not_eq_true, Bool.not_eq_false', decide_eq_true_eq] using ha
    obtain ⟨b2, r2, i2⟩ := rates_tells (t.2.1) (s.2.2.2.1) (s.2.2.1) hs.warm h2
    obtain ⟨b3, r3, i3⟩ := rates_tells (t.2.2.1) ((s.2.2.2.2.1).length : Int) (s.2.1) hs.drift h3
    simp only [Bool.not_false, cond_true]
    rw [r2]
    simp only [Option.bind_some]
    cases b2 with
    | false => exact ⟨false, rfl, by simp only [Bool.false_eq_true, false_iff]; intro h; exact absurd (i2.2 ⟨by have := h.lr; omega, h.rate⟩) (by simp)⟩
    | true =>
      simp only [cond_true]
      rw [r3]
      refine ⟨b3, rfl, i3.trans ⟨fun h => ⟨by omega, by have := (i2.1 rfl).1; omega, by have := h.1; omega, ht, (i2.1 rfl).2, h.2⟩, fun h => ⟨by have := h.ld; omega, h.drift⟩⟩⟩
theorem agr_eq {s : E23} {t : E30} {r : E72} (hs : StrOk s) (ht : TrOk s t) (hr : RdOk s r) : G82 r s t = some (!(AgR s t r), (s, (t, ()))) := by
  have hw1 := hs.warm
  have hw2 := hs.drift
  have hw3 := hs.err
  obtain ⟨i, hi, hi'⟩ := rd_i hr
  obtain ⟨ha, hb⟩ := at_ok hs hi'
  have b1 := ht.t_ hb
  have b2 := ht.r_ hb
  have b3 := ht.d_ hi'
  have hm := mulb (m := (t.2.1).getD (atN s i) 0 + (t.2.2.1).getD i 0) (w := r.2.1) (by omega) (by omega) hr.2.2.1 hr.2.2.2.1
  have hr' := hr.2.2.2.2
  unfold G82 AgR agr1
  simp only [hi]
  simp only [ge0, lt_int hi', Bool.and_self, cond_true, getD_toNat, ← ha, lt_int (show atN s i < t.1.length by have := ht.lt; omega), lt_int (show atN s i < t.2.1.length by have := ht.lr; omega), lt_int (show i < t.2.2.1.length by have := ht.ld; omega), Int.toNat_natCast]
  rw [wr (n := t.2.1.getD (atN s i) 0 + t.2.2.1.getD i 0) (by omega) (by omega)]
  rw [wr (n := (t.2.1.getD (atN s i) 0 + t.2.2.1.getD i 0) * r.2.1) (by omega) (by omega), wr (n := r.2.2.1 - t.1.getD (atN s i) 0) (by omega) (by omega), wr (by omega) (by omega), wr (by omega) (by omega), in_tells]
  simp only [Option.bind_some]
  have e : (decide (r.2.2.1 - (t.2.1.getD (atN s i) 0 + t.2.2.1.getD i 0) * r.2.1 - s.1 ≤ t.1.getD (atN s i) 0) && decide (t.1.getD (atN s i) 0 ≤ r.2.2.1 - (t.2.1.getD (atN s i) 0 + t.2.2.1.getD i 0) * r.2.1 + s.1)) = decide (0 - s.1 ≤ r.2.2.1 - t.1.getD (atN s i) 0 - (t.2.1.getD (atN s i) 0 + t.2.2.1.getD i 0) * r.2.1 ∧ r.2.2.1 - t.1.getD (atN s i) 0 - (t.2.1.getD (atN s i) 0 + t.2.2.1.getD i 0) * r.2.1 ≤ s.1) := by
    rw [← Bool.decide_and, decide_eq_decide]; omega
  rw [e]
theorem cf81a {s : E23} {t : E30} (a : List E72) (hs : StrOk s) (ht : TrOk s t) (hr : RdsOk s a) (hl : a.length < 2 ^ 62) : G81_v1 a s t = some (a.any (fun r => !AgR s t r), (s, (t, ()))) := by
  unfold G81_v1 G97_v1 G97_v1_l0_run
  have key := iter_fn (step := G97_v1_l0_step) (n := a.length) (k1 := 0) (k2 := 1) (fuel := G97_v1_l0_fuel ((a, (0, ((List.length a : Int), (0, ())))), (s, (t, ())))) (bad := fun i => !(AgR s t (a.getD i (0, (0, (0, ()))))))
    (fun i => ((a, (0, ((List.length a : Int), ((i : Int), ())))), (s, (t, ())))) (fun i => ((a, ((i : Int), ((List.length a : Int), ((i : Int), ())))), (s, (t, ())))) ((a, (0, ((List.length a : Int), ((a.length : Int), ())))), (s, (t, ()))) (fun i hi => by
      unfold G97_v1_l0_step
      simp only [lt_int hi, inside_lt hi, cond_true, getD_toNat, agr_eq hs ht (hr _ (getD_mem hi (d := (0, (0, (0, ())))))), Option.bind_some, wr1 (i := i) (by omega)]
      cases AgR s t (a.getD i (0, (0, (0, ())))) <;> rfl) (by
      unfold G97_v1_l0_step
      simp only [nlt_int, cond_false]) (by unfold G97_v1_l0_fuel; simp)
  rcases key with ⟨j, hj, hb, _, he⟩ | ⟨hall, he⟩
  · have he' : iter G97_v1_l0_step (G97_v1_l0_fuel ((a, (0, ((List.length a : Int), (0, ())))), (s, (t, ())))) ((a, (0, ((List.length a : Int), (0, ())))), (s, (t, ()))) = _ := he
    rw [he', any_of_getD (p := fun r => !AgR s t r) hj hb]
    simp only [Option.bind_some, natK]
    simp
  · have he' : iter G97_v1_l0_step (G97_v1_l0_fuel ((a, (0, ((List.length a : Int), (0, ())))), (s, (t, ())))) ((a, (0, ((List.length a : Int), (0, ())))), (s, (t, ()))) = _ := he
    rw [he', any_not_getD (p := fun r => !AgR s t r) hall]
    rfl
theorem sagrees_eq (s : E23) (l : List E72) (t : E30) (h0 : l.length < 2 ^ 62) (h1 : (t.1).length < 2 ^ 62) (h2 : (t.2.1).length < 2 ^ 62) (h3 : (t.2.2.1).length < 2 ^ 62) :
    (24 < l.length ∧ G39 s l t = some (false, (3, ()))) ∨ (l.length ≤ 24 ∧ ¬ (SlOk s l ∧ TrOk s t) ∧ G39 s l t = some (false, (2, ()))) ∨ (SlOk s l ∧ TrOk s t ∧ ∃ b, G39 s l t = some (b, (0, ())) ∧ (b = true ↔ Ag s l t)) := by
  unfold G39 G49_v6
  by_cases hl : l.length ≤ 24
  case neg =>
    rw [decide_eq_true (p := (l.length : Int) > 24) (by omega)]
    exact .inl ⟨by omega, rfl⟩
  right
  rw [decide_eq_false (p := (l.length : Int) > 24) (by omega), cond_false]
  by_cases hs : StrOk s
  case neg =>
    rw [(valid_tells s).nval hs]
    exact .inl ⟨hl, fun h => hs h.1.2.1, rfl⟩
  rw [(valid_tells s).val hs]
  simp only [Option.bind_some, Bool.not_true, cond_false]
  rw [cf81 l s hs h0]
  simp only [Option.bind_some]
  cases ha : l.any (fun r => !decide (RdOk s r)) with
  | true =>
    refine .inl ⟨hl, fun h => ?_, rfl⟩
    rw [List.any_eq_true] at ha
    obtain ⟨x, hx, hx'⟩ := ha
    rw [decide_eq_true (h.1.2.2 x hx)] at hx'
    cases hx'
  | false =>
    have hr : RdsOk s l := by
      intro r hr
      have := List.any_eq_false.1 ha r hr
      simpa using this
    obtain ⟨b, e, hb⟩ := fine6 hs l t h1 h2 h3
    simp only [cond_false]
    rw [e]
    simp only [Option.bind_some]
    cases b with
    | false => exact .inl ⟨hl, fun h => (by have := hb.2 h.2; cases this), rfl⟩
    | true =>
      have ht := hb.1 rfl
      refine .inr ⟨⟨hl, hs, hr⟩, ht, ?_⟩
      have := cf81a l hs ht hr h0
      show ∃ b, (Option.bind (G81_v1 l s t) fun r4 => some (!r4.1, ((0 : Int), ()))) = some (b, (0, ())) ∧ (b = true ↔ Ag s l t)
      rw [this]
      refine ⟨_, rfl, ?_⟩
      simp only [Bool.not_eq_true', List.any_eq_false]
      exact ⟨fun hh r hr => by simpa using hh r hr, fun hh r hr => by simpa using hh r hr⟩
structure Sized (c : E26) (t : E30) : Prop where
  s : (c.1).length ≤ 12
  d : (c.2.1).length ≤ 12
  tt : (t.1).length ≤ 12
  tr : (t.2.1).length ≤ 12
  td : (t.2.2.1).length ≤ 12
theorem sized_tells (c : E26) (t : E30) : Tells (G12 c t) (Sized c t) := by
  unfold G12
  have h := tells_cond (p := ((c.1).length : Int) ≤ 12) (fun _ => tells_cond (p := ((c.2.1).length : Int) ≤ 12) (fun _ => tells_cond (p := ((t.1).length : Int) ≤ 12) (fun _ => tells_cond (p := ((t.2.1).length : Int) ≤ 12) (fun _ => tells_dec (p := ((t.2.2.1).length : Int) ≤ 12)))))
  exact h.iff ⟨fun h => ⟨by omega, by omega, by omega, by omega, by omega⟩, fun h => by have := h.s; have := h.d; have := h.tt; have := h.tr; have := h.td; omega⟩
end Go.Proofs.YtibmgbalfhfcdaaDoor.Abs
set_option linter.unusedVariables false
set_option linter.unusedSimpArgs false
set_option maxRecDepth 100000
namespace Go.Proofs.YtibmgbalfhfcdaaDoor.Abs
open Classical
theorem given_eq (s : E23) (l : List E72) (c : E26) (h0 : l.length < 2 ^ 62) (h1 : (c.1).length < 2 ^ 62) (h2 : (c.2.1).length < 2 ^ 62) :
    (24 < l.length ∧ G49 s l c = some (.inl (((), (3, ())), (c, ())))) ∨ (l.length ≤ 24 ∧ ¬ (SlOk s l ∧ CauseOk s c) ∧ G49 s l c = some (.inl (((), (2, ())), (c, ())))) ∨ (SlOk s l ∧ CauseOk s c ∧ G49 s l c = some (.inr (((), (0, ())), (c, (s, ([], (XX s l, ()))))))) := by
  unfold G49
  by_cases hl : l.length ≤ 24
  case neg =>
    rw [decide_eq_true (p := (l.length : Int) > 24) (by omega)]
    exact .inl ⟨by omega, rfl⟩
  right
  rw [decide_eq_false (p := (l.length : Int) > 24) (by omega), cond_false]
  by_cases hs : StrOk s
  case neg =>
    rw [(valid_tells s).nval hs]
    exact .inl ⟨hl, fun h => hs h.1.2.1, rfl⟩
  rw [(valid_tells s).val hs]
  simp only [Option.bind_some, Bool.not_true, cond_false]
  rw [cf81 l s hs h0]
  simp only [Option.bind_some]
  cases ha : l.any (fun r => !decide (RdOk s r)) with
  | true =>
    refine .inl ⟨hl, fun h => ?_, rfl⟩
    rw [List.any_eq_true] at ha
    obtain ⟨x, hx, hx'⟩ := ha
    rw [decide_eq_true (h.1.2.2 x hx)] at hx'
    cases hx'
  | false =>
    have hr : RdsOk s l := by
      intro r hr
      have := List.any_eq_false.1 ha r hr
      simpa using this
    simp only [cond_false]
    rcases bits_eq hs l c h1 h2 with ⟨hc, e, _⟩ | ⟨hc, e⟩
    · have e' : G50 (s, (l, ((), ()))) c [] = some (true, (XX s l, (c, ([], ())))) := by
        unfold G50
        rw [show G51 ((s, (l, ((), ()))).1, ((s, (l, ((), ()))).2.1, ((), (s, (l, ((), ()))).2.2.2))) c = _ from e]
        rfl
      rw [e']
      exact .inr ⟨⟨hl, hs, hr⟩, hc, rfl⟩
    · have e' : G50 (s, (l, ((), ()))) c [] = some (false, (XX s l, (c, ([], ())))) := by
        unfold G50
        rw [show G51 ((s, (l, ((), ()))).1, ((s, (l, ((), ()))).2.1, ((), (s, (l, ((), ()))).2.2.2))) c = _ from e]
        rfl
      rw [e']
      exact .inl ⟨hl, fun h => hc h.2, rfl⟩
theorem given1_eq (s : E23) (l : List E72) (c : E26) : G49_v1 s l c = G49 s l c := rfl
theorem sexplains_eq (s : E23) (l : List E72) (c : E26) (h0 : l.length < 2 ^ 62) (h1 : (c.1).length < 2 ^ 62) (h2 : (c.2.1).length < 2 ^ 62) :
    (24 < l.length ∧ G16 s l c = some (false, (3, ()))) ∨ (l.length ≤ 24 ∧ ¬ (SlOk s l ∧ CauseOk s c) ∧ G16 s l c = some (false, (2, ()))) ∨ (SlOk s l ∧ CauseOk s c ∧ ∃ b, G16 s l c = some (b, (0, ())) ∧ (b = true ↔ Ex s l (bitsOf s c))) := by
  unfold G16
  rcases given_eq s l c h0 h1 h2 with ⟨h, e⟩ | ⟨h, h', e⟩ | ⟨hsl, hc, e⟩
  · rw [e]; exact .inl ⟨h, rfl⟩
  · rw [e]; exact .inr (.inl ⟨h, h', rfl⟩)
  · rw [e]
    refine .inr (.inr ⟨hsl, hc, ?_⟩)
    rcases bits_eq hsl.2.1 l c h1 h2 with ⟨_, eb, hb⟩ | ⟨hn, _⟩
    · obtain ⟨r, M', ee, hr, _⟩ := explains_eq hsl.2.1 hsl.2.2 (by have := hsl.1; omega) hb (memo_nil s l)
      show ∃ b, (Option.bind (G51 (XX s l) c) fun r5 => Option.bind (G52 r5.1 (XX s l) []) fun r6 => some (r6.1, ((0 : Int), ()))) = some (b, (0, ())) ∧ (b = true ↔ Ex s l (bitsOf s c))
      rw [eb]
      simp only [Option.bind_some]
      rw [ee]
      exact ⟨r, rfl, hr⟩
    · exact absurd hc hn
def LeastT (s : E23) (l : List E72) (b d : Nat) (T : Int) : Prop := (∃ m, DC s l b d m T) ∧ ∀ m T', DC s l b d m T' → T ≤ T'
def LeastR (s : E23) (l : List E72) (b d : Nat) (T R : Int) : Prop := DC s l b d R T ∧ ∀ m, DC s l b d m T → R ≤ m
def LeastD (s : E23) (l : List E72) (b i : Nat) (T R q : Int) : Prop := (-(moS s b i) ≤ q ∧ q ≤ moS s b i) ∧ agr s l i T (R + q) = true ∧ ∀ q', -(moS s b i) ≤ q' → agr s l i T (R + q') = true → q' ≤ moS s b i → q ≤ q'
theorem DC.bd {s : E23} {l : List E72} (hs : StrOk s) {b d : Nat} {m T : Int} (h : DC s l b d m T) : (-20 ≤ m ∧ m ≤ 20) ∧ 2000 ≤ T ∧ T ≤ 3200 := by
  have := moD_bd hs b d
  have h1 := h.1
  exact ⟨by omega, h.2.1⟩
theorem rate_k {m : Int} (h : -20 ≤ m ∧ m ≤ 20) : ∃ k : Nat, k < 41 ∧ m = (k : Int) - 20 := ⟨(m + 20).toNat, by omega, by omega⟩
theorem SpanIs.low {s : E23} {l : List E72} (hs : StrOk s) {b d : Nat} {m : Int} {q : E56} (h : SpanIs s l b d m q) : (0 ≤ q.1 ∧ DC s l b d m q.1 ∧ ∀ T, DC s l b d m T → q.1 ≤ T) ∨ (q.1 = -1 ∧ ∀ T, ¬ DC s l b d m T) := by
  rcases h with ⟨h1, h2, h3⟩ | ⟨h1, rfl⟩
  · exact .inl ⟨by have := (h1.bd hs).2; omega, h1, fun T hT => (h3 T hT).1⟩
  · exact .inr ⟨rfl, h1⟩
theorem wit_l1 {s : E23} {l : List E72} (hs : StrOk s) {b d : Nat} {v : E94} (hv : AnsIs s l b d v) (hc : ∃ m T, DC s l b d m T) (x1 x2 x3 x4 : Int) (R : TY27) :
    ∃ T i, G17_l1_run ((x1, (x2, (3200, (0, (x3, (x4, (v.1, (0, ())))))))), R.2) = some (0, ((x1, (x2, (T, (0, (x3, (x4, (v.1, (i, ())))))))), R.2)) ∧ LeastT s l b d T := by
  unfold G17_l1_run
  obtain ⟨q, e, T, i, rfl, h1, h0, h2, h3⟩ := iter_inv (step := G17_l1_step) (k := 0) (n := 41)
    (fun i st => ∃ T : Int, st = ((x1, (x2, (T, (0, (x3, (x4, (v.1, ((i : Int), ())))))))), R.2) ∧ T ≤ 3200 ∧ 0 ≤ T ∧ (∀ j, j < i → 0 ≤ (v.1.getD j (0, (0, ()))).1 → T ≤ (v.1.getD j (0, (0, ()))).1) ∧ (T = 3200 ∨ ∃ j, j < i ∧ (v.1.getD j (0, (0, ()))).1 = T))
    (fun st => ∃ T i : Int, st = ((x1, (x2, (T, (0, (x3, (x4, (v.1, (i, ())))))))), R.2) ∧ T ≤ 3200 ∧ 0 ≤ T ∧ (∀ j, j < 41 → 0 ≤ (v.1.getD j (0, (0, ()))).1 → T ≤ (v.1.getD j (0, (0, ()))).1) ∧ (T = 3200 ∨ ∃ j, j < 41 ∧ (v.1.getD j (0, (0, ()))).1 = T))
    (by
      rintro i st ⟨T, rfl, h1, h0, h2, h3⟩ hi
      unfold G17_l1_step
      have e0 : decide ((i : Int) < 41) = true := decide_eq_true (by omega)
      simp only [e0, ge0, Bool.and_self, cond_true, getD_toNat, wr1 (i := i) (by omega)]
      by_cases hq : 0 ≤ (v.1.getD i (0, (0, ()))).1
      · rw [decide_eq_true (p := (v.1.getD i (0, (0, ()))).1 ≥ 0) hq, cond_true]
        refine ⟨_, rfl, _, rfl, ?_, ?_, fun j hj hj0 => ?_, ?_⟩
        · split <;> omega
        · split <;> omega
        · rcases Nat.lt_succ_iff_lt_or_eq.1 hj with h | h
          · have := h2 j h hj0
            split <;> omega
          · subst h; split <;> omega
        · split
          · exact .inr ⟨i, by omega, rfl⟩
          · rcases h3 with h | ⟨j, hj, h⟩
            · exact .inl h
            · exact .inr ⟨j, by omega, h⟩
      · rw [decide_eq_false (p := (v.1.getD i (0, (0, ()))).1 ≥ 0) hq, cond_false]
        refine ⟨_, rfl, T, rfl, h1, h0, fun j hj hj0 => ?_, ?_⟩
        · rcases Nat.lt_succ_iff_lt_or_eq.1 hj with h | h
          · exact h2 j h hj0
          · subst h; exact absurd hj0 hq
        · rcases h3 with h | ⟨j, hj, h⟩
          · exact .inl h
          · exact .inr ⟨j, by omega, h⟩)
    (by
      rintro st ⟨T, rfl, h1, h0, h2, h3⟩
      unfold G17_l1_step
      have e0 : decide (((41 : Nat) : Int) < 41) = false := by decide
      simp only [e0, cond_false]
      exact ⟨_, rfl, T, _, rfl, h1, h0, h2, h3⟩)
    41 0 (G17_l1_fuel ((x1, (x2, (3200, (0, (x3, (x4, (v.1, (0, ())))))))), R.2)) ((x1, (x2, (3200, (0, (x3, (x4, (v.1, (0, ())))))))), R.2) (by omega) (by unfold G17_l1_fuel; simp) ⟨3200, rfl, by omega, by omega, fun j hj => absurd hj (by omega), .inl rfl⟩
  refine ⟨T, i, e, ?_⟩
  have hle : ∀ m T', DC s l b d m T' → T ≤ T' := by
    intro m T' hT'
    obtain ⟨k, hk, rfl⟩ := rate_k (hT'.bd hs).1
    rcases (hv.span k hk).low hs with ⟨a1, a2, a3⟩ | ⟨_, a2⟩
    · have := a3 T' hT'
      have := h2 k hk a1
      omega
    · exact absurd hT' (a2 T')
  refine ⟨?_, hle⟩
  rcases h3 with rfl | ⟨j, hj, h⟩
  · obtain ⟨m, T', hT'⟩ := hc
    have h4 := hle m T' hT'
    have h5 := (hT'.bd hs).2
    have : T' = 3200 := by omega
    subst this
    exact ⟨m, hT'⟩
  · rcases (hv.span j hj).low hs with ⟨a1, a2, a3⟩ | ⟨a1, _⟩
    · rw [h] at a2
      exact ⟨_, a2⟩
    · omega
theorem wit_l2 {s : E23} {l : List E72} (hs : StrOk s) {b d : Nat} {v : E94} (hv : AnsIs s l b d v) {T : Int} (hT : LeastT s l b d T) (x1 x2 x3 x4 : Int) (R : TY27) :
    ∃ m i, G17_l2_run ((x1, (x2, (T, (0, (x3, (x4, (v.1, (0, ())))))))), R.2) = some (0, ((x1, (x2, (T, (m, (x3, (x4, (v.1, (i, ())))))))), R.2)) ∧ LeastR s l b d T m := by
  unfold G17_l2_run
  have key := iter_fn (step := G17_l2_step) (n := 41) (k1 := 0) (k2 := 0) (fuel := G17_l2_fuel ((x1, (x2, (T, (0, (x3, (x4, (v.1, (0, ())))))))), R.2))
    (bad := fun i => (v.1.getD i (0, (0, ()))).1 == T)
    (fun i => ((x1, (x2, (T, (0, (x3, (x4, (v.1, ((i : Int), ())))))))), R.2)) (fun i => ((x1, (x2, (T, ((i : Int) - 20, (x3, (x4, (v.1, ((i : Int), ())))))))), R.2)) ((x1, (x2, (T, (0, (x3, (x4, (v.1, (((41 : Nat) : Int), ())))))))), R.2) (fun i hi => by
      unfold G17_l2_step
      have e0 : decide ((i : Int) < 41) = true := decide_eq_true (by omega)
      simp only [e0, ge0, Bool.and_self, cond_true, getD_toNat, wr1 (i := i) (by omega)]
      rw [wr (n := (i : Int) - 20) (by omega) (by omega)]
      cases (v.1.getD i (0, (0, ()))).1 == T <;> rfl) (by
      unfold G17_l2_step
      have e0 : decide (((41 : Nat) : Int) < 41) = false := by decide
      simp only [e0, cond_false]) (by unfold G17_l2_fuel; simp)
  have hbd := (hT.1.choose_spec.bd hs).2
  rcases key with ⟨j, hj, hb, hbef, he⟩ | ⟨hall, he⟩
  · refine ⟨_, _, he, ?_⟩
    have hb' : (v.1.getD j (0, (0, ()))).1 = T := by simpa using hb
    constructor
    · rcases (hv.span j hj).low hs with ⟨a1, a2, a3⟩ | ⟨a1, _⟩
      · rwa [hb'] at a2
      · omega
    · intro m hm
      obtain ⟨k, hk, rfl⟩ := rate_k (hm.bd hs).1
      rcases (hv.span k hk).low hs with ⟨a1, a2, a3⟩ | ⟨_, a2⟩
      · have h4 := a3 T hm
        have h5 := hT.2 _ _ a2
        by_cases hkj : k < j
        · have := beq_eq_false_iff_ne.1 (hbef k hkj)
          omega
        · omega
      · exact absurd hm (a2 _)
  · exfalso
    obtain ⟨m, hm⟩ := hT.1
    obtain ⟨k, hk, rfl⟩ := rate_k (hm.bd hs).1
    rcases (hv.span k hk).low hs with ⟨a1, a2, a3⟩ | ⟨_, a2⟩
    · have h4 := a3 T hm
      have h5 := hT.2 _ _ a2
      have := beq_eq_false_iff_ne.1 (hall k hk)
      omega
    · exact absurd hm (a2 _)
def DrSo (s : E23) (l : List E72) (b : Nat) (Ts Rs L : List Int) (p : Nat → Prop) : Prop := ∀ i, i < (s.2.2.2.2.1).length → p i → LeastD s l b i (Ts.getD (atN s i) 0) (Rs.getD (atN s i) 0) (L.getD i 0)
theorem wit_l3 {s : E23} {l : List E72} (hs : StrOk s) (hl : RdsOk s l) (hn : l.length ≤ 1000) {b d : Nat} (hb : b < 2 ^ 62) (hd : d < (s.2.2.2.1).toNat) {T m : Int} (hDC : DC s l b d m T) (c : E26) (z : E30) (s' : E23) (M : List (E56 × E94)) (L Ts Rs : List Int) (hL : L.length = (s.2.2.2.2.1).length) (ans : E94) (x3 x4 : Int) (hT : Ts.getD d 0 = T) (hR : Rs.getD d 0 = m)
    (h : DrSo s l b Ts Rs L fun i => atN s i < d) :
    ∃ L', G17_l3_run (((b : Int), ((d : Int), (T, (m, (x3, (x4, ((s.2.2.2.2.1), (((s.2.2.2.2.1).length : Int), (0, ()))))))))), (s, (c, (z, (s', (M, (XX s l, (L, ((Ts, (Rs, ((s.2.2.2.2.1).length, ()))), (ans, ())))))))))) = some (0, (((b : Int), ((d : Int), (T, (m, (x3, (x4, ((s.2.2.2.2.1), (((s.2.2.2.2.1).length : Int), (((s.2.2.2.2.1).length : Int), ()))))))))), (s, (c, (z, (s', (M, (XX s l, (L', ((Ts, (Rs, ((s.2.2.2.2.1).length, ()))), (ans, ()))))))))))) ∧ L'.length = (s.2.2.2.2.1).length ∧ DrSo s l b Ts Rs L' (fun i => atN s i < d + 1) := by
  unfold G17_l3_run
  have hlen := hs.len
  obtain ⟨q, e, L', rfl, h1, h2⟩ := iter_inv (step := G17_l3_step) (k := 0) (n := (s.2.2.2.2.1).length)
    (fun i st => ∃ L' : List Int, st = (((b : Int), ((d : Int), (T, (m, (x3, (x4, ((s.2.2.2.2.1), (((s.2.2.2.2.1).length : Int), ((i : Int), ()))))))))), (s, (c, (z, (s', (M, (XX s l, (L', ((Ts, (Rs, ((s.2.2.2.2.1).length, ()))), (ans, ())))))))))) ∧ L'.length = (s.2.2.2.2.1).length ∧ DrSo s l b Ts Rs L' (fun j => atN s j < d ∨ (j < i ∧ atN s j = d)))
    (fun st => ∃ L' : List Int, st = (((b : Int), ((d : Int), (T, (m, (x3, (x4, ((s.2.2.2.2.1), (((s.2.2.2.2.1).length : Int), (((s.2.2.2.2.1).length : Int), ()))))))))), (s, (c, (z, (s', (M, (XX s l, (L', ((Ts, (Rs, ((s.2.2.2.2.1).length, ()))), (ans, ())))))))))) ∧ L'.length = (s.2.2.2.2.1).length ∧ DrSo s l b Ts Rs L' (fun i => atN s i < d + 1))
    (by
      rintro i st ⟨L', rfl, h1, h2⟩ hi
      obtain ⟨ha, ha'⟩ := at_ok hs hi
      unfold G17_l3_step
      simp only [lt_int hi, ge0, Bool.and_self, cond_true, getD_toNat, wr1 (i := i) (by omega), Int.toNat_natCast]
      by_cases he : (s.2.2.2.2.1).getD i 0 = (d : Int)
      · rw [beq_iff_eq.2 he, cond_true]
        have hbd := hDC.bd hs
        rcases drift_eq hs hl hn (i := i) (b := b) (by omega) hb (T := T) (m := m) (by omega) (by omega) with ⟨q, q1, q2, q3, q4, q5⟩ | ⟨q1, _⟩
        · rw [show G55 ((XX s l).1, ((XX s l).2.1, ((), (XX s l).2.2.2))) (i : Int) (b : Int) T m = _ from q5]
          have e1 : decide (i < L'.length) = true := decide_eq_true (by omega)
          simp only [Option.bind_some, e1, cond_true]
          refine ⟨_, rfl, _, rfl, by rw [List.length_set]; exact h1, fun j hj hp => ?_⟩
          rw [set_getD _ _ _ _ _ (by omega)]
          by_cases hji : j = i
          · subst hji
            rw [if_pos rfl]
            have e3 : atN s j = d := by omega
            rw [e3, hT, hR]
            refine ⟨⟨q1, q2⟩, q3, fun q' a1 a2 a3 => ?_⟩
            apply Classical.byContradiction
            intro hq
            rw [q4 q' a1 (by omega)] at a2
            cases a2
          · rw [if_neg hji]
            refine h2 j hj ?_
            rcases hp with hp | ⟨hp, hp'⟩
            · exact .inl hp
            · exact .inr ⟨by omega, hp'⟩
        · obtain ⟨q, a1, a2, a3⟩ := hDC.2.2 i hi he
          rw [q1 q a1 a2] at a3
          cases a3
      · rw [beq_eq_false_iff_ne.2 he, cond_false]
        refine ⟨_, rfl, L', rfl, h1, fun j hj hp => h2 j hj ?_⟩
        rcases hp with hp | ⟨hp, hp'⟩
        · exact .inl hp
        · rcases Nat.lt_succ_iff_lt_or_eq.1 hp with h | h
          · exact .inr ⟨h, hp'⟩
          · subst h; omega)
    (by
      rintro st ⟨L', rfl, h1, h2⟩
      unfold G17_l3_step
      simp only [nlt_int, cond_false]
      refine ⟨_, rfl, L', rfl, h1, fun j hj hp => h2 j hj ?_⟩
      have : atN s j < d ∨ atN s j = d := by omega
      rcases this with h | h
      · exact .inl h
      · exact .inr ⟨hj, h⟩)
    (s.2.2.2.2.1).length 0 (G17_l3_fuel (((b : Int), ((d : Int), (T, (m, (x3, (x4, ((s.2.2.2.2.1), (((s.2.2.2.2.1).length : Int), (0, ()))))))))), (s, (c, (z, (s', (M, (XX s l, (L, ((Ts, (Rs, ((s.2.2.2.2.1).length, ()))), (ans, ())))))))))))
    (((b : Int), ((d : Int), (T, (m, (x3, (x4, ((s.2.2.2.2.1), (((s.2.2.2.2.1).length : Int), (0, ()))))))))), (s, (c, (z, (s', (M, (XX s l, (L, ((Ts, (Rs, ((s.2.2.2.2.1).length, ()))), (ans, ()))))))))))
    (by omega) (by unfold G17_l3_fuel; simp) ⟨L, rfl, hL, fun j hj hp => h j hj (by omega)⟩
  exact ⟨L', e, h1, h2⟩
structure WitAt (s : E23) (l : List E72) (b d : Nat) (Ts Rs : List Int) : Prop where
  t : LeastT s l b d (Ts.getD d 0)
  r : LeastR s l b d (Ts.getD d 0) (Rs.getD d 0)
theorem getD_snoc {α : Type} (xs : List α) (x d : α) (j : Nat) : (xs ++ [x]).getD j d = if j < xs.length then xs.getD j d else if j = xs.length then x else d := by
  simp only [List.getD_eq_getElem?_getD]
  by_cases h : j < xs.length
  · rw [if_pos h, List.getElem?_append_left h]
  · rw [if_neg h, List.getElem?_append_right (by omega)]
    by_cases h2 : j = xs.length
    · subst h2; simp
    · rw [if_neg h2, List.getElem?_eq_none (by simp; omega)]; rfl
structure WitIs (s : E23) (l : List E72) (b : Nat) (t : E30) : Prop where
  lt : (t.1).length = (s.2.2.2.1).toNat
  lr : (t.2.1).length = (s.2.2.2.1).toNat
  ld : (t.2.2.1).length = (s.2.2.2.2.1).length
  at_ : ∀ d, d < (s.2.2.2.1).toNat → WitAt s l b d (t.1) (t.2.1)
  dr : DrSo s l b (t.1) (t.2.1) (t.2.2.1) fun _ => True
theorem wit_l0 {s : E23} {l : List E72} (hs : StrOk s) (hl : RdsOk s l) (hn : l.length ≤ 1000) {b : Nat} (hb : b < 2 ^ 62) (hE : Ex s l b) (c : E26) (z : E30) (s' : E23) {M : List (E56 × E94)} (hM : MemoOk s l M) :
    ∃ q, G17_l0_run (((b : Int), (s.2.2.2.1, (0, ()))), (s, (c, (z, (s', (M, (XX s l, (List.replicate (s.2.2.2.2.1).length 0, (([], ([], ((s.2.2.2.2.1).length, ()))), ()))))))))) = some (0, q) ∧ ∃ k M' L Ts Rs, q = (((b : Int), (s.2.2.2.1, (k, ()))), (s, (c, (z, (s', (M', (XX s l, (L, ((Ts, (Rs, ((s.2.2.2.2.1).length, ()))), ()))))))))) ∧ WitIs s l b (Ts, (Rs, (L, ()))) := by
  unfold G17_l0_run
  have hlen := hs.len
  have hdep := hs.depths
  refine iter_inv (step := G17_l0_step) (k := 0) (n := (s.2.2.2.1).toNat)
    (fun d st => ∃ M' L Ts Rs, st = (((b : Int), (s.2.2.2.1, ((d : Int), ()))), (s, (c, (z, (s', (M', (XX s l, (L, ((Ts, (Rs, ((s.2.2.2.2.1).length, ()))), ()))))))))) ∧ MemoOk s l M' ∧ L.length = (s.2.2.2.2.1).length ∧ Ts.length = d ∧ Rs.length = d ∧ (∀ j, j < d → WitAt s l b j Ts Rs) ∧ DrSo s l b Ts Rs L fun i => atN s i < d)
    (fun q => ∃ k M' L Ts Rs, q = (((b : Int), (s.2.2.2.1, (k, ()))), (s, (c, (z, (s', (M', (XX s l, (L, ((Ts, (Rs, ((s.2.2.2.2.1).length, ()))), ()))))))))) ∧ WitIs s l b (Ts, (Rs, (L, ()))))
    (by
      rintro d st ⟨M', L, Ts, Rs, rfl, hM', h1, h2, h3, h4, h5⟩ hd
      obtain ⟨v, M2, e1, e2, e3⟩ := depth_eq hs hl hn hb (d := d) (by omega) hM'
      obtain ⟨T, i, f1, f2⟩ := wit_l1 hs e2 (hE d (by omega)) (b : Int) (d : Int) (s.2.2.2.1) (d : Int) ((0, (0, (0, (0, (0, (0, ([], (0, ()))))))) ), (s, (c, (z, (s', (M2, (XX s l, (L, ((Ts, (Rs, ((s.2.2.2.2.1).length, ()))), (v, ()))))))))))
      obtain ⟨m, i2, g1, g2⟩ := wit_l2 hs e2 f2 (b : Int) (d : Int) (s.2.2.2.1) (d : Int) ((0, (0, (0, (0, (0, (0, ([], (0, ()))))))) ), (s, (c, (z, (s', (M2, (XX s l, (L, ((Ts, (Rs, ((s.2.2.2.2.1).length, ()))), (v, ()))))))))))
      have hT : (Ts ++ [T]).getD d 0 = T := by rw [getD_snoc, if_neg (by omega), if_pos (by omega)]
      have hR : (Rs ++ [m]).getD d 0 = m := by rw [getD_snoc, if_neg (by omega), if_pos (by omega)]
      have old : ∀ j, j < d → (Ts ++ [T]).getD j 0 = Ts.getD j 0 ∧ (Rs ++ [m]).getD j 0 = Rs.getD j 0 := fun j hj => ⟨by rw [getD_snoc, if_pos (by omega)], by rw [getD_snoc, if_pos (by omega)]⟩
      obtain ⟨L', k1, k2, k3⟩ := wit_l3 hs hl hn hb hd g2.1 c z s' M2 L (Ts ++ [T]) (Rs ++ [m]) h1 v (s.2.2.2.1) (d : Int) hT hR (fun i hi hp => by
        rw [(old _ hp).1, (old _ hp).2]; exact h5 i hi hp)
      have hlt : decide ((d : Int) < s.2.2.2.1) = true := decide_eq_true (by omega)
      unfold G17_l0_step
      simp only [hlt, cond_true, wr1 (i := d) (by omega)]
      rw [show G54 (d : Int) (b : Int) ((XX s l).1, ((XX s l).2.1, ((), (XX s l).2.2.2))) M' = _ from e1]
      simp only [Option.bind_some]
      rw [show G17_l1_run (((b : Int), ((d : Int), (3200, (0, (s.2.2.2.1, ((d : Int), (v.1, (0, ())))))))), (s, (c, (z, (s', (M2, (((XX s l).1, ((XX s l).2.1, ((), (XX s l).2.2.2))), (L, ((Ts, (Rs, ((s.2.2.2.2.1).length, ()))), (v, ())))))))))) = _ from f1]
      simp only [Option.bind_some]
      rw [show G17_l2_run (((b : Int), ((d : Int), (T, (0, (s.2.2.2.1, ((d : Int), (v.1, (0, ())))))))), (s, (c, (z, (s', (M2, (((XX s l).1, ((XX s l).2.1, ((), (XX s l).2.2.2))), (L, ((Ts, (Rs, ((s.2.2.2.2.1).length, ()))), (v, ())))))))))) = _ from g1]
      simp only [Option.bind_some, lim_ok (n := Ts.length) (m := List.length [T]) (by omega) (by simp), lim_ok (n := Rs.length) (m := List.length [m]) (by omega) (by simp), cond_true]
      rw [show G17_l3_run (((b : Int), ((d : Int), (T, (m, (s.2.2.2.1, ((d : Int), ((s.2.2.2.2.1), (((s.2.2.2.2.1).length : Int), (0, ()))))))))), (s, (c, (z, (s', (M2, (((XX s l).1, ((XX s l).2.1, ((), (XX s l).2.2.2))), (L, (((Ts ++ [T]), ((Rs ++ [m]), ((s.2.2.2.2.1).length, ()))), (v, ()))))))))) ) = _ from k1]
      simp only [Option.bind_some, wr1 (i := d) (by omega)]
      refine ⟨_, rfl, M2, L', Ts ++ [T], Rs ++ [m], rfl, e3, k2, by simp [h2], by simp [h3], fun j hj => ?_, k3⟩
      rcases Nat.lt_succ_iff_lt_or_eq.1 hj with h | h
      · have := h4 j h
        exact ⟨by rw [(old j h).1]; exact this.t, by rw [(old j h).1, (old j h).2]; exact this.r⟩
      · subst h
        exact ⟨by rw [hT]; exact f2, by rw [hT, hR]; exact g2⟩)
    (by
      rintro st ⟨M', L, Ts, Rs, rfl, hM', h1, h2, h3, h4, h5⟩
      have hlt : decide ((((s.2.2.2.1).toNat : Nat) : Int) < s.2.2.2.1) = false := decide_eq_false (by omega)
      unfold G17_l0_step
      simp only [hlt, cond_false]
      exact ⟨_, rfl, _, M', L, Ts, Rs, rfl, h2, h3, h1, h4, fun i hi _ => h5 i hi (at_ok hs hi).2⟩)
    (s.2.2.2.1).toNat 0 (G17_l0_fuel (((b : Int), (s.2.2.2.1, (0, ()))), (s, (c, (z, (s', (M, (XX s l, (List.replicate (s.2.2.2.2.1).length 0, (([], ([], ((s.2.2.2.2.1).length, ()))), ()))))))))))
    (((b : Int), (s.2.2.2.1, (0, ()))), (s, (c, (z, (s', (M, (XX s l, (List.replicate (s.2.2.2.2.1).length 0, (([], ([], ((s.2.2.2.2.1).length, ()))), ())))))))))
    (by omega) (by unfold G17_l0_fuel; simp only; omega) ⟨M, _, [], [], rfl, hM, by simp, rfl, rfl, fun j hj => absurd hj (by omega), fun i hi hp => absurd hp (by omega)⟩
theorem switness_eq (s : E23) (l : List E72) (c : E26) (h0 : l.length < 2 ^ 62) (h1 : (c.1).length < 2 ^ 62) (h2 : (c.2.1).length < 2 ^ 62) :
    (24 < l.length ∧ G17 s l c = some (([], ([], ([], ()))), (3, ()))) ∨ (l.length ≤ 24 ∧ ¬ (SlOk s l ∧ CauseOk s c) ∧ G17 s l c = some (([], ([], ([], ()))), (2, ()))) ∨ (SlOk s l ∧ CauseOk s c ∧ ((¬ Ex s l (bitsOf s c) ∧ G17 s l c = some (([], ([], ([], ()))), (5, ()))) ∨ (Ex s l (bitsOf s c) ∧ ∃ t, G17 s l c = some (t, (0, ())) ∧ WitIs s l (bitsOf s c) t))) := by
  unfold G17
  rw [given1_eq]
  rcases given_eq s l c h0 h1 h2 with ⟨h, e⟩ | ⟨h, h', e⟩ | ⟨hsl, hc, e⟩
  · rw [e]; exact .inl ⟨h, rfl⟩
  · rw [e]; exact .inr (.inl ⟨h, h', rfl⟩)
  · rw [e]
    refine .inr (.inr ⟨hsl, hc, ?_⟩)
    have hn : l.length ≤ 1000 := by have := hsl.1; omega
    have hlen := hsl.2.1.len
    rcases bits_eq hsl.2.1 l c h1 h2 with ⟨_, eb, hb⟩ | ⟨hn, _⟩
    · obtain ⟨r, M', ee, hr, hM'⟩ := explains_eq hsl.2.1 hsl.2.2 hn hb (memo_nil s l)
      simp only [Option.bind_some, altK]
      rw [show G51 ((XX s l).1, ((XX s l).2.1, ((), (XX s l).2.2.2))) c = _ from eb]
      have e0 : ((0 : Int) != 0) = false := rfl
      simp only [e0, cond_false, Option.bind_some]
      rw [show G52 (bitsOf s c : Int) ((XX s l).1, ((XX s l).2.1, ((), (XX s l).2.2.2))) [] = _ from ee]
      simp only [Option.bind_some]
      cases r with
      | false => exact .inl ⟨fun h => (by have := hr.2 h; cases this), rfl⟩
      | true =>
        have hE := hr.1 rfl
        refine .inr ⟨hE, ?_⟩
        obtain ⟨q, f1, k, M2, L, Ts, Rs, rfl, hw⟩ := wit_l0 hsl.2.1 hsl.2.2 hn hb hE c ([], ([], ([], ()))) s hM'
        have e1 : (decide ((0 : Int) ≤ ((s.2.2.2.2.1).length : Int)) && decide (((s.2.2.2.2.1).length : Int) ≤ (LIM : Int)) && decide (((s.2.2.2.2.1).length : Int) = ((s.2.2.2.2.1).length : Int))) = true := by
          have : (LIM : Int) ≥ 100000 := by decide
          simp; omega
        simp only [Bool.not_true, cond_false, e1, cond_true, Int.toNat_natCast]
        rw [show G17_l0_run (((bitsOf s c : Int), (s.2.2.2.1, (0, ()))), (s, (c, (([], ([], ([], ()))), (s, (M', (((XX s l).1, ((XX s l).2.1, ((), (XX s l).2.2.2))), (List.replicate (s.2.2.2.2.1).length 0, (([], ([], ((s.2.2.2.2.1).length, ()))), ()))))))))) = _ from f1]
        have hL : L.length = (s.2.2.2.2.1).length := hw.ld
        simp only [Option.bind_some, hL, Nat.le_refl, decide_true, Bool.and_true, cond_true]
        have e2 : (decide ((0 : Int) ≤ ((s.2.2.2.2.1).length : Int)) && decide (((s.2.2.2.2.1).length : Int) ≤ (LIM : Int))) = true := by simpa using e1
        have : List.take (s.2.2.2.2.1).length L = L := by rw [← hL, List.take_length]
        rw [this]
        refine ⟨_, ?_, hw⟩
        first | rfl | (rw [e2]; rfl)
    · exact absurd hc hn
end Go.Proofs.YtibmgbalfhfcdaaDoor.Abs
set_option linter.unusedVariables false
set_option linter.unusedSimpArgs false
set_option maxRecDepth 100000
namespace Go.Proofs.YtibmgbalfhfcdaaDoor.Abs
open Classical
def Own (t : E30) (c : E26) : Prop := (∀ i, i < (t.2.2.1).length → (t.2.2.1).getD i 0 ≠ 0 → (i : Int) ∈ c.1) ∧ (∀ k, k < (t.2.1).length → (t.2.1).getD k 0 ≠ 0 → (k : Int) ∈ c.2.1)
theorem own_tells (t : E30) (c : E26) (h1 : (t.2.2.1).length < 2 ^ 62) (h2 : (t.2.1).length < 2 ^ 62) (h3 : (c.1).length < 2 ^ 62) (h4 : (c.2.1).length < 2 ^ 62) : Tells (G38 t c) (Own t c) := by
  unfold G38
  have key0 := iter_fn (step := G38_l0_step) (n := (t.2.2.1).length) (k1 := 0) (k2 := 1) (fuel := G38_l0_fuel ((false, (0, ())), (t, (c, ()))))
    (bad := fun i => decide ((t.2.2.1).getD i 0 ≠ 0 ∧ (i : Int) ∉ c.1))
    (fun i => ((false, ((i : Int), ())), (t, (c, ())))) (fun i => ((false, ((i : Int), ())), (t, (c, ())))) ((false, (((t.2.2.1).length : Int), ())), (t, (c, ()))) (fun i hi => by
      unfold G38_l0_step
      simp only [lt_int hi, ge0, Bool.and_self, cond_true, getD_toNat, wr1 (i := i) (by omega)]
      by_cases hz : (t.2.2.1).getD i 0 = 0
      · rw [beqn_f hz, cond_false]
        have : decide ((t.2.2.1).getD i 0 ≠ 0 ∧ (i : Int) ∉ c.1) = false := decide_eq_false fun h => h.1 hz
        rw [this]; rfl
      · rw [beqn_t hz, cond_true]
        by_cases hm : (i : Int) ∈ c.1
        · rw [(has_tells _ _ h3).val hm]
          have : decide ((t.2.2.1).getD i 0 ≠ 0 ∧ (i : Int) ∉ c.1) = false := decide_eq_false fun h => h.2 hm
          rw [this]; rfl
        · rw [(has_tells _ _ h3).nval hm]
          have : decide ((t.2.2.1).getD i 0 ≠ 0 ∧ (i : Int) ∉ c.1) = true := decide_eq_true ⟨hz, hm⟩
          rw [this]; rfl) (by
      unfold G38_l0_step
      simp only [nlt_int, cond_false]) (by unfold G38_l0_fuel; simp)
  rcases key0 with ⟨j, hj, hb, _, he⟩ | ⟨hall, he⟩
  · rw [show G38_l0_run ((false, (0, ())), (t, (c, ()))) = _ from he]
    have := of_decide_eq_true hb
    exact tells_f fun h => this.2 (h.1 j hj this.1)
  rw [show G38_l0_run ((false, (0, ())), (t, (c, ()))) = _ from he]
  simp only [Option.bind_some, natK]
  have key1 := iter_fn (step := G38_l1_step) (n := (t.2.1).length) (k1 := 0) (k2 := 1) (fuel := G38_l1_fuel ((false, (0, ())), (t, (c, ()))))
    (bad := fun i => decide ((t.2.1).getD i 0 ≠ 0 ∧ (i : Int) ∉ c.2.1))
    (fun i => ((false, ((i : Int), ())), (t, (c, ())))) (fun i => ((false, ((i : Int), ())), (t, (c, ())))) ((false, (((t.2.1).length : Int), ())), (t, (c, ()))) (fun i hi => by
      unfold G38_l1_step
      simp only [lt_int hi, ge0, Bool.and_self, cond_true, getD_toNat, wr1 (i := i) (by omega)]
      by_cases hz : (t.2.1).getD i 0 = 0
      · rw [beqn_f hz, cond_false]
        have : decide ((t.2.1).getD i 0 ≠ 0 ∧ (i : Int) ∉ c.2.1) = false := decide_eq_false fun h => h.1 hz
        rw [this]; rfl
      · rw [beqn_t hz, cond_true]
        by_cases hm : (i : Int) ∈ c.2.1
        · rw [(has_tells _ _ h4).val hm]
          have : decide ((t.2.1).getD i 0 ≠ 0 ∧ (i : Int) ∉ c.2.1) = false := decide_eq_false fun h => h.2 hm
          rw [this]; rfl
        · rw [(has_tells _ _ h4).nval hm]
          have : decide ((t.2.1).getD i 0 ≠ 0 ∧ (i : Int) ∉ c.2.1) = true := decide_eq_true ⟨hz, hm⟩
          rw [this]; rfl) (by
      unfold G38_l1_step
      simp only [nlt_int, cond_false]) (by unfold G38_l1_fuel; simp)
  rcases key1 with ⟨j, hj, hb, _, he⟩ | ⟨hall1, he⟩
  · rw [show G38_l1_run ((false, (0, ())), (t, (c, ()))) = _ from he]
    have := of_decide_eq_true hb
    exact tells_f fun h => this.2 (h.2 j hj this.1)
  · rw [show G38_l1_run ((false, (0, ())), (t, (c, ()))) = _ from he]
    refine tells_t ⟨fun i hi hz => ?_, fun i hi hz => ?_⟩
    · have := of_decide_eq_false (hall i hi)
      exact Classical.byContradiction fun hm => this ⟨hz, hm⟩
    · have := of_decide_eq_false (hall1 i hi)
      exact Classical.byContradiction fun hm => this ⟨hz, hm⟩
theorem rising_mem {L : List Int} {B x : Int} (h : Rising L B) (hx : x ∈ L) : 0 ≤ x ∧ x < B := by
  obtain ⟨i, hi, rfl⟩ := mem_getD.1 hx
  exact (h i hi).1
theorem bit_s {s : E23} {c : E26} (hc : CauseOk s c) {i : Nat} (hi : i < (s.2.2.2.2.1).length) : (bitsOf s c).testBit i = decide ((i : Int) ∈ c.1) := by
  rw [bitsOf_bit hc]
  have : decide ((s.2.2.2.2.1).length ≤ i ∧ ((i - (s.2.2.2.2.1).length : Nat) : Int) ∈ c.2.1) = false := decide_eq_false fun h => by omega
  rw [this, Bool.or_false]
theorem bit_d {s : E23} {c : E26} (hc : CauseOk s c) (d : Nat) : (bitsOf s c).testBit ((s.2.2.2.2.1).length + d) = decide ((d : Int) ∈ c.2.1) := by
  rw [bitsOf_bit hc]
  have h1 : decide ((((s.2.2.2.2.1).length + d : Nat) : Int) ∈ c.1) = false := decide_eq_false fun h => by have := rising_mem hc.1 h; omega
  have h2 : (s.2.2.2.2.1).length + d - (s.2.2.2.2.1).length = d := by omega
  rw [h1, h2, Bool.false_or, decide_eq_decide]
  exact ⟨fun h => h.2, fun h => ⟨by omega, h⟩⟩
theorem moS_c {s : E23} {c : E26} (hc : CauseOk s c) {i : Nat} (hi : i < (s.2.2.2.2.1).length) : moS s (bitsOf s c) i = if (i : Int) ∈ c.1 then s.2.1 else 0 := by
  unfold moS
  rw [bit_s hc hi]
  by_cases h : (i : Int) ∈ c.1
  · rw [decide_eq_true h, if_pos h]; rfl
  · rw [decide_eq_false h, if_neg h]; rfl
theorem moD_c {s : E23} {c : E26} (hc : CauseOk s c) (d : Nat) : moD s (bitsOf s c) d = if (d : Int) ∈ c.2.1 then s.2.2.1 else 0 := by
  unfold moD
  rw [bit_d hc]
  by_cases h : (d : Int) ∈ c.2.1
  · rw [decide_eq_true h, if_pos h]; rfl
  · rw [decide_eq_false h, if_neg h]; rfl
structure For (s : E23) (l : List E72) (b : Nat) (t : E30) : Prop where
  lt : (t.1).length = (s.2.2.2.1).toNat
  lr : (t.2.1).length = (s.2.2.2.1).toNat
  ld : (t.2.2.1).length = (s.2.2.2.2.1).length
  ft : ∀ d, d < (s.2.2.2.1).toNat → 2000 ≤ (t.1).getD d 0 ∧ (t.1).getD d 0 ≤ 3200
  fr : ∀ d, d < (s.2.2.2.1).toNat → -(moD s b d) ≤ (t.2.1).getD d 0 ∧ (t.2.1).getD d 0 ≤ moD s b d
  fd : ∀ i, i < (s.2.2.2.2.1).length → (-(moS s b i) ≤ (t.2.2.1).getD i 0 ∧ (t.2.2.1).getD i 0 ≤ moS s b i) ∧ agr s l i ((t.1).getD (atN s i) 0) ((t.2.1).getD (atN s i) 0 + (t.2.2.1).getD i 0) = true
theorem For.dc {s : E23} {l : List E72} {b : Nat} {t : E30} (h : For s l b t) {d : Nat} (hd : d < (s.2.2.2.1).toNat) : DC s l b d ((t.2.1).getD d 0) ((t.1).getD d 0) :=
  ⟨h.fr d hd, h.ft d hd, fun i hi he => by
    have e : atN s i = d := by unfold atN; rw [he]; simp
    have := h.fd i hi
    rw [e] at this
    exact ⟨_, this.1.1, this.1.2, this.2⟩⟩
theorem For.ex {s : E23} {l : List E72} {b : Nat} {t : E30} (h : For s l b t) : Ex s l b := fun d hd => ⟨_, _, h.dc (d := d) (by omega)⟩
theorem ag_iff {s : E23} {l : List E72} (hl : RdsOk s l) (t : E30) : Ag s l t ↔ ∀ i : Nat, i < (s.2.2.2.2.1).length → agr s l i ((t.1).getD (atN s i) 0) ((t.2.1).getD (atN s i) 0 + (t.2.2.1).getD i 0) = true := by
  constructor
  · intro h i hi
    unfold agr
    rw [List.all_eq_true]
    intro r hr
    by_cases he : r.1 = (i : Int)
    · have := h r hr
      unfold AgR at this
      rw [he, Int.toNat_natCast] at this
      rw [this, Bool.or_true]
    · rw [beq_eq_false_iff_ne.2 he]; rfl
  · intro h r hr
    obtain ⟨i, he, hi⟩ := rd_i (hl r hr)
    have := h i hi
    unfold agr at this
    rw [List.all_eq_true] at this
    have := this r hr
    rw [beq_iff_eq.2 he] at this
    unfold AgR
    rw [he, Int.toNat_natCast]
    simpa using this
theorem for_iff {s : E23} {l : List E72} (hs : StrOk s) (hl : RdsOk s l) {c : E26} (hc : CauseOk s c) (t : E30) : For s l (bitsOf s c) t ↔ TrOk s t ∧ Own t c ∧ Ag s l t := by
  have hw := hs.warm
  have hdr := hs.drift
  have hfl : ∀ (l : List Int) (a b : Int), (∀ i, i < l.length → a ≤ l.getD i 0 ∧ l.getD i 0 ≤ b) → ∀ x ∈ l, a ≤ x ∧ x ≤ b := fun l a b h => (forall_getD 0).1 h
  constructor
  · intro h
    refine ⟨⟨h.lt, h.lr, h.ld, hfl _ _ _ fun i hi => h.ft i (by have := h.lt; omega), hfl _ _ _ fun i hi => ?_, hfl _ _ _ fun i hi => ?_⟩, ⟨fun i hi hz => ?_, fun d hd hz => ?_⟩, (ag_iff hl t).2 fun i hi => (h.fd i hi).2⟩
    · have := h.fr i (by have := h.lr; omega)
      rw [moD_c hc] at this
      split at this <;> omega
    · have := (h.fd i (by have := h.ld; omega)).1
      rw [moS_c hc (by have := h.ld; omega)] at this
      split at this <;> omega
    · have := (h.fd i (by have := h.ld; omega)).1
      rw [moS_c hc (by have := h.ld; omega)] at this
      split at this
      · assumption
      · omega
    · have := h.fr d (by have := h.lr; omega)
      rw [moD_c hc] at this
      split at this
      · assumption
      · omega
  · rintro ⟨h1, h2, h3⟩
    refine ⟨h1.lt, h1.lr, h1.ld, fun d hd => h1.t_ hd, fun d hd => ?_, fun i hi => ⟨?_, (ag_iff hl t).1 h3 i hi⟩⟩
    · have := h1.r_ hd
      rw [moD_c hc]
      split
      · omega
      · rename_i hn
        have : (t.2.1).getD d 0 = 0 := Classical.byContradiction fun hz => hn (h2.2 d (by have := h1.lr; omega) hz)
        omega
    · have := h1.d_ hi
      rw [moS_c hc hi]
      split
      · omega
      · rename_i hn
        have : (t.2.2.1).getD i 0 = 0 := Classical.byContradiction fun hz => hn (h2.1 i (by have := h1.ld; omega) hz)
        omega
theorem WitIs.for_ {s : E23} {l : List E72} (hs : StrOk s) {b : Nat} {t : E30} (h : WitIs s l b t) : For s l b t :=
  ⟨h.lt, h.lr, h.ld, fun d hd => ((h.at_ d hd).r.1.bd hs).2, fun d hd => (h.at_ d hd).r.1.1, fun i hi => ⟨(h.dr i hi trivial).1, (h.dr i hi trivial).2.1⟩⟩
inductive Pos
  | t (k : Nat)
  | r (k : Nat)
  | d (i : Nat)
def Pos.val (t : E30) : Pos → Int
  | .t k => (t.1).getD k 0
  | .r k => (t.2.1).getD k 0
  | .d i => (t.2.2.1).getD i 0
def Pos.need (s : E23) : Pos → List Pos
  | .t _ => []
  | .r k => [.t k]
  | .d i => [.t (atN s i), .r (atN s i)]
def Pos.ok (s : E23) : Pos → Prop
  | .t k => k < (s.2.2.2.1).toNat
  | .r k => k < (s.2.2.2.1).toNat
  | .d i => i < (s.2.2.2.2.1).length
def rowI (s : E23) (k : Nat) : Nat → List Pos
  | 0 => []
  | i + 1 => rowI s k i ++ (if atN s i = k then [.d i] else [])
def rowO (s : E23) : Nat → List Pos
  | 0 => []
  | k + 1 => rowO s k ++ [.t k, .r k] ++ rowI s k (s.2.2.2.2.1).length
def Cl (s : E23) (P : List Pos) : Prop := ∀ A x B, P = A ++ x :: B → ∀ y ∈ x.need s, y ∈ A
theorem cl_nil (s : E23) : Cl s [] := fun A x B h => by simp at h
theorem cl_snoc {s : E23} {P : List Pos} (h : Cl s P) {z : Pos} (hz : ∀ y ∈ z.need s, y ∈ P) : Cl s (P ++ [z]) := by
  intro A x B e y hy
  rcases List.eq_nil_or_concat B with rfl | ⟨B', w, rfl⟩
  · obtain ⟨rfl, e2⟩ := List.append_inj' e rfl
    simp only [List.cons.injEq, and_true] at e2
    subst e2
    exact hz y hy
  · rw [List.concat_eq_append] at e
    rw [show A ++ x :: (B' ++ [w]) = (A ++ x :: B') ++ [w] by simp] at e
    obtain ⟨rfl, _⟩ := List.append_inj' e rfl
    exact h A x B' rfl y hy
theorem rowI_ok (s : E23) (k : Nat) (P : List Pos) (h : Cl s P) (h1 : Pos.t k ∈ P) (h2 : Pos.r k ∈ P) (hp : ∀ x ∈ P, x.ok s) : ∀ i, i ≤ (s.2.2.2.2.1).length → Cl s (P ++ rowI s k i) ∧ (∀ x ∈ P ++ rowI s k i, x.ok s) ∧ (P ++ rowI s k i).length ≤ P.length + i
  | 0, _ => by simp only [rowI, List.append_nil]; exact ⟨h, hp, Nat.le_refl _⟩
  | i + 1, hi => by
    obtain ⟨a1, a2, a3⟩ := rowI_ok s k P h h1 h2 hp i (by omega)
    simp only [rowI]
    split
    · rename_i he
      rw [← List.append_assoc]
      refine ⟨cl_snoc a1 fun y hy => ?_, fun x hx => ?_, by simp only [List.length_append, List.length_singleton] at a3 ⊢; omega⟩
      · simp only [Pos.need, List.mem_cons, List.not_mem_nil, or_false] at hy
        rw [he] at hy
        rcases hy with rfl | rfl
        · exact List.mem_append_left _ h1
        · exact List.mem_append_left _ h2
      · rcases List.mem_append.1 hx with hx | hx
        · exact a2 x hx
        · simp only [List.mem_singleton] at hx; subst hx; exact (show i < (s.2.2.2.2.1).length by omega)
    · rw [List.append_nil]; exact ⟨a1, a2, by omega⟩
theorem rowO_ok (s : E23) : ∀ k, k ≤ (s.2.2.2.1).toNat → Cl s (rowO s k) ∧ (∀ x ∈ rowO s k, x.ok s) ∧ (rowO s k).length ≤ k * ((s.2.2.2.2.1).length + 2)
  | 0, _ => ⟨cl_nil s, by simp [rowO], by simp [rowO]⟩
  | k + 1, hk => by
    obtain ⟨a1, a2, a3⟩ := rowO_ok s k (by omega)
    simp only [rowO]
    have b1 : Cl s (rowO s k ++ [.t k]) := cl_snoc a1 fun y hy => by simp [Pos.need] at hy
    have b2 : Cl s (rowO s k ++ [.t k] ++ [.r k]) := cl_snoc b1 fun y hy => by
      simp only [Pos.need, List.mem_singleton] at hy; subst hy; simp
    rw [List.append_assoc] at b2
    obtain ⟨c1, c2, c3⟩ := rowI_ok s k (rowO s k ++ [.t k, .r k]) b2 (by simp) (by simp) (fun x hx => by
      rcases List.mem_append.1 hx with hx | hx
      · exact a2 x hx
      · simp only [List.mem_cons, List.not_mem_nil, or_false] at hx
        rcases hx with rfl | rfl
        · exact (show k < _ by omega)
        · exact (show k < _ by omega)) (s.2.2.2.2.1).length (Nat.le_refl _)
    refine ⟨c1, c2, Nat.le_trans c3 ?_⟩
    simp only [List.length_append, List.length_cons, List.length_nil]
    rw [Nat.succ_mul]
    omega
def rowP (s : E23) (t : E30) : List Int := (rowO s (s.2.2.2.1).toNat).map (Pos.val t)
theorem row_eq {s : E23} {t : E30} (hs : StrOk s) (h1 : (t.1).length = (s.2.2.2.1).toNat) (h2 : (t.2.1).length = (s.2.2.2.1).toNat) (h3 : (t.2.2.1).length = (s.2.2.2.2.1).length) : G40 s t = some (rowP s t) := by
  have hlen := hs.len
  have hdep := hs.depths
  have hbig : ∀ k, k ≤ (s.2.2.2.1).toNat → (rowO s k).length ≤ 40 := fun k hk => by
    have := (rowO_ok s k hk).2.2
    have h4 : k * ((s.2.2.2.2.1).length + 2) ≤ 4 * 8 := Nat.mul_le_mul (by omega) (by omega)
    omega
  unfold G40
  have inner : ∀ k, k < (s.2.2.2.1).toNat → ∀ L : List Int, L.length ≤ 100 → G40_l1_run ((L, ((k : Int), (0, ()))), (s, (t, ()))) = some (0, ((L ++ (rowI s k (s.2.2.2.2.1).length).map (Pos.val t), ((k : Int), (((s.2.2.2.2.1).length : Int), ()))), (s, (t, ())))) := by
    intro k hk L hL
    have hI : ∀ i, (rowI s k i).length ≤ i := by
      intro i
      induction i with
      | zero => simp [rowI]
      | succ i ih => simp only [rowI, List.length_append]; split <;> simp <;> omega
    have := iter_run (step := G40_l1_step) (n := (s.2.2.2.2.1).length) (k := 0) (fuel := G40_l1_fuel ((L, ((k : Int), (0, ()))), (s, (t, ()))))
      (fun i => ((L ++ (rowI s k i).map (Pos.val t), ((k : Int), ((i : Int), ()))), (s, (t, ())))) ((L ++ (rowI s k (s.2.2.2.2.1).length).map (Pos.val t), ((k : Int), (((s.2.2.2.2.1).length : Int), ()))), (s, (t, ()))) (fun i hi => by
        obtain ⟨ha, ha'⟩ := at_ok hs hi
        unfold G40_l1_step
        simp only [lt_int hi, ge0, Bool.and_self, cond_true, getD_toNat, wr1 (i := i) (by omega), lt_int (show i < t.2.2.1.length by omega)]
        by_cases he : atN s i = k
        · rw [beq_iff_eq.2 (show (s.2.2.2.2.1).getD i 0 = (k : Int) by omega), cond_true, lim_ok (by simp only [List.length_append, List.length_map]; have := hI i; omega) (by simp), cond_true]
          simp only [rowI, if_pos he, List.map_append, List.map_cons, List.map_nil, List.append_assoc]
          rfl
        · rw [beq_eq_false_iff_ne.2 (show (s.2.2.2.2.1).getD i 0 ≠ (k : Int) by omega), cond_false]
          simp only [rowI, if_neg he, List.append_nil]) (by
        unfold G40_l1_step
        simp only [nlt_int, cond_false]) (by unfold G40_l1_fuel; simp)
    simp only [rowI, List.map_nil, List.append_nil] at this
    exact this
  have := iter_run (step := G40_l0_step) (n := (s.2.2.2.1).toNat) (k := 0) (fuel := G40_l0_fuel (([], (0, ())), (s, (t, ()))))
    (fun k => (((rowO s k).map (Pos.val t), ((k : Int), ())), (s, (t, ())))) ((rowP s t, ((((s.2.2.2.1).toNat : Nat) : Int), ())), (s, (t, ()))) (fun k hk => by
      unfold G40_l0_step
      have hlt : decide ((k : Int) < s.2.2.2.1) = true := decide_eq_true (by omega)
      have hb := hbig k (by omega)
      simp only [hlt, ge0, Bool.and_self, cond_true, getD_toNat, lt_int (show k < t.1.length by omega), lt_int (show k < t.2.1.length by omega)]
      rw [lim_ok (by simp only [List.length_map]; omega) (by simp), cond_true, inner k hk _ (by simp only [List.length_append, List.length_map, List.length_cons, List.length_nil]; omega)]
      simp only [Option.bind_some, wr1 (i := k) (by omega), rowO, List.map_append, List.map_cons, List.map_nil]
      rfl) (by
      unfold G40_l0_step
      have hlt : decide ((((s.2.2.2.1).toNat : Nat) : Int) < s.2.2.2.1) = false := decide_eq_false (by omega)
      simp only [hlt, cond_false]; rfl) (by unfold G40_l0_fuel; simp only; omega)
  rw [show G40_l0_run (([], (0, ())), (s, (t, ()))) = _ from this]
  rfl
theorem row_len {s : E23} (t : E30) : (rowP s t).length = (rowO s (s.2.2.2.1).toNat).length := by unfold rowP; rw [List.length_map]
theorem lex {s : E23} {l : List E72} (hs : StrOk s) {b : Nat} {t t' : E30} (h : WitIs s l b t) (h' : For s l b t') {j : Nat} (hj : j < (rowP s t).length) (hb : ∀ i, i < j → (rowP s t).getD i 0 = (rowP s t').getD i 0) : (rowP s t).getD j 0 ≤ (rowP s t').getD j 0 := by
  obtain ⟨c1, c2, _⟩ := rowO_ok s (s.2.2.2.1).toNat (Nat.le_refl _)
  rw [row_len] at hj
  unfold rowP at hb ⊢
  generalize rowO s (s.2.2.2.1).toNat = P at hj hb c1 c2 ⊢
  have hm : ∀ (t : E30) i (hi : i < P.length), (P.map (Pos.val t)).getD i 0 = (P[i]).val t := fun t i hi => by
    rw [List.getD_eq_getElem?_getD, List.getElem?_map, List.getElem?_eq_getElem hi]; rfl
  rw [hm t j hj, hm t' j hj]
  have hsplit : P = P.take j ++ P[j] :: P.drop (j + 1) := by
    rw [List.getElem_cons_drop]; simp
  have hpre : ∀ y ∈ P.take j, y.val t = y.val t' := by
    intro y hy
    obtain ⟨i, hi, rfl⟩ := List.mem_iff_getElem.1 hy
    rw [List.length_take] at hi
    rw [List.getElem_take, ← hm t i (by omega), ← hm t' i (by omega)]
    exact hb i (by omega)
  have hneed := c1 _ _ _ hsplit
  have hok := c2 P[j] (List.getElem_mem hj)
  generalize P[j] = x at hneed hok ⊢
  cases x with
  | t k => exact (h.at_ k hok).t.2 _ _ (h'.dc hok)
  | r k =>
    have e1 : (t.1).getD k 0 = (t'.1).getD k 0 := hpre _ (hneed (.t k) (by simp [Pos.need]))
    refine (h.at_ k hok).r.2 _ ?_
    rw [e1]
    exact h'.dc hok
  | d i =>
    have e1 : (t.1).getD (atN s i) 0 = (t'.1).getD (atN s i) 0 := hpre _ (hneed (.t (atN s i)) (by simp [Pos.need]))
    have e2 : (t.2.1).getD (atN s i) 0 = (t'.2.1).getD (atN s i) 0 := hpre _ (hneed (.r (atN s i)) (by simp [Pos.need]))
    have h1 := h.dr i hok trivial
    have h2 := h'.fd i hok
    refine h1.2.2 _ h2.1.1 ?_ h2.1.2
    rw [e1, e2]; exact h2.2
end Go.Proofs.YtibmgbalfhfcdaaDoor.Abs
set_option linter.unusedVariables false
set_option linter.unusedSimpArgs false
set_option maxRecDepth 100000
namespace Go.Proofs.YtibmgbalfhfcdaaDoor.Abs
open Classical
attribute [local irreducible] G15
theorem shown_loop {s : E23} {l : List E72} (hs : StrOk s) {b : Nat} {t t' : E30} (h : WitIs s l b t) (own : Bool) (h' : own = true → For s l b t') (a0 : E23) (a2 : E26) (a3 a4 : E30) (hlen : (rowP s t).length ≤ 100) :
    ∃ k q, G9_l0_run ((false, (own, (rowP s t, (rowP s t', (0, ()))))), (a0, (a2, (a3, (a4, ()))))) = some (k, q) ∧ (k = 0 → q.1.1 = true) := by
  unfold G9_l0_run
  have hlen' : (rowP s t').length = (rowP s t).length := by rw [row_len, row_len]
  have key := iter_fn (step := G9_l0_step) (n := (rowP s t).length) (k1 := 0) (k2 := 1) (fuel := G9_l0_fuel ((false, (own, (rowP s t, (rowP s t', (0, ()))))), (a0, (a2, (a3, (a4, ()))))))
    (bad := fun i => (rowP s t).getD i 0 != (rowP s t').getD i 0)
    (fun i => ((false, (own, (rowP s t, (rowP s t', ((i : Int), ()))))), (a0, (a2, (a3, (a4, ())))))) (fun i => ((decide (own = true → (rowP s t).getD i 0 < (rowP s t').getD i 0), (own, (rowP s t, (rowP s t', ((i : Int), ()))))), (a0, (a2, (a3, (a4, ())))))) ((false, (own, (rowP s t, (rowP s t', (((rowP s t).length : Int), ()))))), (a0, (a2, (a3, (a4, ()))))) (fun i hi => by
      unfold G9_l0_step
      simp only [lt_int hi, ge0, Bool.and_self, cond_true, getD_toNat, wr1 (i := i) (by omega), lt_int (show i < (rowP s t').length by omega)]
      cases hb : (rowP s t).getD i 0 != (rowP s t').getD i 0 with
      | false => simp only [cond_false]
      | true =>
        simp only [cond_true, known_ok, Option.bind_some]
        cases own with
        | false => simp
        | true =>
          simp only [Bool.not_true, cond_false]
          by_cases hlt : (rowP s t).getD i 0 < (rowP s t').getD i 0
          · rw [decide_eq_true hlt, cond_true, decide_eq_true (fun _ => hlt)]
          · rw [decide_eq_false hlt, cond_false, decide_eq_false (fun hh => hlt (hh trivial))]) (by
      unfold G9_l0_step
      simp only [nlt_int, cond_false]) (by unfold G9_l0_fuel; simp)
  rcases key with ⟨j, hj, hb, hbef, he⟩ | ⟨hall, he⟩
  · refine ⟨0, _, he, fun _ => decide_eq_true fun ho => ?_⟩
    have h1 := lex hs h (h' ho) hj fun i hi => by simpa using hbef i hi
    have h2 : (rowP s t).getD j 0 ≠ (rowP s t').getD j 0 := by simpa using hb
    omega
  · exact ⟨1, _, he, fun hh => absurd hh (by decide)⟩
attribute [local irreducible] G22 G21 G13 G39 G38 G16 G17 G40 G18 G12 G9_l0_run
theorem law9 (s : E23) (l : List E72) (c : E26) (o : E30) : G9 s l c o = some true := by
  unfold G9
  by_cases h1 : (s.2.2.2.2.1).length ≤ 12 ∧ l.length ≤ 29
  case neg =>
    rw [short_tells, decide_eq_false h1]
    simp only [Option.bind_some, Bool.not_false, cond_true, known_ok]
  simp only [short_tells, decide_eq_true h1, Option.bind_some, Bool.not_true, cond_false]
  by_cases h2 : Sized c o
  case neg =>
    simp only [(sized_tells _ _).nval h2, Option.bind_some, Bool.not_false, cond_true, known_ok]
  simp only [(sized_tells _ _).val h2, Option.bind_some, Bool.not_true, cond_false]
  have t1 := h2.tt
  have t2 := h2.tr
  have t3 := h2.td
  have t4 := h2.s
  have t5 := h2.d
  rcases wanted_eq s l (by omega) (by omega) with ⟨hl, e⟩ | ⟨hl, hn, e⟩ | ⟨hsl, e⟩
  · rw [e]; simp only [Option.bind_some, known_ok]; rfl
  · rw [e]; simp only [Option.bind_some, known_ok]; rfl
  rw [e]
  have e0 : ((0 : Int) != 0) = false := rfl
  simp only [Option.bind_some, e0, cond_false]
  have hs := hsl.2.1
  have hsl1 := hsl.1
  by_cases hc : CauseOk s c
  case neg =>
    simp only [(rcause_tells hs c (by omega) (by omega)).nval hc, Option.bind_some, Bool.not_false, cond_true, known_ok]
  simp only [(rcause_tells hs c (by omega) (by omega)).val hc, Option.bind_some, Bool.not_true, cond_false]
  by_cases ho : TrOk s o
  case neg =>
    simp only [(truth_tells hs o).nval ho, Option.bind_some, Bool.not_false, cond_true, known_ok]
  simp only [(truth_tells hs o).val ho, Option.bind_some, Bool.not_true, cond_false]
  have hrow : ∀ t, (rowP s t).length ≤ 100 := fun t => by
    rw [row_len]
    have := (rowO_ok s (s.2.2.2.1).toNat (Nat.le_refl _)).2.2
    have hdep := hs.depths
    have hlen := hs.len
    have h4 : (s.2.2.2.1).toNat * ((s.2.2.2.2.1).length + 2) ≤ 4 * 8 := Nat.mul_le_mul (by omega) (by omega)
    omega
  obtain ⟨ob, eo, hob⟩ := own_tells o c (by omega) (by omega) (by omega) (by omega)
  obtain ⟨ab, ea, hab⟩ := ragrees_tells hs hsl.2.2 (by omega) ho
  have ex : ∃ b, G16 s l c = some (b, (0, ())) ∧ (b = true ↔ Ex s l (bitsOf s c)) := by
    rcases sexplains_eq s l c (by omega) (by omega) (by omega) with ⟨h, _⟩ | ⟨_, h, _⟩ | ⟨_, _, h⟩
    · omega
    · exact absurd ⟨hsl, hc⟩ h
    · exact h
  obtain ⟨xb, ex, hxb⟩ := ex
  have wi : ((¬ Ex s l (bitsOf s c) ∧ G17 s l c = some (([], ([], ([], ()))), (5, ()))) ∨ (Ex s l (bitsOf s c) ∧ ∃ t, G17 s l c = some (t, (0, ())) ∧ WitIs s l (bitsOf s c) t)) := by
    rcases switness_eq s l c (by omega) (by omega) (by omega) with ⟨h, _⟩ | ⟨_, h, _⟩ | ⟨_, _, h⟩
    · omega
    · exact absurd ⟨hsl, hc⟩ h
    · exact h
  have hfor : ob = true → ab = true → For s l (bitsOf s c) o := fun h h' => (for_iff hs hsl.2.2 hc o).2 ⟨ho, hob.1 h, hab.1 h'⟩
  rw [ex, eo]
  simp only [Option.bind_some, e0, cond_false]
  rcases wi with ⟨hne, ew⟩ | ⟨hE, t, ew, hw⟩
  · have hxf : xb = false := by cases xb with | true => exact absurd (hxb.1 rfl) hne | false => rfl
    subst hxf
    rw [ew]
    have e5 : ((5 : Int) != 0) = true := rfl
    have e5' : ((5 : Int) == 5) = true := rfl
    have e50 : ((5 : Int) == 0) = false := rfl
    simp only [Option.bind_some, e5, e5', e50, cond_true, beq_self_eq_true, Bool.not_true, cond_false, known_ok]
    cases ob with
    | false => rfl
    | true =>
      simp only [cond_true, ea, Option.bind_some]
      cases ab with
      | false => rfl
      | true => exact absurd (hfor rfl rfl).ex hne
  · have hxt : xb = true := hxb.2 hE
    subst hxt
    rw [ew]
    have hf := hw.for_ hs
    obtain ⟨g1, g2, g3⟩ := (for_iff hs hsl.2.2 hc t).1 hf
    have l1 := g1.lt
    have l2 := g1.lr
    have l3 := g1.ld
    have hdep := hs.depths
    have hlen := hs.len
    have sa : G39 s l t = some (true, (0, ())) := by
      rcases sagrees_eq s l t (by omega) (by omega) (by omega) (by omega) with ⟨h, _⟩ | ⟨_, h, _⟩ | ⟨_, _, b, h, hb⟩
      · omega
      · exact absurd ⟨hsl, g1⟩ h
      · rw [h, hb.2 g3]
    have r1 := row_eq hs hw.lt hw.lr hw.ld
    have r2 := row_eq hs ho.lt ho.lr ho.ld
    have e00 : ((0 : Int) == 0) = true := rfl
    simp only [Option.bind_some, e0, e00, cond_true, beq_self_eq_true, Bool.not_true, cond_false, (truth_tells hs t).val g1, (own_tells t c (by omega) (by omega) (by omega) (by omega)).val g2, sa, r1, r2]
    cases ob with
    | false =>
      obtain ⟨k, q, f1, f2⟩ := shown_loop hs hw (t' := o) false (fun h => by cases h) s c o t (hrow t)
      simp only [cond_false]
      rw [f1]
      cases k with
      | zero => simp only [Option.bind_some, natK, f2 rfl]
      | succ k => simp only [Option.bind_some, natK, known_ok]
    | true =>
      simp only [cond_true, ea, Option.bind_some]
      obtain ⟨k, q, f1, f2⟩ := shown_loop hs hw (t' := o) ab (fun h => hfor rfl h) s c o t (hrow t)
      rw [f1]
      cases k with
      | zero => simp only [Option.bind_some, natK, f2 rfl]
      | succ k => simp only [Option.bind_some, natK, known_ok]
theorem G9_true : ∀ x : Els [.dat T23, .dat (.list T72), .dat T26, .dat T30], wfs [.dat T23, .dat (.list T72), .dat T26, .dat T30] x → G9 x.1 x.2.1 x.2.2.1 x.2.2.2.1 = some true := fun x _ => law9 _ _ _ _
end Go.Proofs.YtibmgbalfhfcdaaDoor.Abs
set_option linter.unusedVariables false
set_option maxRecDepth 100000
namespace Go.Proofs.YtibmgbalfhfcdaaDoor.Abs.senseShown
open Go.ChangeShapes Go.WideShapes Go.RowKit
theorem own : ownKnob Tryd.prog.godebug = none := by kernel_rfl
theorem laidOut : laidOutB Tryd.prog = true := by kernel_rfl
theorem gTab : Tryd.prog.globalNamed "internal/strconv.uint64pow10" = some 0 := by kernel_rfl
theorem gTabType : (Tryd.prog.globals[0]?).map (·.type) = some 171 := by kernel_rfl
theorem cellsT : Tryd.prog.cellsOf 171 = 20 := by kernel_rfl
theorem cellsE : Tryd.prog.cellsOf 162 = 1 := by kernel_rfl
theorem undT : Tryd.prog.underlying 171 = some (.array 20 162) := by kernel_rfl
theorem undE : Tryd.prog.underlying 162 = some (.int .u64) := by kernel_rfl
theorem table {W : World} (h : laidMetH Tryd.prog Rows.senseShownRow.laid W) : Lib.TabIs Tryd.prog W "internal/strconv.uint64pow10" .u64 [1, 10, 100, 1000, 10000, 100000, 1000000, 10000000, 100000000, 1000000000, 10000000000, 100000000000, 1000000000000, 10000000000000, 100000000000000, 1000000000000000, 10000000000000000, 100000000000000000, 1000000000000000000, 10000000000000000000] :=
  Lib.tabIs_of_head (rest := []) gTab gTabType undT undE cellsE cellsT (laidMet.tail (laidMet.tail (h)))
theorem tabOk {W : World} (h : laidMetH Tryd.prog Rows.senseShownRow.laid W) : ∀ q ∈ TABS, ∃ e fr, W.heap[q.1]? = some (.cells q.2 e fr) := by
  have ht := table h
  unfold Lib.TabIs World.var? at ht
  rw [gTab] at ht
  simp only [Option.bind_some] at ht
  intro q hq
  have hq' : q = (0, _) := List.mem_singleton.1 hq
  subst hq'
  show ∃ e fr, W.heap[0]? = _
  split at ht
  · rename_i cs e fr hc
    exact ⟨e, fr, by rw [hc]; simp only [Option.some.injEq] at ht; rw [ht]; rfl⟩
  · cases ht
noncomputable def laidWorld (os : Os) : World :=
  { World.holding Tryd.prog os ⟨#[], #[], []⟩ with heap := ((((World.holding Tryd.prog os ⟨#[], #[], []⟩).heap.modify 2 fun | .cells _ t frozen => .cells #[.int .u8 0, .int .u8 1, .int .u8 28, .int .u8 2, .int .u8 29, .int .u8 14, .int .u8 24, .int .u8 3, .int .u8 30, .int .u8 22, .int .u8 20, .int .u8 15, .int .u8 25, .int .u8 17, .int .u8 4, .int .u8 8, .int .u8 31, .int .u8 27, .int .u8 13, .int .u8 23, .int .u8 21, .int .u8 19, .int .u8 16, .int .u8 7, .int .u8 26, .int .u8 12, .int .u8 18, .int .u8 6, .int .u8 11, .int .u8 5, .int .u8 10, .int .u8 9] t frozen | o => o).modify 3 fun | .cells _ t frozen => .cells #[.int .u8 0, .int .u8 1, .int .u8 56, .int .u8 2, .int .u8 57, .int .u8 49, .int .u8 28, .int .u8 3, .int .u8 61, .int .u8 58, .int .u8 42, .int .u8 50, .int .u8 38, .int .u8 29, .int .u8 17, .int .u8 4, .int .u8 62, .int .u8 47, .int .u8 59, .int .u8 36, .int .u8 45, .int .u8 43, .int .u8 51, .int .u8 22, .int .u8 53, .int .u8 39, .int .u8 33, .int .u8 30, .int .u8 24, .int .u8 18, .int .u8 12, .int .u8 5, .int .u8 63, .int .u8 55, .int .u8 48, .int .u8 27, .int .u8 60, .int .u8 41, .int .u8 37, .int .u8 16, .int .u8 46, .int .u8 35, .int .u8 44, .int .u8 21, .int .u8 52, .int .u8 32, .int .u8 23, .int .u8 11, .int .u8 54, .int .u8 26, .int .u8 40, .int .u8 15, .int .u8 34, .int .u8 20, .int .u8 31, .int .u8 10, .int .u8 25, .int .u8 14, .int .u8 19, .int .u8 9, .int .u8 13, .int .u8 8, .int .u8 7, .int .u8 6] t frozen | o => o).modify 0 fun | .cells _ t frozen => .cells #[.int .u64 1, .int .u64 10, .int .u64 100, .int .u64 1000, .int .u64 10000, .int .u64 100000, .int .u64 1000000, .int .u64 10000000, .int .u64 100000000, .int .u64 1000000000, .int .u64 10000000000, .int .u64 100000000000, .int .u64 1000000000000, .int .u64 10000000000000, .int .u64 100000000000000, .int .u64 1000000000000000, .int .u64 10000000000000000, .int .u64 100000000000000000, .int .u64 1000000000000000000, .int .u64 10000000000000000000] t frozen | o => o) }
theorem laid_met (os : Os) : laidMet Tryd.prog Rows.senseShownRow.laid ((laidWorld os).forCall (fun _ _ => 0) ⟨#[], #[(Value.agg #[.int .i64 0, .int .i64 0, .int .i64 0, .int .i64 0, .slice none 0 0]), (Value.slice none 0 0), (Value.agg #[.slice none 0 0, .slice none 0 0]), (Value.agg #[.slice none 0 0, .slice none 0 0, .slice none 0 0])], []⟩).memory :=
  laidMet_of_run' 8 (by kernel_rfl) (by kernel_rfl)
theorem reads (os : Os) {H : Type} (enc : TypeId × Value → H) : ∃ places, DataW.whole enc Tryd.prog ((laidWorld os).forCall (fun _ _ => 0) ⟨#[], #[(Value.agg #[.int .i64 0, .int .i64 0, .int .i64 0, .int .i64 0, .slice none 0 0]), (Value.slice none 0 0), (Value.agg #[.slice none 0 0, .slice none 0 0]), (Value.agg #[.slice none 0 0, .slice none 0 0, .slice none 0 0])], []⟩).memory Tryd.f9.params.toList Rows.senseShownSpec.vars false #[(Value.agg #[.int .i64 0, .int .i64 0, .int .i64 0, .int .i64 0, .slice none 0 0]), (Value.slice none 0 0), (Value.agg #[.slice none 0 0, .slice none 0 0]), (Value.agg #[.slice none 0 0, .slice none 0 0, .slice none 0 0])].toList 16 = some ([.agg [.lit (.int .i64 0), .lit (.int .i64 0), .lit (.int .i64 0), .lit (.int .i64 0), .nil], .nil, .agg [.nil, .nil], .agg [.nil, .nil, .nil]], [], places) :=
  ⟨[], by kernel_rfl⟩
theorem spec_fn (H : Type) : (ds : List (DataW H)) → ds.length = Tryd.f9.params.toList.length → (Rows.senseShownSpec.fn H ds).results = [.lit (.bool true)] ∧ (Rows.senseShownSpec.fn H ds).args = ds ∧ (Rows.senseShownSpec.fn H ds).vars = []
  | [], h => by rw [show Tryd.f9.params.toList.length = 4 from by kernel_rfl] at h; simp at h
  | [d0], h => by rw [show Tryd.f9.params.toList.length = 4 from by kernel_rfl] at h; simp at h
  | [d0, d1], h => by rw [show Tryd.f9.params.toList.length = 4 from by kernel_rfl] at h; simp at h
  | [d0, d1, d2], h => by rw [show Tryd.f9.params.toList.length = 4 from by kernel_rfl] at h; simp at h
  | [d0, d1, d2, d3], _ => ⟨rfl, rfl, rfl⟩
  | d0 :: d1 :: d2 :: d3 :: _ :: _, h => by rw [show Tryd.f9.params.toList.length = 4 from by kernel_rfl] at h; simp at h
theorem contract (H : Type) (enc : TypeId × Value → H) (W : World) (base : Nat) (args : Array Value) (ds gs : List (DataW H)) (before : List MemPlace)
    (hval : ∀ (j : Nat) t v, Tryd.f9.params[j]? = some t → args[j]? = some v → Value.okWide Tryd.prog W .any base t v)
    (hW : DataW.Whole enc Tryd.prog Tryd.f9.params.toList Rows.senseShownSpec.vars false W args.toList ds gs before) (hL : laidMetH Tryd.prog Rows.senseShownRow.laid W) :
    Calls Tryd.prog 9 args W fun e W' => ∃ v, e = .returned v ∧ Rows.senseShownSpec.post enc Tryd.prog Tryd.f9 false true false false W args v W' :=
  law_contract (n := 20) (fun x r h => G9_lcall x r h) (fun x hx => G9_true x hx) (by decide) (show Tryd.f9.resultTypes = #[4] by kernel_rfl) (by kernel_rfl) (by kernel_rfl) laidOut (by
    intro t ht
    have : (Tryd.f9.params.toList.all fun t => Tryd.prog.readableRec t && decide (t < Tryd.prog.types.size)) = true := by kernel_rfl
    have := List.all_eq_true.1 this t ht
    simpa using this) rfl spec_fn hval hW (tabOk hL)
theorem lifted (os : Os) (started : os.Started) (H : Type) (enc : TypeId × Value → H) (F : Stop.Interp) :
    ReturnsInHanded {} Tryd.checked os 9 .any ((OpenSpec.ofChange Rows.senseShownSpec).preRow enc Tryd.prog Tryd.f9 Rows.senseShownRow.domain false Rows.senseShownRow.laid) (((OpenSpec.ofChange Rows.senseShownSpec).at F).post enc Tryd.prog Tryd.f9 false true false false) := by
  obtain ⟨places, hx⟩ := reads os enc
  refine returnsInHanded_of_row (C := Tryd.checked) (s := OpenSpec.ofChange Rows.senseShownSpec) own started (by kernel_rfl) Tryd.func9
    (witness_row_at (enc := enc) (C := Tryd.checked) false (laidWorld os) #[(Value.agg #[.int .i64 0, .int .i64 0, .int .i64 0, .int .i64 0, .slice none 0 0]), (Value.slice none 0 0), (Value.agg #[.slice none 0 0, .slice none 0 0]), (Value.agg #[.slice none 0 0, .slice none 0 0, .slice none 0 0])] rfl (by kernel_rfl) (by kernel_rfl) (by kernel_rfl)
      (OpenSpec.preRow_of_cond 16 hx (by kernel_rfl) (fun k hk => by cases hk) (by kernel_rfl) (laid_met os))) ?_
  intro W base args ds gs before hval hW _ _ _ hL _ _
  exact contract H enc W base args ds gs before hval hW hL
theorem said : Rows.SenseShownSaid :=
  OpenClaim.holds_of_cond 9 Tryd.f9 rfl rfl rfl rfl rfl rfl rfl ⟨rfl, rfl, rfl, rfl, rfl⟩ rfl rfl rfl rfl rfl (by kernel_rfl) Tryd.func9 (by kernel_rfl)
    (of_decide_eq_true (by kernel_rfl)) (by unfold Func.isWrapper; first | (rw [if_pos (by decide +kernel)]; kernel_rfl) | (rw [if_neg (by decide +kernel)]; exact ⟨rfl, rfl⟩))
    (fun os started H enc _ F => by rw [OpenClaim.pre_eq_preRow]; exact lifted os started H enc F)
theorem plain (f : FuncId) (fn : Func) (hf : Tryd.pinned.checked.prog.funcNamed "talik/taliklaw05.SenseShown" = some f) (hfn : Tryd.pinned.checked.prog.funcs[f]? = some fn) :
    false = Tryd.pinned.checked.prog.looks [] ∧ ∀ (j : Nat) t, fn.params[j]? = some t → Tryd.pinned.checked.prog.wantsStandIn t = false := by
  obtain rfl : f = 9 := Option.some.inj ((show Tryd.prog.funcNamed "talik/taliklaw05.SenseShown" = some 9 by kernel_rfl).symm.trans hf) |>.symm
  obtain rfl : fn = Tryd.f9 := (Option.some.inj (Tryd.func9.symm.trans hfn)).symm
  refine ⟨by kernel_rfl, fun j t ht => ?_⟩
  have h : (Tryd.f9.params.toList.all fun t => !Tryd.prog.wantsStandIn t) = true := by kernel_rfl
  have := List.all_eq_true.1 h t (by rw [← Array.getElem?_toList] at ht; exact List.mem_of_getElem? ht)
  exact (show Tryd.prog.wantsStandIn t = false by simpa using this)
theorem card : Rows.SenseShownCardSaid :=
  Claim7.holds_tied_plain_at .later [] _ _ _ _ said (fun _ h => by cases h) (by kernel_rfl) (fun _ h => by cases h) senseShown_row_tie rfl ⟨rfl, rfl⟩ (by kernel_rfl) rfl plain (by kernel_rfl)
end Go.Proofs.YtibmgbalfhfcdaaDoor.Abs.senseShown
namespace Go.Proofs.YtibmgbalfhfcdaaDoor
theorem senseShown_card : Rows.SenseShownCardSaid := Abs.senseShown.card
end Go.Proofs.YtibmgbalfhfcdaaDoor
