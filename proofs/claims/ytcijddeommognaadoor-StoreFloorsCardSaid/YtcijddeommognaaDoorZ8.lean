import Derived.Test.YtcijddeommognaaDoorF3
import Derived.Test.YtcijddeommognaaDoorCards
import Derived.Test.YtcijddeommognaaDoorTie
import Derived.Test.YtcijddeommognaaDoorA3
import Derived.WalkKit
import Derived.ProofKit
import Derived.OpenShut
import Derived.Deep.DeepHandedRow
import Derived.Lib.LaidTab
import Derived.Stop.LaidErr
/-
  A law of the store layer as a typed function. Printed by a program of mine (gen.py).
-/
set_option linter.unusedVariables false
set_option maxRecDepth 100000
namespace Go.Proofs.YtcijddeommognaaDoor.Abs
open Go.Shelf Go.Sort
noncomputable def g8_taliklaw06_StoreFloors_C : CalT := tabC [g15_taliklaw06_short_E, g20_taliklaw06_known_E, g31_store_Floor_E, g16_talikref06_Store_E, g19_taliklaw06_winter_E, g32_talikref06_Prices_E, g33_talikref06_Fair_E, g34_talikref06_Floor_E]
theorem g8_taliklaw06_StoreFloors_CV : CV Tryd.prog g8_taliklaw06_StoreFloors_C := tabC_valid (l := [g15_taliklaw06_short_E, g20_taliklaw06_known_E, g31_store_Floor_E, g16_talikref06_Store_E, g19_taliklaw06_winter_E, g32_talikref06_Prices_E, g33_talikref06_Fair_E, g34_talikref06_Floor_E]) ⟨g15_taliklaw06_short_valid, g20_taliklaw06_known_valid, g31_store_Floor_valid, g16_talikref06_Store_valid, g19_taliklaw06_winter_valid, g32_talikref06_Prices_valid, g33_talikref06_Fair_valid, g34_talikref06_Floor_valid, trivial⟩
noncomputable def g8_taliklaw06_StoreFloors (a0 : E27) (a1 : Int) (a2 : (List Int)) : Option Bool :=
  (Option.bind (g15_taliklaw06_short a0) fun r1 =>
  (bif (!r1) then
    (Option.bind g20_taliklaw06_known fun r2 =>
      some r2)
    else
    (Option.bind (g31_store_Floor a0 a1 a2) fun r3 =>
      (Option.bind (g16_talikref06_Store a0) fun r4 =>
        (bif (!r4) then
          (bif (r3.2.1 == 2) then
            (bif (r3.1 == 0) then
              (Option.bind g20_taliklaw06_known fun r5 =>
                some r5)
              else
              some false)
            else
            some false)
          else
          (Option.bind (g19_taliklaw06_winter a0 a1) fun r6 =>
            (bif (!r6) then
              (bif (r3.2.1 == 2) then
                (bif (r3.1 == 0) then
                  (Option.bind g20_taliklaw06_known fun r7 =>
                    some r7)
                  else
                  some false)
                else
                some false)
              else
              (Option.bind (g32_talikref06_Prices a2) fun r8 =>
                (bif (!r8) then
                  (bif (r3.2.1 == 2) then
                    (bif (r3.1 == 0) then
                      (Option.bind g20_taliklaw06_known fun r9 =>
                        some r9)
                      else
                      some false)
                    else
                    some false)
                  else
                  (Option.bind (g33_talikref06_Fair a0 a2) fun r10 =>
                    (bif (!r10) then
                      (bif (r3.2.1 == 7) then
                        (bif (r3.1 == 0) then
                          (Option.bind g20_taliklaw06_known fun r11 =>
                            some r11)
                          else
                          some false)
                        else
                        some false)
                      else
                      (bif (r3.2.1 == 0) then
                        (Option.bind (g34_talikref06_Floor a0 a1 a2) fun r12 =>
                          (bif (r3.1 == r12) then
                            (Option.bind g20_taliklaw06_known fun r13 =>
                              some r13)
                            else
                            some false))
                        else
                        some false))))))))))))
noncomputable def g8_taliklaw06_StoreFloors_E : CEnt := pureE 8 [.dat T27, .dat (.int .i64), .dat (.arr 3 (.int .i64))] (.dat .bool) fun x => g8_taliklaw06_StoreFloors x.1 x.2.1 x.2.2.1
theorem g8_taliklaw06_StoreFloors_LV : LV 0 Tryd.prog false (loopsOf (bodyOf Tryd.f8)) [] := by unfold LV; cases loopsOf (bodyOf Tryd.f8) <;> trivial
theorem g8_taliklaw06_StoreFloors_ent : Ent Tryd.prog 8 := ⟨by decide, enters_of Tryd.func8 (by kernel_rfl) rfl⟩
theorem g8_taliklaw06_StoreFloors_hev : ∀ x, fnR Tryd.prog g8_taliklaw06_StoreFloors_C [] Tryd.f8 (bodyOf Tryd.f8) (encs [.dat T27, .dat (.int .i64), .dat (.arr 3 (.int .i64))] x) ⟨[], [], 0⟩ (frzF (.dat .bool)) = g8_taliklaw06_StoreFloors x.1 x.2.1 x.2.2.1 := by
  intro x; kernel_rfl
theorem g8_taliklaw06_StoreFloors_lcall : ∀ x r, (fun x : Els [.dat T27, .dat (.int .i64), .dat (.arr 3 (.int .i64))] => g8_taliklaw06_StoreFloors x.1 x.2.1 x.2.2.1) x = some r → LCall 0 Tryd.prog 8 (encs [.dat T27, .dat (.int .i64), .dat (.arr 3 (.int .i64))] x) ⟨[], [], 0⟩ (.d .bool r) ⟨[], [], 0⟩ := frz_lcall (R := .dat .bool) mixed Tryd.func8 rfl g8_taliklaw06_StoreFloors_ent g8_taliklaw06_StoreFloors_CV g8_taliklaw06_StoreFloors_LV (by kernel_rfl) (by kernel_rfl) g8_taliklaw06_StoreFloors_hev

end Go.Proofs.YtcijddeommognaaDoor.Abs

/-
  Plain laws of the store layer: prices and floors.
-/
set_option linter.unusedVariables false
set_option linter.unusedSimpArgs false
set_option maxRecDepth 100000
namespace Go.Proofs.YtcijddeommognaaDoor.Abs
open Classical

theorem mul_bd {a b A B : Int} (ha : 0 ≤ a ∧ a ≤ A) (hb : 0 ≤ b ∧ b ≤ B) : 0 ≤ a * b ∧ a * b ≤ A * B :=
  ⟨Int.mul_nonneg ha.1 hb.1, Int.mul_le_mul ha.2 hb.2 hb.1 (Int.le_trans ha.1 ha.2)⟩
def P3 (g : List Int) : Prop := In (g.getD 0 0) 0 1000000 ∧ In (g.getD 1 0) 0 1000000 ∧ In (g.getD 2 0) 0 1000000
def dot3 (a b : List Int) : Int := a.getD 0 0 * b.getD 0 0 + a.getD 1 0 * b.getD 1 0 + a.getD 2 0 * b.getD 2 0
theorem prices32 (g : List Int) : Tells (g32_talikref06_Prices g) (P3 g) := by
  unfold g32_talikref06_Prices
  exact tells_and (in46 _ _ _) fun _ => tells_and (in46 _ _ _) fun _ => tells_bind (in46 _ _ _)
theorem worth_step (n : Int) (a b : List Int) (k : Nat) (hk : k < 3) :
    g62_store_worth_l0_step ((n, ((k : Int), ())), (a, (b, ()))) = some (0, ((IntKind.wrap .i64 (n + IntKind.wrap .i64 (a.getD k 0 * b.getD k 0)), (((k + 1 : Nat) : Int), ())), (a, (b, ())))) := by
  have h3 := lt_int hk
  simp only [g62_store_worth_l0_step, show ((3 : Nat) : Int) = 3 from rfl, three_lt' hk, ge0, Bool.and_true, cond_true, getD_toNat, wr1 (i := k) (by omega)]
theorem worth62 (a b : List Int) (ha : B3 [1000000, 1000000, 1000000] a) (hb : P3 b) : g62_store_worth a b = some (dot3 a b) := by
  have h0 := mul_bd ha.b0 hb.1
  have h1 := mul_bd ha.b1 hb.2.1
  have h2 := mul_bd ha.b2 hb.2.2
  simp only [List.getD_cons_zero, List.getD_cons_succ] at h0 h1 h2
  have S0 := worth_step 0 a b 0 (by omega)
  have S1 := worth_step (a.getD 0 0 * b.getD 0 0) a b 1 (by omega)
  have S2 := worth_step (a.getD 0 0 * b.getD 0 0 + a.getD 1 0 * b.getD 1 0) a b 2 (by omega)
  have e : dot3 a b = a.getD 0 0 * b.getD 0 0 + a.getD 1 0 * b.getD 1 0 + a.getD 2 0 * b.getD 2 0 := rfl
  generalize a.getD 0 0 * b.getD 0 0 = x0 at *
  generalize a.getD 1 0 * b.getD 1 0 = x1 at *
  generalize a.getD 2 0 * b.getD 2 0 = x2 at *
  rw [wr (n := x0) (by omega) (by omega), Int.zero_add, wr (by omega) (by omega)] at S0
  rw [wr (n := x1) (by omega) (by omega), wr (by omega) (by omega)] at S1
  rw [wr (n := x2) (by omega) (by omega), wr (by omega) (by omega)] at S2
  have K : g62_store_worth_l0_run ((0, (0, ())), (a, (b, ()))) = some (0, ((x0 + x1 + x2, (3, ())), (a, (b, ())))) := by
    unfold g62_store_worth_l0_run
    rw [show g62_store_worth_l0_fuel ((0, (0, ())), (a, (b, ()))) = 4 from rfl]
    rw [show ((0 : Int), ((0 : Int), ())) = (0, (((0 : Nat) : Int), ())) from rfl, iter_one S0, iter_one S1, iter_one S2]
    rfl
  unfold g62_store_worth
  rw [K, e]; rfl

/-! ### Fair prices -/
def FairP (s : E27) (p : List Int) : Prop := ∀ x ∈ s.2.2.2.2.2.1, dot3 x.2.1 p ≤ x.2.2.1
theorem ship_b3 {s : E27} (hs : OkS s) (wf : WfS s) {x : E39} (hx : x ∈ s.2.2.2.2.2.1) : B3 [1000, 1000, 1000] x.2.1 := (hs.ships x hx).2.1.b3 (wf.ships x hx)
theorem b3_million {g : List Int} (h : B3 [1000, 1000, 1000] g) : B3 [1000000, 1000000, 1000000] g := b3_le h (by simp) (by simp) (by simp)
theorem contains60v {s : E27} (hs : OkS s) (wf : WfS s) {p : List Int} (hp : P3 p) : ∃ b : Bool, g60_slices_ContainsFunc_v1 s.2.2.2.2.2.1 p = some (b, (p, ())) ∧ (b = false ↔ FairP s p) := by
  have hn := hs.nships
  have key : ∀ x ∈ s.2.2.2.2.2.1, g61_store_Floor_1 x p = some (decide (dot3 x.2.1 p > x.2.2.1), (p, ())) := fun x hx => by
    unfold g61_store_Floor_1
    rw [worth62 _ _ (b3_million (ship_b3 hs wf hx)) hp]; rfl
  generalize hl : s.2.2.2.2.2.1 = l at *
  have h := iter_fn (step := g89_slices_IndexFunc_v1_l0_step) (n := l.length) (k1 := 0) (k2 := 1) (bad := fun i => decide (dot3 (l.getD i dShip).2.1 p > (l.getD i dShip).2.2.1)) (fuel := g89_slices_IndexFunc_v1_l0_fuel ((l, (0, ((l.length : Int), (0, ())))), (p, ())))
    (fun i => ((l, (0, ((l.length : Int), ((i : Int), ())))), (p, ()))) (fun i => ((l, ((i : Int), ((l.length : Int), ((i : Int), ())))), (p, ()))) ((l, (0, ((l.length : Int), ((l.length : Int), ())))), (p, ()))
    (fun i hi => by
      simp only [g89_slices_IndexFunc_v1_l0_step, lt_int hi, ge0, Bool.and_true, cond_true, getD_toNat, wr1 (i := i) (by omega)]
      rw [show (0, ((List.replicate 3 0), (0, ()))) = dShip from rfl, key _ (getD_mem hi)]
      simp only [Option.bind_some]
      cases decide (dot3 (l.getD i dShip).2.1 p > (l.getD i dShip).2.2.1) <;> rfl)
    (by simp only [g89_slices_IndexFunc_v1_l0_step, nlt_int, cond_false]) (by simp [g89_slices_IndexFunc_v1_l0_fuel])
  unfold g60_slices_ContainsFunc_v1 g89_slices_IndexFunc_v1
  rcases h with ⟨j, h1, h2, _, h3⟩ | ⟨h1, h2⟩
  · have h3' : g89_slices_IndexFunc_v1_l0_run ((l, (0, ((l.length : Int), (0, ())))), (p, ())) = _ := h3
    rw [h3']
    refine ⟨true, by simp [natK], ⟨(by intro h; cases h), fun hf => ?_⟩⟩
    have h2 := of_decide_eq_true h2
    have := hf (l.getD j dShip) (by rw [hl]; exact getD_mem h1)
    omega
  · have h2' : g89_slices_IndexFunc_v1_l0_run ((l, (0, ((l.length : Int), (0, ())))), (p, ())) = _ := h2
    rw [h2']
    refine ⟨false, by simp [natK], ⟨fun _ => ?_, fun _ => rfl⟩⟩
    unfold FairP
    rw [hl]
    refine (forall_getD dShip).1 fun i hi => ?_
    have := of_decide_eq_false (h1 i hi)
    omega
theorem fair33 {s : E27} (hs : OkS s) (wf : WfS s) {p : List Int} (hp : P3 p) : Tells (g33_talikref06_Fair s p) (FairP s p) := by
  have hn := hs.nships
  have h := iter_fn (step := g33_talikref06_Fair_l0_step) (n := s.2.2.2.2.2.1.length) (k1 := 0) (k2 := 1) (bad := fun i => decide (dot3 (s.2.2.2.2.2.1.getD i dShip).2.1 p > (s.2.2.2.2.2.1.getD i dShip).2.2.1)) (fuel := g33_talikref06_Fair_l0_fuel ((false, (0, ())), (s, (p, ()))))
    (fun i => ((false, ((i : Int), ())), (s, (p, ())))) (fun i => ((false, ((i : Int), ())), (s, (p, ())))) ((false, ((s.2.2.2.2.2.1.length : Int), ())), (s, (p, ())))
    (fun i hi => by
      have hc := b3_million (ship_b3 hs wf (getD_mem (d := dShip) hi))
      have h0 := mul_bd hp.1 hc.b0
      have h1 := mul_bd hp.2.1 hc.b1
      have h2 := mul_bd hp.2.2 hc.b2
      simp only [List.getD_cons_zero, List.getD_cons_succ] at h0 h1 h2
      simp only [g33_talikref06_Fair_l0_step, lt_int hi, ge0, Bool.and_true, cond_true, getD_toNat, wr1 (i := i) (by omega)]
      rw [show (0, ((List.replicate 3 0), (0, ()))) = dShip from rfl, show Int.toNat 0 = 0 from rfl, show Int.toNat 1 = 1 from rfl, show Int.toNat 2 = 2 from rfl]
      generalize s.2.2.2.2.2.1.getD i dShip = x at *
      have e : dot3 x.2.1 p = p.getD 0 0 * x.2.1.getD 0 0 + p.getD 1 0 * x.2.1.getD 1 0 + p.getD 2 0 * x.2.1.getD 2 0 := by
        unfold dot3; rw [Int.mul_comm (x.2.1.getD 0 0), Int.mul_comm (x.2.1.getD 1 0), Int.mul_comm (x.2.1.getD 2 0)]
      rw [e]
      generalize p.getD 0 0 * x.2.1.getD 0 0 = x0 at *
      generalize p.getD 1 0 * x.2.1.getD 1 0 = x1 at *
      generalize p.getD 2 0 * x.2.1.getD 2 0 = x2 at *
      rw [wr (n := x0) (by omega) (by omega), wr (n := x1) (by omega) (by omega), wr (n := x2) (by omega) (by omega), wr (n := x0 + x1) (by omega) (by omega), wr (n := x0 + x1 + x2) (by omega) (by omega)]
      cases decide (x0 + x1 + x2 > x.2.2.1) <;> rfl)
    (by simp only [g33_talikref06_Fair_l0_step, nlt_int, cond_false]) (by simp [g33_talikref06_Fair_l0_fuel])
  unfold g33_talikref06_Fair
  rcases h with ⟨j, h1, h2, _, h3⟩ | ⟨h1, h2⟩
  · have h3' : g33_talikref06_Fair_l0_run ((false, (0, ())), (s, (p, ()))) = _ := h3
    rw [h3']
    refine tells_f fun hf => ?_
    have h2 := of_decide_eq_true h2
    have := hf _ (getD_mem (d := dShip) h1)
    omega
  · have h2' : g33_talikref06_Fair_l0_run ((false, (0, ())), (s, (p, ()))) = _ := h2
    rw [h2']
    refine tells_t ((forall_getD dShip).1 fun i hi => ?_)
    have := of_decide_eq_false (h1 i hi)
    omega

/-! ### Floors -/
/-- The floor of prices for a winter. -/
def floorM (s : E27) (n : Nat) (p : List Int) : Int := dot3 (restM (sumL (win s n)) s.1) p
theorem sumL_b3 {s : E27} (hs : OkS s) (wf : WfS s) {n : Nat} (hn : n < s.2.2.2.2.2.2.2.1.length) (i : Nat) (hi : i ≤ (win s n).length) : B3 [30000, 30000, 30000] (sumL ((win s n).take i)) := by
  have h := sumL_bound (win s n) (winOk hs wf hn).ok i hi
  have := (win_len hs wf hn).2
  refine b3_le h ?_ ?_ ?_ <;> simp only [List.getD_cons_zero, List.getD_cons_succ] <;> omega
theorem rest_million {a b : List Int} (ha : B3 [30000, 30000, 30000] a) (hb : B3 [1000, 1000, 1000] b) : B3 [1000000, 1000000, 1000000] (restM a b) := by
  have a0 := ha.b0; have a1 := ha.b1; have a2 := ha.b2
  have b0 := hb.b0; have b1 := hb.b1; have b2 := hb.b2
  simp only [List.getD_cons_zero, List.getD_cons_succ] at a0 a1 a2 b0 b1 b2
  refine ⟨rfl, ?_, ?_, ?_⟩ <;> simp only [restM, List.getD_cons_zero, List.getD_cons_succ]
  · exact mx_le (by omega) (by omega)
  · exact mx_le (by omega) (by omega)
  · exact mx_le (by omega) (by omega)
theorem floor_l1_step (s : E27) (p a : List Int) (k : Nat) (hk : k < 3) :
    g31_store_Floor_l1_step (((k : Int), ()), (s, (p, (a, ())))) = some (0, ((((k + 1 : Nat) : Int), ()), (s, (p, (a.set k (mx (IntKind.wrap .i64 (a.getD k 0 - s.1.getD k 0))), ()))))) := by
  have h3 := lt_int hk
  simp only [g31_store_Floor_l1_step, show ((3 : Nat) : Int) = 3 from rfl, three_lt' hk, ge0, Bool.and_true, cond_true, getD_toNat, Int.toNat_natCast, wr1 (i := k) (by omega), mx]
theorem floor_l1 (s : E27) (p a : List Int) (ha : B3 [30000, 30000, 30000] a) (hs : B3 [1000, 1000, 1000] s.1) :
    g31_store_Floor_l1_run ((0, ()), (s, (p, (a, ())))) = some (0, ((3, ()), (s, (p, (restM a s.1, ()))))) := by
  obtain ⟨y0, y1, y2, rfl⟩ := len3 ha.len
  have a0 := ha.b0; have a1 := ha.b1; have a2 := ha.b2
  have b0 := hs.b0; have b1 := hs.b1; have b2 := hs.b2
  simp only [List.getD_cons_zero, List.getD_cons_succ] at a0 a1 a2 b0 b1 b2
  have S0 := floor_l1_step s p [y0, y1, y2] 0 (by omega)
  have S1 := floor_l1_step s p [mx (y0 - s.1.getD 0 0), y1, y2] 1 (by omega)
  have S2 := floor_l1_step s p [mx (y0 - s.1.getD 0 0), mx (y1 - s.1.getD 1 0), y2] 2 (by omega)
  simp only [List.getD_cons_zero, List.getD_cons_succ, List.set_cons_zero, List.set_cons_succ] at S0 S1 S2
  rw [wr (n := y0 - s.1.getD 0 0) (by omega) (by omega)] at S0
  rw [wr (n := y1 - s.1.getD 1 0) (by omega) (by omega)] at S1
  rw [wr (n := y2 - s.1.getD 2 0) (by omega) (by omega)] at S2
  unfold g31_store_Floor_l1_run
  rw [show g31_store_Floor_l1_fuel ((0, ()), (s, (p, ([y0, y1, y2], ())))) = 4 from rfl]
  rw [show ((0 : Int), ()) = (((0 : Nat) : Int), ()) from rfl, iter_one S0, iter_one S1, iter_one S2]
  rfl
theorem floor_l0 (s : E27) (n : Int) (p : List Int) : (P3 p ∧ g31_store_Floor_l0_run ((n, (0, (0, (0, ())))), (s, (p, ()))) = some (1, ((n, (0, (0, (3, ())))), (s, (p, ()))))) ∨ (¬ P3 p ∧ ∃ k, g31_store_Floor_l0_run ((n, (0, (0, (0, ())))), (s, (p, ()))) = some (0, ((n, (0, (2, (k, ())))), (s, (p, ()))))) := by
  rcases iter_fn (step := g31_store_Floor_l0_step) (n := 3) (k1 := 0) (k2 := 1) (bad := fun k => decide (¬ In (p.getD k 0) 0 1000000)) (fuel := g31_store_Floor_l0_fuel ((n, (0, (0, (0, ())))), (s, (p, ()))))
    (fun k => ((n, (0, (0, ((k : Int), ())))), (s, (p, ())))) (fun k => ((n, (0, (2, ((k : Int), ())))), (s, (p, ())))) ((n, (0, (0, (3, ())))), (s, (p, ())))
    (fun k hk => by
      have h3 := lt_int hk
      simp only [g31_store_Floor_l0_step, show ((3 : Nat) : Int) = 3 from rfl, three_lt' hk, ge0, Bool.and_true, cond_true, getD_toNat, wr1 (i := k) (by omega)]
      by_cases hb : In (p.getD k 0) 0 1000000
      · rw [(in53 _ _ _).val hb, decide_eq_false (fun hn => hn hb)]; rfl
      · rw [(in53 _ _ _).nval hb, decide_eq_true hb]; rfl)
    rfl (by simp [g31_store_Floor_l0_fuel]) with ⟨j, h1, h2, _, h3⟩ | ⟨h1, h2⟩
  · refine .inr ⟨fun hp => ?_, _, h3⟩
    have h2 := of_decide_eq_true h2
    match j, h1 with
    | 0, _ => exact h2 hp.1
    | 1, _ => exact h2 hp.2.1
    | 2, _ => exact h2 hp.2.2
  · have key : ∀ k, k < 3 → In (p.getD k 0) 0 1000000 := fun k hk => Classical.byContradiction fun hb => of_decide_eq_false (h1 k hk) hb
    exact .inl ⟨⟨key 0 (by omega), key 1 (by omega), key 2 (by omega)⟩, h2⟩
/-- What Floor answers. -/
theorem floor31_bad {s : E27} (h : ShortS s) {n : Int} {p : List Int} (hb : ¬ (OkS s ∧ In n 0 ((s.2.2.2.2.2.2.2.1.length : Int) - 1) ∧ P3 p)) : g31_store_Floor s n p = some (0, (2, ())) := by
  have e2 := h.nwin
  unfold g31_store_Floor
  by_cases hs : OkS s
  · rw [(valid51 s h).val hs]
    simp only [Option.bind_some, Bool.not_true, cond_false]
    rw [wr (by omega) (by omega)]
    by_cases hn : In n 0 ((s.2.2.2.2.2.2.2.1.length : Int) - 1)
    · rw [(in53 _ _ _).val hn]
      simp only [Option.bind_some, Bool.not_true, cond_false]
      rcases floor_l0 s n p with ⟨h1, h2⟩ | ⟨h1, k, h2⟩
      · exact absurd ⟨hs, hn, h1⟩ hb
      · rw [h2]; rfl
    · rw [(in53 _ _ _).nval hn]; rfl
  · rw [(valid51 s h).nval hs]; rfl
theorem floor31_ok {s : E27} (h : ShortS s) (hs : OkS s) (wf : WfS s) {n : Nat} (hn : n < s.2.2.2.2.2.2.2.1.length) {p : List Int} (hp : P3 p) :
    (FairP s p → g31_store_Floor s (n : Int) p = some (floorM s n p, (0, ()))) ∧ (¬ FairP s p → g31_store_Floor s (n : Int) p = some (0, (7, ()))) := by
  have e2 := h.nwin
  unfold g31_store_Floor
  rw [(valid51 s h).val hs]
  simp only [Option.bind_some, Bool.not_true, cond_false]
  rw [wr (by omega) (by omega), (in53 _ _ _).val (lt_in hn)]
  simp only [Option.bind_some, Bool.not_true, cond_false]
  rcases floor_l0 s n p with ⟨h1, h2⟩ | ⟨h1, k, h2⟩
  · rw [h2]
    obtain ⟨b, hb1, hb2⟩ := contains60v hs wf hp
    simp only [Option.bind_some, natK, hb1]
    constructor
    · intro hf
      rw [hb2.2 hf]
      have hW : WinOk s (win s n) := winOk hs wf hn
      have hwl := (win_len hs wf hn).2
      have hst : B3 [1000, 1000, 1000] s.1 := hs.stock.b3 wf.stock
      have hsum := sumL_b3 hs wf hn (win s n).length (Nat.le_refl _)
      rw [List.take_length] at hsum
      simp only [cond_false, lt_int hn, ge0, Bool.and_true, cond_true, getD_toNat]
      rw [show s.2.2.2.2.2.2.2.1.getD n [] = win s n from rfl, added63 _ hW.ok (by omega)]
      simp only [Option.bind_some, floor_l1 s p _ hsum hst, worth62 _ _ (rest_million hsum hst) hp]
      rfl
    · intro hf
      cases b with
      | true => rfl
      | false => exact absurd (hb2.1 rfl) hf
  · exact absurd hp h1

/-! ### The reference's floor -/
theorem add3_getD (a b : List Int) {k : Nat} (hk : k < 3) : (add3 a b).getD k 0 = a.getD k 0 + b.getD k 0 := by
  match k, hk with
  | 0, _ => rfl
  | 1, _ => rfl
  | 2, _ => rfl
theorem rest_getD (a b : List Int) {k : Nat} (hk : k < 3) : (restM a b).getD k 0 = mx (a.getD k 0 - b.getD k 0) := by
  match k, hk with
  | 0, _ => rfl
  | 1, _ => rfl
  | 2, _ => rfl
theorem b3_getD {X a : List Int} (h : B3 X a) {k : Nat} (hk : k < 3) : 0 ≤ a.getD k 0 ∧ a.getD k 0 ≤ X.getD k 0 := by
  match k, hk with
  | 0, _ => exact h.b0
  | 1, _ => exact h.b1
  | 2, _ => exact h.b2
theorem rfloor_l1 {s : E27} (hs : OkS s) (wf : WfS s) {n : Nat} (hn : n < s.2.2.2.2.2.2.2.1.length) (p : List Int) (m : Int) (k : Nat) (hk : k < 3) :
    g34_talikref06_Floor_l1_run (((n : Int), (m, ((k : Int), (0, (0, ()))))), (s, (p, ()))) = some (0, (((n : Int), (m, ((k : Int), ((sumL (win s n)).getD k 0, (((win s n).length : Int), ()))))), (s, (p, ())))) := by
  have hwl := win_len hs wf hn
  have hw : WinOk s (win s n) := winOk hs wf hn
  have K := iter_run (step := g34_talikref06_Floor_l1_step) (n := (win s n).length) (k := 0) (fuel := g34_talikref06_Floor_l1_fuel (((n : Int), (m, ((k : Int), (0, (0, ()))))), (s, (p, ()))))
    (fun w => (((n : Int), (m, ((k : Int), ((sumL ((win s n).take w)).getD k 0, ((w : Int), ()))))), (s, (p, ()))))
    (((n : Int), (m, ((k : Int), ((sumL (win s n)).getD k 0, (((win s n).length : Int), ()))))), (s, (p, ())))
    (fun w hlt => by
      have h0 : decide ((w : Int) < s.2.2.2.1) = true := decide_eq_true (by have := hwl.1; omega)
      have h1 : decide ((w : Int) < ((s.2.2.2.2.2.2.2.1.getD n []).length : Int)) = true := lt_int hlt
      have h3 := lt_int hk
      have b1 := b3_getD (sumL_b3 hs wf hn w (by omega)) hk
      have b2 := b3_getD (hw.ok _ (getD_mem (d := z3) hlt)) hk
      have e1 : [(30000 : Int), 30000, 30000].getD k 0 = 30000 := by match k, hk with | 0, _ => rfl | 1, _ => rfl | 2, _ => rfl
      have e2 : [(1000 : Int), 1000, 1000].getD k 0 = 1000 := by match k, hk with | 0, _ => rfl | 1, _ => rfl | 2, _ => rfl
      rw [e1] at b1; rw [e2] at b2
      simp only [g34_talikref06_Floor_l1_step, show ((3 : Nat) : Int) = 3 from rfl, three_lt' hk, h0, h1, lt_int hn, ge0, Bool.and_true, cond_true, getD_toNat, wr1 (i := w) (by omega)]
      rw [show s.2.2.2.2.2.2.2.1.getD n [] = win s n from rfl, show List.replicate 3 (0 : Int) = z3 from rfl, wr (n := (sumL ((win s n).take w)).getD k 0 + ((win s n).getD w z3).getD k 0) (by omega) (by omega)]
      have e : sumL ((win s n).take (w + 1)) = add3 (sumL ((win s n).take w)) ((win s n).getD w z3) := foldl_take_succ add3 _ hlt _
      rw [e, add3_getD _ _ hk])
    (by
      have h0 : decide ((((win s n).length : Nat) : Int) < s.2.2.2.1) = false := decide_eq_false (by have := hwl.1; omega)
      simp only [g34_talikref06_Floor_l1_step, h0, cond_false, List.take_length])
    (by simp only [g34_talikref06_Floor_l1_fuel]; have := hwl.1; omega)
  have e0 : (sumL ((win s n).take 0)).getD k 0 = 0 := by match k, hk with | 0, _ => rfl | 1, _ => rfl | 2, _ => rfl
  rw [e0] at K
  exact K
theorem rfloor34 {s : E27} (hs : OkS s) (wf : WfS s) {n : Nat} (hn : n < s.2.2.2.2.2.2.2.1.length) {p : List Int} (hp : P3 p) : g34_talikref06_Floor s (n : Int) p = some (floorM s n p) := by
  have hst : B3 [1000, 1000, 1000] s.1 := hs.stock.b3 wf.stock
  have hsum := sumL_b3 hs wf hn (win s n).length (Nat.le_refl _)
  rw [List.take_length] at hsum
  have hr := rest_million hsum hst
  have step : ∀ (m : Int) (k : Nat) (hk : k < 3), 0 ≤ m ∧ m ≤ 10 ^ 13 → g34_talikref06_Floor_l0_step (((n : Int), (m, ((k : Int), ()))), (s, (p, ()))) = some (0, (((n : Int), (m + (restM (sumL (win s n)) s.1).getD k 0 * p.getD k 0, (((k + 1 : Nat) : Int), ()))), (s, (p, ())))) := fun m k hk hm => by
    have h3 := lt_int hk
    have b1 := b3_getD hsum hk
    have b2 := b3_getD hst hk
    have b3 := b3_getD hr hk
    have hpk : 0 ≤ p.getD k 0 ∧ p.getD k 0 ≤ 1000000 := by
      match k, hk with
      | 0, _ => exact hp.1
      | 1, _ => exact hp.2.1
      | 2, _ => exact hp.2.2
    have e1 : [(30000 : Int), 30000, 30000].getD k 0 = 30000 := by match k, hk with | 0, _ => rfl | 1, _ => rfl | 2, _ => rfl
    have e2 : [(1000 : Int), 1000, 1000].getD k 0 = 1000 := by match k, hk with | 0, _ => rfl | 1, _ => rfl | 2, _ => rfl
    have e3 : [(1000000 : Int), 1000000, 1000000].getD k 0 = 1000000 := by match k, hk with | 0, _ => rfl | 1, _ => rfl | 2, _ => rfl
    rw [e1] at b1; rw [e2] at b2; rw [e3] at b3
    have hm2 := mul_bd b3 hpk
    simp only [g34_talikref06_Floor_l0_step, show ((3 : Nat) : Int) = 3 from rfl, three_lt' hk, cond_true, rfloor_l1 hs wf hn p m k hk, Option.bind_some, ge0, Bool.and_true, getD_toNat, wr1 (i := k) (by omega)]
    rw [wr (n := (sumL (win s n)).getD k 0 - s.1.getD k 0) (by omega) (by omega)]
    rw [show (if (sumL (win s n)).getD k 0 - s.1.getD k 0 > 0 then (sumL (win s n)).getD k 0 - s.1.getD k 0 else 0) = (restM (sumL (win s n)) s.1).getD k 0 from (rest_getD _ _ hk).symm, Int.mul_comm (p.getD k 0)]
    generalize (restM (sumL (win s n)) s.1).getD k 0 * p.getD k 0 = x at *
    rw [wr (n := x) (by omega) (by omega), wr (by omega) (by omega)]
  have h0 := mul_bd hr.b0 hp.1
  have h1 := mul_bd hr.b1 hp.2.1
  have h2 := mul_bd hr.b2 hp.2.2
  simp only [List.getD_cons_zero, List.getD_cons_succ] at h0 h1 h2
  have S0 := step 0 0 (by omega) (by omega)
  have S1 := step ((restM (sumL (win s n)) s.1).getD 0 0 * p.getD 0 0) 1 (by omega) (by omega)
  have S2 := step ((restM (sumL (win s n)) s.1).getD 0 0 * p.getD 0 0 + (restM (sumL (win s n)) s.1).getD 1 0 * p.getD 1 0) 2 (by omega) (by omega)
  rw [Int.zero_add] at S0
  have K : g34_talikref06_Floor_l0_run (((n : Int), (0, (0, ()))), (s, (p, ()))) = some (0, (((n : Int), (floorM s n p, (3, ()))), (s, (p, ())))) := by
    unfold g34_talikref06_Floor_l0_run
    rw [show g34_talikref06_Floor_l0_fuel (((n : Int), (0, (0, ()))), (s, (p, ()))) = 4 from rfl]
    rw [show ((0 : Int), ((0 : Int), ())) = (0, (((0 : Nat) : Int), ())) from rfl, iter_one S0, iter_one S1, iter_one S2]
    rfl
  unfold g34_talikref06_Floor
  rw [K]; rfl
end Go.Proofs.YtcijddeommognaaDoor.Abs

/-
  StoreFloors: the plain law.
-/
set_option linter.unusedVariables false
set_option linter.unusedSimpArgs false
set_option maxRecDepth 100000
namespace Go.Proofs.YtcijddeommognaaDoor.Abs
theorem g8_taliklaw06_StoreFloors_true : ∀ x : Els [.dat T27, .dat (.int .i64), .dat (.arr 3 (.int .i64))], wfs [.dat T27, .dat (.int .i64), .dat (.arr 3 (.int .i64))] x → g8_taliklaw06_StoreFloors x.1 x.2.1 x.2.2.1 = some true := by
  rintro ⟨s, n, p, _⟩ ⟨hwf, _⟩
  have wf := wf27 hwf
  show g8_taliklaw06_StoreFloors s n p = some true
  unfold g8_taliklaw06_StoreFloors
  by_cases h : ShortS s
  · rw [(short15 s).val h]
    simp only [Option.bind_some, Bool.not_true, cond_false]
    by_cases hg : OkS s ∧ In n 0 ((s.2.2.2.2.2.2.2.1.length : Int) - 1) ∧ P3 p
    · obtain ⟨hs, h1, hp⟩ := hg
      obtain ⟨n, rfl, hn⟩ := in_lt h1
      obtain ⟨k1, k2⟩ := floor31_ok h hs wf hn hp
      by_cases hf : FairP s p
      · rw [k1 hf]
        simp only [Option.bind_some, (store16 s h).val hs, (winter19 _ _).val h1, (prices32 p).val hp, (fair33 hs wf hp).val hf, rfloor34 hs wf hn hp, Bool.not_true, cond_false, known20, beq_self_eq_true, cond_true]
      · rw [k2 hf]
        simp only [Option.bind_some, (store16 s h).val hs, (winter19 _ _).val h1, (prices32 p).val hp, (fair33 hs wf hp).nval hf, Bool.not_true, Bool.not_false, cond_false, known20, beq_self_eq_true, cond_true]
    · rw [floor31_bad h hg]
      simp only [Option.bind_some]
      by_cases hs : OkS s
      · rw [(store16 s h).val hs]
        simp only [Option.bind_some, Bool.not_true, cond_false]
        by_cases h1 : In n 0 ((s.2.2.2.2.2.2.2.1.length : Int) - 1)
        · rw [(winter19 _ _).val h1]
          simp only [Option.bind_some, Bool.not_true, cond_false]
          rw [(prices32 p).nval (fun hp => hg ⟨hs, h1, hp⟩)]
          simp only [Option.bind_some, known20]
          rfl
        · rw [(winter19 _ _).nval h1]
          simp only [Option.bind_some, known20]
          rfl
      · rw [(store16 s h).nval hs]
        simp only [Option.bind_some, known20]
        rfl
  · rw [(short15 s).nval h]
    simp only [Option.bind_some, Bool.not_false, cond_true, known20]
end Go.Proofs.YtcijddeommognaaDoor.Abs

/-
  talik/taliklaw06.StoreFloors: for every input the law returns true; its arguments read as they did. No condition.
-/
set_option linter.unusedVariables false
set_option maxRecDepth 100000
namespace Go.Proofs.YtcijddeommognaaDoor.Abs.storeFloors
open Go.ChangeShapes Go.WideShapes Go.RowKit
theorem own : ownKnob Tryd.prog.godebug = none := by kernel_rfl
theorem laidOut : laidOutB Tryd.prog = true := by kernel_rfl
theorem gTab : Tryd.prog.globalNamed "internal/strconv.uint64pow10" = some 0 := by kernel_rfl
theorem gTabType : (Tryd.prog.globals[0]?).map (·.type) = some 153 := by kernel_rfl
theorem cellsT : Tryd.prog.cellsOf 153 = 20 := by kernel_rfl
theorem cellsE : Tryd.prog.cellsOf 143 = 1 := by kernel_rfl
theorem undT : Tryd.prog.underlying 153 = some (.array 20 143) := by kernel_rfl
theorem undE : Tryd.prog.underlying 143 = some (.int .u64) := by kernel_rfl
theorem table {W : World} (h : laidMetH Tryd.prog Rows.storeFloorsRow.laid W) : Lib.TabIs Tryd.prog W "internal/strconv.uint64pow10" .u64 [1, 10, 100, 1000, 10000, 100000, 1000000, 10000000, 100000000, 1000000000, 10000000000, 100000000000, 1000000000000, 10000000000000, 100000000000000, 1000000000000000, 10000000000000000, 100000000000000000, 1000000000000000000, 10000000000000000000] :=
  Lib.tabIs_of_head (rest := []) gTab gTabType undT undE cellsE cellsT (laidMet.tail (laidMet.tail (h)))
theorem tabOk {W : World} (h : laidMetH Tryd.prog Rows.storeFloorsRow.laid W) : ∀ q ∈ TABS, ∃ e fr, W.heap[q.1]? = some (.cells q.2 e fr) := by
  have ht := table h
  unfold Lib.TabIs World.var? at ht
  rw [gTab] at ht
  simp only [Option.bind_some] at ht
  intro q hq
  have hq' : q = (0, _) := List.mem_singleton.1 hq
  subst hq'
  show ∃ e fr, W.heap[0]? = _
  split at ht
  · rename_i cs e fr hc
    exact ⟨e, fr, by rw [hc]; simp only [Option.some.injEq] at ht; rw [ht]; rfl⟩
  · cases ht
noncomputable def laidWorld (os : Os) : World :=
  { World.holding Tryd.prog os ⟨#[], #[], []⟩ with heap := ((((World.holding Tryd.prog os ⟨#[], #[], []⟩).heap.modify 2 fun | .cells _ t frozen => .cells #[.int .u8 0, .int .u8 1, .int .u8 28, .int .u8 2, .int .u8 29, .int .u8 14, .int .u8 24, .int .u8 3, .int .u8 30, .int .u8 22, .int .u8 20, .int .u8 15, .int .u8 25, .int .u8 17, .int .u8 4, .int .u8 8, .int .u8 31, .int .u8 27, .int .u8 13, .int .u8 23, .int .u8 21, .int .u8 19, .int .u8 16, .int .u8 7, .int .u8 26, .int .u8 12, .int .u8 18, .int .u8 6, .int .u8 11, .int .u8 5, .int .u8 10, .int .u8 9] t frozen | o => o).modify 3 fun | .cells _ t frozen => .cells #[.int .u8 0, .int .u8 1, .int .u8 56, .int .u8 2, .int .u8 57, .int .u8 49, .int .u8 28, .int .u8 3, .int .u8 61, .int .u8 58, .int .u8 42, .int .u8 50, .int .u8 38, .int .u8 29, .int .u8 17, .int .u8 4, .int .u8 62, .int .u8 47, .int .u8 59, .int .u8 36, .int .u8 45, .int .u8 43, .int .u8 51, .int .u8 22, .int .u8 53, .int .u8 39, .int .u8 33, .int .u8 30, .int .u8 24, .int .u8 18, .int .u8 12, .int .u8 5, .int .u8 63, .int .u8 55, .int .u8 48, .int .u8 27, .int .u8 60, .int .u8 41, .int .u8 37, .int .u8 16, .int .u8 46, .int .u8 35, .int .u8 44, .int .u8 21, .int .u8 52, .int .u8 32, .int .u8 23, .int .u8 11, .int .u8 54, .int .u8 26, .int .u8 40, .int .u8 15, .int .u8 34, .int .u8 20, .int .u8 31, .int .u8 10, .int .u8 25, .int .u8 14, .int .u8 19, .int .u8 9, .int .u8 13, .int .u8 8, .int .u8 7, .int .u8 6] t frozen | o => o).modify 0 fun | .cells _ t frozen => .cells #[.int .u64 1, .int .u64 10, .int .u64 100, .int .u64 1000, .int .u64 10000, .int .u64 100000, .int .u64 1000000, .int .u64 10000000, .int .u64 100000000, .int .u64 1000000000, .int .u64 10000000000, .int .u64 100000000000, .int .u64 1000000000000, .int .u64 10000000000000, .int .u64 100000000000000, .int .u64 1000000000000000, .int .u64 10000000000000000, .int .u64 100000000000000000, .int .u64 1000000000000000000, .int .u64 10000000000000000000] t frozen | o => o) }
theorem laid_met (os : Os) : laidMet Tryd.prog Rows.storeFloorsRow.laid ((laidWorld os).forCall (fun _ _ => 0) ⟨#[], #[(Value.agg #[.int .i64 0, .int .i64 0, .int .i64 0, .int .i64 0, .int .i64 0, .int .i64 0, .int .i64 0, .int .i64 0, .int .i64 0, .slice none 0 0, .slice none 0 0, .slice none 0 0]), (Value.int .i64 0), (Value.agg #[.int .i64 0, .int .i64 0, .int .i64 0])], []⟩).memory :=
  laidMet_of_run' 8 (by kernel_rfl) (by kernel_rfl)
theorem reads (os : Os) {H : Type} (enc : TypeId × Value → H) : ∃ places, DataW.whole enc Tryd.prog ((laidWorld os).forCall (fun _ _ => 0) ⟨#[], #[(Value.agg #[.int .i64 0, .int .i64 0, .int .i64 0, .int .i64 0, .int .i64 0, .int .i64 0, .int .i64 0, .int .i64 0, .int .i64 0, .slice none 0 0, .slice none 0 0, .slice none 0 0]), (Value.int .i64 0), (Value.agg #[.int .i64 0, .int .i64 0, .int .i64 0])], []⟩).memory Tryd.f8.params.toList Rows.storeFloorsSpec.vars false #[(Value.agg #[.int .i64 0, .int .i64 0, .int .i64 0, .int .i64 0, .int .i64 0, .int .i64 0, .int .i64 0, .int .i64 0, .int .i64 0, .slice none 0 0, .slice none 0 0, .slice none 0 0]), (Value.int .i64 0), (Value.agg #[.int .i64 0, .int .i64 0, .int .i64 0])].toList 16 = some ([.agg [.agg [.lit (.int .i64 0), .lit (.int .i64 0), .lit (.int .i64 0)], .agg [.lit (.int .i64 0), .lit (.int .i64 0), .lit (.int .i64 0)], .lit (.int .i64 0), .lit (.int .i64 0), .lit (.int .i64 0), .nil, .nil, .nil], .lit (.int .i64 0), .agg [.lit (.int .i64 0), .lit (.int .i64 0), .lit (.int .i64 0)]], [], places) :=
  ⟨[], by kernel_rfl⟩
theorem spec_fn (H : Type) : (ds : List (DataW H)) → ds.length = Tryd.f8.params.toList.length → (Rows.storeFloorsSpec.fn H ds).results = [.lit (.bool true)] ∧ (Rows.storeFloorsSpec.fn H ds).args = ds ∧ (Rows.storeFloorsSpec.fn H ds).vars = []
  | [], h => by rw [show Tryd.f8.params.toList.length = 3 from by kernel_rfl] at h; simp at h
  | [d0], h => by rw [show Tryd.f8.params.toList.length = 3 from by kernel_rfl] at h; simp at h
  | [d0, d1], h => by rw [show Tryd.f8.params.toList.length = 3 from by kernel_rfl] at h; simp at h
  | [d0, d1, d2], _ => ⟨rfl, rfl, rfl⟩
  | d0 :: d1 :: d2 :: _ :: _, h => by rw [show Tryd.f8.params.toList.length = 3 from by kernel_rfl] at h; simp at h
theorem contract (H : Type) (enc : TypeId × Value → H) (W : World) (base : Nat) (args : Array Value) (ds gs : List (DataW H)) (before : List MemPlace)
    (hval : ∀ (j : Nat) t v, Tryd.f8.params[j]? = some t → args[j]? = some v → Value.okWide Tryd.prog W .any base t v)
    (hW : DataW.Whole enc Tryd.prog Tryd.f8.params.toList Rows.storeFloorsSpec.vars false W args.toList ds gs before) (hL : laidMetH Tryd.prog Rows.storeFloorsRow.laid W) :
    Calls Tryd.prog 8 args W fun e W' => ∃ v, e = .returned v ∧ Rows.storeFloorsSpec.post enc Tryd.prog Tryd.f8 false true false false W args v W' :=
  law_contract (n := 20) (fun x r h => g8_taliklaw06_StoreFloors_lcall x r h) (fun x hx => g8_taliklaw06_StoreFloors_true x hx) (by decide) (show Tryd.f8.resultTypes = #[4] by kernel_rfl) (by kernel_rfl) (by kernel_rfl) laidOut (by
    intro t ht
    have : (Tryd.f8.params.toList.all fun t => Tryd.prog.readableRec t && decide (t < Tryd.prog.types.size)) = true := by kernel_rfl
    have := List.all_eq_true.1 this t ht
    simpa using this) rfl spec_fn hval hW (tabOk hL)
theorem lifted (os : Os) (started : os.Started) (H : Type) (enc : TypeId × Value → H) (F : Stop.Interp) :
    ReturnsInHanded {} Tryd.checked os 8 .any ((OpenSpec.ofChange Rows.storeFloorsSpec).preRow enc Tryd.prog Tryd.f8 Rows.storeFloorsRow.domain false Rows.storeFloorsRow.laid) (((OpenSpec.ofChange Rows.storeFloorsSpec).at F).post enc Tryd.prog Tryd.f8 false true false false) := by
  obtain ⟨places, hx⟩ := reads os enc
  refine returnsInHanded_of_row (C := Tryd.checked) (s := OpenSpec.ofChange Rows.storeFloorsSpec) own started (by kernel_rfl) Tryd.func8
    (witness_row_at (enc := enc) (C := Tryd.checked) false (laidWorld os) #[(Value.agg #[.int .i64 0, .int .i64 0, .int .i64 0, .int .i64 0, .int .i64 0, .int .i64 0, .int .i64 0, .int .i64 0, .int .i64 0, .slice none 0 0, .slice none 0 0, .slice none 0 0]), (Value.int .i64 0), (Value.agg #[.int .i64 0, .int .i64 0, .int .i64 0])] rfl (by kernel_rfl) (by kernel_rfl) (by kernel_rfl)
      (OpenSpec.preRow_of_cond 16 hx (by kernel_rfl) (fun k hk => by cases hk) (by kernel_rfl) (laid_met os))) ?_
  intro W base args ds gs before hval hW _ _ _ hL _ _
  exact contract H enc W base args ds gs before hval hW hL
theorem said : Rows.StoreFloorsSaid :=
  OpenClaim.holds_of_cond 8 Tryd.f8 rfl rfl rfl rfl rfl rfl rfl ⟨rfl, rfl, rfl, rfl, rfl⟩ rfl rfl rfl rfl rfl (by kernel_rfl) Tryd.func8 (by kernel_rfl)
    (of_decide_eq_true (by kernel_rfl)) (by unfold Func.isWrapper; first | (rw [if_pos (by decide +kernel)]; kernel_rfl) | (rw [if_neg (by decide +kernel)]; exact ⟨rfl, rfl⟩))
    (fun os started H enc _ F => by rw [OpenClaim.pre_eq_preRow]; exact lifted os started H enc F)
theorem plain (f : FuncId) (fn : Func) (hf : Tryd.pinned.checked.prog.funcNamed "talik/taliklaw06.StoreFloors" = some f) (hfn : Tryd.pinned.checked.prog.funcs[f]? = some fn) :
    true = Tryd.pinned.checked.prog.looks [] ∧ ∀ (j : Nat) t, fn.params[j]? = some t → Tryd.pinned.checked.prog.wantsStandIn t = false := by
  obtain rfl : f = 8 := Option.some.inj ((show Tryd.prog.funcNamed "talik/taliklaw06.StoreFloors" = some 8 by kernel_rfl).symm.trans hf) |>.symm
  obtain rfl : fn = Tryd.f8 := (Option.some.inj (Tryd.func8.symm.trans hfn)).symm
  refine ⟨by kernel_rfl, fun j t ht => ?_⟩
  have h : (Tryd.f8.params.toList.all fun t => !Tryd.prog.wantsStandIn t) = true := by kernel_rfl
  have := List.all_eq_true.1 h t (by rw [← Array.getElem?_toList] at ht; exact List.mem_of_getElem? ht)
  exact (show Tryd.prog.wantsStandIn t = false by simpa using this)
theorem card : Rows.StoreFloorsCardSaid :=
  Claim7.holds_tied_plain_at .later [] _ _ _ _ said (fun _ h => by cases h) (by kernel_rfl) (fun _ h => by cases h) storeFloors_row_tie rfl ⟨rfl, rfl⟩ (by kernel_rfl) rfl plain (by kernel_rfl)
end Go.Proofs.YtcijddeommognaaDoor.Abs.storeFloors
namespace Go.Proofs.YtcijddeommognaaDoor
theorem storeFloors_card : Rows.StoreFloorsCardSaid := Abs.storeFloors.card
end Go.Proofs.YtcijddeommognaaDoor
