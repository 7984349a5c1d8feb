import Derived.Test.YtibmgbalfhfcdaaDoorF3
import Derived.Test.YtibmgbalfhfcdaaDoorP2
import Derived.Test.YtibmgbalfhfcdaaDoorA3
import Derived.Test.YtibmgbalfhfcdaaDoorP1
import Derived.Test.YtibmgbalfhfcdaaDoorCards
import Derived.Test.YtibmgbalfhfcdaaDoorTie
import Derived.WalkKit
import Derived.ProofKit
import Derived.OpenShut
import Derived.Deep.DeepHandedRow
import Derived.Lib.LaidTab
import Derived.Stop.LaidErr
set_option linter.unusedVariables false
set_option maxRecDepth 100000
namespace Go.Proofs.YtibmgbalfhfcdaaDoor.Abs
open Go.Shelf Go.Sort
noncomputable def G5_C : CalT := tabC [G11_E, G15_E, G13_E, G23_E, G30_E, G14_E, g25_sense_Least_E, G31_E, G32_E]
theorem G5_CV : CV Tryd.prog G5_C := tabC_valid (l := _) ⟨G11_valid, G15_valid, G13_valid, G23_valid, G30_valid, G14_valid, g25_sense_Least_valid, G31_valid, G32_valid, trivial⟩
noncomputable def G5 (a0 : E23) (a1 : (List E72)) : Option Bool :=
  (Option.bind (G11 a0 a1) fun r1 =>
  (bif (!r1) then
    (Option.bind G15 fun r2 =>
      some r2)
    else
    (Option.bind (G13 a0 a1) fun r3 =>
      (bif (r3 == 0) then
        (Option.bind (G23 a0) fun r4 =>
          (Option.bind (G30 r4) fun r5 =>
            (Option.bind (G14 a0 a1 r5) fun r6 =>
              (bif (!r6) then
                (Option.bind G15 fun r7 =>
                  some r7)
                else
                (Option.bind (g25_sense_Least a0 a1) fun r8 =>
                  (Option.bind (G13 a0 a1) fun r9 =>
                    (bif (r9 != 0) then
                      (bif (r8.2.1 == r9) then
                        (bif ((List.length r8.1 : Int) == 0) then
                          (Option.bind G15 fun r10 =>
                            some r10)
                          else
                          some false)
                        else
                        some false)
                      else
                      (Option.bind (G31 a0 a1) fun r11 =>
                        (bif ((List.length r11 : Int) == 0) then
                          (bif (r8.2.1 == 5) then
                            (bif ((List.length r8.1 : Int) == 0) then
                              (Option.bind G15 fun r12 =>
                                some r12)
                              else
                              some false)
                            else
                            some false)
                          else
                          (bif (r8.2.1 == 0) then
                            (Option.bind (G32 r8.1 r11) fun r13 =>
                              (bif r13 then
                                (Option.bind G15 fun r14 =>
                                  some r14)
                                else
                                some false))
                            else
                            some false))))))))))
        else
        (Option.bind (g25_sense_Least a0 a1) fun r15 =>
          (Option.bind (G13 a0 a1) fun r16 =>
            (bif (r16 != 0) then
              (bif (r15.2.1 == r16) then
                (bif ((List.length r15.1 : Int) == 0) then
                  (Option.bind G15 fun r17 =>
                    some r17)
                  else
                  some false)
                else
                some false)
              else
              (Option.bind (G31 a0 a1) fun r18 =>
                (bif ((List.length r18 : Int) == 0) then
                  (bif (r15.2.1 == 5) then
                    (bif ((List.length r15.1 : Int) == 0) then
                      (Option.bind G15 fun r19 =>
                        some r19)
                      else
                      some false)
                    else
                    some false)
                  else
                  (bif (r15.2.1 == 0) then
                    (Option.bind (G32 r15.1 r18) fun r20 =>
                      (bif r20 then
                        (Option.bind G15 fun r21 =>
                          some r21)
                        else
                        some false))
                    else
                    some false))))))))))
theorem G5_LV : LV 0 Tryd.prog false (loopsOf (bodyOf Tryd.f5)) [] := by unfold LV; cases loopsOf (bodyOf Tryd.f5) <;> trivial
theorem G5_ent : Ent Tryd.prog 5 := ⟨by decide, enters_of Tryd.func5 (by kernel_rfl) rfl⟩
theorem G5_hev : ∀ x, fnR Tryd.prog G5_C [] Tryd.f5 (bodyOf Tryd.f5) (encs [.dat T23, .dat (.list T72)] x) ⟨[], [], 0⟩ (frzF (.dat .bool)) = G5 x.1 x.2.1 := by
  intro x; kernel_rfl
theorem G5_lcall : ∀ x r, (fun x : Els [.dat T23, .dat (.list T72)] => G5 x.1 x.2.1) x = some r → LCall 0 Tryd.prog 5 (encs [.dat T23, .dat (.list T72)] x) ⟨[], [], 0⟩ (.d .bool r) ⟨[], [], 0⟩ := frz_lcall (R := .dat .bool) mixed Tryd.func5 rfl G5_ent G5_CV G5_LV (by kernel_rfl) (by kernel_rfl) G5_hev
end Go.Proofs.YtibmgbalfhfcdaaDoor.Abs
set_option linter.unusedVariables false
set_option linter.unusedSimpArgs false
set_option maxRecDepth 100000
namespace Go.Proofs.YtibmgbalfhfcdaaDoor.Abs
open Classical
attribute [local irreducible] G15 G13 g25_sense_Least G31 G32 G14 G30 G23
theorem law5 (s : E23) (l : List E72) : G5 s l = some true := by
  unfold G5
  by_cases h1 : (s.2.2.2.2.1).length ≤ 12 ∧ l.length ≤ 29
  case neg =>
    rw [short_tells, decide_eq_false h1]
    simp only [Option.bind_some, Bool.not_false, cond_true, known_ok]
  simp only [short_tells, decide_eq_true h1, Option.bind_some, Bool.not_true, cond_false]
  have n00 : ((0 : Int) != 0) = false := rfl
  have n20 : ((2 : Int) != 0) = true := rfl
  have n30 : ((3 : Int) != 0) = true := rfl
  have e00 : ((0 : Int) == 0) = true := rfl
  have e20 : ((2 : Int) == 0) = false := rfl
  have e30 : ((3 : Int) == 0) = false := rfl
  have e55 : ((5 : Int) == 5) = true := rfl
  have el0 : ((List.length ([] : List E26) : Int) == 0) = true := rfl
  rcases wanted_eq s l (by omega) (by omega) with ⟨hl, e⟩ | ⟨hl, hn, e⟩ | ⟨hsl, e⟩
  · rcases sleast_eq s l (by omega) with ⟨_, el⟩ | ⟨h, _⟩ | ⟨h, _⟩
    · simp only [e, el, Option.bind_some, e30, cond_false, n30, cond_true, beq_self_eq_true, el0, known_ok]
    · omega
    · have := h.1; omega
  · rcases sleast_eq s l (by omega) with ⟨h, _⟩ | ⟨_, _, el⟩ | ⟨h, _⟩
    · omega
    · simp only [e, el, Option.bind_some, e20, cond_false, n20, cond_true, beq_self_eq_true, el0, known_ok]
    · exact absurd h hn
  have hs := hsl.2.1
  have hsl1 := hsl.1
  have hn10 := nC_le hs
  have hp : (((2 ^ nC s : Nat) : Int)) ≠ 0 := by
    have := Nat.two_pow_pos (nC s)
    omega
  obtain ⟨lb, elb⟩ := light_some hs hsl.2.2 (by omega) hp
  simp only [e, Option.bind_some, e00, cond_true, causes_eq hs, power_eq hn10, elb]
  cases lb with
  | false => simp only [Bool.not_false, cond_true, known_ok, Option.bind_some]
  | true =>
    simp only [Bool.not_true, cond_false, n00]
    have le : ((∀ m, m ≤ nC s → exs s l (comb (nC s) (nC s) m 0) = []) ∧ g25_sense_Least s l = some ([], (5, ()))) ∨ (∃ out, LeastOut s l out ∧ g25_sense_Least s l = some (out, (0, ()))) := by
      rcases sleast_eq s l (by omega) with ⟨h, _⟩ | ⟨_, h, _⟩ | ⟨_, h⟩
      · omega
      · exact absurd hsl h
      · exact h
    rcases le with ⟨hno, el⟩ | ⟨out, ho, el⟩
    · rcases rleast_eq hs hsl.2.2 (by omega) with ⟨_, er⟩ | ⟨o', ⟨m, hm, _, hne, _⟩, _⟩
      · simp only [el, er, Option.bind_some, el0, e55, cond_true, known_ok]
      · exact absurd (hno m hm) hne
    · rcases rleast_eq hs hsl.2.2 (by omega) with ⟨hno, _⟩ | ⟨o', ho', hne', er⟩
      · obtain ⟨m, hm, _, hne, _⟩ := ho
        exact absurd (hno m hm) hne
      · have := leastOut_unique ho ho'
        subst this
        obtain ⟨m, hm, hl, hne, hoe⟩ := ho
        have hlen : out.length ≤ 1024 := by
          rw [hoe, List.length_map]
          have h1 := exs_len s l (comb (nC s) (nC s) m 0)
          have h2 := comb_len (nC s) (nC s) m 0
          have h3 : 2 ^ nC s ≤ 2 ^ 10 := Nat.pow_le_pow_right (by decide) hn10
          omega
        have hl0 : ((out.length : Int) == 0) = false := beq_eq_false_iff_ne.2 (by have := List.length_pos_iff.2 hne'; omega)
        have hsame := samecauses_self out (by omega) (fun c hc => by
          have h1 := (least_mem hs hoe hc).1
          have := cause_len hs h1
          omega)
        simp only [el, er, Option.bind_some, hl0, cond_false, e00, cond_true, hsame, known_ok]
theorem G5_true : ∀ x : Els [.dat T23, .dat (.list T72)], wfs [.dat T23, .dat (.list T72)] x → G5 x.1 x.2.1 = some true := fun x _ => law5 _ _
end Go.Proofs.YtibmgbalfhfcdaaDoor.Abs
set_option linter.unusedVariables false
set_option maxRecDepth 100000
namespace Go.Proofs.YtibmgbalfhfcdaaDoor.Abs.senseLeasts
open Go.ChangeShapes Go.WideShapes Go.RowKit
theorem own : ownKnob Tryd.prog.godebug = none := by kernel_rfl
theorem laidOut : laidOutB Tryd.prog = true := by kernel_rfl
theorem gTab : Tryd.prog.globalNamed "internal/strconv.uint64pow10" = some 0 := by kernel_rfl
theorem gTabType : (Tryd.prog.globals[0]?).map (·.type) = some 171 := by kernel_rfl
theorem cellsT : Tryd.prog.cellsOf 171 = 20 := by kernel_rfl
theorem cellsE : Tryd.prog.cellsOf 162 = 1 := by kernel_rfl
theorem undT : Tryd.prog.underlying 171 = some (.array 20 162) := by kernel_rfl
theorem undE : Tryd.prog.underlying 162 = some (.int .u64) := by kernel_rfl
theorem table {W : World} (h : laidMetH Tryd.prog Rows.senseLeastsRow.laid W) : Lib.TabIs Tryd.prog W "internal/strconv.uint64pow10" .u64 [1, 10, 100, 1000, 10000, 100000, 1000000, 10000000, 100000000, 1000000000, 10000000000, 100000000000, 1000000000000, 10000000000000, 100000000000000, 1000000000000000, 10000000000000000, 100000000000000000, 1000000000000000000, 10000000000000000000] :=
  Lib.tabIs_of_head (rest := []) gTab gTabType undT undE cellsE cellsT (laidMet.tail (laidMet.tail (h)))
theorem tabOk {W : World} (h : laidMetH Tryd.prog Rows.senseLeastsRow.laid W) : ∀ q ∈ TABS, ∃ e fr, W.heap[q.1]? = some (.cells q.2 e fr) := by
  have ht := table h
  unfold Lib.TabIs World.var? at ht
  rw [gTab] at ht
  simp only [Option.bind_some] at ht
  intro q hq
  have hq' : q = (0, _) := List.mem_singleton.1 hq
  subst hq'
  show ∃ e fr, W.heap[0]? = _
  split at ht
  · rename_i cs e fr hc
    exact ⟨e, fr, by rw [hc]; simp only [Option.some.injEq] at ht; rw [ht]; rfl⟩
  · cases ht
noncomputable def laidWorld (os : Os) : World :=
  { World.holding Tryd.prog os ⟨#[], #[], []⟩ with heap := ((((World.holding Tryd.prog os ⟨#[], #[], []⟩).heap.modify 2 fun | .cells _ t frozen => .cells #[.int .u8 0, .int .u8 1, .int .u8 28, .int .u8 2, .int .u8 29, .int .u8 14, .int .u8 24, .int .u8 3, .int .u8 30, .int .u8 22, .int .u8 20, .int .u8 15, .int .u8 25, .int .u8 17, .int .u8 4, .int .u8 8, .int .u8 31, .int .u8 27, .int .u8 13, .int .u8 23, .int .u8 21, .int .u8 19, .int .u8 16, .int .u8 7, .int .u8 26, .int .u8 12, .int .u8 18, .int .u8 6, .int .u8 11, .int .u8 5, .int .u8 10, .int .u8 9] t frozen | o => o).modify 3 fun | .cells _ t frozen => .cells #[.int .u8 0, .int .u8 1, .int .u8 56, .int .u8 2, .int .u8 57, .int .u8 49, .int .u8 28, .int .u8 3, .int .u8 61, .int .u8 58, .int .u8 42, .int .u8 50, .int .u8 38, .int .u8 29, .int .u8 17, .int .u8 4, .int .u8 62, .int .u8 47, .int .u8 59, .int .u8 36, .int .u8 45, .int .u8 43, .int .u8 51, .int .u8 22, .int .u8 53, .int .u8 39, .int .u8 33, .int .u8 30, .int .u8 24, .int .u8 18, .int .u8 12, .int .u8 5, .int .u8 63, .int .u8 55, .int .u8 48, .int .u8 27, .int .u8 60, .int .u8 41, .int .u8 37, .int .u8 16, .int .u8 46, .int .u8 35, .int .u8 44, .int .u8 21, .int .u8 52, .int .u8 32, .int .u8 23, .int .u8 11, .int .u8 54, .int .u8 26, .int .u8 40, .int .u8 15, .int .u8 34, .int .u8 20, .int .u8 31, .int .u8 10, .int .u8 25, .int .u8 14, .int .u8 19, .int .u8 9, .int .u8 13, .int .u8 8, .int .u8 7, .int .u8 6] t frozen | o => o).modify 0 fun | .cells _ t frozen => .cells #[.int .u64 1, .int .u64 10, .int .u64 100, .int .u64 1000, .int .u64 10000, .int .u64 100000, .int .u64 1000000, .int .u64 10000000, .int .u64 100000000, .int .u64 1000000000, .int .u64 10000000000, .int .u64 100000000000, .int .u64 1000000000000, .int .u64 10000000000000, .int .u64 100000000000000, .int .u64 1000000000000000, .int .u64 10000000000000000, .int .u64 100000000000000000, .int .u64 1000000000000000000, .int .u64 10000000000000000000] t frozen | o => o) }
theorem laid_met (os : Os) : laidMet Tryd.prog Rows.senseLeastsRow.laid ((laidWorld os).forCall (fun _ _ => 0) ⟨#[], #[(Value.agg #[.int .i64 0, .int .i64 0, .int .i64 0, .int .i64 0, .slice none 0 0]), (Value.slice none 0 0)], []⟩).memory :=
  laidMet_of_run' 8 (by kernel_rfl) (by kernel_rfl)
theorem reads (os : Os) {H : Type} (enc : TypeId × Value → H) : ∃ places, DataW.whole enc Tryd.prog ((laidWorld os).forCall (fun _ _ => 0) ⟨#[], #[(Value.agg #[.int .i64 0, .int .i64 0, .int .i64 0, .int .i64 0, .slice none 0 0]), (Value.slice none 0 0)], []⟩).memory Tryd.f5.params.toList Rows.senseLeastsSpec.vars false #[(Value.agg #[.int .i64 0, .int .i64 0, .int .i64 0, .int .i64 0, .slice none 0 0]), (Value.slice none 0 0)].toList 16 = some ([.agg [.lit (.int .i64 0), .lit (.int .i64 0), .lit (.int .i64 0), .lit (.int .i64 0), .nil], .nil], [], places) :=
  ⟨[], by kernel_rfl⟩
theorem spec_fn (H : Type) : (ds : List (DataW H)) → ds.length = Tryd.f5.params.toList.length → (Rows.senseLeastsSpec.fn H ds).results = [.lit (.bool true)] ∧ (Rows.senseLeastsSpec.fn H ds).args = ds ∧ (Rows.senseLeastsSpec.fn H ds).vars = []
  | [], h => by rw [show Tryd.f5.params.toList.length = 2 from by kernel_rfl] at h; simp at h
  | [d0], h => by rw [show Tryd.f5.params.toList.length = 2 from by kernel_rfl] at h; simp at h
  | [d0, d1], _ => ⟨rfl, rfl, rfl⟩
  | d0 :: d1 :: _ :: _, h => by rw [show Tryd.f5.params.toList.length = 2 from by kernel_rfl] at h; simp at h
theorem contract (H : Type) (enc : TypeId × Value → H) (W : World) (base : Nat) (args : Array Value) (ds gs : List (DataW H)) (before : List MemPlace)
    (hval : ∀ (j : Nat) t v, Tryd.f5.params[j]? = some t → args[j]? = some v → Value.okWide Tryd.prog W .any base t v)
    (hW : DataW.Whole enc Tryd.prog Tryd.f5.params.toList Rows.senseLeastsSpec.vars false W args.toList ds gs before) (hL : laidMetH Tryd.prog Rows.senseLeastsRow.laid W) :
    Calls Tryd.prog 5 args W fun e W' => ∃ v, e = .returned v ∧ Rows.senseLeastsSpec.post enc Tryd.prog Tryd.f5 false true false false W args v W' :=
  law_contract (n := 20) (fun x r h => G5_lcall x r h) (fun x hx => G5_true x hx) (by decide) (show Tryd.f5.resultTypes = #[4] by kernel_rfl) (by kernel_rfl) (by kernel_rfl) laidOut (by
    intro t ht
    have : (Tryd.f5.params.toList.all fun t => Tryd.prog.readableRec t && decide (t < Tryd.prog.types.size)) = true := by kernel_rfl
    have := List.all_eq_true.1 this t ht
    simpa using this) rfl spec_fn hval hW (tabOk hL)
theorem lifted (os : Os) (started : os.Started) (H : Type) (enc : TypeId × Value → H) (F : Stop.Interp) :
    ReturnsInHanded {} Tryd.checked os 5 .any ((OpenSpec.ofChange Rows.senseLeastsSpec).preRow enc Tryd.prog Tryd.f5 Rows.senseLeastsRow.domain false Rows.senseLeastsRow.laid) (((OpenSpec.ofChange Rows.senseLeastsSpec).at F).post enc Tryd.prog Tryd.f5 false true false false) := by
  obtain ⟨places, hx⟩ := reads os enc
  refine returnsInHanded_of_row (C := Tryd.checked) (s := OpenSpec.ofChange Rows.senseLeastsSpec) own started (by kernel_rfl) Tryd.func5
    (witness_row_at (enc := enc) (C := Tryd.checked) false (laidWorld os) #[(Value.agg #[.int .i64 0, .int .i64 0, .int .i64 0, .int .i64 0, .slice none 0 0]), (Value.slice none 0 0)] rfl (by kernel_rfl) (by kernel_rfl) (by kernel_rfl)
      (OpenSpec.preRow_of_cond 16 hx (by kernel_rfl) (fun k hk => by cases hk) (by kernel_rfl) (laid_met os))) ?_
  intro W base args ds gs before hval hW _ _ _ hL _ _
  exact contract H enc W base args ds gs before hval hW hL
theorem said : Rows.SenseLeastsSaid :=
  OpenClaim.holds_of_cond 5 Tryd.f5 rfl rfl rfl rfl rfl rfl rfl ⟨rfl, rfl, rfl, rfl, rfl⟩ rfl rfl rfl rfl rfl (by kernel_rfl) Tryd.func5 (by kernel_rfl)
    (of_decide_eq_true (by kernel_rfl)) (by unfold Func.isWrapper; first | (rw [if_pos (by decide +kernel)]; kernel_rfl) | (rw [if_neg (by decide +kernel)]; exact ⟨rfl, rfl⟩))
    (fun os started H enc _ F => by rw [OpenClaim.pre_eq_preRow]; exact lifted os started H enc F)
theorem plain (f : FuncId) (fn : Func) (hf : Tryd.pinned.checked.prog.funcNamed "talik/taliklaw05.SenseLeasts" = some f) (hfn : Tryd.pinned.checked.prog.funcs[f]? = some fn) :
    false = Tryd.pinned.checked.prog.looks [] ∧ ∀ (j : Nat) t, fn.params[j]? = some t → Tryd.pinned.checked.prog.wantsStandIn t = false := by
  obtain rfl : f = 5 := Option.some.inj ((show Tryd.prog.funcNamed "talik/taliklaw05.SenseLeasts" = some 5 by kernel_rfl).symm.trans hf) |>.symm
  obtain rfl : fn = Tryd.f5 := (Option.some.inj (Tryd.func5.symm.trans hfn)).symm
  refine ⟨by kernel_rfl, fun j t ht => ?_⟩
  have h : (Tryd.f5.params.toList.all fun t => !Tryd.prog.wantsStandIn t) = true := by kernel_rfl
  have := List.all_eq_true.1 h t (by rw [← Array.getElem?_toList] at ht; exact List.mem_of_getElem? ht)
  exact (show Tryd.prog.wantsStandIn t = false by simpa using this)
theorem card : Rows.SenseLeastsCardSaid :=
  Claim7.holds_tied_plain_at .later [] _ _ _ _ said (fun _ h => by cases h) (by kernel_rfl) (fun _ h => by cases h) senseLeasts_row_tie rfl ⟨rfl, rfl⟩ (by kernel_rfl) rfl plain (by kernel_rfl)
end Go.Proofs.YtibmgbalfhfcdaaDoor.Abs.senseLeasts
namespace Go.Proofs.YtibmgbalfhfcdaaDoor
theorem senseLeasts_card : Rows.SenseLeastsCardSaid := Abs.senseLeasts.card
end Go.Proofs.YtibmgbalfhfcdaaDoor
