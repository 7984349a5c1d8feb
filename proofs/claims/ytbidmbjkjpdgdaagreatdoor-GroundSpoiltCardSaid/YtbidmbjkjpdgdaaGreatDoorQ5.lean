import Derived.Test.YtbidmbjkjpdgdaaGreatDoorF2
import Derived.Test.YtbidmbjkjpdgdaaGreatDoorP1
import Derived.Test.YtbidmbjkjpdgdaaGreatDoorA4
import Derived.Test.YtbidmbjkjpdgdaaGreatDoorCards
import Derived.Test.YtbidmbjkjpdgdaaGreatDoorTie
import Derived.WalkKit
import Derived.ProofKit
import Derived.OpenShut
import Derived.Deep.DeepHandedRow
import Derived.Lib.LaidTab
import Derived.Stop.LaidErr
set_option linter.unusedVariables false
set_option maxRecDepth 100000
namespace Go.Proofs.YtbidmbjkjpdgdaaGreatDoor.Abs
open Go.Shelf Go.Sort
noncomputable def G5_C : CalT := tabC [G6_E, G8_E, G7_E, G9_E, G11_E]
theorem G5_CV : CV Tryz.prog G5_C := tabC_valid (l := _) ⟨G6_valid, G8_valid, G7_valid, G9_valid, G11_valid, trivial⟩
noncomputable def G5 (a0 : E25) (a1 : Int) (a2 : Int) : Option Bool :=
  (bif (decide ((List.length a0.1 : Int) > 12)) then
  (Option.bind G6 fun r1 =>
    some r1)
  else
  (Option.bind (G8 a0) fun r2 =>
    (bif (!r2) then
      (Option.bind G6 fun r3 =>
        some r3)
      else
      (bif (decide (a2 < 32)) then
        (Option.bind G6 fun r4 =>
          some r4)
        else
        (bif (decide (a2 > 126)) then
          (Option.bind G6 fun r5 =>
            some r5)
          else
          (Option.bind (G7 a0) fun r6 =>
            (bif (r6.2.1 != 0) then
              some false
              else
              (bif (decide (a1 < 0)) then
                (Option.bind G6 fun r7 =>
                  some r7)
                else
                (bif (decide (a1 ≥ (ByteArray.size r6.1 : Int))) then
                  (Option.bind G6 fun r8 =>
                    some r8)
                  else
                  (bif (decide (0 ≤ a1) && decide (a1 < (ByteArray.size r6.1 : Int))) then
                    (bif ((IntKind.wrap .i64 (bt r6.1 a1)) == a2) then
                      (Option.bind G6 fun r9 =>
                        some r9)
                      else
                      (bif (decide ((0 : Int) ≤ a1) && decide (a1 < (ByteArray.size r6.1 : Int)) && true && true) then
                        (Option.bind (G9 (strI (List.set (bytesI r6.1) (Int.toNat a1) (spoilB a2)))) fun r10 =>
                          (bif (r10.2.1 == 4) then
                            (Option.bind (G11 r10.1 ([], ((0, (0, ())), ()))) fun r11 =>
                              (bif r11 then
                                (Option.bind G6 fun r12 =>
                                  some r12)
                                else
                                some false))
                            else
                            some false))
                        else
                        none))
                    else
                    none))))))))))
theorem G5_LV : LV 0 Tryz.prog false (loopsOf (bodyOf Tryz.f5)) [] := by unfold LV; cases loopsOf (bodyOf Tryz.f5) <;> trivial
theorem G5_ent : Ent Tryz.prog 5 := ⟨by decide, enters_of Tryz.func5 (by kernel_rfl) rfl⟩
theorem G5_hev : ∀ x, fnT Tryz.prog G5_C 60 7 1 2 9 [54, 55, 56, 57, 58, 59, 60] spoilB 5 [] Tryz.f5 (bodyOf Tryz.f5) (encs [.dat T25, .dat (.int .i64), .dat (.int .i64)] x) ⟨[], [], 0⟩ (frzV (.dat .bool)) = G5 x.1 x.2.1 x.2.2.1 := by
  intro x; kernel_rfl
theorem G5_lcall : ∀ x r, (fun x : Els [.dat T25, .dat (.int .i64), .dat (.int .i64)] => G5 x.1 x.2.1 x.2.2.1) x = some r → LCall 0 Tryz.prog 5 (encs [.dat T25, .dat (.int .i64), .dat (.int .i64)] x) ⟨[], [], 0⟩ (.d .bool r) ⟨[], [], 0⟩ := frzT_lcall (R := .dat .bool) mixed Tryz.func5 rfl G5_ent G5_CV spoil_ok G5_LV (by kernel_rfl) G5_hev
end Go.Proofs.YtbidmbjkjpdgdaaGreatDoor.Abs
set_option linter.unusedVariables false
set_option linter.unusedSimpArgs false
set_option maxRecDepth 100000
namespace Go.Proofs.YtbidmbjkjpdgdaaGreatDoor.Abs
open Classical
attribute [local irreducible] G6 G9 G7 G8 G11
theorem law5 (p : E25) (at_ digit : Int) : G5 p at_ digit = some true := by
  unfold G5
  simp only [known_ok, Option.bind_some]
  by_cases h1 : (List.length p.1 : Int) > 12
  · rw [decide_eq_true h1]; rfl
  rw [decide_eq_false h1, cond_false, tg38 p (by omega)]
  by_cases hok : okPl p = true
  case neg =>
    have hok' : okPl p = false := by cases h : okPl p <;> simp_all
    simp only [hok', Option.bind_some, Bool.not_false, cond_true]
  obtain ⟨f, hf, rfl, hn⟩ := toLg hok
  simp only [hok, Option.bind_some, Bool.not_true, cond_false]
  by_cases hd0 : digit < 32
  · rw [decide_eq_true hd0]; rfl
  rw [decide_eq_false hd0, cond_false]
  by_cases hd9 : digit > 126
  · rw [decide_eq_true hd9]; rfl
  rw [decide_eq_false hd9, cond_false]
  simp only [print_ok hf (by omega) hok, Option.bind_some, bne_self_eq_false, cond_false, mkB_size]
  by_cases ha0 : at_ < 0
  · rw [decide_eq_true ha0]; rfl
  rw [decide_eq_false ha0, cond_false]
  by_cases ha1 : at_ ≥ ((log f).length : Int)
  · rw [decide_eq_true ha1]; rfl
  rw [decide_eq_false ha1, cond_false]
  obtain ⟨i, rfl⟩ : ∃ i : Nat, at_ = (i : Int) := ⟨at_.toNat, by omega⟩
  obtain ⟨d, rfl⟩ : ∃ d : Nat, digit = (d : Int) := ⟨digit.toNat, by omega⟩
  have hi : i < (log f).length := by omega
  have hb := UInt8.toNat_lt ((log f)[i])
  rw [ge0, decide_eq_true (p := (i : Int) < ((log f).length : Int)) (by omega), bt_mk hi, wr (n := (((log f)[i]).toNat : Int)) (by omega) (by omega)]
  simp only [Bool.and_self, cond_true]
  by_cases hsame : ((log f)[i]).toNat = d
  · rw [show ((((log f)[i]).toNat : Int) == (d : Int)) = true by rw [hsame]; simp]; rfl
  rw [show ((((log f)[i]).toNat : Int) == (d : Int)) = false from beq_eq_false_iff_ne.2 (by omega), cond_false, Int.toNat_natCast]
  have hx : strI (List.set (bytesI (mkB (log f))) i (spoilB (d : Int))) = mkB ((log f).set i (UInt8.ofNat d)) := bl_inj (by rw [bl_spoil d (by omega), bl_mk, bl_mk])
  rw [hx]
  have hr : G9 (mkB ((log f).set i (UInt8.ofNat d))) = some (zP, (4, ())) := by
    rcases read_eq (t := (log f).set i (UInt8.ofNat d)) (by rw [List.length_set]; have := log_len hf hn; omega) with ⟨g, hg, e, _⟩ | ⟨_, h⟩
    · have hdd : (UInt8.ofNat d).toNat = d := by simp; omega
      have := spoilt (u := (log f).take i) (v := (log f).drop (i + 1)) (p := (log f)[i]) (q := UInt8.ofNat d) (by omega) (self_app _ i hi) (by rw [← e, set_app _ i hi])
      rw [this] at hsame
      omega
    · exact h
  rw [hr]
  simp only [Option.bind_some, show ((4 : Int) == 4) = true from rfl, cond_true, same_z]
theorem G5_true : ∀ x : Els [.dat T25, .dat (.int .i64), .dat (.int .i64)], wfs [.dat T25, .dat (.int .i64), .dat (.int .i64)] x → G5 x.1 x.2.1 x.2.2.1 = some true := fun x _ => law5 _ _ _
end Go.Proofs.YtbidmbjkjpdgdaaGreatDoor.Abs
set_option linter.unusedVariables false
set_option maxRecDepth 100000
namespace Go.Proofs.YtbidmbjkjpdgdaaGreatDoor.Abs.groundSpoilt
open Go.ChangeShapes Go.WideShapes Go.RowKit
theorem own : ownKnob Tryz.prog.godebug = none := by kernel_rfl
theorem laidOut : laidOutB Tryz.prog = true := by kernel_rfl
theorem gTab : Tryz.prog.globalNamed "internal/strconv.uint64pow10" = some 0 := by kernel_rfl
theorem gTabType : (Tryz.prog.globals[0]?).map (·.type) = some 140 := by kernel_rfl
theorem cellsT : Tryz.prog.cellsOf 140 = 20 := by kernel_rfl
theorem cellsE : Tryz.prog.cellsOf 131 = 1 := by kernel_rfl
theorem undT : Tryz.prog.underlying 140 = some (.array 20 131) := by kernel_rfl
theorem undE : Tryz.prog.underlying 131 = some (.int .u64) := by kernel_rfl
theorem table {W : World} (h : laidMetH Tryz.prog Rows.groundSpoiltRow.laid W) : Lib.TabIs Tryz.prog W "internal/strconv.uint64pow10" .u64 [1, 10, 100, 1000, 10000, 100000, 1000000, 10000000, 100000000, 1000000000, 10000000000, 100000000000, 1000000000000, 10000000000000, 100000000000000, 1000000000000000, 10000000000000000, 100000000000000000, 1000000000000000000, 10000000000000000000] :=
  Lib.tabIs_of_head (rest := [("unicode/utf8.acceptRanges", Rows.laid_unicode_utf8_acceptRanges), ("unicode/utf8.first", Rows.laid_unicode_utf8_first)]) gTab gTabType undT undE cellsE cellsT (laidMet.tail (laidMet.tail (h)))
theorem tabOk {W : World} (h : laidMetH Tryz.prog Rows.groundSpoiltRow.laid W) : ∀ q ∈ TABS, ∃ e fr, W.heap[q.1]? = some (.cells q.2 e fr) := by
  have ht := table h
  unfold Lib.TabIs World.var? at ht
  rw [gTab] at ht
  simp only [Option.bind_some] at ht
  intro q hq
  have hq' : q = (0, _) := List.mem_singleton.1 hq
  subst hq'
  show ∃ e fr, W.heap[0]? = _
  split at ht
  · rename_i cs e fr hc
    exact ⟨e, fr, by rw [hc]; simp only [Option.some.injEq] at ht; rw [ht]; rfl⟩
  · cases ht
noncomputable def laidWorld (os : Os) : World :=
  { World.holding Tryz.prog os ⟨#[], #[], []⟩ with heap := ((((((World.holding Tryz.prog os ⟨#[], #[], []⟩).heap.modify 2 fun | .cells _ t frozen => .cells #[.int .u8 0, .int .u8 1, .int .u8 28, .int .u8 2, .int .u8 29, .int .u8 14, .int .u8 24, .int .u8 3, .int .u8 30, .int .u8 22, .int .u8 20, .int .u8 15, .int .u8 25, .int .u8 17, .int .u8 4, .int .u8 8, .int .u8 31, .int .u8 27, .int .u8 13, .int .u8 23, .int .u8 21, .int .u8 19, .int .u8 16, .int .u8 7, .int .u8 26, .int .u8 12, .int .u8 18, .int .u8 6, .int .u8 11, .int .u8 5, .int .u8 10, .int .u8 9] t frozen | o => o).modify 3 fun | .cells _ t frozen => .cells #[.int .u8 0, .int .u8 1, .int .u8 56, .int .u8 2, .int .u8 57, .int .u8 49, .int .u8 28, .int .u8 3, .int .u8 61, .int .u8 58, .int .u8 42, .int .u8 50, .int .u8 38, .int .u8 29, .int .u8 17, .int .u8 4, .int .u8 62, .int .u8 47, .int .u8 59, .int .u8 36, .int .u8 45, .int .u8 43, .int .u8 51, .int .u8 22, .int .u8 53, .int .u8 39, .int .u8 33, .int .u8 30, .int .u8 24, .int .u8 18, .int .u8 12, .int .u8 5, .int .u8 63, .int .u8 55, .int .u8 48, .int .u8 27, .int .u8 60, .int .u8 41, .int .u8 37, .int .u8 16, .int .u8 46, .int .u8 35, .int .u8 44, .int .u8 21, .int .u8 52, .int .u8 32, .int .u8 23, .int .u8 11, .int .u8 54, .int .u8 26, .int .u8 40, .int .u8 15, .int .u8 34, .int .u8 20, .int .u8 31, .int .u8 10, .int .u8 25, .int .u8 14, .int .u8 19, .int .u8 9, .int .u8 13, .int .u8 8, .int .u8 7, .int .u8 6] t frozen | o => o).modify 0 fun | .cells _ t frozen => .cells #[.int .u64 1, .int .u64 10, .int .u64 100, .int .u64 1000, .int .u64 10000, .int .u64 100000, .int .u64 1000000, .int .u64 10000000, .int .u64 100000000, .int .u64 1000000000, .int .u64 10000000000, .int .u64 100000000000, .int .u64 1000000000000, .int .u64 10000000000000, .int .u64 100000000000000, .int .u64 1000000000000000, .int .u64 10000000000000000, .int .u64 100000000000000000, .int .u64 1000000000000000000, .int .u64 10000000000000000000] t frozen | o => o).modify 5 fun | .cells _ t frozen => .cells #[.int .u8 128, .int .u8 191, .int .u8 160, .int .u8 191, .int .u8 128, .int .u8 159, .int .u8 144, .int .u8 191, .int .u8 128, .int .u8 143, .int .u8 0, .int .u8 0, .int .u8 0, .int .u8 0, .int .u8 0, .int .u8 0, .int .u8 0, .int .u8 0, .int .u8 0, .int .u8 0, .int .u8 0, .int .u8 0, .int .u8 0, .int .u8 0, .int .u8 0, .int .u8 0, .int .u8 0, .int .u8 0, .int .u8 0, .int .u8 0, .int .u8 0, .int .u8 0] t frozen | o => o).modify 4 fun | .cells _ t frozen => .cells (Go.Pinned.utf8FirstZ.map fun n : Nat => Value.int .u8 (n : Int)).toArray t frozen | o => o) }
theorem laid_met (os : Os) : laidMet Tryz.prog Rows.groundSpoiltRow.laid ((laidWorld os).forCall (fun _ _ => 0) ⟨#[], #[(Value.agg #[.slice none 0 0, .int .i64 0, .int .i64 0]), (Value.int .i64 0), (Value.int .i64 0)], []⟩).memory :=
  laidMet_of_run' 8 (by kernel_rfl) (by kernel_rfl)
theorem reads (os : Os) {H : Type} (enc : TypeId × Value → H) : ∃ places, DataW.whole enc Tryz.prog ((laidWorld os).forCall (fun _ _ => 0) ⟨#[], #[(Value.agg #[.slice none 0 0, .int .i64 0, .int .i64 0]), (Value.int .i64 0), (Value.int .i64 0)], []⟩).memory Tryz.f5.params.toList Rows.groundSpoiltSpec.vars false #[(Value.agg #[.slice none 0 0, .int .i64 0, .int .i64 0]), (Value.int .i64 0), (Value.int .i64 0)].toList 16 = some ([.agg [.nil, .agg [.lit (.int .i64 0), .lit (.int .i64 0)]], .lit (.int .i64 0), .lit (.int .i64 0)], [], places) :=
  ⟨[], by kernel_rfl⟩
theorem spec_fn (H : Type) : (ds : List (DataW H)) → ds.length = Tryz.f5.params.toList.length → (Rows.groundSpoiltSpec.fn H ds).results = [.lit (.bool true)] ∧ (Rows.groundSpoiltSpec.fn H ds).args = ds ∧ (Rows.groundSpoiltSpec.fn H ds).vars = []
  | [], h => by rw [show Tryz.f5.params.toList.length = 3 from by kernel_rfl] at h; simp at h
  | [d0], h => by rw [show Tryz.f5.params.toList.length = 3 from by kernel_rfl] at h; simp at h
  | [d0, d1], h => by rw [show Tryz.f5.params.toList.length = 3 from by kernel_rfl] at h; simp at h
  | [d0, d1, d2], _ => ⟨rfl, rfl, rfl⟩
  | d0 :: d1 :: d2 :: _ :: _, h => by rw [show Tryz.f5.params.toList.length = 3 from by kernel_rfl] at h; simp at h
theorem contract (H : Type) (enc : TypeId × Value → H) (W : World) (base : Nat) (args : Array Value) (ds gs : List (DataW H)) (before : List MemPlace)
    (hval : ∀ (j : Nat) t v, Tryz.f5.params[j]? = some t → args[j]? = some v → Value.okWide Tryz.prog W .any base t v)
    (hW : DataW.Whole enc Tryz.prog Tryz.f5.params.toList Rows.groundSpoiltSpec.vars false W args.toList ds gs before) (hL : laidMetH Tryz.prog Rows.groundSpoiltRow.laid W) :
    Calls Tryz.prog 5 args W fun e W' => ∃ v, e = .returned v ∧ Rows.groundSpoiltSpec.post enc Tryz.prog Tryz.f5 false true false false W args v W' :=
  law_contract (n := 20) (fun x r h => G5_lcall x r h) (fun x hx => G5_true x hx) (by decide) (show Tryz.f5.resultTypes = #[4] by kernel_rfl) (by kernel_rfl) (by kernel_rfl) laidOut (by
    intro t ht
    have : (Tryz.f5.params.toList.all fun t => Tryz.prog.readableRec t && decide (t < Tryz.prog.types.size)) = true := by kernel_rfl
    have := List.all_eq_true.1 this t ht
    simpa using this) rfl spec_fn hval hW (tabOk hL)
theorem lifted (os : Os) (started : os.Started) (H : Type) (enc : TypeId × Value → H) (F : Stop.Interp) :
    ReturnsInHanded {} Tryz.checked os 5 .any ((OpenSpec.ofChange Rows.groundSpoiltSpec).preRow enc Tryz.prog Tryz.f5 Rows.groundSpoiltRow.domain false Rows.groundSpoiltRow.laid) (((OpenSpec.ofChange Rows.groundSpoiltSpec).at F).post enc Tryz.prog Tryz.f5 false true false false) := by
  obtain ⟨places, hx⟩ := reads os enc
  refine returnsInHanded_of_row (C := Tryz.checked) (s := OpenSpec.ofChange Rows.groundSpoiltSpec) own started (by kernel_rfl) Tryz.func5
    (witness_row_at (enc := enc) (C := Tryz.checked) false (laidWorld os) #[(Value.agg #[.slice none 0 0, .int .i64 0, .int .i64 0]), (Value.int .i64 0), (Value.int .i64 0)] rfl (by kernel_rfl) (by kernel_rfl) (by kernel_rfl)
      (OpenSpec.preRow_of_cond 16 hx (by kernel_rfl) (fun k hk => by cases hk) (by kernel_rfl) (laid_met os))) ?_
  intro W base args ds gs before hval hW _ _ _ hL _ _
  exact contract H enc W base args ds gs before hval hW hL
theorem said : Rows.GroundSpoiltSaid :=
  OpenClaim.holds_of_cond 5 Tryz.f5 rfl rfl rfl rfl rfl rfl rfl ⟨rfl, rfl, rfl, rfl, rfl⟩ rfl rfl rfl rfl rfl (by kernel_rfl) Tryz.func5 (by kernel_rfl)
    (of_decide_eq_true (by kernel_rfl)) (by unfold Func.isWrapper; first | (rw [if_pos (by decide +kernel)]; kernel_rfl) | (rw [if_neg (by decide +kernel)]; exact ⟨rfl, rfl⟩))
    (fun os started H enc _ F => by rw [OpenClaim.pre_eq_preRow]; exact lifted os started H enc F)
theorem plain (f : FuncId) (fn : Func) (hf : Tryz.pinned.checked.prog.funcNamed "talik/taliklaw01.GroundSpoilt" = some f) (hfn : Tryz.pinned.checked.prog.funcs[f]? = some fn) :
    true = Tryz.pinned.checked.prog.looks [] ∧ ∀ (j : Nat) t, fn.params[j]? = some t → Tryz.pinned.checked.prog.wantsStandIn t = false := by
  obtain rfl : f = 5 := Option.some.inj ((show Tryz.prog.funcNamed "talik/taliklaw01.GroundSpoilt" = some 5 by kernel_rfl).symm.trans hf) |>.symm
  obtain rfl : fn = Tryz.f5 := (Option.some.inj (Tryz.func5.symm.trans hfn)).symm
  refine ⟨by kernel_rfl, fun j t ht => ?_⟩
  have h : (Tryz.f5.params.toList.all fun t => !Tryz.prog.wantsStandIn t) = true := by kernel_rfl
  have := List.all_eq_true.1 h t (by rw [← Array.getElem?_toList] at ht; exact List.mem_of_getElem? ht)
  exact (show Tryz.prog.wantsStandIn t = false by simpa using this)
theorem card : Rows.GroundSpoiltCardSaid :=
  Claim7.holds_tied_plain_at .later [] _ _ _ _ said (fun _ h => by cases h) (by kernel_rfl) (fun _ h => by cases h) groundSpoilt_row_tie rfl ⟨rfl, rfl⟩ (by kernel_rfl) rfl plain (by kernel_rfl)
end Go.Proofs.YtbidmbjkjpdgdaaGreatDoor.Abs.groundSpoilt
namespace Go.Proofs.YtbidmbjkjpdgdaaGreatDoor
theorem groundSpoilt_card : Rows.GroundSpoiltCardSaid := Abs.groundSpoilt.card
end Go.Proofs.YtbidmbjkjpdgdaaGreatDoor
