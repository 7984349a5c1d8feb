import Derived.Test.YtcijddeommognaaDoorF2
import Derived.Test.YtcijddeommognaaDoorP1
import Derived.Test.YtcijddeommognaaDoorA4
import Derived.Test.YtcijddeommognaaDoorCards
import Derived.Test.YtcijddeommognaaDoorTie
import Derived.WalkKit
import Derived.ProofKit
import Derived.OpenShut
import Derived.Deep.DeepHandedRow
import Derived.Lib.LaidTab
import Derived.Stop.LaidErr
set_option linter.unusedVariables false
set_option maxRecDepth 100000
namespace Go.Proofs.YtcijddeommognaaDoor.Abs
open Go.Shelf Go.Sort
noncomputable def G14_C : CalT := tabC [G20_E, G40_E, G39_E, G41_E]
theorem G14_CV : CV Tryd.prog G14_C := tabC_valid (l := _) ⟨G20_valid, G40_valid, G39_valid, G41_valid, trivial⟩
noncomputable def G14 (a0 : (List E39)) (a1 : Int) (a2 : Int) : Option Bool :=
  (bif (decide ((List.length a0 : Int) > 6)) then
  (Option.bind G20 fun r1 =>
    some r1)
  else
  (Option.bind (G40 a0) fun r2 =>
    (bif (!r2) then
      (Option.bind G20 fun r3 =>
        some r3)
      else
      (bif (decide (a2 < 0)) then
        (Option.bind G20 fun r4 =>
          some r4)
        else
        (bif (decide (a2 > 9)) then
          (Option.bind G20 fun r5 =>
            some r5)
          else
          (Option.bind (G39 a0) fun r6 =>
            (bif (r6.2.1 != 0) then
              some false
              else
              (bif (decide (a1 < 0)) then
                (Option.bind G20 fun r7 =>
                  some r7)
                else
                (bif (decide (a1 ≥ (ByteArray.size r6.1 : Int))) then
                  (Option.bind G20 fun r8 =>
                    some r8)
                  else
                  (bif (decide (0 ≤ a1) && decide (a1 < (ByteArray.size r6.1 : Int))) then
                    (bif (decide ((bt r6.1 a1) < 48)) then
                      (Option.bind G20 fun r9 =>
                        some r9)
                      else
                      (bif (decide (0 ≤ a1) && decide (a1 < (ByteArray.size r6.1 : Int))) then
                        (bif (decide ((bt r6.1 a1) > 57)) then
                          (Option.bind G20 fun r10 =>
                            some r10)
                          else
                          (bif (decide (0 ≤ a1) && decide (a1 < (ByteArray.size r6.1 : Int))) then
                            (bif ((IntKind.wrap .i64 (IntKind.wrap .u8 ((bt r6.1 a1) - 48))) == a2) then
                              (Option.bind G20 fun r11 =>
                                some r11)
                              else
                              (bif (decide ((0 : Int) ≤ a1) && decide (a1 < (ByteArray.size r6.1 : Int)) && true && true) then
                                (Option.bind (G41 (strI (List.set (bytesI r6.1) (Int.toNat a1) (spoilB a2)))) fun r12 =>
                                  (bif (r12.2.1 == 4) then
                                    (bif ((List.length r12.1 : Int) == 0) then
                                      (Option.bind G20 fun r13 =>
                                        some r13)
                                      else
                                      some false)
                                    else
                                    some false))
                                else
                                none))
                            else
                            none))
                        else
                        none))
                    else
                    none))))))))))
theorem G14_LV : LV 0 Tryd.prog false (loopsOf (bodyOf Tryd.f14)) [] := by unfold LV; cases loopsOf (bodyOf Tryd.f14) <;> trivial
theorem G14_ent : Ent Tryd.prog 14 := ⟨by decide, enters_of Tryd.func14 (by kernel_rfl) rfl⟩
theorem G14_hev : ∀ x, fnT Tryd.prog G14_C 73 7 1 2 9 [66, 67, 68, 69, 70, 71, 72, 73] spoilB 5 [] Tryd.f14 (bodyOf Tryd.f14) (encs [.dat (.list T39), .dat (.int .i64), .dat (.int .i64)] x) ⟨[], [], 0⟩ (frzV (.dat .bool)) = G14 x.1 x.2.1 x.2.2.1 := by
  intro x; kernel_rfl
theorem G14_lcall : ∀ x r, (fun x : Els [.dat (.list T39), .dat (.int .i64), .dat (.int .i64)] => G14 x.1 x.2.1 x.2.2.1) x = some r → LCall 0 Tryd.prog 14 (encs [.dat (.list T39), .dat (.int .i64), .dat (.int .i64)] x) ⟨[], [], 0⟩ (.d .bool r) ⟨[], [], 0⟩ := frzT_lcall (R := .dat .bool) mixed Tryd.func14 rfl G14_ent G14_CV spoil_ok G14_LV (by kernel_rfl) G14_hev
end Go.Proofs.YtcijddeommognaaDoor.Abs
set_option linter.unusedVariables false
set_option linter.unusedSimpArgs false
set_option maxRecDepth 100000
namespace Go.Proofs.YtcijddeommognaaDoor.Abs
open Classical
attribute [local irreducible] G20 G41 G39 G40
theorem law14 (L : List E39) (hw : ∀ x ∈ L, x.2.1.length = 3) (at_ digit : Int) : G14 L at_ digit = some true := by
  unfold G14
  simp only [known_ok, Option.bind_some]
  by_cases h1 : (L.length : Int) > 6
  · rw [decide_eq_true h1]; rfl
  rw [decide_eq_false h1, cond_false]
  by_cases hok : ∀ x ∈ L, OkShip x
  case neg =>
    rw [(ships40 _ (by omega)).nval hok]
    rfl
  rw [(ships40 _ (by omega)).val hok]
  obtain ⟨l, hf, rfl⟩ := toL hw hok
  have hl : l.length ≤ 6 := by rw [List.length_map] at h1; omega
  simp only [Option.bind_some, Bool.not_true, cond_false]
  by_cases hd0 : digit < 0
  · rw [decide_eq_true hd0]; rfl
  rw [decide_eq_false hd0, cond_false]
  by_cases hd9 : digit > 9
  · rw [decide_eq_true hd9]; rfl
  rw [decide_eq_false hd9, cond_false]
  simp only [print_ok hf hl hok, Option.bind_some, bne_self_eq_false, cond_false, mkB_size]
  by_cases ha0 : at_ < 0
  · rw [decide_eq_true ha0]; rfl
  rw [decide_eq_false ha0, cond_false]
  by_cases ha1 : at_ ≥ ((mani l).length : Int)
  · rw [decide_eq_true ha1]; rfl
  rw [decide_eq_false ha1, cond_false]
  obtain ⟨i, rfl⟩ : ∃ i : Nat, at_ = (i : Int) := ⟨at_.toNat, by omega⟩
  obtain ⟨d, rfl⟩ : ∃ d : Nat, digit = (d : Int) := ⟨digit.toNat, by omega⟩
  have hi : i < (mani l).length := by omega
  rw [ge0, decide_eq_true (p := (i : Int) < ((mani l).length : Int)) (by omega), bt_mk hi]
  simp only [Bool.and_self, cond_true]
  by_cases h48 : (((mani l)[i]).toNat : Int) < 48
  · rw [decide_eq_true h48]; rfl
  rw [decide_eq_false h48, cond_false]
  by_cases h57 : (((mani l)[i]).toNat : Int) > 57
  · rw [decide_eq_true h57]; rfl
  rw [decide_eq_false h57, cond_false]
  have e1 : IntKind.wrap .i64 (IntKind.wrap .u8 ((((mani l)[i]).toNat : Int) - 48)) = ((((mani l)[i]).toNat - 48 : Nat) : Int) := by
    rw [show IntKind.wrap .u8 ((((mani l)[i]).toNat : Int) - 48) = ((((mani l)[i]).toNat - 48 : Nat) : Int) by rw [IntKind.wrap_u8]; omega, wr (by omega) (by omega)]
  rw [e1]
  by_cases hsame : ((mani l)[i]).toNat - 48 = d
  · rw [show (((((mani l)[i]).toNat - 48 : Nat) : Int) == (d : Int)) = true by rw [hsame]; simp]; rfl
  rw [show (((((mani l)[i]).toNat - 48 : Nat) : Int) == (d : Int)) = false from beq_eq_false_iff_ne.2 (by omega), cond_false, Int.toNat_natCast]
  have hx : strI (List.set (bytesI (mkB (mani l))) i (spoilB (d : Int))) = mkB ((mani l).set i (UInt8.ofNat (48 + d))) := bl_inj (by rw [bl_spoil d (by omega), bl_mk, bl_mk])
  rw [hx]
  have hr : G41 (mkB ((mani l).set i (UInt8.ofNat (48 + d)))) = some ([], (4, ())) := by
    rcases Read_eq (t := (mani l).set i (UInt8.ofNat (48 + d))) (by rw [List.length_set]; exact mani_len hf hl) with ⟨g, hg, e, _⟩ | ⟨_, h⟩
    · have hdd : (UInt8.ofNat (48 + d)).toNat = 48 + d := dg_of (by omega)
      have := spoilt hf hg (by omega) (u := (mani l).take i) (v := (mani l).drop (i + 1)) (p := (mani l)[i]) (q := UInt8.ofNat (48 + d)) (by unfold isDg; omega) (by unfold isDg; omega) (self_app _ i hi) (by rw [← e, set_app _ i hi])
      rw [this] at hsame
      omega
    · exact h
  rw [hr]
  rfl
theorem G14_true : ∀ x : Els [.dat (.list T39), .dat (.int .i64), .dat (.int .i64)], wfs [.dat (.list T39), .dat (.int .i64), .dat (.int .i64)] x → G14 x.1 x.2.1 x.2.2.1 = some true := by
  rintro ⟨L, a, d, _⟩ ⟨hw, _⟩
  exact law14 L (fun x hx => (hw x hx).2.1.1) a d
end Go.Proofs.YtcijddeommognaaDoor.Abs
set_option linter.unusedVariables false
set_option maxRecDepth 100000
namespace Go.Proofs.YtcijddeommognaaDoor.Abs.storeSpoilt
open Go.ChangeShapes Go.WideShapes Go.RowKit
theorem own : ownKnob Tryd.prog.godebug = none := by kernel_rfl
theorem laidOut : laidOutB Tryd.prog = true := by kernel_rfl
theorem gTab : Tryd.prog.globalNamed "internal/strconv.uint64pow10" = some 0 := by kernel_rfl
theorem gTabType : (Tryd.prog.globals[0]?).map (·.type) = some 153 := by kernel_rfl
theorem cellsT : Tryd.prog.cellsOf 153 = 20 := by kernel_rfl
theorem cellsE : Tryd.prog.cellsOf 143 = 1 := by kernel_rfl
theorem undT : Tryd.prog.underlying 153 = some (.array 20 143) := by kernel_rfl
theorem undE : Tryd.prog.underlying 143 = some (.int .u64) := by kernel_rfl
theorem table {W : World} (h : laidMetH Tryd.prog Rows.storeSpoiltRow.laid W) : Lib.TabIs Tryd.prog W "internal/strconv.uint64pow10" .u64 [1, 10, 100, 1000, 10000, 100000, 1000000, 10000000, 100000000, 1000000000, 10000000000, 100000000000, 1000000000000, 10000000000000, 100000000000000, 1000000000000000, 10000000000000000, 100000000000000000, 1000000000000000000, 10000000000000000000] :=
  Lib.tabIs_of_head (rest := [("unicode/utf8.acceptRanges", Rows.laid_unicode_utf8_acceptRanges), ("unicode/utf8.first", Rows.laid_unicode_utf8_first)]) gTab gTabType undT undE cellsE cellsT (laidMet.tail (laidMet.tail (h)))
theorem tabOk {W : World} (h : laidMetH Tryd.prog Rows.storeSpoiltRow.laid W) : ∀ q ∈ TABS, ∃ e fr, W.heap[q.1]? = some (.cells q.2 e fr) := by
  have ht := table h
  unfold Lib.TabIs World.var? at ht
  rw [gTab] at ht
  simp only [Option.bind_some] at ht
  intro q hq
  have hq' : q = (0, _) := List.mem_singleton.1 hq
  subst hq'
  show ∃ e fr, W.heap[0]? = _
  split at ht
  · rename_i cs e fr hc
    exact ⟨e, fr, by rw [hc]; simp only [Option.some.injEq] at ht; rw [ht]; rfl⟩
  · cases ht
noncomputable def laidWorld (os : Os) : World :=
  { World.holding Tryd.prog os ⟨#[], #[], []⟩ with heap := ((((((World.holding Tryd.prog os ⟨#[], #[], []⟩).heap.modify 2 fun | .cells _ t frozen => .cells #[.int .u8 0, .int .u8 1, .int .u8 28, .int .u8 2, .int .u8 29, .int .u8 14, .int .u8 24, .int .u8 3, .int .u8 30, .int .u8 22, .int .u8 20, .int .u8 15, .int .u8 25, .int .u8 17, .int .u8 4, .int .u8 8, .int .u8 31, .int .u8 27, .int .u8 13, .int .u8 23, .int .u8 21, .int .u8 19, .int .u8 16, .int .u8 7, .int .u8 26, .int .u8 12, .int .u8 18, .int .u8 6, .int .u8 11, .int .u8 5, .int .u8 10, .int .u8 9] t frozen | o => o).modify 3 fun | .cells _ t frozen => .cells #[.int .u8 0, .int .u8 1, .int .u8 56, .int .u8 2, .int .u8 57, .int .u8 49, .int .u8 28, .int .u8 3, .int .u8 61, .int .u8 58, .int .u8 42, .int .u8 50, .int .u8 38, .int .u8 29, .int .u8 17, .int .u8 4, .int .u8 62, .int .u8 47, .int .u8 59, .int .u8 36, .int .u8 45, .int .u8 43, .int .u8 51, .int .u8 22, .int .u8 53, .int .u8 39, .int .u8 33, .int .u8 30, .int .u8 24, .int .u8 18, .int .u8 12, .int .u8 5, .int .u8 63, .int .u8 55, .int .u8 48, .int .u8 27, .int .u8 60, .int .u8 41, .int .u8 37, .int .u8 16, .int .u8 46, .int .u8 35, .int .u8 44, .int .u8 21, .int .u8 52, .int .u8 32, .int .u8 23, .int .u8 11, .int .u8 54, .int .u8 26, .int .u8 40, .int .u8 15, .int .u8 34, .int .u8 20, .int .u8 31, .int .u8 10, .int .u8 25, .int .u8 14, .int .u8 19, .int .u8 9, .int .u8 13, .int .u8 8, .int .u8 7, .int .u8 6] t frozen | o => o).modify 0 fun | .cells _ t frozen => .cells #[.int .u64 1, .int .u64 10, .int .u64 100, .int .u64 1000, .int .u64 10000, .int .u64 100000, .int .u64 1000000, .int .u64 10000000, .int .u64 100000000, .int .u64 1000000000, .int .u64 10000000000, .int .u64 100000000000, .int .u64 1000000000000, .int .u64 10000000000000, .int .u64 100000000000000, .int .u64 1000000000000000, .int .u64 10000000000000000, .int .u64 100000000000000000, .int .u64 1000000000000000000, .int .u64 10000000000000000000] t frozen | o => o).modify 5 fun | .cells _ t frozen => .cells #[.int .u8 128, .int .u8 191, .int .u8 160, .int .u8 191, .int .u8 128, .int .u8 159, .int .u8 144, .int .u8 191, .int .u8 128, .int .u8 143, .int .u8 0, .int .u8 0, .int .u8 0, .int .u8 0, .int .u8 0, .int .u8 0, .int .u8 0, .int .u8 0, .int .u8 0, .int .u8 0, .int .u8 0, .int .u8 0, .int .u8 0, .int .u8 0, .int .u8 0, .int .u8 0, .int .u8 0, .int .u8 0, .int .u8 0, .int .u8 0, .int .u8 0, .int .u8 0] t frozen | o => o).modify 4 fun | .cells _ t frozen => .cells (Go.Pinned.utf8FirstZ.map fun n : Nat => Value.int .u8 (n : Int)).toArray t frozen | o => o) }
theorem laid_met (os : Os) : laidMet Tryd.prog Rows.storeSpoiltRow.laid ((laidWorld os).forCall (fun _ _ => 0) ⟨#[], #[(Value.slice none 0 0), (Value.int .i64 0), (Value.int .i64 0)], []⟩).memory :=
  laidMet_of_run' 8 (by kernel_rfl) (by kernel_rfl)
theorem reads (os : Os) {H : Type} (enc : TypeId × Value → H) : ∃ places, DataW.whole enc Tryd.prog ((laidWorld os).forCall (fun _ _ => 0) ⟨#[], #[(Value.slice none 0 0), (Value.int .i64 0), (Value.int .i64 0)], []⟩).memory Tryd.f14.params.toList Rows.storeSpoiltSpec.vars false #[(Value.slice none 0 0), (Value.int .i64 0), (Value.int .i64 0)].toList 16 = some ([.nil, .lit (.int .i64 0), .lit (.int .i64 0)], [], places) :=
  ⟨[], by kernel_rfl⟩
theorem spec_fn (H : Type) : (ds : List (DataW H)) → ds.length = Tryd.f14.params.toList.length → (Rows.storeSpoiltSpec.fn H ds).results = [.lit (.bool true)] ∧ (Rows.storeSpoiltSpec.fn H ds).args = ds ∧ (Rows.storeSpoiltSpec.fn H ds).vars = []
  | [], h => by rw [show Tryd.f14.params.toList.length = 3 from by kernel_rfl] at h; simp at h
  | [d0], h => by rw [show Tryd.f14.params.toList.length = 3 from by kernel_rfl] at h; simp at h
  | [d0, d1], h => by rw [show Tryd.f14.params.toList.length = 3 from by kernel_rfl] at h; simp at h
  | [d0, d1, d2], _ => ⟨rfl, rfl, rfl⟩
  | d0 :: d1 :: d2 :: _ :: _, h => by rw [show Tryd.f14.params.toList.length = 3 from by kernel_rfl] at h; simp at h
theorem contract (H : Type) (enc : TypeId × Value → H) (W : World) (base : Nat) (args : Array Value) (ds gs : List (DataW H)) (before : List MemPlace)
    (hval : ∀ (j : Nat) t v, Tryd.f14.params[j]? = some t → args[j]? = some v → Value.okWide Tryd.prog W .any base t v)
    (hW : DataW.Whole enc Tryd.prog Tryd.f14.params.toList Rows.storeSpoiltSpec.vars false W args.toList ds gs before) (hL : laidMetH Tryd.prog Rows.storeSpoiltRow.laid W) :
    Calls Tryd.prog 14 args W fun e W' => ∃ v, e = .returned v ∧ Rows.storeSpoiltSpec.post enc Tryd.prog Tryd.f14 false true false false W args v W' :=
  law_contract (n := 20) (fun x r h => G14_lcall x r h) (fun x hx => G14_true x hx) (by decide) (show Tryd.f14.resultTypes = #[4] by kernel_rfl) (by kernel_rfl) (by kernel_rfl) laidOut (by
    intro t ht
    have : (Tryd.f14.params.toList.all fun t => Tryd.prog.readableRec t && decide (t < Tryd.prog.types.size)) = true := by kernel_rfl
    have := List.all_eq_true.1 this t ht
    simpa using this) rfl spec_fn hval hW (tabOk hL)
theorem lifted (os : Os) (started : os.Started) (H : Type) (enc : TypeId × Value → H) (F : Stop.Interp) :
    ReturnsInHanded {} Tryd.checked os 14 .any ((OpenSpec.ofChange Rows.storeSpoiltSpec).preRow enc Tryd.prog Tryd.f14 Rows.storeSpoiltRow.domain false Rows.storeSpoiltRow.laid) (((OpenSpec.ofChange Rows.storeSpoiltSpec).at F).post enc Tryd.prog Tryd.f14 false true false false) := by
  obtain ⟨places, hx⟩ := reads os enc
  refine returnsInHanded_of_row (C := Tryd.checked) (s := OpenSpec.ofChange Rows.storeSpoiltSpec) own started (by kernel_rfl) Tryd.func14
    (witness_row_at (enc := enc) (C := Tryd.checked) false (laidWorld os) #[(Value.slice none 0 0), (Value.int .i64 0), (Value.int .i64 0)] rfl (by kernel_rfl) (by kernel_rfl) (by kernel_rfl)
      (OpenSpec.preRow_of_cond 16 hx (by kernel_rfl) (fun k hk => by cases hk) (by kernel_rfl) (laid_met os))) ?_
  intro W base args ds gs before hval hW _ _ _ hL _ _
  exact contract H enc W base args ds gs before hval hW hL
theorem said : Rows.StoreSpoiltSaid :=
  OpenClaim.holds_of_cond 14 Tryd.f14 rfl rfl rfl rfl rfl rfl rfl ⟨rfl, rfl, rfl, rfl, rfl⟩ rfl rfl rfl rfl rfl (by kernel_rfl) Tryd.func14 (by kernel_rfl)
    (of_decide_eq_true (by kernel_rfl)) (by unfold Func.isWrapper; first | (rw [if_pos (by decide +kernel)]; kernel_rfl) | (rw [if_neg (by decide +kernel)]; exact ⟨rfl, rfl⟩))
    (fun os started H enc _ F => by rw [OpenClaim.pre_eq_preRow]; exact lifted os started H enc F)
theorem plain (f : FuncId) (fn : Func) (hf : Tryd.pinned.checked.prog.funcNamed "talik/taliklaw06.StoreSpoilt" = some f) (hfn : Tryd.pinned.checked.prog.funcs[f]? = some fn) :
    true = Tryd.pinned.checked.prog.looks [] ∧ ∀ (j : Nat) t, fn.params[j]? = some t → Tryd.pinned.checked.prog.wantsStandIn t = false := by
  obtain rfl : f = 14 := Option.some.inj ((show Tryd.prog.funcNamed "talik/taliklaw06.StoreSpoilt" = some 14 by kernel_rfl).symm.trans hf) |>.symm
  obtain rfl : fn = Tryd.f14 := (Option.some.inj (Tryd.func14.symm.trans hfn)).symm
  refine ⟨by kernel_rfl, fun j t ht => ?_⟩
  have h : (Tryd.f14.params.toList.all fun t => !Tryd.prog.wantsStandIn t) = true := by kernel_rfl
  have := List.all_eq_true.1 h t (by rw [← Array.getElem?_toList] at ht; exact List.mem_of_getElem? ht)
  exact (show Tryd.prog.wantsStandIn t = false by simpa using this)
theorem card : Rows.StoreSpoiltCardSaid :=
  Claim7.holds_tied_plain_at .later [] _ _ _ _ said (fun _ h => by cases h) (by kernel_rfl) (fun _ h => by cases h) storeSpoilt_row_tie rfl ⟨rfl, rfl⟩ (by kernel_rfl) rfl plain (by kernel_rfl)
end Go.Proofs.YtcijddeommognaaDoor.Abs.storeSpoilt
namespace Go.Proofs.YtcijddeommognaaDoor
theorem storeSpoilt_card : Rows.StoreSpoiltCardSaid := Abs.storeSpoilt.card
end Go.Proofs.YtcijddeommognaaDoor
