/-
  talik/taliklaw01.GroundRivals: for every input the law returns true; its arguments read as they did. No condition.
-/
import Derived.Test.YtbidmbjkjpdgdaaDoorCards
import Derived.Test.YtbidmbjkjpdgdaaDoorTie
import Derived.Test.YtbidmbjkjpdgdaaDoorAbsRow
import Derived.Test.YtbidmbjkjpdgdaaDoorGp10
import Derived.WalkKit
import Derived.ProofKit
import Derived.OpenShut
import Derived.Deep.DeepHandedRow
import Derived.Lib.LaidTab
import Derived.Stop.LaidErr
set_option linter.unusedVariables false
set_option maxRecDepth 100000
namespace Go.Proofs.YtbidmbjkjpdgdaaDoor.Abs.groundRivals
open Go.ChangeShapes Go.WideShapes Go.RowKit
theorem own : ownKnob Tryd.prog.godebug = none := by kernel_rfl
theorem laidOut : laidOutB Tryd.prog = true := by kernel_rfl
theorem gTab : Tryd.prog.globalNamed "internal/strconv.uint64pow10" = some 0 := by kernel_rfl
theorem gTabType : (Tryd.prog.globals[0]?).map (·.type) = some 139 := by kernel_rfl
theorem cellsT : Tryd.prog.cellsOf 139 = 20 := by kernel_rfl
theorem cellsE : Tryd.prog.cellsOf 132 = 1 := by kernel_rfl
theorem undT : Tryd.prog.underlying 139 = some (.array 20 132) := by kernel_rfl
theorem undE : Tryd.prog.underlying 132 = some (.int .u64) := by kernel_rfl
theorem table {W : World} (h : laidMetH Tryd.prog Rows.groundRivalsRow.laid W) : Lib.TabIs Tryd.prog W "internal/strconv.uint64pow10" .u64 [1, 10, 100, 1000, 10000, 100000, 1000000, 10000000, 100000000, 1000000000, 10000000000, 100000000000, 1000000000000, 10000000000000, 100000000000000, 1000000000000000, 10000000000000000, 100000000000000000, 1000000000000000000, 10000000000000000000] :=
  Lib.tabIs_of_head (rest := []) gTab gTabType undT undE cellsE cellsT (laidMet.tail (laidMet.tail (h)))
theorem tabOk {W : World} (h : laidMetH Tryd.prog Rows.groundRivalsRow.laid W) : ∀ q ∈ TABS, ∃ e fr, W.heap[q.1]? = some (.cells q.2 e fr) := by
  have ht := table h
  unfold Lib.TabIs World.var? at ht
  rw [gTab] at ht
  simp only [Option.bind_some] at ht
  intro q hq
  have hq' : q = (0, _) := List.mem_singleton.1 hq
  subst hq'
  show ∃ e fr, W.heap[0]? = _
  split at ht
  · rename_i cs e fr hc
    exact ⟨e, fr, by rw [hc]; simp only [Option.some.injEq] at ht; rw [ht]; rfl⟩
  · cases ht
noncomputable def laidWorld (os : Os) : World :=
  { World.holding Tryd.prog os ⟨#[], #[], []⟩ with heap := ((((World.holding Tryd.prog os ⟨#[], #[], []⟩).heap.modify 1 fun | .cells _ t frozen => .cells #[.int .u8 0, .int .u8 1, .int .u8 28, .int .u8 2, .int .u8 29, .int .u8 14, .int .u8 24, .int .u8 3, .int .u8 30, .int .u8 22, .int .u8 20, .int .u8 15, .int .u8 25, .int .u8 17, .int .u8 4, .int .u8 8, .int .u8 31, .int .u8 27, .int .u8 13, .int .u8 23, .int .u8 21, .int .u8 19, .int .u8 16, .int .u8 7, .int .u8 26, .int .u8 12, .int .u8 18, .int .u8 6, .int .u8 11, .int .u8 5, .int .u8 10, .int .u8 9] t frozen | o => o).modify 2 fun | .cells _ t frozen => .cells #[.int .u8 0, .int .u8 1, .int .u8 56, .int .u8 2, .int .u8 57, .int .u8 49, .int .u8 28, .int .u8 3, .int .u8 61, .int .u8 58, .int .u8 42, .int .u8 50, .int .u8 38, .int .u8 29, .int .u8 17, .int .u8 4, .int .u8 62, .int .u8 47, .int .u8 59, .int .u8 36, .int .u8 45, .int .u8 43, .int .u8 51, .int .u8 22, .int .u8 53, .int .u8 39, .int .u8 33, .int .u8 30, .int .u8 24, .int .u8 18, .int .u8 12, .int .u8 5, .int .u8 63, .int .u8 55, .int .u8 48, .int .u8 27, .int .u8 60, .int .u8 41, .int .u8 37, .int .u8 16, .int .u8 46, .int .u8 35, .int .u8 44, .int .u8 21, .int .u8 52, .int .u8 32, .int .u8 23, .int .u8 11, .int .u8 54, .int .u8 26, .int .u8 40, .int .u8 15, .int .u8 34, .int .u8 20, .int .u8 31, .int .u8 10, .int .u8 25, .int .u8 14, .int .u8 19, .int .u8 9, .int .u8 13, .int .u8 8, .int .u8 7, .int .u8 6] t frozen | o => o).modify 0 fun | .cells _ t frozen => .cells #[.int .u64 1, .int .u64 10, .int .u64 100, .int .u64 1000, .int .u64 10000, .int .u64 100000, .int .u64 1000000, .int .u64 10000000, .int .u64 100000000, .int .u64 1000000000, .int .u64 10000000000, .int .u64 100000000000, .int .u64 1000000000000, .int .u64 10000000000000, .int .u64 100000000000000, .int .u64 1000000000000000, .int .u64 10000000000000000, .int .u64 100000000000000000, .int .u64 1000000000000000000, .int .u64 10000000000000000000] t frozen | o => o) }
theorem laid_met (os : Os) : laidMet Tryd.prog Rows.groundRivalsRow.laid ((laidWorld os).forCall (fun _ _ => 0) ⟨#[], #[(Value.agg #[.slice none 0 0, .int .i64 0, .int .i64 0]), (Value.slice none 0 0), (Value.int .i64 0), (Value.int .i64 0), (Value.int .i64 0), (Value.agg #[.slice none 0 0, .slice none 0 0, .slice none 0 0, .slice none 0 0, .slice none 0 0])], []⟩).memory :=
  laidMet_of_run' 8 (by kernel_rfl) (by kernel_rfl)
theorem reads (os : Os) {H : Type} (enc : TypeId × Value → H) : ∃ places, DataW.whole enc Tryd.prog ((laidWorld os).forCall (fun _ _ => 0) ⟨#[], #[(Value.agg #[.slice none 0 0, .int .i64 0, .int .i64 0]), (Value.slice none 0 0), (Value.int .i64 0), (Value.int .i64 0), (Value.int .i64 0), (Value.agg #[.slice none 0 0, .slice none 0 0, .slice none 0 0, .slice none 0 0, .slice none 0 0])], []⟩).memory Tryd.f10.params.toList Rows.groundRivalsSpec.vars false #[(Value.agg #[.slice none 0 0, .int .i64 0, .int .i64 0]), (Value.slice none 0 0), (Value.int .i64 0), (Value.int .i64 0), (Value.int .i64 0), (Value.agg #[.slice none 0 0, .slice none 0 0, .slice none 0 0, .slice none 0 0, .slice none 0 0])].toList 16 = some ([.agg [.nil, .agg [.lit (.int .i64 0), .lit (.int .i64 0)]], .nil, .lit (.int .i64 0), .lit (.int .i64 0), .lit (.int .i64 0), .agg [.nil, .nil, .nil, .nil, .nil]], [], places) :=
  ⟨[], by kernel_rfl⟩
theorem spec_fn (H : Type) : (ds : List (DataW H)) → ds.length = Tryd.f10.params.toList.length → (Rows.groundRivalsSpec.fn H ds).results = [.lit (.bool true)] ∧ (Rows.groundRivalsSpec.fn H ds).args = ds ∧ (Rows.groundRivalsSpec.fn H ds).vars = []
  | [], h => by rw [show Tryd.f10.params.toList.length = 6 from by kernel_rfl] at h; simp at h
  | [d0], h => by rw [show Tryd.f10.params.toList.length = 6 from by kernel_rfl] at h; simp at h
  | [d0, d1], h => by rw [show Tryd.f10.params.toList.length = 6 from by kernel_rfl] at h; simp at h
  | [d0, d1, d2], h => by rw [show Tryd.f10.params.toList.length = 6 from by kernel_rfl] at h; simp at h
  | [d0, d1, d2, d3], h => by rw [show Tryd.f10.params.toList.length = 6 from by kernel_rfl] at h; simp at h
  | [d0, d1, d2, d3, d4], h => by rw [show Tryd.f10.params.toList.length = 6 from by kernel_rfl] at h; simp at h
  | [d0, d1, d2, d3, d4, d5], _ => ⟨rfl, rfl, rfl⟩
  | d0 :: d1 :: d2 :: d3 :: d4 :: d5 :: _ :: _, h => by rw [show Tryd.f10.params.toList.length = 6 from by kernel_rfl] at h; simp at h
theorem contract (H : Type) (enc : TypeId × Value → H) (W : World) (base : Nat) (args : Array Value) (ds gs : List (DataW H)) (before : List MemPlace)
    (hval : ∀ (j : Nat) t v, Tryd.f10.params[j]? = some t → args[j]? = some v → Value.okWide Tryd.prog W .any base t v)
    (hW : DataW.Whole enc Tryd.prog Tryd.f10.params.toList Rows.groundRivalsSpec.vars false W args.toList ds gs before) (hL : laidMetH Tryd.prog Rows.groundRivalsRow.laid W) :
    Calls Tryd.prog 10 args W fun e W' => ∃ v, e = .returned v ∧ Rows.groundRivalsSpec.post enc Tryd.prog Tryd.f10 false true false false W args v W' :=
  law_contract (n := 20) (fun x r h => g10_taliklaw01_GroundRivals_lcall x r h) (fun x => g10_taliklaw01_GroundRivals_true x) (by decide) (show Tryd.f10.resultTypes = #[4] by kernel_rfl) (by kernel_rfl) (by kernel_rfl) laidOut (by
    intro t ht
    have : (Tryd.f10.params.toList.all fun t => Tryd.prog.readableRec t && decide (t < Tryd.prog.types.size)) = true := by kernel_rfl
    have := List.all_eq_true.1 this t ht
    simpa using this) rfl spec_fn hval hW (tabOk hL)
theorem lifted (os : Os) (started : os.Started) (H : Type) (enc : TypeId × Value → H) (F : Stop.Interp) :
    ReturnsInHanded {} Tryd.checked os 10 .any ((OpenSpec.ofChange Rows.groundRivalsSpec).preRow enc Tryd.prog Tryd.f10 Rows.groundRivalsRow.domain false Rows.groundRivalsRow.laid) (((OpenSpec.ofChange Rows.groundRivalsSpec).at F).post enc Tryd.prog Tryd.f10 false true false false) := by
  obtain ⟨places, hx⟩ := reads os enc
  refine returnsInHanded_of_row (C := Tryd.checked) (s := OpenSpec.ofChange Rows.groundRivalsSpec) own started (by kernel_rfl) Tryd.func10
    (witness_row_at (enc := enc) (C := Tryd.checked) false (laidWorld os) #[(Value.agg #[.slice none 0 0, .int .i64 0, .int .i64 0]), (Value.slice none 0 0), (Value.int .i64 0), (Value.int .i64 0), (Value.int .i64 0), (Value.agg #[.slice none 0 0, .slice none 0 0, .slice none 0 0, .slice none 0 0, .slice none 0 0])] rfl (by kernel_rfl) (by kernel_rfl) (by kernel_rfl)
      (OpenSpec.preRow_of_cond 16 hx (by kernel_rfl) (fun k hk => by cases hk) (by kernel_rfl) (laid_met os))) ?_
  intro W base args ds gs before hval hW _ _ _ hL _ _
  exact contract H enc W base args ds gs before hval hW hL
theorem said : Rows.GroundRivalsSaid :=
  OpenClaim.holds_of_cond 10 Tryd.f10 rfl rfl rfl rfl rfl rfl rfl ⟨rfl, rfl, rfl, rfl, rfl⟩ rfl rfl rfl rfl rfl (by kernel_rfl) Tryd.func10 (by kernel_rfl)
    (of_decide_eq_true (by kernel_rfl)) (by unfold Func.isWrapper; first | (rw [if_pos (by decide +kernel)]; kernel_rfl) | (rw [if_neg (by decide +kernel)]; exact ⟨rfl, rfl⟩))
    (fun os started H enc _ F => by rw [OpenClaim.pre_eq_preRow]; exact lifted os started H enc F)
theorem plain (f : FuncId) (fn : Func) (hf : Tryd.pinned.checked.prog.funcNamed "talik/taliklaw01.GroundRivals" = some f) (hfn : Tryd.pinned.checked.prog.funcs[f]? = some fn) :
    false = Tryd.pinned.checked.prog.looks [] ∧ ∀ (j : Nat) t, fn.params[j]? = some t → Tryd.pinned.checked.prog.wantsStandIn t = false := by
  obtain rfl : f = 10 := Option.some.inj ((show Tryd.prog.funcNamed "talik/taliklaw01.GroundRivals" = some 10 by kernel_rfl).symm.trans hf) |>.symm
  obtain rfl : fn = Tryd.f10 := (Option.some.inj (Tryd.func10.symm.trans hfn)).symm
  refine ⟨by kernel_rfl, fun j t ht => ?_⟩
  have h : (Tryd.f10.params.toList.all fun t => !Tryd.prog.wantsStandIn t) = true := by kernel_rfl
  have := List.all_eq_true.1 h t (by rw [← Array.getElem?_toList] at ht; exact List.mem_of_getElem? ht)
  exact (show Tryd.prog.wantsStandIn t = false by simpa using this)
theorem card : Rows.GroundRivalsCardSaid :=
  Claim7.holds_tied_plain_at .later [] _ _ _ _ said (fun _ h => by cases h) (by kernel_rfl) (fun _ h => by cases h) groundRivals_row_tie rfl ⟨rfl, rfl⟩ (by kernel_rfl) rfl plain (by kernel_rfl)
end Go.Proofs.YtbidmbjkjpdgdaaDoor.Abs.groundRivals
namespace Go.Proofs.YtbidmbjkjpdgdaaDoor
theorem groundRivals_card : Rows.GroundRivalsCardSaid := Abs.groundRivals.card
end Go.Proofs.YtbidmbjkjpdgdaaDoor
