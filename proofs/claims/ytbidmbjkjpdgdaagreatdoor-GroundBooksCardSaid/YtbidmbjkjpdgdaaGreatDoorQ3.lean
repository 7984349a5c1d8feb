import Derived.Test.YtbidmbjkjpdgdaaGreatDoorF2
import Derived.Test.YtbidmbjkjpdgdaaGreatDoorP1
import Derived.Test.YtbidmbjkjpdgdaaGreatDoorA4
import Derived.Test.YtbidmbjkjpdgdaaGreatDoorCards
import Derived.Test.YtbidmbjkjpdgdaaGreatDoorTie
import Derived.WalkKit
import Derived.ProofKit
import Derived.OpenShut
import Derived.Deep.DeepHandedRow
import Derived.Lib.LaidTab
import Derived.Stop.LaidErr
set_option linter.unusedVariables false
set_option maxRecDepth 100000
namespace Go.Proofs.YtbidmbjkjpdgdaaGreatDoor.Abs
open Go.Shelf Go.Sort
noncomputable def G3_C : CalT := tabC [G6_E, G7_E, G8_E, G9_E, G10_E, G11_E]
theorem G3_CV : CV Tryz.prog G3_C := tabC_valid (l := _) ⟨G6_valid, G7_valid, G8_valid, G9_valid, G10_valid, G11_valid, trivial⟩
noncomputable def G3 (a0 : E25) : Option Bool :=
  (bif (decide ((List.length a0.1 : Int) > 12)) then
  (Option.bind G6 fun r1 =>
    some r1)
  else
  (Option.bind (G7 a0) fun r2 =>
    (Option.bind (G8 a0) fun r3 =>
      (bif (!r3) then
        (bif (r2.2.1 == 2) then
          (bif (ByteArray.toList r2.1 == ByteArray.toList (⟨#[]⟩ : ByteArray)) then
            (Option.bind G6 fun r4 =>
              some r4)
            else
            some false)
          else
          some false)
        else
        (Option.bind (G9 r2.1) fun r5 =>
          (bif (r2.2.1 == 0) then
            (Option.bind (G10 a0) fun r6 =>
              (bif (ByteArray.toList r2.1 == ByteArray.toList r6) then
                (bif (r5.2.1 == 0) then
                  (Option.bind (G11 r5.1 a0) fun r7 =>
                    (bif r7 then
                      (Option.bind G6 fun r8 =>
                        some r8)
                      else
                      some false))
                  else
                  some false)
                else
                some false))
            else
            some false))))))
theorem G3_LV : LV 0 Tryz.prog false (loopsOf (bodyOf Tryz.f3)) [] := by unfold LV; cases loopsOf (bodyOf Tryz.f3) <;> trivial
theorem G3_ent : Ent Tryz.prog 3 := ⟨by decide, enters_of Tryz.func3 (by kernel_rfl) rfl⟩
theorem G3_hev : ∀ x, fnR Tryz.prog G3_C [] Tryz.f3 (bodyOf Tryz.f3) (encs [.dat T25] x) ⟨[], [], 0⟩ (frzF (.dat .bool)) = G3 x.1 := by
  intro x; kernel_rfl
theorem G3_lcall : ∀ x r, (fun x : Els [.dat T25] => G3 x.1) x = some r → LCall 0 Tryz.prog 3 (encs [.dat T25] x) ⟨[], [], 0⟩ (.d .bool r) ⟨[], [], 0⟩ := frz_lcall (R := .dat .bool) mixed Tryz.func3 rfl G3_ent G3_CV G3_LV (by kernel_rfl) (by kernel_rfl) G3_hev
end Go.Proofs.YtbidmbjkjpdgdaaGreatDoor.Abs
set_option linter.unusedVariables false
set_option linter.unusedSimpArgs false
set_option maxRecDepth 100000
namespace Go.Proofs.YtbidmbjkjpdgdaaGreatDoor.Abs
open Classical
attribute [local irreducible] G6 G9 G7 G10 G8 G11
theorem law3 (p : E25) : G3 p = some true := by
  unfold G3
  by_cases h1 : (List.length p.1 : Int) > 12
  · rw [decide_eq_true h1]
    simp only [cond_true, known_ok, Option.bind_some]
  rw [decide_eq_false h1, cond_false, tg38 p (by omega)]
  by_cases hok : okPl p = true
  · obtain ⟨f, hf, rfl, hn⟩ := toLg hok
    have hr : G9 (mkB (log f)) = some (encP f, (0, ())) := by
      rcases read_eq (t := log f) (by have := log_len hf hn; omega) with ⟨g, hg, e, h⟩ | ⟨h, _⟩
      · rw [← log_inj e, if_pos hok] at h; exact h
      · exact absurd rfl (h f hf)
    simp only [print_ok hf (by omega) hok, Option.bind_some, hok, Bool.not_true, cond_false, hr, rprint_eq hf (by omega), same_self (encP f) (by simp [encP]; omega), known_ok, beq_self_eq_true, cond_true]
  · have hok' : okPl p = false := by cases h : okPl p <;> simp_all
    simp only [print_no (by omega) hok', Option.bind_some, hok', Bool.not_false, cond_true, known_ok, beq_self_eq_true]
theorem G3_true : ∀ x : Els [.dat T25], wfs [.dat T25] x → G3 x.1 = some true := fun x _ => law3 _
end Go.Proofs.YtbidmbjkjpdgdaaGreatDoor.Abs
set_option linter.unusedVariables false
set_option maxRecDepth 100000
namespace Go.Proofs.YtbidmbjkjpdgdaaGreatDoor.Abs.groundBooks
open Go.ChangeShapes Go.WideShapes Go.RowKit
theorem own : ownKnob Tryz.prog.godebug = none := by kernel_rfl
theorem laidOut : laidOutB Tryz.prog = true := by kernel_rfl
theorem gTab : Tryz.prog.globalNamed "internal/strconv.uint64pow10" = some 0 := by kernel_rfl
theorem gTabType : (Tryz.prog.globals[0]?).map (·.type) = some 140 := by kernel_rfl
theorem cellsT : Tryz.prog.cellsOf 140 = 20 := by kernel_rfl
theorem cellsE : Tryz.prog.cellsOf 131 = 1 := by kernel_rfl
theorem undT : Tryz.prog.underlying 140 = some (.array 20 131) := by kernel_rfl
theorem undE : Tryz.prog.underlying 131 = some (.int .u64) := by kernel_rfl
theorem table {W : World} (h : laidMetH Tryz.prog Rows.groundBooksRow.laid W) : Lib.TabIs Tryz.prog W "internal/strconv.uint64pow10" .u64 [1, 10, 100, 1000, 10000, 100000, 1000000, 10000000, 100000000, 1000000000, 10000000000, 100000000000, 1000000000000, 10000000000000, 100000000000000, 1000000000000000, 10000000000000000, 100000000000000000, 1000000000000000000, 10000000000000000000] :=
  Lib.tabIs_of_head (rest := [("unicode/utf8.acceptRanges", Rows.laid_unicode_utf8_acceptRanges), ("unicode/utf8.first", Rows.laid_unicode_utf8_first)]) gTab gTabType undT undE cellsE cellsT (laidMet.tail (laidMet.tail (h)))
theorem tabOk {W : World} (h : laidMetH Tryz.prog Rows.groundBooksRow.laid W) : ∀ q ∈ TABS, ∃ e fr, W.heap[q.1]? = some (.cells q.2 e fr) := by
  have ht := table h
  unfold Lib.TabIs World.var? at ht
  rw [gTab] at ht
  simp only [Option.bind_some] at ht
  intro q hq
  have hq' : q = (0, _) := List.mem_singleton.1 hq
  subst hq'
  show ∃ e fr, W.heap[0]? = _
  split at ht
  · rename_i cs e fr hc
    exact ⟨e, fr, by rw [hc]; simp only [Option.some.injEq] at ht; rw [ht]; rfl⟩
  · cases ht
noncomputable def laidWorld (os : Os) : World :=
  { World.holding Tryz.prog os ⟨#[], #[], []⟩ with heap := ((((((World.holding Tryz.prog os ⟨#[], #[], []⟩).heap.modify 2 fun | .cells _ t frozen => .cells #[.int .u8 0, .int .u8 1, .int .u8 28, .int .u8 2, .int .u8 29, .int .u8 14, .int .u8 24, .int .u8 3, .int .u8 30, .int .u8 22, .int .u8 20, .int .u8 15, .int .u8 25, .int .u8 17, .int .u8 4, .int .u8 8, .int .u8 31, .int .u8 27, .int .u8 13, .int .u8 23, .int .u8 21, .int .u8 19, .int .u8 16, .int .u8 7, .int .u8 26, .int .u8 12, .int .u8 18, .int .u8 6, .int .u8 11, .int .u8 5, .int .u8 10, .int .u8 9] t frozen | o => o).modify 3 fun | .cells _ t frozen => .cells #[.int .u8 0, .int .u8 1, .int .u8 56, .int .u8 2, .int .u8 57, .int .u8 49, .int .u8 28, .int .u8 3, .int .u8 61, .int .u8 58, .int .u8 42, .int .u8 50, .int .u8 38, .int .u8 29, .int .u8 17, .int .u8 4, .int .u8 62, .int .u8 47, .int .u8 59, .int .u8 36, .int .u8 45, .int .u8 43, .int .u8 51, .int .u8 22, .int .u8 53, .int .u8 39, .int .u8 33, .int .u8 30, .int .u8 24, .int .u8 18, .int .u8 12, .int .u8 5, .int .u8 63, .int .u8 55, .int .u8 48, .int .u8 27, .int .u8 60, .int .u8 41, .int .u8 37, .int .u8 16, .int .u8 46, .int .u8 35, .int .u8 44, .int .u8 21, .int .u8 52, .int .u8 32, .int .u8 23, .int .u8 11, .int .u8 54, .int .u8 26, .int .u8 40, .int .u8 15, .int .u8 34, .int .u8 20, .int .u8 31, .int .u8 10, .int .u8 25, .int .u8 14, .int .u8 19, .int .u8 9, .int .u8 13, .int .u8 8, .int .u8 7, .int .u8 6] t frozen | o => o).modify 0 fun | .cells _ t frozen => .cells #[.int .u64 1, .int .u64 10, .int .u64 100, .int .u64 1000, .int .u64 10000, .int .u64 100000, .int .u64 1000000, .int .u64 10000000, .int .u64 100000000, .int .u64 1000000000, .int .u64 10000000000, .int .u64 100000000000, .int .u64 1000000000000, .int .u64 10000000000000, .int .u64 100000000000000, .int .u64 1000000000000000, .int .u64 10000000000000000, .int .u64 100000000000000000, .int .u64 1000000000000000000, .int .u64 10000000000000000000] t frozen | o => o).modify 5 fun | .cells _ t frozen => .cells #[.int .u8 128, .int .u8 191, .int .u8 160, .int .u8 191, .int .u8 128, .int .u8 159, .int .u8 144, .int .u8 191, .int .u8 128, .int .u8 143, .int .u8 0, .int .u8 0, .int .u8 0, .int .u8 0, .int .u8 0, .int .u8 0, .int .u8 0, .int .u8 0, .int .u8 0, .int .u8 0, .int .u8 0, .int .u8 0, .int .u8 0, .int .u8 0, .int .u8 0, .int .u8 0, .int .u8 0, .int .u8 0, .int .u8 0, .int .u8 0, .int .u8 0, .int .u8 0] t frozen | o => o).modify 4 fun | .cells _ t frozen => .cells (Go.Pinned.utf8FirstZ.map fun n : Nat => Value.int .u8 (n : Int)).toArray t frozen | o => o) }
theorem laid_met (os : Os) : laidMet Tryz.prog Rows.groundBooksRow.laid ((laidWorld os).forCall (fun _ _ => 0) ⟨#[], #[(Value.agg #[.slice none 0 0, .int .i64 0, .int .i64 0])], []⟩).memory :=
  laidMet_of_run' 8 (by kernel_rfl) (by kernel_rfl)
theorem reads (os : Os) {H : Type} (enc : TypeId × Value → H) : ∃ places, DataW.whole enc Tryz.prog ((laidWorld os).forCall (fun _ _ => 0) ⟨#[], #[(Value.agg #[.slice none 0 0, .int .i64 0, .int .i64 0])], []⟩).memory Tryz.f3.params.toList Rows.groundBooksSpec.vars false #[(Value.agg #[.slice none 0 0, .int .i64 0, .int .i64 0])].toList 16 = some ([.agg [.nil, .agg [.lit (.int .i64 0), .lit (.int .i64 0)]]], [], places) :=
  ⟨[], by kernel_rfl⟩
theorem spec_fn (H : Type) : (ds : List (DataW H)) → ds.length = Tryz.f3.params.toList.length → (Rows.groundBooksSpec.fn H ds).results = [.lit (.bool true)] ∧ (Rows.groundBooksSpec.fn H ds).args = ds ∧ (Rows.groundBooksSpec.fn H ds).vars = []
  | [], h => by rw [show Tryz.f3.params.toList.length = 1 from by kernel_rfl] at h; simp at h
  | [d0], _ => ⟨rfl, rfl, rfl⟩
  | d0 :: _ :: _, h => by rw [show Tryz.f3.params.toList.length = 1 from by kernel_rfl] at h; simp at h
theorem contract (H : Type) (enc : TypeId × Value → H) (W : World) (base : Nat) (args : Array Value) (ds gs : List (DataW H)) (before : List MemPlace)
    (hval : ∀ (j : Nat) t v, Tryz.f3.params[j]? = some t → args[j]? = some v → Value.okWide Tryz.prog W .any base t v)
    (hW : DataW.Whole enc Tryz.prog Tryz.f3.params.toList Rows.groundBooksSpec.vars false W args.toList ds gs before) (hL : laidMetH Tryz.prog Rows.groundBooksRow.laid W) :
    Calls Tryz.prog 3 args W fun e W' => ∃ v, e = .returned v ∧ Rows.groundBooksSpec.post enc Tryz.prog Tryz.f3 false true false false W args v W' :=
  law_contract (n := 20) (fun x r h => G3_lcall x r h) (fun x hx => G3_true x hx) (by decide) (show Tryz.f3.resultTypes = #[4] by kernel_rfl) (by kernel_rfl) (by kernel_rfl) laidOut (by
    intro t ht
    have : (Tryz.f3.params.toList.all fun t => Tryz.prog.readableRec t && decide (t < Tryz.prog.types.size)) = true := by kernel_rfl
    have := List.all_eq_true.1 this t ht
    simpa using this) rfl spec_fn hval hW (tabOk hL)
theorem lifted (os : Os) (started : os.Started) (H : Type) (enc : TypeId × Value → H) (F : Stop.Interp) :
    ReturnsInHanded {} Tryz.checked os 3 .any ((OpenSpec.ofChange Rows.groundBooksSpec).preRow enc Tryz.prog Tryz.f3 Rows.groundBooksRow.domain false Rows.groundBooksRow.laid) (((OpenSpec.ofChange Rows.groundBooksSpec).at F).post enc Tryz.prog Tryz.f3 false true false false) := by
  obtain ⟨places, hx⟩ := reads os enc
  refine returnsInHanded_of_row (C := Tryz.checked) (s := OpenSpec.ofChange Rows.groundBooksSpec) own started (by kernel_rfl) Tryz.func3
    (witness_row_at (enc := enc) (C := Tryz.checked) false (laidWorld os) #[(Value.agg #[.slice none 0 0, .int .i64 0, .int .i64 0])] rfl (by kernel_rfl) (by kernel_rfl) (by kernel_rfl)
      (OpenSpec.preRow_of_cond 16 hx (by kernel_rfl) (fun k hk => by cases hk) (by kernel_rfl) (laid_met os))) ?_
  intro W base args ds gs before hval hW _ _ _ hL _ _
  exact contract H enc W base args ds gs before hval hW hL
theorem said : Rows.GroundBooksSaid :=
  OpenClaim.holds_of_cond 3 Tryz.f3 rfl rfl rfl rfl rfl rfl rfl ⟨rfl, rfl, rfl, rfl, rfl⟩ rfl rfl rfl rfl rfl (by kernel_rfl) Tryz.func3 (by kernel_rfl)
    (of_decide_eq_true (by kernel_rfl)) (by unfold Func.isWrapper; first | (rw [if_pos (by decide +kernel)]; kernel_rfl) | (rw [if_neg (by decide +kernel)]; exact ⟨rfl, rfl⟩))
    (fun os started H enc _ F => by rw [OpenClaim.pre_eq_preRow]; exact lifted os started H enc F)
theorem plain (f : FuncId) (fn : Func) (hf : Tryz.pinned.checked.prog.funcNamed "talik/taliklaw01.GroundBooks" = some f) (hfn : Tryz.pinned.checked.prog.funcs[f]? = some fn) :
    true = Tryz.pinned.checked.prog.looks [] ∧ ∀ (j : Nat) t, fn.params[j]? = some t → Tryz.pinned.checked.prog.wantsStandIn t = false := by
  obtain rfl : f = 3 := Option.some.inj ((show Tryz.prog.funcNamed "talik/taliklaw01.GroundBooks" = some 3 by kernel_rfl).symm.trans hf) |>.symm
  obtain rfl : fn = Tryz.f3 := (Option.some.inj (Tryz.func3.symm.trans hfn)).symm
  refine ⟨by kernel_rfl, fun j t ht => ?_⟩
  have h : (Tryz.f3.params.toList.all fun t => !Tryz.prog.wantsStandIn t) = true := by kernel_rfl
  have := List.all_eq_true.1 h t (by rw [← Array.getElem?_toList] at ht; exact List.mem_of_getElem? ht)
  exact (show Tryz.prog.wantsStandIn t = false by simpa using this)
theorem card : Rows.GroundBooksCardSaid :=
  Claim7.holds_tied_plain_at .later [] _ _ _ _ said (fun _ h => by cases h) (by kernel_rfl) (fun _ h => by cases h) groundBooks_row_tie rfl ⟨rfl, rfl⟩ (by kernel_rfl) rfl plain (by kernel_rfl)
end Go.Proofs.YtbidmbjkjpdgdaaGreatDoor.Abs.groundBooks
namespace Go.Proofs.YtbidmbjkjpdgdaaGreatDoor
theorem groundBooks_card : Rows.GroundBooksCardSaid := Abs.groundBooks.card
end Go.Proofs.YtbidmbjkjpdgdaaGreatDoor
