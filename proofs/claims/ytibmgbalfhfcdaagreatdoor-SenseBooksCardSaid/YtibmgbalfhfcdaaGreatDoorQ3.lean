import Derived.Test.YtibmgbalfhfcdaaGreatDoorF3
import Derived.Test.YtibmgbalfhfcdaaGreatDoorP1
import Derived.Test.YtibmgbalfhfcdaaGreatDoorA4
import Derived.Test.YtibmgbalfhfcdaaGreatDoorCards
import Derived.Test.YtibmgbalfhfcdaaGreatDoorTie
import Derived.WalkKit
import Derived.ProofKit
import Derived.OpenShut
import Derived.Deep.DeepHandedRow
import Derived.Lib.LaidTab
import Derived.Stop.LaidErr
set_option linter.unusedVariables false
set_option maxRecDepth 100000
namespace Go.Proofs.YtibmgbalfhfcdaaGreatDoor.Abs
open Go.Shelf Go.Sort
noncomputable def G3_C : CalT := tabC [G6_E, G7_E, G8_E, G9_E, G10_E, G11_E, G12_E, G13_E]
theorem G3_CV : CV Tryz.prog G3_C := tabC_valid (l := _) ⟨G6_valid, G7_valid, G8_valid, G9_valid, G10_valid, G11_valid, G12_valid, G13_valid, trivial⟩
noncomputable def G3 (a0 : E23) (a1 : (List E71)) : Option Bool :=
  (Option.bind (G6 a0 a1) fun r1 =>
  (bif (!r1) then
    (Option.bind G7 fun r2 =>
      some r2)
    else
    (Option.bind (G8 a0 a1) fun r3 =>
      (Option.bind (G9 a0 a1) fun r4 =>
        (bif (r4 != 0) then
          (bif (r3.2.1 == r4) then
            (bif (ByteArray.toList r3.1 == ByteArray.toList (⟨#[]⟩ : ByteArray)) then
              (Option.bind G7 fun r5 =>
                some r5)
              else
              some false)
            else
            some false)
          else
          (Option.bind (G10 r3.1) fun r6 =>
            (bif (r3.2.1 == 0) then
              (Option.bind (G11 a0 a1) fun r7 =>
                (bif (ByteArray.toList r3.1 == ByteArray.toList r7) then
                  (bif (r6.2.2.1 == 0) then
                    (Option.bind (G12 r6.1 a0) fun r8 =>
                      (bif r8 then
                        (Option.bind (G13 r6.2.1 a1) fun r9 =>
                          (bif r9 then
                            (Option.bind G7 fun r10 =>
                              some r10)
                            else
                            some false))
                        else
                        some false))
                    else
                    some false)
                  else
                  some false))
              else
              some false)))))))
theorem G3_LV : LV 0 Tryz.prog false (loopsOf (bodyOf Tryz.f3)) [] := by unfold LV; cases loopsOf (bodyOf Tryz.f3) <;> trivial
theorem G3_ent : Ent Tryz.prog 3 := ⟨by decide, enters_of Tryz.func3 (by kernel_rfl) rfl⟩
theorem G3_hev : ∀ x, fnR Tryz.prog G3_C [] Tryz.f3 (bodyOf Tryz.f3) (encs [.dat T23, .dat (.list T71)] x) ⟨[], [], 0⟩ (frzF (.dat .bool)) = G3 x.1 x.2.1 := by
  intro x; kernel_rfl
theorem G3_lcall : ∀ x r, (fun x : Els [.dat T23, .dat (.list T71)] => G3 x.1 x.2.1) x = some r → LCall 0 Tryz.prog 3 (encs [.dat T23, .dat (.list T71)] x) ⟨[], [], 0⟩ (.d .bool r) ⟨[], [], 0⟩ := frz_lcall (R := .dat .bool) mixed Tryz.func3 rfl G3_ent G3_CV G3_LV (by kernel_rfl) (by kernel_rfl) G3_hev
end Go.Proofs.YtibmgbalfhfcdaaGreatDoor.Abs
set_option linter.unusedVariables false
set_option linter.unusedSimpArgs false
set_option maxRecDepth 100000
namespace Go.Proofs.YtibmgbalfhfcdaaGreatDoor.Abs
open Classical
attribute [local irreducible] G7 G10 G8 G11 G12 G13 G9
theorem law3 (s : E23) (l : List E71) : G3 s l = some true := by
  unfold G3
  by_cases h1 : (s.2.2.2.2.1).length ≤ 12 ∧ l.length ≤ 29
  case neg =>
    rw [short_tells, decide_eq_false h1]
    simp only [Option.bind_some, Bool.not_false, cond_true, known_ok]
  simp only [short_tells, decide_eq_true h1, Option.bind_some, Bool.not_true, cond_false]
  by_cases hsl : SlOk s l
  · obtain ⟨f, hf, rfl, rfl, hn1, hn2⟩ := toFd hsl
    have hw : G9 (encS f) (encR f) = some 0 := by
      rcases wanted_eq (encS f) (encR f) (by omega) (by omega) with ⟨h, _⟩ | ⟨_, h, _⟩ | ⟨_, e⟩
      · exact absurd hsl.1 (by omega)
      · exact absurd hsl h
      · exact e
    have hr : G10 (mkB (file f)) = some (encS f, (encR f, (0, ()))) := by
      rcases readfile_eq (file_len hf hn1 hn2) with ⟨g, hg, e, h⟩ | ⟨h, _⟩
      · rw [← file_inj hf hg e] at h
        rw [h, readE, if_pos hsl]
      · exact absurd rfl (h f hf)
    simp only [print_ok hf hsl, hw, Option.bind_some, hr, rprint_eq hf, sameS_self (encS f) (by omega), sameR_self (encR f) (by omega), known_ok, beq_self_eq_true, cond_true, bne_self_eq_false, cond_false]
  · rw [print_no (by omega) hsl]
    simp only [Option.bind_some]
    rcases wanted_eq s l (by omega) (by omega) with ⟨h, e⟩ | ⟨h, _, e⟩ | ⟨h, _⟩
    · rw [e, if_pos h]
      simp only [Option.bind_some, known_ok, beq_self_eq_true, cond_true]
      rfl
    · rw [e, if_neg (by omega)]
      simp only [Option.bind_some, known_ok, beq_self_eq_true, cond_true]
      rfl
    · exact absurd h hsl
theorem G3_true : ∀ x : Els [.dat T23, .dat (.list T71)], wfs [.dat T23, .dat (.list T71)] x → G3 x.1 x.2.1 = some true := fun x _ => law3 _ _
end Go.Proofs.YtibmgbalfhfcdaaGreatDoor.Abs
set_option linter.unusedVariables false
set_option maxRecDepth 100000
namespace Go.Proofs.YtibmgbalfhfcdaaGreatDoor.Abs.senseBooks
open Go.ChangeShapes Go.WideShapes Go.RowKit
theorem own : ownKnob Tryz.prog.godebug = none := by kernel_rfl
theorem laidOut : laidOutB Tryz.prog = true := by kernel_rfl
theorem gTab : Tryz.prog.globalNamed "internal/strconv.uint64pow10" = some 1 := by kernel_rfl
theorem gTabType : (Tryz.prog.globals[1]?).map (·.type) = some 163 := by kernel_rfl
theorem cellsT : Tryz.prog.cellsOf 163 = 20 := by kernel_rfl
theorem cellsE : Tryz.prog.cellsOf 150 = 1 := by kernel_rfl
theorem undT : Tryz.prog.underlying 163 = some (.array 20 150) := by kernel_rfl
theorem undE : Tryz.prog.underlying 150 = some (.int .u64) := by kernel_rfl
theorem table {W : World} (h : laidMetH Tryz.prog Rows.senseBooksRow.laid W) : Lib.TabIs Tryz.prog W "internal/strconv.uint64pow10" .u64 [1, 10, 100, 1000, 10000, 100000, 1000000, 10000000, 100000000, 1000000000, 10000000000, 100000000000, 1000000000000, 10000000000000, 100000000000000, 1000000000000000, 10000000000000000, 100000000000000000, 1000000000000000000, 10000000000000000000] :=
  Lib.tabIs_of_head (rest := [("unicode/utf8.acceptRanges", Rows.laid_unicode_utf8_acceptRanges), ("unicode/utf8.first", Rows.laid_unicode_utf8_first)]) gTab gTabType undT undE cellsE cellsT (laidMet.tail (laidMet.tail (h)))
theorem tabOk {W : World} (h : laidMetH Tryz.prog Rows.senseBooksRow.laid W) : ∀ q ∈ TABS, ∃ e fr, W.heap[q.1]? = some (.cells q.2 e fr) := by
  have ht := table h
  unfold Lib.TabIs World.var? at ht
  rw [gTab] at ht
  simp only [Option.bind_some] at ht
  intro q hq
  have hq' : q = (1, _) := List.mem_singleton.1 hq
  subst hq'
  show ∃ e fr, W.heap[1]? = _
  split at ht
  · rename_i cs e fr hc
    exact ⟨e, fr, by rw [hc]; simp only [Option.some.injEq] at ht; rw [ht]; rfl⟩
  · cases ht
noncomputable def laidWorld (os : Os) : World :=
  { World.holding Tryz.prog os ⟨#[], #[], []⟩ with heap := ((((((World.holding Tryz.prog os ⟨#[], #[], []⟩).heap.modify 4 fun | .cells _ t frozen => .cells #[.int .u8 0, .int .u8 1, .int .u8 28, .int .u8 2, .int .u8 29, .int .u8 14, .int .u8 24, .int .u8 3, .int .u8 30, .int .u8 22, .int .u8 20, .int .u8 15, .int .u8 25, .int .u8 17, .int .u8 4, .int .u8 8, .int .u8 31, .int .u8 27, .int .u8 13, .int .u8 23, .int .u8 21, .int .u8 19, .int .u8 16, .int .u8 7, .int .u8 26, .int .u8 12, .int .u8 18, .int .u8 6, .int .u8 11, .int .u8 5, .int .u8 10, .int .u8 9] t frozen | o => o).modify 5 fun | .cells _ t frozen => .cells #[.int .u8 0, .int .u8 1, .int .u8 56, .int .u8 2, .int .u8 57, .int .u8 49, .int .u8 28, .int .u8 3, .int .u8 61, .int .u8 58, .int .u8 42, .int .u8 50, .int .u8 38, .int .u8 29, .int .u8 17, .int .u8 4, .int .u8 62, .int .u8 47, .int .u8 59, .int .u8 36, .int .u8 45, .int .u8 43, .int .u8 51, .int .u8 22, .int .u8 53, .int .u8 39, .int .u8 33, .int .u8 30, .int .u8 24, .int .u8 18, .int .u8 12, .int .u8 5, .int .u8 63, .int .u8 55, .int .u8 48, .int .u8 27, .int .u8 60, .int .u8 41, .int .u8 37, .int .u8 16, .int .u8 46, .int .u8 35, .int .u8 44, .int .u8 21, .int .u8 52, .int .u8 32, .int .u8 23, .int .u8 11, .int .u8 54, .int .u8 26, .int .u8 40, .int .u8 15, .int .u8 34, .int .u8 20, .int .u8 31, .int .u8 10, .int .u8 25, .int .u8 14, .int .u8 19, .int .u8 9, .int .u8 13, .int .u8 8, .int .u8 7, .int .u8 6] t frozen | o => o).modify 1 fun | .cells _ t frozen => .cells #[.int .u64 1, .int .u64 10, .int .u64 100, .int .u64 1000, .int .u64 10000, .int .u64 100000, .int .u64 1000000, .int .u64 10000000, .int .u64 100000000, .int .u64 1000000000, .int .u64 10000000000, .int .u64 100000000000, .int .u64 1000000000000, .int .u64 10000000000000, .int .u64 100000000000000, .int .u64 1000000000000000, .int .u64 10000000000000000, .int .u64 100000000000000000, .int .u64 1000000000000000000, .int .u64 10000000000000000000] t frozen | o => o).modify 3 fun | .cells _ t frozen => .cells #[.int .u8 128, .int .u8 191, .int .u8 160, .int .u8 191, .int .u8 128, .int .u8 159, .int .u8 144, .int .u8 191, .int .u8 128, .int .u8 143, .int .u8 0, .int .u8 0, .int .u8 0, .int .u8 0, .int .u8 0, .int .u8 0, .int .u8 0, .int .u8 0, .int .u8 0, .int .u8 0, .int .u8 0, .int .u8 0, .int .u8 0, .int .u8 0, .int .u8 0, .int .u8 0, .int .u8 0, .int .u8 0, .int .u8 0, .int .u8 0, .int .u8 0, .int .u8 0] t frozen | o => o).modify 2 fun | .cells _ t frozen => .cells (Go.Pinned.utf8FirstZ.map fun n : Nat => Value.int .u8 (n : Int)).toArray t frozen | o => o) }
theorem laid_met (os : Os) : laidMet Tryz.prog Rows.senseBooksRow.laid ((laidWorld os).forCall (fun _ _ => 0) ⟨#[], #[(Value.agg #[.int .i64 0, .int .i64 0, .int .i64 0, .int .i64 0, .slice none 0 0]), (Value.slice none 0 0)], []⟩).memory :=
  laidMet_of_run' 8 (by kernel_rfl) (by kernel_rfl)
theorem reads (os : Os) {H : Type} (enc : TypeId × Value → H) : ∃ places, DataW.whole enc Tryz.prog ((laidWorld os).forCall (fun _ _ => 0) ⟨#[], #[(Value.agg #[.int .i64 0, .int .i64 0, .int .i64 0, .int .i64 0, .slice none 0 0]), (Value.slice none 0 0)], []⟩).memory Tryz.f3.params.toList Rows.senseBooksSpec.vars false #[(Value.agg #[.int .i64 0, .int .i64 0, .int .i64 0, .int .i64 0, .slice none 0 0]), (Value.slice none 0 0)].toList 16 = some ([.agg [.lit (.int .i64 0), .lit (.int .i64 0), .lit (.int .i64 0), .lit (.int .i64 0), .nil], .nil], [], places) :=
  ⟨[], by kernel_rfl⟩
theorem spec_fn (H : Type) : (ds : List (DataW H)) → ds.length = Tryz.f3.params.toList.length → (Rows.senseBooksSpec.fn H ds).results = [.lit (.bool true)] ∧ (Rows.senseBooksSpec.fn H ds).args = ds ∧ (Rows.senseBooksSpec.fn H ds).vars = []
  | [], h => by rw [show Tryz.f3.params.toList.length = 2 from by kernel_rfl] at h; simp at h
  | [d0], h => by rw [show Tryz.f3.params.toList.length = 2 from by kernel_rfl] at h; simp at h
  | [d0, d1], _ => ⟨rfl, rfl, rfl⟩
  | d0 :: d1 :: _ :: _, h => by rw [show Tryz.f3.params.toList.length = 2 from by kernel_rfl] at h; simp at h
theorem contract (H : Type) (enc : TypeId × Value → H) (W : World) (base : Nat) (args : Array Value) (ds gs : List (DataW H)) (before : List MemPlace)
    (hval : ∀ (j : Nat) t v, Tryz.f3.params[j]? = some t → args[j]? = some v → Value.okWide Tryz.prog W .any base t v)
    (hW : DataW.Whole enc Tryz.prog Tryz.f3.params.toList Rows.senseBooksSpec.vars false W args.toList ds gs before) (hL : laidMetH Tryz.prog Rows.senseBooksRow.laid W) :
    Calls Tryz.prog 3 args W fun e W' => ∃ v, e = .returned v ∧ Rows.senseBooksSpec.post enc Tryz.prog Tryz.f3 false true false false W args v W' :=
  law_contract (n := 20) (fun x r h => G3_lcall x r h) (fun x hx => G3_true x hx) (by decide) (show Tryz.f3.resultTypes = #[4] by kernel_rfl) (by kernel_rfl) (by kernel_rfl) laidOut (by
    intro t ht
    have : (Tryz.f3.params.toList.all fun t => Tryz.prog.readableRec t && decide (t < Tryz.prog.types.size)) = true := by kernel_rfl
    have := List.all_eq_true.1 this t ht
    simpa using this) rfl spec_fn hval hW (tabOk hL)
theorem lifted (os : Os) (started : os.Started) (H : Type) (enc : TypeId × Value → H) (F : Stop.Interp) :
    ReturnsInHanded {} Tryz.checked os 3 .any ((OpenSpec.ofChange Rows.senseBooksSpec).preRow enc Tryz.prog Tryz.f3 Rows.senseBooksRow.domain false Rows.senseBooksRow.laid) (((OpenSpec.ofChange Rows.senseBooksSpec).at F).post enc Tryz.prog Tryz.f3 false true false false) := by
  obtain ⟨places, hx⟩ := reads os enc
  refine returnsInHanded_of_row (C := Tryz.checked) (s := OpenSpec.ofChange Rows.senseBooksSpec) own started (by kernel_rfl) Tryz.func3
    (witness_row_at (enc := enc) (C := Tryz.checked) false (laidWorld os) #[(Value.agg #[.int .i64 0, .int .i64 0, .int .i64 0, .int .i64 0, .slice none 0 0]), (Value.slice none 0 0)] rfl (by kernel_rfl) (by kernel_rfl) (by kernel_rfl)
      (OpenSpec.preRow_of_cond 16 hx (by kernel_rfl) (fun k hk => by cases hk) (by kernel_rfl) (laid_met os))) ?_
  intro W base args ds gs before hval hW _ _ _ hL _ _
  exact contract H enc W base args ds gs before hval hW hL
theorem said : Rows.SenseBooksSaid :=
  OpenClaim.holds_of_cond 3 Tryz.f3 rfl rfl rfl rfl rfl rfl rfl ⟨rfl, rfl, rfl, rfl, rfl⟩ rfl rfl rfl rfl rfl (by kernel_rfl) Tryz.func3 (by kernel_rfl)
    (of_decide_eq_true (by kernel_rfl)) (by unfold Func.isWrapper; first | (rw [if_pos (by decide +kernel)]; kernel_rfl) | (rw [if_neg (by decide +kernel)]; exact ⟨rfl, rfl⟩))
    (fun os started H enc _ F => by rw [OpenClaim.pre_eq_preRow]; exact lifted os started H enc F)
theorem plain (f : FuncId) (fn : Func) (hf : Tryz.pinned.checked.prog.funcNamed "talik/taliklaw05.SenseBooks" = some f) (hfn : Tryz.pinned.checked.prog.funcs[f]? = some fn) :
    true = Tryz.pinned.checked.prog.looks [] ∧ ∀ (j : Nat) t, fn.params[j]? = some t → Tryz.pinned.checked.prog.wantsStandIn t = false := by
  obtain rfl : f = 3 := Option.some.inj ((show Tryz.prog.funcNamed "talik/taliklaw05.SenseBooks" = some 3 by kernel_rfl).symm.trans hf) |>.symm
  obtain rfl : fn = Tryz.f3 := (Option.some.inj (Tryz.func3.symm.trans hfn)).symm
  refine ⟨by kernel_rfl, fun j t ht => ?_⟩
  have h : (Tryz.f3.params.toList.all fun t => !Tryz.prog.wantsStandIn t) = true := by kernel_rfl
  have := List.all_eq_true.1 h t (by rw [← Array.getElem?_toList] at ht; exact List.mem_of_getElem? ht)
  exact (show Tryz.prog.wantsStandIn t = false by simpa using this)
theorem card : Rows.SenseBooksCardSaid :=
  Claim7.holds_tied_plain_at .later [] _ _ _ _ said (fun _ h => by cases h) (by kernel_rfl) (fun _ h => by cases h) senseBooks_row_tie rfl ⟨rfl, rfl⟩ (by kernel_rfl) rfl plain (by kernel_rfl)
end Go.Proofs.YtibmgbalfhfcdaaGreatDoor.Abs.senseBooks
namespace Go.Proofs.YtibmgbalfhfcdaaGreatDoor
theorem senseBooks_card : Rows.SenseBooksCardSaid := Abs.senseBooks.card
end Go.Proofs.YtibmgbalfhfcdaaGreatDoor
