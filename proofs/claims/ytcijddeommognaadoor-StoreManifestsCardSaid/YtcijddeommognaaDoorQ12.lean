import Derived.Test.YtcijddeommognaaDoorF2
import Derived.Test.YtcijddeommognaaDoorP1
import Derived.Test.YtcijddeommognaaDoorA4
import Derived.Test.YtcijddeommognaaDoorCards
import Derived.Test.YtcijddeommognaaDoorTie
import Derived.WalkKit
import Derived.ProofKit
import Derived.OpenShut
import Derived.Deep.DeepHandedRow
import Derived.Lib.LaidTab
import Derived.Stop.LaidErr
set_option linter.unusedVariables false
set_option maxRecDepth 100000
namespace Go.Proofs.YtcijddeommognaaDoor.Abs
open Go.Shelf Go.Sort
noncomputable def G12_C : CalT := tabC [G20_E, G39_E, G41_E, G42_E, G43_E, G40_E]
theorem G12_CV : CV Tryd.prog G12_C := tabC_valid (l := _) ⟨G20_valid, G39_valid, G41_valid, G42_valid, G43_valid, G40_valid, trivial⟩
noncomputable def G12 (a0 : (List E39)) : Option Bool :=
  (bif (decide ((List.length a0 : Int) > 11)) then
  (Option.bind G20 fun r1 =>
    some r1)
  else
  (Option.bind (G39 a0) fun r2 =>
    (bif (decide ((List.length a0 : Int) > 6)) then
      (bif ((3 : Int) != 0) then
        (bif (r2.2.1 == 3) then
          (bif (ByteArray.toList r2.1 == ByteArray.toList (⟨#[]⟩ : ByteArray)) then
            (Option.bind G20 fun r3 =>
              some r3)
            else
            some false)
          else
          some false)
        else
        (Option.bind (G41 r2.1) fun r4 =>
          (bif (r2.2.1 == 0) then
            (Option.bind (G42 a0) fun r5 =>
              (bif (ByteArray.toList r2.1 == ByteArray.toList r5) then
                (bif (r4.2.1 == 0) then
                  (Option.bind (G43 r4.1 a0) fun r6 =>
                    (bif r6 then
                      (Option.bind G20 fun r7 =>
                        some r7)
                      else
                      some false))
                  else
                  some false)
                else
                some false))
            else
            some false)))
      else
      (Option.bind (G40 a0) fun r8 =>
        (bif (!r8) then
          (bif ((2 : Int) != 0) then
            (bif (r2.2.1 == 2) then
              (bif (ByteArray.toList r2.1 == ByteArray.toList (⟨#[]⟩ : ByteArray)) then
                (Option.bind G20 fun r9 =>
                  some r9)
                else
                some false)
              else
              some false)
            else
            (Option.bind (G41 r2.1) fun r10 =>
              (bif (r2.2.1 == 0) then
                (Option.bind (G42 a0) fun r11 =>
                  (bif (ByteArray.toList r2.1 == ByteArray.toList r11) then
                    (bif (r10.2.1 == 0) then
                      (Option.bind (G43 r10.1 a0) fun r12 =>
                        (bif r12 then
                          (Option.bind G20 fun r13 =>
                            some r13)
                          else
                          some false))
                      else
                      some false)
                    else
                    some false))
                else
                some false)))
          else
          (bif ((0 : Int) != 0) then
            (bif (r2.2.1 == 0) then
              (bif (ByteArray.toList r2.1 == ByteArray.toList (⟨#[]⟩ : ByteArray)) then
                (Option.bind G20 fun r14 =>
                  some r14)
                else
                some false)
              else
              some false)
            else
            (Option.bind (G41 r2.1) fun r15 =>
              (bif (r2.2.1 == 0) then
                (Option.bind (G42 a0) fun r16 =>
                  (bif (ByteArray.toList r2.1 == ByteArray.toList r16) then
                    (bif (r15.2.1 == 0) then
                      (Option.bind (G43 r15.1 a0) fun r17 =>
                        (bif r17 then
                          (Option.bind G20 fun r18 =>
                            some r18)
                          else
                          some false))
                      else
                      some false)
                    else
                    some false))
                else
                some false))))))))
theorem G12_LV : LV 0 Tryd.prog false (loopsOf (bodyOf Tryd.f12)) [] := by unfold LV; cases loopsOf (bodyOf Tryd.f12) <;> trivial
theorem G12_ent : Ent Tryd.prog 12 := ⟨by decide, enters_of Tryd.func12 (by kernel_rfl) rfl⟩
theorem G12_hev : ∀ x, fnR Tryd.prog G12_C [] Tryd.f12 (bodyOf Tryd.f12) (encs [.dat (.list T39)] x) ⟨[], [], 0⟩ (frzF (.dat .bool)) = G12 x.1 := by
  intro x; kernel_rfl
theorem G12_lcall : ∀ x r, (fun x : Els [.dat (.list T39)] => G12 x.1) x = some r → LCall 0 Tryd.prog 12 (encs [.dat (.list T39)] x) ⟨[], [], 0⟩ (.d .bool r) ⟨[], [], 0⟩ := frz_lcall (R := .dat .bool) mixed Tryd.func12 rfl G12_ent G12_CV G12_LV (by kernel_rfl) (by kernel_rfl) G12_hev
end Go.Proofs.YtcijddeommognaaDoor.Abs
set_option linter.unusedVariables false
set_option linter.unusedSimpArgs false
set_option maxRecDepth 100000
namespace Go.Proofs.YtcijddeommognaaDoor.Abs
open Classical
attribute [local irreducible] G20 G41 G39 G42 G40 G43
theorem law12 (L : List E39) (hw : ∀ x ∈ L, x.2.1.length = 3) : G12 L = some true := by
  unfold G12
  by_cases h1 : (L.length : Int) > 11
  · rw [decide_eq_true h1]
    simp only [cond_true, known_ok, Option.bind_some]
  rw [decide_eq_false h1, cond_false]
  by_cases h6 : (L.length : Int) > 6
  · rw [decide_eq_true h6, print_no (by omega) (.inl (by omega)), if_pos (by omega)]
    simp only [Option.bind_some, known_ok, cond_true, beq_self_eq_true, show ((3 : Int) != 0) = true from rfl]
  rw [decide_eq_false h6]
  by_cases hok : ∀ x ∈ L, OkShip x
  · obtain ⟨l, hf, rfl⟩ := toL hw hok
    have hl : l.length ≤ 6 := by rw [List.length_map] at h6; omega
    have hr : G41 (mkB (mani l)) = some (l.map encS, (0, ())) := by
      rcases Read_eq (t := mani l) (mani_len hf hl) with ⟨m, hm, e, _, h⟩ | ⟨h, _⟩
      · rw [← mani_inj e] at h
        rcases h with ⟨h, _⟩ | ⟨_, h, _⟩ | ⟨_, _, h⟩
        · omega
        · exact absurd hok h
        · exact h
      · exact absurd rfl (h l hf)
    rw [(ships40 _ (by omega)).val hok, print_ok hf hl hok]
    simp only [Option.bind_some, cond_false, Bool.not_true, show ((0 : Int) != 0) = false from rfl, hr, rprint_eq hf (by omega), same_self (l.map encS) (by omega), known_ok, beq_self_eq_true, cond_true]
  · rw [(ships40 _ (by omega)).nval hok, print_no (by omega) (.inr hok), if_neg (by omega)]
    simp only [Option.bind_some, known_ok, cond_true, cond_false, beq_self_eq_true, Bool.not_false, show ((2 : Int) != 0) = true from rfl]
theorem G12_true : ∀ x : Els [.dat (.list T39)], wfs [.dat (.list T39)] x → G12 x.1 = some true := by
  rintro ⟨L, _⟩ ⟨hw, _⟩
  exact law12 L fun x hx => (hw x hx).2.1.1
end Go.Proofs.YtcijddeommognaaDoor.Abs
set_option linter.unusedVariables false
set_option maxRecDepth 100000
namespace Go.Proofs.YtcijddeommognaaDoor.Abs.storeManifests
open Go.ChangeShapes Go.WideShapes Go.RowKit
theorem own : ownKnob Tryd.prog.godebug = none := by kernel_rfl
theorem laidOut : laidOutB Tryd.prog = true := by kernel_rfl
theorem gTab : Tryd.prog.globalNamed "internal/strconv.uint64pow10" = some 0 := by kernel_rfl
theorem gTabType : (Tryd.prog.globals[0]?).map (·.type) = some 153 := by kernel_rfl
theorem cellsT : Tryd.prog.cellsOf 153 = 20 := by kernel_rfl
theorem cellsE : Tryd.prog.cellsOf 143 = 1 := by kernel_rfl
theorem undT : Tryd.prog.underlying 153 = some (.array 20 143) := by kernel_rfl
theorem undE : Tryd.prog.underlying 143 = some (.int .u64) := by kernel_rfl
theorem table {W : World} (h : laidMetH Tryd.prog Rows.storeManifestsRow.laid W) : Lib.TabIs Tryd.prog W "internal/strconv.uint64pow10" .u64 [1, 10, 100, 1000, 10000, 100000, 1000000, 10000000, 100000000, 1000000000, 10000000000, 100000000000, 1000000000000, 10000000000000, 100000000000000, 1000000000000000, 10000000000000000, 100000000000000000, 1000000000000000000, 10000000000000000000] :=
  Lib.tabIs_of_head (rest := [("unicode/utf8.acceptRanges", Rows.laid_unicode_utf8_acceptRanges), ("unicode/utf8.first", Rows.laid_unicode_utf8_first)]) gTab gTabType undT undE cellsE cellsT (laidMet.tail (laidMet.tail (h)))
theorem tabOk {W : World} (h : laidMetH Tryd.prog Rows.storeManifestsRow.laid W) : ∀ q ∈ TABS, ∃ e fr, W.heap[q.1]? = some (.cells q.2 e fr) := by
  have ht := table h
  unfold Lib.TabIs World.var? at ht
  rw [gTab] at ht
  simp only [Option.bind_some] at ht
  intro q hq
  have hq' : q = (0, _) := List.mem_singleton.1 hq
  subst hq'
  show ∃ e fr, W.heap[0]? = _
  split at ht
  · rename_i cs e fr hc
    exact ⟨e, fr, by rw [hc]; simp only [Option.some.injEq] at ht; rw [ht]; rfl⟩
  · cases ht
noncomputable def laidWorld (os : Os) : World :=
  { World.holding Tryd.prog os ⟨#[], #[], []⟩ with heap := ((((((World.holding Tryd.prog os ⟨#[], #[], []⟩).heap.modify 2 fun | .cells _ t frozen => .cells #[.int .u8 0, .int .u8 1, .int .u8 28, .int .u8 2, .int .u8 29, .int .u8 14, .int .u8 24, .int .u8 3, .int .u8 30, .int .u8 22, .int .u8 20, .int .u8 15, .int .u8 25, .int .u8 17, .int .u8 4, .int .u8 8, .int .u8 31, .int .u8 27, .int .u8 13, .int .u8 23, .int .u8 21, .int .u8 19, .int .u8 16, .int .u8 7, .int .u8 26, .int .u8 12, .int .u8 18, .int .u8 6, .int .u8 11, .int .u8 5, .int .u8 10, .int .u8 9] t frozen | o => o).modify 3 fun | .cells _ t frozen => .cells #[.int .u8 0, .int .u8 1, .int .u8 56, .int .u8 2, .int .u8 57, .int .u8 49, .int .u8 28, .int .u8 3, .int .u8 61, .int .u8 58, .int .u8 42, .int .u8 50, .int .u8 38, .int .u8 29, .int .u8 17, .int .u8 4, .int .u8 62, .int .u8 47, .int .u8 59, .int .u8 36, .int .u8 45, .int .u8 43, .int .u8 51, .int .u8 22, .int .u8 53, .int .u8 39, .int .u8 33, .int .u8 30, .int .u8 24, .int .u8 18, .int .u8 12, .int .u8 5, .int .u8 63, .int .u8 55, .int .u8 48, .int .u8 27, .int .u8 60, .int .u8 41, .int .u8 37, .int .u8 16, .int .u8 46, .int .u8 35, .int .u8 44, .int .u8 21, .int .u8 52, .int .u8 32, .int .u8 23, .int .u8 11, .int .u8 54, .int .u8 26, .int .u8 40, .int .u8 15, .int .u8 34, .int .u8 20, .int .u8 31, .int .u8 10, .int .u8 25, .int .u8 14, .int .u8 19, .int .u8 9, .int .u8 13, .int .u8 8, .int .u8 7, .int .u8 6] t frozen | o => o).modify 0 fun | .cells _ t frozen => .cells #[.int .u64 1, .int .u64 10, .int .u64 100, .int .u64 1000, .int .u64 10000, .int .u64 100000, .int .u64 1000000, .int .u64 10000000, .int .u64 100000000, .int .u64 1000000000, .int .u64 10000000000, .int .u64 100000000000, .int .u64 1000000000000, .int .u64 10000000000000, .int .u64 100000000000000, .int .u64 1000000000000000, .int .u64 10000000000000000, .int .u64 100000000000000000, .int .u64 1000000000000000000, .int .u64 10000000000000000000] t frozen | o => o).modify 5 fun | .cells _ t frozen => .cells #[.int .u8 128, .int .u8 191, .int .u8 160, .int .u8 191, .int .u8 128, .int .u8 159, .int .u8 144, .int .u8 191, .int .u8 128, .int .u8 143, .int .u8 0, .int .u8 0, .int .u8 0, .int .u8 0, .int .u8 0, .int .u8 0, .int .u8 0, .int .u8 0, .int .u8 0, .int .u8 0, .int .u8 0, .int .u8 0, .int .u8 0, .int .u8 0, .int .u8 0, .int .u8 0, .int .u8 0, .int .u8 0, .int .u8 0, .int .u8 0, .int .u8 0, .int .u8 0] t frozen | o => o).modify 4 fun | .cells _ t frozen => .cells (Go.Pinned.utf8FirstZ.map fun n : Nat => Value.int .u8 (n : Int)).toArray t frozen | o => o) }
theorem laid_met (os : Os) : laidMet Tryd.prog Rows.storeManifestsRow.laid ((laidWorld os).forCall (fun _ _ => 0) ⟨#[], #[(Value.slice none 0 0)], []⟩).memory :=
  laidMet_of_run' 8 (by kernel_rfl) (by kernel_rfl)
theorem reads (os : Os) {H : Type} (enc : TypeId × Value → H) : ∃ places, DataW.whole enc Tryd.prog ((laidWorld os).forCall (fun _ _ => 0) ⟨#[], #[(Value.slice none 0 0)], []⟩).memory Tryd.f12.params.toList Rows.storeManifestsSpec.vars false #[(Value.slice none 0 0)].toList 16 = some ([.nil], [], places) :=
  ⟨[], by kernel_rfl⟩
theorem spec_fn (H : Type) : (ds : List (DataW H)) → ds.length = Tryd.f12.params.toList.length → (Rows.storeManifestsSpec.fn H ds).results = [.lit (.bool true)] ∧ (Rows.storeManifestsSpec.fn H ds).args = ds ∧ (Rows.storeManifestsSpec.fn H ds).vars = []
  | [], h => by rw [show Tryd.f12.params.toList.length = 1 from by kernel_rfl] at h; simp at h
  | [d0], _ => ⟨rfl, rfl, rfl⟩
  | d0 :: _ :: _, h => by rw [show Tryd.f12.params.toList.length = 1 from by kernel_rfl] at h; simp at h
theorem contract (H : Type) (enc : TypeId × Value → H) (W : World) (base : Nat) (args : Array Value) (ds gs : List (DataW H)) (before : List MemPlace)
    (hval : ∀ (j : Nat) t v, Tryd.f12.params[j]? = some t → args[j]? = some v → Value.okWide Tryd.prog W .any base t v)
    (hW : DataW.Whole enc Tryd.prog Tryd.f12.params.toList Rows.storeManifestsSpec.vars false W args.toList ds gs before) (hL : laidMetH Tryd.prog Rows.storeManifestsRow.laid W) :
    Calls Tryd.prog 12 args W fun e W' => ∃ v, e = .returned v ∧ Rows.storeManifestsSpec.post enc Tryd.prog Tryd.f12 false true false false W args v W' :=
  law_contract (n := 20) (fun x r h => G12_lcall x r h) (fun x hx => G12_true x hx) (by decide) (show Tryd.f12.resultTypes = #[4] by kernel_rfl) (by kernel_rfl) (by kernel_rfl) laidOut (by
    intro t ht
    have : (Tryd.f12.params.toList.all fun t => Tryd.prog.readableRec t && decide (t < Tryd.prog.types.size)) = true := by kernel_rfl
    have := List.all_eq_true.1 this t ht
    simpa using this) rfl spec_fn hval hW (tabOk hL)
theorem lifted (os : Os) (started : os.Started) (H : Type) (enc : TypeId × Value → H) (F : Stop.Interp) :
    ReturnsInHanded {} Tryd.checked os 12 .any ((OpenSpec.ofChange Rows.storeManifestsSpec).preRow enc Tryd.prog Tryd.f12 Rows.storeManifestsRow.domain false Rows.storeManifestsRow.laid) (((OpenSpec.ofChange Rows.storeManifestsSpec).at F).post enc Tryd.prog Tryd.f12 false true false false) := by
  obtain ⟨places, hx⟩ := reads os enc
  refine returnsInHanded_of_row (C := Tryd.checked) (s := OpenSpec.ofChange Rows.storeManifestsSpec) own started (by kernel_rfl) Tryd.func12
    (witness_row_at (enc := enc) (C := Tryd.checked) false (laidWorld os) #[(Value.slice none 0 0)] rfl (by kernel_rfl) (by kernel_rfl) (by kernel_rfl)
      (OpenSpec.preRow_of_cond 16 hx (by kernel_rfl) (fun k hk => by cases hk) (by kernel_rfl) (laid_met os))) ?_
  intro W base args ds gs before hval hW _ _ _ hL _ _
  exact contract H enc W base args ds gs before hval hW hL
theorem said : Rows.StoreManifestsSaid :=
  OpenClaim.holds_of_cond 12 Tryd.f12 rfl rfl rfl rfl rfl rfl rfl ⟨rfl, rfl, rfl, rfl, rfl⟩ rfl rfl rfl rfl rfl (by kernel_rfl) Tryd.func12 (by kernel_rfl)
    (of_decide_eq_true (by kernel_rfl)) (by unfold Func.isWrapper; first | (rw [if_pos (by decide +kernel)]; kernel_rfl) | (rw [if_neg (by decide +kernel)]; exact ⟨rfl, rfl⟩))
    (fun os started H enc _ F => by rw [OpenClaim.pre_eq_preRow]; exact lifted os started H enc F)
theorem plain (f : FuncId) (fn : Func) (hf : Tryd.pinned.checked.prog.funcNamed "talik/taliklaw06.StoreManifests" = some f) (hfn : Tryd.pinned.checked.prog.funcs[f]? = some fn) :
    true = Tryd.pinned.checked.prog.looks [] ∧ ∀ (j : Nat) t, fn.params[j]? = some t → Tryd.pinned.checked.prog.wantsStandIn t = false := by
  obtain rfl : f = 12 := Option.some.inj ((show Tryd.prog.funcNamed "talik/taliklaw06.StoreManifests" = some 12 by kernel_rfl).symm.trans hf) |>.symm
  obtain rfl : fn = Tryd.f12 := (Option.some.inj (Tryd.func12.symm.trans hfn)).symm
  refine ⟨by kernel_rfl, fun j t ht => ?_⟩
  have h : (Tryd.f12.params.toList.all fun t => !Tryd.prog.wantsStandIn t) = true := by kernel_rfl
  have := List.all_eq_true.1 h t (by rw [← Array.getElem?_toList] at ht; exact List.mem_of_getElem? ht)
  exact (show Tryd.prog.wantsStandIn t = false by simpa using this)
theorem card : Rows.StoreManifestsCardSaid :=
  Claim7.holds_tied_plain_at .later [] _ _ _ _ said (fun _ h => by cases h) (by kernel_rfl) (fun _ h => by cases h) storeManifests_row_tie rfl ⟨rfl, rfl⟩ (by kernel_rfl) rfl plain (by kernel_rfl)
end Go.Proofs.YtcijddeommognaaDoor.Abs.storeManifests
namespace Go.Proofs.YtcijddeommognaaDoor
theorem storeManifests_card : Rows.StoreManifestsCardSaid := Abs.storeManifests.card
end Go.Proofs.YtcijddeommognaaDoor
