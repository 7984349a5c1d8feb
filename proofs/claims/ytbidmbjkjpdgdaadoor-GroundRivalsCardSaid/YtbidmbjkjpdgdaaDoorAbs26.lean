/-
  The abstract semantics, twenty-sixth part: functions of data that hand back a new place, which nothing writes any more.
-/
import Derived.Test.YtbidmbjkjpdgdaaDoorAbs25
set_option linter.unusedVariables false
set_option linter.unusedSimpArgs false
namespace Go.Proofs.YtbidmbjkjpdgdaaDoor.Abs

def frzF : (R : PTy) → AVal → Bx → Option R.El
  | .ip T, .bptr b [], B => match B.box[b]? with
    | some c => bif c.isM then none else asData c T
    | none => none
  | R, v, _ => match R.dec v with
    | some y => some y.1
    | none => none

theorem frz_lcall {P : Program} {C : CalT} {Ls : List LoopT} {g : FuncId} {fn : Func} {c : Code} {A : List PTy} {R : PTy} {f : Els A → Option R.El} (hm : P.follows .mixedOrders = true) (hf : P.funcs[g]? = some fn) (hb : fn.body = some c) (hent : Ent P g) (hC : CV P C)
    (hL : LV 0 P false (loopsOf c) Ls) (hA : A.all PTy.pure = true) (hR : R.pure = true) (hev : ∀ x, fnR P C Ls fn c (encs A x) ⟨[], [], 0⟩ (frzF R) = f x) :
    ∀ x r, f x = some r → LCall 0 P g (encs A x) ⟨[], [], 0⟩ (R.enc r) ⟨[], [], 0⟩ := by
  intro x r hr
  obtain ⟨v, B', hk, hl⟩ := fnR_sound (n := 0) hm hf hb hent hC hL ((hev x).trans hr)
  unfold frzF at hk
  split at hk
  · rename_i T b
    split at hk
    · rename_i c hc
      cases hnm : c.isM with
      | true => rw [hnm] at hk; cases hk
      | false =>
        rw [hnm] at hk
        simp only [cond_false] at hk
        refine ⟨hl.1, fun G w vs hvs hw => (hl.2 G w vs hvs hw).mono ?_⟩
        rintro e w' ⟨cv, G1, rfl, h1, h2, h3, h4⟩
        obtain ⟨blk, hblk, _, rfl⟩ := ptr_form h1
        obtain ⟨cells, e, hh, hrc⟩ := (h2.boxes b blk c hblk hc).cells hnm
        have hrd := asData_spec hk _ hrc
        have hmem : blk ∈ G1.addr := List.mem_of_getElem? hblk
        have hge : w.heap.size ≤ blk := by
          rcases h3.addr blk hmem with h | h
          · have := hw.len
            have h0 : G.addr = [] := List.length_eq_zero_iff.1 this
            rw [h0] at h; cases h
          · exact h
        have hnone := h2.disj blk hmem
        let G2 : Gh := { imm := fun x => if x = blk then some cells.toList else G1.imm x, own := fun _ => none, addr := [] }
        have himm : ImmLe G1.imm G2.imm := fun b' row h => by
          have hne : b' ≠ blk := fun he => by subst he; rw [hnone] at h; cases h
          exact ⟨row, by simp [G2, hne, h], List.prefix_refl _⟩
        have hself : G2.imm blk = some cells.toList := by simp [G2]
        have hlen := RD.len hrd
        refine ⟨_, G2, rfl, leaf_v rfl ⟨blk, 0, cells.toList, rfl, hself, by omega, ?_⟩, ⟨rfl, List.nodup_nil, fun i b c h => by simp [G2] at h, fun b' row h => ?_, (fun b h => by cases h), (fun t b n h => by cases h), (fun t t' b n n' h => by cases h), fun q hq => ⟨(h2.tab q hq).1, (fun h => by cases h), (fun t n h => by cases h)⟩⟩,
          ⟨h3.os, h3.tape, h3.output, h3.size, h3.frame, h3.imm.trans himm, fun b' hb' ho => ?_, (fun b hb => by cases hb), (fun t b n h => by cases h)⟩, fun i b hi => by omega⟩
        · rw [List.drop_zero, List.take_of_length_le (by omega)]
          exact RD.mono himm hrd
        · by_cases hbe : b' = blk
          · subst hbe
            rw [hself] at h
            cases h
            exact ⟨cells, e, (0, 0), hh, List.prefix_refl _⟩
          · exact h2.imm b' row (by simpa [G2, hbe] using h)
        · have hne : b' ≠ blk := by omega
          show (if b' = blk then some cells.toList else G1.imm b') = G.imm b'
          rw [if_neg hne]
          exact h3.same b' hb' ho
    · cases hk
  · split at hk
    · rename_i y hy
      obtain ⟨y, l⟩ := y
      simp only [Option.some.injEq] at hk
      subst hk
      refine ⟨hl.1, fun G w vs hvs hw => (hl.2 G w vs hvs hw).mono ?_⟩
      rintro e w' ⟨cv, G1, rfl, h1, h2, h3, h4⟩
      let G2 : Gh := { imm := G1.imm, own := fun _ => none, addr := [] }
      have hr : ReTok G1 B'.dead G2 0 [] := ⟨rfl, by simp [G2], fun k t h => by cases h⟩
      have e := pure_toks hR hy
      subst e
      refine ⟨cv, G2, rfl, dec_v hr hy (under_top (pure_under hR)) (fun q hq => by cases hq) h1, ⟨rfl, List.nodup_nil, fun i b c h => by simp [G2] at h, h2.imm, (fun b h => by cases h), (fun t b n h => by cases h), (fun t t' b n n' h => by cases h), fun q hq => ⟨(h2.tab q hq).1, (fun h => by cases h), (fun t n h => by cases h)⟩⟩, ?_, fun i b hi => by omega⟩
      exact ⟨h3.os, h3.tape, h3.output, h3.size, h3.frame, h3.imm, h3.same, (fun b hb => by cases hb), (fun t b n h => by cases h)⟩
    · cases hk

end Go.Proofs.YtbidmbjkjpdgdaaDoor.Abs
