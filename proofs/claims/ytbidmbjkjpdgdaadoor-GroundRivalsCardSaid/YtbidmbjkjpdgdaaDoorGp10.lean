/-
  The law GroundRivals, as a function of data, holds for every input.
-/
import Derived.Test.YtbidmbjkjpdgdaaDoorGl10
import Derived.Test.YtbidmbjkjpdgdaaDoorGqa
set_option linter.unusedVariables false
set_option linter.unusedSimpArgs false
set_option maxRecDepth 100000
namespace Go.Proofs.YtbidmbjkjpdgdaaDoor.Abs

theorem rivals_deep {p : E25} {l : List E72} {d w : Int} (h : errOf p l true = 0) (hd : inB d 0 2000000 = true) (h0 : 0 ≤ w) (h9 : w ≤ 1000000) : g34_taliklaw01_deep (wp p w) l d = some (excW p l d w, (true, ())) := by
  unfold g34_taliklaw01_deep
  rw [g27_ok (by rw [hd]; exact wp_err h h0 h9)]
  simp only [Option.bind_some]
  rw [show decide ((exc true (wp p w) l 0 d : Int) < (l.length : Int)) = excW p l d w from by unfold excW; rw [decide_eq_decide]; omega]
  rfl
theorem rivals_in {p : E25} {l : List E72} {d h c : Int} {t : E29} : ∃ b, g10_taliklaw01_GroundRivals_k0_run ((l, (d, (h, (c, ())))), (p, (t, ()))) = some (0, ((l, (d, (h, (c, (b, ()))))), (p, (t, ())))) ∧ (b = false → Fair p l t ∧ (0 ≤ d ∧ d ≤ 2000000) ∧ (0 ≤ h ∧ h ≤ 1000000) ∧ 0 ≤ c ∧ c ≤ 1000000) := by
  unfold g10_taliklaw01_GroundRivals_k0_run
  obtain ⟨b, h1, h2⟩ := g22 p l t
  rw [h1]
  simp only [Option.bind_some]
  cases b with
  | false => exact ⟨true, rfl, fun h => by cases h⟩
  | true =>
    simp only [Bool.not_true, cond_false]
    by_cases a1 : d < 0
    · rw [decide_eq_true a1]; exact ⟨true, rfl, fun h => by cases h⟩
    rw [decide_eq_false a1]
    by_cases a2 : d > 2000000
    · rw [decide_eq_true a2]; exact ⟨true, rfl, fun h => by cases h⟩
    rw [decide_eq_false a2]
    by_cases a3 : h < 0
    · rw [decide_eq_true a3]; exact ⟨true, rfl, fun h => by cases h⟩
    rw [decide_eq_false a3]
    by_cases a4 : h > 1000000
    · rw [decide_eq_true a4]; exact ⟨true, rfl, fun h => by cases h⟩
    rw [decide_eq_false a4]
    by_cases a5 : c < 0
    · rw [decide_eq_true a5]; exact ⟨true, rfl, fun h => by cases h⟩
    rw [decide_eq_false a5]
    exact ⟨decide (c > 1000000), rfl, fun h => ⟨h2 rfl, by omega, by omega, by omega, by have := of_decide_eq_false h; omega⟩⟩
theorem rivals_true (p : E25) (l : List E72) (d h c : Int) (t : E29) : g10_taliklaw01_GroundRivals p l d h c t = some true := by
  unfold g10_taliklaw01_GroundRivals
  obtain ⟨b, e1, e2⟩ := rivals_in (p := p) (l := l) (d := d) (h := h) (c := c) (t := t)
  rw [e1, known_true]
  simp only [Option.bind_some]
  cases b with
  | true => rfl
  | false =>
    obtain ⟨hF, hd, hh, hc⟩ := e2 rfl
    have he := hF.err
    have hf := hF.few
    have hpl := okPl_len hF.place
    have hin : inB d 0 2000000 = true := inB_spec.2 hd
    have her : errOf p l (inB d 0 2000000) = 0 := by rw [hin]; exact he
    obtain ⟨x, hx, ex⟩ := g29_ok her
    obtain ⟨y, hy, ey⟩ := g30_ok her
    obtain ⟨x1, x2, x3⟩ := hx
    have hsp : g33_taliklaw01_span h h = some (h, (h, ())) := rfl
    have hwp : (p.1, ((h, (h, ())), p.2.2)) = wp p h := rfl
    have x4 := x3 h hh.1 hh.2
    rw [ex, hsp]
    simp only [Option.bind_some, cond_false]
    rw [hwp, rivals_deep he hin hh.1 hh.2]
    simp only [Option.bind_some]
    have k1 : g10_taliklaw01_GroundRivals_k1_run ((l, (d, (h, (c, ((if x < 0 then ((0 : Int), ((5 : Int), ())) else (x, (0, ()))).1, ((if x < 0 then ((0 : Int), ((5 : Int), ())) else (x, (0, ()))).2.1, (excW p l d h, (true, ())))))))), (p, (t, (wp p h, ())))) = some (0, ((l, (d, (c, (false, ())))), (p, (t, (wp p h, ()))))) := by
      unfold g10_taliklaw01_GroundRivals_k1_run
      by_cases cx : x < 0
      · have : excW p l d h = true := by
          cases q : excW p l d h with
          | true => rfl
          | false => have := x4.1 q; omega
        simp only [if_pos cx, this]
        rfl
      · have : excW p l d h = decide (h > x) := by
          cases q : excW p l d h with
          | true =>
            refine (decide_eq_true ?_).symm
            refine Classical.byContradiction fun hn => ?_
            have := x4.2 (by omega)
            rw [q] at this; cases this
          | false => exact (decide_eq_false (by have := x4.1 q; omega)).symm
        simp only [if_neg cx, this, show (decide (h > x) == decide (h > x)) = true from by simp]
        rfl
    rw [k1]
    simp only [Option.bind_some, cond_false, ey]
    have k2 : g10_taliklaw01_GroundRivals_k2_run ((l, (d, (c, ((if y < 0 then ((0 : Int), ((5 : Int), ())) else (y, (0, ()))).1, ((if y < 0 then ((0 : Int), ((5 : Int), ())) else (y, (0, ()))).2.1, ()))))), (p, (t, (wp p h, ())))) = some (0, ((l, (d, (c, ((if y < 0 then ((0 : Int), ((5 : Int), ())) else (y, (0, ()))).1, ((if y < 0 then ((0 : Int), ((5 : Int), ())) else (y, (0, ()))).2.1, (false, ())))))), (p, (t, (wp p h, ()))))) := by
      unfold g10_taliklaw01_GroundRivals_k2_run
      by_cases cy : y < 0
      · simp only [if_pos cy]
        rfl
      · simp only [if_neg cy]
        rfl
    rw [show (((wp p h).1, ((wp p h).2.1, (wp p h).2.2)) : E25) = wp p h from rfl, k2]
    simp only [Option.bind_some, cond_false]
    rw [g19 hF.T hF.L hc.1 (by omega), g26 (by omega) (by omega)]
    simp only [Option.bind_some]
    rw [follow_end hF.few hF.place hF.years hc.1 hc.2]
    simp only [Option.bind_some]
    rw [g28 (by omega), g28 (by omega)]
    simp only [Option.bind_some]
    rw [show (((wp p h).1, ((wp p h).2.1, (wp p h).2.2)) : E25) = wp p h from rfl]
    have hw := exc_le (w := true) (p := p) (l := l) (more := c) (d := d)
    have hown : exc true p l c d ≤ fst (thw p t c) d l.length 0 := fst_mono fun i hi => thw_hot hF.few hF.place hF.years hF.tru hc.1 hi
    rw [show ((fst (thw p (eT true p l) c) d l.length 0 : Nat) : Int) = (exc true p l c d : Int) from rfl]
    rcases hy with ⟨rfl, y1⟩ | ⟨y0, y9, y1⟩
    · have hk := y1 c hc.1 hc.2
      have hlt : exc true p l c d < l.length := by
        have : exc true p l c d ≠ l.length := of_decide_eq_false hk
        omega
      rw [if_pos (show (-1 : Int) < 0 by omega), decide_eq_true (show (exc true p l c d : Int) < (l.length : Int) by omega)]
      simp only [show ((5 : Int) == 5) = true from rfl, cond_true]
      unfold g10_taliklaw01_GroundRivals_k3_run
      rw [known_true]
      rfl
    · rw [if_neg (show ¬ y < 0 by omega)]
      simp only [show ((0 : Int) == 5) = false from rfl, cond_false]
      unfold g10_taliklaw01_GroundRivals_k4_run
      rw [known_true]
      have hk := y1 c hc.1 hc.2
      by_cases cy : c < y
      · have hlt : exc true p l c d < l.length := by
          have : exc true p l c d ≠ l.length := fun e => by
            have := hk.1 (decide_eq_true e)
            omega
          omega
        simp only [decide_eq_true cy, decide_eq_true (show (exc true p l c d : Int) < (l.length : Int) by omega)]
        rfl
      · have heq : exc true p l c d = l.length := of_decide_eq_true (hk.2 (by omega))
        simp only [decide_eq_false cy, decide_eq_false (show ¬ (exc true p l c d : Int) < (l.length : Int) by omega), decide_eq_false (show ¬ ((fst (thw p t c) d l.length 0 : Nat) : Int) < (l.length : Int) by omega)]
        rfl
theorem g10_taliklaw01_GroundRivals_true (x : Els [.dat T25, .dat (.list T72), .dat (.int .i64), .dat (.int .i64), .dat (.int .i64), .dat T29]) : g10_taliklaw01_GroundRivals x.1 x.2.1 x.2.2.1 x.2.2.2.1 x.2.2.2.2.1 x.2.2.2.2.2.1 = some true := rivals_true _ _ _ _ _ _
end Go.Proofs.YtbidmbjkjpdgdaaDoor.Abs
