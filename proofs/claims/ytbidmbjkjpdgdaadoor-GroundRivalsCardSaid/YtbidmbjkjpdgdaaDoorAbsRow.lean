/-
  The abstract semantics and rows: arguments that are read as data.
-/
import Derived.Test.YtbidmbjkjpdgdaaDoorAbs28
import Derived.ChangeArms
import Derived.OpenShut
import Derived.ChangeSame
import Derived.Carry
import Derived.Lib.LaidTab
set_option linter.unusedVariables false
set_option linter.unusedSimpArgs false
namespace Go.Proofs.YtbidmbjkjpdgdaaDoor.Abs

/-- All cells that there are, as unchanging. -/
def immOf (w : World) : Nat → Option (List Value) := fun b => match w.heap[b]? with
  | some (.cells c _ _) => some c.toList
  | _ => none

def layFs (P : Program) (rec : TypeId → DTy → Bool) : List Field → DTy → Nat → Bool
  | [], .nil, _ => true
  | f :: fs, .cons h t, o => f.offset == o && P.cellsOf f.type == h.sz && rec f.type h && layFs P rec fs t (o + h.sz)
  | _, _, _ => false
/-- A type is laid just as data. -/
def layT (P : Program) : Nat → TypeId → DTy → Bool
  | 0, _, _ => false
  | n + 1, t, T => P.cellsOf t == T.sz && match P.underlying t with
    | some .bool => match T with
      | .bool => true
      | _ => false
    | some (.int k) => match T with
      | .int k' => k == k'
      | _ => false
    | some .string => match T with
      | .str => true
      | _ => false
    | some (.slice e) => match T with
      | .list E => decide (0 < E.sz) && layT P n e E
      | _ => false
    | some (.array m e) => match T with
      | .arr m' E => m == m' && layT P n e E
      | _ => false
    | some (.struct fs) => layFs P (layT P n) fs.toList T 0
    | _ => false
theorem layT_sz {P : Program} {n : Nat} {t : TypeId} {T : DTy} (h : layT P n t T = true) : P.cellsOf t = T.sz := by
  cases n with
  | zero => simp [layT] at h
  | succ n =>
    simp only [layT, Bool.and_eq_true, beq_iff_eq] at h
    exact h.1

variable {H : Type} {enc : TypeId × Value → H} {P : Program} {w : World} {base : Nat} {sp : Nat → Bool} {held : Bool}

theorem cells_imm {a : Addr} {n : Nat} {cs : List Value} (hn : 0 < n) (h : w.cells? base a n = some cs) : ∃ b off row, a = ⟨b, off, none⟩ ∧ immOf w b = some row ∧ off + n ≤ row.length ∧ cs = (row.drop off).take n := by
  unfold World.cells? at h
  split at h
  · have hlen := mapM_some_length h
    simp only [List.length_range] at hlen
    have hget : ∀ i, i < n → w.cell? (a.add i) = cs[i]? := fun i hi => mapM_some_get h i i (by simp [hi])
    obtain ⟨b, off, spot⟩ := a
    have h0 := hget 0 hn
    have hcs0 : cs[0]? = some (cs[0]'(by omega)) := List.getElem?_eq_getElem (by omega)
    rw [hcs0] at h0
    have hadd0 : (⟨b, off, spot⟩ : Addr).add 0 = ⟨b, off, spot⟩ := by unfold Addr.add; rw [if_pos rfl]
    rw [hadd0] at h0
    unfold World.cell? at h0
    simp only at h0
    split at h0
    · rename_i c e fr hb
      cases hsp : spot.isSome with
      | true => rw [hsp] at h0; simp at h0
      | false =>
        have hnone : spot = none := by cases spot <;> simp at hsp; rfl
        subst hnone
        have hcell : ∀ i, i < n → c[off + i]? = cs[i]? := fun i hi => by
          have := hget i hi
          rw [addr_add] at this
          unfold World.cell? at this
          simp only [hb] at this
          simpa using this
        have hroom : off + n ≤ c.size := by
          have := hcell (n - 1) (by omega)
          rw [List.getElem?_eq_getElem (by omega : n - 1 < cs.length)] at this
          have := (Array.getElem?_eq_some_iff.1 this).1
          omega
        refine ⟨b, off, c.toList, rfl, by unfold immOf; rw [hb], by simpa using hroom, ?_⟩
        apply List.ext_getElem?
        intro i
        by_cases hi : i < n
        · rw [List.getElem?_take_of_lt hi, List.getElem?_drop, ← hcell i hi]
          simp
        · rw [List.getElem?_eq_none (by omega), List.getElem?_eq_none (by simp; omega)]
    · cases h0
  · cases h

theorem choose_list {α : Type} {p : Nat → α → Prop} : (n : Nat) → (∀ i, i < n → ∃ x, p i x) → ∃ xs : List α, xs.length = n ∧ ∀ i x, xs[i]? = some x → p i x
  | 0, _ => ⟨[], rfl, fun i x h => by simp at h⟩
  | n + 1, h => by
    obtain ⟨xs, h1, h2⟩ := choose_list n fun i hi => h i (by omega)
    obtain ⟨x, hx⟩ := h n (by omega)
    refine ⟨xs ++ [x], by simp [h1], fun i y hy => ?_⟩
    rw [List.getElem?_append] at hy
    split at hy
    · exact h2 i y hy
    · have hi : i = n := by
        have := (List.getElem?_eq_some_iff.1 hy).1
        simp at this; omega
      subst hi
      simp [h1] at hy
      subst hy
      exact hx

theorem trod_RD : ∀ (n : Nat) (fuel : Nat) (t : TypeId) (T : DTy) (cs : List Value) (x : DataW H × List MemPlace), layT P n t T = true → DataW.trod enc P w base sp held fuel t cs = some x → ∃ y : T.El, RD (immOf w) T y cs := by
  intro n
  induction n with
  | zero => intro fuel t T cs x h _; simp [layT] at h
  | succ n ih =>
    intro fuel t T cs x hl ht
    have hsz := layT_sz hl
    simp only [layT, Bool.and_eq_true] at hl
    replace hl := hl.2
    cases fuel with
    | zero => simp [DataW.trod] at ht
    | succ fuel =>
    split at hl
    · rename_i hu
      cases T <;> simp only [Bool.false_eq_true] at hl
      unfold DataW.trod at ht
      rw [hu] at ht
      split at ht <;> simp_all
      rename_i b
      cases b
      · exact .inl rfl
      · exact .inr rfl
    · rename_i k hu
      cases T <;> simp only [Bool.false_eq_true, beq_iff_eq] at hl
      subst hl
      obtain ⟨m, rfl, _⟩ := DataW.trod_int hu ht
      exact ⟨m, rfl⟩
    · rename_i hu
      cases T <;> simp only [Bool.false_eq_true] at hl
      unfold DataW.trod at ht
      rw [hu] at ht
      split at ht <;> simp_all
      rename_i s
      exact ⟨s, rfl⟩
    · rename_i e hu
      cases T <;> simp only [Bool.false_eq_true, Bool.and_eq_true, decide_eq_true_eq] at hl
      rename_i E
      have hes := layT_sz hl.2
      rcases DataW.trod_slice hu ht with ⟨rfl, _⟩ | ⟨a, len, cap, elems, rest, m, _, rfl, _, _, hlc, _, hlen, hel, _, _⟩
      · exact ⟨[], none, 0, rfl, Nat.le_refl _, fun h => absurd rfl h⟩
      · by_cases h0 : len = 0
        · subst h0
          exact ⟨[], some a, cap, rfl, Nat.zero_le _, fun h => absurd rfl h⟩
        · have each : ∀ i, i < len → ∃ (cs : List Value) (y : E.El), w.cells? base (a.add (i * E.sz)) E.sz = some cs ∧ RD (immOf w) E y cs := fun i hi => by
            have h1 := hel i hi
            rw [List.getElem?_eq_getElem (by omega), hes] at h1
            cases hc : w.cells? base (a.add (i * E.sz)) E.sz with
            | none => rw [hc] at h1; cases h1
            | some cs =>
              rw [hc] at h1
              simp only [Option.bind_some] at h1
              obtain ⟨y, hy⟩ := ih m e E cs _ hl.2 h1
              exact ⟨cs, y, rfl, hy⟩
          obtain ⟨c0, _, hc0, _⟩ := each 0 (by omega)
          obtain ⟨b, off, row, ha, hrow, _, _⟩ := cells_imm hl.1 hc0
          have ha' : a = ⟨b, off, none⟩ := by
            have : a.add (0 * E.sz) = a := by unfold Addr.add; rw [Nat.zero_mul, if_pos rfl]
            rw [this] at ha; exact ha
          subst ha'
          have each2 : ∀ i, i < len → ∃ y : E.El, off + i * E.sz + E.sz ≤ row.length ∧ RD (immOf w) E y ((row.drop (off + i * E.sz)).take E.sz) := fun i hi => by
            obtain ⟨cs, y, h1, h2⟩ := each i hi
            rw [addr_add] at h1
            obtain ⟨b', off', row', e1, e2, e3, e4⟩ := cells_imm hl.1 h1
            simp only [Addr.mk.injEq, and_true] at e1
            obtain ⟨rfl, rfl⟩ := e1
            rw [hrow] at e2
            cases e2
            exact ⟨y, e3, by rw [← e4]; exact h2⟩
          obtain ⟨ys, hy1, hy2⟩ := choose_list len each2
          refine ⟨ys, some ⟨b, off, none⟩, cap, by rw [hy1], by rw [hy1]; exact hlc, fun _ => ⟨b, off, row, rfl, hrow, ?_, fun i y hy => (hy2 i y hy).2⟩⟩
          have hlast := hy2 (len - 1) _ (List.getElem?_eq_getElem (by omega))
          have : (len - 1) * E.sz + E.sz = len * E.sz := by
            have h1 : len - 1 + 1 = len := by omega
            rw [← Nat.succ_mul]; show (len - 1 + 1) * E.sz = _; rw [h1]
          rw [hy1]
          omega
    · rename_i q e hu
      cases T <;> simp only [Bool.false_eq_true, Bool.and_eq_true, beq_iff_eq] at hl
      rename_i q' E
      obtain ⟨rfl, hle⟩ := hl
      have hes := layT_sz hle
      obtain ⟨xs, m, _, _, hlen, hxl, hf⟩ := DataW.trod_array hu ht
      rw [hsz] at hlen
      have each : ∀ i, i < q → ∃ y : E.El, RD (immOf w) E y ((cs.drop (i * E.sz)).take E.sz) := fun i hi => by
        have h1 := hf i hi
        rw [List.getElem?_eq_getElem (by omega), hes] at h1
        exact ih m e E _ _ hle h1
      obtain ⟨ys, hy1, hy2⟩ := choose_list q each
      exact ⟨ys, hy1, hlen, hy2⟩
    · rename_i fs hu
      obtain ⟨xs, m, _, _, hlen, hxl, hf⟩ := DataW.trod_struct hu ht
      rw [hsz] at hlen
      have main : ∀ (l : List Field) (T : DTy) (o : Nat), layFs P (layT P n) l T o = true → (∀ f ∈ l, ∃ z, DataW.trod enc P w base sp held m f.type ((cs.drop f.offset).take (P.cellsOf f.type)) = some z) → o + T.sz ≤ cs.length → ∃ y : T.El, RD (immOf w) T y ((cs.drop o).take T.sz) := by
        intro l
        induction l with
        | nil => intro T o h _ _; cases T <;> simp [layFs] at h; exact ⟨(), by simp [DTy.sz]; rfl⟩
        | cons f fs ihf =>
          intro T o h hz hr
          cases T with
          | cons a b =>
            simp only [layFs, Bool.and_eq_true, beq_iff_eq] at h
            obtain ⟨⟨⟨rfl, hcs⟩, hrec⟩, hrest⟩ := h
            obtain ⟨z, hz1⟩ := hz f (by simp)
            rw [hcs] at hz1
            obtain ⟨y1, hy1⟩ := ih m f.type a _ z hrec hz1
            have hs : (DTy.cons a b).sz = a.sz + b.sz := rfl
            rw [hs] at hr
            obtain ⟨y2, hy2⟩ := ihf b (f.offset + a.sz) hrest (fun g hg => hz g (by simp [hg])) (by omega)
            refine ⟨(y1, y2), _, _, ?_, hy1, hy2⟩
            rw [hs, List.take_add, List.drop_drop]
          | _ => simp [layFs] at h
      obtain ⟨y, hy⟩ := main fs.toList T 0 hl (fun f hf' => by
        obtain ⟨i, hi, he⟩ := List.mem_iff_getElem.1 hf'
        have hfi : fs[i]? = some f := by
          rw [← Array.getElem?_toList, List.getElem?_eq_getElem hi, he]
        have := hf i f hfi
        rw [List.getElem?_eq_getElem (by rw [hxl]; simpa using hi)] at this
        exact ⟨_, this⟩) (by omega)
      rw [List.drop_zero, List.take_of_length_le (by omega)] at hy
      exact ⟨y, hy⟩
    · cases hl

/-! ### A law's row -/
open Go.ChangeShapes Go.WideShapes Go.RowKit

theorem lay_agg {P : Program} {n : Nat} {t : TypeId} {T : DTy} (h : layT P n t T = true) : (T.agg = true → (∃ fs, P.underlying t = some (.struct fs)) ∨ ∃ m e, P.underlying t = some (.array m e)) ∧
    (T.agg = false → (P.underlying t = some .bool ∨ (∃ k, P.underlying t = some (.int k)) ∨ P.underlying t = some .string ∨ ∃ e, P.underlying t = some (.slice e))) := by
  cases n with
  | zero => simp [layT] at h
  | succ n =>
    simp only [layT, Bool.and_eq_true] at h
    replace h := h.2
    split at h
    · rename_i hu
      cases T <;> simp only [Bool.false_eq_true] at h
      exact ⟨fun h => by simp [DTy.agg] at h, fun _ => .inl hu⟩
    · rename_i k hu
      cases T <;> simp only [Bool.false_eq_true] at h
      exact ⟨fun h => by simp [DTy.agg] at h, fun _ => .inr (.inl ⟨k, hu⟩)⟩
    · rename_i hu
      cases T <;> simp only [Bool.false_eq_true] at h
      exact ⟨fun h => by simp [DTy.agg] at h, fun _ => .inr (.inr (.inl hu))⟩
    · rename_i e hu
      cases T <;> simp only [Bool.false_eq_true] at h
      exact ⟨fun h => by simp [DTy.agg] at h, fun _ => .inr (.inr (.inr ⟨e, hu⟩))⟩
    · rename_i m e hu
      cases T <;> simp only [Bool.false_eq_true] at h
      exact ⟨fun _ => .inr ⟨m, e, hu⟩, fun h => by simp [DTy.agg] at h⟩
    · rename_i fs hu
      refine ⟨fun _ => .inl ⟨fs, hu⟩, fun ha => ?_⟩
      generalize fs.toList = l at h
      generalize (0 : Nat) = o at h
      cases l <;> cases T <;> simp [layFs, DTy.agg] at h ha
    · cases h

theorem arg_v {H : Type} {enc : TypeId × Value → H} {P : Program} {W : World} {base base' n : Nat} {sp : Nat → Bool} {held : Bool} {t : TypeId} {T : DTy} {v : Value} {d : DataW H} {ps : List MemPlace} (hl : layT P n t T = true) (hok : Value.okWide P W .any base' t v) (h : DataW.Trod enc P W base sp held t v d ps) : ∃ y : T.El, VD (immOf W) T y v := by
  obtain ⟨fuel, hf⟩ := h
  obtain ⟨y, hy⟩ := trod_RD n fuel t T _ _ hl hf
  refine ⟨y, v.cells.toList, hy, ?_⟩
  obtain ⟨h1, h2⟩ := lay_agg hl
  cases ha : T.agg with
  | true =>
    refine .inl ⟨rfl, ?_⟩
    have : ∃ cs, v = .agg cs := by
      rcases h1 ha with ⟨fs, hu⟩ | ⟨m, e, hu⟩
      · unfold Value.okWide at hok
        rw [hu] at hok
        obtain ⟨cs, h, _⟩ := hok
        exact ⟨cs, h⟩
      · unfold Value.okWide at hok
        rw [hu] at hok
        obtain ⟨cs, h, _⟩ := hok
        exact ⟨cs, h⟩
    obtain ⟨cs, rfl⟩ := this
    simp [Value.cells]
  | false =>
    refine .inr ⟨rfl, ?_⟩
    have hna : ∀ cs, v ≠ .agg cs := fun cs hv => by
      subst hv
      rcases h2 ha with hu | ⟨k, hu⟩ | hu | ⟨e, hu⟩ <;> simp [Value.okWide, hu, Cell.okWide, Cell.ok] at hok
    cases v <;> first | rfl | exact absurd rfl (hna _)

def layA (P : Program) (n : Nat) : List TypeId → List PTy → Bool
  | [], [] => true
  | t :: ts, .dat T :: A => layT P n t T && layA P n ts A
  | _, _ => false
theorem args_vals {H : Type} {enc : TypeId × Value → H} {P : Program} {W : World} {base base' n : Nat} {sp : Nat → Bool} {held : Bool} {G : Gh} (hG : G.imm = immOf W) : {ts : List TypeId} → {A : List PTy} → {vs : List Value} → {ds : List (DataW H)} → {ps : List MemPlace} → layA P n ts A = true →
    (∀ (j : Nat) t v, ts[j]? = some t → vs[j]? = some v → Value.okWide P W .any base' t v) → DataW.TrodAll enc P W base sp held ts vs ds ps → ∃ x : Els A, Vals G [] (encs A x) vs
  | [], [], vs, ds, ps, _, _, h => by
    obtain ⟨rfl, _, _⟩ := trodAll_nil h
    exact ⟨(), .nil⟩
  | t :: ts, .dat T :: A, vs, ds, ps, hl, hok, h => by
    simp only [layA, Bool.and_eq_true] at hl
    obtain ⟨v, vs', d, ds', p, q, rfl, rfl, rfl, h1, h2⟩ := trodAll_cons h
    obtain ⟨y, hy⟩ := arg_v hl.1 (hok 0 t v rfl rfl) h1
    obtain ⟨x, hx⟩ := args_vals hG hl.2 (fun j t' v' ht hv => hok (j + 1) t' v' (by simpa using ht) (by simpa using hv)) h2
    refine ⟨(y, x), .cons ?_ hx⟩
    rw [← hG] at hy
    exact hy
  | [], .dat _ :: _, _, _, _, hl, _, _ => by simp [layA] at hl
  | [], .any :: _, _, _, _, hl, _, _ => by simp [layA] at hl
  | [], .fix _ :: _, _, _, _, hl, _, _ => by simp [layA] at hl
  | [], .own _ _ :: _, _, _, _, hl, _, _ => by simp [layA] at hl
  | [], .cons _ _ :: _, _, _, _, hl, _, _ => by simp [layA] at hl
  | [], .nil :: _, _, _, _, hl, _, _ => by simp [layA] at hl
  | [], .tup _ :: _, _, _, _, hl, _, _ => by simp [layA] at hl
  | [], .map _ _ :: _, _, _, _, hl, _, _ => by simp [layA] at hl
  | [], .ip _ :: _, _, _, _, hl, _, _ => by simp [layA] at hl
  | [], .lp _ _ _ :: _, _, _, _, hl, _, _ => by simp [layA] at hl
  | _ :: _, [], _, _, _, hl, _, _ => by simp [layA] at hl
  | _ :: _, .any :: _, _, _, _, hl, _, _ => by simp [layA] at hl
  | _ :: _, .fix _ :: _, _, _, _, hl, _, _ => by simp [layA] at hl
  | _ :: _, .own _ _ :: _, _, _, _, hl, _, _ => by simp [layA] at hl
  | _ :: _, .cons _ _ :: _, _, _, _, hl, _, _ => by simp [layA] at hl
  | _ :: _, .nil :: _, _, _, _, hl, _, _ => by simp [layA] at hl
  | _ :: _, .tup _ :: _, _, _, _, hl, _, _ => by simp [layA] at hl
  | _ :: _, .map _ _ :: _, _, _, _, hl, _, _ => by simp [layA] at hl
  | _ :: _, .ip _ :: _, _, _, _, hl, _, _ => by simp [layA] at hl
  | _ :: _, .lp _ _ _ :: _, _, _, _, hl, _, _ => by simp [layA] at hl

theorem trodAll_len {H : Type} {enc : TypeId × Value → H} {P : Program} {W : World} {base : Nat} {sp : Nat → Bool} {held : Bool} : {ts : List TypeId} → {vs : List Value} → {ds : List (DataW H)} → {ps : List MemPlace} → DataW.TrodAll enc P W base sp held ts vs ds ps → ds.length = ts.length
  | [], vs, ds, ps, h => by
    obtain ⟨rfl, rfl, rfl⟩ := trodAll_nil h
    rfl
  | t :: ts, vs, ds, ps, h => by
    obtain ⟨v, vs', d, ds', p, q, rfl, rfl, rfl, h1, h2⟩ := trodAll_cons h
    simp [trodAll_len h2]
theorem trodAll_stays {H : Type} {enc : TypeId × Value → H} {P : Program} (hlo : laidOutB P = true) {W W' : World} {sp' : Nat → Bool} : {ts : List TypeId} → {vs : List Value} → {ds : List (DataW H)} → {ps : List MemPlace} → (∀ t ∈ ts, P.readableRec t = true ∧ t < P.types.size) → DataW.TrodAll enc P W 0 (fun _ => true) true ts vs ds ps → (∀ p ∈ ps, W.sameAt W' p) → (∀ p ∈ ps, sp' p.block = true) → DataW.TrodAll enc P W' 0 sp' true ts vs ds ps
  | [], vs, ds, ps, _, h, _, _ => by
    obtain ⟨rfl, rfl, rfl⟩ := trodAll_nil h
    rfl
  | t :: ts, vs, ds, ps, hr, h, hs, hsp => by
    obtain ⟨v, vs', d, ds', p, q, rfl, rfl, rfl, h1, h2⟩ := trodAll_cons h
    have ht := hr t (by simp)
    exact ⟨p, q, WideElems.Trod_stays hlo ht.1 ht.2 h1 (fun x hx => hs x (by simp [hx])) (fun x hx => hsp x (by simp [hx])), trodAll_stays hlo (fun t' ht' => hr t' (by simp [ht'])) h2 (fun x hx => hs x (by simp [hx])) (fun x hx => hsp x (by simp [hx])), rfl⟩

/-- A law's contract, out of what its function of data hands back. -/
theorem law_contract {P : Program} {g : FuncId} {fn : Func} {A : List PTy} {f : Els A → Option Bool} {n : Nat} {s : ChangeSpec} {tb : TypeId} (hl : ∀ x r, f x = some r → LCall 0 P g (encs A x) ⟨[], [], 0⟩ (.d .bool r) ⟨[], [], 0⟩) (hf : ∀ x, f x = some true) (hg : g ≠ YLD)
    (hrt : fn.resultTypes = #[tb]) (hub : P.underlying tb = some .bool) (hlay : layA P n fn.params.toList A = true) (hlo : laidOutB P = true) (hread : ∀ t ∈ fn.params.toList, P.readableRec t = true ∧ t < P.types.size)
    (hvars : s.vars = []) (hfn : ∀ (H : Type) (ds : List (DataW H)), ds.length = fn.params.toList.length → (s.fn H ds).results = [.lit (.bool true)] ∧ (s.fn H ds).args = ds ∧ (s.fn H ds).vars = [])
    {H : Type} {enc : TypeId × Value → H} {W : World} {base : Nat} {args : Array Value} {ds gs : List (DataW H)} {before : List MemPlace} {apart fresh handsOn again : Bool}
    (hval : ∀ (j : Nat) t v, fn.params[j]? = some t → args[j]? = some v → Value.okWide P W .any base t v)
    (hW : DataW.Whole enc P fn.params.toList s.vars apart W args.toList ds gs before) (htab : ∀ q ∈ TABS, ∃ e fr, W.heap[q.1]? = some (.cells q.2 e fr)) :
    Calls P g args W fun e W' => ∃ v, e = .returned v ∧ s.post enc P fn apart fresh handsOn again W args v W' := by
  have hW0 := hW
  obtain ⟨p, q, hA, hV, rfl, hfz, hnd⟩ := hW
  rw [hvars] at hV
  obtain ⟨rfl, rfl⟩ := trodVars_none hV
  let G : Gh := { imm := immOf W, own := fun _ => none, addr := [] }
  obtain ⟨x, hx⟩ := args_vals (G := G) (n := n) (base' := base) rfl hlay (fun j t v ht hv => hval j t v (by rw [← Array.getElem?_toList]; exact ht) (by rw [← Array.getElem?_toList]; exact hv)) hA
  have himm : ∀ b row, G.imm b = some row → ∃ cells e fr, W.heap[b]? = some (.cells cells e fr) ∧ row <+: cells.toList := fun b row hb => by
    have hb' : immOf W b = some row := hb
    unfold immOf at hb'
    split at hb'
    · rename_i c e fr hc
      simp only [Option.some.injEq] at hb'
      exact ⟨c, e, fr, hc, by rw [hb']; exact List.prefix_refl _⟩
    · cases hb'
  have hwok : WOk G ⟨[], [], 0⟩ W := ⟨rfl, List.nodup_nil, (fun i b c h => by simp [G] at h), himm, (fun b h => by cases h), (fun t b n h => by cases h), (fun t t' b n n' h => by cases h), fun q hq => ⟨htab q hq, (fun h => by cases h), (fun t n h => by cases h)⟩⟩
  have hcall := ((hl x true (hf x)).2 G W args.toList hx hwok).1 hg
  refine Calls.mono hcall ?_
  rintro e W' ⟨cv, G', rfl, hcv, hw', hext, _⟩
  have hsame : ∀ b, b < W.heap.size → W'.heap[b]? = W.heap[b]? := fun b hb => hext.frame b hb (by simp [G]) (fun t n h => by cases h)
  have hcv' := bool_form hcv
  subst hcv'
  refine ⟨_, rfl, ?_⟩
  have hlen : ds.length = fn.params.toList.length := (trodAll_len hA)
  obtain ⟨e1, e2, e3⟩ := hfn H (ds ++ []) (by simpa using hlen)
  have hlt : ∀ p' ∈ p, p'.block < W.heap.size := fun p' hp' => hA.lt p' hp'
  have hsa : ∀ p' ∈ p, W.sameAt W' p' := fun p' hp' => by
    have hb := hsame p'.block (hlt p' hp')
    cases p' with
    | cell b off =>
      show W'.cell? ⟨b, off, none⟩ = W.cell? ⟨b, off, none⟩
      unfold World.cell?
      rw [show W'.heap[b]? = W.heap[b]? from hb]
    | map b => exact hb
  have hargs : ∀ sp : Nat → Bool, (∀ p' ∈ p, sp p'.block = true) → DataW.TrodAll enc P W' 0 sp true fn.params.toList args.toList ds p := fun sp hsp => trodAll_stays hlo hread hA hsa hsp
  have hres : ∀ (b : Nat) (sp : Nat → Bool) (hd : Bool), DataW.TrodAll enc P W' b sp hd fn.resultTypes.toList ((Value.bool true).resultList fn.resultTypes.size) [.lit (.bool true)] [] := fun b sp hd => by
    rw [hrt]
    exact trodAll_cons_mk (shut_bool hub _) trodAll_mk0
  have hvv : ∀ sp : Nat → Bool, DataW.TrodVars enc P W' sp s.vars ([] : List (DataW H)) [] := fun sp => by rw [hvars]; rfl
  have hold : ∀ p' ∈ p, (fun b => decide (b < W.heap.size)) p'.block = true := fun p' hp' => by simpa using hlt p' hp'
  refine ⟨ds, [], p ++ [], [], p, [], hW0, ?_, ?_, ?_, ?_, fun _ => ?_⟩
  · rw [e1]; exact hres _ _ _
  · rw [e2, List.append_nil]; exact hargs _ hold
  · rw [e3]; exact hvv _
  · have hk : W.keptBut W' (fun _ => False) := ⟨hext.os, hext.output, fun i hi => by
      rw [hsame i hi]
      exact (World.keptBut_refl W (fun _ => False)).2.2 i hi⟩
    exact World.keptBut_mono (fun _ f => f.elim) hk
  · refine ⟨ok_one hrt rfl (okWide_bool_mk hub _), _, _, ([] ++ p) ++ [], ⟨[] ++ p, [], trodAll_append (hargs _ (fun _ _ => rfl)) (hres _ _ _), hvv _, rfl, ?_, ?_⟩, ?_⟩
    · intro b off hp
      have hp' : MemPlace.cell b off ∈ p := by simpa using hp
      have hz := hfz b off (by simpa using hp')
      have hb := hsame b (hlt _ hp')
      unfold World.frozen? at hz ⊢
      rw [show W'.heap[b]? = W.heap[b]? from hb]
      exact hz
    · intro ha
      have := hnd ha
      simpa using this
    · intro p' hp' _
      simpa using hp'

end Go.Proofs.YtbidmbjkjpdgdaaDoor.Abs
