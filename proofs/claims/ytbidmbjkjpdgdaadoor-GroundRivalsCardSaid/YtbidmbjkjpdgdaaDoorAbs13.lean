/-
  The abstract semantics, thirteenth part: slices of slices and of strings; calls; every operation.
-/
import Derived.Test.YtbidmbjkjpdgdaaDoorAbs12
set_option linter.unusedVariables false
set_option linter.unusedSimpArgs false
namespace Go.Proofs.YtbidmbjkjpdgdaaDoor.Abs

/-! ### Parts of slices and of strings -/
def intOf (x : AVal) : Option Int := match x with
  | .d (.int _) i => some i
  | _ => none
def bndA (ρ : Operand → AVal) (x : Option Operand) (dflt : Int) : Option Int := match x with
  | none => some dflt
  | some y => intOf (ρ y)

def sliceA (P : Program) (t : TypeId) (x : Operand) (lo hi mx : Option Operand) (ρ : Operand → AVal) : Option (Bool × AVal) :=
  match mx with
  | some _ => none
  | none => match P.underlying t with
    | some .string => match ρ x with
      | .d .str s => match bndA ρ lo 0, bndA ρ hi (ByteArray.size s : Int) with
        | some l, some h => some (decide (0 ≤ l) && decide (l ≤ h) && decide (h ≤ (ByteArray.size s : Int)), .d .str (ByteArray.extract s l.toNat h.toNat))
        | _, _ => none
      | _ => none
    | some (.slice e) => match szT P e with
      | some n => match ρ x with
        | .d (.list T) xs => match bndA ρ lo 0, bndA ρ hi (List.length xs : Int) with
          | some l, some h => bif n == T.sz then some (decide (0 ≤ l) && decide (l ≤ h) && decide (h ≤ (List.length xs : Int)), .d (.list T) (((xs : List T.El).take h.toNat).drop l.toNat : List T.El)) else none
          | _, _ => none
        | .own _ T xs => match bndA ρ lo 0, bndA ρ hi (List.length xs : Int) with
          | some l, some h => bif n == T.sz then some (decide (0 ≤ l) && decide (l ≤ h) && decide (h ≤ (List.length xs : Int)), .d (.list T) ((xs.take h.toNat).drop l.toNat : List T.El)) else none
          | _, _ => none
        | _ => none
      | none => none
    | _ => none

theorem intOf_v {G : Gh} {dead : List Nat} {x : AVal} {i : Int} {v : Value} (h : intOf x = some i) (hv : Rv G dead x v) : ∃ k, v = .int k i := by
  unfold intOf at h
  split at h
  · rename_i k j
    simp only [Option.some.injEq] at h
    subst h
    exact ⟨k, int_form hv⟩
  · cases h

theorem run_bounds {P : Program} {G : Gh} {dead : List Nat} {ρ : Operand → AVal} {ev : Operand → Value} {lo hi : Option Operand} {isS : Bool} {len cap : Nat} {l h : Int} (hl : bndA ρ lo 0 = some l) (hh : bndA ρ hi (len : Int) = some h)
    (hlv : ∀ y, lo = some y → Rv G dead (ρ y) (ev y)) (hhv : ∀ y, hi = some y → Rv G dead (ρ y) (ev y)) (h0 : 0 ≤ l) (h1 : l ≤ h) (h2 : h ≤ (len : Int)) (hc : len ≤ cap) (w : World) :
    (Instr.sliceBounds isS len cap (lo.map ev) (hi.map ev) none).run P w = .ok (l.toNat, h.toNat, cap) w := by
  have rb : ∀ (k : IntKind) (i : Int) (y : Nat) (code : BoundsCode), 0 ≤ i → i ≤ (y : Int) → (Instr.sliceBound (.int k i) y code).run P w = .ok i.toNat w := fun k i y code a b => by
    unfold Instr.sliceBound
    simp [asIntOf, a, b]
  unfold Instr.sliceBounds
  cases hi with
  | none =>
    simp only [bndA, Option.some.injEq] at hh
    subst hh
    cases lo with
    | none =>
      simp only [bndA, Option.some.injEq] at hl
      subst hl
      simp
    | some y =>
      obtain ⟨k, hk⟩ := intOf_v hl (hlv y rfl)
      simp [hk, rb k l len .sliceB h0 h1]
  | some z =>
    obtain ⟨k2, hk2⟩ := intOf_v hh (hhv z rfl)
    have r2 := fun code => rb k2 h cap code (by omega) (by omega)
    cases lo with
    | none =>
      simp only [bndA, Option.some.injEq] at hl
      subst hl
      simp [hk2, r2]
    | some y =>
      obtain ⟨k, hk⟩ := intOf_v hl (hlv y rfl)
      have r1 := fun code => rb k l h.toNat code h0 (by omega)
      simp [hk, hk2, r1, r2]

theorem sliceA_sound {P : Program} {o : Oper} {ρ : Operand → AVal} {v : AVal} {t : TypeId} {x : Operand} {lo hi mx : Option Operand} (ho : o.op = .slice t x lo hi mx) (h : sliceA P t x lo hi mx ρ = some (true, v)) (B : Bx) : OpD P o ρ B v B := by
  refine OpD.value (fun G dead a ha => ?_) B
  unfold sliceA at h
  split at h
  · cases h
  have hops : ∀ y, y = x ∨ lo = some y ∨ hi = some y → Rv G dead (ρ y) (a.eval y) := fun y hy => ha y (by
    rw [ho]
    simp only [Op.operands]
    rcases hy with rfl | rfl | rfl <;> simp)
  have hx := hops x (.inl rfl)
  have hlo := fun y (hy : lo = some y) => hops y (.inr (.inl hy))
  have hhi := fun y (hy : hi = some y) => hops y (.inr (.inr hy))
  split at h
  · rename_i hu
    split at h
    · rename_i s hs
      rw [hs] at hx
      have e1 := str_form hx
      split at h
      · rename_i l hh h1 h2
        simp only [Option.some.injEq, Prod.mk.injEq, Bool.and_eq_true, decide_eq_true_eq] at h
        obtain ⟨⟨⟨a1, a2⟩, a3⟩, rfl⟩ := h
        refine ⟨.string (ByteArray.extract s l.toNat hh.toNat), fun w => ?_, leaf_v rfl rfl⟩
        simp only [execOp, ho, e1, Sem.run_bind]
        unfold Instr.sliceAt
        simp only [Sem.run_bind, run_underlying' hu, Result.andThen_ok]
        unfold Instr.slice
        simp only [Sem.run_bind, run_underlying' hu, Result.andThen_ok, Option.map_none, Option.isSome_none, Bool.false_eq_true, if_false, Sem.run_pure]
        rw [run_bounds h1 h2 hlo hhi a1 a2 a3 (Nat.le_refl _) w]
        rfl
      · cases h
    · cases h
  · rename_i e hu
    split at h
    · rename_i n hn
      obtain ⟨ti, hti, rfl⟩ := szT_spec hn
      have key : ∀ (T : DTy) (xs : List T.El) (l hh : Int), Rv G dead (.d (.list T) xs) (a.eval x) → bndA ρ lo 0 = some l → bndA ρ hi (xs.length : Int) = some hh →
          (bif ti.size == T.sz then some (decide (0 ≤ l) && decide (l ≤ hh) && decide (hh ≤ (xs.length : Int)), AVal.d (.list T) ((xs.take hh.toNat).drop l.toNat : List T.El)) else none) = some (true, v) →
          ∃ cv, (∀ w, (execOp a.eval o).run P w = .ok (.value cv) w) ∧ Rv G dead v cv := by
        intro T xs l hh hxs h1 h2 h
        cases hb : ti.size == T.sz with
        | false => rw [hb] at h; cases h
        | true =>
          simp only [hb, cond_true, Option.some.injEq, Prod.mk.injEq, Bool.and_eq_true, decide_eq_true_eq] at h
          obtain ⟨⟨⟨a1, a2⟩, a3⟩, rfl⟩ := h
          have hb' : ti.size = T.sz := by simpa using hb
          obtain ⟨A, cap, hv, hr⟩ := list_form hxs
          obtain ⟨A', cap', e', hcap, hrr⟩ := hr
          obtain ⟨rfl, rfl⟩ : A = A' ∧ cap = cap' := by simpa using e'
          have hlen : ((xs.take hh.toNat).drop l.toNat).length = hh.toNat - l.toNat := by simp; omega
          refine ⟨.slice (if cap = l.toNat then A else A.map (·.add (l.toNat * ti.size))) (hh.toNat - l.toNat) (cap - l.toNat), fun w => ?_, leaf_v rfl ⟨_, _, by rw [hlen], by rw [hlen]; omega, fun hne => ?_⟩⟩
          · simp only [execOp, ho, hv, Sem.run_bind]
            unfold Instr.sliceAt
            simp only [Sem.run_bind, run_underlying' hu, Result.andThen_ok]
            unfold Instr.slice
            simp only [Sem.run_bind, run_underlying' hu, Result.andThen_ok, Option.map_none]
            rw [run_bounds h1 h2 hlo hhi a1 a2 a3 hcap w]
            simp only [Result.andThen_ok, Sem.run_bind, run_sizeOf' hti, Sem.run_pure]
          · have hpos : 0 < hh.toNat - l.toNat := by rw [← hlen]; exact List.length_pos_iff.2 hne
            have hxne : xs ≠ [] := fun h0 => by subst h0; simp at a3; omega
            obtain ⟨b, off, row, rfl, hb1, hb2, hb3⟩ := hrr hxne
            rw [if_neg (by omega)]
            refine ⟨b, off + l.toNat * T.sz, row, by simp [addr_add, hb'], hb1, ?_, fun i y hy => ?_⟩
            · rw [hlen, Nat.add_assoc, ← Nat.add_mul]
              refine Nat.le_trans (Nat.add_le_add_left (Nat.mul_le_mul_right _ ?_) off) hb2
              omega
            · rw [List.getElem?_drop] at hy
              have hy' : xs[l.toNat + i]? = some y := by
                rw [List.getElem?_take] at hy
                split at hy
                · exact hy
                · cases hy
              have := hb3 _ y hy'
              rw [Nat.add_mul, ← Nat.add_assoc] at this
              exact this
      split at h
      · rename_i T xs hs
        rw [hs] at hx
        split at h
        · rename_i l hh h1 h2; exact key T xs l hh hx h1 h2 h
        · cases h
      · rename_i tok T xs hs
        rw [hs] at hx
        split at h
        · rename_i l hh h1 h2; exact key T xs l hh (own_list hx) h1 h2 h
        · cases h
      · cases h
    · cases h
  · cases h

/-! ### Calls -/
/-- In the place of a function: a round of a range over a function; the first argument is its yield. -/
def YLD : FuncId := 1000000
def Ent (P : Program) (f : FuncId) : Prop := f ≠ YLD ∧ ∀ (args : Array Value) (w : World), (callFunc f args).run P w = .ok (.enter f args) w
def Ent' (P : Program) (f : FuncId) : Prop := f = YLD ∨ Ent P f
/-- A call, or a round. -/
def Run (P : Program) (g : FuncId) (vs : List Value) (w : World) (R : Ending → World → Prop) : Prop :=
  (g ≠ YLD → Calls P g vs.toArray w R) ∧
  (g = YLD → ∀ l vs', vs = .func (.yield l) #[] #[] :: vs' → ∃ fn tm asg bd, (Instr.yield l vs'.toArray).run P w = .ok (.round l fn tm asg bd) w ∧ RoundIn Fence.wide 0 P l fn tm asg bd w R)
theorem Run.mono {P : Program} {g : FuncId} {vs : List Value} {w : World} {R R' : Ending → World → Prop} (h : Run P g vs w R) (hr : ∀ e w', R e w' → R' e w') : Run P g vs w R' :=
  ⟨fun hg => (h.1 hg).mono hr, fun hg l vs' hv => by
    obtain ⟨fn, tm, asg, bd, h1, h2⟩ := h.2 hg l vs' hv
    exact ⟨fn, tm, asg, bd, h1, h2.mono hr⟩⟩
theorem Run.call {P : Program} {g : FuncId} {vs : List Value} {w : World} {R : Ending → World → Prop} (hg : g ≠ YLD) (h : Calls P g vs.toArray w R) : Run P g vs w R :=
  ⟨fun _ => h, fun e => absurd e hg⟩
inductive Vals (G : Gh) (dead : List Nat) : List AVal → List Value → Prop where
  | nil : Vals G dead [] []
  | cons {a v az vs} : Rv G dead a v → Vals G dead az vs → Vals G dead (a :: az) (v :: vs)
/-- What a call comes to. -/
def ACall (P : Program) (g : FuncId) (args : List AVal) (B : Bx) (v : AVal) (B' : Bx) : Prop :=
  Ent' P g ∧ ∀ (G : Gh) (w : World) (vs : List Value), Vals G B.dead args vs → WOk G B w →
    Run P g vs w fun e w' => ∃ cv G', e = .returned cv ∧ Rv G' B'.dead v cv ∧ WOk G' B' w' ∧ GLe G B.dead G' B'.dead ∧ Ext G w G' w'

/-- What is known of functions that are called. -/
structure CalT where
  run : (X : Type) → FuncId → List AVal → Bx → (AVal → Bx → Option X) → Option X
  /-- functions that leave all boxes as they are -/
  ro : FuncId → Bool
  /-- .. and that look at none -/
  any : FuncId → Bool
  /-- is the order drawn? -/
  dr : Bool
/-- .. with the order drawn. -/
def CalT.drawn (C : CalT) : CalT := ⟨C.run, C.ro, C.any, true⟩
/-- The same boxes, and the same owners. -/
def Sim (B B0 : Bx) : Prop := B0.box = B.box ∧ B0.dead = B.dead
theorem Sim.refl (B : Bx) : Sim B B := ⟨rfl, rfl⟩
theorem Sim.symm {B B0 : Bx} (h : Sim B B0) : Sim B0 B := ⟨h.1.symm, h.2.symm⟩
theorem Sim.trans {B B0 B1 : Bx} (h : Sim B B0) (k : Sim B0 B1) : Sim B B1 := ⟨k.1.trans h.1, k.2.trans h.2⟩
structure CRes (P : Program) (C : CalT) (g : FuncId) (args : List AVal) (B : Bx) (v : AVal) (B' : Bx) : Prop where
  call : ACall P g args B v B'
  ro : C.ro g = true → B' = B ∧ ∀ B0, Sim B B0 → ACall P g args B0 v B0
  any : C.any g = true → ∀ B0, ACall P g args B0 v B0
  len : B.box.length ≤ B'.box.length
def CV (P : Program) (C : CalT) : Prop := ∀ X g args B k r, C.run X g args B k = some r → ∃ v B', k v B' = some r ∧ CRes P C g args B v B'

theorem CV.drawn {P : Program} {C : CalT} (hC : CV P C) : CV P C.drawn := by
  intro X g args B k r h
  obtain ⟨v, B', hk, hc⟩ := hC X g args B k r h
  exact ⟨v, B', hk, ⟨hc.call, hc.ro, hc.any, hc.len⟩⟩

theorem Vals.append {G : Gh} {dead : List Nat} : {az bs : List AVal} → {vs us : List Value} → Vals G dead az vs → Vals G dead bs us → Vals G dead (az ++ bs) (vs ++ us)
  | _, _, _, _, .nil, h => h
  | _, _, _, _, .cons h t, h' => .cons h (t.append h')
theorem vals_chain {G : Gh} {dead : List Nat} : {a : AVal} → {vs : List Value} → Rl G dead a vs → Vals G dead (unchain a) vs
  | .nil, vs, h => by have h : vs = [] := h; subst h; exact .nil
  | .cons a t, vs, h => by
    obtain ⟨v, l, rfl, hv, hl⟩ := h
    exact .cons hv (vals_chain hl)
  | .d .., vs, h | .own .., vs, h | .pnil, vs, h | .bptr .., vs, h | .iptr .., vs, h | .func .., vs, h | .fnil, vs, h | .snil, vs, h | .iface .., vs, h | .inil, vs, h | .tuple .., vs, h | .any, vs, h | .mnil, vs, h | .mref _, vs, h | .mobj .., vs, h | .yref _, vs, h | .lobj .., vs, h => h.elim
theorem chain_vals {G : Gh} {dead : List Nat} : {az : List AVal} → {vs : List Value} → Vals G dead az vs → Rl G dead (chain az) vs
  | [], _, .nil => rfl
  | a :: az, _, .cons h t => ⟨_, _, rfl, h, chain_vals t⟩
theorem vals_map {G : Gh} {dead : List Nat} {ρ : Operand → AVal} {ev : Operand → Value} : {l : List Operand} → (∀ x ∈ l, Rv G dead (ρ x) (ev x)) → Vals G dead (l.map ρ) (l.map ev)
  | [], _ => .nil
  | x :: l, h => .cons (h x (by simp)) (vals_map fun y hy => h y (by simp [hy]))

def callA (C : CalT) {X : Type} (f : AVal) (args : List AVal) (B : Bx) (k : AVal → Bx → Option X) : Option X :=
  match f with
  | .func (.func g) first cap => bif g == YLD then none else C.run X g (unchain first ++ args ++ unchain cap) B k
  | .yref b => C.run X YLD (.yref b :: args) B k
  | _ => none

theorem acall_op {P : Program} {o : Oper} {ρ : Operand → AVal} {c : Call} {f : Operand} {g : FuncId} {first cap : AVal} {B B' : Bx} {v : AVal} (ho : o.op = .call c) (hcal : c.callee = .value f) (hf : ρ f = .func (.func g) first cap) (hgy : g ≠ YLD)
    (hac : ACall P g (unchain first ++ c.args.toList.map ρ ++ unchain cap) B v B') : OpD P o ρ B v B' := by
  obtain ⟨hent, hcall⟩ := hac
  replace hent := (hent.resolve_left hgy).2
  intro G a w ha hw next Q hn
  have hops : ∀ y, y = f ∨ y ∈ c.args.toList → Rv G B.dead (ρ y) (a.eval y) := fun y hy => ha y (by
    rw [ho]
    simp only [Op.operands, Call.operands, hcal]
    rcases hy with rfl | hy
    · simp
    · simp [Array.mem_toList_iff.1 hy])
  have hfv := hops f (.inl rfl)
  rw [hf] at hfv
  obtain ⟨cs, ⟨fv, cv, rfl, h1, h2⟩, hh | hh⟩ := hfv
  · cases hh.1
  · have hfe : a.eval f = .func (.func g) fv.toArray cv.toArray := by simpa using hh.2.symm
    have hvals := ((vals_chain h1).append (vals_map (ev := a.eval) fun x hx => hops x (.inr hx))).append (vals_chain h2)
    have hrun : (execOp a.eval o).run P w = .ok (.enter g (fv ++ c.args.toList.map a.eval ++ cv).toArray) w := by
      simp only [execOp, ho]
      unfold resolve
      simp only [hcal, hfe, Deferred.ofValue, Sem.run_bind, Sem.run_pure, Result.andThen_ok, invoke]
      rw [hent]
      congr 2
      apply Array.ext'
      simp
    intro r
    refine ⟨fun _ _ => trivial, ?_⟩
    have hrun' : (o.semAt (Fr r).round a.eval).run P w = .ok (.enter g (fv ++ c.args.toList.map a.eval ++ cv).toArray) w := semAt_run hrun (fun d => by simp)
    rw [hrun', Oper.uponIn_enter]
    refine ⟨(fun h => by cases h), callsIn_wide.2 (((hcall G w _ hvals hw).1 hgy).mono ?_)⟩
    rintro e w' ⟨cv', G', rfl, g1, g2, g3, g4⟩
    exact hn cv' G' w' g1 g2 g3 g4

theorem acall_yop {P : Program} {o : Oper} {ρ : Operand → AVal} {c : Call} {f : Operand} {b : Nat} {B B' : Bx} {v : AVal} (ho : o.op = .call c) (hcal : c.callee = .value f) (hf : ρ f = .yref b)
    (hac : ACall P YLD (.yref b :: c.args.toList.map ρ) B v B') : OpD P o ρ B v B' := by
  obtain ⟨_, hcall⟩ := hac
  intro G a w ha hw next Q hn
  have hops : ∀ y, y = f ∨ y ∈ c.args.toList → Rv G B.dead (ρ y) (a.eval y) := fun y hy => ha y (by
    rw [ho]
    simp only [Op.operands, Call.operands, hcal]
    rcases hy with rfl | hy
    · simp
    · simp [Array.mem_toList_iff.1 hy])
  have hfv := hops f (.inl rfl)
  have hfv' := hfv
  rw [hf] at hfv
  obtain ⟨cs, ⟨blk, _, rfl⟩, hh | hh⟩ := hfv
  · cases hh.1
  · have hfe : a.eval f = .func (.yield blk) #[] #[] := by simpa using hh.2.symm
    rw [hf, hfe] at hfv'
    have hvals := Vals.cons hfv' (vals_map (ev := a.eval) fun x hx => hops x (.inr hx))
    obtain ⟨fn, tm, asg, bd, h1, h2⟩ := (hcall G w _ hvals hw).2 rfl blk _ rfl
    have hrun : (execOp a.eval o).run P w = .ok (.round blk fn tm asg bd) w := by
      simp only [execOp, ho]
      unfold resolve
      simp only [hcal, hfe, Deferred.ofValue, Sem.run_bind, Sem.run_pure, Result.andThen_ok, invoke]
      rw [← h1]
      congr 2
      apply Array.ext'
      simp
    intro r
    refine ⟨fun _ _ => trivial, ?_⟩
    have hrun' : (o.semAt (Fr r).round a.eval).run P w = .ok (.round blk fn tm asg bd) w := semAt_run hrun (fun d => by simp)
    rw [hrun', Oper.uponIn_round]
    refine ⟨(fun h => by cases h), RoundIn.mono h2 ?_⟩
    rintro e w' ⟨cv', G', rfl, g1, g2, g3, g4⟩
    exact hn cv' G' w' g1 g2 g3 g4

theorem callA_sound {P : Program} {C : CalT} {X : Type} {o : Oper} {ρ : Operand → AVal} {c : Call} {f : Operand} {B : Bx} {k : AVal → Bx → Option X} {r : X} (hC : CV P C) (ho : o.op = .call c) (hcal : c.callee = .value f) (h : callA C (ρ f) (c.args.toList.map ρ) B k = some r) (hρ : ∀ f, ρ (.func f) = .func (.func f) .nil .nil) :
    ∃ v B', k v B' = some r ∧ OpD P o ρ B v B' ∧ (∀ g, f = .func g → (C.ro g = true → B' = B ∧ ∀ B0, Sim B B0 → OpD P o ρ B0 v B0) ∧ (C.any g = true → ∀ B0, OpD P o ρ B0 v B0)) ∧ B.box.length ≤ B'.box.length := by
  unfold callA at h
  split at h
  · rename_i g first cap hf
    cases hgy : g == YLD with
    | true => rw [hgy] at h; cases h
    | false =>
    rw [hgy] at h
    simp only [cond_false] at h
    replace hgy : g ≠ YLD := by simpa using hgy
    obtain ⟨v, B', hk, hac⟩ := hC _ _ _ _ _ _ h
    refine ⟨v, B', hk, acall_op ho hcal hf hgy hac.call, fun g' hg => ?_, hac.len⟩
    have hgg : g = g' := by subst hg; rw [hρ] at hf; injection hf with e1 e2 e3; injection e1 with e1; exact e1.symm
    subst hgg
    exact ⟨fun hr => ⟨(hac.ro hr).1, fun B0 hs => acall_op ho hcal hf hgy ((hac.ro hr).2 B0 hs)⟩, fun hr B0 => acall_op ho hcal hf hgy (hac.any hr B0)⟩
  · rename_i b hf
    obtain ⟨v, B', hk, hac⟩ := hC _ _ _ _ _ _ h
    refine ⟨v, B', hk, acall_yop ho hcal hf hac.call, fun g' hg => ?_, hac.len⟩
    subst hg
    rw [hρ] at hf
    cases hf
  · cases h

end Go.Proofs.YtbidmbjkjpdgdaaDoor.Abs
