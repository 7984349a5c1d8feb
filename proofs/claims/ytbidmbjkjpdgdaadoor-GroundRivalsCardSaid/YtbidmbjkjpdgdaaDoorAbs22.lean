/-
  The abstract semantics, twenty-second part: calls, as their callers see them.
-/
import Derived.Test.YtbidmbjkjpdgdaaDoorAbs21
set_option linter.unusedVariables false
set_option linter.unusedSimpArgs false
namespace Go.Proofs.YtbidmbjkjpdgdaaDoor.Abs

theorem vals_of_env {G : Gh} {dead : List Nat} : {az : List AVal} → {vs : List Value} → az.length = vs.length → (∀ t, t < az.length → Rv G dead (az.getD t .any) (vs.getD t undef)) → Vals G dead az vs
  | [], [], _, _ => .nil
  | a :: az, v :: vs, hl, h => .cons (by simpa using h 0 (by simp)) (vals_of_env (by simpa using hl) fun t ht => by simpa using h (t + 1) (by simpa using ht))

theorem call_sound {P : Program} {g : FuncId} {S : CSpec} {f : S.In → Option S.Out} (hS : S.ok = true) (hent : Ent' P g)
    (hcall : ∀ x r, f x = some r → LCall S.I.length P g (encs S.A x.1) ⟨encs S.I x.2, [], S.nt⟩ (S.R.enc r.1) ⟨encs S.O r.2, [], S.ntO⟩)
    {X : Type} {args : List AVal} {B : Bx} {k : AVal → Bx → Option X} {res : X} (h : callK S f args B k = some res) : ∃ r, k (callB S args B r).1 (callB S args B r).2 = some res ∧ ACall P g args B (callB S args B r).1 (callB S args B r).2 := by
  unfold callK at h
  simp only at h
  generalize hsel : selA S args B = sel at h
  cases hb : nodupB sel && sel.length == S.I.length && sel.all (fun b => decide (b < B.box.length)) && args.length == S.A.length with
  | false => rw [hb] at h; cases h
  | true =>
    rw [hb] at h
    simp only [cond_true] at h
    simp only [Bool.and_eq_true, beq_iff_eq] at hb
    obtain ⟨⟨⟨hnd, hslen⟩, hin⟩, halen⟩ := hb
    have hnd := nodupB_spec hnd
    have hin : ∀ b ∈ sel, b < B.box.length := fun b hb => by simpa using List.all_eq_true.1 hin b hb
    split at h
    · rename_i x hdec
      cases hfx : f x with
      | none => rw [hfx] at h; cases h
      | some r =>
        rw [hfx] at h
        simp only [Option.bind_some] at h
        refine ⟨r, h, hent, fun G w vs hvs hw => ?_⟩
        simp only [CSpec.ok, Bool.and_eq_true, decide_eq_true_eq] at hS
        obtain ⟨hSok, hIO⟩ := hS
        let fb := fun b => idxIn b sel
        let Bl : Bx := ⟨sel.map fun b => (B.box.getD b .any).ren fb id, B.dead, B.nt⟩
        let Gl : Gh := { imm := G.imm, own := G.own, addr := sel.map fun b => G.addr.getD b 0 }
        have haddrlt : ∀ b, b ∈ sel → b < G.addr.length := fun b hb => by rw [hw.len]; exact hin b hb
        have hgl : GRen G B.dead Gl B.dead fb id := ⟨rfl, fun b c hc blk hblk => by
          have := idxIn_spec hc
          show (sel.map fun b => G.addr.getD b 0)[c]? = some blk
          rw [List.getElem?_map, this]
          simp [List.getD_eq_getElem?_getD, hblk], fun _ _ => rfl, fun _ h => h⟩
        have hgladdr : ∀ (i b : Nat), Gl.addr[i]? = some b → ∃ (s : Nat), sel[i]? = some s ∧ G.addr[s]? = some b := fun i b hib => by
          have hib' : (sel.map fun b => G.addr.getD b 0)[i]? = some b := hib
          rw [List.getElem?_map] at hib'
          cases hs : sel[i]? with
          | none => rw [hs] at hib'; cases hib'
          | some s =>
            rw [hs] at hib'
            simp only [Option.map_some, Option.some.injEq] at hib'
            have hlt := haddrlt s (List.mem_of_getElem? hs)
            refine ⟨s, rfl, ?_⟩
            rw [← hib', List.getD_eq_getElem?_getD, List.getElem?_eq_getElem hlt]; rfl
        have hglmem : ∀ b, b ∈ Gl.addr → b ∈ G.addr := fun b hb => by
          obtain ⟨i, hi, he⟩ := List.mem_iff_getElem.1 hb
          obtain ⟨s, _, h2⟩ := hgladdr i b (by rw [← he]; exact List.getElem?_eq_getElem hi)
          exact List.mem_of_getElem? h2
        have hwl : WOk Gl Bl w := by
          refine ⟨by simp [Gl, Bl], ?_, fun i b c hib hc => ?_, hw.imm, fun b hb => hw.disj b (hglmem b hb), hw.own, hw.inj, fun q hq => ⟨(hw.tab q hq).1, fun hm => (hw.tab q hq).2.1 (hglmem _ hm), (hw.tab q hq).2.2⟩⟩
          · refine List.pairwise_iff_getElem.2 fun i j hi hj hij => ?_
            have e1 := List.getElem?_eq_getElem hi
            have e2 := List.getElem?_eq_getElem hj
            obtain ⟨s1, a1, a2⟩ := hgladdr i _ e1
            obtain ⟨s2, b1, b2⟩ := hgladdr j _ e2
            intro he
            rw [← he] at b2
            obtain ⟨l1, q1⟩ := List.getElem?_eq_some_iff.1 a2
            obtain ⟨l2, q2⟩ := List.getElem?_eq_some_iff.1 b2
            have hss : s1 = s2 := (List.getElem_inj hw.nodup).mp (q1.trans q2.symm)
            subst hss
            obtain ⟨l3, q3⟩ := List.getElem?_eq_some_iff.1 a1
            obtain ⟨l4, q4⟩ := List.getElem?_eq_some_iff.1 b1
            have := (List.getElem_inj hnd).mp (q3.trans q4.symm)
            omega
          · obtain ⟨s, h1, h2⟩ := hgladdr i b hib
            have hc' : (sel.map fun b => (B.box.getD b .any).ren fb id)[i]? = some c := hc
            rw [List.getElem?_map, h1] at hc'
            simp only [Option.map_some, Option.some.injEq] at hc'
            have hlt := hin s (List.mem_of_getElem? h1)
            have hbs : B.box[s]? = some (B.box.getD s .any) := by rw [List.getD_eq_getElem?_getD, List.getElem?_eq_getElem hlt]; rfl
            obtain ⟨o, cs, k1, k0, k2⟩ := hw.boxes s b _ h2 hbs
            exact ⟨o, cs, k1, by rw [← hc', ren_knd]; exact k0, by rw [← hc']; exact (ren_rp hgl _).1 _ k2⟩
        have hvlen := vals_len hvs
        have hokl : Ok Gl Bl (args.map fun a => a.ren fb id) { tmps := vs.toArray, defers := [] } w := by
          refine ⟨⟨by simp [hvlen], fun t => ?_⟩, hwl, trivial⟩
          by_cases ht : t < args.length
          · obtain ⟨v, hv1, hv2⟩ := vals_get hvs (List.getElem?_eq_getElem ht)
            have : (args.map fun a => a.ren fb id).getD t .any = args[t].ren fb id := by simp [List.getD_eq_getElem?_getD, ht]
            rw [this]
            have h2 : (vs.toArray).getD t undef = v := by rw [Array.getD_eq_getD_getElem?]; simp [hv1]
            show Rv Gl B.dead _ ((vs.toArray).getD t undef)
            rw [h2]
            exact ren_v hgl hv2
          · have : (args.map fun a => a.ren fb id).getD t .any = .any := by rw [List.getD_eq_getElem?_getD, List.getElem?_eq_none (by simp; omega)]; rfl
            rw [this]
            exact any_v _
        obtain ⟨Gn, gn, nimm, naddr, nlen, nown⟩ := norm_sound' (S := ⟨S.A, S.I, S.nt⟩) (n := S.I.length) hSok (Nat.le_refl _) hdec hokl
        have hgnaddr : Gn.addr = Gl.addr := by
          rw [naddr]
          refine List.take_of_length_le ?_
          show (sel.map _).length ≤ S.I.length
          simp [hslen]
        have hvn : Vals Gn [] (encs S.A x.1) vs := by
          refine vals_of_env (by rw [encs_len, ← halen, hvlen]) fun t ht => ?_
          have := gn.ok.env.val t
          have h2 : (vs.toArray).getD t undef = vs.getD t undef := by rw [Array.getD_eq_getD_getElem?, List.getD_eq_getElem?_getD]; simp
          rw [← h2]
          exact this
        refine ((hcall x r hfx).2 Gn w vs hvn gn.ok.w).mono ?_
        rintro e w' ⟨cv, Gc, rfl, hcv, hwc, hext, hheld⟩
        have hclen : Gc.addr.length = S.O.length := by rw [hwc.len]; simp [encs_len]
        have hcaddr : ∀ (i b : Nat), Gl.addr[i]? = some b → Gc.addr[i]? = some b := fun i b hib => hheld i b (by
          have := (List.getElem?_eq_some_iff.1 hib).1
          simp [Gl] at this; omega) (by rw [hgnaddr]; exact hib)
        have hgllen : Gl.addr.length = sel.length := by simp [Gl]
        have hnew : ∀ b, b ∈ Gc.addr.drop sel.length → w.heap.size ≤ b := fun b hb => by
          obtain ⟨i, hi, he⟩ := List.mem_iff_getElem.1 hb
          rw [List.getElem_drop] at he
          rcases hext.addr b (List.mem_of_mem_drop hb) with hm | hm
          · rw [hgnaddr] at hm
            obtain ⟨j, hj, hje⟩ := List.mem_iff_getElem.1 hm
            have hcj := hcaddr j b (by rw [← hje]; exact List.getElem?_eq_getElem hj)
            obtain ⟨lj, qj⟩ := List.getElem?_eq_some_iff.1 hcj
            have := (List.getElem_inj hwc.nodup).mp (qj.trans he.symm)
            rw [hgllen] at hj
            omega
          · exact hm
        generalize htk : SPat.toks ⟨S.A, S.I, S.nt⟩ (args.map fun a => a.ren fb id) ⟨sel.map fun b => (B.box.getD b .any).ren fb id, B.dead, B.nt⟩ = toks at nown
        have nown' : ∀ k b c, Gn.own k = some (b, c) → ∃ t, t ∈ toks ∧ G.own t = some (b, c) := nown
        let Go : Gh := { imm := Gc.imm, addr := G.addr ++ Gc.addr.drop sel.length, own := fun t => if t < B.nt then (if t ∈ toks then none else G.own t) else Gc.own (t - B.nt) }
        have ownlt : ∀ t b c, G.own t = some (b, c) → t < B.nt := fun t b c h => (hw.own t b c h).1
        have ownsz : ∀ t b c, G.own t = some (b, c) → b < w.heap.size := fun t b c h => by
          obtain ⟨_, _, cells, e, hh, _⟩ := hw.own t b c h
          exact heap_lt hh
        have nnot : ∀ t b c, t ∉ toks → G.own t = some (b, c) → ∀ k c', Gn.own k ≠ some (b, c') := fun t b c ht ho k c' hk => by
          obtain ⟨t', h1, h2⟩ := nown' k b c' hk
          have := hw.inj t t' b c c' ho h2
          subst this
          exact ht h1
        have addrnot : ∀ b, b ∈ G.addr → ∀ k c, Gn.own k ≠ some (b, c) := fun b hb k c hk => by
          obtain ⟨t', _, h2⟩ := nown' k b c hk
          obtain ⟨_, ⟨row, hr⟩, _⟩ := hw.own t' b c h2
          rw [hw.disj b hb] at hr
          cases hr
        have hexti : ∀ b, b < w.heap.size → (∀ k c, Gn.own k ≠ some (b, c)) → Gc.imm b = G.imm b := fun b hb ho => by
          rw [hext.same b hb ho, nimm]
        have hdead : (callB S args B r).2.dead = toks ++ B.dead := by
          simp only [callB, hsel]
          rw [← htk]
        have hnt : (callB S args B r).2.nt = B.nt + S.ntO := rfl
        have hbox : (callB S args B r).2.box = setSel B.box sel ((encs S.O r.2).map fun a => a.ren (backB sel B.box.length) (B.nt + ·)) ++ ((encs S.O r.2).map fun a => a.ren (backB sel B.box.length) (B.nt + ·)).drop sel.length := by
          simp only [callB, hsel]
        have hval : (callB S args B r).1 = (S.R.enc r.1).ren (backB sel B.box.length) (B.nt + ·) := by simp only [callB, hsel]
        have hback : GRen Gc [] Go (toks ++ B.dead) (backB sel B.box.length) (B.nt + ·) := by
          refine ⟨rfl, fun i c hc blk hblk => ?_, fun t _ => ?_, fun t h => by cases h⟩
          · unfold backB at hc
            split at hc
            · rename_i s hs
              simp only [Option.some.injEq] at hc
              subst hc
              have hlt := haddrlt s (List.mem_of_getElem? hs)
              have hg : Gl.addr[i]? = some G.addr[s] := by
                show (sel.map fun b => G.addr.getD b 0)[i]? = _
                rw [List.getElem?_map, hs]
                simp [List.getD_eq_getElem?_getD, hlt]
              have := hcaddr i _ hg
              rw [hblk] at this
              show (G.addr ++ _)[s]? = _
              rw [List.getElem?_append_left hlt, List.getElem?_eq_getElem hlt]
              exact this.symm
            · rename_i hs
              simp only [Option.some.injEq] at hc
              subst hc
              have hge : sel.length ≤ i := by
                rcases Nat.lt_or_ge i sel.length with h | h
                · rw [List.getElem?_eq_getElem h] at hs; cases hs
                · exact h
              show (G.addr ++ Gc.addr.drop sel.length)[B.box.length + (i - sel.length)]? = some blk
              rw [List.getElem?_append_right (by rw [hw.len]; omega), hw.len, List.getElem?_drop]
              have : sel.length + (B.box.length + (i - sel.length) - B.box.length) = i := by omega
              rw [this]
              exact hblk
          · show (if B.nt + t < B.nt then _ else Gc.own (B.nt + t - B.nt)) = Gc.own t
            rw [if_neg (by omega)]
            congr 1
            omega
        have hgle : GLe G B.dead Go (toks ++ B.dead) := by
          refine ⟨by have := hext.imm; rw [nimm] at this; exact this, List.prefix_append _ _, fun t h => List.mem_append_right _ h, fun t b c row ht ho hi => ?_⟩
          have htk' : t ∉ toks := fun h => ht (List.mem_append_left _ h)
          refine ⟨?_, ?_⟩
          · show (if t < B.nt then (if t ∈ toks then none else G.own t) else Gc.own (t - B.nt)) = _
            rw [if_pos (ownlt t b c ho), if_neg htk']
            exact ho
          · show Gc.imm b = some row
            rw [hexti b (ownsz t b c ho) (nnot t b c htk' ho)]
            exact hi
        have hOlen : ((encs S.O r.2).map fun a => a.ren (backB sel B.box.length) (B.nt + ·)).length = S.O.length := by simp [encs_len]
        have hfr : ∀ b, b < w.heap.size → b ∉ Gl.addr → (∀ k c, Gn.own k ≠ some (b, c)) → w'.heap[b]? = w.heap[b]? := fun b h1 h2 h3 => hext.frame b h1 (by rw [hgnaddr]; exact h2) h3
        refine ⟨cv, Go, rfl, ?_, ?_, ?_, ?_⟩
        · rw [hval, hdead]
          exact ren_v hback hcv
        · refine ⟨?_, ?_, fun i b c hib hc => ?_, hwc.imm, fun b hb => ?_, fun t b c ht => ?_, fun t t' b c c' ht ht' => ?_, fun q hq => ?_⟩
          · rw [hbox]
            simp only [Go, List.length_append, List.length_drop, setSel_len, hOlen, hclen, hw.len]
          · refine List.nodup_append.2 ⟨hw.nodup, hwc.nodup.sublist (List.drop_sublist _ _), fun a ha b hb => ?_⟩
            have := hw.addr_lt ha
            have := hnew b hb
            omega
          · rw [hbox] at hc
            rw [hdead]
            have hib' : (G.addr ++ Gc.addr.drop sel.length)[i]? = some b := hib
            by_cases hi : i < B.box.length
            · rw [List.getElem?_append_left (by rw [hw.len]; exact hi)] at hib'
              rw [List.getElem?_append_left (by rw [setSel_len]; exact hi)] at hc
              by_cases his : i ∈ sel
              · obtain ⟨j, hj, hje⟩ := List.mem_iff_getElem.1 his
                have hsj : sel[j]? = some i := by rw [← hje]; exact List.getElem?_eq_getElem hj
                rw [setSel_at hnd (by rw [hOlen]; omega) hsj hi] at hc
                rw [List.getElem?_map] at hc
                cases hoj : (encs S.O r.2)[j]? with
                | none => rw [hoj] at hc; cases hc
                | some o =>
                  rw [hoj] at hc
                  simp only [Option.map_some, Option.some.injEq] at hc
                  have hg : Gl.addr[j]? = some b := by
                    show (sel.map fun b => G.addr.getD b 0)[j]? = _
                    rw [List.getElem?_map, hsj]
                    simp [List.getD_eq_getElem?_getD, hib']
                  obtain ⟨o', cs, k1, k0, k2⟩ := hwc.boxes j b o (hcaddr j b hg) hoj
                  exact ⟨o', cs, k1, by rw [← hc, ren_knd]; exact k0, by rw [← hc]; exact (ren_rp hback _).1 _ k2⟩
              · rw [setSel_other his] at hc
                have hbo := hw.boxes i b c hib' hc
                obtain ⟨o', cs, k1, _, _⟩ := id hbo
                have hbm := List.mem_of_getElem? hib'
                refine hbo.mono hgle ?_
                rw [hfr b (heap_lt k1) (fun hm => ?_) (addrnot b hbm)]
                · obtain ⟨j, hj, hje⟩ := List.mem_iff_getElem.1 hm
                  obtain ⟨s, h1, h2⟩ := hgladdr j b (by rw [← hje]; exact List.getElem?_eq_getElem hj)
                  obtain ⟨l1, q1⟩ := List.getElem?_eq_some_iff.1 h2
                  obtain ⟨l2, q2⟩ := List.getElem?_eq_some_iff.1 hib'
                  have := (List.getElem_inj hw.nodup).mp (q1.trans q2.symm)
                  subst this
                  exact his (List.mem_of_getElem? h1)
            · rw [List.getElem?_append_right (by rw [hw.len]; omega), List.getElem?_drop, hw.len] at hib'
              rw [List.getElem?_append_right (by rw [setSel_len]; omega), List.getElem?_drop, setSel_len, List.getElem?_map] at hc
              cases hoj : (encs S.O r.2)[sel.length + (i - B.box.length)]? with
              | none => rw [hoj] at hc; cases hc
              | some o =>
                rw [hoj] at hc
                simp only [Option.map_some, Option.some.injEq] at hc
                obtain ⟨o', cs, k1, k0, k2⟩ := hwc.boxes _ b o hib' hoj
                exact ⟨o', cs, k1, by rw [← hc, ren_knd]; exact k0, by rw [← hc]; exact (ren_rp hback _).1 _ k2⟩
          · rcases List.mem_append.1 hb with hb | hb
            · show Gc.imm b = none
              rw [hexti b (hw.addr_lt hb) (addrnot b hb)]
              exact hw.disj b hb
            · exact hwc.disj b (List.mem_of_mem_drop hb)
          · have ht' : (if t < B.nt then (if t ∈ toks then none else G.own t) else Gc.own (t - B.nt)) = some (b, c) := ht
            rw [hnt]
            by_cases hlt : t < B.nt
            · rw [if_pos hlt] at ht'
              split at ht'
              · cases ht'
              · rename_i htk'
                obtain ⟨_, ⟨row, k2⟩, cells, e, k3, k4⟩ := hw.own t b c ht'
                have hnb := nnot t b c htk' ht'
                refine ⟨by omega, ⟨row, ?_⟩, cells, e, ?_, k4⟩
                · show Gc.imm b = some row
                  rw [hexti b (heap_lt k3) hnb]; exact k2
                · rw [hfr b (heap_lt k3) (fun hm => ?_) hnb]
                  · exact k3
                  · have := hw.disj b (hglmem b hm)
                    rw [k2] at this; cases this
            · rw [if_neg hlt] at ht'
              obtain ⟨k1, k2, k3⟩ := hwc.own _ b c ht'
              have k1' : t - B.nt < S.ntO := k1
              exact ⟨by omega, k2, k3⟩
          · have inv : ∀ t c, Go.own t = some (b, c) → (t < B.nt ∧ t ∉ toks ∧ G.own t = some (b, c)) ∨ (¬ t < B.nt ∧ Gc.own (t - B.nt) = some (b, c)) := fun t c ht => by
              have ht' : (if t < B.nt then (if t ∈ toks then none else G.own t) else Gc.own (t - B.nt)) = some (b, c) := ht
              by_cases hlt : t < B.nt
              · rw [if_pos hlt] at ht'
                split at ht'
                · cases ht'
                · rename_i htk'; exact .inl ⟨hlt, htk', ht'⟩
              · rw [if_neg hlt] at ht'
                exact .inr ⟨hlt, ht'⟩
            have mix : ∀ t t' c c', t ∉ toks → G.own t = some (b, c) → Gc.own t' = some (b, c') → False := fun t t' c c' h1 h2 h3 => by
              rcases hext.own t' b c' h3 with ⟨q, hq⟩ | hq
              · exact nnot t b c h1 h2 q c' hq
              · have := ownsz t b c h2; omega
            rcases inv t c ht with ⟨a1, a2, a3⟩ | ⟨a1, a2⟩ <;> rcases inv t' c' ht' with ⟨b1, b2, b3⟩ | ⟨b1, b2⟩
            · exact hw.inj t t' b c c' a3 b3
            · exact (mix t _ c c' a2 a3 b2).elim
            · exact (mix t' _ c' c b2 b3 a2).elim
            · have := hwc.inj _ _ b c c' a2 b2
              omega
          · refine ⟨(hwc.tab q hq).1, fun hm => ?_, fun t n ht => ?_⟩
            · rcases List.mem_append.1 hm with hm | hm
              · exact (hw.tab q hq).2.1 hm
              · exact (hwc.tab q hq).2.1 (List.mem_of_mem_drop hm)
            · have ht' : (if t < B.nt then (if t ∈ toks then none else G.own t) else Gc.own (t - B.nt)) = some (q.1, n) := ht
              by_cases hlt : t < B.nt
              · rw [if_pos hlt] at ht'
                split at ht'
                · cases ht'
                · exact (hw.tab q hq).2.2 t n ht'
              · rw [if_neg hlt] at ht'
                exact (hwc.tab q hq).2.2 _ n ht'
        · rw [hdead]; exact hgle
        · refine ⟨hext.os, hext.tape, hext.output, hext.size, fun b hb ha ho => hfr b hb (fun hm => ha (hglmem b hm)) fun k c hk => ?_, by have := hext.imm; rw [nimm] at this; exact this, fun b hb ho => hexti b hb fun k c hk => ?_, fun b hb => ?_, fun t b c ht => ?_⟩
          · obtain ⟨t', _, h2⟩ := nown' k b c hk
            exact ho t' c h2
          · obtain ⟨t', _, h2⟩ := nown' k b c hk
            exact ho t' c h2
          · rcases List.mem_append.1 hb with hb | hb
            · exact .inl hb
            · exact .inr (hnew b hb)
          · have ht' : (if t < B.nt then (if t ∈ toks then none else G.own t) else Gc.own (t - B.nt)) = some (b, c) := ht
            by_cases hlt : t < B.nt
            · rw [if_pos hlt] at ht'
              split at ht'
              · cases ht'
              · exact .inl ⟨t, ht'⟩
            · rw [if_neg hlt] at ht'
              rcases hext.own _ b c ht' with ⟨q, hq⟩ | hq
              · obtain ⟨t', _, h2⟩ := nown' q b c hq
                exact .inl ⟨t', h2⟩
              · exact .inr hq
    · cases h

end Go.Proofs.YtbidmbjkjpdgdaaDoor.Abs
