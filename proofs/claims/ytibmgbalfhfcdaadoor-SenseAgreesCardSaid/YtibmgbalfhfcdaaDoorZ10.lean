import Derived.Test.YtibmgbalfhfcdaaDoorF3
import Derived.Test.YtibmgbalfhfcdaaDoorP1
import Derived.Test.YtibmgbalfhfcdaaDoorA3
import Derived.Test.YtibmgbalfhfcdaaDoorCards
import Derived.Test.YtibmgbalfhfcdaaDoorTie
import Derived.WalkKit
import Derived.ProofKit
import Derived.OpenShut
import Derived.Deep.DeepHandedRow
import Derived.Lib.LaidTab
import Derived.Stop.LaidErr
set_option linter.unusedVariables false
set_option maxRecDepth 100000
namespace Go.Proofs.YtibmgbalfhfcdaaDoor.Abs
open Go.Shelf Go.Sort
noncomputable def G10_C : CalT := tabC [G11_E, G15_E, G12_E, G41_E, G39_E, G42_E, G13_E, G21_E, G22_E]
theorem G10_CV : CV Tryd.prog G10_C := tabC_valid (l := _) ⟨G11_valid, G15_valid, G12_valid, G41_valid, G39_valid, G42_valid, G13_valid, G21_valid, G22_valid, trivial⟩
noncomputable def G10_k0_S0 : SPat := ⟨[.any, .dat (.list T72), .any, .fix (.bptr 0 []), .any, .fix (.bptr 1 []), .any, .any, .any, .any, .any, .any, .any, .any, .any, .any, .any, .any, .any, .any, .any, .any, .any, .any, .any, .any, .any, .any, .any, .any, .any, .any, .any, .any, .any, .any, .any, .any, .any, .any, .any, .any, .any, .any, .any, .any, .any, .any, .any, .any, .any, .any, .any, .any, .any, .any, .any, .any, .any, .any, .any, .any, .any, .any, .any, .any, .any, .any, .any, .any, .any, .any, .any, .any, .any, .any, .any, .any, .any, .any, .any, .any, .any], [.dat T23, .dat T30], 0⟩
noncomputable def G10_k0_S1 : SPat := ⟨[.any, .dat (.list T72), .any, .fix (.bptr 0 []), .any, .fix (.bptr 1 []), .any, .any, .any, .any, .any, .any, .any, .any, .any, .any, .any, .any, .any, .any, .any, .dat .bool, .any, .any, .any, .any, .any, .any, .any, .any, .any, .any, .any, .any, .any, .any, .any, .any, .any, .any, .any, .any, .any, .any, .any, .any, .any, .any, .any, .any, .any, .any, .any, .any, .any, .any, .any, .any, .any, .any, .any, .any, .any, .any, .any, .any, .any, .any, .any, .any, .any, .any, .any, .any, .any, .any, .any, .any, .any, .any, .any, .any, .any], [.dat T23, .dat T30], 0⟩
noncomputable def G10_k0_run (s : (((List E72) × Unit) × (E23 × (E30 × Unit)))) : Option (Nat × (((List E72) × (Bool × Unit)) × (E23 × (E30 × Unit)))) :=
  (Option.bind (G11 s.2.1 s.1.1) fun r9 =>
  (bif (!r9) then
    some (0, ((s.1.1, (true, ())), (s.2.1, (s.2.2.1, ()))))
    else
    (Option.bind (G12 ([], ([], ())) s.2.2.1) fun r10 =>
      some (0, ((s.1.1, ((!r10), ())), (s.2.1, (s.2.2.1, ())))))))
noncomputable def G10_k0_L : LoopT := cutT G10_k0_S0 G10_k0_S1 [.normal] G10_k0_run
noncomputable def G10_k1_S0 : SPat := ⟨[.any, .dat (.list T72), .any, .fix (.bptr 0 []), .any, .fix (.bptr 1 []), .any, .dat (.int .i64), .dat .bool, .dat (.int .i64), .dat .bool, .any, .any, .any, .any, .any, .any, .any, .any, .any, .any, .any, .any, .any, .any, .any, .any, .any, .any, .any, .any, .any, .any, .any, .any, .any, .any, .any, .any, .any, .any, .any, .any, .any, .any, .any, .any, .any, .any, .any, .any, .any, .any, .any, .any, .any, .any, .any, .any, .any, .any, .any, .any, .any, .any, .any, .any, .any, .any, .any, .any, .any, .any, .any, .any, .any, .any, .any, .any, .any, .any, .any, .any], [.dat T23, .dat T30], 0⟩
noncomputable def G10_k1_S1 : SPat := ⟨[.any, .dat (.list T72), .any, .fix (.bptr 0 []), .any, .fix (.bptr 1 []), .any, .any, .dat .bool, .dat (.int .i64), .any, .any, .any, .any, .any, .any, .any, .any, .any, .any, .any, .any, .any, .any, .any, .any, .any, .any, .any, .any, .any, .any, .any, .any, .any, .any, .any, .any, .any, .any, .any, .any, .any, .any, .any, .any, .dat .bool, .any, .any, .any, .any, .any, .any, .any, .any, .any, .any, .any, .any, .any, .any, .any, .any, .any, .any, .any, .any, .any, .any, .any, .any, .any, .any, .any, .any, .any, .any, .any, .any, .any, .any, .any, .any], [.dat T23, .dat T30], 0⟩
abbrev TY155 : Type := (((List E72) × (Int × (Bool × (Int × (Bool × Unit))))) × (E23 × (E30 × Unit)))
abbrev TY156 : Type := (Nat × (((List E72) × (Bool × (Int × (Bool × Unit)))) × (E23 × (E30 × Unit))))
noncomputable def G10_k1_run (s : TY155) : Option TY156 :=
  (bif s.1.2.2.2.2.1 then
  (bif (s.1.2.1 != 0) then
    some (0, ((s.1.1, (s.1.2.2.1, (s.1.2.2.2.1, (true, ())))), (s.2.1, (s.2.2.1, ()))))
    else
    (bif (!s.1.2.2.2.2.1) then
      some (0, ((s.1.1, (s.1.2.2.1, (s.1.2.2.2.1, ((s.1.2.1 != 2), ())))), (s.2.1, (s.2.2.1, ()))))
      else
      some (0, ((s.1.1, (s.1.2.2.1, (s.1.2.2.2.1, (false, ())))), (s.2.1, (s.2.2.1, ()))))))
  else
  (bif (!s.1.2.2.2.2.1) then
    some (0, ((s.1.1, (s.1.2.2.1, (s.1.2.2.2.1, ((s.1.2.1 != 2), ())))), (s.2.1, (s.2.2.1, ()))))
    else
    some (0, ((s.1.1, (s.1.2.2.1, (s.1.2.2.2.1, (false, ())))), (s.2.1, (s.2.2.1, ()))))))
noncomputable def G10_k1_L : LoopT := cutT G10_k1_S0 G10_k1_S1 [.normal] G10_k1_run
noncomputable def G10_k2_S0 : SPat := ⟨[.any, .dat (.list T72), .any, .fix (.bptr 0 []), .any, .fix (.bptr 1 []), .any, .any, .dat .bool, .dat (.int .i64), .any, .dat (.int .i64), .any, .any, .any, .any, .any, .any, .any, .any, .any, .any, .any, .any, .any, .any, .any, .any, .any, .any, .any, .any, .any, .any, .any, .any, .any, .any, .any, .any, .any, .any, .any, .any, .any, .any, .any, .any, .any, .any, .any, .any, .any, .any, .any, .any, .any, .any, .any, .any, .any, .any, .any, .any, .any, .any, .any, .any, .any, .any, .any, .any, .any, .any, .any, .any, .any, .any, .any, .any, .any, .any, .any], [.dat T23, .dat T30], 0⟩
noncomputable def G10_k2_S1 : SPat := ⟨[.any, .dat (.list T72), .any, .fix (.bptr 0 []), .any, .fix (.bptr 1 []), .any, .any, .dat .bool, .dat (.int .i64), .any, .dat (.int .i64), .any, .any, .any, .any, .any, .any, .any, .any, .any, .any, .any, .any, .any, .any, .any, .any, .any, .any, .any, .any, .any, .any, .any, .any, .any, .any, .any, .any, .any, .any, .any, .any, .any, .any, .any, .any, .any, .any, .any, .any, .any, .any, .any, .any, .any, .dat .bool, .any, .any, .any, .any, .any, .any, .any, .any, .any, .any, .any, .any, .any, .any, .any, .any, .any, .any, .any, .any, .any, .any, .any, .any, .any], [.dat T23, .dat T30], 0⟩
abbrev TY157 : Type := (Nat × (((List E72) × (Bool × (Int × (Int × (Bool × Unit))))) × (E23 × (E30 × Unit))))
noncomputable def G10_k2_run (s : (((List E72) × (Bool × (Int × (Int × Unit)))) × (E23 × (E30 × Unit)))) : Option TY157 :=
  (bif (s.1.2.2.2.1 == 0) then
  (Option.bind (G21 s.2.1 s.2.2.1) fun r29 =>
    some (0, ((s.1.1, (s.1.2.1, (s.1.2.2.1, (s.1.2.2.2.1, ((!r29), ()))))), (s.2.1, (s.2.2.1, ())))))
  else
  some (0, ((s.1.1, (s.1.2.1, (s.1.2.2.1, (s.1.2.2.2.1, (false, ()))))), (s.2.1, (s.2.2.1, ())))))
noncomputable def G10_k2_L : LoopT := cutT G10_k2_S0 G10_k2_S1 [.normal] G10_k2_run
noncomputable def G10_k3_S0 : SPat := ⟨[.any, .dat (.list T72), .any, .fix (.bptr 0 []), .any, .fix (.bptr 1 []), .any, .any, .dat .bool, .dat (.int .i64), .any, .dat (.int .i64), .any, .any, .any, .any, .any, .any, .any, .any, .any, .any, .any, .any, .any, .any, .any, .any, .any, .any, .any, .any, .any, .any, .any, .any, .any, .any, .any, .any, .any, .any, .any, .any, .any, .any, .any, .any, .any, .any, .any, .any, .any, .any, .any, .any, .any, .any, .any, .any, .any, .any, .any, .any, .any, .any, .any, .any, .any, .any, .any, .any, .any, .any, .any, .any, .any, .any, .any, .any, .any, .any, .any], [.dat T23, .dat T30], 0⟩
noncomputable def G10_k3_S1 : SPat := ⟨[.any, .dat (.list T72), .any, .fix (.bptr 0 []), .any, .fix (.bptr 1 []), .any, .any, .dat .bool, .dat (.int .i64), .any, .dat (.int .i64), .any, .any, .any, .any, .any, .any, .any, .any, .any, .any, .any, .any, .any, .any, .any, .any, .any, .any, .any, .any, .any, .any, .any, .any, .any, .any, .any, .any, .any, .any, .any, .any, .any, .any, .any, .any, .any, .any, .any, .any, .any, .any, .any, .any, .any, .any, .any, .any, .any, .any, .any, .any, .any, .any, .any, .any, .any, .any, .any, .any, .any, .any, .any, .any, .any, .any, .any, .any, .any, .any, .any], [.dat T23, .dat T30], 0⟩
abbrev TY158 : Type := (Nat × (((List E72) × (Bool × (Int × (Int × Unit)))) × (E23 × (E30 × Unit))))
noncomputable def G10_k3_run (s : (((List E72) × (Bool × (Int × (Int × Unit)))) × (E23 × (E30 × Unit)))) : Option TY158 :=
  (Option.bind (G10_k2_run ((s.1.1, (s.1.2.1, (s.1.2.2.1, (s.1.2.2.2.1, ())))), (s.2.1, (s.2.2.1, ())))) fun q31 =>
  (bif q31.2.1.2.2.2.2.1 then
    some (0, ((q31.2.1.1, (q31.2.1.2.1, (q31.2.1.2.2.1, (2, ())))), (q31.2.2.1, (q31.2.2.2.1, ()))))
    else
    some (0, ((q31.2.1.1, (q31.2.1.2.1, (q31.2.1.2.2.1, (q31.2.1.2.2.2.1, ())))), (q31.2.2.1, (q31.2.2.2.1, ()))))))
noncomputable def G10_k3_L : LoopT := cutT G10_k3_S0 G10_k3_S1 [.normal] G10_k3_run
noncomputable def G10_k4_S0 : SPat := ⟨[.any, .any, .any, .any, .any, .any, .any, .any, .dat .bool, .dat (.int .i64), .any, .dat (.int .i64), .any, .any, .any, .any, .any, .any, .any, .any, .any, .any, .any, .any, .any, .any, .any, .any, .any, .any, .any, .any, .any, .any, .any, .any, .any, .any, .any, .any, .any, .any, .any, .any, .any, .any, .any, .any, .any, .any, .any, .any, .any, .any, .any, .any, .any, .any, .any, .any, .any, .any, .any, .any, .any, .any, .any, .any, .any, .any, .any, .any, .any, .any, .any, .any, .any, .any, .any, .any, .any, .any, .any], [.dat T23, .dat T30], 0⟩
noncomputable def G10_k4_S1 : SPat := ⟨[.any, .any, .any, .any, .any, .any, .dat .bool, .any, .any, .any, .any, .any, .any, .any, .any, .any, .any, .any, .any, .any, .any, .any, .any, .any, .any, .any, .any, .any, .any, .any, .any, .any, .any, .any, .any, .any, .any, .any, .any, .any, .any, .any, .any, .any, .any, .any, .any, .any, .any, .any, .any, .any, .any, .any, .any, .any, .any, .any, .any, .any, .any, .any, .any, .any, .any, .any, .any, .any, .any, .any, .any, .any, .any, .any, .any, .any, .any, .any, .any, .any, .any, .any, .any], [.dat T23, .dat T30], 0⟩
noncomputable def G10_k4_run (s : ((Bool × (Int × (Int × Unit))) × (E23 × (E30 × Unit)))) : Option (Nat × ((Bool × Unit) × (E23 × (E30 × Unit)))) :=
  (bif (s.1.2.1 == s.1.2.2.1) then
  (bif (!s.1.1) then
    (Option.bind G15 fun r36 =>
      some (0, ((r36, ()), (s.2.1, (s.2.2.1, ())))))
    else
    some (0, ((false, ()), (s.2.1, (s.2.2.1, ())))))
  else
  some (0, ((false, ()), (s.2.1, (s.2.2.1, ())))))
noncomputable def G10_k4_L : LoopT := cutT G10_k4_S0 G10_k4_S1 [.normal] G10_k4_run
noncomputable def G10_k5_S0 : SPat := ⟨[.any, .dat (.list T72), .any, .fix (.bptr 0 []), .any, .fix (.bptr 1 []), .any, .any, .dat .bool, .dat (.int .i64), .any, .any, .any, .any, .any, .any, .any, .any, .any, .any, .any, .any, .any, .any, .any, .any, .any, .any, .any, .any, .any, .any, .any, .any, .any, .any, .any, .any, .any, .any, .any, .any, .any, .any, .any, .any, .any, .any, .any, .any, .any, .any, .any, .any, .any, .any, .any, .any, .any, .any, .any, .any, .any, .any, .any, .any, .any, .any, .any, .any, .any, .any, .any, .any, .any, .any, .any, .any, .any, .any, .any, .any, .any], [.dat T23, .dat T30], 0⟩
noncomputable def G10_k5_S1 : SPat := ⟨[.any, .any, .any, .any, .any, .any, .dat .bool, .any, .any, .any, .any, .any, .any, .any, .any, .any, .any, .any, .any, .any, .any, .any, .any, .any, .any, .any, .any, .any, .any, .any, .any, .any, .any, .any, .any, .any, .any, .any, .any, .any, .any, .any, .any, .any, .any, .any, .any, .any, .any, .any, .any, .any, .any, .any, .any, .any, .any, .any, .any, .any, .any, .any, .any, .any, .any, .any, .any, .any, .any, .any, .any, .any, .any, .any, .any, .any, .any, .any, .any, .any, .any, .any, .any], [.dat T23, .dat T30], 0⟩
noncomputable def G10_k5_run (s : (((List E72) × (Bool × (Int × Unit))) × (E23 × (E30 × Unit)))) : Option (Nat × ((Bool × Unit) × (E23 × (E30 × Unit)))) :=
  (bif (s.1.2.2.1 == 0) then
  (Option.bind (G22 s.2.1 s.1.1 s.2.2.1) fun r42 =>
    (bif (s.1.2.1 == r42) then
      (Option.bind G15 fun r43 =>
        some (0, ((r43, ()), (s.2.1, (s.2.2.1, ())))))
      else
      some (0, ((false, ()), (s.2.1, (s.2.2.1, ()))))))
  else
  some (0, ((false, ()), (s.2.1, (s.2.2.1, ())))))
noncomputable def G10_k5_L : LoopT := cutT G10_k5_S0 G10_k5_S1 [.normal] G10_k5_run
noncomputable def G10 (a0 : E23) (a1 : (List E72)) (a2 : E30) : Option Bool :=
  (Option.bind (G10_k0_run ((a1, ()), (a0, (a2, ())))) fun q11 =>
  (bif q11.2.1.2.1 then
    (Option.bind G15 fun r13 =>
      some r13)
    else
    (Option.bind (G41 q11.2.2.1) fun r15 =>
      (Option.bind (G39 q11.2.2.1 q11.2.1.1 q11.2.2.2.1) fun r17 =>
        (Option.bind (G42 q11.2.2.1) fun r22 =>
          (Option.bind (G10_k1_run ((q11.2.1.1, (r15, (r17.1, (r17.2.1, (r22, ()))))), (q11.2.2.1, (q11.2.2.2.1, ())))) fun q23 =>
            (bif q23.2.1.2.2.2.1 then
              some false
              else
              (Option.bind (G13 q23.2.2.1 q23.2.1.1) fun r25 =>
                (Option.bind (G10_k3_run ((q23.2.1.1, (q23.2.1.2.1, (q23.2.1.2.2.1, (r25, ())))), (q23.2.2.1, (q23.2.2.2.1, ())))) fun q32 =>
                  (bif (q32.2.1.2.2.2.1 != 0) then
                    (Option.bind (G10_k4_run ((q32.2.1.2.1, (q32.2.1.2.2.1, (q32.2.1.2.2.2.1, ()))), (q32.2.2.1, (q32.2.2.2.1, ())))) fun q37 =>
                      some q37.2.1.1)
                    else
                    (Option.bind (G10_k5_run ((q32.2.1.1, (q32.2.1.2.1, (q32.2.1.2.2.1, ()))), (q32.2.2.1, (q32.2.2.2.1, ())))) fun q44 =>
                      some q44.2.1.1)))))))))))
noncomputable def G10_k0_J : Jn := (.whole [])
theorem G10_k0_JV : JV 0 Tryd.prog false (G10_k0_J) (seqL (seqL (seqR (bodyOf Tryd.f10)))) := jv_nil
theorem G10_k0_V : LValid 0 Tryd.prog (seqL (seqL (seqR (bodyOf Tryd.f10)))) (G10_k0_L) false :=
  cutT_valid (ev := jnT Tryd.prog G10_C (G10_k0_J) (seqL (seqL (seqR (bodyOf Tryd.f10))))) (jnT_valid mixed G10_CV (G10_k0_JV)) (by kernel_rfl) (by kernel_rfl) (by decide) (by decide) (by intro s; kernel_rfl)
noncomputable def G10_k1_J : Jn := (.whole [])
theorem G10_k1_JV : JV 0 Tryd.prog false (G10_k1_J) (seqL (seqR (seqL (seqR (seqR (seqR (seqR (bodyOf Tryd.f10)))))))) := jv_nil
theorem G10_k1_V : LValid 0 Tryd.prog (seqL (seqR (seqL (seqR (seqR (seqR (seqR (bodyOf Tryd.f10)))))))) (G10_k1_L) false :=
  cutT_valid (ev := jnT Tryd.prog G10_C (G10_k1_J) (seqL (seqR (seqL (seqR (seqR (seqR (seqR (bodyOf Tryd.f10))))))))) (jnT_valid mixed G10_CV (G10_k1_JV)) (by kernel_rfl) (by kernel_rfl) (by decide) (by decide) (by intro s; kernel_rfl)
noncomputable def G10_k2_J : Jn := (.whole [])
theorem G10_k2_JV : JV 0 Tryd.prog false (G10_k2_J) (seqL (seqL (seqR (seqR (seqR (seqR (seqR (seqR (bodyOf Tryd.f10))))))))) := jv_nil
theorem G10_k2_V : LValid 0 Tryd.prog (seqL (seqL (seqR (seqR (seqR (seqR (seqR (seqR (bodyOf Tryd.f10))))))))) (G10_k2_L) false :=
  cutT_valid (ev := jnT Tryd.prog G10_C (G10_k2_J) (seqL (seqL (seqR (seqR (seqR (seqR (seqR (seqR (bodyOf Tryd.f10)))))))))) (jnT_valid mixed G10_CV (G10_k2_JV)) (by kernel_rfl) (by kernel_rfl) (by decide) (by decide) (by intro s; kernel_rfl)
noncomputable def G10_k3_J : Jn := (.seq (.cut G10_k2_L) (.whole []))
theorem G10_k3_JV : JV 0 Tryd.prog false (G10_k3_J) (seqL (seqR (seqR (seqR (seqR (seqR (seqR (bodyOf Tryd.f10)))))))) := (jv_seq (by kernel_rfl) (jv_cut G10_k2_V) jv_nil)
theorem G10_k3_V : LValid 0 Tryd.prog (seqL (seqR (seqR (seqR (seqR (seqR (seqR (bodyOf Tryd.f10)))))))) (G10_k3_L) false :=
  cutT_valid (ev := jnT Tryd.prog G10_C (G10_k3_J) (seqL (seqR (seqR (seqR (seqR (seqR (seqR (bodyOf Tryd.f10))))))))) (jnT_valid mixed G10_CV (G10_k3_JV)) (by kernel_rfl) (by kernel_rfl) (by decide) (by decide) (by intro s; kernel_rfl)
noncomputable def G10_k4_J : Jn := (.whole [])
theorem G10_k4_JV : JV 0 Tryd.prog false (G10_k4_J) (seqL (conL (seqR (seqL (seqR (seqR (seqR (seqR (seqR (seqR (seqR (bodyOf Tryd.f10)))))))))))) := jv_nil
theorem G10_k4_V : LValid 0 Tryd.prog (seqL (conL (seqR (seqL (seqR (seqR (seqR (seqR (seqR (seqR (seqR (bodyOf Tryd.f10)))))))))))) (G10_k4_L) false :=
  cutT_valid (ev := jnT Tryd.prog G10_C (G10_k4_J) (seqL (conL (seqR (seqL (seqR (seqR (seqR (seqR (seqR (seqR (seqR (bodyOf Tryd.f10))))))))))))) (jnT_valid mixed G10_CV (G10_k4_JV)) (by kernel_rfl) (by kernel_rfl) (by decide) (by decide) (by intro s; kernel_rfl)
noncomputable def G10_k5_J : Jn := (.whole [])
theorem G10_k5_JV : JV 0 Tryd.prog false (G10_k5_J) (seqL (seqR (seqR (seqR (seqR (seqR (seqR (seqR (seqR (bodyOf Tryd.f10)))))))))) := jv_nil
theorem G10_k5_V : LValid 0 Tryd.prog (seqL (seqR (seqR (seqR (seqR (seqR (seqR (seqR (seqR (bodyOf Tryd.f10)))))))))) (G10_k5_L) false :=
  cutT_valid (ev := jnT Tryd.prog G10_C (G10_k5_J) (seqL (seqR (seqR (seqR (seqR (seqR (seqR (seqR (seqR (bodyOf Tryd.f10))))))))))) (jnT_valid mixed G10_CV (G10_k5_JV)) (by kernel_rfl) (by kernel_rfl) (by decide) (by decide) (by intro s; kernel_rfl)
noncomputable def G10_J : Jn := (.seq (.whole []) (.seq (.seq (.cut G10_k0_L) (.whole [])) (.seq (.whole []) (.seq (.whole []) (.seq (.seq (.whole []) (.seq (.cut G10_k1_L) (.whole []))) (.seq (.whole []) (.seq (.cut G10_k3_L) (.seq (.seq (.whole []) (.cond (.seq (.cut G10_k4_L) (.whole [])) (.whole []))) (.seq (.cut G10_k5_L) (.whole []))))))))))
theorem G10_JV : JV 0 Tryd.prog false (G10_J) (bodyOf Tryd.f10) := (jv_seq (by kernel_rfl) jv_nil (jv_seq (by kernel_rfl) (jv_seq (by kernel_rfl) (jv_cut G10_k0_V) jv_nil) (jv_seq (by kernel_rfl) jv_nil (jv_seq (by kernel_rfl) jv_nil (jv_seq (by kernel_rfl) (jv_seq (by kernel_rfl) jv_nil (jv_seq (by kernel_rfl) (jv_cut G10_k1_V) jv_nil)) (jv_seq (by kernel_rfl) jv_nil (jv_seq (by kernel_rfl) (jv_cut G10_k3_V) (jv_seq (by kernel_rfl) (jv_seq (by kernel_rfl) jv_nil (jv_con (by kernel_rfl) (jv_seq (by kernel_rfl) (jv_cut G10_k4_V) jv_nil) jv_nil)) (jv_seq (by kernel_rfl) (jv_cut G10_k5_V) jv_nil)))))))))
theorem G10_ent : Ent Tryd.prog 10 := ⟨by decide, enters_of Tryd.func10 (by kernel_rfl) rfl⟩
theorem G10_hev : ∀ x, fnE (jnT Tryd.prog G10_C (G10_J) (bodyOf Tryd.f10)) Tryd.prog Tryd.f10 (encs [.dat T23, .dat (.list T72), .dat T30] x) ⟨[], [], 0⟩ (frzF (.dat .bool)) = G10 x.1 x.2.1 x.2.2.1 := by
  intro x; kernel_rfl
theorem G10_lcall : ∀ x r, (fun x : Els [.dat T23, .dat (.list T72), .dat T30] => G10 x.1 x.2.1 x.2.2.1) x = some r → LCall 0 Tryd.prog 10 (encs [.dat T23, .dat (.list T72), .dat T30] x) ⟨[], [], 0⟩ (.d .bool r) ⟨[], [], 0⟩ := frz_lcallE (ev := (jnT Tryd.prog G10_C (G10_J) (bodyOf Tryd.f10))) (R := .dat .bool) Tryd.func10 rfl G10_ent (jnT_valid mixed G10_CV (G10_JV)) (by kernel_rfl) (by kernel_rfl) G10_hev
end Go.Proofs.YtibmgbalfhfcdaaDoor.Abs
set_option linter.unusedVariables false
set_option linter.unusedSimpArgs false
set_option maxRecDepth 100000
namespace Go.Proofs.YtibmgbalfhfcdaaDoor.Abs
open Classical
structure TrOk (s : E23) (t : E30) : Prop where
  lt : (t.1).length = (s.2.2.2.1).toNat
  lr : (t.2.1).length = (s.2.2.2.1).toNat
  ld : (t.2.2.1).length = (s.2.2.2.2.1).length
  temp : ∀ x ∈ t.1, 2000 ≤ x ∧ x ≤ 3200
  rate : ∀ x ∈ t.2.1, 0 - s.2.2.1 ≤ x ∧ x ≤ s.2.2.1
  drift : ∀ x ∈ t.2.2.1, 0 - s.2.1 ≤ x ∧ x ≤ s.2.1
theorem TrOk.t_ {s : E23} {t : E30} (h : TrOk s t) {k : Nat} (hk : k < (s.2.2.2.1).toNat) : 2000 ≤ (t.1).getD k 0 ∧ (t.1).getD k 0 ≤ 3200 := h.temp _ (getD_mem (by rw [h.lt]; exact hk))
theorem TrOk.r_ {s : E23} {t : E30} (h : TrOk s t) {k : Nat} (hk : k < (s.2.2.2.1).toNat) : 0 - s.2.2.1 ≤ (t.2.1).getD k 0 ∧ (t.2.1).getD k 0 ≤ s.2.2.1 := h.rate _ (getD_mem (by rw [h.lr]; exact hk))
theorem TrOk.d_ {s : E23} {t : E30} (h : TrOk s t) {k : Nat} (hk : k < (s.2.2.2.2.1).length) : 0 - s.2.1 ≤ (t.2.2.1).getD k 0 ∧ (t.2.2.1).getD k 0 ≤ s.2.1 := h.drift _ (getD_mem (by rw [h.ld]; exact hk))
theorem beqn_f {a b : Int} (h : a = b) : (a != b) = false := by simp [h]
theorem beqn_t {a b : Int} (h : a ≠ b) : (a != b) = true := by simp [h]
theorem truth_tells {s : E23} (hs : StrOk s) (t : E30) : Tells (G21 s t) (TrOk s t) := by
  have hlen := hs.len
  have hd := hs.depths
  have hw := hs.warm
  have hdr := hs.drift
  unfold G21
  by_cases h1 : (t.1).length = (s.2.2.2.1).toNat
  case neg =>
    rw [beqn_t (a := ((t.1).length : Int)) (b := s.2.2.2.1) (by omega)]
    exact tells_f fun h => h1 h.lt
  by_cases h2 : (t.2.1).length = (s.2.2.2.1).toNat
  case neg =>
    rw [beqn_f (a := ((t.1).length : Int)) (b := s.2.2.2.1) (by omega), beqn_t (a := ((t.2.1).length : Int)) (b := s.2.2.2.1) (by omega)]
    exact tells_f fun h => h2 h.lr
  by_cases h3 : (t.2.2.1).length = (s.2.2.2.2.1).length
  case neg =>
    rw [beqn_f (a := ((t.1).length : Int)) (b := s.2.2.2.1) (by omega), beqn_f (a := ((t.2.1).length : Int)) (b := s.2.2.2.1) (by omega), beqn_t (a := ((t.2.2.1).length : Int)) (b := ((s.2.2.2.2.1).length : Int)) (by omega)]
    exact tells_f fun h => h3 h.ld
  rw [beqn_f (a := ((t.1).length : Int)) (b := s.2.2.2.1) (by omega), beqn_f (a := ((t.2.1).length : Int)) (b := s.2.2.2.1) (by omega), beqn_f (a := ((t.2.2.1).length : Int)) (b := ((s.2.2.2.2.1).length : Int)) (by omega)]
  simp only [cond_false]
  have w1 : IntKind.wrap .i64 (0 - s.2.2.1) = 0 - s.2.2.1 := wr (by omega) (by omega)
  have w2 : IntKind.wrap .i64 (0 - s.2.1) = 0 - s.2.1 := wr (by omega) (by omega)
  have key0 := iter_fn (step := G21_l0_step) (n := (s.2.2.2.1).toNat) (k1 := 0) (k2 := 1) (fuel := G21_l0_fuel ((false, (0, ())), (s, (t, ()))))
    (bad := fun i => !(decide (2000 ≤ (t.1).getD i 0 ∧ (t.1).getD i 0 ≤ 3200) && decide (0 - s.2.2.1 ≤ (t.2.1).getD i 0 ∧ (t.2.1).getD i 0 ≤ s.2.2.1)))
    (fun i => ((false, ((i : Int), ())), (s, (t, ())))) (fun i => ((false, ((i : Int), ())), (s, (t, ())))) ((false, ((((s.2.2.2.1).toNat : Nat) : Int), ())), (s, (t, ()))) (fun i hi => by
      unfold G21_l0_step
      have e0 : decide ((i : Int) < s.2.2.2.1) = true := decide_eq_true (by omega)
      simp only [e0, cond_true, w1, lt_int (show i < t.1.length by omega), lt_int (show i < t.2.1.length by omega), ge0, Bool.and_self, getD_toNat, rin_tells, Option.bind_some, wr1 (i := i) (by omega)]
      cases decide (2000 ≤ t.1.getD i 0 ∧ t.1.getD i 0 ≤ 3200) <;> cases decide (0 - s.2.2.1 ≤ t.2.1.getD i 0 ∧ t.2.1.getD i 0 ≤ s.2.2.1) <;> rfl) (by
      unfold G21_l0_step
      have e0 : decide (((s.2.2.2.1.toNat : Nat) : Int) < s.2.2.2.1) = false := decide_eq_false (by omega)
      simp only [e0, cond_false]) (by unfold G21_l0_fuel; simp only; omega)
  have hfl : ∀ (l : List Int) (a b : Int), (∀ i, i < l.length → a ≤ l.getD i 0 ∧ l.getD i 0 ≤ b) → ∀ x ∈ l, a ≤ x ∧ x ≤ b := fun l a b h => (forall_getD 0).1 h
  rcases key0 with ⟨j, hj, hb, _, he⟩ | ⟨hall, he⟩
  · rw [show G21_l0_run ((false, (0, ())), (s, (t, ()))) = _ from he]
    refine tells_f fun h => ?_
    rw [decide_eq_true (h.t_ hj), decide_eq_true (h.r_ hj)] at hb
    cases hb
  · rw [show G21_l0_run ((false, (0, ())), (s, (t, ()))) = _ from he]
    simp only [Option.bind_some, natK]
    have key1 := iter_fn (step := G21_l1_step) (n := (s.2.2.2.2.1).length) (k1 := 0) (k2 := 1) (fuel := G21_l1_fuel ((false, (0, ())), (s, (t, ()))))
      (bad := fun i => !(decide (0 - s.2.1 ≤ (t.2.2.1).getD i 0 ∧ (t.2.2.1).getD i 0 ≤ s.2.1)))
      (fun i => ((false, ((i : Int), ())), (s, (t, ())))) (fun i => ((false, ((i : Int), ())), (s, (t, ())))) ((false, (((s.2.2.2.2.1).length : Int), ())), (s, (t, ()))) (fun i hi => by
        unfold G21_l1_step
        simp only [lt_int hi, cond_true, w2, lt_int (show i < t.2.2.1.length by omega), ge0, Bool.and_self, getD_toNat, rin_tells, Option.bind_some, wr1 (i := i) (by omega)]
        cases decide (0 - s.2.1 ≤ t.2.2.1.getD i 0 ∧ t.2.2.1.getD i 0 ≤ s.2.1) <;> rfl) (by
        unfold G21_l1_step
        simp only [nlt_int, cond_false]) (by unfold G21_l1_fuel; simp)
    rcases key1 with ⟨j, hj, hb, _, he⟩ | ⟨hall1, he⟩
    · rw [show G21_l1_run ((false, (0, ())), (s, (t, ()))) = _ from he]
      refine tells_f fun h => ?_
      rw [decide_eq_true (h.d_ hj)] at hb
      cases hb
    · rw [show G21_l1_run ((false, (0, ())), (s, (t, ()))) = _ from he]
      refine tells_t ⟨h1, h2, h3, hfl _ _ _ fun i hi => ?_, hfl _ _ _ fun i hi => ?_, hfl _ _ _ fun i hi => ?_⟩
      · have := hall i (by omega)
        simp only [Bool.not_eq_false', Bool.and_eq_true, decide_eq_true_eq] at this
        exact this.1
      · have := hall i (by omega)
        simp only [Bool.not_eq_false', Bool.and_eq_true, decide_eq_true_eq] at this
        exact this.2
      · have := hall1 i (by omega)
        simpa only [Bool.not_eq_false', decide_eq_true_eq] using this
def atN (s : E23) (i : Nat) : Nat := ((s.2.2.2.2.1).getD i 0).toNat
theorem at_ok {s : E23} (hs : StrOk s) {i : Nat} (hi : i < (s.2.2.2.2.1).length) : (((atN s i : Nat) : Int) = (s.2.2.2.2.1).getD i 0) ∧ atN s i < (s.2.2.2.1).toNat := by
  have := hs.at_ _ (getD_mem hi (d := 0))
  unfold atN
  omega
def AgR (s : E23) (t : E30) (r : E72) : Bool := agr1 s r ((t.1).getD (atN s (r.1).toNat) 0) ((t.2.1).getD (atN s (r.1).toNat) 0 + (t.2.2.1).getD (r.1).toNat 0)
def Ag (s : E23) (l : List E72) (t : E30) : Prop := ∀ r ∈ l, AgR s t r = true
theorem rd_i {s : E23} {r : E72} (hr : RdOk s r) : ∃ i : Nat, r.1 = (i : Int) ∧ i < (s.2.2.2.2.1).length := ⟨(r.1).toNat, by have := hr.1; omega, by have := hr.1; have := hr.2.1; omega⟩
theorem shows_ref {s : E23} {t : E30} (hs : StrOk s) (ht : TrOk s t) {i : Nat} (hi : i < (s.2.2.2.2.1).length) {w : Int} (hw : 0 ≤ w ∧ w ≤ 200) :
    G61 s t i w = some ((t.1).getD (atN s i) 0 + ((t.2.1).getD (atN s i) 0 + (t.2.2.1).getD i 0) * w) := by
  obtain ⟨ha, hb⟩ := at_ok hs hi
  have b1 := ht.t_ hb
  have b2 := ht.r_ hb
  have b3 := ht.d_ hi
  have hw1 := hs.warm
  have hw2 := hs.drift
  have hm := mulb (m := (t.2.1).getD (atN s i) 0 + (t.2.2.1).getD i 0) (w := w) (by omega) (by omega) hw.1 hw.2
  unfold G61
  simp only [ge0, lt_int hi, Bool.and_self, cond_true, getD_toNat, ← ha, lt_int (show atN s i < t.1.length by have := ht.lt; omega), lt_int (show atN s i < t.2.1.length by have := ht.lr; omega), lt_int (show i < t.2.2.1.length by have := ht.ld; omega)]
  rw [wr (n := t.2.1.getD (atN s i) 0 + t.2.2.1.getD i 0) (by omega) (by omega)]
  rw [wr (n := (t.2.1.getD (atN s i) 0 + t.2.2.1.getD i 0) * w) (by omega) (by omega)]
  rw [wr (by omega) (by omega)]
theorem ref_in {s : E23} {t : E30} (hs : StrOk s) (ht : TrOk s t) {r : E72} (hr : RdOk s r) {i : Nat} (hi : r.1 = (i : Int)) (hi' : i < (s.2.2.2.2.1).length) :
    G60 (r.2.2.1) (IntKind.wrap .i64 ((t.1).getD (atN s i) 0 + ((t.2.1).getD (atN s i) 0 + (t.2.2.1).getD i 0) * r.2.1 - s.1)) (IntKind.wrap .i64 ((t.1).getD (atN s i) 0 + ((t.2.1).getD (atN s i) 0 + (t.2.2.1).getD i 0) * r.2.1 + s.1)) = some (AgR s t r) := by
  have hw1 := hs.warm
  have hw2 := hs.drift
  have hw3 := hs.err
  obtain ⟨ha, hb⟩ := at_ok hs hi'
  have b1 := ht.t_ hb
  have b2 := ht.r_ hb
  have b3 := ht.d_ hi'
  have hm := mulb (m := (t.2.1).getD (atN s i) 0 + (t.2.2.1).getD i 0) (w := r.2.1) (by omega) (by omega) hr.2.2.1 hr.2.2.2.1
  unfold AgR agr1
  rw [hi, Int.toNat_natCast]
  generalize ((t.2.1).getD (atN s i) 0 + (t.2.2.1).getD i 0) * r.2.1 = x at hm ⊢
  rw [wr (by omega) (by omega), wr (by omega) (by omega), rin_tells]
  congr 1
  rw [← Bool.decide_and, decide_eq_decide]; omega
theorem ragrees_tells {s : E23} {l : List E72} {t : E30} (hs : StrOk s) (hl : RdsOk s l) (hn : l.length ≤ 1000) (ht : TrOk s t) : Tells (G22 s l t) (Ag s l t) := by
  have hw1 := hs.warm
  have hw2 := hs.drift
  have hw3 := hs.err
  unfold G22
  have key := iter_fn (step := G22_l0_step) (n := l.length) (k1 := 0) (k2 := 1) (fuel := G22_l0_fuel ((l, (false, (0, ()))), (s, (t, ()))))
    (bad := fun k => !(AgR s t (l.getD k (0, (0, (0, ()))))))
    (fun k => ((l, (false, ((k : Int), ()))), (s, (t, ())))) (fun k => ((l, (false, ((k : Int), ()))), (s, (t, ())))) ((l, (false, ((l.length : Int), ()))), (s, (t, ()))) (fun k hk => by
      unfold G22_l0_step
      simp only [lt_int hk, ge0, Bool.and_self, cond_true, getD_toNat, wr1 (i := k) (by omega)]
      have hr := hl _ (getD_mem hk (d := (0, (0, (0, ())))))
      generalize l.getD k (0, (0, (0, ()))) = r at hr ⊢
      obtain ⟨i, hi, hi'⟩ := rd_i hr
      have h2 := ref_in hs ht hr hi hi'
      rw [hi, shows_ref hs ht hi' ⟨hr.2.2.1, hr.2.2.2.1⟩]
      simp only [Option.bind_some]
      rw [h2]
      simp only [Option.bind_some]
      cases AgR s t r <;> rfl) (by
      unfold G22_l0_step
      simp only [nlt_int, cond_false]) (by unfold G22_l0_fuel; simp)
  rcases key with ⟨j, hj, hb, _, he⟩ | ⟨hall, he⟩
  · rw [show G22_l0_run ((l, (false, (0, ()))), (s, (t, ()))) = _ from he]
    refine tells_f fun h => ?_
    rw [h _ (getD_mem hj)] at hb
    cases hb
  · rw [show G22_l0_run ((l, (false, (0, ()))), (s, (t, ()))) = _ from he]
    refine tells_t ((forall_getD (0, (0, (0, ())))).1 fun i hi => ?_)
    simpa using hall i hi
theorem cf78a (a : List Int) (hl : a.length < 2 ^ 62) : G78_v1 a = some (a.any (fun n => !decide (2000 ≤ n ∧ n ≤ 3200))) := by
  unfold G78_v1 G95_v1 G95_v1_l0_run
  have key := iter_fn (step := G95_v1_l0_step) (n := a.length) (k1 := 0) (k2 := 1) (fuel := G95_v1_l0_fuel ((a, (0, ((List.length a : Int), (0, ())))), ())) (bad := fun i => !decide (2000 ≤ a.getD i 0 ∧ a.getD i 0 ≤ 3200))
    (fun i => ((a, (0, ((List.length a : Int), ((i : Int), ())))), ())) (fun i => ((a, ((i : Int), ((List.length a : Int), ((i : Int), ())))), ())) ((a, (0, ((List.length a : Int), ((a.length : Int), ())))), ()) (fun i hi => by
      unfold G95_v1_l0_step G79
      simp only [lt_int hi, inside_lt hi, cond_true, getD_toNat, in_tells, Option.bind_some, wr1 (i := i) (by omega)]
      cases decide (2000 ≤ a.getD i 0 ∧ a.getD i 0 ≤ 3200) <;> rfl) (by
      unfold G95_v1_l0_step
      simp only [nlt_int, cond_false]) (by unfold G95_v1_l0_fuel; simp)
  rcases key with ⟨j, hj, hb, _, he⟩ | ⟨hall, he⟩
  · have he' : iter G95_v1_l0_step (G95_v1_l0_fuel ((a, (0, ((List.length a : Int), (0, ())))), ())) ((a, (0, ((List.length a : Int), (0, ())))), ()) = _ := he
    rw [he', any_of_getD (p := fun n => !decide (2000 ≤ n ∧ n ≤ 3200)) hj hb]
    simp only [Option.bind_some, natK]
    simp
  · have he' : iter G95_v1_l0_step (G95_v1_l0_fuel ((a, (0, ((List.length a : Int), (0, ())))), ())) ((a, (0, ((List.length a : Int), (0, ())))), ()) = _ := he
    rw [he', any_not_getD (p := fun n => !decide (2000 ≤ n ∧ n ≤ 3200)) hall]
    rfl
theorem cf78b (a : List Int) (m : Int) (hm : 0 ≤ m ∧ m ≤ 20) (hl : a.length < 2 ^ 62) : G78_v2 a m = some (a.any (fun n => !decide (0 - m ≤ n ∧ n ≤ m)), (m, ())) := by
  unfold G78_v2 G95_v2 G95_v2_l0_run
  have key := iter_fn (step := G95_v2_l0_step) (n := a.length) (k1 := 0) (k2 := 1) (fuel := G95_v2_l0_fuel ((a, (0, ((List.length a : Int), (0, ())))), (m, ()))) (bad := fun i => !decide (0 - m ≤ a.getD i 0 ∧ a.getD i 0 ≤ m))
    (fun i => ((a, (0, ((List.length a : Int), ((i : Int), ())))), (m, ()))) (fun i => ((a, ((i : Int), ((List.length a : Int), ((i : Int), ())))), (m, ()))) ((a, (0, ((List.length a : Int), ((a.length : Int), ())))), (m, ())) (fun i hi => by
      unfold G95_v2_l0_step G96
      have w : IntKind.wrap .i64 (0 - m) = 0 - m := wr (by omega) (by omega)
      simp only [w, lt_int hi, inside_lt hi, cond_true, getD_toNat, in_tells, Option.bind_some, wr1 (i := i) (by omega)]
      cases decide (0 - m ≤ a.getD i 0 ∧ a.getD i 0 ≤ m) <;> rfl) (by
      unfold G95_v2_l0_step
      simp only [nlt_int, cond_false]) (by unfold G95_v2_l0_fuel; simp)
  rcases key with ⟨j, hj, hb, _, he⟩ | ⟨hall, he⟩
  · have he' : iter G95_v2_l0_step (G95_v2_l0_fuel ((a, (0, ((List.length a : Int), (0, ())))), (m, ()))) ((a, (0, ((List.length a : Int), (0, ())))), (m, ())) = _ := he
    rw [he', any_of_getD (p := fun n => !decide (0 - m ≤ n ∧ n ≤ m)) hj hb]
    simp only [Option.bind_some, natK]
    simp
  · have he' : iter G95_v2_l0_step (G95_v2_l0_fuel ((a, (0, ((List.length a : Int), (0, ())))), (m, ()))) ((a, (0, ((List.length a : Int), (0, ())))), (m, ())) = _ := he
    rw [he', any_not_getD (p := fun n => !decide (0 - m ≤ n ∧ n ≤ m)) hall]
    rfl
theorem rates_tells (a : List Int) (n m : Int) (hm : 0 ≤ m ∧ m ≤ 20) (hl : a.length < 2 ^ 62) : Tells (G80 a n m) ((a.length : Int) = n ∧ ∀ x ∈ a, 0 - m ≤ x ∧ x ≤ m) := by
  unfold G80
  by_cases h : (a.length : Int) = n
  · rw [beq_iff_eq.2 h, cond_true, cf78b a m hm hl]
    refine ⟨_, rfl, ?_⟩
    simp only [Bool.not_eq_true', List.any_eq_false]
    exact ⟨fun hh => ⟨h, fun x hx => by simpa using hh x hx⟩, fun hh x hx => by simpa using hh.2 x hx⟩
  · rw [beq_eq_false_iff_ne.2 h, cond_false]
    exact tells_f fun hh => h hh.1
theorem fine6 {s : E23} (hs : StrOk s) (l : List E72) (t : E30) (h1 : (t.1).length < 2 ^ 62) (h2 : (t.2.1).length < 2 ^ 62) (h3 : (t.2.2.1).length < 2 ^ 62) :
    ∃ b, G77 (XX s l) t s [] = some (b, (XX s l, (t, (s, ([], ()))))) ∧ (b = true ↔ TrOk s t) := by
  have hd := hs.depths
  unfold G77
  by_cases e1 : ((t.1).length : Int) = s.2.2.2.1
  case neg =>
    rw [beq_eq_false_iff_ne.2 e1]
    exact ⟨false, rfl, by simp; intro h; have := h.lt; omega⟩
  rw [beq_iff_eq.2 e1, cond_true, cf78a _ h1]
  simp only [Option.bind_some]
  cases ha : (t.1).any (fun n => !decide (2000 ≤ n ∧ n ≤ 3200)) with
  | true =>
    refine ⟨false, rfl, by
      simp only [Bool.false_eq_true, false_iff]
      intro h
      rw [List.any_eq_true] at ha
      obtain ⟨x, hx, hx'⟩ := ha
      rw [decide_eq_true (h.temp x hx)] at hx'
      cases hx'⟩
  | false =>
    have ht : ∀ x ∈ t.1, 2000 ≤ x ∧ x ≤ 3200 := by
      simpa only [List.any_eq_false, Bool.not_eq_true, Bool.not_eq_false', decide_eq_true_eq] using ha
    obtain ⟨b2, r2, i2⟩ := rates_tells (t.2.1) (s.2.2.2.1) (s.2.2.1) hs.warm h2
    obtain ⟨b3, r3, i3⟩ := rates_tells (t.2.2.1) ((s.2.2.2.2.1).length : Int) (s.2.1) hs.drift h3
    simp only [Bool.not_false, cond_true]
    rw [r2]
    simp only [Option.bind_some]
    cases b2 with
    | false => exact ⟨false, rfl, by simp only [Bool.false_eq_true, false_iff]; intro h; exact absurd (i2.2 ⟨by have := h.lr; omega, h.rate⟩) (by simp)⟩
    | true =>
      simp only [cond_true]
      rw [r3]
      refine ⟨b3, rfl, i3.trans ⟨fun h => ⟨by omega, by have := (i2.1 rfl).1; omega, by have := h.1; omega, ht, (i2.1 rfl).2, h.2⟩, fun h => ⟨by have := h.ld; omega, h.drift⟩⟩⟩
theorem agr_eq {s : E23} {t : E30} {r : E72} (hs : StrOk s) (ht : TrOk s t) (hr : RdOk s r) : G82 r s t = some (!(AgR s t r), (s, (t, ()))) := by
  have hw1 := hs.warm
  have hw2 := hs.drift
  have hw3 := hs.err
  obtain ⟨i, hi, hi'⟩ := rd_i hr
  obtain ⟨ha, hb⟩ := at_ok hs hi'
  have b1 := ht.t_ hb
  have b2 := ht.r_ hb
  have b3 := ht.d_ hi'
  have hm := mulb (m := (t.2.1).getD (atN s i) 0 + (t.2.2.1).getD i 0) (w := r.2.1) (by omega) (by omega) hr.2.2.1 hr.2.2.2.1
  have hr' := hr.2.2.2.2
  unfold G82 AgR agr1
  simp only [hi]
  simp only [ge0, lt_int hi', Bool.and_self, cond_true, getD_toNat, ← ha, lt_int (show atN s i < t.1.length by have := ht.lt; omega), lt_int (show atN s i < t.2.1.length by have := ht.lr; omega), lt_int (show i < t.2.2.1.length by have := ht.ld; omega), Int.toNat_natCast]
  rw [wr (n := t.2.1.getD (atN s i) 0 + t.2.2.1.getD i 0) (by omega) (by omega)]
  rw [wr (n := (t.2.1.getD (atN s i) 0 + t.2.2.1.getD i 0) * r.2.1) (by omega) (by omega), wr (n := r.2.2.1 - t.1.getD (atN s i) 0) (by omega) (by omega), wr (by omega) (by omega), wr (by omega) (by omega), in_tells]
  simp only [Option.bind_some]
  have e : (decide (r.2.2.1 - (t.2.1.getD (atN s i) 0 + t.2.2.1.getD i 0) * r.2.1 - s.1 ≤ t.1.getD (atN s i) 0) && decide (t.1.getD (atN s i) 0 ≤ r.2.2.1 - (t.2.1.getD (atN s i) 0 + t.2.2.1.getD i 0) * r.2.1 + s.1)) = decide (0 - s.1 ≤ r.2.2.1 - t.1.getD (atN s i) 0 - (t.2.1.getD (atN s i) 0 + t.2.2.1.getD i 0) * r.2.1 ∧ r.2.2.1 - t.1.getD (atN s i) 0 - (t.2.1.getD (atN s i) 0 + t.2.2.1.getD i 0) * r.2.1 ≤ s.1) := by
    rw [← Bool.decide_and, decide_eq_decide]; omega
  rw [e]
theorem cf81a {s : E23} {t : E30} (a : List E72) (hs : StrOk s) (ht : TrOk s t) (hr : RdsOk s a) (hl : a.length < 2 ^ 62) : G81_v1 a s t = some (a.any (fun r => !AgR s t r), (s, (t, ()))) := by
  unfold G81_v1 G97_v1 G97_v1_l0_run
  have key := iter_fn (step := G97_v1_l0_step) (n := a.length) (k1 := 0) (k2 := 1) (fuel := G97_v1_l0_fuel ((a, (0, ((List.length a : Int), (0, ())))), (s, (t, ())))) (bad := fun i => !(AgR s t (a.getD i (0, (0, (0, ()))))))
    (fun i => ((a, (0, ((List.length a : Int), ((i : Int), ())))), (s, (t, ())))) (fun i => ((a, ((i : Int), ((List.length a : Int), ((i : Int), ())))), (s, (t, ())))) ((a, (0, ((List.length a : Int), ((a.length : Int), ())))), (s, (t, ()))) (fun i hi => by
      unfold G97_v1_l0_step
      simp only [lt_int hi, inside_lt hi, cond_true, getD_toNat, agr_eq hs ht (hr _ (getD_mem hi (d := (0, (0, (0, ())))))), Option.bind_some, wr1 (i := i) (by omega)]
      cases AgR s t (a.getD i (0, (0, (0, ())))) <;> rfl) (by
      unfold G97_v1_l0_step
      simp only [nlt_int, cond_false]) (by unfold G97_v1_l0_fuel; simp)
  rcases key with ⟨j, hj, hb, _, he⟩ | ⟨hall, he⟩
  · have he' : iter G97_v1_l0_step (G97_v1_l0_fuel ((a, (0, ((List.length a : Int), (0, ())))), (s, (t, ())))) ((a, (0, ((List.length a : Int), (0, ())))), (s, (t, ()))) = _ := he
    rw [he', any_of_getD (p := fun r => !AgR s t r) hj hb]
    simp only [Option.bind_some, natK]
    simp
  · have he' : iter G97_v1_l0_step (G97_v1_l0_fuel ((a, (0, ((List.length a : Int), (0, ())))), (s, (t, ())))) ((a, (0, ((List.length a : Int), (0, ())))), (s, (t, ()))) = _ := he
    rw [he', any_not_getD (p := fun r => !AgR s t r) hall]
    rfl
theorem sagrees_eq (s : E23) (l : List E72) (t : E30) (h0 : l.length < 2 ^ 62) (h1 : (t.1).length < 2 ^ 62) (h2 : (t.2.1).length < 2 ^ 62) (h3 : (t.2.2.1).length < 2 ^ 62) :
    (24 < l.length ∧ G39 s l t = some (false, (3, ()))) ∨ (l.length ≤ 24 ∧ ¬ (SlOk s l ∧ TrOk s t) ∧ G39 s l t = some (false, (2, ()))) ∨ (SlOk s l ∧ TrOk s t ∧ ∃ b, G39 s l t = some (b, (0, ())) ∧ (b = true ↔ Ag s l t)) := by
  unfold G39 G49_v6
  by_cases hl : l.length ≤ 24
  case neg =>
    rw [decide_eq_true (p := (l.length : Int) > 24) (by omega)]
    exact .inl ⟨by omega, rfl⟩
  right
  rw [decide_eq_false (p := (l.length : Int) > 24) (by omega), cond_false]
  by_cases hs : StrOk s
  case neg =>
    rw [(valid_tells s).nval hs]
    exact .inl ⟨hl, fun h => hs h.1.2.1, rfl⟩
  rw [(valid_tells s).val hs]
  simp only [Option.bind_some, Bool.not_true, cond_false]
  rw [cf81 l s hs h0]
  simp only [Option.bind_some]
  cases ha : l.any (fun r => !decide (RdOk s r)) with
  | true =>
    refine .inl ⟨hl, fun h => ?_, rfl⟩
    rw [List.any_eq_true] at ha
    obtain ⟨x, hx, hx'⟩ := ha
    rw [decide_eq_true (h.1.2.2 x hx)] at hx'
    cases hx'
  | false =>
    have hr : RdsOk s l := by
      intro r hr
      have := List.any_eq_false.1 ha r hr
      simpa using this
    obtain ⟨b, e, hb⟩ := fine6 hs l t h1 h2 h3
    simp only [cond_false]
    rw [e]
    simp only [Option.bind_some]
    cases b with
    | false => exact .inl ⟨hl, fun h => (by have := hb.2 h.2; cases this), rfl⟩
    | true =>
      have ht := hb.1 rfl
      refine .inr ⟨⟨hl, hs, hr⟩, ht, ?_⟩
      have := cf81a l hs ht hr h0
      show ∃ b, (Option.bind (G81_v1 l s t) fun r4 => some (!r4.1, ((0 : Int), ()))) = some (b, (0, ())) ∧ (b = true ↔ Ag s l t)
      rw [this]
      refine ⟨_, rfl, ?_⟩
      simp only [Bool.not_eq_true', List.any_eq_false]
      exact ⟨fun hh r hr => by simpa using hh r hr, fun hh r hr => by simpa using hh r hr⟩
theorem check_eq (s : E23) : (StrOk s ∧ G41 s = some 0) ∨ (¬ StrOk s ∧ G41 s = some 2) := by
  unfold G41
  by_cases hs : StrOk s
  · rw [(valid_tells s).val hs]; exact .inl ⟨hs, rfl⟩
  · rw [(valid_tells s).nval hs]; exact .inr ⟨hs, rfl⟩
structure Sized (c : E26) (t : E30) : Prop where
  s : (c.1).length ≤ 12
  d : (c.2.1).length ≤ 12
  tt : (t.1).length ≤ 12
  tr : (t.2.1).length ≤ 12
  td : (t.2.2.1).length ≤ 12
theorem sized_tells (c : E26) (t : E30) : Tells (G12 c t) (Sized c t) := by
  unfold G12
  have h := tells_cond (p := ((c.1).length : Int) ≤ 12) (fun _ => tells_cond (p := ((c.2.1).length : Int) ≤ 12) (fun _ => tells_cond (p := ((t.1).length : Int) ≤ 12) (fun _ => tells_cond (p := ((t.2.1).length : Int) ≤ 12) (fun _ => tells_dec (p := ((t.2.2.1).length : Int) ≤ 12)))))
  exact h.iff ⟨fun h => ⟨by omega, by omega, by omega, by omega, by omega⟩, fun h => by have := h.s; have := h.d; have := h.tt; have := h.tr; have := h.td; omega⟩
end Go.Proofs.YtibmgbalfhfcdaaDoor.Abs
set_option linter.unusedVariables false
set_option linter.unusedSimpArgs false
set_option maxRecDepth 100000
namespace Go.Proofs.YtibmgbalfhfcdaaDoor.Abs
open Classical
attribute [local irreducible] G15 G22 G21 G13 G42 G39 G41
theorem law10 (s : E23) (l : List E72) (t : E30) : G10 s l t = some true := by
  unfold G10 G10_k0_run
  by_cases h1 : (s.2.2.2.2.1).length ≤ 12 ∧ l.length ≤ 29
  case neg =>
    rw [short_tells, decide_eq_false h1]
    simp only [Option.bind_some, Bool.not_false, cond_true, known_ok]
  simp only [short_tells, decide_eq_true h1, Option.bind_some, Bool.not_true, cond_false]
  by_cases h2 : Sized ([], ([], ())) t
  case neg =>
    simp only [(sized_tells _ _).nval h2, Option.bind_some, Bool.not_false, cond_true, known_ok]
  simp only [(sized_tells _ _).val h2, Option.bind_some, Bool.not_true, cond_false]
  have t1 := h2.tt
  have t2 := h2.tr
  have t3 := h2.td
  have hst : Tells (G42 s) (StrOk s) := rstring_tells s (by omega)
  obtain ⟨q, eq1, hq⟩ : ∃ q : Int, G41 s = some q ∧ ((StrOk s ∧ q = 0) ∨ (¬ StrOk s ∧ q = 2)) := by
    rcases check_eq s with ⟨h, e⟩ | ⟨h, e⟩
    · exact ⟨0, e, .inl ⟨h, rfl⟩⟩
    · exact ⟨2, e, .inr ⟨h, rfl⟩⟩
  rw [eq1]
  simp only [Option.bind_some]
  obtain ⟨b, f, e2, hb⟩ : ∃ (b : Bool) (f : Int), G39 s l t = some (b, (f, ())) ∧ ((24 < l.length ∧ b = false ∧ f = 3) ∨ (l.length ≤ 24 ∧ ¬ (SlOk s l ∧ TrOk s t) ∧ b = false ∧ f = 2) ∨ (SlOk s l ∧ TrOk s t ∧ f = 0 ∧ (b = true ↔ Ag s l t))) := by
    rcases sagrees_eq s l t (by omega) (by omega) (by omega) (by omega) with ⟨h, e⟩ | ⟨h, h', e⟩ | ⟨h, h', b, e, hb⟩
    · exact ⟨_, _, e, .inl ⟨h, rfl, rfl⟩⟩
    · exact ⟨_, _, e, .inr (.inl ⟨h, h', rfl, rfl⟩)⟩
    · exact ⟨_, _, e, .inr (.inr ⟨h, h', rfl, hb⟩)⟩
  rw [e2]
  simp only [Option.bind_some]
  obtain ⟨b2, e3, hb2⟩ := hst
  rw [e3]
  simp only [Option.bind_some]
  have k1 : G10_k1_run ((l, (q, (b, (f, (b2, ()))))), (s, (t, ()))) = some (0, ((l, (b, (f, (false, ())))), (s, (t, ())))) := by
    unfold G10_k1_run
    rcases hq with ⟨h, rfl⟩ | ⟨h, rfl⟩
    · rw [hb2.2 h]; rfl
    · have : b2 = false := by cases b2 with | true => exact absurd (hb2.1 rfl) h | false => rfl
      rw [this]; rfl
  rw [k1]
  simp only [Option.bind_some, cond_false]
  rcases wanted_eq s l (by omega) (by omega) with ⟨hl, e⟩ | ⟨hl, hn, e⟩ | ⟨hsl, e⟩
  · rw [e]
    rcases hb with ⟨_, rfl, rfl⟩ | ⟨h, _⟩ | ⟨h, _⟩
    · simp only [Option.bind_some]
      show (Option.bind (G10_k4_run ((false, (3, (3, ()))), (s, (t, ())))) fun q37 => some q37.2.1.1) = some true
      unfold G10_k4_run
      simp only [known_ok]; rfl
    · omega
    · have := h.1; omega
  · rw [e]
    rcases hb with ⟨h, _⟩ | ⟨_, _, rfl, rfl⟩ | ⟨h, _⟩
    · omega
    · simp only [Option.bind_some]
      show (Option.bind (G10_k4_run ((false, (2, (2, ()))), (s, (t, ())))) fun q37 => some q37.2.1.1) = some true
      unfold G10_k4_run
      simp only [known_ok]; rfl
    · exact absurd h hn
  · rw [e]
    have htt := truth_tells hsl.2.1 t
    simp only [Option.bind_some]
    unfold G10_k3_run G10_k2_run
    by_cases ht : TrOk s t
    · rw [htt.val ht]
      rcases hb with ⟨h, _⟩ | ⟨_, h, _⟩ | ⟨_, _, rfl, hb⟩
      · have := hsl.1; omega
      · exact absurd ⟨hsl, ht⟩ h
      · show (Option.bind (G10_k5_run ((l, (b, (0, ()))), (s, (t, ())))) fun q37 => some q37.2.1.1) = some true
        unfold G10_k5_run
        obtain ⟨b3, e4, hb3⟩ := ragrees_tells hsl.2.1 hsl.2.2 (by omega) ht
        have : b = b3 := Bool.eq_iff_iff.2 (hb.trans hb3.symm)
        subst this
        simp only [e4, known_ok]
        simp
    · rw [htt.nval ht]
      rcases hb with ⟨h, _⟩ | ⟨_, _, rfl, rfl⟩ | ⟨_, h, _⟩
      · have := hsl.1; omega
      · show (Option.bind (G10_k4_run ((false, (2, (2, ()))), (s, (t, ())))) fun q37 => some q37.2.1.1) = some true
        unfold G10_k4_run
        simp only [known_ok]; rfl
      · exact absurd h ht
theorem G10_true : ∀ x : Els [.dat T23, .dat (.list T72), .dat T30], wfs [.dat T23, .dat (.list T72), .dat T30] x → G10 x.1 x.2.1 x.2.2.1 = some true := fun x _ => law10 _ _ _
end Go.Proofs.YtibmgbalfhfcdaaDoor.Abs
set_option linter.unusedVariables false
set_option maxRecDepth 100000
namespace Go.Proofs.YtibmgbalfhfcdaaDoor.Abs.senseAgrees
open Go.ChangeShapes Go.WideShapes Go.RowKit
theorem own : ownKnob Tryd.prog.godebug = none := by kernel_rfl
theorem laidOut : laidOutB Tryd.prog = true := by kernel_rfl
theorem gTab : Tryd.prog.globalNamed "internal/strconv.uint64pow10" = some 0 := by kernel_rfl
theorem gTabType : (Tryd.prog.globals[0]?).map (·.type) = some 171 := by kernel_rfl
theorem cellsT : Tryd.prog.cellsOf 171 = 20 := by kernel_rfl
theorem cellsE : Tryd.prog.cellsOf 162 = 1 := by kernel_rfl
theorem undT : Tryd.prog.underlying 171 = some (.array 20 162) := by kernel_rfl
theorem undE : Tryd.prog.underlying 162 = some (.int .u64) := by kernel_rfl
theorem table {W : World} (h : laidMetH Tryd.prog Rows.senseAgreesRow.laid W) : Lib.TabIs Tryd.prog W "internal/strconv.uint64pow10" .u64 [1, 10, 100, 1000, 10000, 100000, 1000000, 10000000, 100000000, 1000000000, 10000000000, 100000000000, 1000000000000, 10000000000000, 100000000000000, 1000000000000000, 10000000000000000, 100000000000000000, 1000000000000000000, 10000000000000000000] :=
  Lib.tabIs_of_head (rest := []) gTab gTabType undT undE cellsE cellsT (laidMet.tail (laidMet.tail (h)))
theorem tabOk {W : World} (h : laidMetH Tryd.prog Rows.senseAgreesRow.laid W) : ∀ q ∈ TABS, ∃ e fr, W.heap[q.1]? = some (.cells q.2 e fr) := by
  have ht := table h
  unfold Lib.TabIs World.var? at ht
  rw [gTab] at ht
  simp only [Option.bind_some] at ht
  intro q hq
  have hq' : q = (0, _) := List.mem_singleton.1 hq
  subst hq'
  show ∃ e fr, W.heap[0]? = _
  split at ht
  · rename_i cs e fr hc
    exact ⟨e, fr, by rw [hc]; simp only [Option.some.injEq] at ht; rw [ht]; rfl⟩
  · cases ht
noncomputable def laidWorld (os : Os) : World :=
  { World.holding Tryd.prog os ⟨#[], #[], []⟩ with heap := ((((World.holding Tryd.prog os ⟨#[], #[], []⟩).heap.modify 2 fun | .cells _ t frozen => .cells #[.int .u8 0, .int .u8 1, .int .u8 28, .int .u8 2, .int .u8 29, .int .u8 14, .int .u8 24, .int .u8 3, .int .u8 30, .int .u8 22, .int .u8 20, .int .u8 15, .int .u8 25, .int .u8 17, .int .u8 4, .int .u8 8, .int .u8 31, .int .u8 27, .int .u8 13, .int .u8 23, .int .u8 21, .int .u8 19, .int .u8 16, .int .u8 7, .int .u8 26, .int .u8 12, .int .u8 18, .int .u8 6, .int .u8 11, .int .u8 5, .int .u8 10, .int .u8 9] t frozen | o => o).modify 3 fun | .cells _ t frozen => .cells #[.int .u8 0, .int .u8 1, .int .u8 56, .int .u8 2, .int .u8 57, .int .u8 49, .int .u8 28, .int .u8 3, .int .u8 61, .int .u8 58, .int .u8 42, .int .u8 50, .int .u8 38, .int .u8 29, .int .u8 17, .int .u8 4, .int .u8 62, .int .u8 47, .int .u8 59, .int .u8 36, .int .u8 45, .int .u8 43, .int .u8 51, .int .u8 22, .int .u8 53, .int .u8 39, .int .u8 33, .int .u8 30, .int .u8 24, .int .u8 18, .int .u8 12, .int .u8 5, .int .u8 63, .int .u8 55, .int .u8 48, .int .u8 27, .int .u8 60, .int .u8 41, .int .u8 37, .int .u8 16, .int .u8 46, .int .u8 35, .int .u8 44, .int .u8 21, .int .u8 52, .int .u8 32, .int .u8 23, .int .u8 11, .int .u8 54, .int .u8 26, .int .u8 40, .int .u8 15, .int .u8 34, .int .u8 20, .int .u8 31, .int .u8 10, .int .u8 25, .int .u8 14, .int .u8 19, .int .u8 9, .int .u8 13, .int .u8 8, .int .u8 7, .int .u8 6] t frozen | o => o).modify 0 fun | .cells _ t frozen => .cells #[.int .u64 1, .int .u64 10, .int .u64 100, .int .u64 1000, .int .u64 10000, .int .u64 100000, .int .u64 1000000, .int .u64 10000000, .int .u64 100000000, .int .u64 1000000000, .int .u64 10000000000, .int .u64 100000000000, .int .u64 1000000000000, .int .u64 10000000000000, .int .u64 100000000000000, .int .u64 1000000000000000, .int .u64 10000000000000000, .int .u64 100000000000000000, .int .u64 1000000000000000000, .int .u64 10000000000000000000] t frozen | o => o) }
theorem laid_met (os : Os) : laidMet Tryd.prog Rows.senseAgreesRow.laid ((laidWorld os).forCall (fun _ _ => 0) ⟨#[], #[(Value.agg #[.int .i64 0, .int .i64 0, .int .i64 0, .int .i64 0, .slice none 0 0]), (Value.slice none 0 0), (Value.agg #[.slice none 0 0, .slice none 0 0, .slice none 0 0])], []⟩).memory :=
  laidMet_of_run' 8 (by kernel_rfl) (by kernel_rfl)
theorem reads (os : Os) {H : Type} (enc : TypeId × Value → H) : ∃ places, DataW.whole enc Tryd.prog ((laidWorld os).forCall (fun _ _ => 0) ⟨#[], #[(Value.agg #[.int .i64 0, .int .i64 0, .int .i64 0, .int .i64 0, .slice none 0 0]), (Value.slice none 0 0), (Value.agg #[.slice none 0 0, .slice none 0 0, .slice none 0 0])], []⟩).memory Tryd.f10.params.toList Rows.senseAgreesSpec.vars false #[(Value.agg #[.int .i64 0, .int .i64 0, .int .i64 0, .int .i64 0, .slice none 0 0]), (Value.slice none 0 0), (Value.agg #[.slice none 0 0, .slice none 0 0, .slice none 0 0])].toList 16 = some ([.agg [.lit (.int .i64 0), .lit (.int .i64 0), .lit (.int .i64 0), .lit (.int .i64 0), .nil], .nil, .agg [.nil, .nil, .nil]], [], places) :=
  ⟨[], by kernel_rfl⟩
theorem spec_fn (H : Type) : (ds : List (DataW H)) → ds.length = Tryd.f10.params.toList.length → (Rows.senseAgreesSpec.fn H ds).results = [.lit (.bool true)] ∧ (Rows.senseAgreesSpec.fn H ds).args = ds ∧ (Rows.senseAgreesSpec.fn H ds).vars = []
  | [], h => by rw [show Tryd.f10.params.toList.length = 3 from by kernel_rfl] at h; simp at h
  | [d0], h => by rw [show Tryd.f10.params.toList.length = 3 from by kernel_rfl] at h; simp at h
  | [d0, d1], h => by rw [show Tryd.f10.params.toList.length = 3 from by kernel_rfl] at h; simp at h
  | [d0, d1, d2], _ => ⟨rfl, rfl, rfl⟩
  | d0 :: d1 :: d2 :: _ :: _, h => by rw [show Tryd.f10.params.toList.length = 3 from by kernel_rfl] at h; simp at h
theorem contract (H : Type) (enc : TypeId × Value → H) (W : World) (base : Nat) (args : Array Value) (ds gs : List (DataW H)) (before : List MemPlace)
    (hval : ∀ (j : Nat) t v, Tryd.f10.params[j]? = some t → args[j]? = some v → Value.okWide Tryd.prog W .any base t v)
    (hW : DataW.Whole enc Tryd.prog Tryd.f10.params.toList Rows.senseAgreesSpec.vars false W args.toList ds gs before) (hL : laidMetH Tryd.prog Rows.senseAgreesRow.laid W) :
    Calls Tryd.prog 10 args W fun e W' => ∃ v, e = .returned v ∧ Rows.senseAgreesSpec.post enc Tryd.prog Tryd.f10 false true false false W args v W' :=
  law_contract (n := 20) (fun x r h => G10_lcall x r h) (fun x hx => G10_true x hx) (by decide) (show Tryd.f10.resultTypes = #[4] by kernel_rfl) (by kernel_rfl) (by kernel_rfl) laidOut (by
    intro t ht
    have : (Tryd.f10.params.toList.all fun t => Tryd.prog.readableRec t && decide (t < Tryd.prog.types.size)) = true := by kernel_rfl
    have := List.all_eq_true.1 this t ht
    simpa using this) rfl spec_fn hval hW (tabOk hL)
theorem lifted (os : Os) (started : os.Started) (H : Type) (enc : TypeId × Value → H) (F : Stop.Interp) :
    ReturnsInHanded {} Tryd.checked os 10 .any ((OpenSpec.ofChange Rows.senseAgreesSpec).preRow enc Tryd.prog Tryd.f10 Rows.senseAgreesRow.domain false Rows.senseAgreesRow.laid) (((OpenSpec.ofChange Rows.senseAgreesSpec).at F).post enc Tryd.prog Tryd.f10 false true false false) := by
  obtain ⟨places, hx⟩ := reads os enc
  refine returnsInHanded_of_row (C := Tryd.checked) (s := OpenSpec.ofChange Rows.senseAgreesSpec) own started (by kernel_rfl) Tryd.func10
    (witness_row_at (enc := enc) (C := Tryd.checked) false (laidWorld os) #[(Value.agg #[.int .i64 0, .int .i64 0, .int .i64 0, .int .i64 0, .slice none 0 0]), (Value.slice none 0 0), (Value.agg #[.slice none 0 0, .slice none 0 0, .slice none 0 0])] rfl (by kernel_rfl) (by kernel_rfl) (by kernel_rfl)
      (OpenSpec.preRow_of_cond 16 hx (by kernel_rfl) (fun k hk => by cases hk) (by kernel_rfl) (laid_met os))) ?_
  intro W base args ds gs before hval hW _ _ _ hL _ _
  exact contract H enc W base args ds gs before hval hW hL
theorem said : Rows.SenseAgreesSaid :=
  OpenClaim.holds_of_cond 10 Tryd.f10 rfl rfl rfl rfl rfl rfl rfl ⟨rfl, rfl, rfl, rfl, rfl⟩ rfl rfl rfl rfl rfl (by kernel_rfl) Tryd.func10 (by kernel_rfl)
    (of_decide_eq_true (by kernel_rfl)) (by unfold Func.isWrapper; first | (rw [if_pos (by decide +kernel)]; kernel_rfl) | (rw [if_neg (by decide +kernel)]; exact ⟨rfl, rfl⟩))
    (fun os started H enc _ F => by rw [OpenClaim.pre_eq_preRow]; exact lifted os started H enc F)
theorem plain (f : FuncId) (fn : Func) (hf : Tryd.pinned.checked.prog.funcNamed "talik/taliklaw05.SenseAgrees" = some f) (hfn : Tryd.pinned.checked.prog.funcs[f]? = some fn) :
    false = Tryd.pinned.checked.prog.looks [] ∧ ∀ (j : Nat) t, fn.params[j]? = some t → Tryd.pinned.checked.prog.wantsStandIn t = false := by
  obtain rfl : f = 10 := Option.some.inj ((show Tryd.prog.funcNamed "talik/taliklaw05.SenseAgrees" = some 10 by kernel_rfl).symm.trans hf) |>.symm
  obtain rfl : fn = Tryd.f10 := (Option.some.inj (Tryd.func10.symm.trans hfn)).symm
  refine ⟨by kernel_rfl, fun j t ht => ?_⟩
  have h : (Tryd.f10.params.toList.all fun t => !Tryd.prog.wantsStandIn t) = true := by kernel_rfl
  have := List.all_eq_true.1 h t (by rw [← Array.getElem?_toList] at ht; exact List.mem_of_getElem? ht)
  exact (show Tryd.prog.wantsStandIn t = false by simpa using this)
theorem card : Rows.SenseAgreesCardSaid :=
  Claim7.holds_tied_plain_at .later [] _ _ _ _ said (fun _ h => by cases h) (by kernel_rfl) (fun _ h => by cases h) senseAgrees_row_tie rfl ⟨rfl, rfl⟩ (by kernel_rfl) rfl plain (by kernel_rfl)
end Go.Proofs.YtibmgbalfhfcdaaDoor.Abs.senseAgrees
namespace Go.Proofs.YtibmgbalfhfcdaaDoor
theorem senseAgrees_card : Rows.SenseAgreesCardSaid := Abs.senseAgrees.card
end Go.Proofs.YtibmgbalfhfcdaaDoor
