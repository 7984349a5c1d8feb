import Derived.Test.YtcijddeommognaaDoorF3
import Derived.Test.YtcijddeommognaaDoorCards
import Derived.Test.YtcijddeommognaaDoorTie
import Derived.Test.YtcijddeommognaaDoorA3
import Derived.WalkKit
import Derived.ProofKit
import Derived.OpenShut
import Derived.Deep.DeepHandedRow
import Derived.Lib.LaidTab
import Derived.Stop.LaidErr
/-
  A law of the store layer as a typed function. Printed by a program of mine (gen.py).
-/
set_option linter.unusedVariables false
set_option maxRecDepth 100000
namespace Go.Proofs.YtcijddeommognaaDoor.Abs
open Go.Shelf Go.Sort
noncomputable def g11_taliklaw06_StoreRuns_C : CalT := tabC [g15_taliklaw06_short_E, g20_taliklaw06_known_E, g36_store_Check_E, g21_store_Run_E, g16_talikref06_Store_E, g37_talikref06_SameTrace_E, g17_talikref06_Plan_E, g18_taliklaw06_ice_E, g19_taliklaw06_winter_E, g38_talikref06_Run_E]
theorem g11_taliklaw06_StoreRuns_CV : CV Tryd.prog g11_taliklaw06_StoreRuns_C := tabC_valid (l := [g15_taliklaw06_short_E, g20_taliklaw06_known_E, g36_store_Check_E, g21_store_Run_E, g16_talikref06_Store_E, g37_talikref06_SameTrace_E, g17_talikref06_Plan_E, g18_taliklaw06_ice_E, g19_taliklaw06_winter_E, g38_talikref06_Run_E]) ⟨g15_taliklaw06_short_valid, g20_taliklaw06_known_valid, g36_store_Check_valid, g21_store_Run_valid, g16_talikref06_Store_valid, g37_talikref06_SameTrace_valid, g17_talikref06_Plan_valid, g18_taliklaw06_ice_valid, g19_taliklaw06_winter_valid, g38_talikref06_Run_valid, trivial⟩
noncomputable def g11_taliklaw06_StoreRuns_k0_S0 : SPat := ⟨[.any, .dat (.int .i64), .dat (.int .i64), .dat (.int .i64), .fix (.bptr 0 []), .any, .any, .any, .any, .dat (.int .i64), .fix (.bptr 1 []), .dat (.int .i64), .dat .bool, .any, .any, .any, .any, .any, .any, .any, .any, .any, .any, .any, .any, .any, .any, .any, .any, .any, .any, .any, .any, .any, .any, .any, .any, .any, .any, .any, .any, .any, .any, .any, .any, .any, .any, .any, .any, .any, .any, .any, .any, .any, .any, .any, .any, .any, .any, .any, .any, .any, .any, .any, .any, .any, .any, .any, .any, .any, .any, .any, .any, .any, .any, .any, .any, .any, .any, .any, .any, .any, .any, .any, .any, .any, .any], [.dat T27, .dat T33], 0⟩
noncomputable def g11_taliklaw06_StoreRuns_k0_S1 : SPat := ⟨[.any, .dat (.int .i64), .dat (.int .i64), .dat (.int .i64), .fix (.bptr 0 []), .any, .any, .any, .any, .any, .fix (.bptr 1 []), .dat (.int .i64), .any, .any, .any, .any, .any, .any, .any, .any, .any, .any, .any, .any, .any, .any, .any, .any, .any, .any, .any, .any, .any, .any, .any, .any, .any, .any, .any, .any, .any, .dat .bool, .any, .any, .any, .any, .any, .any, .any, .any, .any, .any, .any, .any, .any, .any, .any, .any, .any, .any, .any, .any, .any, .any, .any, .any, .any, .any, .any, .any, .any, .any, .any, .any, .any, .any, .any, .any, .any, .any, .any, .any, .any, .any, .any, .any, .any], [.dat T27, .dat T33], 0⟩
abbrev TY99 : Type := ((Int × (Int × (Int × (Int × (Int × (Bool × Unit)))))) × (E27 × (E33 × Unit)))
abbrev TY100 : Type := (Nat × ((Int × (Int × (Int × (Int × (Bool × Unit))))) × (E27 × (E33 × Unit))))
noncomputable def g11_taliklaw06_StoreRuns_k0_run (s : TY99) : Option TY100 :=
  (bif s.1.2.2.2.2.2.1 then
  (bif (s.1.2.2.2.1 != 0) then
    some (0, ((s.1.1, (s.1.2.1, (s.1.2.2.1, (s.1.2.2.2.2.1, (true, ()))))), (s.2.1, (s.2.2.1, ()))))
    else
    (bif (!s.1.2.2.2.2.2.1) then
      some (0, ((s.1.1, (s.1.2.1, (s.1.2.2.1, (s.1.2.2.2.2.1, ((s.1.2.2.2.1 != 2), ()))))), (s.2.1, (s.2.2.1, ()))))
      else
      some (0, ((s.1.1, (s.1.2.1, (s.1.2.2.1, (s.1.2.2.2.2.1, (false, ()))))), (s.2.1, (s.2.2.1, ()))))))
  else
  (bif (!s.1.2.2.2.2.2.1) then
    some (0, ((s.1.1, (s.1.2.1, (s.1.2.2.1, (s.1.2.2.2.2.1, ((s.1.2.2.2.1 != 2), ()))))), (s.2.1, (s.2.2.1, ()))))
    else
    some (0, ((s.1.1, (s.1.2.1, (s.1.2.2.1, (s.1.2.2.2.2.1, (false, ()))))), (s.2.1, (s.2.2.1, ()))))))
noncomputable def g11_taliklaw06_StoreRuns_k0_L : LoopT := cutT g11_taliklaw06_StoreRuns_k0_S0 g11_taliklaw06_StoreRuns_k0_S1 [.normal] g11_taliklaw06_StoreRuns_k0_run
noncomputable def g11_taliklaw06_StoreRuns_k1_S0 : SPat := ⟨[.any, .dat (.int .i64), .dat (.int .i64), .dat (.int .i64), .fix (.bptr 0 []), .any, .any, .any, .any, .any, .fix (.bptr 1 []), .dat (.int .i64), .any, .any, .any, .any, .any, .any, .any, .any, .any, .any, .any, .any, .any, .any, .any, .any, .any, .any, .any, .any, .any, .any, .any, .any, .any, .any, .any, .any, .any, .any, .any, .any, .any, .any, .any, .any, .any, .any, .any, .any, .any, .any, .any, .any, .any, .any, .any, .any, .any, .any, .any, .any, .any, .any, .any, .any, .any, .any, .any, .any, .any, .any, .any, .any, .any, .any, .any, .any, .any, .any, .any, .any, .any, .any, .any], [.dat T27, .dat T33], 0⟩
noncomputable def g11_taliklaw06_StoreRuns_k1_S1 : SPat := ⟨[.any, .dat (.int .i64), .dat (.int .i64), .dat (.int .i64), .fix (.bptr 0 []), .any, .any, .any, .any, .any, .fix (.bptr 1 []), .dat (.int .i64), .any, .any, .any, .any, .any, .any, .any, .any, .any, .any, .any, .any, .any, .any, .any, .any, .any, .any, .any, .any, .any, .any, .any, .any, .any, .any, .any, .any, .any, .any, .any, .any, .any, .any, .any, .any, .any, .any, .any, .any, .any, .any, .any, .any, .any, .any, .any, .any, .any, .any, .dat .bool, .any, .any, .any, .any, .any, .any, .any, .any, .any, .any, .any, .any, .any, .any, .any, .any, .any, .any, .any, .any, .any, .any, .any, .any], [.dat T27, .dat T33], 0⟩
noncomputable def g11_taliklaw06_StoreRuns_k1_run (s : ((Int × (Int × (Int × (Int × Unit)))) × (E27 × (E33 × Unit)))) : Option TY100 :=
  (Option.bind (g16_talikref06_Store s.2.1) fun r37 =>
  (bif (!r37) then
    some (0, ((s.1.1, (s.1.2.1, (s.1.2.2.1, (s.1.2.2.2.1, (true, ()))))), (s.2.1, (s.2.2.1, ()))))
    else
    (Option.bind (g17_talikref06_Plan s.2.1 s.1.1) fun r38 =>
      (bif (!r38) then
        some (0, ((s.1.1, (s.1.2.1, (s.1.2.2.1, (s.1.2.2.2.1, (true, ()))))), (s.2.1, (s.2.2.1, ()))))
        else
        (Option.bind (g18_taliklaw06_ice s.2.1 s.1.2.1) fun r39 =>
          (bif (!r39) then
            some (0, ((s.1.1, (s.1.2.1, (s.1.2.2.1, (s.1.2.2.2.1, (true, ()))))), (s.2.1, (s.2.2.1, ()))))
            else
            (Option.bind (g19_taliklaw06_winter s.2.1 s.1.2.2.1) fun r40 =>
              some (0, ((s.1.1, (s.1.2.1, (s.1.2.2.1, (s.1.2.2.2.1, ((!r40), ()))))), (s.2.1, (s.2.2.1, ())))))))))))
noncomputable def g11_taliklaw06_StoreRuns_k1_L : LoopT := cutT g11_taliklaw06_StoreRuns_k1_S0 g11_taliklaw06_StoreRuns_k1_S1 [.normal] g11_taliklaw06_StoreRuns_k1_run
noncomputable def g11_taliklaw06_StoreRuns_k2_S0 : SPat := ⟨[.any, .any, .any, .any, .any, .any, .any, .any, .any, .any, .fix (.bptr 1 []), .dat (.int .i64), .any, .any, .any, .any, .any, .any, .any, .any, .any, .any, .any, .any, .any, .any, .any, .any, .any, .any, .any, .any, .any, .any, .any, .any, .any, .any, .any, .any, .any, .any, .any, .any, .any, .any, .any, .any, .any, .any, .any, .any, .any, .any, .any, .any, .any, .any, .any, .any, .any, .any, .any, .any, .any, .any, .any, .any, .any, .any, .any, .any, .any, .any, .any, .any, .any, .any, .any, .any, .any, .any, .any, .any, .any, .any, .any], [.dat T27, .dat T33], 0⟩
noncomputable def g11_taliklaw06_StoreRuns_k2_S1 : SPat := ⟨[.any, .any, .any, .any, .any, .any, .any, .any, .dat .bool, .any, .any, .any, .any, .any, .any, .any, .any, .any, .any, .any, .any, .any, .any, .any, .any, .any, .any, .any, .any, .any, .any, .any, .any, .any, .any, .any, .any, .any, .any, .any, .any, .any, .any, .any, .any, .any, .any, .any, .any, .any, .any, .any, .any, .any, .any, .any, .any, .any, .any, .any, .any, .any, .any, .any, .any, .any, .any, .any, .any, .any, .any, .any, .any, .any, .any, .any, .any, .any, .any, .any, .any, .any, .any, .any, .any, .any, .any], [.dat T27, .dat T33], 0⟩
noncomputable def g11_taliklaw06_StoreRuns_k2_run (s : ((Int × Unit) × (E27 × (E33 × Unit)))) : Option (Nat × ((Bool × Unit) × (E27 × (E33 × Unit)))) :=
  (bif (s.1.1 == 2) then
  (Option.bind (g37_talikref06_SameTrace s.2.2.1 ([], ([], ([], ())))) fun r46 =>
    (bif r46 then
      (Option.bind g20_taliklaw06_known fun r47 =>
        some (0, ((r47, ()), (s.2.1, (s.2.2.1, ())))))
      else
      some (0, ((false, ()), (s.2.1, (s.2.2.1, ()))))))
  else
  some (0, ((false, ()), (s.2.1, (s.2.2.1, ())))))
noncomputable def g11_taliklaw06_StoreRuns_k2_L : LoopT := cutT g11_taliklaw06_StoreRuns_k2_S0 g11_taliklaw06_StoreRuns_k2_S1 [.normal] g11_taliklaw06_StoreRuns_k2_run
noncomputable def g11_taliklaw06_StoreRuns_k3_S0 : SPat := ⟨[.any, .dat (.int .i64), .dat (.int .i64), .dat (.int .i64), .fix (.bptr 0 []), .any, .any, .any, .any, .any, .fix (.bptr 1 []), .dat (.int .i64), .any, .any, .any, .any, .any, .any, .any, .any, .any, .any, .any, .any, .any, .any, .any, .any, .any, .any, .any, .any, .any, .any, .any, .any, .any, .any, .any, .any, .any, .any, .any, .any, .any, .any, .any, .any, .any, .any, .any, .any, .any, .any, .any, .any, .any, .any, .any, .any, .any, .any, .any, .any, .any, .any, .any, .any, .any, .any, .any, .any, .any, .any, .any, .any, .any, .any, .any, .any, .any, .any, .any, .any, .any, .any, .any], [.dat T27, .dat T33], 0⟩
noncomputable def g11_taliklaw06_StoreRuns_k3_S1 : SPat := ⟨[.any, .any, .any, .any, .any, .any, .any, .any, .dat .bool, .any, .any, .any, .any, .any, .any, .any, .any, .any, .any, .any, .any, .any, .any, .any, .any, .any, .any, .any, .any, .any, .any, .any, .any, .any, .any, .any, .any, .any, .any, .any, .any, .any, .any, .any, .any, .any, .any, .any, .any, .any, .any, .any, .any, .any, .any, .any, .any, .any, .any, .any, .any, .any, .any, .any, .any, .any, .any, .any, .any, .any, .any, .any, .any, .any, .any, .any, .any, .any, .any, .any, .any, .any, .any, .any, .any, .any, .any], [.dat T27, .dat T33], 0⟩
noncomputable def g11_taliklaw06_StoreRuns_k3_run (s : ((Int × (Int × (Int × (Int × Unit)))) × (E27 × (E33 × Unit)))) : Option (Nat × ((Bool × Unit) × (E27 × (E33 × Unit)))) :=
  (bif (s.1.2.2.2.1 == 0) then
  (Option.bind (g38_talikref06_Run s.2.1 s.1.1 s.1.2.1 s.1.2.2.1) fun r55 =>
    (Option.bind (g37_talikref06_SameTrace s.2.2.1 r55) fun r56 =>
      (bif r56 then
        (Option.bind g20_taliklaw06_known fun r57 =>
          some (0, ((r57, ()), (s.2.1, (s.2.2.1, ())))))
        else
        some (0, ((false, ()), (s.2.1, (s.2.2.1, ())))))))
  else
  some (0, ((false, ()), (s.2.1, (s.2.2.1, ())))))
noncomputable def g11_taliklaw06_StoreRuns_k3_L : LoopT := cutT g11_taliklaw06_StoreRuns_k3_S0 g11_taliklaw06_StoreRuns_k3_S1 [.normal] g11_taliklaw06_StoreRuns_k3_run
noncomputable def g11_taliklaw06_StoreRuns (a0 : E27) (a1 : Int) (a2 : Int) (a3 : Int) : Option Bool :=
  (Option.bind (g15_taliklaw06_short a0) fun r4 =>
  (bif (!r4) then
    (Option.bind g20_taliklaw06_known fun r6 =>
      some r6)
    else
    (Option.bind (g36_store_Check a0) fun r8 =>
      (Option.bind (g21_store_Run a0 a1 a2 a3) fun r10 =>
        (Option.bind (g16_talikref06_Store a0) fun r15 =>
          (Option.bind (g11_taliklaw06_StoreRuns_k0_run ((a1, (a2, (a3, (r8, (r10.2.1, (r15, ())))))), (a0, (r10.1, ())))) fun q16 =>
            (bif q16.2.1.2.2.2.2.1 then
              some false
              else
              (Option.bind (g11_taliklaw06_StoreRuns_k1_run ((q16.2.1.1, (q16.2.1.2.1, (q16.2.1.2.2.1, (q16.2.1.2.2.2.1, ())))), (q16.2.2.1, (q16.2.2.2.1, ())))) fun q41 =>
                (bif q41.2.1.2.2.2.2.1 then
                  (Option.bind (g11_taliklaw06_StoreRuns_k2_run ((q41.2.1.2.2.2.1, ()), (q41.2.2.1, (q41.2.2.2.1, ())))) fun q48 =>
                    some q48.2.1.1)
                  else
                  (Option.bind (g11_taliklaw06_StoreRuns_k3_run ((q41.2.1.1, (q41.2.1.2.1, (q41.2.1.2.2.1, (q41.2.1.2.2.2.1, ())))), (q41.2.2.1, (q41.2.2.2.1, ())))) fun q58 =>
                    some q58.2.1.1))))))))))
noncomputable def g11_taliklaw06_StoreRuns_E : CEnt := pureE 11 [.dat T27, .dat (.int .i64), .dat (.int .i64), .dat (.int .i64)] (.dat .bool) fun x => g11_taliklaw06_StoreRuns x.1 x.2.1 x.2.2.1 x.2.2.2.1
noncomputable def g11_taliklaw06_StoreRuns_k0_J : Jn := (.whole [])
theorem g11_taliklaw06_StoreRuns_k0_JV : JV 0 Tryd.prog false g11_taliklaw06_StoreRuns_k0_J (seqL (seqR (seqL (seqR (seqR (seqR (seqR (bodyOf Tryd.f11)))))))) := jv_nil
theorem g11_taliklaw06_StoreRuns_k0_V : LValid 0 Tryd.prog (seqL (seqR (seqL (seqR (seqR (seqR (seqR (bodyOf Tryd.f11)))))))) g11_taliklaw06_StoreRuns_k0_L false :=
  cutT_valid (ev := jnT Tryd.prog g11_taliklaw06_StoreRuns_C g11_taliklaw06_StoreRuns_k0_J (seqL (seqR (seqL (seqR (seqR (seqR (seqR (bodyOf Tryd.f11))))))))) (jnT_valid mixed g11_taliklaw06_StoreRuns_CV g11_taliklaw06_StoreRuns_k0_JV) (by kernel_rfl) (by kernel_rfl) (by decide) (by decide) (by intro s; kernel_rfl)
noncomputable def g11_taliklaw06_StoreRuns_k1_J : Jn := (.whole [])
theorem g11_taliklaw06_StoreRuns_k1_JV : JV 0 Tryd.prog false g11_taliklaw06_StoreRuns_k1_J (seqL (seqL (seqR (seqR (seqR (seqR (seqR (bodyOf Tryd.f11)))))))) := jv_nil
theorem g11_taliklaw06_StoreRuns_k1_V : LValid 0 Tryd.prog (seqL (seqL (seqR (seqR (seqR (seqR (seqR (bodyOf Tryd.f11)))))))) g11_taliklaw06_StoreRuns_k1_L false :=
  cutT_valid (ev := jnT Tryd.prog g11_taliklaw06_StoreRuns_C g11_taliklaw06_StoreRuns_k1_J (seqL (seqL (seqR (seqR (seqR (seqR (seqR (bodyOf Tryd.f11))))))))) (jnT_valid mixed g11_taliklaw06_StoreRuns_CV g11_taliklaw06_StoreRuns_k1_JV) (by kernel_rfl) (by kernel_rfl) (by decide) (by decide) (by intro s; kernel_rfl)
noncomputable def g11_taliklaw06_StoreRuns_k2_J : Jn := (.whole [])
theorem g11_taliklaw06_StoreRuns_k2_JV : JV 0 Tryd.prog false g11_taliklaw06_StoreRuns_k2_J (seqL (conL (seqR (seqL (seqR (seqR (seqR (seqR (seqR (bodyOf Tryd.f11)))))))))) := jv_nil
theorem g11_taliklaw06_StoreRuns_k2_V : LValid 0 Tryd.prog (seqL (conL (seqR (seqL (seqR (seqR (seqR (seqR (seqR (bodyOf Tryd.f11)))))))))) g11_taliklaw06_StoreRuns_k2_L false :=
  cutT_valid (ev := jnT Tryd.prog g11_taliklaw06_StoreRuns_C g11_taliklaw06_StoreRuns_k2_J (seqL (conL (seqR (seqL (seqR (seqR (seqR (seqR (seqR (bodyOf Tryd.f11))))))))))) (jnT_valid mixed g11_taliklaw06_StoreRuns_CV g11_taliklaw06_StoreRuns_k2_JV) (by kernel_rfl) (by kernel_rfl) (by decide) (by decide) (by intro s; kernel_rfl)
noncomputable def g11_taliklaw06_StoreRuns_k3_J : Jn := (.whole [])
theorem g11_taliklaw06_StoreRuns_k3_JV : JV 0 Tryd.prog false g11_taliklaw06_StoreRuns_k3_J (seqL (seqR (seqR (seqR (seqR (seqR (seqR (bodyOf Tryd.f11)))))))) := jv_nil
theorem g11_taliklaw06_StoreRuns_k3_V : LValid 0 Tryd.prog (seqL (seqR (seqR (seqR (seqR (seqR (seqR (bodyOf Tryd.f11)))))))) g11_taliklaw06_StoreRuns_k3_L false :=
  cutT_valid (ev := jnT Tryd.prog g11_taliklaw06_StoreRuns_C g11_taliklaw06_StoreRuns_k3_J (seqL (seqR (seqR (seqR (seqR (seqR (seqR (bodyOf Tryd.f11))))))))) (jnT_valid mixed g11_taliklaw06_StoreRuns_CV g11_taliklaw06_StoreRuns_k3_JV) (by kernel_rfl) (by kernel_rfl) (by decide) (by decide) (by intro s; kernel_rfl)
noncomputable def g11_taliklaw06_StoreRuns_J : Jn := (.seq (.whole []) (.seq (.whole []) (.seq (.whole []) (.seq (.whole []) (.seq (.seq (.whole []) (.seq (.cut g11_taliklaw06_StoreRuns_k0_L) (.whole []))) (.seq (.seq (.cut g11_taliklaw06_StoreRuns_k1_L) (.cond (.seq (.cut g11_taliklaw06_StoreRuns_k2_L) (.whole [])) (.whole []))) (.seq (.cut g11_taliklaw06_StoreRuns_k3_L) (.whole []))))))))
theorem g11_taliklaw06_StoreRuns_JV : JV 0 Tryd.prog false g11_taliklaw06_StoreRuns_J (bodyOf Tryd.f11) := (jv_seq (by kernel_rfl) jv_nil (jv_seq (by kernel_rfl) jv_nil (jv_seq (by kernel_rfl) jv_nil (jv_seq (by kernel_rfl) jv_nil (jv_seq (by kernel_rfl) (jv_seq (by kernel_rfl) jv_nil (jv_seq (by kernel_rfl) (jv_cut g11_taliklaw06_StoreRuns_k0_V) jv_nil)) (jv_seq (by kernel_rfl) (jv_seq (by kernel_rfl) (jv_cut g11_taliklaw06_StoreRuns_k1_V) (jv_con (by kernel_rfl) (jv_seq (by kernel_rfl) (jv_cut g11_taliklaw06_StoreRuns_k2_V) jv_nil) jv_nil)) (jv_seq (by kernel_rfl) (jv_cut g11_taliklaw06_StoreRuns_k3_V) jv_nil)))))))
theorem g11_taliklaw06_StoreRuns_ent : Ent Tryd.prog 11 := ⟨by decide, enters_of Tryd.func11 (by kernel_rfl) rfl⟩
theorem g11_taliklaw06_StoreRuns_hev : ∀ x, fnE (jnT Tryd.prog g11_taliklaw06_StoreRuns_C g11_taliklaw06_StoreRuns_J (bodyOf Tryd.f11)) Tryd.prog Tryd.f11 (encs [.dat T27, .dat (.int .i64), .dat (.int .i64), .dat (.int .i64)] x) ⟨[], [], 0⟩ (frzF (.dat .bool)) = g11_taliklaw06_StoreRuns x.1 x.2.1 x.2.2.1 x.2.2.2.1 := by
  intro x; kernel_rfl
theorem g11_taliklaw06_StoreRuns_lcall : ∀ x r, (fun x : Els [.dat T27, .dat (.int .i64), .dat (.int .i64), .dat (.int .i64)] => g11_taliklaw06_StoreRuns x.1 x.2.1 x.2.2.1 x.2.2.2.1) x = some r → LCall 0 Tryd.prog 11 (encs [.dat T27, .dat (.int .i64), .dat (.int .i64), .dat (.int .i64)] x) ⟨[], [], 0⟩ (.d .bool r) ⟨[], [], 0⟩ := frz_lcallE (ev := (jnT Tryd.prog g11_taliklaw06_StoreRuns_C g11_taliklaw06_StoreRuns_J (bodyOf Tryd.f11))) (R := .dat .bool) Tryd.func11 rfl g11_taliklaw06_StoreRuns_ent (jnT_valid mixed g11_taliklaw06_StoreRuns_CV g11_taliklaw06_StoreRuns_JV) (by kernel_rfl) (by kernel_rfl) g11_taliklaw06_StoreRuns_hev

end Go.Proofs.YtcijddeommognaaDoor.Abs

/-
  StoreRuns: the plain law.
-/
set_option linter.unusedVariables false
set_option linter.unusedSimpArgs false
set_option maxRecDepth 100000
namespace Go.Proofs.YtcijddeommognaaDoor.Abs
open Classical in
theorem g11_taliklaw06_StoreRuns_true : ∀ x : Els [.dat T27, .dat (.int .i64), .dat (.int .i64), .dat (.int .i64)], wfs [.dat T27, .dat (.int .i64), .dat (.int .i64), .dat (.int .i64)] x → g11_taliklaw06_StoreRuns x.1 x.2.1 x.2.2.1 x.2.2.2.1 = some true := by
  rintro ⟨s, p, i, n, _⟩ ⟨hwf, _⟩
  have wf := wf27 hwf
  show g11_taliklaw06_StoreRuns s p i n = some true
  unfold g11_taliklaw06_StoreRuns
  by_cases h : ShortS s
  · rw [(short15 s).val h]
    simp only [Option.bind_some, Bool.not_true, cond_false, check36 h]
    by_cases hs : OkS s
    · rw [if_pos hs]
      by_cases hg : GoodIn s p i n
      · obtain ⟨_, h1, h2, h3⟩ := hg
        obtain ⟨p, rfl, hp⟩ := okp_nat h1
        obtain ⟨i, rfl, hi⟩ := in_lt h2
        obtain ⟨n, rfl, hn⟩ := in_lt h3
        rw [run21_ok h hs wf hp hi hn]
        simp only [Option.bind_some, (store16 s h).val hs, g11_taliklaw06_StoreRuns_k0_run, cond_true, show ((0 : Int) != 0) = false from rfl, cond_false, Bool.not_true]
        simp only [Option.bind_some, g11_taliklaw06_StoreRuns_k1_run, (store16 s h).val hs, (plan17 s h.n10 _).val h1, (ice18 _ _).val h2, (winter19 _ _).val h3, Bool.not_true, cond_false]
        simp only [Option.bind_some, g11_taliklaw06_StoreRuns_k3_run, run38 hs wf hp hi hn, sameTrace_run hs wf hp hn, known20]
        rfl
      · rw [run21_bad h hg]
        simp only [Option.bind_some, (store16 s h).val hs, g11_taliklaw06_StoreRuns_k0_run, cond_true, show ((0 : Int) != 0) = false from rfl, cond_false, Bool.not_true]
        have key : g11_taliklaw06_StoreRuns_k1_run ((p, (i, (n, (2, ())))), (s, (([], ([], ([], ()))), ()))) = some (0, ((p, (i, (n, (2, (true, ()))))), (s, (([], ([], ([], ()))), ())))) := by
          simp only [g11_taliklaw06_StoreRuns_k1_run, (store16 s h).val hs, Option.bind_some, Bool.not_true, cond_false]
          by_cases h1 : OkP s p
          · rw [(plan17 s h.n10 _).val h1]
            simp only [Option.bind_some, Bool.not_true, cond_false]
            by_cases h2 : In i 0 ((s.2.2.2.2.2.2.1.length : Int) - 1)
            · rw [(ice18 _ _).val h2]
              simp only [Option.bind_some, Bool.not_true, cond_false]
              rw [(winter19 _ _).nval (fun h3 => hg ⟨hs, h1, h2, h3⟩)]
              rfl
            · rw [(ice18 _ _).nval h2]; rfl
          · rw [(plan17 s h.n10 _).nval h1]; rfl
        rw [key]
        simp only [Option.bind_some, cond_true, g11_taliklaw06_StoreRuns_k2_run, known20, sameTrace_refl (([], ([], ([], ()))) : E33) (by decide) (by decide) (by decide)]
        rfl
    · rw [if_neg hs, run21_bad h (fun hg => hs hg.1)]
      simp only [Option.bind_some, (store16 s h).nval hs, g11_taliklaw06_StoreRuns_k0_run, cond_true, cond_false, Bool.not_false, show ((2 : Int) != 2) = false from rfl]
      simp only [Option.bind_some, g11_taliklaw06_StoreRuns_k1_run, (store16 s h).nval hs, Bool.not_false, cond_true, g11_taliklaw06_StoreRuns_k2_run, known20, sameTrace_refl (([], ([], ([], ()))) : E33) (by decide) (by decide) (by decide)]
      rfl
  · rw [(short15 s).nval h]
    simp only [Option.bind_some, Bool.not_false, cond_true, known20]
end Go.Proofs.YtcijddeommognaaDoor.Abs

/-
  talik/taliklaw06.StoreRuns: for every input the law returns true; its arguments read as they did. No condition.
-/
set_option linter.unusedVariables false
set_option maxRecDepth 100000
namespace Go.Proofs.YtcijddeommognaaDoor.Abs.storeRuns
open Go.ChangeShapes Go.WideShapes Go.RowKit
theorem own : ownKnob Tryd.prog.godebug = none := by kernel_rfl
theorem laidOut : laidOutB Tryd.prog = true := by kernel_rfl
theorem gTab : Tryd.prog.globalNamed "internal/strconv.uint64pow10" = some 0 := by kernel_rfl
theorem gTabType : (Tryd.prog.globals[0]?).map (·.type) = some 153 := by kernel_rfl
theorem cellsT : Tryd.prog.cellsOf 153 = 20 := by kernel_rfl
theorem cellsE : Tryd.prog.cellsOf 143 = 1 := by kernel_rfl
theorem undT : Tryd.prog.underlying 153 = some (.array 20 143) := by kernel_rfl
theorem undE : Tryd.prog.underlying 143 = some (.int .u64) := by kernel_rfl
theorem table {W : World} (h : laidMetH Tryd.prog Rows.storeRunsRow.laid W) : Lib.TabIs Tryd.prog W "internal/strconv.uint64pow10" .u64 [1, 10, 100, 1000, 10000, 100000, 1000000, 10000000, 100000000, 1000000000, 10000000000, 100000000000, 1000000000000, 10000000000000, 100000000000000, 1000000000000000, 10000000000000000, 100000000000000000, 1000000000000000000, 10000000000000000000] :=
  Lib.tabIs_of_head (rest := []) gTab gTabType undT undE cellsE cellsT (laidMet.tail (laidMet.tail (h)))
theorem tabOk {W : World} (h : laidMetH Tryd.prog Rows.storeRunsRow.laid W) : ∀ q ∈ TABS, ∃ e fr, W.heap[q.1]? = some (.cells q.2 e fr) := by
  have ht := table h
  unfold Lib.TabIs World.var? at ht
  rw [gTab] at ht
  simp only [Option.bind_some] at ht
  intro q hq
  have hq' : q = (0, _) := List.mem_singleton.1 hq
  subst hq'
  show ∃ e fr, W.heap[0]? = _
  split at ht
  · rename_i cs e fr hc
    exact ⟨e, fr, by rw [hc]; simp only [Option.some.injEq] at ht; rw [ht]; rfl⟩
  · cases ht
noncomputable def laidWorld (os : Os) : World :=
  { World.holding Tryd.prog os ⟨#[], #[], []⟩ with heap := ((((World.holding Tryd.prog os ⟨#[], #[], []⟩).heap.modify 2 fun | .cells _ t frozen => .cells #[.int .u8 0, .int .u8 1, .int .u8 28, .int .u8 2, .int .u8 29, .int .u8 14, .int .u8 24, .int .u8 3, .int .u8 30, .int .u8 22, .int .u8 20, .int .u8 15, .int .u8 25, .int .u8 17, .int .u8 4, .int .u8 8, .int .u8 31, .int .u8 27, .int .u8 13, .int .u8 23, .int .u8 21, .int .u8 19, .int .u8 16, .int .u8 7, .int .u8 26, .int .u8 12, .int .u8 18, .int .u8 6, .int .u8 11, .int .u8 5, .int .u8 10, .int .u8 9] t frozen | o => o).modify 3 fun | .cells _ t frozen => .cells #[.int .u8 0, .int .u8 1, .int .u8 56, .int .u8 2, .int .u8 57, .int .u8 49, .int .u8 28, .int .u8 3, .int .u8 61, .int .u8 58, .int .u8 42, .int .u8 50, .int .u8 38, .int .u8 29, .int .u8 17, .int .u8 4, .int .u8 62, .int .u8 47, .int .u8 59, .int .u8 36, .int .u8 45, .int .u8 43, .int .u8 51, .int .u8 22, .int .u8 53, .int .u8 39, .int .u8 33, .int .u8 30, .int .u8 24, .int .u8 18, .int .u8 12, .int .u8 5, .int .u8 63, .int .u8 55, .int .u8 48, .int .u8 27, .int .u8 60, .int .u8 41, .int .u8 37, .int .u8 16, .int .u8 46, .int .u8 35, .int .u8 44, .int .u8 21, .int .u8 52, .int .u8 32, .int .u8 23, .int .u8 11, .int .u8 54, .int .u8 26, .int .u8 40, .int .u8 15, .int .u8 34, .int .u8 20, .int .u8 31, .int .u8 10, .int .u8 25, .int .u8 14, .int .u8 19, .int .u8 9, .int .u8 13, .int .u8 8, .int .u8 7, .int .u8 6] t frozen | o => o).modify 0 fun | .cells _ t frozen => .cells #[.int .u64 1, .int .u64 10, .int .u64 100, .int .u64 1000, .int .u64 10000, .int .u64 100000, .int .u64 1000000, .int .u64 10000000, .int .u64 100000000, .int .u64 1000000000, .int .u64 10000000000, .int .u64 100000000000, .int .u64 1000000000000, .int .u64 10000000000000, .int .u64 100000000000000, .int .u64 1000000000000000, .int .u64 10000000000000000, .int .u64 100000000000000000, .int .u64 1000000000000000000, .int .u64 10000000000000000000] t frozen | o => o) }
theorem laid_met (os : Os) : laidMet Tryd.prog Rows.storeRunsRow.laid ((laidWorld os).forCall (fun _ _ => 0) ⟨#[], #[(Value.agg #[.int .i64 0, .int .i64 0, .int .i64 0, .int .i64 0, .int .i64 0, .int .i64 0, .int .i64 0, .int .i64 0, .int .i64 0, .slice none 0 0, .slice none 0 0, .slice none 0 0]), (Value.int .i64 0), (Value.int .i64 0), (Value.int .i64 0)], []⟩).memory :=
  laidMet_of_run' 8 (by kernel_rfl) (by kernel_rfl)
theorem reads (os : Os) {H : Type} (enc : TypeId × Value → H) : ∃ places, DataW.whole enc Tryd.prog ((laidWorld os).forCall (fun _ _ => 0) ⟨#[], #[(Value.agg #[.int .i64 0, .int .i64 0, .int .i64 0, .int .i64 0, .int .i64 0, .int .i64 0, .int .i64 0, .int .i64 0, .int .i64 0, .slice none 0 0, .slice none 0 0, .slice none 0 0]), (Value.int .i64 0), (Value.int .i64 0), (Value.int .i64 0)], []⟩).memory Tryd.f11.params.toList Rows.storeRunsSpec.vars false #[(Value.agg #[.int .i64 0, .int .i64 0, .int .i64 0, .int .i64 0, .int .i64 0, .int .i64 0, .int .i64 0, .int .i64 0, .int .i64 0, .slice none 0 0, .slice none 0 0, .slice none 0 0]), (Value.int .i64 0), (Value.int .i64 0), (Value.int .i64 0)].toList 16 = some ([.agg [.agg [.lit (.int .i64 0), .lit (.int .i64 0), .lit (.int .i64 0)], .agg [.lit (.int .i64 0), .lit (.int .i64 0), .lit (.int .i64 0)], .lit (.int .i64 0), .lit (.int .i64 0), .lit (.int .i64 0), .nil, .nil, .nil], .lit (.int .i64 0), .lit (.int .i64 0), .lit (.int .i64 0)], [], places) :=
  ⟨[], by kernel_rfl⟩
theorem spec_fn (H : Type) : (ds : List (DataW H)) → ds.length = Tryd.f11.params.toList.length → (Rows.storeRunsSpec.fn H ds).results = [.lit (.bool true)] ∧ (Rows.storeRunsSpec.fn H ds).args = ds ∧ (Rows.storeRunsSpec.fn H ds).vars = []
  | [], h => by rw [show Tryd.f11.params.toList.length = 4 from by kernel_rfl] at h; simp at h
  | [d0], h => by rw [show Tryd.f11.params.toList.length = 4 from by kernel_rfl] at h; simp at h
  | [d0, d1], h => by rw [show Tryd.f11.params.toList.length = 4 from by kernel_rfl] at h; simp at h
  | [d0, d1, d2], h => by rw [show Tryd.f11.params.toList.length = 4 from by kernel_rfl] at h; simp at h
  | [d0, d1, d2, d3], _ => ⟨rfl, rfl, rfl⟩
  | d0 :: d1 :: d2 :: d3 :: _ :: _, h => by rw [show Tryd.f11.params.toList.length = 4 from by kernel_rfl] at h; simp at h
theorem contract (H : Type) (enc : TypeId × Value → H) (W : World) (base : Nat) (args : Array Value) (ds gs : List (DataW H)) (before : List MemPlace)
    (hval : ∀ (j : Nat) t v, Tryd.f11.params[j]? = some t → args[j]? = some v → Value.okWide Tryd.prog W .any base t v)
    (hW : DataW.Whole enc Tryd.prog Tryd.f11.params.toList Rows.storeRunsSpec.vars false W args.toList ds gs before) (hL : laidMetH Tryd.prog Rows.storeRunsRow.laid W) :
    Calls Tryd.prog 11 args W fun e W' => ∃ v, e = .returned v ∧ Rows.storeRunsSpec.post enc Tryd.prog Tryd.f11 false true false false W args v W' :=
  law_contract (n := 20) (fun x r h => g11_taliklaw06_StoreRuns_lcall x r h) (fun x hx => g11_taliklaw06_StoreRuns_true x hx) (by decide) (show Tryd.f11.resultTypes = #[4] by kernel_rfl) (by kernel_rfl) (by kernel_rfl) laidOut (by
    intro t ht
    have : (Tryd.f11.params.toList.all fun t => Tryd.prog.readableRec t && decide (t < Tryd.prog.types.size)) = true := by kernel_rfl
    have := List.all_eq_true.1 this t ht
    simpa using this) rfl spec_fn hval hW (tabOk hL)
theorem lifted (os : Os) (started : os.Started) (H : Type) (enc : TypeId × Value → H) (F : Stop.Interp) :
    ReturnsInHanded {} Tryd.checked os 11 .any ((OpenSpec.ofChange Rows.storeRunsSpec).preRow enc Tryd.prog Tryd.f11 Rows.storeRunsRow.domain false Rows.storeRunsRow.laid) (((OpenSpec.ofChange Rows.storeRunsSpec).at F).post enc Tryd.prog Tryd.f11 false true false false) := by
  obtain ⟨places, hx⟩ := reads os enc
  refine returnsInHanded_of_row (C := Tryd.checked) (s := OpenSpec.ofChange Rows.storeRunsSpec) own started (by kernel_rfl) Tryd.func11
    (witness_row_at (enc := enc) (C := Tryd.checked) false (laidWorld os) #[(Value.agg #[.int .i64 0, .int .i64 0, .int .i64 0, .int .i64 0, .int .i64 0, .int .i64 0, .int .i64 0, .int .i64 0, .int .i64 0, .slice none 0 0, .slice none 0 0, .slice none 0 0]), (Value.int .i64 0), (Value.int .i64 0), (Value.int .i64 0)] rfl (by kernel_rfl) (by kernel_rfl) (by kernel_rfl)
      (OpenSpec.preRow_of_cond 16 hx (by kernel_rfl) (fun k hk => by cases hk) (by kernel_rfl) (laid_met os))) ?_
  intro W base args ds gs before hval hW _ _ _ hL _ _
  exact contract H enc W base args ds gs before hval hW hL
theorem said : Rows.StoreRunsSaid :=
  OpenClaim.holds_of_cond 11 Tryd.f11 rfl rfl rfl rfl rfl rfl rfl ⟨rfl, rfl, rfl, rfl, rfl⟩ rfl rfl rfl rfl rfl (by kernel_rfl) Tryd.func11 (by kernel_rfl)
    (of_decide_eq_true (by kernel_rfl)) (by unfold Func.isWrapper; first | (rw [if_pos (by decide +kernel)]; kernel_rfl) | (rw [if_neg (by decide +kernel)]; exact ⟨rfl, rfl⟩))
    (fun os started H enc _ F => by rw [OpenClaim.pre_eq_preRow]; exact lifted os started H enc F)
theorem plain (f : FuncId) (fn : Func) (hf : Tryd.pinned.checked.prog.funcNamed "talik/taliklaw06.StoreRuns" = some f) (hfn : Tryd.pinned.checked.prog.funcs[f]? = some fn) :
    true = Tryd.pinned.checked.prog.looks [] ∧ ∀ (j : Nat) t, fn.params[j]? = some t → Tryd.pinned.checked.prog.wantsStandIn t = false := by
  obtain rfl : f = 11 := Option.some.inj ((show Tryd.prog.funcNamed "talik/taliklaw06.StoreRuns" = some 11 by kernel_rfl).symm.trans hf) |>.symm
  obtain rfl : fn = Tryd.f11 := (Option.some.inj (Tryd.func11.symm.trans hfn)).symm
  refine ⟨by kernel_rfl, fun j t ht => ?_⟩
  have h : (Tryd.f11.params.toList.all fun t => !Tryd.prog.wantsStandIn t) = true := by kernel_rfl
  have := List.all_eq_true.1 h t (by rw [← Array.getElem?_toList] at ht; exact List.mem_of_getElem? ht)
  exact (show Tryd.prog.wantsStandIn t = false by simpa using this)
theorem card : Rows.StoreRunsCardSaid :=
  Claim7.holds_tied_plain_at .later [] _ _ _ _ said (fun _ h => by cases h) (by kernel_rfl) (fun _ h => by cases h) storeRuns_row_tie rfl ⟨rfl, rfl⟩ (by kernel_rfl) rfl plain (by kernel_rfl)
end Go.Proofs.YtcijddeommognaaDoor.Abs.storeRuns
namespace Go.Proofs.YtcijddeommognaaDoor
theorem storeRuns_card : Rows.StoreRunsCardSaid := Abs.storeRuns.card
end Go.Proofs.YtcijddeommognaaDoor
