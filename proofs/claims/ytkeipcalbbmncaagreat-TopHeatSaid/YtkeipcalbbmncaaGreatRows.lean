/-
  No cell of these rows narrows 'for every input' (looked for: loops, veiled, ifaces, maps, wideKeys, modest, calm, conditions, laid).
  DERIVED. THE GIVEN ROWS OF THIS SEAT. 5 by the template 'for every input the law returns true; each argument reads behind the call as it read before'; 0 by the template 'total and deterministic' (their statements: YtkeipcalbbmncaaGreatTotals.lean).
  GIVEN WITH THE SEED: the statements are not yours to turn. If you find one false, say at which input.
  Laid BY PROGRAM, IN A SANDBOX (cutbox-rows.mjs): the forced cells as the released guide's own fill.sh prints them over the translation 41f066b4889e4ec4… (all of the seat's roots in one cut). By AI agents, Wed Nov 11 2026. No macro, syntax, notation, axiom, sorry.
-/
import Derived.Test.YtkeipcalbbmncaaGreatChecked
import GoSem.Claim
import GoSem.ClaimJoined
import GoSem.ClaimMapViews
import Derived.JoinedTies
import Derived.KernelRfl
namespace Go.Proofs.YtkeipcalbbmncaaGreat
/- THE CELL 'sum', in the pinned program and in every row, IS THE sha256 OF THE DUMP (.gsa) THAT YtkeipcalbbmncaaGreatProg.lean LOADS. Nothing in Lean hashes anything: it is a label: what it is worth is what the hold of that sum in a sandbox is worth. -/
noncomputable def Tryz.pinned : Pinned := { name := "ytkeipcalbbmncaagreat", sum := "41f066b4889e4ec4bb77506d64d719cbafe7f9611bb03671e9bd02addf94ef88", checked := Tryz.checked }
namespace Rows
def none {H : Type} : Left H := { results := [], args := [] }

/-- 'taliktop.TopMelted': WHATEVER THE INPUT: true; the input reads as it did. -/
def topMeltedSpec : ChangeSpec := { name := "topMelted", fn := fun _ => fun
  | [d1, d2, d3] => { results := [.lit (.bool true)], args := [d1, d2, d3] }
  | _ => none }
def topMeltedRow : OpenClaim := { program := "ytkeipcalbbmncaagreat", sum := "41f066b4889e4ec4bb77506d64d719cbafe7f9611bb03671e9bd02addf94ef88", func := "talik/taliktop.TopMelted", spec := "topMelted", unfollowed := true, recurses := true, plainKeys := false, apart := false }
def TopMeltedSaid : Prop := topMeltedRow.holds Tryz.pinned (OpenSpec.ofChange topMeltedSpec)

/-- ITS FALSE NEIGHBOUR: 'it returns false'. Refute it at one input. -/
def topMeltedWrong : ChangeSpec := { name := "topMelted", fn := fun _ => fun
  | [d1, d2, d3] => { results := [.lit (.bool false)], args := [d1, d2, d3] }
  | _ => none }
def TopMeltedWrongFalsely : Prop := topMeltedRow.holds Tryz.pinned (OpenSpec.ofChange topMeltedWrong)

/-- 'taliktop.TopKept': WHATEVER THE INPUT: true; the input reads as it did. -/
def topKeptSpec : ChangeSpec := { name := "topKept", fn := fun _ => fun
  | [d1, d2] => { results := [.lit (.bool true)], args := [d1, d2] }
  | _ => none }
def topKeptRow : OpenClaim := { program := "ytkeipcalbbmncaagreat", sum := "41f066b4889e4ec4bb77506d64d719cbafe7f9611bb03671e9bd02addf94ef88", func := "talik/taliktop.TopKept", spec := "topKept", unfollowed := true, recurses := true, plainKeys := false, apart := false }
def TopKeptSaid : Prop := topKeptRow.holds Tryz.pinned (OpenSpec.ofChange topKeptSpec)

/-- ITS FALSE NEIGHBOUR: 'it returns false'. Refute it at one input. -/
def topKeptWrong : ChangeSpec := { name := "topKept", fn := fun _ => fun
  | [d1, d2] => { results := [.lit (.bool false)], args := [d1, d2] }
  | _ => none }
def TopKeptWrongFalsely : Prop := topKeptRow.holds Tryz.pinned (OpenSpec.ofChange topKeptWrong)

/-- 'taliktop.TopRead': WHATEVER THE INPUT: true; the input reads as it did. -/
def topReadSpec : ChangeSpec := { name := "topRead", fn := fun _ => fun
  | [d1, d2, d3, d4, d5] => { results := [.lit (.bool true)], args := [d1, d2, d3, d4, d5] }
  | _ => none }
def topReadRow : OpenClaim := { program := "ytkeipcalbbmncaagreat", sum := "41f066b4889e4ec4bb77506d64d719cbafe7f9611bb03671e9bd02addf94ef88", func := "talik/taliktop.TopRead", spec := "topRead", unfollowed := true, recurses := true, plainKeys := false, apart := false }
def TopReadSaid : Prop := topReadRow.holds Tryz.pinned (OpenSpec.ofChange topReadSpec)

/-- ITS FALSE NEIGHBOUR: 'it returns false'. Refute it at one input. -/
def topReadWrong : ChangeSpec := { name := "topRead", fn := fun _ => fun
  | [d1, d2, d3, d4, d5] => { results := [.lit (.bool false)], args := [d1, d2, d3, d4, d5] }
  | _ => none }
def TopReadWrongFalsely : Prop := topReadRow.holds Tryz.pinned (OpenSpec.ofChange topReadWrong)

/-- 'taliktop.TopHeat': WHATEVER THE INPUT: true; the input reads as it did. -/
def topHeatSpec : ChangeSpec := { name := "topHeat", fn := fun _ => fun
  | [d1, d2, d3, d4, d5, d6, d7] => { results := [.lit (.bool true)], args := [d1, d2, d3, d4, d5, d6, d7] }
  | _ => none }
def topHeatRow : OpenClaim := { program := "ytkeipcalbbmncaagreat", sum := "41f066b4889e4ec4bb77506d64d719cbafe7f9611bb03671e9bd02addf94ef88", func := "talik/taliktop.TopHeat", spec := "topHeat", unfollowed := true, recurses := true, plainKeys := false, apart := false }
def TopHeatSaid : Prop := topHeatRow.holds Tryz.pinned (OpenSpec.ofChange topHeatSpec)

/-- ITS FALSE NEIGHBOUR: 'it returns false'. Refute it at one input. -/
def topHeatWrong : ChangeSpec := { name := "topHeat", fn := fun _ => fun
  | [d1, d2, d3, d4, d5, d6, d7] => { results := [.lit (.bool false)], args := [d1, d2, d3, d4, d5, d6, d7] }
  | _ => none }
def TopHeatWrongFalsely : Prop := topHeatRow.holds Tryz.pinned (OpenSpec.ofChange topHeatWrong)

/-- 'taliktop.TopSeeped': WHATEVER THE INPUT: true; the input reads as it did. -/
def topSeepedSpec : ChangeSpec := { name := "topSeeped", fn := fun _ => fun
  | [d1, d2, d3, d4, d5] => { results := [.lit (.bool true)], args := [d1, d2, d3, d4, d5] }
  | _ => none }
def topSeepedRow : OpenClaim := { program := "ytkeipcalbbmncaagreat", sum := "41f066b4889e4ec4bb77506d64d719cbafe7f9611bb03671e9bd02addf94ef88", func := "talik/taliktop.TopSeeped", spec := "topSeeped", unfollowed := true, recurses := true, plainKeys := false, apart := false }
def TopSeepedSaid : Prop := topSeepedRow.holds Tryz.pinned (OpenSpec.ofChange topSeepedSpec)

/-- ITS FALSE NEIGHBOUR: 'it returns false'. Refute it at one input. -/
def topSeepedWrong : ChangeSpec := { name := "topSeeped", fn := fun _ => fun
  | [d1, d2, d3, d4, d5] => { results := [.lit (.bool false)], args := [d1, d2, d3, d4, d5] }
  | _ => none }
def TopSeepedWrongFalsely : Prop := topSeepedRow.holds Tryz.pinned (OpenSpec.ofChange topSeepedWrong)

/- THE SECOND FORM. 'bulk': how many values and letters a reading holds, each counted each time it is reached (what is shared counts as often as it is met; a slice's spare places count too). A statement '..UptoSaid' is the law's where the arguments, and the package variables that the reading takes, are together of bulk at most 1048576: NARROWER than '..Said'. Prove '..Said' where nothing that the law and all that it calls make is longer than what came in: it says more and counts as full. Else prove '..UptoSaid'. A law counts once. -/
mutual
def uptoBulk {H : Type} : DataW H → Nat
  | .lit (.string bytes) => bytes.length + 1
  | .lit _ => 1
  | .nil => 1
  | .ptr d => uptoBulk d + 1
  | .slice elems spare => uptoBulkAll elems + uptoBulkAll spare + 1
  | .agg parts => uptoBulkAll parts + 1
  | .iface _ d => uptoBulk d + 1
  | .map entries => uptoBulkEntries entries + 1
  | .held _ => 1
def uptoBulkAll {H : Type} : List (DataW H) → Nat
  | [] => 0
  | d :: r => uptoBulk d + uptoBulkAll r
def uptoBulkEntries {H : Type} : List (Lit × DataW H) → Nat
  | [] => 0
  | x :: r => uptoBulkEntry x + uptoBulkEntries r
def uptoBulkEntry {H : Type} : Lit × DataW H → Nat
  | (.string bytes, d) => bytes.length + uptoBulk d + 1
  | (_, d) => uptoBulk d + 1
 end
def uptoSmall : (H : Type) → List (DataW H) → Bool := fun _ ds => decide (uptoBulkAll ds ≤ 1048576)
def OpenSpec.upto (s : _root_.Go.ChangeSpec) : _root_.Go.OpenSpec := { _root_.Go.OpenSpec.ofChange s with cond := some uptoSmall }

/-- 'taliktop.TopMelted', WHERE WHAT IT READS IS OF BULK AT MOST 1048576: true; the input reads as it did. -/
def topMeltedUptoRow : OpenClaim := { program := "ytkeipcalbbmncaagreat", sum := "41f066b4889e4ec4bb77506d64d719cbafe7f9611bb03671e9bd02addf94ef88", func := "talik/taliktop.TopMelted", spec := "topMelted", unfollowed := true, recurses := true, plainKeys := false, apart := false, narrowed := true }
def TopMeltedUptoSaid : Prop := topMeltedUptoRow.holds Tryz.pinned (OpenSpec.upto topMeltedSpec)

/-- 'taliktop.TopKept', WHERE WHAT IT READS IS OF BULK AT MOST 1048576: true; the input reads as it did. -/
def topKeptUptoRow : OpenClaim := { program := "ytkeipcalbbmncaagreat", sum := "41f066b4889e4ec4bb77506d64d719cbafe7f9611bb03671e9bd02addf94ef88", func := "talik/taliktop.TopKept", spec := "topKept", unfollowed := true, recurses := true, plainKeys := false, apart := false, narrowed := true }
def TopKeptUptoSaid : Prop := topKeptUptoRow.holds Tryz.pinned (OpenSpec.upto topKeptSpec)

/-- 'taliktop.TopRead', WHERE WHAT IT READS IS OF BULK AT MOST 1048576: true; the input reads as it did. -/
def topReadUptoRow : OpenClaim := { program := "ytkeipcalbbmncaagreat", sum := "41f066b4889e4ec4bb77506d64d719cbafe7f9611bb03671e9bd02addf94ef88", func := "talik/taliktop.TopRead", spec := "topRead", unfollowed := true, recurses := true, plainKeys := false, apart := false, narrowed := true }
def TopReadUptoSaid : Prop := topReadUptoRow.holds Tryz.pinned (OpenSpec.upto topReadSpec)

/-- 'taliktop.TopHeat', WHERE WHAT IT READS IS OF BULK AT MOST 1048576: true; the input reads as it did. -/
def topHeatUptoRow : OpenClaim := { program := "ytkeipcalbbmncaagreat", sum := "41f066b4889e4ec4bb77506d64d719cbafe7f9611bb03671e9bd02addf94ef88", func := "talik/taliktop.TopHeat", spec := "topHeat", unfollowed := true, recurses := true, plainKeys := false, apart := false, narrowed := true }
def TopHeatUptoSaid : Prop := topHeatUptoRow.holds Tryz.pinned (OpenSpec.upto topHeatSpec)

/-- 'taliktop.TopSeeped', WHERE WHAT IT READS IS OF BULK AT MOST 1048576: true; the input reads as it did. -/
def topSeepedUptoRow : OpenClaim := { program := "ytkeipcalbbmncaagreat", sum := "41f066b4889e4ec4bb77506d64d719cbafe7f9611bb03671e9bd02addf94ef88", func := "talik/taliktop.TopSeeped", spec := "topSeeped", unfollowed := true, recurses := true, plainKeys := false, apart := false, narrowed := true }
def TopSeepedUptoSaid : Prop := topSeepedUptoRow.holds Tryz.pinned (OpenSpec.upto topSeepedSpec)

end Rows
end Go.Proofs.YtkeipcalbbmncaaGreat
