/-
  NARROWER THAN 'FOR EVERY INPUT', by the rows' own cells (each row's printed sentence says how): SenseExplains: laid · SenseTrue: laid · SenseLeasts: laid · SenseRivals: laid · SenseKnown: laid · SenseMore: laid · SenseShown: laid · SenseAgrees: laid.
  DERIVED. THE GIVEN ROWS OF THIS SEAT. 8 by the template 'for every input the law returns true; each argument reads behind the call as it read before'; 0 by the template 'total and deterministic' (their statements: YtibmgbalfhfcdaaDoorTotals.lean).
  GIVEN WITH THE SEED: the statements are not yours to turn. If you find one false, say at which input.
  Laid BY PROGRAM, IN A SANDBOX (cutbox-rows.mjs): the forced cells as the released guide's own fill.sh prints them over the translation 542713afe83ae06e… (all of the seat's roots in one cut). By AI agents, Wed Nov 11 2026. No macro, syntax, notation, axiom, sorry.
-/
import Derived.Test.YtibmgbalfhfcdaaDoorChecked
import GoSem.Claim
import GoSem.ClaimJoined
import GoSem.ClaimMapViews
import Derived.JoinedTies
import Derived.KernelRfl
namespace Go.Proofs.YtibmgbalfhfcdaaDoor
/- THE CELL 'sum', in the pinned program and in every row, IS THE sha256 OF THE DUMP (.gsa) THAT YtibmgbalfhfcdaaDoorProg.lean LOADS. Nothing in Lean hashes anything: it is a label: what it is worth is what the hold of that sum in a sandbox is worth. -/
noncomputable def Tryd.pinned : Pinned := { name := "ytibmgbalfhfcdaadoor", sum := "542713afe83ae06e0361540c88ab881cb45e03b7f2920430921f650c4f7ca3ae", checked := Tryd.checked }
namespace Rows
def none {H : Type} : Left H := { results := [], args := [] }

/- WHAT THE LISTED PACKAGE-LEVEL VARIABLES READ AS WHEN THE CALL BEGINS. Each datum BY PROGRAM (the guide's laid-datum.mjs) off the statement by which the dump's own 'gosem.cut.vars' lays the variable. In a bare row this is a premise. The card (YtibmgbalfhfcdaaDoorCards.lean) ties it to the program's text. -/
def laid_math_bits_deBruijn32tab {H : Type} : DataW H := .agg [.lit (.int .u8 0), .lit (.int .u8 1), .lit (.int .u8 28), .lit (.int .u8 2), .lit (.int .u8 29), .lit (.int .u8 14), .lit (.int .u8 24), .lit (.int .u8 3), .lit (.int .u8 30), .lit (.int .u8 22), .lit (.int .u8 20), .lit (.int .u8 15), .lit (.int .u8 25), .lit (.int .u8 17), .lit (.int .u8 4), .lit (.int .u8 8), .lit (.int .u8 31), .lit (.int .u8 27), .lit (.int .u8 13), .lit (.int .u8 23), .lit (.int .u8 21), .lit (.int .u8 19), .lit (.int .u8 16), .lit (.int .u8 7), .lit (.int .u8 26), .lit (.int .u8 12), .lit (.int .u8 18), .lit (.int .u8 6), .lit (.int .u8 11), .lit (.int .u8 5), .lit (.int .u8 10), .lit (.int .u8 9)]
def laid_math_bits_deBruijn64tab {H : Type} : DataW H := .agg [.lit (.int .u8 0), .lit (.int .u8 1), .lit (.int .u8 56), .lit (.int .u8 2), .lit (.int .u8 57), .lit (.int .u8 49), .lit (.int .u8 28), .lit (.int .u8 3), .lit (.int .u8 61), .lit (.int .u8 58), .lit (.int .u8 42), .lit (.int .u8 50), .lit (.int .u8 38), .lit (.int .u8 29), .lit (.int .u8 17), .lit (.int .u8 4), .lit (.int .u8 62), .lit (.int .u8 47), .lit (.int .u8 59), .lit (.int .u8 36), .lit (.int .u8 45), .lit (.int .u8 43), .lit (.int .u8 51), .lit (.int .u8 22), .lit (.int .u8 53), .lit (.int .u8 39), .lit (.int .u8 33), .lit (.int .u8 30), .lit (.int .u8 24), .lit (.int .u8 18), .lit (.int .u8 12), .lit (.int .u8 5), .lit (.int .u8 63), .lit (.int .u8 55), .lit (.int .u8 48), .lit (.int .u8 27), .lit (.int .u8 60), .lit (.int .u8 41), .lit (.int .u8 37), .lit (.int .u8 16), .lit (.int .u8 46), .lit (.int .u8 35), .lit (.int .u8 44), .lit (.int .u8 21), .lit (.int .u8 52), .lit (.int .u8 32), .lit (.int .u8 23), .lit (.int .u8 11), .lit (.int .u8 54), .lit (.int .u8 26), .lit (.int .u8 40), .lit (.int .u8 15), .lit (.int .u8 34), .lit (.int .u8 20), .lit (.int .u8 31), .lit (.int .u8 10), .lit (.int .u8 25), .lit (.int .u8 14), .lit (.int .u8 19), .lit (.int .u8 9), .lit (.int .u8 13), .lit (.int .u8 8), .lit (.int .u8 7), .lit (.int .u8 6)]
def laid_internal_strconv_uint64pow10 {H : Type} : DataW H := .agg [.lit (.int .u64 1), .lit (.int .u64 10), .lit (.int .u64 100), .lit (.int .u64 1000), .lit (.int .u64 10000), .lit (.int .u64 100000), .lit (.int .u64 1000000), .lit (.int .u64 10000000), .lit (.int .u64 100000000), .lit (.int .u64 1000000000), .lit (.int .u64 10000000000), .lit (.int .u64 100000000000), .lit (.int .u64 1000000000000), .lit (.int .u64 10000000000000), .lit (.int .u64 100000000000000), .lit (.int .u64 1000000000000000), .lit (.int .u64 10000000000000000), .lit (.int .u64 100000000000000000), .lit (.int .u64 1000000000000000000), .lit (.int .u64 10000000000000000000)]

/-- 'taliklaw05.SenseExplains': WHATEVER THE INPUT: true; the input reads as it did. -/
def senseExplainsSpec : ChangeSpec := { name := "senseExplains", fn := fun _ => fun
  | [d1, d2, d3] => { results := [.lit (.bool true)], args := [d1, d2, d3] }
  | _ => none }
def senseExplainsRow : OpenClaim := { program := "ytibmgbalfhfcdaadoor", sum := "542713afe83ae06e0361540c88ab881cb45e03b7f2920430921f650c4f7ca3ae", func := "talik/taliklaw05.SenseExplains", spec := "senseExplains", inPlace := ["internal/abi.NoEscape", "internal/bytealg.MakeNoZero"], unfollowed := true, recurses := true, named := ["internal/strconv.uint64pow10", "math/bits.deBruijn32tab", "math/bits.deBruijn64tab"], plainKeys := false, apart := false, laid := [("math/bits.deBruijn32tab", laid_math_bits_deBruijn32tab), ("math/bits.deBruijn64tab", laid_math_bits_deBruijn64tab), ("internal/strconv.uint64pow10", laid_internal_strconv_uint64pow10)] }
def SenseExplainsSaid : Prop := senseExplainsRow.holds Tryd.pinned (OpenSpec.ofChange senseExplainsSpec)

/-- ITS FALSE NEIGHBOUR: 'it returns false'. Refute it at one input. -/
def senseExplainsWrong : ChangeSpec := { name := "senseExplains", fn := fun _ => fun
  | [d1, d2, d3] => { results := [.lit (.bool false)], args := [d1, d2, d3] }
  | _ => none }
def SenseExplainsWrongFalsely : Prop := senseExplainsRow.holds Tryd.pinned (OpenSpec.ofChange senseExplainsWrong)

/-- 'taliklaw05.SenseTrue': WHATEVER THE INPUT: true; the input reads as it did. -/
def senseTrueSpec : ChangeSpec := { name := "senseTrue", fn := fun _ => fun
  | [d1, d2, d3, d4, d5] => { results := [.lit (.bool true)], args := [d1, d2, d3, d4, d5] }
  | _ => none }
def senseTrueRow : OpenClaim := { program := "ytibmgbalfhfcdaadoor", sum := "542713afe83ae06e0361540c88ab881cb45e03b7f2920430921f650c4f7ca3ae", func := "talik/taliklaw05.SenseTrue", spec := "senseTrue", inPlace := ["internal/abi.NoEscape", "internal/bytealg.MakeNoZero"], unfollowed := true, recurses := true, named := ["internal/strconv.uint64pow10", "math/bits.deBruijn32tab", "math/bits.deBruijn64tab"], plainKeys := false, apart := false, laid := [("math/bits.deBruijn32tab", laid_math_bits_deBruijn32tab), ("math/bits.deBruijn64tab", laid_math_bits_deBruijn64tab), ("internal/strconv.uint64pow10", laid_internal_strconv_uint64pow10)] }
def SenseTrueSaid : Prop := senseTrueRow.holds Tryd.pinned (OpenSpec.ofChange senseTrueSpec)

/-- ITS FALSE NEIGHBOUR: 'it returns false'. Refute it at one input. -/
def senseTrueWrong : ChangeSpec := { name := "senseTrue", fn := fun _ => fun
  | [d1, d2, d3, d4, d5] => { results := [.lit (.bool false)], args := [d1, d2, d3, d4, d5] }
  | _ => none }
def SenseTrueWrongFalsely : Prop := senseTrueRow.holds Tryd.pinned (OpenSpec.ofChange senseTrueWrong)

/-- 'taliklaw05.SenseLeasts': WHATEVER THE INPUT: true; the input reads as it did. -/
def senseLeastsSpec : ChangeSpec := { name := "senseLeasts", fn := fun _ => fun
  | [d1, d2] => { results := [.lit (.bool true)], args := [d1, d2] }
  | _ => none }
def senseLeastsRow : OpenClaim := { program := "ytibmgbalfhfcdaadoor", sum := "542713afe83ae06e0361540c88ab881cb45e03b7f2920430921f650c4f7ca3ae", func := "talik/taliklaw05.SenseLeasts", spec := "senseLeasts", inPlace := ["internal/abi.NoEscape", "internal/bytealg.MakeNoZero"], unfollowed := true, recurses := true, named := ["internal/strconv.uint64pow10", "math/bits.deBruijn32tab", "math/bits.deBruijn64tab"], plainKeys := false, apart := false, laid := [("math/bits.deBruijn32tab", laid_math_bits_deBruijn32tab), ("math/bits.deBruijn64tab", laid_math_bits_deBruijn64tab), ("internal/strconv.uint64pow10", laid_internal_strconv_uint64pow10)] }
def SenseLeastsSaid : Prop := senseLeastsRow.holds Tryd.pinned (OpenSpec.ofChange senseLeastsSpec)

/-- ITS FALSE NEIGHBOUR: 'it returns false'. Refute it at one input. -/
def senseLeastsWrong : ChangeSpec := { name := "senseLeasts", fn := fun _ => fun
  | [d1, d2] => { results := [.lit (.bool false)], args := [d1, d2] }
  | _ => none }
def SenseLeastsWrongFalsely : Prop := senseLeastsRow.holds Tryd.pinned (OpenSpec.ofChange senseLeastsWrong)

/-- 'taliklaw05.SenseRivals': WHATEVER THE INPUT: true; the input reads as it did. -/
def senseRivalsSpec : ChangeSpec := { name := "senseRivals", fn := fun _ => fun
  | [d1, d2, d3] => { results := [.lit (.bool true)], args := [d1, d2, d3] }
  | _ => none }
def senseRivalsRow : OpenClaim := { program := "ytibmgbalfhfcdaadoor", sum := "542713afe83ae06e0361540c88ab881cb45e03b7f2920430921f650c4f7ca3ae", func := "talik/taliklaw05.SenseRivals", spec := "senseRivals", inPlace := ["internal/abi.NoEscape", "internal/bytealg.MakeNoZero"], unfollowed := true, recurses := true, named := ["internal/strconv.uint64pow10", "math/bits.deBruijn32tab", "math/bits.deBruijn64tab"], plainKeys := false, apart := false, laid := [("math/bits.deBruijn32tab", laid_math_bits_deBruijn32tab), ("math/bits.deBruijn64tab", laid_math_bits_deBruijn64tab), ("internal/strconv.uint64pow10", laid_internal_strconv_uint64pow10)] }
def SenseRivalsSaid : Prop := senseRivalsRow.holds Tryd.pinned (OpenSpec.ofChange senseRivalsSpec)

/-- ITS FALSE NEIGHBOUR: 'it returns false'. Refute it at one input. -/
def senseRivalsWrong : ChangeSpec := { name := "senseRivals", fn := fun _ => fun
  | [d1, d2, d3] => { results := [.lit (.bool false)], args := [d1, d2, d3] }
  | _ => none }
def SenseRivalsWrongFalsely : Prop := senseRivalsRow.holds Tryd.pinned (OpenSpec.ofChange senseRivalsWrong)

/-- 'taliklaw05.SenseKnown': WHATEVER THE INPUT: true; the input reads as it did. -/
def senseKnownSpec : ChangeSpec := { name := "senseKnown", fn := fun _ => fun
  | [d1, d2, d3, d4, d5] => { results := [.lit (.bool true)], args := [d1, d2, d3, d4, d5] }
  | _ => none }
def senseKnownRow : OpenClaim := { program := "ytibmgbalfhfcdaadoor", sum := "542713afe83ae06e0361540c88ab881cb45e03b7f2920430921f650c4f7ca3ae", func := "talik/taliklaw05.SenseKnown", spec := "senseKnown", inPlace := ["internal/abi.NoEscape", "internal/bytealg.MakeNoZero"], unfollowed := true, recurses := true, named := ["internal/strconv.uint64pow10", "math/bits.deBruijn32tab", "math/bits.deBruijn64tab"], plainKeys := false, apart := false, laid := [("math/bits.deBruijn32tab", laid_math_bits_deBruijn32tab), ("math/bits.deBruijn64tab", laid_math_bits_deBruijn64tab), ("internal/strconv.uint64pow10", laid_internal_strconv_uint64pow10)] }
def SenseKnownSaid : Prop := senseKnownRow.holds Tryd.pinned (OpenSpec.ofChange senseKnownSpec)

/-- ITS FALSE NEIGHBOUR: 'it returns false'. Refute it at one input. -/
def senseKnownWrong : ChangeSpec := { name := "senseKnown", fn := fun _ => fun
  | [d1, d2, d3, d4, d5] => { results := [.lit (.bool false)], args := [d1, d2, d3, d4, d5] }
  | _ => none }
def SenseKnownWrongFalsely : Prop := senseKnownRow.holds Tryd.pinned (OpenSpec.ofChange senseKnownWrong)

/-- 'taliklaw05.SenseMore': WHATEVER THE INPUT: true; the input reads as it did. -/
def senseMoreSpec : ChangeSpec := { name := "senseMore", fn := fun _ => fun
  | [d1, d2, d3, d4, d5, d6, d7] => { results := [.lit (.bool true)], args := [d1, d2, d3, d4, d5, d6, d7] }
  | _ => none }
def senseMoreRow : OpenClaim := { program := "ytibmgbalfhfcdaadoor", sum := "542713afe83ae06e0361540c88ab881cb45e03b7f2920430921f650c4f7ca3ae", func := "talik/taliklaw05.SenseMore", spec := "senseMore", inPlace := ["internal/abi.NoEscape", "internal/bytealg.MakeNoZero"], unfollowed := true, recurses := true, named := ["internal/strconv.uint64pow10", "math/bits.deBruijn32tab", "math/bits.deBruijn64tab"], plainKeys := false, apart := false, laid := [("math/bits.deBruijn32tab", laid_math_bits_deBruijn32tab), ("math/bits.deBruijn64tab", laid_math_bits_deBruijn64tab), ("internal/strconv.uint64pow10", laid_internal_strconv_uint64pow10)] }
def SenseMoreSaid : Prop := senseMoreRow.holds Tryd.pinned (OpenSpec.ofChange senseMoreSpec)

/-- ITS FALSE NEIGHBOUR: 'it returns false'. Refute it at one input. -/
def senseMoreWrong : ChangeSpec := { name := "senseMore", fn := fun _ => fun
  | [d1, d2, d3, d4, d5, d6, d7] => { results := [.lit (.bool false)], args := [d1, d2, d3, d4, d5, d6, d7] }
  | _ => none }
def SenseMoreWrongFalsely : Prop := senseMoreRow.holds Tryd.pinned (OpenSpec.ofChange senseMoreWrong)

/-- 'taliklaw05.SenseShown': WHATEVER THE INPUT: true; the input reads as it did. -/
def senseShownSpec : ChangeSpec := { name := "senseShown", fn := fun _ => fun
  | [d1, d2, d3, d4] => { results := [.lit (.bool true)], args := [d1, d2, d3, d4] }
  | _ => none }
def senseShownRow : OpenClaim := { program := "ytibmgbalfhfcdaadoor", sum := "542713afe83ae06e0361540c88ab881cb45e03b7f2920430921f650c4f7ca3ae", func := "talik/taliklaw05.SenseShown", spec := "senseShown", inPlace := ["internal/abi.NoEscape", "internal/bytealg.MakeNoZero"], unfollowed := true, recurses := true, named := ["internal/strconv.uint64pow10", "math/bits.deBruijn32tab", "math/bits.deBruijn64tab"], plainKeys := false, apart := false, laid := [("math/bits.deBruijn32tab", laid_math_bits_deBruijn32tab), ("math/bits.deBruijn64tab", laid_math_bits_deBruijn64tab), ("internal/strconv.uint64pow10", laid_internal_strconv_uint64pow10)] }
def SenseShownSaid : Prop := senseShownRow.holds Tryd.pinned (OpenSpec.ofChange senseShownSpec)

/-- ITS FALSE NEIGHBOUR: 'it returns false'. Refute it at one input. -/
def senseShownWrong : ChangeSpec := { name := "senseShown", fn := fun _ => fun
  | [d1, d2, d3, d4] => { results := [.lit (.bool false)], args := [d1, d2, d3, d4] }
  | _ => none }
def SenseShownWrongFalsely : Prop := senseShownRow.holds Tryd.pinned (OpenSpec.ofChange senseShownWrong)

/-- 'taliklaw05.SenseAgrees': WHATEVER THE INPUT: true; the input reads as it did. -/
def senseAgreesSpec : ChangeSpec := { name := "senseAgrees", fn := fun _ => fun
  | [d1, d2, d3] => { results := [.lit (.bool true)], args := [d1, d2, d3] }
  | _ => none }
def senseAgreesRow : OpenClaim := { program := "ytibmgbalfhfcdaadoor", sum := "542713afe83ae06e0361540c88ab881cb45e03b7f2920430921f650c4f7ca3ae", func := "talik/taliklaw05.SenseAgrees", spec := "senseAgrees", inPlace := ["internal/abi.NoEscape", "internal/bytealg.MakeNoZero"], unfollowed := true, recurses := true, named := ["internal/strconv.uint64pow10", "math/bits.deBruijn32tab", "math/bits.deBruijn64tab"], plainKeys := false, apart := false, laid := [("math/bits.deBruijn32tab", laid_math_bits_deBruijn32tab), ("math/bits.deBruijn64tab", laid_math_bits_deBruijn64tab), ("internal/strconv.uint64pow10", laid_internal_strconv_uint64pow10)] }
def SenseAgreesSaid : Prop := senseAgreesRow.holds Tryd.pinned (OpenSpec.ofChange senseAgreesSpec)

/-- ITS FALSE NEIGHBOUR: 'it returns false'. Refute it at one input. -/
def senseAgreesWrong : ChangeSpec := { name := "senseAgrees", fn := fun _ => fun
  | [d1, d2, d3] => { results := [.lit (.bool false)], args := [d1, d2, d3] }
  | _ => none }
def SenseAgreesWrongFalsely : Prop := senseAgreesRow.holds Tryd.pinned (OpenSpec.ofChange senseAgreesWrong)

/- THE SECOND FORM. 'bulk': how many values and letters a reading holds, each counted each time it is reached (what is shared counts as often as it is met; a slice's spare places count too). A statement '..UptoSaid' is the law's where the arguments, and the package variables that the reading takes, are together of bulk at most 1048576: NARROWER than '..Said'. Prove '..Said' where nothing that the law and all that it calls make is longer than what came in: it says more and counts as full. Else prove '..UptoSaid'. A law counts once. -/
mutual
def uptoBulk {H : Type} : DataW H → Nat
  | .lit (.string bytes) => bytes.length + 1
  | .lit _ => 1
  | .nil => 1
  | .ptr d => uptoBulk d + 1
  | .slice elems spare => uptoBulkAll elems + uptoBulkAll spare + 1
  | .agg parts => uptoBulkAll parts + 1
  | .iface _ d => uptoBulk d + 1
  | .map entries => uptoBulkEntries entries + 1
  | .held _ => 1
def uptoBulkAll {H : Type} : List (DataW H) → Nat
  | [] => 0
  | d :: r => uptoBulk d + uptoBulkAll r
def uptoBulkEntries {H : Type} : List (Lit × DataW H) → Nat
  | [] => 0
  | x :: r => uptoBulkEntry x + uptoBulkEntries r
def uptoBulkEntry {H : Type} : Lit × DataW H → Nat
  | (.string bytes, d) => bytes.length + uptoBulk d + 1
  | (_, d) => uptoBulk d + 1
 end
def uptoSmall : (H : Type) → List (DataW H) → Bool := fun _ ds => decide (uptoBulkAll ds ≤ 1048576)
def OpenSpec.upto (s : _root_.Go.ChangeSpec) : _root_.Go.OpenSpec := { _root_.Go.OpenSpec.ofChange s with cond := some uptoSmall }

/-- 'taliklaw05.SenseExplains', WHERE WHAT IT READS IS OF BULK AT MOST 1048576: true; the input reads as it did. -/
def senseExplainsUptoRow : OpenClaim := { program := "ytibmgbalfhfcdaadoor", sum := "542713afe83ae06e0361540c88ab881cb45e03b7f2920430921f650c4f7ca3ae", func := "talik/taliklaw05.SenseExplains", spec := "senseExplains", inPlace := ["internal/abi.NoEscape", "internal/bytealg.MakeNoZero"], unfollowed := true, recurses := true, named := ["internal/strconv.uint64pow10", "math/bits.deBruijn32tab", "math/bits.deBruijn64tab"], plainKeys := false, apart := false, laid := [("math/bits.deBruijn32tab", laid_math_bits_deBruijn32tab), ("math/bits.deBruijn64tab", laid_math_bits_deBruijn64tab), ("internal/strconv.uint64pow10", laid_internal_strconv_uint64pow10)], narrowed := true }
def SenseExplainsUptoSaid : Prop := senseExplainsUptoRow.holds Tryd.pinned (OpenSpec.upto senseExplainsSpec)

/-- 'taliklaw05.SenseTrue', WHERE WHAT IT READS IS OF BULK AT MOST 1048576: true; the input reads as it did. -/
def senseTrueUptoRow : OpenClaim := { program := "ytibmgbalfhfcdaadoor", sum := "542713afe83ae06e0361540c88ab881cb45e03b7f2920430921f650c4f7ca3ae", func := "talik/taliklaw05.SenseTrue", spec := "senseTrue", inPlace := ["internal/abi.NoEscape", "internal/bytealg.MakeNoZero"], unfollowed := true, recurses := true, named := ["internal/strconv.uint64pow10", "math/bits.deBruijn32tab", "math/bits.deBruijn64tab"], plainKeys := false, apart := false, laid := [("math/bits.deBruijn32tab", laid_math_bits_deBruijn32tab), ("math/bits.deBruijn64tab", laid_math_bits_deBruijn64tab), ("internal/strconv.uint64pow10", laid_internal_strconv_uint64pow10)], narrowed := true }
def SenseTrueUptoSaid : Prop := senseTrueUptoRow.holds Tryd.pinned (OpenSpec.upto senseTrueSpec)

/-- 'taliklaw05.SenseLeasts', WHERE WHAT IT READS IS OF BULK AT MOST 1048576: true; the input reads as it did. -/
def senseLeastsUptoRow : OpenClaim := { program := "ytibmgbalfhfcdaadoor", sum := "542713afe83ae06e0361540c88ab881cb45e03b7f2920430921f650c4f7ca3ae", func := "talik/taliklaw05.SenseLeasts", spec := "senseLeasts", inPlace := ["internal/abi.NoEscape", "internal/bytealg.MakeNoZero"], unfollowed := true, recurses := true, named := ["internal/strconv.uint64pow10", "math/bits.deBruijn32tab", "math/bits.deBruijn64tab"], plainKeys := false, apart := false, laid := [("math/bits.deBruijn32tab", laid_math_bits_deBruijn32tab), ("math/bits.deBruijn64tab", laid_math_bits_deBruijn64tab), ("internal/strconv.uint64pow10", laid_internal_strconv_uint64pow10)], narrowed := true }
def SenseLeastsUptoSaid : Prop := senseLeastsUptoRow.holds Tryd.pinned (OpenSpec.upto senseLeastsSpec)

/-- 'taliklaw05.SenseRivals', WHERE WHAT IT READS IS OF BULK AT MOST 1048576: true; the input reads as it did. -/
def senseRivalsUptoRow : OpenClaim := { program := "ytibmgbalfhfcdaadoor", sum := "542713afe83ae06e0361540c88ab881cb45e03b7f2920430921f650c4f7ca3ae", func := "talik/taliklaw05.SenseRivals", spec := "senseRivals", inPlace := ["internal/abi.NoEscape", "internal/bytealg.MakeNoZero"], unfollowed := true, recurses := true, named := ["internal/strconv.uint64pow10", "math/bits.deBruijn32tab", "math/bits.deBruijn64tab"], plainKeys := false, apart := false, laid := [("math/bits.deBruijn32tab", laid_math_bits_deBruijn32tab), ("math/bits.deBruijn64tab", laid_math_bits_deBruijn64tab), ("internal/strconv.uint64pow10", laid_internal_strconv_uint64pow10)], narrowed := true }
def SenseRivalsUptoSaid : Prop := senseRivalsUptoRow.holds Tryd.pinned (OpenSpec.upto senseRivalsSpec)

/-- 'taliklaw05.SenseKnown', WHERE WHAT IT READS IS OF BULK AT MOST 1048576: true; the input reads as it did. -/
def senseKnownUptoRow : OpenClaim := { program := "ytibmgbalfhfcdaadoor", sum := "542713afe83ae06e0361540c88ab881cb45e03b7f2920430921f650c4f7ca3ae", func := "talik/taliklaw05.SenseKnown", spec := "senseKnown", inPlace := ["internal/abi.NoEscape", "internal/bytealg.MakeNoZero"], unfollowed := true, recurses := true, named := ["internal/strconv.uint64pow10", "math/bits.deBruijn32tab", "math/bits.deBruijn64tab"], plainKeys := false, apart := false, laid := [("math/bits.deBruijn32tab", laid_math_bits_deBruijn32tab), ("math/bits.deBruijn64tab", laid_math_bits_deBruijn64tab), ("internal/strconv.uint64pow10", laid_internal_strconv_uint64pow10)], narrowed := true }
def SenseKnownUptoSaid : Prop := senseKnownUptoRow.holds Tryd.pinned (OpenSpec.upto senseKnownSpec)

/-- 'taliklaw05.SenseMore', WHERE WHAT IT READS IS OF BULK AT MOST 1048576: true; the input reads as it did. -/
def senseMoreUptoRow : OpenClaim := { program := "ytibmgbalfhfcdaadoor", sum := "542713afe83ae06e0361540c88ab881cb45e03b7f2920430921f650c4f7ca3ae", func := "talik/taliklaw05.SenseMore", spec := "senseMore", inPlace := ["internal/abi.NoEscape", "internal/bytealg.MakeNoZero"], unfollowed := true, recurses := true, named := ["internal/strconv.uint64pow10", "math/bits.deBruijn32tab", "math/bits.deBruijn64tab"], plainKeys := false, apart := false, laid := [("math/bits.deBruijn32tab", laid_math_bits_deBruijn32tab), ("math/bits.deBruijn64tab", laid_math_bits_deBruijn64tab), ("internal/strconv.uint64pow10", laid_internal_strconv_uint64pow10)], narrowed := true }
def SenseMoreUptoSaid : Prop := senseMoreUptoRow.holds Tryd.pinned (OpenSpec.upto senseMoreSpec)

/-- 'taliklaw05.SenseShown', WHERE WHAT IT READS IS OF BULK AT MOST 1048576: true; the input reads as it did. -/
def senseShownUptoRow : OpenClaim := { program := "ytibmgbalfhfcdaadoor", sum := "542713afe83ae06e0361540c88ab881cb45e03b7f2920430921f650c4f7ca3ae", func := "talik/taliklaw05.SenseShown", spec := "senseShown", inPlace := ["internal/abi.NoEscape", "internal/bytealg.MakeNoZero"], unfollowed := true, recurses := true, named := ["internal/strconv.uint64pow10", "math/bits.deBruijn32tab", "math/bits.deBruijn64tab"], plainKeys := false, apart := false, laid := [("math/bits.deBruijn32tab", laid_math_bits_deBruijn32tab), ("math/bits.deBruijn64tab", laid_math_bits_deBruijn64tab), ("internal/strconv.uint64pow10", laid_internal_strconv_uint64pow10)], narrowed := true }
def SenseShownUptoSaid : Prop := senseShownUptoRow.holds Tryd.pinned (OpenSpec.upto senseShownSpec)

/-- 'taliklaw05.SenseAgrees', WHERE WHAT IT READS IS OF BULK AT MOST 1048576: true; the input reads as it did. -/
def senseAgreesUptoRow : OpenClaim := { program := "ytibmgbalfhfcdaadoor", sum := "542713afe83ae06e0361540c88ab881cb45e03b7f2920430921f650c4f7ca3ae", func := "talik/taliklaw05.SenseAgrees", spec := "senseAgrees", inPlace := ["internal/abi.NoEscape", "internal/bytealg.MakeNoZero"], unfollowed := true, recurses := true, named := ["internal/strconv.uint64pow10", "math/bits.deBruijn32tab", "math/bits.deBruijn64tab"], plainKeys := false, apart := false, laid := [("math/bits.deBruijn32tab", laid_math_bits_deBruijn32tab), ("math/bits.deBruijn64tab", laid_math_bits_deBruijn64tab), ("internal/strconv.uint64pow10", laid_internal_strconv_uint64pow10)], narrowed := true }
def SenseAgreesUptoSaid : Prop := senseAgreesUptoRow.holds Tryd.pinned (OpenSpec.upto senseAgreesSpec)

end Rows
end Go.Proofs.YtibmgbalfhfcdaaDoor
