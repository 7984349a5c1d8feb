/-
  NARROWER THAN 'FOR EVERY INPUT', by the rows' own cells (each row's printed sentence says how): GroundPlays: laid · GroundLedgers: laid · GroundTrue: laid · GroundSharp: laid · GroundExceeds: laid · GroundWarned: laid · GroundAllows: laid · GroundRivals: laid · GroundMore: laid · GroundYears: laid.
  DERIVED. THE GIVEN ROWS OF THIS SEAT. 10 by the template 'for every input the law returns true; each argument reads behind the call as it read before'; 0 by the template 'total and deterministic' (their statements: YtbidmbjkjpdgdaaDoorTotals.lean).
  GIVEN WITH THE SEED: the statements are not yours to turn. If you find one false, say at which input.
  Laid BY PROGRAM, IN A SANDBOX (cutbox-rows.mjs): the forced cells as the released guide's own fill.sh prints them over the translation 0a4785b2a2293a14… (all of the seat's roots in one cut). By AI agents, Wed Nov 11 2026. No macro, syntax, notation, axiom, sorry.
-/
import Derived.Test.YtbidmbjkjpdgdaaDoorChecked
import GoSem.Claim
import GoSem.ClaimJoined
import GoSem.ClaimMapViews
import Derived.JoinedTies
import Derived.KernelRfl
namespace Go.Proofs.YtbidmbjkjpdgdaaDoor
/- THE CELL 'sum', in the pinned program and in every row, IS THE sha256 OF THE DUMP (.gsa) THAT YtbidmbjkjpdgdaaDoorProg.lean LOADS. Nothing in Lean hashes anything: it is a label: what it is worth is what the hold of that sum in a sandbox is worth. -/
noncomputable def Tryd.pinned : Pinned := { name := "ytbidmbjkjpdgdaadoor", sum := "0a4785b2a2293a14a1639e41dd43e54afbd213e03cf1c58d01c0be7c7c3cbd8a", checked := Tryd.checked }
namespace Rows
def none {H : Type} : Left H := { results := [], args := [] }

/- WHAT THE LISTED PACKAGE-LEVEL VARIABLES READ AS WHEN THE CALL BEGINS. Each datum BY PROGRAM (the guide's laid-datum.mjs) off the statement by which the dump's own 'gosem.cut.vars' lays the variable. In a bare row this is a premise. The card (YtbidmbjkjpdgdaaDoorCards.lean) ties it to the program's text. -/
def laid_math_bits_deBruijn32tab {H : Type} : DataW H := .agg [.lit (.int .u8 0), .lit (.int .u8 1), .lit (.int .u8 28), .lit (.int .u8 2), .lit (.int .u8 29), .lit (.int .u8 14), .lit (.int .u8 24), .lit (.int .u8 3), .lit (.int .u8 30), .lit (.int .u8 22), .lit (.int .u8 20), .lit (.int .u8 15), .lit (.int .u8 25), .lit (.int .u8 17), .lit (.int .u8 4), .lit (.int .u8 8), .lit (.int .u8 31), .lit (.int .u8 27), .lit (.int .u8 13), .lit (.int .u8 23), .lit (.int .u8 21), .lit (.int .u8 19), .lit (.int .u8 16), .lit (.int .u8 7), .lit (.int .u8 26), .lit (.int .u8 12), .lit (.int .u8 18), .lit (.int .u8 6), .lit (.int .u8 11), .lit (.int .u8 5), .lit (.int .u8 10), .lit (.int .u8 9)]
def laid_math_bits_deBruijn64tab {H : Type} : DataW H := .agg [.lit (.int .u8 0), .lit (.int .u8 1), .lit (.int .u8 56), .lit (.int .u8 2), .lit (.int .u8 57), .lit (.int .u8 49), .lit (.int .u8 28), .lit (.int .u8 3), .lit (.int .u8 61), .lit (.int .u8 58), .lit (.int .u8 42), .lit (.int .u8 50), .lit (.int .u8 38), .lit (.int .u8 29), .lit (.int .u8 17), .lit (.int .u8 4), .lit (.int .u8 62), .lit (.int .u8 47), .lit (.int .u8 59), .lit (.int .u8 36), .lit (.int .u8 45), .lit (.int .u8 43), .lit (.int .u8 51), .lit (.int .u8 22), .lit (.int .u8 53), .lit (.int .u8 39), .lit (.int .u8 33), .lit (.int .u8 30), .lit (.int .u8 24), .lit (.int .u8 18), .lit (.int .u8 12), .lit (.int .u8 5), .lit (.int .u8 63), .lit (.int .u8 55), .lit (.int .u8 48), .lit (.int .u8 27), .lit (.int .u8 60), .lit (.int .u8 41), .lit (.int .u8 37), .lit (.int .u8 16), .lit (.int .u8 46), .lit (.int .u8 35), .lit (.int .u8 44), .lit (.int .u8 21), .lit (.int .u8 52), .lit (.int .u8 32), .lit (.int .u8 23), .lit (.int .u8 11), .lit (.int .u8 54), .lit (.int .u8 26), .lit (.int .u8 40), .lit (.int .u8 15), .lit (.int .u8 34), .lit (.int .u8 20), .lit (.int .u8 31), .lit (.int .u8 10), .lit (.int .u8 25), .lit (.int .u8 14), .lit (.int .u8 19), .lit (.int .u8 9), .lit (.int .u8 13), .lit (.int .u8 8), .lit (.int .u8 7), .lit (.int .u8 6)]
def laid_internal_strconv_uint64pow10 {H : Type} : DataW H := .agg [.lit (.int .u64 1), .lit (.int .u64 10), .lit (.int .u64 100), .lit (.int .u64 1000), .lit (.int .u64 10000), .lit (.int .u64 100000), .lit (.int .u64 1000000), .lit (.int .u64 10000000), .lit (.int .u64 100000000), .lit (.int .u64 1000000000), .lit (.int .u64 10000000000), .lit (.int .u64 100000000000), .lit (.int .u64 1000000000000), .lit (.int .u64 10000000000000), .lit (.int .u64 100000000000000), .lit (.int .u64 1000000000000000), .lit (.int .u64 10000000000000000), .lit (.int .u64 100000000000000000), .lit (.int .u64 1000000000000000000), .lit (.int .u64 10000000000000000000)]

/-- 'taliklaw01.GroundPlays': WHATEVER THE INPUT: true; the input reads as it did. -/
def groundPlaysSpec : ChangeSpec := { name := "groundPlays", fn := fun _ => fun
  | [d1, d2, d3] => { results := [.lit (.bool true)], args := [d1, d2, d3] }
  | _ => none }
def groundPlaysRow : OpenClaim := { program := "ytbidmbjkjpdgdaadoor", sum := "0a4785b2a2293a14a1639e41dd43e54afbd213e03cf1c58d01c0be7c7c3cbd8a", func := "talik/taliklaw01.GroundPlays", spec := "groundPlays", unfollowed := true, recurses := true, named := ["internal/strconv.uint64pow10", "math/bits.deBruijn32tab", "math/bits.deBruijn64tab"], apart := false, laid := [("math/bits.deBruijn32tab", laid_math_bits_deBruijn32tab), ("math/bits.deBruijn64tab", laid_math_bits_deBruijn64tab), ("internal/strconv.uint64pow10", laid_internal_strconv_uint64pow10)] }
def GroundPlaysSaid : Prop := groundPlaysRow.holds Tryd.pinned (OpenSpec.ofChange groundPlaysSpec)

/-- ITS FALSE NEIGHBOUR: 'it returns false'. Refute it at one input. -/
def groundPlaysWrong : ChangeSpec := { name := "groundPlays", fn := fun _ => fun
  | [d1, d2, d3] => { results := [.lit (.bool false)], args := [d1, d2, d3] }
  | _ => none }
def GroundPlaysWrongFalsely : Prop := groundPlaysRow.holds Tryd.pinned (OpenSpec.ofChange groundPlaysWrong)

/-- 'taliklaw01.GroundLedgers': WHATEVER THE INPUT: true; the input reads as it did. -/
def groundLedgersSpec : ChangeSpec := { name := "groundLedgers", fn := fun _ => fun
  | [d1, d2, d3] => { results := [.lit (.bool true)], args := [d1, d2, d3] }
  | _ => none }
def groundLedgersRow : OpenClaim := { program := "ytbidmbjkjpdgdaadoor", sum := "0a4785b2a2293a14a1639e41dd43e54afbd213e03cf1c58d01c0be7c7c3cbd8a", func := "talik/taliklaw01.GroundLedgers", spec := "groundLedgers", unfollowed := true, recurses := true, named := ["internal/strconv.uint64pow10", "math/bits.deBruijn32tab", "math/bits.deBruijn64tab"], apart := false, laid := [("math/bits.deBruijn32tab", laid_math_bits_deBruijn32tab), ("math/bits.deBruijn64tab", laid_math_bits_deBruijn64tab), ("internal/strconv.uint64pow10", laid_internal_strconv_uint64pow10)] }
def GroundLedgersSaid : Prop := groundLedgersRow.holds Tryd.pinned (OpenSpec.ofChange groundLedgersSpec)

/-- ITS FALSE NEIGHBOUR: 'it returns false'. Refute it at one input. -/
def groundLedgersWrong : ChangeSpec := { name := "groundLedgers", fn := fun _ => fun
  | [d1, d2, d3] => { results := [.lit (.bool false)], args := [d1, d2, d3] }
  | _ => none }
def GroundLedgersWrongFalsely : Prop := groundLedgersRow.holds Tryd.pinned (OpenSpec.ofChange groundLedgersWrong)

/-- 'taliklaw01.GroundTrue': WHATEVER THE INPUT: true; the input reads as it did. -/
def groundTrueSpec : ChangeSpec := { name := "groundTrue", fn := fun _ => fun
  | [d1, d2, d3] => { results := [.lit (.bool true)], args := [d1, d2, d3] }
  | _ => none }
def groundTrueRow : OpenClaim := { program := "ytbidmbjkjpdgdaadoor", sum := "0a4785b2a2293a14a1639e41dd43e54afbd213e03cf1c58d01c0be7c7c3cbd8a", func := "talik/taliklaw01.GroundTrue", spec := "groundTrue", unfollowed := true, recurses := true, named := ["internal/strconv.uint64pow10", "math/bits.deBruijn32tab", "math/bits.deBruijn64tab"], apart := false, laid := [("math/bits.deBruijn32tab", laid_math_bits_deBruijn32tab), ("math/bits.deBruijn64tab", laid_math_bits_deBruijn64tab), ("internal/strconv.uint64pow10", laid_internal_strconv_uint64pow10)] }
def GroundTrueSaid : Prop := groundTrueRow.holds Tryd.pinned (OpenSpec.ofChange groundTrueSpec)

/-- ITS FALSE NEIGHBOUR: 'it returns false'. Refute it at one input. -/
def groundTrueWrong : ChangeSpec := { name := "groundTrue", fn := fun _ => fun
  | [d1, d2, d3] => { results := [.lit (.bool false)], args := [d1, d2, d3] }
  | _ => none }
def GroundTrueWrongFalsely : Prop := groundTrueRow.holds Tryd.pinned (OpenSpec.ofChange groundTrueWrong)

/-- 'taliklaw01.GroundSharp': WHATEVER THE INPUT: true; the input reads as it did. -/
def groundSharpSpec : ChangeSpec := { name := "groundSharp", fn := fun _ => fun
  | [d1, d2, d3] => { results := [.lit (.bool true)], args := [d1, d2, d3] }
  | _ => none }
def groundSharpRow : OpenClaim := { program := "ytbidmbjkjpdgdaadoor", sum := "0a4785b2a2293a14a1639e41dd43e54afbd213e03cf1c58d01c0be7c7c3cbd8a", func := "talik/taliklaw01.GroundSharp", spec := "groundSharp", unfollowed := true, recurses := true, named := ["internal/strconv.uint64pow10", "math/bits.deBruijn32tab", "math/bits.deBruijn64tab"], apart := false, laid := [("math/bits.deBruijn32tab", laid_math_bits_deBruijn32tab), ("math/bits.deBruijn64tab", laid_math_bits_deBruijn64tab), ("internal/strconv.uint64pow10", laid_internal_strconv_uint64pow10)] }
def GroundSharpSaid : Prop := groundSharpRow.holds Tryd.pinned (OpenSpec.ofChange groundSharpSpec)

/-- ITS FALSE NEIGHBOUR: 'it returns false'. Refute it at one input. -/
def groundSharpWrong : ChangeSpec := { name := "groundSharp", fn := fun _ => fun
  | [d1, d2, d3] => { results := [.lit (.bool false)], args := [d1, d2, d3] }
  | _ => none }
def GroundSharpWrongFalsely : Prop := groundSharpRow.holds Tryd.pinned (OpenSpec.ofChange groundSharpWrong)

/-- 'taliklaw01.GroundExceeds': WHATEVER THE INPUT: true; the input reads as it did. -/
def groundExceedsSpec : ChangeSpec := { name := "groundExceeds", fn := fun _ => fun
  | [d1, d2, d3] => { results := [.lit (.bool true)], args := [d1, d2, d3] }
  | _ => none }
def groundExceedsRow : OpenClaim := { program := "ytbidmbjkjpdgdaadoor", sum := "0a4785b2a2293a14a1639e41dd43e54afbd213e03cf1c58d01c0be7c7c3cbd8a", func := "talik/taliklaw01.GroundExceeds", spec := "groundExceeds", unfollowed := true, recurses := true, named := ["internal/strconv.uint64pow10", "math/bits.deBruijn32tab", "math/bits.deBruijn64tab"], apart := false, laid := [("math/bits.deBruijn32tab", laid_math_bits_deBruijn32tab), ("math/bits.deBruijn64tab", laid_math_bits_deBruijn64tab), ("internal/strconv.uint64pow10", laid_internal_strconv_uint64pow10)] }
def GroundExceedsSaid : Prop := groundExceedsRow.holds Tryd.pinned (OpenSpec.ofChange groundExceedsSpec)

/-- ITS FALSE NEIGHBOUR: 'it returns false'. Refute it at one input. -/
def groundExceedsWrong : ChangeSpec := { name := "groundExceeds", fn := fun _ => fun
  | [d1, d2, d3] => { results := [.lit (.bool false)], args := [d1, d2, d3] }
  | _ => none }
def GroundExceedsWrongFalsely : Prop := groundExceedsRow.holds Tryd.pinned (OpenSpec.ofChange groundExceedsWrong)

/-- 'taliklaw01.GroundWarned': WHATEVER THE INPUT: true; the input reads as it did. -/
def groundWarnedSpec : ChangeSpec := { name := "groundWarned", fn := fun _ => fun
  | [d1, d2, d3, d4] => { results := [.lit (.bool true)], args := [d1, d2, d3, d4] }
  | _ => none }
def groundWarnedRow : OpenClaim := { program := "ytbidmbjkjpdgdaadoor", sum := "0a4785b2a2293a14a1639e41dd43e54afbd213e03cf1c58d01c0be7c7c3cbd8a", func := "talik/taliklaw01.GroundWarned", spec := "groundWarned", unfollowed := true, recurses := true, named := ["internal/strconv.uint64pow10", "math/bits.deBruijn32tab", "math/bits.deBruijn64tab"], apart := false, laid := [("math/bits.deBruijn32tab", laid_math_bits_deBruijn32tab), ("math/bits.deBruijn64tab", laid_math_bits_deBruijn64tab), ("internal/strconv.uint64pow10", laid_internal_strconv_uint64pow10)] }
def GroundWarnedSaid : Prop := groundWarnedRow.holds Tryd.pinned (OpenSpec.ofChange groundWarnedSpec)

/-- ITS FALSE NEIGHBOUR: 'it returns false'. Refute it at one input. -/
def groundWarnedWrong : ChangeSpec := { name := "groundWarned", fn := fun _ => fun
  | [d1, d2, d3, d4] => { results := [.lit (.bool false)], args := [d1, d2, d3, d4] }
  | _ => none }
def GroundWarnedWrongFalsely : Prop := groundWarnedRow.holds Tryd.pinned (OpenSpec.ofChange groundWarnedWrong)

/-- 'taliklaw01.GroundAllows': WHATEVER THE INPUT: true; the input reads as it did. -/
def groundAllowsSpec : ChangeSpec := { name := "groundAllows", fn := fun _ => fun
  | [d1, d2, d3] => { results := [.lit (.bool true)], args := [d1, d2, d3] }
  | _ => none }
def groundAllowsRow : OpenClaim := { program := "ytbidmbjkjpdgdaadoor", sum := "0a4785b2a2293a14a1639e41dd43e54afbd213e03cf1c58d01c0be7c7c3cbd8a", func := "talik/taliklaw01.GroundAllows", spec := "groundAllows", unfollowed := true, recurses := true, named := ["internal/strconv.uint64pow10", "math/bits.deBruijn32tab", "math/bits.deBruijn64tab"], apart := false, laid := [("math/bits.deBruijn32tab", laid_math_bits_deBruijn32tab), ("math/bits.deBruijn64tab", laid_math_bits_deBruijn64tab), ("internal/strconv.uint64pow10", laid_internal_strconv_uint64pow10)] }
def GroundAllowsSaid : Prop := groundAllowsRow.holds Tryd.pinned (OpenSpec.ofChange groundAllowsSpec)

/-- ITS FALSE NEIGHBOUR: 'it returns false'. Refute it at one input. -/
def groundAllowsWrong : ChangeSpec := { name := "groundAllows", fn := fun _ => fun
  | [d1, d2, d3] => { results := [.lit (.bool false)], args := [d1, d2, d3] }
  | _ => none }
def GroundAllowsWrongFalsely : Prop := groundAllowsRow.holds Tryd.pinned (OpenSpec.ofChange groundAllowsWrong)

/-- 'taliklaw01.GroundRivals': WHATEVER THE INPUT: true; the input reads as it did. -/
def groundRivalsSpec : ChangeSpec := { name := "groundRivals", fn := fun _ => fun
  | [d1, d2, d3, d4, d5, d6] => { results := [.lit (.bool true)], args := [d1, d2, d3, d4, d5, d6] }
  | _ => none }
def groundRivalsRow : OpenClaim := { program := "ytbidmbjkjpdgdaadoor", sum := "0a4785b2a2293a14a1639e41dd43e54afbd213e03cf1c58d01c0be7c7c3cbd8a", func := "talik/taliklaw01.GroundRivals", spec := "groundRivals", unfollowed := true, recurses := true, named := ["internal/strconv.uint64pow10", "math/bits.deBruijn32tab", "math/bits.deBruijn64tab"], apart := false, laid := [("math/bits.deBruijn32tab", laid_math_bits_deBruijn32tab), ("math/bits.deBruijn64tab", laid_math_bits_deBruijn64tab), ("internal/strconv.uint64pow10", laid_internal_strconv_uint64pow10)] }
def GroundRivalsSaid : Prop := groundRivalsRow.holds Tryd.pinned (OpenSpec.ofChange groundRivalsSpec)

/-- ITS FALSE NEIGHBOUR: 'it returns false'. Refute it at one input. -/
def groundRivalsWrong : ChangeSpec := { name := "groundRivals", fn := fun _ => fun
  | [d1, d2, d3, d4, d5, d6] => { results := [.lit (.bool false)], args := [d1, d2, d3, d4, d5, d6] }
  | _ => none }
def GroundRivalsWrongFalsely : Prop := groundRivalsRow.holds Tryd.pinned (OpenSpec.ofChange groundRivalsWrong)

/-- 'taliklaw01.GroundMore': WHATEVER THE INPUT: true; the input reads as it did. -/
def groundMoreSpec : ChangeSpec := { name := "groundMore", fn := fun _ => fun
  | [d1, d2, d3, d4, d5, d6, d7] => { results := [.lit (.bool true)], args := [d1, d2, d3, d4, d5, d6, d7] }
  | _ => none }
def groundMoreRow : OpenClaim := { program := "ytbidmbjkjpdgdaadoor", sum := "0a4785b2a2293a14a1639e41dd43e54afbd213e03cf1c58d01c0be7c7c3cbd8a", func := "talik/taliklaw01.GroundMore", spec := "groundMore", unfollowed := true, recurses := true, named := ["internal/strconv.uint64pow10", "math/bits.deBruijn32tab", "math/bits.deBruijn64tab"], apart := false, laid := [("math/bits.deBruijn32tab", laid_math_bits_deBruijn32tab), ("math/bits.deBruijn64tab", laid_math_bits_deBruijn64tab), ("internal/strconv.uint64pow10", laid_internal_strconv_uint64pow10)] }
def GroundMoreSaid : Prop := groundMoreRow.holds Tryd.pinned (OpenSpec.ofChange groundMoreSpec)

/-- ITS FALSE NEIGHBOUR: 'it returns false'. Refute it at one input. -/
def groundMoreWrong : ChangeSpec := { name := "groundMore", fn := fun _ => fun
  | [d1, d2, d3, d4, d5, d6, d7] => { results := [.lit (.bool false)], args := [d1, d2, d3, d4, d5, d6, d7] }
  | _ => none }
def GroundMoreWrongFalsely : Prop := groundMoreRow.holds Tryd.pinned (OpenSpec.ofChange groundMoreWrong)

/-- 'taliklaw01.GroundYears': WHATEVER THE INPUT: true; the input reads as it did. -/
def groundYearsSpec : ChangeSpec := { name := "groundYears", fn := fun _ => fun
  | [d1, d2] => { results := [.lit (.bool true)], args := [d1, d2] }
  | _ => none }
def groundYearsRow : OpenClaim := { program := "ytbidmbjkjpdgdaadoor", sum := "0a4785b2a2293a14a1639e41dd43e54afbd213e03cf1c58d01c0be7c7c3cbd8a", func := "talik/taliklaw01.GroundYears", spec := "groundYears", unfollowed := true, recurses := true, named := ["internal/strconv.uint64pow10", "math/bits.deBruijn32tab", "math/bits.deBruijn64tab"], apart := false, laid := [("math/bits.deBruijn32tab", laid_math_bits_deBruijn32tab), ("math/bits.deBruijn64tab", laid_math_bits_deBruijn64tab), ("internal/strconv.uint64pow10", laid_internal_strconv_uint64pow10)] }
def GroundYearsSaid : Prop := groundYearsRow.holds Tryd.pinned (OpenSpec.ofChange groundYearsSpec)

/-- ITS FALSE NEIGHBOUR: 'it returns false'. Refute it at one input. -/
def groundYearsWrong : ChangeSpec := { name := "groundYears", fn := fun _ => fun
  | [d1, d2] => { results := [.lit (.bool false)], args := [d1, d2] }
  | _ => none }
def GroundYearsWrongFalsely : Prop := groundYearsRow.holds Tryd.pinned (OpenSpec.ofChange groundYearsWrong)

/- THE SECOND FORM. 'bulk': how many values and letters a reading holds, each counted each time it is reached (what is shared counts as often as it is met; a slice's spare places count too). A statement '..UptoSaid' is the law's where the arguments, and the package variables that the reading takes, are together of bulk at most 1048576: NARROWER than '..Said'. Prove '..Said' where nothing that the law and all that it calls make is longer than what came in: it says more and counts as full. Else prove '..UptoSaid'. A law counts once. -/
mutual
def uptoBulk {H : Type} : DataW H → Nat
  | .lit (.string bytes) => bytes.length + 1
  | .lit _ => 1
  | .nil => 1
  | .ptr d => uptoBulk d + 1
  | .slice elems spare => uptoBulkAll elems + uptoBulkAll spare + 1
  | .agg parts => uptoBulkAll parts + 1
  | .iface _ d => uptoBulk d + 1
  | .map entries => uptoBulkEntries entries + 1
  | .held _ => 1
def uptoBulkAll {H : Type} : List (DataW H) → Nat
  | [] => 0
  | d :: r => uptoBulk d + uptoBulkAll r
def uptoBulkEntries {H : Type} : List (Lit × DataW H) → Nat
  | [] => 0
  | x :: r => uptoBulkEntry x + uptoBulkEntries r
def uptoBulkEntry {H : Type} : Lit × DataW H → Nat
  | (.string bytes, d) => bytes.length + uptoBulk d + 1
  | (_, d) => uptoBulk d + 1
 end
def uptoSmall : (H : Type) → List (DataW H) → Bool := fun _ ds => decide (uptoBulkAll ds ≤ 1048576)
def OpenSpec.upto (s : _root_.Go.ChangeSpec) : _root_.Go.OpenSpec := { _root_.Go.OpenSpec.ofChange s with cond := some uptoSmall }

/-- 'taliklaw01.GroundPlays', WHERE WHAT IT READS IS OF BULK AT MOST 1048576: true; the input reads as it did. -/
def groundPlaysUptoRow : OpenClaim := { program := "ytbidmbjkjpdgdaadoor", sum := "0a4785b2a2293a14a1639e41dd43e54afbd213e03cf1c58d01c0be7c7c3cbd8a", func := "talik/taliklaw01.GroundPlays", spec := "groundPlays", unfollowed := true, recurses := true, named := ["internal/strconv.uint64pow10", "math/bits.deBruijn32tab", "math/bits.deBruijn64tab"], apart := false, laid := [("math/bits.deBruijn32tab", laid_math_bits_deBruijn32tab), ("math/bits.deBruijn64tab", laid_math_bits_deBruijn64tab), ("internal/strconv.uint64pow10", laid_internal_strconv_uint64pow10)], narrowed := true }
def GroundPlaysUptoSaid : Prop := groundPlaysUptoRow.holds Tryd.pinned (OpenSpec.upto groundPlaysSpec)

/-- 'taliklaw01.GroundLedgers', WHERE WHAT IT READS IS OF BULK AT MOST 1048576: true; the input reads as it did. -/
def groundLedgersUptoRow : OpenClaim := { program := "ytbidmbjkjpdgdaadoor", sum := "0a4785b2a2293a14a1639e41dd43e54afbd213e03cf1c58d01c0be7c7c3cbd8a", func := "talik/taliklaw01.GroundLedgers", spec := "groundLedgers", unfollowed := true, recurses := true, named := ["internal/strconv.uint64pow10", "math/bits.deBruijn32tab", "math/bits.deBruijn64tab"], apart := false, laid := [("math/bits.deBruijn32tab", laid_math_bits_deBruijn32tab), ("math/bits.deBruijn64tab", laid_math_bits_deBruijn64tab), ("internal/strconv.uint64pow10", laid_internal_strconv_uint64pow10)], narrowed := true }
def GroundLedgersUptoSaid : Prop := groundLedgersUptoRow.holds Tryd.pinned (OpenSpec.upto groundLedgersSpec)

/-- 'taliklaw01.GroundTrue', WHERE WHAT IT READS IS OF BULK AT MOST 1048576: true; the input reads as it did. -/
def groundTrueUptoRow : OpenClaim := { program := "ytbidmbjkjpdgdaadoor", sum := "0a4785b2a2293a14a1639e41dd43e54afbd213e03cf1c58d01c0be7c7c3cbd8a", func := "talik/taliklaw01.GroundTrue", spec := "groundTrue", unfollowed := true, recurses := true, named := ["internal/strconv.uint64pow10", "math/bits.deBruijn32tab", "math/bits.deBruijn64tab"], apart := false, laid := [("math/bits.deBruijn32tab", laid_math_bits_deBruijn32tab), ("math/bits.deBruijn64tab", laid_math_bits_deBruijn64tab), ("internal/strconv.uint64pow10", laid_internal_strconv_uint64pow10)], narrowed := true }
def GroundTrueUptoSaid : Prop := groundTrueUptoRow.holds Tryd.pinned (OpenSpec.upto groundTrueSpec)

/-- 'taliklaw01.GroundSharp', WHERE WHAT IT READS IS OF BULK AT MOST 1048576: true; the input reads as it did. -/
def groundSharpUptoRow : OpenClaim := { program := "ytbidmbjkjpdgdaadoor", sum := "0a4785b2a2293a14a1639e41dd43e54afbd213e03cf1c58d01c0be7c7c3cbd8a", func := "talik/taliklaw01.GroundSharp", spec := "groundSharp", unfollowed := true, recurses := true, named := ["internal/strconv.uint64pow10", "math/bits.deBruijn32tab", "math/bits.deBruijn64tab"], apart := false, laid := [("math/bits.deBruijn32tab", laid_math_bits_deBruijn32tab), ("math/bits.deBruijn64tab", laid_math_bits_deBruijn64tab), ("internal/strconv.uint64pow10", laid_internal_strconv_uint64pow10)], narrowed := true }
def GroundSharpUptoSaid : Prop := groundSharpUptoRow.holds Tryd.pinned (OpenSpec.upto groundSharpSpec)

/-- 'taliklaw01.GroundExceeds', WHERE WHAT IT READS IS OF BULK AT MOST 1048576: true; the input reads as it did. -/
def groundExceedsUptoRow : OpenClaim := { program := "ytbidmbjkjpdgdaadoor", sum := "0a4785b2a2293a14a1639e41dd43e54afbd213e03cf1c58d01c0be7c7c3cbd8a", func := "talik/taliklaw01.GroundExceeds", spec := "groundExceeds", unfollowed := true, recurses := true, named := ["internal/strconv.uint64pow10", "math/bits.deBruijn32tab", "math/bits.deBruijn64tab"], apart := false, laid := [("math/bits.deBruijn32tab", laid_math_bits_deBruijn32tab), ("math/bits.deBruijn64tab", laid_math_bits_deBruijn64tab), ("internal/strconv.uint64pow10", laid_internal_strconv_uint64pow10)], narrowed := true }
def GroundExceedsUptoSaid : Prop := groundExceedsUptoRow.holds Tryd.pinned (OpenSpec.upto groundExceedsSpec)

/-- 'taliklaw01.GroundWarned', WHERE WHAT IT READS IS OF BULK AT MOST 1048576: true; the input reads as it did. -/
def groundWarnedUptoRow : OpenClaim := { program := "ytbidmbjkjpdgdaadoor", sum := "0a4785b2a2293a14a1639e41dd43e54afbd213e03cf1c58d01c0be7c7c3cbd8a", func := "talik/taliklaw01.GroundWarned", spec := "groundWarned", unfollowed := true, recurses := true, named := ["internal/strconv.uint64pow10", "math/bits.deBruijn32tab", "math/bits.deBruijn64tab"], apart := false, laid := [("math/bits.deBruijn32tab", laid_math_bits_deBruijn32tab), ("math/bits.deBruijn64tab", laid_math_bits_deBruijn64tab), ("internal/strconv.uint64pow10", laid_internal_strconv_uint64pow10)], narrowed := true }
def GroundWarnedUptoSaid : Prop := groundWarnedUptoRow.holds Tryd.pinned (OpenSpec.upto groundWarnedSpec)

/-- 'taliklaw01.GroundAllows', WHERE WHAT IT READS IS OF BULK AT MOST 1048576: true; the input reads as it did. -/
def groundAllowsUptoRow : OpenClaim := { program := "ytbidmbjkjpdgdaadoor", sum := "0a4785b2a2293a14a1639e41dd43e54afbd213e03cf1c58d01c0be7c7c3cbd8a", func := "talik/taliklaw01.GroundAllows", spec := "groundAllows", unfollowed := true, recurses := true, named := ["internal/strconv.uint64pow10", "math/bits.deBruijn32tab", "math/bits.deBruijn64tab"], apart := false, laid := [("math/bits.deBruijn32tab", laid_math_bits_deBruijn32tab), ("math/bits.deBruijn64tab", laid_math_bits_deBruijn64tab), ("internal/strconv.uint64pow10", laid_internal_strconv_uint64pow10)], narrowed := true }
def GroundAllowsUptoSaid : Prop := groundAllowsUptoRow.holds Tryd.pinned (OpenSpec.upto groundAllowsSpec)

/-- 'taliklaw01.GroundRivals', WHERE WHAT IT READS IS OF BULK AT MOST 1048576: true; the input reads as it did. -/
def groundRivalsUptoRow : OpenClaim := { program := "ytbidmbjkjpdgdaadoor", sum := "0a4785b2a2293a14a1639e41dd43e54afbd213e03cf1c58d01c0be7c7c3cbd8a", func := "talik/taliklaw01.GroundRivals", spec := "groundRivals", unfollowed := true, recurses := true, named := ["internal/strconv.uint64pow10", "math/bits.deBruijn32tab", "math/bits.deBruijn64tab"], apart := false, laid := [("math/bits.deBruijn32tab", laid_math_bits_deBruijn32tab), ("math/bits.deBruijn64tab", laid_math_bits_deBruijn64tab), ("internal/strconv.uint64pow10", laid_internal_strconv_uint64pow10)], narrowed := true }
def GroundRivalsUptoSaid : Prop := groundRivalsUptoRow.holds Tryd.pinned (OpenSpec.upto groundRivalsSpec)

/-- 'taliklaw01.GroundMore', WHERE WHAT IT READS IS OF BULK AT MOST 1048576: true; the input reads as it did. -/
def groundMoreUptoRow : OpenClaim := { program := "ytbidmbjkjpdgdaadoor", sum := "0a4785b2a2293a14a1639e41dd43e54afbd213e03cf1c58d01c0be7c7c3cbd8a", func := "talik/taliklaw01.GroundMore", spec := "groundMore", unfollowed := true, recurses := true, named := ["internal/strconv.uint64pow10", "math/bits.deBruijn32tab", "math/bits.deBruijn64tab"], apart := false, laid := [("math/bits.deBruijn32tab", laid_math_bits_deBruijn32tab), ("math/bits.deBruijn64tab", laid_math_bits_deBruijn64tab), ("internal/strconv.uint64pow10", laid_internal_strconv_uint64pow10)], narrowed := true }
def GroundMoreUptoSaid : Prop := groundMoreUptoRow.holds Tryd.pinned (OpenSpec.upto groundMoreSpec)

/-- 'taliklaw01.GroundYears', WHERE WHAT IT READS IS OF BULK AT MOST 1048576: true; the input reads as it did. -/
def groundYearsUptoRow : OpenClaim := { program := "ytbidmbjkjpdgdaadoor", sum := "0a4785b2a2293a14a1639e41dd43e54afbd213e03cf1c58d01c0be7c7c3cbd8a", func := "talik/taliklaw01.GroundYears", spec := "groundYears", unfollowed := true, recurses := true, named := ["internal/strconv.uint64pow10", "math/bits.deBruijn32tab", "math/bits.deBruijn64tab"], apart := false, laid := [("math/bits.deBruijn32tab", laid_math_bits_deBruijn32tab), ("math/bits.deBruijn64tab", laid_math_bits_deBruijn64tab), ("internal/strconv.uint64pow10", laid_internal_strconv_uint64pow10)], narrowed := true }
def GroundYearsUptoSaid : Prop := groundYearsUptoRow.holds Tryd.pinned (OpenSpec.upto groundYearsSpec)

end Rows
end Go.Proofs.YtbidmbjkjpdgdaaDoor
