/-
  DERIVED. GIVEN WITH THE SEED: THE CARDS: each row of YtbidmbjkjpdgdaaDoorRows.lean that lists a variable, with what it lists TIED to the program's text (the seventh form; the later family's looks); each row that meets fmt, with fmt's text TOLD by the authors' own Lean function (tested against real Go, not proved from fmt's source: count such statements apart). THE CARD IS WHAT COUNTS. Prove the row's statement (the work); the ties are given (YtbidmbjkjpdgdaaDoorTie.lean); close each card by the builder's one call (the guide's Derived/Test/ToyasCard.lean, 'card_holds'). Laid BY PROGRAM, IN A SANDBOX (cutbox-door.mjs). By AI agents, Wed Nov 11 2026. No macro, syntax, notation, axiom, sorry.
-/
import Derived.Test.YtbidmbjkjpdgdaaDoorRows
import GoSem.ClaimSeven
namespace Go.Proofs.YtbidmbjkjpdgdaaDoor
namespace Rows

/-- THE TIED CARD OF 'taliklaw01.GroundPlays'. -/
def groundPlaysCard : Claim7 := { stood := { row := groundPlaysRow, standIns := [], harness := (true, "99b83803a9891c0921a936b8a49bf615485dc23245ae15ec723995fc1b66ec00"), looks := false }, kinds := [], alts := [], laidByText := true, laidKinds := [.data, .data, .data], laidTests := true, laidLooks := .later }
def GroundPlaysCardSaid : Prop := Claim7.holds Tryd.pinned (.plain (OpenSpec.ofChange groundPlaysSpec)) groundPlaysCard

/-- THE TIED CARD OF 'taliklaw01.GroundLedgers'. -/
def groundLedgersCard : Claim7 := { stood := { row := groundLedgersRow, standIns := [], harness := (true, "99b83803a9891c0921a936b8a49bf615485dc23245ae15ec723995fc1b66ec00"), looks := false }, kinds := [], alts := [], laidByText := true, laidKinds := [.data, .data, .data], laidTests := true, laidLooks := .later }
def GroundLedgersCardSaid : Prop := Claim7.holds Tryd.pinned (.plain (OpenSpec.ofChange groundLedgersSpec)) groundLedgersCard

/-- THE TIED CARD OF 'taliklaw01.GroundTrue'. -/
def groundTrueCard : Claim7 := { stood := { row := groundTrueRow, standIns := [], harness := (true, "99b83803a9891c0921a936b8a49bf615485dc23245ae15ec723995fc1b66ec00"), looks := false }, kinds := [], alts := [], laidByText := true, laidKinds := [.data, .data, .data], laidTests := true, laidLooks := .later }
def GroundTrueCardSaid : Prop := Claim7.holds Tryd.pinned (.plain (OpenSpec.ofChange groundTrueSpec)) groundTrueCard

/-- THE TIED CARD OF 'taliklaw01.GroundSharp'. -/
def groundSharpCard : Claim7 := { stood := { row := groundSharpRow, standIns := [], harness := (true, "99b83803a9891c0921a936b8a49bf615485dc23245ae15ec723995fc1b66ec00"), looks := false }, kinds := [], alts := [], laidByText := true, laidKinds := [.data, .data, .data], laidTests := true, laidLooks := .later }
def GroundSharpCardSaid : Prop := Claim7.holds Tryd.pinned (.plain (OpenSpec.ofChange groundSharpSpec)) groundSharpCard

/-- THE TIED CARD OF 'taliklaw01.GroundExceeds'. -/
def groundExceedsCard : Claim7 := { stood := { row := groundExceedsRow, standIns := [], harness := (true, "99b83803a9891c0921a936b8a49bf615485dc23245ae15ec723995fc1b66ec00"), looks := false }, kinds := [], alts := [], laidByText := true, laidKinds := [.data, .data, .data], laidTests := true, laidLooks := .later }
def GroundExceedsCardSaid : Prop := Claim7.holds Tryd.pinned (.plain (OpenSpec.ofChange groundExceedsSpec)) groundExceedsCard

/-- THE TIED CARD OF 'taliklaw01.GroundWarned'. -/
def groundWarnedCard : Claim7 := { stood := { row := groundWarnedRow, standIns := [], harness := (true, "99b83803a9891c0921a936b8a49bf615485dc23245ae15ec723995fc1b66ec00"), looks := false }, kinds := [], alts := [], laidByText := true, laidKinds := [.data, .data, .data], laidTests := true, laidLooks := .later }
def GroundWarnedCardSaid : Prop := Claim7.holds Tryd.pinned (.plain (OpenSpec.ofChange groundWarnedSpec)) groundWarnedCard

/-- THE TIED CARD OF 'taliklaw01.GroundAllows'. -/
def groundAllowsCard : Claim7 := { stood := { row := groundAllowsRow, standIns := [], harness := (true, "99b83803a9891c0921a936b8a49bf615485dc23245ae15ec723995fc1b66ec00"), looks := false }, kinds := [], alts := [], laidByText := true, laidKinds := [.data, .data, .data], laidTests := true, laidLooks := .later }
def GroundAllowsCardSaid : Prop := Claim7.holds Tryd.pinned (.plain (OpenSpec.ofChange groundAllowsSpec)) groundAllowsCard

/-- THE TIED CARD OF 'taliklaw01.GroundRivals'. -/
def groundRivalsCard : Claim7 := { stood := { row := groundRivalsRow, standIns := [], harness := (true, "99b83803a9891c0921a936b8a49bf615485dc23245ae15ec723995fc1b66ec00"), looks := false }, kinds := [], alts := [], laidByText := true, laidKinds := [.data, .data, .data], laidTests := true, laidLooks := .later }
def GroundRivalsCardSaid : Prop := Claim7.holds Tryd.pinned (.plain (OpenSpec.ofChange groundRivalsSpec)) groundRivalsCard

/-- THE TIED CARD OF 'taliklaw01.GroundMore'. -/
def groundMoreCard : Claim7 := { stood := { row := groundMoreRow, standIns := [], harness := (true, "99b83803a9891c0921a936b8a49bf615485dc23245ae15ec723995fc1b66ec00"), looks := false }, kinds := [], alts := [], laidByText := true, laidKinds := [.data, .data, .data], laidTests := true, laidLooks := .later }
def GroundMoreCardSaid : Prop := Claim7.holds Tryd.pinned (.plain (OpenSpec.ofChange groundMoreSpec)) groundMoreCard

/-- THE TIED CARD OF 'taliklaw01.GroundYears'. -/
def groundYearsCard : Claim7 := { stood := { row := groundYearsRow, standIns := [], harness := (true, "99b83803a9891c0921a936b8a49bf615485dc23245ae15ec723995fc1b66ec00"), looks := false }, kinds := [], alts := [], laidByText := true, laidKinds := [.data, .data, .data], laidTests := true, laidLooks := .later }
def GroundYearsCardSaid : Prop := Claim7.holds Tryd.pinned (.plain (OpenSpec.ofChange groundYearsSpec)) groundYearsCard

/-- THE SECOND FORM's CARD OF 'taliklaw01.GroundPlays'. -/
def groundPlaysUptoCard : Claim7 := { stood := { row := groundPlaysUptoRow, standIns := [], harness := (true, "99b83803a9891c0921a936b8a49bf615485dc23245ae15ec723995fc1b66ec00"), looks := false }, kinds := [], alts := [], laidByText := true, laidKinds := [.data, .data, .data], laidTests := true, laidLooks := .later }
def GroundPlaysUptoCardSaid : Prop := Claim7.holds Tryd.pinned (.plain (OpenSpec.upto groundPlaysSpec)) groundPlaysUptoCard

/-- THE SECOND FORM's CARD OF 'taliklaw01.GroundLedgers'. -/
def groundLedgersUptoCard : Claim7 := { stood := { row := groundLedgersUptoRow, standIns := [], harness := (true, "99b83803a9891c0921a936b8a49bf615485dc23245ae15ec723995fc1b66ec00"), looks := false }, kinds := [], alts := [], laidByText := true, laidKinds := [.data, .data, .data], laidTests := true, laidLooks := .later }
def GroundLedgersUptoCardSaid : Prop := Claim7.holds Tryd.pinned (.plain (OpenSpec.upto groundLedgersSpec)) groundLedgersUptoCard

/-- THE SECOND FORM's CARD OF 'taliklaw01.GroundTrue'. -/
def groundTrueUptoCard : Claim7 := { stood := { row := groundTrueUptoRow, standIns := [], harness := (true, "99b83803a9891c0921a936b8a49bf615485dc23245ae15ec723995fc1b66ec00"), looks := false }, kinds := [], alts := [], laidByText := true, laidKinds := [.data, .data, .data], laidTests := true, laidLooks := .later }
def GroundTrueUptoCardSaid : Prop := Claim7.holds Tryd.pinned (.plain (OpenSpec.upto groundTrueSpec)) groundTrueUptoCard

/-- THE SECOND FORM's CARD OF 'taliklaw01.GroundSharp'. -/
def groundSharpUptoCard : Claim7 := { stood := { row := groundSharpUptoRow, standIns := [], harness := (true, "99b83803a9891c0921a936b8a49bf615485dc23245ae15ec723995fc1b66ec00"), looks := false }, kinds := [], alts := [], laidByText := true, laidKinds := [.data, .data, .data], laidTests := true, laidLooks := .later }
def GroundSharpUptoCardSaid : Prop := Claim7.holds Tryd.pinned (.plain (OpenSpec.upto groundSharpSpec)) groundSharpUptoCard

/-- THE SECOND FORM's CARD OF 'taliklaw01.GroundExceeds'. -/
def groundExceedsUptoCard : Claim7 := { stood := { row := groundExceedsUptoRow, standIns := [], harness := (true, "99b83803a9891c0921a936b8a49bf615485dc23245ae15ec723995fc1b66ec00"), looks := false }, kinds := [], alts := [], laidByText := true, laidKinds := [.data, .data, .data], laidTests := true, laidLooks := .later }
def GroundExceedsUptoCardSaid : Prop := Claim7.holds Tryd.pinned (.plain (OpenSpec.upto groundExceedsSpec)) groundExceedsUptoCard

/-- THE SECOND FORM's CARD OF 'taliklaw01.GroundWarned'. -/
def groundWarnedUptoCard : Claim7 := { stood := { row := groundWarnedUptoRow, standIns := [], harness := (true, "99b83803a9891c0921a936b8a49bf615485dc23245ae15ec723995fc1b66ec00"), looks := false }, kinds := [], alts := [], laidByText := true, laidKinds := [.data, .data, .data], laidTests := true, laidLooks := .later }
def GroundWarnedUptoCardSaid : Prop := Claim7.holds Tryd.pinned (.plain (OpenSpec.upto groundWarnedSpec)) groundWarnedUptoCard

/-- THE SECOND FORM's CARD OF 'taliklaw01.GroundAllows'. -/
def groundAllowsUptoCard : Claim7 := { stood := { row := groundAllowsUptoRow, standIns := [], harness := (true, "99b83803a9891c0921a936b8a49bf615485dc23245ae15ec723995fc1b66ec00"), looks := false }, kinds := [], alts := [], laidByText := true, laidKinds := [.data, .data, .data], laidTests := true, laidLooks := .later }
def GroundAllowsUptoCardSaid : Prop := Claim7.holds Tryd.pinned (.plain (OpenSpec.upto groundAllowsSpec)) groundAllowsUptoCard

/-- THE SECOND FORM's CARD OF 'taliklaw01.GroundRivals'. -/
def groundRivalsUptoCard : Claim7 := { stood := { row := groundRivalsUptoRow, standIns := [], harness := (true, "99b83803a9891c0921a936b8a49bf615485dc23245ae15ec723995fc1b66ec00"), looks := false }, kinds := [], alts := [], laidByText := true, laidKinds := [.data, .data, .data], laidTests := true, laidLooks := .later }
def GroundRivalsUptoCardSaid : Prop := Claim7.holds Tryd.pinned (.plain (OpenSpec.upto groundRivalsSpec)) groundRivalsUptoCard

/-- THE SECOND FORM's CARD OF 'taliklaw01.GroundMore'. -/
def groundMoreUptoCard : Claim7 := { stood := { row := groundMoreUptoRow, standIns := [], harness := (true, "99b83803a9891c0921a936b8a49bf615485dc23245ae15ec723995fc1b66ec00"), looks := false }, kinds := [], alts := [], laidByText := true, laidKinds := [.data, .data, .data], laidTests := true, laidLooks := .later }
def GroundMoreUptoCardSaid : Prop := Claim7.holds Tryd.pinned (.plain (OpenSpec.upto groundMoreSpec)) groundMoreUptoCard

/-- THE SECOND FORM's CARD OF 'taliklaw01.GroundYears'. -/
def groundYearsUptoCard : Claim7 := { stood := { row := groundYearsUptoRow, standIns := [], harness := (true, "99b83803a9891c0921a936b8a49bf615485dc23245ae15ec723995fc1b66ec00"), looks := false }, kinds := [], alts := [], laidByText := true, laidKinds := [.data, .data, .data], laidTests := true, laidLooks := .later }
def GroundYearsUptoCardSaid : Prop := Claim7.holds Tryd.pinned (.plain (OpenSpec.upto groundYearsSpec)) groundYearsUptoCard
end Rows
end Go.Proofs.YtbidmbjkjpdgdaaDoor
