/-
  DERIVED. GIVEN WITH THE SEED: THE CARDS: each row of YtbidmbjkjpdgdaaGreatDoorRows.lean that lists a variable, with what it lists TIED to the program's text (the seventh form; the later family's looks); each row that meets fmt, with fmt's text TOLD by the authors' own Lean function (tested against real Go, not proved from fmt's source: count such statements apart). THE CARD IS WHAT COUNTS. Prove the row's statement (the work); the ties are given (YtbidmbjkjpdgdaaGreatDoorTie.lean); close each card by the builder's one call (the guide's Derived/Test/ToyasCard.lean, 'card_holds'). Laid BY PROGRAM, IN A SANDBOX (cutbox-door.mjs). By AI agents, Wed Nov 11 2026. No macro, syntax, notation, axiom, sorry.
-/
import Derived.Test.YtbidmbjkjpdgdaaGreatDoorRows
import GoSem.ClaimSeven
namespace Go.Proofs.YtbidmbjkjpdgdaaGreatDoor
namespace Rows

/-- THE TIED CARD OF 'taliklaw01.GroundBooks'. -/
def groundBooksCard : Claim7 := { stood := { row := groundBooksRow, standIns := [], harness := (true, "2015fadda03da7cef8634854c8b03ee93d6f0e60a5b979943136338f714ab6e2"), looks := true }, kinds := [], alts := [], laidByText := true, laidKinds := [.data, .data, .data, .data, .pinned], laidTests := true, laidLooks := .later }
def GroundBooksCardSaid : Prop := Claim7.holds Tryz.pinned (.plain (OpenSpec.ofChange groundBooksSpec)) groundBooksCard

/-- THE TIED CARD OF 'taliklaw01.GroundReads'. -/
def groundReadsCard : Claim7 := { stood := { row := groundReadsRow, standIns := [], harness := (true, "2015fadda03da7cef8634854c8b03ee93d6f0e60a5b979943136338f714ab6e2"), looks := true }, kinds := [], alts := [], laidByText := true, laidKinds := [.data, .data, .data, .data, .pinned], laidTests := true, laidLooks := .later }
def GroundReadsCardSaid : Prop := Claim7.holds Tryz.pinned (.plain (OpenSpec.ofChange groundReadsSpec)) groundReadsCard

/-- THE TIED CARD OF 'taliklaw01.GroundSpoilt'. -/
def groundSpoiltCard : Claim7 := { stood := { row := groundSpoiltRow, standIns := [], harness := (true, "2015fadda03da7cef8634854c8b03ee93d6f0e60a5b979943136338f714ab6e2"), looks := true }, kinds := [], alts := [], laidByText := true, laidKinds := [.data, .data, .data, .data, .pinned], laidTests := true, laidLooks := .later }
def GroundSpoiltCardSaid : Prop := Claim7.holds Tryz.pinned (.plain (OpenSpec.ofChange groundSpoiltSpec)) groundSpoiltCard

/-- THE SECOND FORM's CARD OF 'taliklaw01.GroundBooks'. -/
def groundBooksUptoCard : Claim7 := { stood := { row := groundBooksUptoRow, standIns := [], harness := (true, "2015fadda03da7cef8634854c8b03ee93d6f0e60a5b979943136338f714ab6e2"), looks := true }, kinds := [], alts := [], laidByText := true, laidKinds := [.data, .data, .data, .data, .pinned], laidTests := true, laidLooks := .later }
def GroundBooksUptoCardSaid : Prop := Claim7.holds Tryz.pinned (.plain (OpenSpec.upto groundBooksSpec)) groundBooksUptoCard

/-- THE SECOND FORM's CARD OF 'taliklaw01.GroundReads'. -/
def groundReadsUptoCard : Claim7 := { stood := { row := groundReadsUptoRow, standIns := [], harness := (true, "2015fadda03da7cef8634854c8b03ee93d6f0e60a5b979943136338f714ab6e2"), looks := true }, kinds := [], alts := [], laidByText := true, laidKinds := [.data, .data, .data, .data, .pinned], laidTests := true, laidLooks := .later }
def GroundReadsUptoCardSaid : Prop := Claim7.holds Tryz.pinned (.plain (OpenSpec.upto groundReadsSpec)) groundReadsUptoCard

/-- THE SECOND FORM's CARD OF 'taliklaw01.GroundSpoilt'. -/
def groundSpoiltUptoCard : Claim7 := { stood := { row := groundSpoiltUptoRow, standIns := [], harness := (true, "2015fadda03da7cef8634854c8b03ee93d6f0e60a5b979943136338f714ab6e2"), looks := true }, kinds := [], alts := [], laidByText := true, laidKinds := [.data, .data, .data, .data, .pinned], laidTests := true, laidLooks := .later }
def GroundSpoiltUptoCardSaid : Prop := Claim7.holds Tryz.pinned (.plain (OpenSpec.upto groundSpoiltSpec)) groundSpoiltUptoCard
end Rows
end Go.Proofs.YtbidmbjkjpdgdaaGreatDoor
