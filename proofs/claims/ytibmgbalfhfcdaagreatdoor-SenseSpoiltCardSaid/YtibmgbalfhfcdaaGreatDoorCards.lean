/-
  DERIVED. GIVEN WITH THE SEED: THE CARDS: each row of YtibmgbalfhfcdaaGreatDoorRows.lean that lists a variable, with what it lists TIED to the program's text (the seventh form; the later family's looks); each row that meets fmt, with fmt's text TOLD by the authors' own Lean function (tested against real Go, not proved from fmt's source: count such statements apart). THE CARD IS WHAT COUNTS. Prove the row's statement (the work); the ties are given (YtibmgbalfhfcdaaGreatDoorTie.lean); close each card by the builder's one call (the guide's Derived/Test/ToyasCard.lean, 'card_holds'). Laid BY PROGRAM, IN A SANDBOX (cutbox-door.mjs). By AI agents, Wed Nov 11 2026. No macro, syntax, notation, axiom, sorry.
-/
import Derived.Test.YtibmgbalfhfcdaaGreatDoorRows
import GoSem.ClaimSeven
namespace Go.Proofs.YtibmgbalfhfcdaaGreatDoor
namespace Rows

/-- THE TIED CARD OF 'taliklaw05.SenseBooks'. -/
def senseBooksCard : Claim7 := { stood := { row := senseBooksRow, standIns := [], harness := (true, "32187d3b03c02cfee2cb0f71b29cbec81949d6e5f023d15a6e4c41cc16ef7258"), looks := true }, kinds := [], alts := [], laidByText := true, laidKinds := [.data, .data, .data, .data, .pinned], laidTests := true, laidLooks := .later }
def SenseBooksCardSaid : Prop := Claim7.holds Tryz.pinned (.plain (OpenSpec.ofChange senseBooksSpec)) senseBooksCard

/-- THE TIED CARD OF 'taliklaw05.SenseReads'. -/
def senseReadsCard : Claim7 := { stood := { row := senseReadsRow, standIns := [], harness := (true, "32187d3b03c02cfee2cb0f71b29cbec81949d6e5f023d15a6e4c41cc16ef7258"), looks := true }, kinds := [], alts := [], laidByText := true, laidKinds := [.data, .data, .data, .data, .pinned], laidTests := true, laidLooks := .later }
def SenseReadsCardSaid : Prop := Claim7.holds Tryz.pinned (.plain (OpenSpec.ofChange senseReadsSpec)) senseReadsCard

/-- THE TIED CARD OF 'taliklaw05.SenseSpoilt'. -/
def senseSpoiltCard : Claim7 := { stood := { row := senseSpoiltRow, standIns := [], harness := (true, "32187d3b03c02cfee2cb0f71b29cbec81949d6e5f023d15a6e4c41cc16ef7258"), looks := true }, kinds := [], alts := [], laidByText := true, laidKinds := [.data, .data, .data, .data, .pinned], laidTests := true, laidLooks := .later }
def SenseSpoiltCardSaid : Prop := Claim7.holds Tryz.pinned (.plain (OpenSpec.ofChange senseSpoiltSpec)) senseSpoiltCard

/-- THE SECOND FORM's CARD OF 'taliklaw05.SenseBooks'. -/
def senseBooksUptoCard : Claim7 := { stood := { row := senseBooksUptoRow, standIns := [], harness := (true, "32187d3b03c02cfee2cb0f71b29cbec81949d6e5f023d15a6e4c41cc16ef7258"), looks := true }, kinds := [], alts := [], laidByText := true, laidKinds := [.data, .data, .data, .data, .pinned], laidTests := true, laidLooks := .later }
def SenseBooksUptoCardSaid : Prop := Claim7.holds Tryz.pinned (.plain (OpenSpec.upto senseBooksSpec)) senseBooksUptoCard

/-- THE SECOND FORM's CARD OF 'taliklaw05.SenseReads'. -/
def senseReadsUptoCard : Claim7 := { stood := { row := senseReadsUptoRow, standIns := [], harness := (true, "32187d3b03c02cfee2cb0f71b29cbec81949d6e5f023d15a6e4c41cc16ef7258"), looks := true }, kinds := [], alts := [], laidByText := true, laidKinds := [.data, .data, .data, .data, .pinned], laidTests := true, laidLooks := .later }
def SenseReadsUptoCardSaid : Prop := Claim7.holds Tryz.pinned (.plain (OpenSpec.upto senseReadsSpec)) senseReadsUptoCard

/-- THE SECOND FORM's CARD OF 'taliklaw05.SenseSpoilt'. -/
def senseSpoiltUptoCard : Claim7 := { stood := { row := senseSpoiltUptoRow, standIns := [], harness := (true, "32187d3b03c02cfee2cb0f71b29cbec81949d6e5f023d15a6e4c41cc16ef7258"), looks := true }, kinds := [], alts := [], laidByText := true, laidKinds := [.data, .data, .data, .data, .pinned], laidTests := true, laidLooks := .later }
def SenseSpoiltUptoCardSaid : Prop := Claim7.holds Tryz.pinned (.plain (OpenSpec.upto senseSpoiltSpec)) senseSpoiltUptoCard
end Rows
end Go.Proofs.YtibmgbalfhfcdaaGreatDoor
