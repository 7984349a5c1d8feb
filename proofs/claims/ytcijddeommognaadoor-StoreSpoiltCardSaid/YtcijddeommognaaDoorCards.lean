/-
  DERIVED. GIVEN WITH THE SEED: THE CARDS: each row of YtcijddeommognaaDoorRows.lean that lists a variable, with what it lists TIED to the program's text (the seventh form; the later family's looks); each row that meets fmt, with fmt's text TOLD by the authors' own Lean function (tested against real Go, not proved from fmt's source: count such statements apart). THE CARD IS WHAT COUNTS. Prove the row's statement (the work); the ties are given (YtcijddeommognaaDoorTie.lean); close each card by the builder's one call (the guide's Derived/Test/ToyasCard.lean, 'card_holds'). Laid BY PROGRAM, IN A SANDBOX (cutbox-door.mjs). By AI agents, Wed Nov 11 2026. No macro, syntax, notation, axiom, sorry.
-/
import Derived.Test.YtcijddeommognaaDoorRows
import GoSem.ClaimSeven
namespace Go.Proofs.YtcijddeommognaaDoor
namespace Rows

/-- THE TIED CARD OF 'taliklaw06.StoreKeeps'. -/
def storeKeepsCard : Claim7 := { stood := { row := storeKeepsRow, standIns := [], harness := (true, "831359286614d4e802237af15434ca860b427ef25f5dbabb7bba5594c590e5ce"), looks := true }, kinds := [], alts := [], laidByText := true, laidKinds := [.data, .data, .data], laidTests := true, laidLooks := .later }
def StoreKeepsCardSaid : Prop := Claim7.holds Tryd.pinned (.plain (OpenSpec.ofChange storeKeepsSpec)) storeKeepsCard

/-- THE TIED CARD OF 'taliklaw06.StoreFaults'. -/
def storeFaultsCard : Claim7 := { stood := { row := storeFaultsRow, standIns := [], harness := (true, "831359286614d4e802237af15434ca860b427ef25f5dbabb7bba5594c590e5ce"), looks := true }, kinds := [], alts := [], laidByText := true, laidKinds := [.data, .data, .data], laidTests := true, laidLooks := .later }
def StoreFaultsCardSaid : Prop := Claim7.holds Tryd.pinned (.plain (OpenSpec.ofChange storeFaultsSpec)) storeFaultsCard

/-- THE TIED CARD OF 'taliklaw06.StoreEnough'. -/
def storeEnoughCard : Claim7 := { stood := { row := storeEnoughRow, standIns := [], harness := (true, "831359286614d4e802237af15434ca860b427ef25f5dbabb7bba5594c590e5ce"), looks := true }, kinds := [], alts := [], laidByText := true, laidKinds := [.data, .data, .data], laidTests := true, laidLooks := .later }
def StoreEnoughCardSaid : Prop := Claim7.holds Tryd.pinned (.plain (OpenSpec.ofChange storeEnoughSpec)) storeEnoughCard

/-- THE TIED CARD OF 'taliklaw06.StoreBests'. -/
def storeBestsCard : Claim7 := { stood := { row := storeBestsRow, standIns := [], harness := (true, "831359286614d4e802237af15434ca860b427ef25f5dbabb7bba5594c590e5ce"), looks := true }, kinds := [], alts := [], laidByText := true, laidKinds := [.data, .data, .data], laidTests := true, laidLooks := .later }
def StoreBestsCardSaid : Prop := Claim7.holds Tryd.pinned (.plain (OpenSpec.ofChange storeBestsSpec)) storeBestsCard

/-- THE TIED CARD OF 'taliklaw06.StoreRivals'. -/
def storeRivalsCard : Claim7 := { stood := { row := storeRivalsRow, standIns := [], harness := (true, "831359286614d4e802237af15434ca860b427ef25f5dbabb7bba5594c590e5ce"), looks := true }, kinds := [], alts := [], laidByText := true, laidKinds := [.data, .data, .data], laidTests := true, laidLooks := .later }
def StoreRivalsCardSaid : Prop := Claim7.holds Tryd.pinned (.plain (OpenSpec.ofChange storeRivalsSpec)) storeRivalsCard

/-- THE TIED CARD OF 'taliklaw06.StoreFloors'. -/
def storeFloorsCard : Claim7 := { stood := { row := storeFloorsRow, standIns := [], harness := (true, "831359286614d4e802237af15434ca860b427ef25f5dbabb7bba5594c590e5ce"), looks := true }, kinds := [], alts := [], laidByText := true, laidKinds := [.data, .data, .data], laidTests := true, laidLooks := .later }
def StoreFloorsCardSaid : Prop := Claim7.holds Tryd.pinned (.plain (OpenSpec.ofChange storeFloorsSpec)) storeFloorsCard

/-- THE TIED CARD OF 'taliklaw06.StoreFloored'. -/
def storeFlooredCard : Claim7 := { stood := { row := storeFlooredRow, standIns := [], harness := (true, "831359286614d4e802237af15434ca860b427ef25f5dbabb7bba5594c590e5ce"), looks := true }, kinds := [], alts := [], laidByText := true, laidKinds := [.data, .data, .data], laidTests := true, laidLooks := .later }
def StoreFlooredCardSaid : Prop := Claim7.holds Tryd.pinned (.plain (OpenSpec.ofChange storeFlooredSpec)) storeFlooredCard

/-- THE TIED CARD OF 'taliklaw06.StoreMore'. -/
def storeMoreCard : Claim7 := { stood := { row := storeMoreRow, standIns := [], harness := (true, "831359286614d4e802237af15434ca860b427ef25f5dbabb7bba5594c590e5ce"), looks := true }, kinds := [], alts := [], laidByText := true, laidKinds := [.data, .data, .data], laidTests := true, laidLooks := .later }
def StoreMoreCardSaid : Prop := Claim7.holds Tryd.pinned (.plain (OpenSpec.ofChange storeMoreSpec)) storeMoreCard

/-- THE TIED CARD OF 'taliklaw06.StoreRuns'. -/
def storeRunsCard : Claim7 := { stood := { row := storeRunsRow, standIns := [], harness := (true, "831359286614d4e802237af15434ca860b427ef25f5dbabb7bba5594c590e5ce"), looks := true }, kinds := [], alts := [], laidByText := true, laidKinds := [.data, .data, .data], laidTests := true, laidLooks := .later }
def StoreRunsCardSaid : Prop := Claim7.holds Tryd.pinned (.plain (OpenSpec.ofChange storeRunsSpec)) storeRunsCard

/-- THE TIED CARD OF 'taliklaw06.StoreManifests'. -/
def storeManifestsCard : Claim7 := { stood := { row := storeManifestsRow, standIns := [], harness := (true, "831359286614d4e802237af15434ca860b427ef25f5dbabb7bba5594c590e5ce"), looks := true }, kinds := [], alts := [], laidByText := true, laidKinds := [.data, .data, .data, .data, .pinned], laidTests := true, laidLooks := .later }
def StoreManifestsCardSaid : Prop := Claim7.holds Tryd.pinned (.plain (OpenSpec.ofChange storeManifestsSpec)) storeManifestsCard

/-- THE TIED CARD OF 'taliklaw06.StoreReads'. -/
def storeReadsCard : Claim7 := { stood := { row := storeReadsRow, standIns := [], harness := (true, "831359286614d4e802237af15434ca860b427ef25f5dbabb7bba5594c590e5ce"), looks := true }, kinds := [], alts := [], laidByText := true, laidKinds := [.data, .data, .data, .data, .pinned], laidTests := true, laidLooks := .later }
def StoreReadsCardSaid : Prop := Claim7.holds Tryd.pinned (.plain (OpenSpec.ofChange storeReadsSpec)) storeReadsCard

/-- THE TIED CARD OF 'taliklaw06.StoreSpoilt'. -/
def storeSpoiltCard : Claim7 := { stood := { row := storeSpoiltRow, standIns := [], harness := (true, "831359286614d4e802237af15434ca860b427ef25f5dbabb7bba5594c590e5ce"), looks := true }, kinds := [], alts := [], laidByText := true, laidKinds := [.data, .data, .data, .data, .pinned], laidTests := true, laidLooks := .later }
def StoreSpoiltCardSaid : Prop := Claim7.holds Tryd.pinned (.plain (OpenSpec.ofChange storeSpoiltSpec)) storeSpoiltCard

/-- THE SECOND FORM's CARD OF 'taliklaw06.StoreKeeps'. -/
def storeKeepsUptoCard : Claim7 := { stood := { row := storeKeepsUptoRow, standIns := [], harness := (true, "831359286614d4e802237af15434ca860b427ef25f5dbabb7bba5594c590e5ce"), looks := true }, kinds := [], alts := [], laidByText := true, laidKinds := [.data, .data, .data], laidTests := true, laidLooks := .later }
def StoreKeepsUptoCardSaid : Prop := Claim7.holds Tryd.pinned (.plain (OpenSpec.upto storeKeepsSpec)) storeKeepsUptoCard

/-- THE SECOND FORM's CARD OF 'taliklaw06.StoreFaults'. -/
def storeFaultsUptoCard : Claim7 := { stood := { row := storeFaultsUptoRow, standIns := [], harness := (true, "831359286614d4e802237af15434ca860b427ef25f5dbabb7bba5594c590e5ce"), looks := true }, kinds := [], alts := [], laidByText := true, laidKinds := [.data, .data, .data], laidTests := true, laidLooks := .later }
def StoreFaultsUptoCardSaid : Prop := Claim7.holds Tryd.pinned (.plain (OpenSpec.upto storeFaultsSpec)) storeFaultsUptoCard

/-- THE SECOND FORM's CARD OF 'taliklaw06.StoreEnough'. -/
def storeEnoughUptoCard : Claim7 := { stood := { row := storeEnoughUptoRow, standIns := [], harness := (true, "831359286614d4e802237af15434ca860b427ef25f5dbabb7bba5594c590e5ce"), looks := true }, kinds := [], alts := [], laidByText := true, laidKinds := [.data, .data, .data], laidTests := true, laidLooks := .later }
def StoreEnoughUptoCardSaid : Prop := Claim7.holds Tryd.pinned (.plain (OpenSpec.upto storeEnoughSpec)) storeEnoughUptoCard

/-- THE SECOND FORM's CARD OF 'taliklaw06.StoreBests'. -/
def storeBestsUptoCard : Claim7 := { stood := { row := storeBestsUptoRow, standIns := [], harness := (true, "831359286614d4e802237af15434ca860b427ef25f5dbabb7bba5594c590e5ce"), looks := true }, kinds := [], alts := [], laidByText := true, laidKinds := [.data, .data, .data], laidTests := true, laidLooks := .later }
def StoreBestsUptoCardSaid : Prop := Claim7.holds Tryd.pinned (.plain (OpenSpec.upto storeBestsSpec)) storeBestsUptoCard

/-- THE SECOND FORM's CARD OF 'taliklaw06.StoreRivals'. -/
def storeRivalsUptoCard : Claim7 := { stood := { row := storeRivalsUptoRow, standIns := [], harness := (true, "831359286614d4e802237af15434ca860b427ef25f5dbabb7bba5594c590e5ce"), looks := true }, kinds := [], alts := [], laidByText := true, laidKinds := [.data, .data, .data], laidTests := true, laidLooks := .later }
def StoreRivalsUptoCardSaid : Prop := Claim7.holds Tryd.pinned (.plain (OpenSpec.upto storeRivalsSpec)) storeRivalsUptoCard

/-- THE SECOND FORM's CARD OF 'taliklaw06.StoreFloors'. -/
def storeFloorsUptoCard : Claim7 := { stood := { row := storeFloorsUptoRow, standIns := [], harness := (true, "831359286614d4e802237af15434ca860b427ef25f5dbabb7bba5594c590e5ce"), looks := true }, kinds := [], alts := [], laidByText := true, laidKinds := [.data, .data, .data], laidTests := true, laidLooks := .later }
def StoreFloorsUptoCardSaid : Prop := Claim7.holds Tryd.pinned (.plain (OpenSpec.upto storeFloorsSpec)) storeFloorsUptoCard

/-- THE SECOND FORM's CARD OF 'taliklaw06.StoreFloored'. -/
def storeFlooredUptoCard : Claim7 := { stood := { row := storeFlooredUptoRow, standIns := [], harness := (true, "831359286614d4e802237af15434ca860b427ef25f5dbabb7bba5594c590e5ce"), looks := true }, kinds := [], alts := [], laidByText := true, laidKinds := [.data, .data, .data], laidTests := true, laidLooks := .later }
def StoreFlooredUptoCardSaid : Prop := Claim7.holds Tryd.pinned (.plain (OpenSpec.upto storeFlooredSpec)) storeFlooredUptoCard

/-- THE SECOND FORM's CARD OF 'taliklaw06.StoreMore'. -/
def storeMoreUptoCard : Claim7 := { stood := { row := storeMoreUptoRow, standIns := [], harness := (true, "831359286614d4e802237af15434ca860b427ef25f5dbabb7bba5594c590e5ce"), looks := true }, kinds := [], alts := [], laidByText := true, laidKinds := [.data, .data, .data], laidTests := true, laidLooks := .later }
def StoreMoreUptoCardSaid : Prop := Claim7.holds Tryd.pinned (.plain (OpenSpec.upto storeMoreSpec)) storeMoreUptoCard

/-- THE SECOND FORM's CARD OF 'taliklaw06.StoreRuns'. -/
def storeRunsUptoCard : Claim7 := { stood := { row := storeRunsUptoRow, standIns := [], harness := (true, "831359286614d4e802237af15434ca860b427ef25f5dbabb7bba5594c590e5ce"), looks := true }, kinds := [], alts := [], laidByText := true, laidKinds := [.data, .data, .data], laidTests := true, laidLooks := .later }
def StoreRunsUptoCardSaid : Prop := Claim7.holds Tryd.pinned (.plain (OpenSpec.upto storeRunsSpec)) storeRunsUptoCard

/-- THE SECOND FORM's CARD OF 'taliklaw06.StoreManifests'. -/
def storeManifestsUptoCard : Claim7 := { stood := { row := storeManifestsUptoRow, standIns := [], harness := (true, "831359286614d4e802237af15434ca860b427ef25f5dbabb7bba5594c590e5ce"), looks := true }, kinds := [], alts := [], laidByText := true, laidKinds := [.data, .data, .data, .data, .pinned], laidTests := true, laidLooks := .later }
def StoreManifestsUptoCardSaid : Prop := Claim7.holds Tryd.pinned (.plain (OpenSpec.upto storeManifestsSpec)) storeManifestsUptoCard

/-- THE SECOND FORM's CARD OF 'taliklaw06.StoreReads'. -/
def storeReadsUptoCard : Claim7 := { stood := { row := storeReadsUptoRow, standIns := [], harness := (true, "831359286614d4e802237af15434ca860b427ef25f5dbabb7bba5594c590e5ce"), looks := true }, kinds := [], alts := [], laidByText := true, laidKinds := [.data, .data, .data, .data, .pinned], laidTests := true, laidLooks := .later }
def StoreReadsUptoCardSaid : Prop := Claim7.holds Tryd.pinned (.plain (OpenSpec.upto storeReadsSpec)) storeReadsUptoCard

/-- THE SECOND FORM's CARD OF 'taliklaw06.StoreSpoilt'. -/
def storeSpoiltUptoCard : Claim7 := { stood := { row := storeSpoiltUptoRow, standIns := [], harness := (true, "831359286614d4e802237af15434ca860b427ef25f5dbabb7bba5594c590e5ce"), looks := true }, kinds := [], alts := [], laidByText := true, laidKinds := [.data, .data, .data, .data, .pinned], laidTests := true, laidLooks := .later }
def StoreSpoiltUptoCardSaid : Prop := Claim7.holds Tryd.pinned (.plain (OpenSpec.upto storeSpoiltSpec)) storeSpoiltUptoCard
end Rows
end Go.Proofs.YtcijddeommognaaDoor
