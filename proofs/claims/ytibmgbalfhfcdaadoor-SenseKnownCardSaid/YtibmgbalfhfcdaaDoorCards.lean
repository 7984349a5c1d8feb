/-
  DERIVED. GIVEN WITH THE SEED: THE CARDS: each row of YtibmgbalfhfcdaaDoorRows.lean that lists a variable, with what it lists TIED to the program's text (the seventh form; the later family's looks); each row that meets fmt, with fmt's text TOLD by the authors' own Lean function (tested against real Go, not proved from fmt's source: count such statements apart). THE CARD IS WHAT COUNTS. Prove the row's statement (the work); the ties are given (YtibmgbalfhfcdaaDoorTie.lean); close each card by the builder's one call (the guide's Derived/Test/ToyasCard.lean, 'card_holds'). Laid BY PROGRAM, IN A SANDBOX (cutbox-door.mjs). By AI agents, Wed Nov 11 2026. No macro, syntax, notation, axiom, sorry.
-/
import Derived.Test.YtibmgbalfhfcdaaDoorRows
import GoSem.ClaimSeven
namespace Go.Proofs.YtibmgbalfhfcdaaDoor
namespace Rows

/-- THE TIED CARD OF 'taliklaw05.SenseExplains'. -/
def senseExplainsCard : Claim7 := { stood := { row := senseExplainsRow, standIns := [], harness := (true, "830a09cd585922fafa68bc9167abd2d1a77e05da8f8022f9a6e6c6c449fcb127"), looks := false }, kinds := [], alts := [], laidByText := true, laidKinds := [.data, .data, .data], laidTests := true, laidLooks := .later }
def SenseExplainsCardSaid : Prop := Claim7.holds Tryd.pinned (.plain (OpenSpec.ofChange senseExplainsSpec)) senseExplainsCard

/-- THE TIED CARD OF 'taliklaw05.SenseTrue'. -/
def senseTrueCard : Claim7 := { stood := { row := senseTrueRow, standIns := [], harness := (true, "830a09cd585922fafa68bc9167abd2d1a77e05da8f8022f9a6e6c6c449fcb127"), looks := false }, kinds := [], alts := [], laidByText := true, laidKinds := [.data, .data, .data], laidTests := true, laidLooks := .later }
def SenseTrueCardSaid : Prop := Claim7.holds Tryd.pinned (.plain (OpenSpec.ofChange senseTrueSpec)) senseTrueCard

/-- THE TIED CARD OF 'taliklaw05.SenseLeasts'. -/
def senseLeastsCard : Claim7 := { stood := { row := senseLeastsRow, standIns := [], harness := (true, "830a09cd585922fafa68bc9167abd2d1a77e05da8f8022f9a6e6c6c449fcb127"), looks := false }, kinds := [], alts := [], laidByText := true, laidKinds := [.data, .data, .data], laidTests := true, laidLooks := .later }
def SenseLeastsCardSaid : Prop := Claim7.holds Tryd.pinned (.plain (OpenSpec.ofChange senseLeastsSpec)) senseLeastsCard

/-- THE TIED CARD OF 'taliklaw05.SenseRivals'. -/
def senseRivalsCard : Claim7 := { stood := { row := senseRivalsRow, standIns := [], harness := (true, "830a09cd585922fafa68bc9167abd2d1a77e05da8f8022f9a6e6c6c449fcb127"), looks := false }, kinds := [], alts := [], laidByText := true, laidKinds := [.data, .data, .data], laidTests := true, laidLooks := .later }
def SenseRivalsCardSaid : Prop := Claim7.holds Tryd.pinned (.plain (OpenSpec.ofChange senseRivalsSpec)) senseRivalsCard

/-- THE TIED CARD OF 'taliklaw05.SenseKnown'. -/
def senseKnownCard : Claim7 := { stood := { row := senseKnownRow, standIns := [], harness := (true, "830a09cd585922fafa68bc9167abd2d1a77e05da8f8022f9a6e6c6c449fcb127"), looks := false }, kinds := [], alts := [], laidByText := true, laidKinds := [.data, .data, .data], laidTests := true, laidLooks := .later }
def SenseKnownCardSaid : Prop := Claim7.holds Tryd.pinned (.plain (OpenSpec.ofChange senseKnownSpec)) senseKnownCard

/-- THE TIED CARD OF 'taliklaw05.SenseMore'. -/
def senseMoreCard : Claim7 := { stood := { row := senseMoreRow, standIns := [], harness := (true, "830a09cd585922fafa68bc9167abd2d1a77e05da8f8022f9a6e6c6c449fcb127"), looks := false }, kinds := [], alts := [], laidByText := true, laidKinds := [.data, .data, .data], laidTests := true, laidLooks := .later }
def SenseMoreCardSaid : Prop := Claim7.holds Tryd.pinned (.plain (OpenSpec.ofChange senseMoreSpec)) senseMoreCard

/-- THE TIED CARD OF 'taliklaw05.SenseShown'. -/
def senseShownCard : Claim7 := { stood := { row := senseShownRow, standIns := [], harness := (true, "830a09cd585922fafa68bc9167abd2d1a77e05da8f8022f9a6e6c6c449fcb127"), looks := false }, kinds := [], alts := [], laidByText := true, laidKinds := [.data, .data, .data], laidTests := true, laidLooks := .later }
def SenseShownCardSaid : Prop := Claim7.holds Tryd.pinned (.plain (OpenSpec.ofChange senseShownSpec)) senseShownCard

/-- THE TIED CARD OF 'taliklaw05.SenseAgrees'. -/
def senseAgreesCard : Claim7 := { stood := { row := senseAgreesRow, standIns := [], harness := (true, "830a09cd585922fafa68bc9167abd2d1a77e05da8f8022f9a6e6c6c449fcb127"), looks := false }, kinds := [], alts := [], laidByText := true, laidKinds := [.data, .data, .data], laidTests := true, laidLooks := .later }
def SenseAgreesCardSaid : Prop := Claim7.holds Tryd.pinned (.plain (OpenSpec.ofChange senseAgreesSpec)) senseAgreesCard

/-- THE SECOND FORM's CARD OF 'taliklaw05.SenseExplains'. -/
def senseExplainsUptoCard : Claim7 := { stood := { row := senseExplainsUptoRow, standIns := [], harness := (true, "830a09cd585922fafa68bc9167abd2d1a77e05da8f8022f9a6e6c6c449fcb127"), looks := false }, kinds := [], alts := [], laidByText := true, laidKinds := [.data, .data, .data], laidTests := true, laidLooks := .later }
def SenseExplainsUptoCardSaid : Prop := Claim7.holds Tryd.pinned (.plain (OpenSpec.upto senseExplainsSpec)) senseExplainsUptoCard

/-- THE SECOND FORM's CARD OF 'taliklaw05.SenseTrue'. -/
def senseTrueUptoCard : Claim7 := { stood := { row := senseTrueUptoRow, standIns := [], harness := (true, "830a09cd585922fafa68bc9167abd2d1a77e05da8f8022f9a6e6c6c449fcb127"), looks := false }, kinds := [], alts := [], laidByText := true, laidKinds := [.data, .data, .data], laidTests := true, laidLooks := .later }
def SenseTrueUptoCardSaid : Prop := Claim7.holds Tryd.pinned (.plain (OpenSpec.upto senseTrueSpec)) senseTrueUptoCard

/-- THE SECOND FORM's CARD OF 'taliklaw05.SenseLeasts'. -/
def senseLeastsUptoCard : Claim7 := { stood := { row := senseLeastsUptoRow, standIns := [], harness := (true, "830a09cd585922fafa68bc9167abd2d1a77e05da8f8022f9a6e6c6c449fcb127"), looks := false }, kinds := [], alts := [], laidByText := true, laidKinds := [.data, .data, .data], laidTests := true, laidLooks := .later }
def SenseLeastsUptoCardSaid : Prop := Claim7.holds Tryd.pinned (.plain (OpenSpec.upto senseLeastsSpec)) senseLeastsUptoCard

/-- THE SECOND FORM's CARD OF 'taliklaw05.SenseRivals'. -/
def senseRivalsUptoCard : Claim7 := { stood := { row := senseRivalsUptoRow, standIns := [], harness := (true, "830a09cd585922fafa68bc9167abd2d1a77e05da8f8022f9a6e6c6c449fcb127"), looks := false }, kinds := [], alts := [], laidByText := true, laidKinds := [.data, .data, .data], laidTests := true, laidLooks := .later }
def SenseRivalsUptoCardSaid : Prop := Claim7.holds Tryd.pinned (.plain (OpenSpec.upto senseRivalsSpec)) senseRivalsUptoCard

/-- THE SECOND FORM's CARD OF 'taliklaw05.SenseKnown'. -/
def senseKnownUptoCard : Claim7 := { stood := { row := senseKnownUptoRow, standIns := [], harness := (true, "830a09cd585922fafa68bc9167abd2d1a77e05da8f8022f9a6e6c6c449fcb127"), looks := false }, kinds := [], alts := [], laidByText := true, laidKinds := [.data, .data, .data], laidTests := true, laidLooks := .later }
def SenseKnownUptoCardSaid : Prop := Claim7.holds Tryd.pinned (.plain (OpenSpec.upto senseKnownSpec)) senseKnownUptoCard

/-- THE SECOND FORM's CARD OF 'taliklaw05.SenseMore'. -/
def senseMoreUptoCard : Claim7 := { stood := { row := senseMoreUptoRow, standIns := [], harness := (true, "830a09cd585922fafa68bc9167abd2d1a77e05da8f8022f9a6e6c6c449fcb127"), looks := false }, kinds := [], alts := [], laidByText := true, laidKinds := [.data, .data, .data], laidTests := true, laidLooks := .later }
def SenseMoreUptoCardSaid : Prop := Claim7.holds Tryd.pinned (.plain (OpenSpec.upto senseMoreSpec)) senseMoreUptoCard

/-- THE SECOND FORM's CARD OF 'taliklaw05.SenseShown'. -/
def senseShownUptoCard : Claim7 := { stood := { row := senseShownUptoRow, standIns := [], harness := (true, "830a09cd585922fafa68bc9167abd2d1a77e05da8f8022f9a6e6c6c449fcb127"), looks := false }, kinds := [], alts := [], laidByText := true, laidKinds := [.data, .data, .data], laidTests := true, laidLooks := .later }
def SenseShownUptoCardSaid : Prop := Claim7.holds Tryd.pinned (.plain (OpenSpec.upto senseShownSpec)) senseShownUptoCard

/-- THE SECOND FORM's CARD OF 'taliklaw05.SenseAgrees'. -/
def senseAgreesUptoCard : Claim7 := { stood := { row := senseAgreesUptoRow, standIns := [], harness := (true, "830a09cd585922fafa68bc9167abd2d1a77e05da8f8022f9a6e6c6c449fcb127"), looks := false }, kinds := [], alts := [], laidByText := true, laidKinds := [.data, .data, .data], laidTests := true, laidLooks := .later }
def SenseAgreesUptoCardSaid : Prop := Claim7.holds Tryd.pinned (.plain (OpenSpec.upto senseAgreesSpec)) senseAgreesUptoCard
end Rows
end Go.Proofs.YtibmgbalfhfcdaaDoor
