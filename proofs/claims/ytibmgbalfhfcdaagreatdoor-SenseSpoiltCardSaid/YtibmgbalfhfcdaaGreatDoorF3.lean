import Derived.Test.YtibmgbalfhfcdaaGreatDoorF2
set_option linter.unusedVariables false
set_option maxRecDepth 100000
namespace Go.Proofs.YtibmgbalfhfcdaaGreatDoor.Abs
open Go.Shelf Go.Sort
end Go.Proofs.YtibmgbalfhfcdaaGreatDoor.Abs
