/-
  test
-/
import Derived.Test.YtbidmbjkjpdgdaaDoorGf2
import Derived.KernelRfl
set_option maxRecDepth 100000
namespace Go.Proofs.YtbidmbjkjpdgdaaDoor.Abs
theorem known_true : g15_taliklaw01_known = some true := by kernel_rfl
end Go.Proofs.YtbidmbjkjpdgdaaDoor.Abs
