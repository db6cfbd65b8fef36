/- Facts on the program's types and functions, by program. -/
import Derived.Test.YtaldphhdkmchhaaEng
import Derived.Test.YtaldphhdkmchhaaRows
namespace Go.Proofs.Ytaldphhdkmchhaa
set_option linter.unusedVariables false
open Go
theorem mixed : Try.prog.follows .mixedOrders = true := by kernel_rfl
end Go.Proofs.Ytaldphhdkmchhaa
