/- What the pinned program of this seat is, as far as the rows ask: by reckoning. No condition. -/
import Derived.Test.YtegohioalgikjaaRows
import Derived.Test.YtegohioalgikjaaVg
open Go Go.Vm Go.Proofs Go.IntWalk Go.RowKit
set_option maxRecDepth 100000
set_option maxHeartbeats 4000000
set_option linter.unusedSimpArgs false
set_option linter.unusedVariables false
set_option linter.unusedSectionVars false
namespace Go.Proofs.Ytegohioalgikjaa.W
theorem seat_enter : Try.prog.mayEnter = true := by kernel_rfl
theorem seat_lifts : Try.prog.liftsFinal = false := by kernel_rfl
theorem seat_make : Try.prog.make = some .cut := by kernel_rfl
end Go.Proofs.Ytegohioalgikjaa.W
