/- The closed cells of the row of FnExactConfigFault are what the program forces: by reckoning. No condition. -/
import Derived.Test.YtheclfollianjaaPs
open Go Go.Vm Go.Proofs Go.IntWalk Go.RowKit
set_option maxRecDepth 100000
set_option maxHeartbeats 4000000
set_option linter.unusedSimpArgs false
set_option linter.unusedVariables false
set_option linter.unusedSectionVars false
namespace Go.Proofs.Ytheclfollianjaa.W
theorem closed_FnExactConfigFault : joinedFacts Try.prog 11 Try.f11 Rows.fnExactConfigFaultSpec Rows.fnExactConfigFaultRow = true := by
  unfold joinedFacts; rw [seat_enter, seat_lifts, seat_make]; kernel_rfl
end Go.Proofs.Ytheclfollianjaa.W
