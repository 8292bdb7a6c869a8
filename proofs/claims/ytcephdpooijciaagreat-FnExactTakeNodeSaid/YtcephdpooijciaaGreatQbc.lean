/- The closed cells of the row of FnExactTakeNode are what the program forces: by reckoning. No condition. -/
import Derived.Test.YtcephdpooijciaaGreatPs
open Go Go.Vm Go.Proofs Go.IntWalk Go.RowKit
set_option maxRecDepth 100000
set_option maxHeartbeats 4000000
set_option linter.unusedSimpArgs false
set_option linter.unusedVariables false
set_option linter.unusedSectionVars false
namespace Go.Proofs.YtcephdpooijciaaGreat.W
theorem closed_FnExactTakeNode : joinedFacts Tryz.prog 4 Tryz.f4 Rows.fnExactTakeNodeSpec Rows.fnExactTakeNodeRow = true := by
  unfold joinedFacts; rw [seat_enter, seat_lifts, seat_make]; kernel_rfl
end Go.Proofs.YtcephdpooijciaaGreat.W
