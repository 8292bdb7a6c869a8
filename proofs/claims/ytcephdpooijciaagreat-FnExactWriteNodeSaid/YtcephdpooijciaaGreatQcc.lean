/- The closed cells of the row of FnExactWriteNode are what the program forces: by reckoning. No condition. -/
import Derived.Test.YtcephdpooijciaaGreatPs
open Go Go.Vm Go.Proofs Go.IntWalk Go.RowKit
set_option maxRecDepth 100000
set_option maxHeartbeats 4000000
set_option linter.unusedSimpArgs false
set_option linter.unusedVariables false
set_option linter.unusedSectionVars false
namespace Go.Proofs.YtcephdpooijciaaGreat.W
theorem closed_FnExactWriteNode : joinedFacts Tryz.prog 5 Tryz.f5 Rows.fnExactWriteNodeSpec Rows.fnExactWriteNodeRow = true := by
  unfold joinedFacts; rw [seat_enter, seat_lifts, seat_make]; kernel_rfl
end Go.Proofs.YtcephdpooijciaaGreat.W
