/- The closed cells of the row of FnSplits are what the program forces: by reckoning. No condition. -/
import Derived.Test.YtegohioalgikjaaGreatPs
open Go Go.Vm Go.Proofs Go.IntWalk Go.RowKit
set_option maxRecDepth 100000
set_option maxHeartbeats 4000000
set_option linter.unusedSimpArgs false
set_option linter.unusedVariables false
set_option linter.unusedSectionVars false
namespace Go.Proofs.YtegohioalgikjaaGreat.W
theorem closed_FnSplits : joinedFacts Tryz.prog 3 Tryz.f3 Rows.fnSplitsSpec Rows.fnSplitsRow = true := by
  unfold joinedFacts; rw [seat_enter, seat_lifts, seat_make]; kernel_rfl
end Go.Proofs.YtegohioalgikjaaGreat.W
