/- The closed cells of the row of FnPairs are what the program forces: by reckoning. No condition. -/
import Derived.Test.YtmpndkhnajogkaaPs
open Go Go.Vm Go.Proofs Go.IntWalk Go.RowKit
set_option maxRecDepth 100000
set_option maxHeartbeats 4000000
set_option linter.unusedSimpArgs false
set_option linter.unusedVariables false
set_option linter.unusedSectionVars false
namespace Go.Proofs.Ytmpndkhnajogkaa.W
theorem closed_FnPairs : joinedFacts Try.prog 14 Try.f14 Rows.fnPairsSpec Rows.fnPairsRow = true := by
  unfold joinedFacts; rw [seat_enter, seat_lifts, seat_make]; kernel_rfl
end Go.Proofs.Ytmpndkhnajogkaa.W
