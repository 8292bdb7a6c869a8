/- The closed cells of the row of FnExactIsDone are what the program forces: by reckoning. No condition. -/
import Derived.Test.YtmpndkhnajogkaaPs
open Go Go.Vm Go.Proofs Go.IntWalk Go.RowKit
set_option maxRecDepth 100000
set_option maxHeartbeats 4000000
set_option linter.unusedSimpArgs false
set_option linter.unusedVariables false
set_option linter.unusedSectionVars false
namespace Go.Proofs.Ytmpndkhnajogkaa.W
theorem closed_FnExactIsDone : joinedFacts Try.prog 3 Try.f3 Rows.fnExactIsDoneSpec Rows.fnExactIsDoneRow = true := by
  unfold joinedFacts; rw [seat_enter, seat_lifts, seat_make]; kernel_rfl
end Go.Proofs.Ytmpndkhnajogkaa.W
