/- The closed cells of the row of FnAnswers are what the program forces: by reckoning. No condition. -/
import Derived.Test.YtegohioalgikjaaPs
open Go Go.Vm Go.Proofs Go.IntWalk Go.RowKit
set_option maxRecDepth 100000
set_option maxHeartbeats 4000000
set_option linter.unusedSimpArgs false
set_option linter.unusedVariables false
set_option linter.unusedSectionVars false
namespace Go.Proofs.Ytegohioalgikjaa.W
theorem closed_FnAnswers : joinedFacts Try.prog 4 Try.f4 Rows.fnAnswersSpec Rows.fnAnswersRow = true := by
  unfold joinedFacts; rw [seat_enter, seat_lifts, seat_make]; kernel_rfl
end Go.Proofs.Ytegohioalgikjaa.W
