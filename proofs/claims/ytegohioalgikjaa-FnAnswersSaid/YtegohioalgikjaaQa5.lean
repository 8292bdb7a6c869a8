/- FnAnswers holds: for all arguments the law returns true and changes nothing. No condition. -/
import Derived.Test.YtegohioalgikjaaQac
import Derived.Test.YtegohioalgikjaaQa4
open Go Go.Vm Go.Proofs Go.IntWalk Go.RowKit
set_option maxRecDepth 100000
set_option maxHeartbeats 4000000
set_option linter.unusedSimpArgs false
set_option linter.unusedVariables false
set_option linter.unusedSectionVars false
namespace Go.Proofs.Ytegohioalgikjaa.W
attribute [local irreducible] kJ ev evx vops vstep vgo vgd vget vcall vcallFn vcallA vcallB vts vres vcond vbin
theorem all_FnAnswers (gs : List Arg) (h : shpA Try.prog 12 [22] gs) : Sat Try.prog 4 gs true (rB true) := by
  obtain ⟨x0, gs, rfl, h0, rfl⟩ := h
  obtain ⟨c, rfl, hb⟩ := shp_Y (n := 10) rfl h0
  exact l_FnAnswers c hb
theorem lifted_FnAnswers (os : Os) (started : os.Started) (H : Type) (enc : TypeId × Value → H) :
    ReturnsInHanded {} Try.checked os 4 .any (Rows.fnAnswersSpec.pre6 enc Try.prog Try.f4 Rows.fnAnswersRow.domain false) (Rows.fnAnswersSpec.post enc Try.prog Try.f4 false true false false) :=
  row_true (C := Try.checked) (tb := 4) (by kernel_rfl) started (by kernel_rfl) Try.func4
    (ChangeSpec.witness6 (enc := enc) (C := Try.checked) false ⟨#[], #[.slice none 0 0], []⟩ 12 (by kernel_rfl) (by kernel_rfl) (by kernel_rfl) (by kernel_rfl))
    12 (by kernel_rfl) rfl rfl rfl (fun ds h => match ds, h with | [_], _ => ⟨rfl, rfl, rfl⟩) all_FnAnswers
theorem law_FnAnswers : Rows.fnAnswersRow.holds Try.pinned (OpenSpec.ofChange Rows.fnAnswersSpec) :=
  OpenClaim.holds_of_wide 4 Try.f4 rfl rfl rfl rfl rfl rfl rfl ⟨rfl, rfl, rfl, rfl, rfl⟩ rfl rfl rfl rfl rfl (by kernel_rfl) Try.func4 closed_FnAnswers
    (of_decide_eq_true (by kernel_rfl)) (by unfold Func.isWrapper; first | (rw [if_pos (by decide +kernel)]; kernel_rfl) | (rw [if_neg (by decide +kernel)]; exact ⟨rfl, rfl⟩))
    (fun os started H enc _ => lifted_FnAnswers os started H enc)end Go.Proofs.Ytegohioalgikjaa.W
namespace Go.Proofs.Ytegohioalgikjaa
theorem FnAnswers_holds : Rows.FnAnswersSaid := W.law_FnAnswers
#print axioms FnAnswers_holds
end Go.Proofs.Ytegohioalgikjaa
