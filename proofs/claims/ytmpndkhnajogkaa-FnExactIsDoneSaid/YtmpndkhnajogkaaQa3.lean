/- FnExactIsDone holds: for all arguments the law returns true and changes nothing. No condition. -/
import Derived.Test.YtmpndkhnajogkaaQac
import Derived.Test.YtmpndkhnajogkaaQa2
open Go Go.Vm Go.Proofs Go.IntWalk Go.RowKit
set_option maxRecDepth 100000
set_option maxHeartbeats 4000000
set_option linter.unusedSimpArgs false
set_option linter.unusedVariables false
set_option linter.unusedSectionVars false
namespace Go.Proofs.Ytmpndkhnajogkaa.W
attribute [local irreducible] kJ ev evx vops vstep vgo vgd vget vcall vcallFn vcallA vcallB vts vres vcond vbin
theorem lifted_FnExactIsDone (os : Os) (started : os.Started) (H : Type) (enc : TypeId × Value → H) :
    ReturnsInHanded {} Try.checked os 3 .any (Rows.fnExactIsDoneSpec.pre6 enc Try.prog Try.f3 Rows.fnExactIsDoneRow.domain false) (Rows.fnExactIsDoneSpec.post enc Try.prog Try.f3 false true false false) :=
  row_true (C := Try.checked) (tb := 4) (by kernel_rfl) started (by kernel_rfl) Try.func3
    (ChangeSpec.witness6 (enc := enc) (C := Try.checked) false ⟨#[], #[.agg #[.int .i64 0, .slice none 0 0, .slice none 0 0, .slice none 0 0, .int .i64 0, .slice none 0 0, .slice none 0 0], .int .i64 0], []⟩ 12 (by kernel_rfl) (by kernel_rfl) (by kernel_rfl) (by kernel_rfl))
    12 (by kernel_rfl) rfl rfl rfl (fun ds h => match ds, h with | [_, _], _ => ⟨rfl, rfl, rfl⟩) all_IsDone
theorem law_FnExactIsDone : Rows.fnExactIsDoneRow.holds Try.pinned (OpenSpec.ofChange Rows.fnExactIsDoneSpec) :=
  OpenClaim.holds_of_wide 3 Try.f3 rfl rfl rfl rfl rfl rfl rfl ⟨rfl, rfl, rfl, rfl, rfl⟩ rfl rfl rfl rfl rfl (by kernel_rfl) Try.func3 closed_FnExactIsDone
    (of_decide_eq_true (by kernel_rfl)) (by unfold Func.isWrapper; first | (rw [if_pos (by decide +kernel)]; kernel_rfl) | (rw [if_neg (by decide +kernel)]; exact ⟨rfl, rfl⟩))
    (fun os started H enc _ => lifted_FnExactIsDone os started H enc)end Go.Proofs.Ytmpndkhnajogkaa.W
namespace Go.Proofs.Ytmpndkhnajogkaa
theorem FnExactIsDone_holds : Rows.FnExactIsDoneSaid := W.law_FnExactIsDone
#print axioms FnExactIsDone_holds
end Go.Proofs.Ytmpndkhnajogkaa
