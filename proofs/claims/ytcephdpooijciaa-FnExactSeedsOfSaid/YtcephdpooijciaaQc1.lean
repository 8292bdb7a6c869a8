/- FnExactSeedsOf holds: for all arguments the law returns true and changes nothing. No condition. -/
import Derived.Test.YtcephdpooijciaaQcc
import Derived.Test.YtcephdpooijciaaQc0
open Go Go.Vm Go.Proofs Go.IntWalk Go.RowKit
set_option maxRecDepth 100000
set_option maxHeartbeats 4000000
set_option linter.unusedSimpArgs false
set_option linter.unusedVariables false
set_option linter.unusedSectionVars false
namespace Go.Proofs.Ytcephdpooijciaa.W
attribute [local irreducible] kJ ev evx vops vstep vgo vgd vget vcall vcallFn vcallA vcallB vts vres vcond vbin
theorem lifted_FnExactSeedsOf (os : Os) (started : os.Started) (H : Type) (enc : TypeId × Value → H) :
    ReturnsInHanded {} Try.checked os 4 .any (Rows.fnExactSeedsOfSpec.pre6 enc Try.prog Try.f4 Rows.fnExactSeedsOfRow.domain false) (Rows.fnExactSeedsOfSpec.post enc Try.prog Try.f4 false true false false) :=
  row_true (C := Try.checked) (tb := 4) (by kernel_rfl) started (by kernel_rfl) Try.func4
    (ChangeSpec.witness6 (enc := enc) (C := Try.checked) false ⟨#[], #[.slice none 0 0, .int .i64 0], []⟩ 12 (by kernel_rfl) (by kernel_rfl) (by kernel_rfl) (by kernel_rfl))
    12 (by kernel_rfl) rfl rfl rfl (fun ds h => match ds, h with | [_, _], _ => ⟨rfl, rfl, rfl⟩) all_SeedsOf
theorem law_FnExactSeedsOf : Rows.fnExactSeedsOfRow.holds Try.pinned (OpenSpec.ofChange Rows.fnExactSeedsOfSpec) :=
  OpenClaim.holds_of_wide 4 Try.f4 rfl rfl rfl rfl rfl rfl rfl ⟨rfl, rfl, rfl, rfl, rfl⟩ rfl rfl rfl rfl rfl (by kernel_rfl) Try.func4 closed_FnExactSeedsOf
    (of_decide_eq_true (by kernel_rfl)) (by unfold Func.isWrapper; first | (rw [if_pos (by decide +kernel)]; kernel_rfl) | (rw [if_neg (by decide +kernel)]; exact ⟨rfl, rfl⟩))
    (fun os started H enc _ => lifted_FnExactSeedsOf os started H enc)end Go.Proofs.Ytcephdpooijciaa.W
namespace Go.Proofs.Ytcephdpooijciaa
theorem FnExactSeedsOf_holds : Rows.FnExactSeedsOfSaid := W.law_FnExactSeedsOf
#print axioms FnExactSeedsOf_holds
end Go.Proofs.Ytcephdpooijciaa
