/- FnExactBusyIn holds: for all arguments the law returns true and changes nothing. No condition. -/
import Derived.Test.YtcephdpooijciaaQac
import Derived.Test.YtcephdpooijciaaQa2
open Go Go.Vm Go.Proofs Go.IntWalk Go.RowKit
set_option maxRecDepth 100000
set_option maxHeartbeats 4000000
set_option linter.unusedSimpArgs false
set_option linter.unusedVariables false
set_option linter.unusedSectionVars false
namespace Go.Proofs.Ytcephdpooijciaa.W
attribute [local irreducible] kJ ev evx vops vstep vgo vgd vget vcall vcallFn vcallA vcallB vts vres vcond vbin
theorem lifted_FnExactBusyIn (os : Os) (started : os.Started) (H : Type) (enc : TypeId × Value → H) :
    ReturnsInHanded {} Try.checked os 6 .any (Rows.fnExactBusyInSpec.pre6 enc Try.prog Try.f6 Rows.fnExactBusyInRow.domain false) (Rows.fnExactBusyInSpec.post enc Try.prog Try.f6 false true false false) :=
  row_true (C := Try.checked) (tb := 4) (by kernel_rfl) started (by kernel_rfl) Try.func6
    (ChangeSpec.witness6 (enc := enc) (C := Try.checked) false ⟨#[], #[.agg #[.int .i64 0, .int .i64 0, .slice none 0 0, .slice none 0 0, .slice none 0 0, .int .i64 0, .int .i64 0, .int .i64 0, .slice none 0 0, .int .i64 0, .slice none 0 0, .slice none 0 0, .slice none 0 0]], []⟩ 12 (by kernel_rfl) (by kernel_rfl) (by kernel_rfl) (by kernel_rfl))
    12 (by kernel_rfl) rfl rfl rfl (fun ds h => match ds, h with | [_], _ => ⟨rfl, rfl, rfl⟩) all_BusyIn
theorem law_FnExactBusyIn : Rows.fnExactBusyInRow.holds Try.pinned (OpenSpec.ofChange Rows.fnExactBusyInSpec) :=
  OpenClaim.holds_of_wide 6 Try.f6 rfl rfl rfl rfl rfl rfl rfl ⟨rfl, rfl, rfl, rfl, rfl⟩ rfl rfl rfl rfl rfl (by kernel_rfl) Try.func6 closed_FnExactBusyIn
    (of_decide_eq_true (by kernel_rfl)) (by unfold Func.isWrapper; first | (rw [if_pos (by decide +kernel)]; kernel_rfl) | (rw [if_neg (by decide +kernel)]; exact ⟨rfl, rfl⟩))
    (fun os started H enc _ => lifted_FnExactBusyIn os started H enc)end Go.Proofs.Ytcephdpooijciaa.W
namespace Go.Proofs.Ytcephdpooijciaa
theorem FnExactBusyIn_holds : Rows.FnExactBusyInSaid := W.law_FnExactBusyIn
#print axioms FnExactBusyIn_holds
end Go.Proofs.Ytcephdpooijciaa
