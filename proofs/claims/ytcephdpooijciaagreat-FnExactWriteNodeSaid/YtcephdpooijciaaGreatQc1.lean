/- FnExactWriteNode holds: for all arguments the law returns true and changes nothing. No condition. -/
import Derived.Test.YtcephdpooijciaaGreatQcc
import Derived.Test.YtcephdpooijciaaGreatQc0
open Go Go.Vm Go.Proofs Go.IntWalk Go.RowKit
set_option maxRecDepth 100000
set_option maxHeartbeats 4000000
set_option linter.unusedSimpArgs false
set_option linter.unusedVariables false
set_option linter.unusedSectionVars false
namespace Go.Proofs.YtcephdpooijciaaGreat.W
attribute [local irreducible] kJ ev evx vops vstep vgo vgd vget vcall vcallFn vcallA vcallB vts vres vcond vbin
theorem lifted_FnExactWriteNode (os : Os) (started : os.Started) (H : Type) (enc : TypeId × Value → H) :
    ReturnsInHanded {} Tryz.checked os 5 .any (Rows.fnExactWriteNodeSpec.pre6 enc Tryz.prog Tryz.f5 Rows.fnExactWriteNodeRow.domain false) (Rows.fnExactWriteNodeSpec.post enc Tryz.prog Tryz.f5 false true false false) :=
  row_true (C := Tryz.checked) (tb := 4) (by kernel_rfl) started (by kernel_rfl) Tryz.func5
    (ChangeSpec.witness6 (enc := enc) (C := Tryz.checked) false ⟨#[], #[.agg #[.int .i64 0, .slice none 0 0, .slice none 0 0, .slice none 0 0], .int .i64 0, .agg #[.int .i64 0, .int .i64 0, .int .i64 0, .slice none 0 0]], []⟩ 12 (by kernel_rfl) (by kernel_rfl) (by kernel_rfl) (by kernel_rfl))
    12 (by kernel_rfl) rfl rfl rfl (fun ds h => match ds, h with | [_, _, _], _ => ⟨rfl, rfl, rfl⟩) all_WriteNode
theorem law_FnExactWriteNode : Rows.fnExactWriteNodeRow.holds Tryz.pinned (OpenSpec.ofChange Rows.fnExactWriteNodeSpec) :=
  OpenClaim.holds_of_wide 5 Tryz.f5 rfl rfl rfl rfl rfl rfl rfl ⟨rfl, rfl, rfl, rfl, rfl⟩ rfl rfl rfl rfl rfl (by kernel_rfl) Tryz.func5 closed_FnExactWriteNode
    (of_decide_eq_true (by kernel_rfl)) (by unfold Func.isWrapper; first | (rw [if_pos (by decide +kernel)]; kernel_rfl) | (rw [if_neg (by decide +kernel)]; exact ⟨rfl, rfl⟩))
    (fun os started H enc _ => lifted_FnExactWriteNode os started H enc)end Go.Proofs.YtcephdpooijciaaGreat.W
namespace Go.Proofs.YtcephdpooijciaaGreat
theorem FnExactWriteNode_holds : Rows.FnExactWriteNodeSaid := W.law_FnExactWriteNode
#print axioms FnExactWriteNode_holds
end Go.Proofs.YtcephdpooijciaaGreat
