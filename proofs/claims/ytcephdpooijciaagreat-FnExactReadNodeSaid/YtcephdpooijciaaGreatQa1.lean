/- FnExactReadNode holds: for all arguments the law returns true and changes nothing. No condition. -/
import Derived.Test.YtcephdpooijciaaGreatQac
import Derived.Test.YtcephdpooijciaaGreatQa0
open Go Go.Vm Go.Proofs Go.IntWalk Go.RowKit
set_option maxRecDepth 100000
set_option maxHeartbeats 4000000
set_option linter.unusedSimpArgs false
set_option linter.unusedVariables false
set_option linter.unusedSectionVars false
namespace Go.Proofs.YtcephdpooijciaaGreat.W
attribute [local irreducible] kJ ev evx vops vstep vgo vgd vget vcall vcallFn vcallA vcallB vts vres vcond vbin
theorem lifted_FnExactReadNode (os : Os) (started : os.Started) (H : Type) (enc : TypeId × Value → H) :
    ReturnsInHanded {} Tryz.checked os 3 .any (Rows.fnExactReadNodeSpec.pre6 enc Tryz.prog Tryz.f3 Rows.fnExactReadNodeRow.domain false) (Rows.fnExactReadNodeSpec.post enc Tryz.prog Tryz.f3 false true false false) :=
  row_true (C := Tryz.checked) (tb := 4) (by kernel_rfl) started (by kernel_rfl) Tryz.func3
    (ChangeSpec.witness6 (enc := enc) (C := Tryz.checked) false ⟨#[], #[.agg #[.int .i64 0, .slice none 0 0, .slice none 0 0, .slice none 0 0], .int .i64 0], []⟩ 12 (by kernel_rfl) (by kernel_rfl) (by kernel_rfl) (by kernel_rfl))
    12 (by kernel_rfl) rfl rfl rfl (fun ds h => match ds, h with | [_, _], _ => ⟨rfl, rfl, rfl⟩) all_ReadNode
theorem law_FnExactReadNode : Rows.fnExactReadNodeRow.holds Tryz.pinned (OpenSpec.ofChange Rows.fnExactReadNodeSpec) :=
  OpenClaim.holds_of_wide 3 Tryz.f3 rfl rfl rfl rfl rfl rfl rfl ⟨rfl, rfl, rfl, rfl, rfl⟩ rfl rfl rfl rfl rfl (by kernel_rfl) Tryz.func3 closed_FnExactReadNode
    (of_decide_eq_true (by kernel_rfl)) (by unfold Func.isWrapper; first | (rw [if_pos (by decide +kernel)]; kernel_rfl) | (rw [if_neg (by decide +kernel)]; exact ⟨rfl, rfl⟩))
    (fun os started H enc _ => lifted_FnExactReadNode os started H enc)end Go.Proofs.YtcephdpooijciaaGreat.W
namespace Go.Proofs.YtcephdpooijciaaGreat
theorem FnExactReadNode_holds : Rows.FnExactReadNodeSaid := W.law_FnExactReadNode
#print axioms FnExactReadNode_holds
end Go.Proofs.YtcephdpooijciaaGreat
