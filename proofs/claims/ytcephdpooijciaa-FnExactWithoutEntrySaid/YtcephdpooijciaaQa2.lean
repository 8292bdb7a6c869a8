/- FnExactWithoutEntry holds: for all arguments the law returns true and changes nothing. No condition. -/
import Derived.Test.YtcephdpooijciaaQac
import Derived.Test.YtcephdpooijciaaQa1
open Go Go.Vm Go.Proofs Go.IntWalk Go.RowKit
set_option maxRecDepth 100000
set_option maxHeartbeats 4000000
set_option linter.unusedSimpArgs false
set_option linter.unusedVariables false
set_option linter.unusedSectionVars false
namespace Go.Proofs.Ytcephdpooijciaa.W
attribute [local irreducible] kJ ev evx vops vstep vgo vgd vget vcall vcallFn vcallA vcallB vts vres vcond vbin
theorem lifted_FnExactWithoutEntry (os : Os) (started : os.Started) (H : Type) (enc : TypeId × Value → H) :
    ReturnsInHanded {} Try.checked os 10 .any (Rows.fnExactWithoutEntrySpec.pre6 enc Try.prog Try.f10 Rows.fnExactWithoutEntryRow.domain false) (Rows.fnExactWithoutEntrySpec.post enc Try.prog Try.f10 false true false false) :=
  row_true (C := Try.checked) (tb := 4) (by kernel_rfl) started (by kernel_rfl) Try.func10
    (ChangeSpec.witness6 (enc := enc) (C := Try.checked) false ⟨#[], #[.agg #[.int .i64 0, .int .i64 0, .int .i64 0, .slice none 0 0], .int .i64 0, .int .i64 0], []⟩ 12 (by kernel_rfl) (by kernel_rfl) (by kernel_rfl) (by kernel_rfl))
    12 (by kernel_rfl) rfl rfl rfl (fun ds h => match ds, h with | [_, _, _], _ => ⟨rfl, rfl, rfl⟩) all_WithoutEntry
theorem law_FnExactWithoutEntry : Rows.fnExactWithoutEntryRow.holds Try.pinned (OpenSpec.ofChange Rows.fnExactWithoutEntrySpec) :=
  OpenClaim.holds_of_wide 10 Try.f10 rfl rfl rfl rfl rfl rfl rfl ⟨rfl, rfl, rfl, rfl, rfl⟩ rfl rfl rfl rfl rfl (by kernel_rfl) Try.func10 closed_FnExactWithoutEntry
    (of_decide_eq_true (by kernel_rfl)) (by unfold Func.isWrapper; first | (rw [if_pos (by decide +kernel)]; kernel_rfl) | (rw [if_neg (by decide +kernel)]; exact ⟨rfl, rfl⟩))
    (fun os started H enc _ => lifted_FnExactWithoutEntry os started H enc)end Go.Proofs.Ytcephdpooijciaa.W
namespace Go.Proofs.Ytcephdpooijciaa
theorem FnExactWithoutEntry_holds : Rows.FnExactWithoutEntrySaid := W.law_FnExactWithoutEntry
#print axioms FnExactWithoutEntry_holds
end Go.Proofs.Ytcephdpooijciaa
