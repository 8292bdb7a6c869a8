/- FnExactConfigFault holds: for all arguments the law returns true and changes nothing. No condition. -/
import Derived.Test.YtheclfollianjaaQac
import Derived.Test.YtheclfollianjaaQa0
open Go Go.Vm Go.Proofs Go.IntWalk Go.RowKit
set_option maxRecDepth 100000
set_option maxHeartbeats 4000000
set_option linter.unusedSimpArgs false
set_option linter.unusedVariables false
set_option linter.unusedSectionVars false
namespace Go.Proofs.Ytheclfollianjaa.W
attribute [local irreducible] kJ ev evx vops vstep vgo vgd vget vcall vcallFn vcallA vcallB vts vres vcond vbin
theorem lifted_FnExactConfigFault (os : Os) (started : os.Started) (H : Type) (enc : TypeId × Value → H) :
    ReturnsInHanded {} Try.checked os 11 .any (Rows.fnExactConfigFaultSpec.pre6 enc Try.prog Try.f11 Rows.fnExactConfigFaultRow.domain false) (Rows.fnExactConfigFaultSpec.post enc Try.prog Try.f11 false true false false) :=
  row_true (C := Try.checked) (tb := 4) (by kernel_rfl) started (by kernel_rfl) Try.func11
    (ChangeSpec.witness6 (enc := enc) (C := Try.checked) false ⟨#[], #[.agg #[.int .i64 0, .int .i64 0, .int .i64 0, .int .i64 0]], []⟩ 12 (by kernel_rfl) (by kernel_rfl) (by kernel_rfl) (by kernel_rfl))
    12 (by kernel_rfl) rfl rfl rfl (fun ds h => match ds, h with | [_], _ => ⟨rfl, rfl, rfl⟩) all_ConfigFault
theorem law_FnExactConfigFault : Rows.fnExactConfigFaultRow.holds Try.pinned (OpenSpec.ofChange Rows.fnExactConfigFaultSpec) :=
  OpenClaim.holds_of_wide 11 Try.f11 rfl rfl rfl rfl rfl rfl rfl ⟨rfl, rfl, rfl, rfl, rfl⟩ rfl rfl rfl rfl rfl (by kernel_rfl) Try.func11 closed_FnExactConfigFault
    (of_decide_eq_true (by kernel_rfl)) (by unfold Func.isWrapper; first | (rw [if_pos (by decide +kernel)]; kernel_rfl) | (rw [if_neg (by decide +kernel)]; exact ⟨rfl, rfl⟩))
    (fun os started H enc _ => lifted_FnExactConfigFault os started H enc)end Go.Proofs.Ytheclfollianjaa.W
namespace Go.Proofs.Ytheclfollianjaa
theorem FnExactConfigFault_holds : Rows.FnExactConfigFaultSaid := W.law_FnExactConfigFault
#print axioms FnExactConfigFault_holds
end Go.Proofs.Ytheclfollianjaa
