/- FnExactArenaFault holds: for all arguments the law returns true and changes nothing. No condition. -/
import Derived.Test.YtheclfollianjaaQbc
import Derived.Test.YtheclfollianjaaQb1
open Go Go.Vm Go.Proofs Go.IntWalk Go.RowKit
set_option maxRecDepth 100000
set_option maxHeartbeats 4000000
set_option linter.unusedSimpArgs false
set_option linter.unusedVariables false
set_option linter.unusedSectionVars false
namespace Go.Proofs.Ytheclfollianjaa.W
attribute [local irreducible] kJ ev evx vops vstep vgo vgd vget vcall vcallFn vcallA vcallB vts vres vcond
theorem lifted_FnExactArenaFault (os : Os) (started : os.Started) (H : Type) (enc : TypeId × Value → H) :
    ReturnsInHanded {} Try.checked os 7 .any (Rows.fnExactArenaFaultSpec.pre6 enc Try.prog Try.f7 Rows.fnExactArenaFaultRow.domain false) (Rows.fnExactArenaFaultSpec.post enc Try.prog Try.f7 false true false false) :=
  row_true (C := Try.checked) (tb := 4) (by kernel_rfl) started (by kernel_rfl) Try.func7
    (ChangeSpec.witness6 (enc := enc) (C := Try.checked) false ⟨#[], #[.agg #[.int .i64 0, .slice none 0 0, .slice none 0 0, .slice none 0 0]], []⟩ 12 (by kernel_rfl) (by kernel_rfl) (by kernel_rfl) (by kernel_rfl))
    12 (by kernel_rfl) rfl rfl rfl (fun ds h => match ds, h with | [_], _ => ⟨rfl, rfl, rfl⟩) all_ArenaFault
theorem law_FnExactArenaFault : Rows.fnExactArenaFaultRow.holds Try.pinned (OpenSpec.ofChange Rows.fnExactArenaFaultSpec) :=
  OpenClaim.holds_of_wide 7 Try.f7 rfl rfl rfl rfl rfl rfl rfl ⟨rfl, rfl, rfl, rfl, rfl⟩ rfl rfl rfl rfl rfl (by kernel_rfl) Try.func7 closed_FnExactArenaFault
    (of_decide_eq_true (by kernel_rfl)) (by unfold Func.isWrapper; first | (rw [if_pos (by decide +kernel)]; kernel_rfl) | (rw [if_neg (by decide +kernel)]; exact ⟨rfl, rfl⟩))
    (fun os started H enc _ => lifted_FnExactArenaFault os started H enc)end Go.Proofs.Ytheclfollianjaa.W
namespace Go.Proofs.Ytheclfollianjaa
theorem FnExactArenaFault_holds : Rows.FnExactArenaFaultSaid := W.law_FnExactArenaFault
#print axioms FnExactArenaFault_holds
end Go.Proofs.Ytheclfollianjaa
