/- FnExactNewArena holds: for all arguments the law returns true and changes nothing. No condition. -/
import Derived.Test.YtheclfollianjaaQac
import Derived.Test.YtheclfollianjaaQa1
open Go Go.Vm Go.Proofs Go.IntWalk Go.RowKit
set_option maxRecDepth 100000
set_option maxHeartbeats 4000000
set_option linter.unusedSimpArgs false
set_option linter.unusedVariables false
set_option linter.unusedSectionVars false
namespace Go.Proofs.Ytheclfollianjaa.W
attribute [local irreducible] kJ ev evx vops vstep vgo vgd vget vcall vcallFn vcallA vcallB vts vres vcond vbin
theorem lifted_FnExactNewArena (os : Os) (started : os.Started) (H : Type) (enc : TypeId × Value → H) :
    ReturnsInHanded {} Try.checked os 14 .any (Rows.fnExactNewArenaSpec.pre6 enc Try.prog Try.f14 Rows.fnExactNewArenaRow.domain false) (Rows.fnExactNewArenaSpec.post enc Try.prog Try.f14 false true false false) :=
  row_true (C := Try.checked) (tb := 4) (by kernel_rfl) started (by kernel_rfl) Try.func14
    (ChangeSpec.witness6 (enc := enc) (C := Try.checked) false ⟨#[], #[.int .i64 0, .int .i64 0], []⟩ 12 (by kernel_rfl) (by kernel_rfl) (by kernel_rfl) (by kernel_rfl))
    12 (by kernel_rfl) rfl rfl rfl (fun ds h => match ds, h with | [_, _], _ => ⟨rfl, rfl, rfl⟩) all_NewArena
theorem law_FnExactNewArena : Rows.fnExactNewArenaRow.holds Try.pinned (OpenSpec.ofChange Rows.fnExactNewArenaSpec) :=
  OpenClaim.holds_of_wide 14 Try.f14 rfl rfl rfl rfl rfl rfl rfl ⟨rfl, rfl, rfl, rfl, rfl⟩ rfl rfl rfl rfl rfl (by kernel_rfl) Try.func14 closed_FnExactNewArena
    (of_decide_eq_true (by kernel_rfl)) (by unfold Func.isWrapper; first | (rw [if_pos (by decide +kernel)]; kernel_rfl) | (rw [if_neg (by decide +kernel)]; exact ⟨rfl, rfl⟩))
    (fun os started H enc _ => lifted_FnExactNewArena os started H enc)end Go.Proofs.Ytheclfollianjaa.W
namespace Go.Proofs.Ytheclfollianjaa
theorem FnExactNewArena_holds : Rows.FnExactNewArenaSaid := W.law_FnExactNewArena
#print axioms FnExactNewArena_holds
end Go.Proofs.Ytheclfollianjaa
