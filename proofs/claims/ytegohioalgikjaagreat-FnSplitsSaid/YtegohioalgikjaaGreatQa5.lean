/- FnSplits holds: for all arguments the law returns true and changes nothing. No condition. -/
import Derived.Test.YtegohioalgikjaaGreatQac
import Derived.Test.YtegohioalgikjaaGreatQa4
open Go Go.Vm Go.Proofs Go.IntWalk Go.RowKit
set_option maxRecDepth 100000
set_option maxHeartbeats 4000000
set_option linter.unusedSimpArgs false
set_option linter.unusedVariables false
set_option linter.unusedSectionVars false
namespace Go.Proofs.YtegohioalgikjaaGreat.W
attribute [local irreducible] kJ ev evx vops vstep vgo vgd vget vcall vcallFn vcallA vcallB vts vres vcond vbin
theorem all_FnSplits (gs : List Arg) (h : shpA Tryz.prog 12 [22] gs) : Sat Tryz.prog 3 gs true (rB true) := by
  obtain ⟨x0, gs, rfl, h0, rfl⟩ := h
  obtain ⟨c, rfl, hb⟩ := shp_Y (n := 10) rfl h0
  exact l_FnSplits c hb
theorem lifted_FnSplits (os : Os) (started : os.Started) (H : Type) (enc : TypeId × Value → H) :
    ReturnsInHanded {} Tryz.checked os 3 .any (Rows.fnSplitsSpec.pre6 enc Tryz.prog Tryz.f3 Rows.fnSplitsRow.domain false) (Rows.fnSplitsSpec.post enc Tryz.prog Tryz.f3 false true false false) :=
  row_true (C := Tryz.checked) (tb := 4) (by kernel_rfl) started (by kernel_rfl) Tryz.func3
    (ChangeSpec.witness6 (enc := enc) (C := Tryz.checked) false ⟨#[], #[.slice none 0 0], []⟩ 12 (by kernel_rfl) (by kernel_rfl) (by kernel_rfl) (by kernel_rfl))
    12 (by kernel_rfl) rfl rfl rfl (fun ds h => match ds, h with | [_], _ => ⟨rfl, rfl, rfl⟩) all_FnSplits
theorem law_FnSplits : Rows.fnSplitsRow.holds Tryz.pinned (OpenSpec.ofChange Rows.fnSplitsSpec) :=
  OpenClaim.holds_of_wide 3 Tryz.f3 rfl rfl rfl rfl rfl rfl rfl ⟨rfl, rfl, rfl, rfl, rfl⟩ rfl rfl rfl rfl rfl (by kernel_rfl) Tryz.func3 closed_FnSplits
    (of_decide_eq_true (by kernel_rfl)) (by unfold Func.isWrapper; first | (rw [if_pos (by decide +kernel)]; kernel_rfl) | (rw [if_neg (by decide +kernel)]; exact ⟨rfl, rfl⟩))
    (fun os started H enc _ => lifted_FnSplits os started H enc)end Go.Proofs.YtegohioalgikjaaGreat.W
namespace Go.Proofs.YtegohioalgikjaaGreat
theorem FnSplits_holds : Rows.FnSplitsSaid := W.law_FnSplits
#print axioms FnSplits_holds
end Go.Proofs.YtegohioalgikjaaGreat
