/- FnPairs holds: for all arguments the law returns true and changes nothing. No condition. -/
import Derived.Test.YtmpndkhnajogkaaQac
import Derived.Test.YtmpndkhnajogkaaQa3
open Go Go.Vm Go.Proofs Go.IntWalk Go.RowKit
set_option maxRecDepth 100000
set_option maxHeartbeats 4000000
set_option linter.unusedSimpArgs false
set_option linter.unusedVariables false
set_option linter.unusedSectionVars false
namespace Go.Proofs.Ytmpndkhnajogkaa.W
attribute [local irreducible] kJ ev evx vops vstep vgo vgd vget vcall vcallFn vcallA vcallB vts vres vcond vbin
theorem all_FnPairs (gs : List Arg) (h : shpA Try.prog 12 [65] gs) : Sat Try.prog 14 gs true (rB true) := by
  obtain ⟨x0, gs, rfl, h0, rfl⟩ := h
  obtain ⟨c, rfl, hb⟩ := shp_Y (n := 10) rfl h0
  exact l_FnPairs c hb
theorem lifted_FnPairs (os : Os) (started : os.Started) (H : Type) (enc : TypeId × Value → H) :
    ReturnsInHanded {} Try.checked os 14 .any (Rows.fnPairsSpec.pre6 enc Try.prog Try.f14 Rows.fnPairsRow.domain false) (Rows.fnPairsSpec.post enc Try.prog Try.f14 false true false false) :=
  row_true (C := Try.checked) (tb := 4) (by kernel_rfl) started (by kernel_rfl) Try.func14
    (ChangeSpec.witness6 (enc := enc) (C := Try.checked) false ⟨#[], #[.slice none 0 0], []⟩ 12 (by kernel_rfl) (by kernel_rfl) (by kernel_rfl) (by kernel_rfl))
    12 (by kernel_rfl) rfl rfl rfl (fun ds h => match ds, h with | [_], _ => ⟨rfl, rfl, rfl⟩) all_FnPairs
theorem law_FnPairs : Rows.fnPairsRow.holds Try.pinned (OpenSpec.ofChange Rows.fnPairsSpec) :=
  OpenClaim.holds_of_wide 14 Try.f14 rfl rfl rfl rfl rfl rfl rfl ⟨rfl, rfl, rfl, rfl, rfl⟩ rfl rfl rfl rfl rfl (by kernel_rfl) Try.func14 closed_FnPairs
    (of_decide_eq_true (by kernel_rfl)) (by unfold Func.isWrapper; first | (rw [if_pos (by decide +kernel)]; kernel_rfl) | (rw [if_neg (by decide +kernel)]; exact ⟨rfl, rfl⟩))
    (fun os started H enc _ => lifted_FnPairs os started H enc)end Go.Proofs.Ytmpndkhnajogkaa.W
namespace Go.Proofs.Ytmpndkhnajogkaa
theorem FnPairs_holds : Rows.FnPairsSaid := W.law_FnPairs
#print axioms FnPairs_holds
end Go.Proofs.Ytmpndkhnajogkaa
