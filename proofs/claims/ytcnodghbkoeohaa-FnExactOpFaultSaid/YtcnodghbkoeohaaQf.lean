/- FnExactOpFault holds: for all arguments the law returns true and changes nothing. No condition. -/
import Derived.Test.YtcnodghbkoeohaaPd
open Go Go.Vm Go.Proofs Go.IntWalk Go.RowKit
set_option maxRecDepth 100000
set_option maxHeartbeats 4000000
set_option linter.unusedSimpArgs false
set_option linter.unusedVariables false
set_option linter.unusedSectionVars false
namespace Go.Proofs.Ytcnodghbkoeohaa.W
attribute [local irreducible] kJ ev evx vops vstep vgo vgd vget vcall vcallFn vcallA vcallB vts vres vcond
theorem l_OpFault (a : Op) (b : Int) : Sat Try.prog 10 [aOp a, aI b] true (rB true) := by
  refine sat_walk (fn := Try.f10) rfl rfl rfl (Nat.le_of_ble_eq_true rfl) fun fr hP hN hbnd => ?_
  have hE : (envOf fr Try.prog).Ok := envOf_ok hP
  have hM := follows_of hP
  have hS : ∀ {draw ops}, statB Try.f10.ntmps draw ops = true → statB (envOf fr Try.prog).fr.N draw ops = true := fun h => by rw [envOf_fr, hN]; exact h
  repeat' (first
    | exact True.intro
    | refine ev_seq ?_
    | ((first | refine vgd_go ?_ | refine ev_region hE hM (hS (by decide +kernel)) ?_ | refine ev_if ?_ | refine end_ret hE rfl rfl ?_ | refine end_norm hE rfl rfl ?_ | refine vcall_A ?_ | refine vcallB_of hP (s_szOp a _ (by omega) (by omega)) ?_ | refine vcallB_of hP (s_toOp a (by simp only [lessN] at *; omega)) ?_ | refine vcallB_of hP (s_specOpFault a b (by simp only [lessN] at *; omega)) ?_ | refine vcallB_of hP (s_implOpFault a b) ?_ | refine vcallB_of hP (s_eqOp a a) ?_); simp (maxSteps := 2000000) only [go_sem, hP, ↓reduceIte, Nat.reduceAdd, Nat.reduceMul, Nat.reduceEqDiff, Nat.reduceSub, Nat.reduceLeDiff, reduceCtorEq])
    | refine ev_skip ?_ | refine ev_block ?_ | refine ev_blk ?_ | refine ev_ret ?_ | refine ev_exit ?_ | refine evx_code_ret ?_ | refine evx_blk_ret ?_ | refine evx_lp_ret ?_
    | refine evx_code_exit ?_ | refine evx_lp_exit ?_ | refine evx_blk_hit ?_ | refine evx_blk_pass (by decide) ?_
    | refine And.intro ?_ ?_ | intro _ | decide +kernel | omega)
  all_goals simp_all
theorem all_OpFault (gs : List Arg) (h : shpA Try.prog 12 [85, 2] gs) : Sat Try.prog 10 gs true (rB true) := by
  obtain ⟨x0, gs, rfl, h0, x1, gs, rfl, h1, rfl⟩ := h
  obtain ⟨a, rfl⟩ := shp_Op (n := 6) rfl h0
  obtain ⟨b, rfl, _⟩ := shp_i64 (n := 11) rfl h1
  exact l_OpFault a b
theorem lifted_FnExactOpFault (os : Os) (started : os.Started) (H : Type) (enc : TypeId × Value → H) :
    ReturnsInHanded {} Try.checked os 10 .any (Rows.fnExactOpFaultSpec.pre6 enc Try.prog Try.f10 Rows.fnExactOpFaultRow.domain false) (Rows.fnExactOpFaultSpec.post enc Try.prog Try.f10 false true false false) :=
  row_true (C := Try.checked) (tb := 4) (by kernel_rfl) started (by kernel_rfl) Try.func10
    (ChangeSpec.witness6 (enc := enc) (C := Try.checked) false ⟨#[], #[.agg #[.int .i64 0, .int .i64 0, .slice none 0 0, .slice none 0 0, .int .i64 0, .slice none 0 0, .slice none 0 0, .slice none 0 0, .int .i64 0], .int .i64 0], []⟩ 12 (by kernel_rfl) (by kernel_rfl) (by kernel_rfl) (by kernel_rfl))
    12 (by kernel_rfl) rfl rfl rfl (fun ds h => match ds, h with | [_, _], _ => ⟨rfl, rfl, rfl⟩) all_OpFault
theorem law_FnExactOpFault : Rows.fnExactOpFaultRow.holds Try.pinned (OpenSpec.ofChange Rows.fnExactOpFaultSpec) :=
  OpenClaim.holds_of_wide 10 Try.f10 rfl rfl rfl rfl rfl rfl rfl ⟨rfl, rfl, rfl, rfl, rfl⟩ rfl rfl rfl rfl rfl (by kernel_rfl) Try.func10 (by kernel_rfl)
    (of_decide_eq_true (by kernel_rfl)) (by unfold Func.isWrapper; first | (rw [if_pos (by decide +kernel)]; kernel_rfl) | (rw [if_neg (by decide +kernel)]; exact ⟨rfl, rfl⟩))
    (fun os started H enc _ => lifted_FnExactOpFault os started H enc)
end Go.Proofs.Ytcnodghbkoeohaa.W
namespace Go.Proofs.Ytcnodghbkoeohaa
theorem FnExactOpFault_holds : Rows.FnExactOpFaultSaid := W.law_FnExactOpFault
#print axioms FnExactOpFault_holds
end Go.Proofs.Ytcnodghbkoeohaa
