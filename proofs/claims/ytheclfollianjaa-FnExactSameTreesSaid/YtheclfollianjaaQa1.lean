/- Contracts of functions that FnExactSameTrees reaches: what each returns; it writes to nothing of old. No condition but those that each theorem states. -/
import Derived.Test.YtheclfollianjaaQa0
open Go Go.Vm Go.Proofs Go.IntWalk Go.RowKit
set_option maxRecDepth 100000
set_option maxHeartbeats 4000000
set_option linter.unusedSimpArgs false
set_option linter.unusedVariables false
set_option linter.unusedSectionVars false
namespace Go.Proofs.Ytheclfollianjaa.W
attribute [local irreducible] kJ ev evx vops vstep vgo vgd vget vcall vcallFn vcallA vcallB vts vres vcond
theorem l_SameTrees (a : Tree) (b : Tree) : Sat Try.prog 4 [aTree a, aTree b] true (rB true) := by
  refine sat_walk (fn := Try.f4) rfl rfl rfl (Nat.le_of_ble_eq_true rfl) fun fr hP hN hbnd => ?_
  have hE : (envOf fr Try.prog).Ok := envOf_ok hP
  have hM := follows_of hP
  have hS : ∀ {draw ops}, statB Try.f4.ntmps draw ops = true → statB (envOf fr Try.prog).fr.N draw ops = true := fun h => by rw [envOf_fr, hN]; exact h
  repeat' (first
    | exact True.intro
    | refine ev_seq ?_
    | ((first | refine vgd_go ?_ | refine ev_region hE hM (hS (by decide +kernel)) ?_ | refine ev_if ?_ | refine end_ret hE rfl rfl ?_ | refine end_norm hE rfl rfl ?_ | refine vcall_A ?_ | refine vcallB_of hP (s_szTree a _ (by omega) (by omega)) ?_ | refine vcallB_of hP (s_szTree b _ (by simp only [lessN] at *; omega) (by simp only [lessN] at *; omega)) ?_ | refine vcallB_of hP (s_toTree a (by simp only [lessN] at *; omega)) ?_ | refine vcallB_of hP (s_toTree b (by simp only [lessN] at *; omega)) ?_ | refine vcallB_of hP (s_specSameTrees a b) ?_ | refine vcallB_of hP (s_implSameTrees a b) ?_ | refine vcallB_of hP (s_eqTree a a) ?_ | refine vcallB_of hP (s_eqTree b b) ?_); simp (maxSteps := 2000000) only [go_sem, hP, ↓reduceIte, Nat.reduceAdd, Nat.reduceMul, Nat.reduceEqDiff, Nat.reduceSub, Nat.reduceLeDiff, reduceCtorEq])
    | refine ev_skip ?_ | refine ev_block ?_ | refine ev_blk ?_ | refine ev_ret ?_ | refine ev_exit ?_ | refine evx_code_ret ?_ | refine evx_blk_ret ?_ | refine evx_lp_ret ?_
    | refine evx_code_exit ?_ | refine evx_lp_exit ?_ | refine evx_blk_hit ?_ | refine evx_blk_pass (by decide) ?_
    | refine And.intro ?_ ?_ | intro _ | decide +kernel | omega)
  all_goals simp_all
theorem all_SameTrees (gs : List Arg) (h : shpA Try.prog 12 [47, 47] gs) : Sat Try.prog 4 gs true (rB true) := by
  obtain ⟨x0, gs, rfl, h0, x1, gs, rfl, h1, rfl⟩ := h
  obtain ⟨a, rfl⟩ := shp_Tree (n := 3) rfl h0
  obtain ⟨b, rfl⟩ := shp_Tree (n := 3) rfl h1
  exact l_SameTrees a b
end Go.Proofs.Ytheclfollianjaa.W
