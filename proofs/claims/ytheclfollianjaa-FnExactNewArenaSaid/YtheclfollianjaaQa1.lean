/- Contracts of functions that FnExactNewArena reaches: what each returns; it writes to nothing of old. No condition but those that each theorem states. -/
import Derived.Test.YtheclfollianjaaQa0
open Go Go.Vm Go.Proofs Go.IntWalk Go.RowKit
set_option maxRecDepth 100000
set_option maxHeartbeats 4000000
set_option linter.unusedSimpArgs false
set_option linter.unusedVariables false
set_option linter.unusedSectionVars false
namespace Go.Proofs.Ytheclfollianjaa.W
attribute [local irreducible] kJ ev evx vops vstep vgo vgd vget vcall vcallFn vcallA vcallB vts vres vcond vbin
theorem nodesN_w (n : Nat) : sumW mwNode (nodesN n) = 3 * n := by
  induction n with
  | zero => rfl
  | succ n ih =>
    have e : sumW mwNode (nodesN (n + 1)) = sumW mwNode (nodesN n) + 3 := by
      rw [nodesN_succ]; simp only [sumW, List.map_append, List.sum_append]; rfl
    omega
theorem naV_w (d r : Int) : mwA (naV d r) ≤ 200 := by
  unfold naV
  split
  · rename_i h
    have := naC_zero h
    have e : mwA (⟨d, nodesN r.toNat, freeN r.toNat, []⟩ : Arena) = sumW mwNode (nodesN r.toNat) + (freeN r.toNat).length + 0 := rfl
    rw [e, nodesN_w, freeN_length]
    omega
  · exact Nat.zero_le _
theorem l_NewArena (a b : Int) : Sat Try.prog 14 [aI a, aI b] true (rB true) := by
  refine sat_walkB (fn := Try.f14) rfl rfl rfl (Nat.le_of_ble_eq_true rfl) fun fr hP hN hYX hbnd => ?_
  have hE : (envOf fr Try.prog).Ok := envOf_ok hP
  have hM := follows_of hP
  have hS : ∀ {draw ops}, statB Try.f14.ntmps draw ops = true → statB (envOf fr Try.prog).fr.N draw ops = true := fun h => by rw [envOf_fr, hN]; exact h
  have hv := naV_w a b
  have t1 := s_markArenaResult (naC a b) (naV a b) 0 1 (by omega) (by simp only [mMax]; omega)
  have t2 := s_heldArenaResult (naC a b) (naV a b) 0 1 (by omega) (by simp only [mMax]; omega)
  repeat' (first
    | exact True.intro
    | refine ev_seq ?_
    | ((first | refine ev_stop 6 ?_ | refine vgd_go ?_ | refine ev_region hE hM (hS (by decide +kernel)) ?_ | refine ev_if ?_ | refine end_ret hE rfl rfl ?_ | refine end_norm hE rfl rfl ?_ | refine endG_ret [] hE rfl ?_ | refine endG_norm [] hE rfl ?_ | refine vcallB_of hP (s_specNewArena a b) ?_ | refine vcallB_of hP (s_implNewArena a b) ?_ | refine vcallB_of hP (s_eqArenaResult _ _ _ _ _ _) ?_ | refine vcall_A ?_); simp (maxSteps := 2000000) only [go_sem, hP, ↓reduceIte, Nat.reduceAdd, Nat.reduceMul, Nat.reduceEqDiff, Nat.reduceSub, Nat.reduceLeDiff, reduceCtorEq])
    | refine ev_skip ?_ | refine ev_block ?_ | refine ev_blk ?_ | refine ev_ret ?_ | refine ev_exit ?_ | refine evx_code_ret ?_ | refine evx_blk_ret ?_ | refine evx_lp_ret ?_
    | refine evx_code_exit ?_ | refine evx_lp_exit ?_ | refine evx_blk_hit ?_ | refine evx_blk_pass (by decide) ?_
    | refine And.intro ?_ ?_ | intro _ | decide +kernel | omega)
  all_goals first | (exfalso; simp_all; done) | skip
  first | refine Stop.mk ?_ | skip
  refine ev_cut [(0, iT a), (1, iT b), (4, .c (.bool false)), (5, .ptr 4120 0), (6, .ptr 8216 0), (7, iT 1)] ((4120, .box [iT (naC a b), iT (naV a b).dims, .ref 2101264, .ref 3149840, .ref 4198416, iT 0]) :: (8216, .box [iT (naC a b), iT (naV a b).dims, .ref 2105360, .ref 3153936, .ref 4202512, iT 0]) :: (gA 2101264 3149840 4198416 (naV a b) ++ gA 2105360 3153936 4202512 (naV a b))) [] [] (by simp only [go_sem, hP, ↓reduceIte, Nat.reduceAdd, Nat.reduceMul, Nat.reduceEqDiff, Nat.reduceSub, Nat.reduceLeDiff, reduceCtorEq, List.cons_append, List.nil_append]) ?_
  repeat' (first
    | exact True.intro
    | refine ev_seq ?_
    | ((first | refine ev_regionC (id := 6) (pre := [_, _]) hE rfl (hS (by decide +kernel)) ?_ | refine vgd_go ?_ | refine ev_region hE hM (hS (by decide +kernel)) ?_ | refine ev_if ?_ | refine end_ret hE rfl rfl ?_ | refine end_norm hE rfl rfl ?_ | refine endG_ret [] hE rfl ?_ | refine endG_norm [] hE rfl ?_ | refine vcall_A ?_); simp (maxSteps := 2000000) only [go_sem, hP, ↓reduceIte, Nat.reduceAdd, Nat.reduceMul, Nat.reduceEqDiff, Nat.reduceSub, Nat.reduceLeDiff, reduceCtorEq, List.cons_append, List.nil_append])
    | refine ev_skip ?_ | refine ev_block ?_ | refine ev_blk ?_ | refine ev_ret ?_ | refine ev_exit ?_ | refine evx_code_ret ?_ | refine evx_blk_ret ?_ | refine evx_lp_ret ?_
    | refine evx_code_exit ?_ | refine evx_lp_exit ?_ | refine evx_blk_hit ?_ | refine evx_blk_pass (by decide) ?_
    | refine And.intro ?_ ?_ | intro _ | decide +kernel | omega)
  refine callM_of [(1, 2105360), (2, 3153936), (3, 4202512)] [] [(0, iT a), (1, iT b), (4, .c (.bool false)), (5, .ptr 4120 0), (6, .ptr 8216 0), (20, tAR (naC a b) (naV a b).dims 2105360 3153936 4202512 0), (21, iT 1)] ((4120, .box [iT (naC a b), iT (naV a b).dims, .ref 2101264, .ref 3149840, .ref 4198416, iT 0]) :: (8216, .box [iT (naC a b), iT (naV a b).dims, .ref 2105360, .ref 3153936, .ref 4202512, iT 0]) :: (gA 2101264 3149840 4198416 (naV a b) ++ gA 2105360 3153936 4202512 (naV a b))) [] hP t1 hYX rfl rfl (by rw [envOf_fr, hN]; decide) (by simp only [go_sem, hP, ↓reduceIte, Nat.reduceAdd, Nat.reduceMul, Nat.reduceEqDiff, Nat.reduceSub, Nat.reduceLeDiff, reduceCtorEq, List.cons_append, List.nil_append]) rfl rfl (by simp only [go_sem, hP, ↓reduceIte, Nat.reduceAdd, Nat.reduceMul, Nat.reduceEqDiff, Nat.reduceSub, Nat.reduceLeDiff, reduceCtorEq, List.cons_append, List.nil_append] <;> simp) (by simp only [go_sem, hP, ↓reduceIte, Nat.reduceAdd, Nat.reduceMul, Nat.reduceEqDiff, Nat.reduceSub, Nat.reduceLeDiff, reduceCtorEq] <;> simp) ?_
  simp only [go_sem, hP, ↓reduceIte, Nat.reduceAdd, Nat.reduceMul, Nat.reduceEqDiff, Nat.reduceSub, Nat.reduceLeDiff, reduceCtorEq, List.cons_append, List.nil_append]
  repeat' (first
    | exact True.intro
    | refine ev_seq ?_
    | ((first | refine vgd_go ?_ | refine ev_region hE hM (hS (by decide +kernel)) ?_ | refine ev_if ?_ | refine end_ret hE rfl rfl ?_ | refine end_norm hE rfl rfl ?_ | refine endG_ret [] hE rfl ?_ | refine endG_norm [] hE rfl ?_ | refine vcallB_of hP (s_implNewArena a b) ?_ | refine vcallB_of hP (s_eqArenaResult _ _ _ _ _ _) ?_ | refine vcallB_of hP t2 ?_ | refine vcall_A ?_); simp (maxSteps := 2000000) only [go_sem, hP, ↓reduceIte, Nat.reduceAdd, Nat.reduceMul, Nat.reduceEqDiff, Nat.reduceSub, Nat.reduceLeDiff, reduceCtorEq, List.cons_append, List.nil_append, markedA])
    | refine ev_skip ?_ | refine ev_block ?_ | refine ev_blk ?_ | refine ev_ret ?_ | refine ev_exit ?_ | refine evx_code_ret ?_ | refine evx_blk_ret ?_ | refine evx_lp_ret ?_
    | refine evx_code_exit ?_ | refine evx_lp_exit ?_ | refine evx_blk_hit ?_ | refine evx_blk_pass (by decide) ?_
    | refine And.intro ?_ ?_ | intro _ | decide +kernel | omega)
  all_goals (simp_all; done)
theorem all_NewArena (gs : List Arg) (h : shpA Try.prog 12 [2, 2] gs) : Sat Try.prog 14 gs true (rB true) := by
  obtain ⟨x0, gs, rfl, h0, x1, gs, rfl, h1, rfl⟩ := h
  obtain ⟨a, rfl, _⟩ := shp_i64 (n := 11) rfl h0
  obtain ⟨b, rfl, _⟩ := shp_i64 (n := 11) rfl h1
  exact l_NewArena a b
end Go.Proofs.Ytheclfollianjaa.W
