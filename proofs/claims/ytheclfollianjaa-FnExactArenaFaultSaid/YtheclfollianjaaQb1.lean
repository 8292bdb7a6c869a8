/- Contracts of functions that FnExactArenaFault reaches: what each returns; it writes to nothing of old. No condition but those that each theorem states. -/
import Derived.Test.YtheclfollianjaaQb0
open Go Go.Vm Go.Proofs Go.IntWalk Go.RowKit
set_option maxRecDepth 100000
set_option maxHeartbeats 4000000
set_option linter.unusedSimpArgs false
set_option linter.unusedVariables false
set_option linter.unusedSectionVars false
namespace Go.Proofs.Ytheclfollianjaa.W
attribute [local irreducible] kJ ev evx vops vstep vgo vgd vget vcall vcallFn vcallA vcallB vts vres vcond
theorem s_implArenaFault (a : Arena) : Sat Try.prog 39 [aArena a] true (rI (af a)) := by
  refine sat_walk (fn := Try.f39) rfl rfl rfl (Nat.le_of_ble_eq_true rfl) fun fr hP hN hbnd => ?_
  have hE : (envOf fr Try.prog).Ok := envOf_ok hP
  have hM := follows_of hP
  have hS : ∀ {draw ops}, statB Try.f39.ntmps draw ops = true → statB (envOf fr Try.prog).fr.N draw ops = true := fun h => by rw [envOf_fr, hN]; exact h
  have hlen := bnd_Arena hbnd
  have hw2 : IntKind.i64.wrap (a.nodes.length : Int) = a.nodes.length := i64_in _ (by have hm : maxLen = 9223372036854775807 := rfl; omega)
  repeat' (first
    | exact True.intro
    | refine ev_seq ?_
    | ((first | refine vgd_go ?_ | refine ev_region hE hM (hS (by decide +kernel)) ?_ | refine ev_if ?_ | refine end_ret hE rfl rfl ?_ | refine end_norm hE rfl rfl ?_ | refine endG_ret [] hE rfl ?_ | refine endG_norm [] hE rfl ?_ | refine vcallB_of hP (s_isDims _) ?_ | refine vcallB_of hP (s_within _ _ _) ?_ | refine vcall_A ?_); simp (maxSteps := 2000000) only [go_sem, hP, ↓reduceIte, Nat.reduceAdd, Nat.reduceMul, Nat.reduceEqDiff, Nat.reduceSub, Nat.reduceLeDiff, reduceCtorEq, hw2])
    | refine ev_skip ?_ | refine ev_block ?_ | refine ev_blk ?_ | refine ev_ret ?_ | refine ev_exit ?_ | refine evx_code_ret ?_ | refine evx_blk_ret ?_ | refine evx_lp_ret ?_
    | refine evx_code_exit ?_ | refine evx_lp_exit ?_ | refine evx_blk_hit ?_ | refine evx_blk_pass (by decide) ?_
    | refine And.intro ?_ ?_ | intro _ | decide +kernel | omega)
  · rename_i h1
    have hd : inB a.dims 2 3 = false := by simpa using h1
    unfold af; rw [if_pos hd]
  · rename_i h1 h2
    have hd : inB a.dims 2 3 = true := by simpa using h1
    exact (af_two hd (by simp [inB] at h2; omega)).symm
  rename_i h1 h2
  have H : Af1 a := ⟨by simpa using h1, by simp [inB] at h2; omega⟩
  refine ev_loop (ι := Nat) (fun k => [(1, .ptr 0 0), (24, .c (sNodeS a.nodes)), (25, .c (.int .i64 a.nodes.length)), (26, .c (.int .i64 k))]) (fun k => [(0, .box ((eArena a).map .c))]) (fun _ => []) (fun k => k ≤ a.nodes.length ∧ allLt k (fun j => decide (nf (a.nodes.getD j default) a.dims = 0)) = true) (fun k => a.nodes.length - k) 0 [] (by simp [allLt_zero] <;> omega) (by simp only [go_sem, hP, ↓reduceIte, Nat.reduceAdd, Nat.reduceMul, Nat.reduceEqDiff, Nat.reduceSub, Nat.reduceLeDiff, reduceCtorEq]; simp) ?_
  intro k hk
  repeat' (first
    | exact True.intro
    | refine ev_seq ?_
    | ((first | refine vgd_go ?_ | refine ev_region hE hM (hS (by decide +kernel)) ?_ | refine ev_if ?_ | refine end_ret hE rfl rfl ?_ | refine end_norm hE rfl rfl ?_ | refine endG_ret [] hE rfl ?_ | refine endG_norm [] hE rfl ?_ | refine vcallB_of hP (s_implNodeFault (a.nodes.getD k default) _) ?_ | refine vcall_A ?_); simp (maxSteps := 2000000) only [go_sem, hP, ↓reduceIte, Nat.reduceAdd, Nat.reduceMul, Nat.reduceEqDiff, Nat.reduceSub, Nat.reduceLeDiff, reduceCtorEq])
    | refine ev_skip ?_ | refine ev_block ?_ | refine ev_blk ?_ | refine ev_ret ?_ | refine ev_exit ?_ | refine evx_code_ret ?_ | refine evx_blk_ret ?_ | refine evx_lp_ret ?_
    | refine evx_code_exit ?_ | refine evx_lp_exit ?_ | refine evx_blk_hit ?_ | refine evx_blk_pass (by decide) ?_
    | refine And.intro ?_ ?_ | intro _ | decide +kernel | omega)
  · rename_i g1 g2
    exact af_node_here H (by omega) hk.2 (by simpa only [bne_iff_ne, ne_eq] using g2)
  · rename_i g1 g2
    exact ev_lp (k + 1) [] ⟨by omega, allLt_step hk.2 (by simpa using g2)⟩ (by omega) (by simp only [go_sem, hP, ↓reduceIte, Nat.reduceAdd, Nat.reduceMul, Nat.reduceEqDiff, Nat.reduceSub, Nat.reduceLeDiff, reduceCtorEq]; simp; exact wrap_nat (by omega) hlen.1)
  have H3 : firstF (nf · a.dims) a.nodes = 0 := firstF_done (by omega) hk.2
  clear hk
  repeat' (first
    | exact True.intro
    | refine ev_seq ?_
    | ((first | refine vgd_go ?_ | refine ev_region hE hM (hS (by decide +kernel)) ?_ | refine ev_if ?_ | refine end_ret hE rfl rfl ?_ | refine end_norm hE rfl rfl ?_ | refine endG_ret [] hE rfl ?_ | refine endG_norm [] hE rfl ?_ | refine vcallB_of hP (s_freeFault a) ?_ | refine vcall_A ?_); simp (maxSteps := 2000000) only [go_sem, hP, ↓reduceIte, Nat.reduceAdd, Nat.reduceMul, Nat.reduceEqDiff, Nat.reduceSub, Nat.reduceLeDiff, reduceCtorEq])
    | refine ev_skip ?_ | refine ev_block ?_ | refine ev_blk ?_ | refine ev_ret ?_ | refine ev_exit ?_ | refine evx_code_ret ?_ | refine evx_blk_ret ?_ | refine evx_lp_ret ?_
    | refine evx_code_exit ?_ | refine evx_lp_exit ?_ | refine evx_blk_hit ?_ | refine evx_blk_pass (by decide) ?_
    | refine And.intro ?_ ?_ | intro _ | decide +kernel | omega)
  · rename_i g1
    exact (af_free H H3 (by simpa only [bne_iff_ne, ne_eq] using g1)).symm
  rename_i g1
  have H4 : freeF a = 0 := by simpa using g1
  refine ev_loop (ι := Nat) (fun k => [(1, .ptr 0 0), (44, .c (sRetiredS a.retired)), (45, .c (.int .i64 a.retired.length)), (46, .c (.int .i64 k))]) (fun k => [(0, .box ((eArena a).map .c))]) (fun _ => []) (fun k => k ≤ a.retired.length ∧ allLt k (fun j => decide (retF a (a.retired.getD j default) = 0)) = true) (fun k => a.retired.length - k) 0 [] (by simp [allLt_zero] <;> omega) (by simp only [go_sem, hP, ↓reduceIte, Nat.reduceAdd, Nat.reduceMul, Nat.reduceEqDiff, Nat.reduceSub, Nat.reduceLeDiff, reduceCtorEq]; simp) ?_
  intro k hk
  repeat' (first
    | exact True.intro
    | refine ev_seq ?_
    | ((first | refine vgd_go ?_ | refine ev_region hE hM (hS (by decide +kernel)) ?_ | refine ev_if ?_ | refine end_ret hE rfl rfl ?_ | refine end_norm hE rfl rfl ?_ | refine endG_ret [] hE rfl ?_ | refine endG_norm [] hE rfl ?_ | refine vcallB_of hP (s_isPlace a _) ?_ | refine vcallB_of hP (s_watchFault (a.retired.getD k default).watch _) ?_ | refine vcall_A ?_); simp (maxSteps := 2000000) only [go_sem, hP, ↓reduceIte, Nat.reduceAdd, Nat.reduceMul, Nat.reduceEqDiff, Nat.reduceSub, Nat.reduceLeDiff, reduceCtorEq])
    | refine ev_skip ?_ | refine ev_block ?_ | refine ev_blk ?_ | refine ev_ret ?_ | refine ev_exit ?_ | refine evx_code_ret ?_ | refine evx_blk_ret ?_ | refine evx_lp_ret ?_
    | refine evx_code_exit ?_ | refine evx_lp_exit ?_ | refine evx_blk_hit ?_ | refine evx_blk_pass (by decide) ?_
    | refine And.intro ?_ ?_ | intro _ | decide +kernel | omega)
  · rename_i g1 g2
    exact af_ret_here H H3 H4 (by omega) hk.2 3 (retF_3 (by simpa using g2)) (by decide)
  · rename_i g1 g2 g3
    exact af_ret_here H H3 H4 (by omega) hk.2 _ (retF_w (by simpa using g2)) (by simpa only [bne_iff_ne, ne_eq] using g3)
  · rename_i g1 g2 g3
    have e := retF_w (a := a) (r := a.retired.getD k default) (by simpa using g2)
    exact ev_lp (k + 1) [] ⟨by omega, allLt_step hk.2 (by rw [e]; simpa using g3)⟩ (by omega) (by simp only [go_sem, hP, ↓reduceIte, Nat.reduceAdd, Nat.reduceMul, Nat.reduceEqDiff, Nat.reduceSub, Nat.reduceLeDiff, reduceCtorEq]; simp; exact wrap_nat (by omega) hlen.2.2)
  have H5 : firstF (retF a) a.retired = 0 := firstF_done (by omega) hk.2
  clear hk
  have Hn := af_end H H3 H4 H5
  refine ev_loop (ι := Nat) (fun k => [(1, .ptr 0 0), (63, .c (sRetiredS a.retired)), (64, .c (.int .i64 a.retired.length)), (65, .c (.int .i64 k))]) (fun k => [(0, .box ((eArena a).map .c))]) (fun _ => []) (fun k => k ≤ a.retired.length ∧ allLt k (fun i => !takenAt a i) = true) (fun k => a.retired.length - k) 0 [] (by simp [allLt_zero] <;> omega) (by simp only [go_sem, hP, ↓reduceIte, Nat.reduceAdd, Nat.reduceMul, Nat.reduceEqDiff, Nat.reduceSub, Nat.reduceLeDiff, reduceCtorEq]; simp) ?_
  intro k hk
  have hn := findRet_nonneg (xs := a.retired.take k) (r := (a.retired.getD k default).id)
  repeat' (first
    | exact True.intro
    | refine ev_seq ?_
    | ((first | refine vgd_go ?_ | refine ev_region hE hM (hS (by decide +kernel)) ?_ | refine ev_if ?_ | refine end_ret hE rfl rfl ?_ | refine end_norm hE rfl rfl ?_ | refine endG_ret [] hE rfl ?_ | refine endG_norm [] hE rfl ?_ | refine vcallB_of hP (s_retiredAt (a.retired.take k) _) ?_ | refine vcallB_of hP (s_isFree a _) ?_ | refine vcall_A ?_); simp (maxSteps := 2000000) only [go_sem, hP, ↓reduceIte, Nat.reduceAdd, Nat.reduceMul, Nat.reduceEqDiff, Nat.reduceSub, Nat.reduceLeDiff, reduceCtorEq, Int.toNat_zero, Nat.sub_zero, ← List.map_take])
    | refine ev_skip ?_ | refine ev_block ?_ | refine ev_blk ?_ | refine ev_ret ?_ | refine ev_exit ?_ | refine evx_code_ret ?_ | refine evx_blk_ret ?_ | refine evx_lp_ret ?_
    | refine evx_code_exit ?_ | refine evx_lp_exit ?_ | refine evx_blk_hit ?_ | refine evx_blk_pass (by decide) ?_
    | refine And.intro ?_ ?_ | intro _ | decide +kernel | omega)
  all_goals first
    | (rename_i g1 g2
       have ht : takenAt a k = true := by unfold takenAt; rw [← hn, decide_eq_true g2]; rfl
       have h9 : allLt a.retired.length (fun i => !takenAt a i) = false := allLt_not (k := k) (by omega) (by rw [ht]; rfl)
       rw [Hn, h9]; rfl)
    | (rename_i g1 g2 g3
       have ht : takenAt a k = true := by unfold takenAt; rw [g3, Bool.or_true]
       have h9 : allLt a.retired.length (fun i => !takenAt a i) = false := allLt_not (k := k) (by omega) (by rw [ht]; rfl)
       rw [Hn, h9]; rfl)
    | (rename_i g1 g2 g3
       have ht : takenAt a k = false := by unfold takenAt; rw [← hn, decide_eq_false g2, g3]; rfl
       exact ev_lp (k + 1) [] ⟨by omega, allLt_step hk.2 (by rw [ht]; rfl)⟩ (by omega) (by simp only [go_sem, hP, ↓reduceIte, Nat.reduceAdd, Nat.reduceMul, Nat.reduceEqDiff, Nat.reduceSub, Nat.reduceLeDiff, reduceCtorEq]; simp; exact wrap_nat (by omega) hlen.2.2))
    | (have h9 : allLt a.retired.length (fun i => !takenAt a i) = true := allLt_done (by omega) hk.2
       rw [Hn, h9]; rfl)
theorem take_any_yes {α : Type} {xs : List α} {p : α → Bool} {j k : Nat} {d : α} (hj : j < k) (hk : k ≤ xs.length) (h : p (xs.getD j d) = true) : (xs.take k).any p = true := by
  rw [List.any_eq_true]
  refine ⟨xs[j]'(by omega), ?_, by rwa [getD_lt (by omega)] at h⟩
  rw [List.mem_iff_getElem]
  exact ⟨j, by simp; omega, by simp⟩
theorem s_specArenaFault (a : Arena) : Sat Try.prog 37 [aArena a] true (rI (af a)) := by
  refine sat_walk (fn := Try.f37) rfl rfl rfl (Nat.le_of_ble_eq_true rfl) fun fr hP hN hbnd => ?_
  have hE : (envOf fr Try.prog).Ok := envOf_ok hP
  have hM := follows_of hP
  have hS : ∀ {draw ops}, statB Try.f37.ntmps draw ops = true → statB (envOf fr Try.prog).fr.N draw ops = true := fun h => by rw [envOf_fr, hN]; exact h
  have hlen := bnd_Arena hbnd
  repeat' (first
    | exact True.intro
    | refine ev_seq ?_
    | ((first | refine vgd_go ?_ | refine ev_region hE hM (hS (by decide +kernel)) ?_ | refine ev_if ?_ | refine end_ret hE rfl rfl ?_ | refine end_norm hE rfl rfl ?_ | refine endG_ret [] hE rfl ?_ | refine endG_norm [] hE rfl ?_ | refine vcallB_of hP (s_l1In _ _ _) ?_ | refine vcall_A ?_); simp (maxSteps := 2000000) only [go_sem, hP, ↓reduceIte, Nat.reduceAdd, Nat.reduceMul, Nat.reduceEqDiff, Nat.reduceSub, Nat.reduceLeDiff, reduceCtorEq])
    | refine ev_skip ?_ | refine ev_block ?_ | refine ev_blk ?_ | refine ev_ret ?_ | refine ev_exit ?_ | refine evx_code_ret ?_ | refine evx_blk_ret ?_ | refine evx_lp_ret ?_
    | refine evx_code_exit ?_ | refine evx_lp_exit ?_ | refine evx_blk_hit ?_ | refine evx_blk_pass (by decide) ?_
    | refine And.intro ?_ ?_ | intro _ | decide +kernel | omega)
  all_goals first
    | (apply af_dims; assumption)
    | (apply af_few <;> assumption)
    | (apply af_many <;> assumption)
    | skip
  have H : Af1 a := ⟨by simp_all, by omega⟩
  refine ev_loop (ι := Nat) (fun k => [(1, .ptr 0 0), (3, .c (.int .i64 k))]) (fun k => [(0, .box ((eArena a).map .c))]) (fun _ => []) (fun k => k ≤ a.nodes.length ∧ allLt k (fun j => decide (nf (a.nodes.getD j default) a.dims = 0)) = true) (fun k => a.nodes.length - k) 0 [] (by simp [allLt_zero] <;> omega) (by simp only [go_sem, hP, ↓reduceIte, Nat.reduceAdd, Nat.reduceMul, Nat.reduceEqDiff, Nat.reduceSub, Nat.reduceLeDiff, reduceCtorEq]; simp) ?_
  intro k hk
  repeat' (first
    | exact True.intro
    | refine ev_seq ?_
    | ((first | refine vgd_go ?_ | refine ev_region hE hM (hS (by decide +kernel)) ?_ | refine ev_if ?_ | refine end_ret hE rfl rfl ?_ | refine end_norm hE rfl rfl ?_ | refine endG_ret [] hE rfl ?_ | refine endG_norm [] hE rfl ?_ | refine vcallB_of hP (s_specNodeFault (a.nodes.getD k default) _) ?_ | refine vcall_A ?_); simp (maxSteps := 2000000) only [go_sem, hP, ↓reduceIte, Nat.reduceAdd, Nat.reduceMul, Nat.reduceEqDiff, Nat.reduceSub, Nat.reduceLeDiff, reduceCtorEq])
    | refine ev_skip ?_ | refine ev_block ?_ | refine ev_blk ?_ | refine ev_ret ?_ | refine ev_exit ?_ | refine evx_code_ret ?_ | refine evx_blk_ret ?_ | refine evx_lp_ret ?_
    | refine evx_code_exit ?_ | refine evx_lp_exit ?_ | refine evx_blk_hit ?_ | refine evx_blk_pass (by decide) ?_
    | refine And.intro ?_ ?_ | intro _ | decide +kernel | omega)
  · rename_i g1 g2
    exact af_node_here H (by omega) hk.2 (by simpa only [bne_iff_ne, ne_eq] using g2)
  · rename_i g1 g2
    exact ev_lp (k + 1) [] ⟨by omega, allLt_step hk.2 (by simpa using g2)⟩ (by omega) (by simp only [go_sem, hP, ↓reduceIte, Nat.reduceAdd, Nat.reduceMul, Nat.reduceEqDiff, Nat.reduceSub, Nat.reduceLeDiff, reduceCtorEq]; simp; exact wrap_nat (by omega) hlen.1)
  have H3 : firstF (nf · a.dims) a.nodes = 0 := firstF_done (by omega) hk.2
  clear hk
  repeat' (first
    | exact True.intro
    | refine ev_seq ?_
    | ((first | refine vgd_go ?_ | refine ev_region hE hM (hS (by decide +kernel)) ?_ | refine ev_if ?_ | refine end_ret hE rfl rfl ?_ | refine end_norm hE rfl rfl ?_ | refine endG_ret [] hE rfl ?_ | refine endG_norm [] hE rfl ?_ | refine vcallB_of hP (s_l4Free a) ?_ | refine vcall_A ?_); simp (maxSteps := 2000000) only [go_sem, hP, ↓reduceIte, Nat.reduceAdd, Nat.reduceMul, Nat.reduceEqDiff, Nat.reduceSub, Nat.reduceLeDiff, reduceCtorEq])
    | refine ev_skip ?_ | refine ev_block ?_ | refine ev_blk ?_ | refine ev_ret ?_ | refine ev_exit ?_ | refine evx_code_ret ?_ | refine evx_blk_ret ?_ | refine evx_lp_ret ?_
    | refine evx_code_exit ?_ | refine evx_lp_exit ?_ | refine evx_blk_hit ?_ | refine evx_blk_pass (by decide) ?_
    | refine And.intro ?_ ?_ | intro _ | decide +kernel | omega)
  · rename_i g1
    exact (af_free H H3 (by simpa only [bne_iff_ne, ne_eq] using g1)).symm
  rename_i g1
  have H4 : freeF a = 0 := by simpa using g1
  refine ev_loop (ι := Nat) (fun k => [(1, .ptr 0 0), (6, .c (.int .i64 k))]) (fun k => [(0, .box ((eArena a).map .c))]) (fun _ => []) (fun k => k ≤ a.retired.length ∧ allLt k (fun j => decide (retF a (a.retired.getD j default) = 0)) = true) (fun k => a.retired.length - k) 0 [] (by simp [allLt_zero] <;> omega) (by simp only [go_sem, hP, ↓reduceIte, Nat.reduceAdd, Nat.reduceMul, Nat.reduceEqDiff, Nat.reduceSub, Nat.reduceLeDiff, reduceCtorEq]; simp) ?_
  intro k hk
  repeat' (first
    | exact True.intro
    | refine ev_seq ?_
    | ((first | refine vgd_go ?_ | refine ev_region hE hM (hS (by decide +kernel)) ?_ | refine ev_if ?_ | refine end_ret hE rfl rfl ?_ | refine end_norm hE rfl rfl ?_ | refine endG_ret [] hE rfl ?_ | refine endG_norm [] hE rfl ?_ | refine vcallB_of hP (s_l4Place a _) ?_ | refine vcallB_of hP (s_l4Watch (a.retired.getD k default).watch) ?_ | refine vcall_A ?_); simp (maxSteps := 2000000) only [go_sem, hP, ↓reduceIte, Nat.reduceAdd, Nat.reduceMul, Nat.reduceEqDiff, Nat.reduceSub, Nat.reduceLeDiff, reduceCtorEq])
    | refine ev_skip ?_ | refine ev_block ?_ | refine ev_blk ?_ | refine ev_ret ?_ | refine ev_exit ?_ | refine evx_code_ret ?_ | refine evx_blk_ret ?_ | refine evx_lp_ret ?_
    | refine evx_code_exit ?_ | refine evx_lp_exit ?_ | refine evx_blk_hit ?_ | refine evx_blk_pass (by decide) ?_
    | refine And.intro ?_ ?_ | intro _ | decide +kernel | omega)
  · rename_i g1 g2
    exact af_ret_here H H3 H4 (by omega) hk.2 3 (retF_3 (by simpa using g2)) (by decide)
  · rename_i g1 g2 g3
    have hz : ((a.retired.getD k default).watch.length : Int) = 0 := by simpa only [beq_iff_eq] using g3
    exact af_ret_here H H3 H4 (by omega) hk.2 2 (by rw [retF_w (by simpa using g2), if_pos (by omega)]) (by decide)
  · rename_i g1 g2 g3 g4
    have hz : ¬ ((a.retired.getD k default).watch.length : Int) = 0 := by simpa only [beq_eq_false_iff_ne, ne_eq] using g3
    exact af_ret_here H H3 H4 (by omega) hk.2 _ (by rw [retF_w (by simpa using g2), if_neg (by omega)]) (by simpa only [bne_iff_ne, ne_eq] using g4)
  · rename_i g1 g2 g3 g4
    have hz : ¬ ((a.retired.getD k default).watch.length : Int) = 0 := by simpa only [beq_eq_false_iff_ne, ne_eq] using g3
    have e : retF a (a.retired.getD k default) = wf (a.retired.getD k default).watch := by rw [retF_w (by simpa using g2), if_neg (by omega)]
    exact ev_lp (k + 1) [] ⟨by omega, allLt_step hk.2 (by rw [e]; simpa using g4)⟩ (by omega) (by simp only [go_sem, hP, ↓reduceIte, Nat.reduceAdd, Nat.reduceMul, Nat.reduceEqDiff, Nat.reduceSub, Nat.reduceLeDiff, reduceCtorEq]; simp; exact wrap_nat (by omega) hlen.2.2)
  have H5 : firstF (retF a) a.retired = 0 := firstF_done (by omega) hk.2
  clear hk
  have Hn := af_end H H3 H4 H5
  refine ev_loop (ι := Nat) (fun k => [(1, .ptr 0 0), (8, .c (.int .i64 k))]) (fun k => [(0, .box ((eArena a).map .c))]) (fun _ => []) (fun k => k ≤ a.retired.length ∧ allLt k (fun i => !takenAt a i) = true) (fun k => a.retired.length - k) 0 [] (by simp [allLt_zero] <;> omega) (by simp only [go_sem, hP, ↓reduceIte, Nat.reduceAdd, Nat.reduceMul, Nat.reduceEqDiff, Nat.reduceSub, Nat.reduceLeDiff, reduceCtorEq]; simp) ?_
  intro k hk
  repeat' (first
    | exact True.intro
    | refine ev_seq ?_
    | ((first | refine vgd_go ?_ | refine ev_region hE hM (hS (by decide +kernel)) ?_ | refine ev_if ?_ | refine end_ret hE rfl rfl ?_ | refine end_norm hE rfl rfl ?_ | refine endG_ret [] hE rfl ?_ | refine endG_norm [] hE rfl ?_ | refine vcall_A ?_); simp (maxSteps := 2000000) only [go_sem, hP, ↓reduceIte, Nat.reduceAdd, Nat.reduceMul, Nat.reduceEqDiff, Nat.reduceSub, Nat.reduceLeDiff, reduceCtorEq])
    | refine ev_skip ?_ | refine ev_block ?_ | refine ev_blk ?_ | refine ev_ret ?_ | refine ev_exit ?_ | refine evx_code_ret ?_ | refine evx_blk_ret ?_ | refine evx_lp_ret ?_
    | refine evx_code_exit ?_ | refine evx_lp_exit ?_ | refine evx_blk_hit ?_ | refine evx_blk_pass (by decide) ?_
    | refine And.intro ?_ ?_ | intro _ | decide +kernel | omega)
  · rename_i g1
    refine ev_loop (ι := Nat) (fun j => [(1, .ptr 0 0), (8, .c (.int .i64 k)), (9, .c (.int .i64 j))]) (fun j => [(0, .box ((eArena a).map .c))]) (fun _ => []) (fun j => j ≤ k ∧ (a.retired.take j).any (fun e => decide (e.id = (a.retired.getD k default).id)) = false) (fun j => k - j) 0 [] (by simp) (by simp only [go_sem, hP, ↓reduceIte, Nat.reduceAdd, Nat.reduceMul, Nat.reduceEqDiff, Nat.reduceSub, Nat.reduceLeDiff, reduceCtorEq]; simp) ?_
    intro j hj
    repeat' (first
      | exact True.intro
      | refine ev_seq ?_
      | ((first | refine vgd_go ?_ | refine ev_region hE hM (hS (by decide +kernel)) ?_ | refine ev_if ?_ | refine end_ret hE rfl rfl ?_ | refine end_norm hE rfl rfl ?_ | refine endG_ret [] hE rfl ?_ | refine endG_norm [] hE rfl ?_ | refine vcallB_of hP (s_l1Has a.free _) ?_ | refine vcall_A ?_); simp (maxSteps := 2000000) only [go_sem, hP, ↓reduceIte, Nat.reduceAdd, Nat.reduceMul, Nat.reduceEqDiff, Nat.reduceSub, Nat.reduceLeDiff, reduceCtorEq])
      | refine ev_skip ?_ | refine ev_block ?_ | refine ev_blk ?_ | refine ev_ret ?_ | refine ev_exit ?_ | refine evx_code_ret ?_ | refine evx_blk_ret ?_ | refine evx_lp_ret ?_
      | refine evx_code_exit ?_ | refine evx_lp_exit ?_ | refine evx_blk_hit ?_ | refine evx_blk_pass (by decide) ?_
      | refine And.intro ?_ ?_ | intro _ | decide +kernel | omega)
    · rename_i g2 g3
      have h3 : (fun e : Retired => decide (e.id = (a.retired.getD k default).id)) (a.retired.getD j default) = true := by simpa only [beq_iff_eq, decide_eq_true_eq] using g3
      have ht : takenAt a k = true := by unfold takenAt; rw [take_any_yes (by omega) (by omega) h3, Bool.true_or]
      have h9 : allLt a.retired.length (fun i => !takenAt a i) = false := allLt_not (k := k) (by omega) (by rw [ht]; rfl)
      rw [Hn, h9]; rfl
    · rename_i g2 g3
      have h3 : (fun e : Retired => decide (e.id = (a.retired.getD k default).id)) (a.retired.getD j default) = false := by simpa only [beq_eq_false_iff_ne, ne_eq, decide_eq_false_iff_not] using g3
      exact ev_lp (j + 1) [] ⟨by omega, any_step (d := default) (by omega) hj.2 h3⟩ (by omega) (by simp only [go_sem, hP, ↓reduceIte, Nat.reduceAdd, Nat.reduceMul, Nat.reduceEqDiff, Nat.reduceSub, Nat.reduceLeDiff, reduceCtorEq]; simp; exact wrap_nat (by omega) hlen.2.2)
    · rename_i g2 g3
      have ht : takenAt a k = true := by unfold takenAt; rw [g3, Bool.or_true]
      have h9 : allLt a.retired.length (fun i => !takenAt a i) = false := allLt_not (k := k) (by omega) (by rw [ht]; rfl)
      rw [Hn, h9]; rfl
    · rename_i g2 g3
      obtain rfl : j = k := by omega
      have ht : takenAt a j = false := by unfold takenAt; rw [hj.2, g3]; rfl
      exact ev_lp (j + 1) [] ⟨by omega, allLt_step hk.2 (by rw [ht]; rfl)⟩ (by omega) (by simp only [go_sem, hP, ↓reduceIte, Nat.reduceAdd, Nat.reduceMul, Nat.reduceEqDiff, Nat.reduceSub, Nat.reduceLeDiff, reduceCtorEq]; simp; exact wrap_nat (by omega) hlen.2.2)
  · have h9 : allLt a.retired.length (fun i => !takenAt a i) = true := allLt_done (by omega) hk.2
    rw [Hn, h9]; rfl
theorem l_ArenaFault (a : Arena) : Sat Try.prog 7 [aArena a] true (rB true) := by
  refine sat_walk (fn := Try.f7) rfl rfl rfl (Nat.le_of_ble_eq_true rfl) fun fr hP hN hbnd => ?_
  have hE : (envOf fr Try.prog).Ok := envOf_ok hP
  have hM := follows_of hP
  have hS : ∀ {draw ops}, statB Try.f7.ntmps draw ops = true → statB (envOf fr Try.prog).fr.N draw ops = true := fun h => by rw [envOf_fr, hN]; exact h
  repeat' (first
    | exact True.intro
    | refine ev_seq ?_
    | ((first | refine vgd_go ?_ | refine ev_region hE hM (hS (by decide +kernel)) ?_ | refine ev_if ?_ | refine end_ret hE rfl rfl ?_ | refine end_norm hE rfl rfl ?_ | refine endG_ret [] hE rfl ?_ | refine endG_norm [] hE rfl ?_ | refine vcallB_of hP (s_szArena a _ (by omega) (by omega)) ?_ | refine vcallB_of hP (s_toArena a (by simp only [lessN] at *; omega)) ?_ | refine vcallB_of hP (s_specArenaFault a) ?_ | refine vcallB_of hP (s_implArenaFault a) ?_ | refine vcallB_of hP (s_eqArena a a) ?_ | refine vcall_A ?_); simp (maxSteps := 2000000) only [go_sem, hP, ↓reduceIte, Nat.reduceAdd, Nat.reduceMul, Nat.reduceEqDiff, Nat.reduceSub, Nat.reduceLeDiff, reduceCtorEq])
    | refine ev_skip ?_ | refine ev_block ?_ | refine ev_blk ?_ | refine ev_ret ?_ | refine ev_exit ?_ | refine evx_code_ret ?_ | refine evx_blk_ret ?_ | refine evx_lp_ret ?_
    | refine evx_code_exit ?_ | refine evx_lp_exit ?_ | refine evx_blk_hit ?_ | refine evx_blk_pass (by decide) ?_
    | refine And.intro ?_ ?_ | intro _ | decide +kernel | omega)
  all_goals simp_all
theorem all_ArenaFault (gs : List Arg) (h : shpA Try.prog 12 [45] gs) : Sat Try.prog 7 gs true (rB true) := by
  obtain ⟨x0, gs, rfl, h0, rfl⟩ := h
  obtain ⟨a, rfl⟩ := shp_Arena (n := 4) rfl h0
  exact l_ArenaFault a
end Go.Proofs.Ytheclfollianjaa.W
