/- Contracts of functions that FnExactWidenEntry reaches: what each returns; it writes to nothing of old. No condition but those that each theorem states. -/
import Derived.Test.YtcephdpooijciaaPb
open Go Go.Vm Go.Proofs Go.IntWalk Go.RowKit
set_option maxRecDepth 100000
set_option maxHeartbeats 4000000
set_option linter.unusedSimpArgs false
set_option linter.unusedVariables false
set_option linter.unusedSectionVars false
namespace Go.Proofs.Ytcephdpooijciaa.W
attribute [local irreducible] kJ ev evx vops vstep vgo vgd vget vcall vcallFn vcallA vcallB vts vres vcond vbin
theorem s_l1Max (a b : Int) : Sat Try.prog 177 [aI a, aI b] true (rI (max a b)) := by
  refine sat_walk (fn := Try.f177) rfl rfl rfl (Nat.le_of_ble_eq_true rfl) fun fr hP hN hbnd => ?_
  have hE : (envOf fr Try.prog).Ok := envOf_ok hP
  have hM := follows_of hP
  have hS : ∀ {draw ops}, statB Try.f177.ntmps draw ops = true → statB (envOf fr Try.prog).fr.N draw ops = true := fun h => by rw [envOf_fr, hN]; exact h
  repeat' (first
    | exact True.intro
    | refine ev_seq ?_
    | ((first | refine vgd_go ?_ | refine ev_region hE hM (hS (by decide +kernel)) ?_ | refine ev_if ?_ | refine end_ret hE rfl rfl ?_ | refine end_norm hE rfl rfl ?_ | refine endG_ret [] hE rfl ?_ | refine endG_norm [] hE rfl ?_ | refine vcall_A ?_); simp (maxSteps := 2000000) only [go_sem, hP, ↓reduceIte, Nat.reduceAdd, Nat.reduceMul, Nat.reduceEqDiff, Nat.reduceSub, Nat.reduceLeDiff, reduceCtorEq])
    | refine ev_skip ?_ | refine ev_block ?_ | refine ev_blk ?_ | refine ev_ret ?_ | refine ev_exit ?_ | refine evx_code_ret ?_ | refine evx_blk_ret ?_ | refine evx_lp_ret ?_
    | refine evx_code_exit ?_ | refine evx_lp_exit ?_ | refine evx_blk_hit ?_ | refine evx_blk_pass (by decide) ?_
    | refine And.intro ?_ ?_ | intro _ | decide +kernel | omega)
  all_goals simp_all
  all_goals omega
theorem s_l1Min (a b : Int) : Sat Try.prog 176 [aI a, aI b] true (rI (min a b)) := by
  refine sat_walk (fn := Try.f176) rfl rfl rfl (Nat.le_of_ble_eq_true rfl) fun fr hP hN hbnd => ?_
  have hE : (envOf fr Try.prog).Ok := envOf_ok hP
  have hM := follows_of hP
  have hS : ∀ {draw ops}, statB Try.f176.ntmps draw ops = true → statB (envOf fr Try.prog).fr.N draw ops = true := fun h => by rw [envOf_fr, hN]; exact h
  repeat' (first
    | exact True.intro
    | refine ev_seq ?_
    | ((first | refine vgd_go ?_ | refine ev_region hE hM (hS (by decide +kernel)) ?_ | refine ev_if ?_ | refine end_ret hE rfl rfl ?_ | refine end_norm hE rfl rfl ?_ | refine endG_ret [] hE rfl ?_ | refine endG_norm [] hE rfl ?_ | refine vcall_A ?_); simp (maxSteps := 2000000) only [go_sem, hP, ↓reduceIte, Nat.reduceAdd, Nat.reduceMul, Nat.reduceEqDiff, Nat.reduceSub, Nat.reduceLeDiff, reduceCtorEq])
    | refine ev_skip ?_ | refine ev_block ?_ | refine ev_blk ?_ | refine ev_ret ?_ | refine ev_exit ?_ | refine evx_code_ret ?_ | refine evx_blk_ret ?_ | refine evx_lp_ret ?_
    | refine evx_code_exit ?_ | refine evx_lp_exit ?_ | refine evx_blk_hit ?_ | refine evx_blk_pass (by decide) ?_
    | refine And.intro ?_ ?_ | intro _ | decide +kernel | omega)
  all_goals simp_all
  all_goals omega
theorem s_union (a b : Rect) (h : Lens a b) (hx : a.low.length ≤ 1048576) : Sat Try.prog 134 [aR a, aR b] true (rR (un a b)) := by
  refine sat_walk (fn := Try.f134) rfl rfl rfl (Nat.le_of_ble_eq_true rfl) fun fr hP hN hbnd => ?_
  have hE : (envOf fr Try.prog).Ok := envOf_ok hP
  have hM := follows_of hP
  have hS : ∀ {draw ops}, statB Try.f134.ntmps draw ops = true → statB (envOf fr Try.prog).fr.N draw ops = true := fun h => by rw [envOf_fr, hN]; exact h
  have hl := bndR hbnd
  have e1 := h.h1
  have e2 := h.h2
  have e3 := h.h3
  repeat' (first
    | exact True.intro
    | refine ev_seq ?_
    | ((first | refine vgd_go ?_ | refine ev_region hE hM (hS (by decide +kernel)) ?_ | refine ev_if ?_ | refine end_ret hE rfl rfl ?_ | refine end_norm hE rfl rfl ?_ | refine endG_ret [] hE rfl ?_ | refine endG_norm [] hE rfl ?_ | refine vcallB_of hP (s_cloned a hx (by omega)) ?_ | refine vcall_A ?_); simp (maxSteps := 2000000) only [go_sem, hP, ↓reduceIte, Nat.reduceAdd, Nat.reduceMul, Nat.reduceEqDiff, Nat.reduceSub, Nat.reduceLeDiff, reduceCtorEq])
    | refine ev_skip ?_ | refine ev_block ?_ | refine ev_blk ?_ | refine ev_ret ?_ | refine ev_exit ?_ | refine evx_code_ret ?_ | refine evx_blk_ret ?_ | refine evx_lp_ret ?_
    | refine evx_code_exit ?_ | refine evx_lp_exit ?_ | refine evx_blk_hit ?_ | refine evx_blk_pass (by decide) ?_
    | refine And.intro ?_ ?_ | intro _ | decide +kernel | omega)
  refine ev_loop (ι := Nat) (fun k => [(2, .ptr 0 0), (3, .ptr 8 0), (4, .ptr 16 0), (5, .ptr 4112 0), (11, .c (.int .i64 a.low.length)), (12, .c (.int .i64 k))]) (fun k => [(0, .box [.c (sI a.low), .c (sI a.high)]), (8, .box [.c (sI b.low), .c (sI b.high)]), (16, .box [.nilS, .nilS]), (4112, .box [.ref 4104, .ref 1052680]), (4104, .arr true 2 1 ((mixF (fun j => min (a.low.getD j default) (b.low.getD j default)) a.low k).map eI)), (1052680, .arr true 2 1 ((mixF (fun j => max (a.high.getD j default) (b.high.getD j default)) a.high k).map eI))]) (fun _ => []) (fun k => k ≤ a.low.length) (fun k => a.low.length - k) 0 [] (by simp [allLt_zero] <;> omega) (by simp only [go_sem, hP, ↓reduceIte, Nat.reduceAdd, Nat.reduceMul, Nat.reduceEqDiff, Nat.reduceSub, Nat.reduceLeDiff, reduceCtorEq]; simp) ?_
  intro k hk
  repeat' (first
    | exact True.intro
    | refine ev_seq ?_
    | ((first | refine vgd_go ?_ | refine ev_region hE hM (hS (by decide +kernel)) ?_ | refine ev_if ?_ | refine end_ret hE rfl rfl ?_ | refine end_norm hE rfl rfl ?_ | refine endG_ret [] hE rfl ?_ | refine endG_norm [] hE rfl ?_ | refine vcall_A ?_); simp (maxSteps := 2000000) only [go_sem, hP, ↓reduceIte, Nat.reduceAdd, Nat.reduceMul, Nat.reduceEqDiff, Nat.reduceSub, Nat.reduceLeDiff, reduceCtorEq, mixF_length])
    | refine ev_skip ?_ | refine ev_block ?_ | refine ev_blk ?_ | refine ev_ret ?_ | refine ev_exit ?_ | refine evx_code_ret ?_ | refine evx_blk_ret ?_ | refine evx_lp_ret ?_
    | refine evx_code_exit ?_ | refine evx_lp_exit ?_ | refine evx_blk_hit ?_ | refine evx_blk_pass (by decide) ?_
    | refine And.intro ?_ ?_ | intro _ | decide +kernel | omega)
  · exact ev_lp (k + 1) [] (by omega) (by omega) (by simp only [go_sem, hP, ↓reduceIte, Nat.reduceAdd, Nat.reduceMul, Nat.reduceEqDiff, Nat.reduceSub, Nat.reduceLeDiff, reduceCtorEq]; simp; exact ⟨wrap_nat (by omega) hl.1, mixF_set_map (f := fun j => min (a.low.getD j default) (b.low.getD j default)) (by omega), mixF_set_map (f := fun j => max (a.high.getD j default) (b.high.getD j default)) (by omega)⟩)
  · have hke : k = a.low.length := by omega
    subst hke
    rw [mixF_full]; rfl
  · have hke : k = a.high.length := by omega
    subst hke
    rw [mixF_full]; simp only [un, e1]
theorem s_l1Union (a b : Rect) (h : Lens a b) (hx : a.low.length ≤ 1048576) : Sat Try.prog 131 [pR a, pR b] true (rR (un a b)) := by
  refine sat_walk (fn := Try.f131) rfl rfl rfl (Nat.le_of_ble_eq_true rfl) fun fr hP hN hbnd => ?_
  have hE : (envOf fr Try.prog).Ok := envOf_ok hP
  have hM := follows_of hP
  have hS : ∀ {draw ops}, statB Try.f131.ntmps draw ops = true → statB (envOf fr Try.prog).fr.N draw ops = true := fun h => by rw [envOf_fr, hN]; exact h
  have hl := bndPR hbnd
  have e1 := h.h1
  have e2 := h.h2
  have e3 := h.h3
  repeat' (first
    | exact True.intro
    | refine ev_seq ?_
    | ((first | refine vgd_go ?_ | refine ev_region hE hM (hS (by decide +kernel)) ?_ | refine ev_if ?_ | refine end_ret hE rfl rfl ?_ | refine end_norm hE rfl rfl ?_ | refine endG_ret [] hE rfl ?_ | refine endG_norm [] hE rfl ?_ | refine vcall_A ?_); simp (maxSteps := 2000000) only [go_sem, hP, ↓reduceIte, Nat.reduceAdd, Nat.reduceMul, Nat.reduceEqDiff, Nat.reduceSub, Nat.reduceLeDiff, reduceCtorEq])
    | refine ev_skip ?_ | refine ev_block ?_ | refine ev_blk ?_ | refine ev_ret ?_ | refine ev_exit ?_ | refine evx_code_ret ?_ | refine evx_blk_ret ?_ | refine evx_lp_ret ?_
    | refine evx_code_exit ?_ | refine evx_lp_exit ?_ | refine evx_blk_hit ?_ | refine evx_blk_pass (by decide) ?_
    | refine And.intro ?_ ?_ | intro _ | decide +kernel | omega)
  refine ev_loop (ι := Nat) (fun k => [(0, .pv (cR a)), (1, .pv (cR b)), (4, .ptr 0 0), (5, .ptr 4104 0), (6, .c (.int .i64 k))]) (fun k => [(0, .box [.nilS, .nilS]), (4104, .box [.ref 100000, .ref 100001]), (100000, .arr true 2 1 (((List.range k).map fun j => min (a.low.getD j default) (b.low.getD j default)).map eI)), (100001, .arr true 2 1 (((List.range k).map fun j => max (a.high.getD j default) (b.high.getD j default)).map eI))]) (fun _ => []) (fun k => k ≤ a.low.length) (fun k => a.low.length - k) 0 [(100000, none), (100001, none)] (by omega) (by simp only [go_sem, hP, ↓reduceIte, Nat.reduceAdd, Nat.reduceMul, Nat.reduceEqDiff, Nat.reduceSub, Nat.reduceLeDiff, reduceCtorEq]; simp) ?_
  intro k hk
  repeat' (first
    | exact True.intro
    | refine ev_seq ?_
    | ((first | refine vgd_go ?_ | refine ev_region hE hM (hS (by decide +kernel)) ?_ | refine ev_if ?_ | refine end_ret hE rfl rfl ?_ | refine end_norm hE rfl rfl ?_ | refine endG_ret [] hE rfl ?_ | refine endG_norm [] hE rfl ?_ | refine vcallB_of hP (s_l1Min _ _) ?_ | refine vcallB_of hP (s_l1Max _ _) ?_ | refine vcall_A ?_); simp (maxSteps := 2000000) only [go_sem, hP, ↓reduceIte, Nat.reduceAdd, Nat.reduceMul, Nat.reduceEqDiff, Nat.reduceSub, Nat.reduceLeDiff, reduceCtorEq, List.length_range, Bool.and_self])
    | refine ev_skip ?_ | refine ev_block ?_ | refine ev_blk ?_ | refine ev_ret ?_ | refine ev_exit ?_ | refine evx_code_ret ?_ | refine evx_blk_ret ?_ | refine evx_lp_ret ?_
    | refine evx_code_exit ?_ | refine evx_lp_exit ?_ | refine evx_blk_hit ?_ | refine evx_blk_pass (by decide) ?_
    | refine And.intro ?_ ?_ | intro _ | decide +kernel | omega)
  all_goals first
    | (simp_all; done)
    | exact ev_lp (k + 1) [(100000, some 20624), (100001, some 24720)] (by omega) (by omega) (by simp only [go_sem, hP, ↓reduceIte, Nat.reduceAdd, Nat.reduceMul, Nat.reduceEqDiff, Nat.reduceSub, Nat.reduceLeDiff, reduceCtorEq]; simp [List.range_succ]; exact ⟨wrap_nat (by omega) hl.1, rfl, rfl⟩)
    | (have hke : k = a.low.length := by omega
       subst hke; rfl)
theorem map_split {α β : Type} {f : α → β} {d : α} {xs : List α} {i : Nat} (h : i < xs.length) : xs.map f = (xs.take i).map f ++ f (xs.getD i d) :: (xs.drop (i + 1)).map f := by
  rw [getD_lt h, List.map_take, List.map_drop]
  conv => lhs; rw [← List.take_append_drop i (xs.map f), List.drop_eq_getElem_cons (by simpa using h)]
  simp
theorem set_split {α β : Type} {f : α → β} {x : α} {xs : List α} {i : Nat} (h : i < xs.length) : (xs.set i x).map f = (xs.take i).map f ++ f x :: (xs.drop (i + 1)).map f := by
  rw [List.set_eq_take_append_cons_drop, if_pos h]; simp
theorem s_implWidenEntry (n : Node) (d r : Int) (b : Rect) : Sat Try.prog 70 [aNode n, aI d, aI r, aR b] true (rNR (wdC n d r b) (wdV n d r b)) := by
  refine sat_walkB (fn := Try.f70) rfl rfl rfl (Nat.le_of_ble_eq_true rfl) fun fr hP hN hYX hbnd => ?_
  have hE : (envOf fr Try.prog).Ok := envOf_ok hP
  have hM := follows_of hP
  have hS : ∀ {draw ops}, statB Try.f70.ntmps draw ops = true → statB (envOf fr Try.prog).fr.N draw ops = true := fun h => by rw [envOf_fr, hN]; exact h
  by_cases hn : nf n d = 0
  · by_cases hb : rf b d = 0
    · by_cases hi : 0 ≤ findRef n.entries r
      · obtain ⟨i, h1, h2, h3⟩ := findRef_get hi
        have hw := nf_w hn
        have hr := nf_rf hn _ (getD_mem (d := default) h2)
        have hl := lens_of hr hb
        have hz := rf_three hr
        have hci : wdC n d r b = 0 := by unfold wdC; simp [hn, hb]; omega
        have hvi : wdV n d r b = ⟨n.level, n.nsn, n.right, n.entries.set i (wider (n.entries.getD i default) b)⟩ := by unfold wdV; rw [if_pos hci, h1]; rfl
        rw [hci, hvi]
        repeat' (first
          | exact True.intro
          | refine ev_seq ?_
          | ((first | refine ev_stop 11 ?_ | refine vgd_go ?_ | refine ev_region hE hM (hS (by decide +kernel)) ?_ | refine ev_if ?_ | refine end_ret hE rfl rfl ?_ | refine end_norm hE rfl rfl ?_ | refine endG_ret [] hE rfl ?_ | refine endG_norm [] hE rfl ?_ | refine vcallB_of hP (s_implNodeFault n d) ?_ | refine vcallB_of hP (s_implRectFault b d) ?_ | refine vcallB_of hP (s_entryAt n.entries r) ?_ | refine vcallB_of hP (s_clonedNode n (by omega)) ?_ | refine vcall_A ?_); simp (maxSteps := 2000000) only [go_sem, hP, ↓reduceIte, Nat.reduceAdd, Nat.reduceMul, Nat.reduceEqDiff, Nat.reduceSub, Nat.reduceLeDiff, reduceCtorEq, h1])
          | refine ev_skip ?_ | refine ev_block ?_ | refine ev_blk ?_ | refine ev_ret ?_ | refine ev_exit ?_ | refine evx_code_ret ?_ | refine evx_blk_ret ?_ | refine evx_lp_ret ?_
          | refine evx_code_exit ?_ | refine evx_lp_exit ?_ | refine evx_blk_hit ?_ | refine evx_blk_pass (by decide) ?_
          | refine And.intro ?_ ?_ | intro _ | decide +kernel | omega)
        all_goals first | (exfalso; simp_all; done) | skip
        first | refine Stop.mk ?_ | skip
        refine ev_cut [(7, .ptr 8 0), (8, .ptr 16 0), (11, iT i), (12, .ptr 40976 0)] [(8, .box [.ca (sI b.low), .ca (sI b.high)]), (16, .box [iT 0, iT 0, iT 0, iT 0, .nilS]), (40976, .box [iT n.level, iT n.nsn, iT n.right, .ref 3186696]), (3186696, .arr true 110 4 ((n.entries.take i).map oEntry ++ oEntry (n.entries.getD i default) :: (n.entries.drop (i + 1)).map oEntry))] [] [] (by have hsp := map_split (f := oEntry) (d := default) h2; simp only [oEntry_eq] at hsp; simp only [go_sem, hP, ↓reduceIte, Nat.reduceAdd, Nat.reduceMul, Nat.reduceEqDiff, Nat.reduceSub, Nat.reduceLeDiff, reduceCtorEq]; rw [hsp]; exact ⟨⟨rfl, rfl, rfl, rfl⟩, rfl⟩) ?_
        refine ev_open 3186696 3 ((n.entries.take i).map oEntry) ((n.entries.drop (i + 1)).map oEntry) (oEntry (n.entries.getD i default)) hYX rfl (by simp only [go_sem, hP, ↓reduceIte, Nat.reduceAdd, Nat.reduceMul, Nat.reduceEqDiff, Nat.reduceSub, Nat.reduceLeDiff, reduceCtorEq] <;> simp) (by simp only [go_sem, hP, ↓reduceIte, Nat.reduceAdd, Nat.reduceMul, Nat.reduceEqDiff, Nat.reduceSub, Nat.reduceLeDiff, reduceCtorEq] <;> simp) ?_
        have ht : ((n.entries.take i).map oEntry).length = i := by simp; omega
        have hti : (n.entries.take i).length = i := by simp; omega
        repeat' (first
          | exact True.intro
          | refine ev_seq ?_
          | ((first | refine ev_stop 12 ?_ | refine vgd_go ?_ | refine ev_region hE hM (hS (by decide +kernel)) ?_ | refine ev_if ?_ | refine end_ret hE rfl rfl ?_ | refine end_norm hE rfl rfl ?_ | refine endG_ret [] hE rfl ?_ | refine endG_norm [] hE rfl ?_ | refine vcallB_of hP (s_union (n.entries.getD i default).rect b hl (by omega)) ?_ | refine vcall_A ?_); simp (maxSteps := 2000000) only [go_sem, hP, ↓reduceIte, Nat.reduceAdd, Nat.reduceMul, Nat.reduceEqDiff, Nat.reduceSub, Nat.reduceLeDiff, reduceCtorEq, ht, hti, List.length_map, List.length_drop, Int.toNat_natCast])
          | refine ev_skip ?_ | refine ev_block ?_ | refine ev_blk ?_ | refine ev_ret ?_ | refine ev_exit ?_ | refine evx_code_ret ?_ | refine evx_blk_ret ?_ | refine evx_lp_ret ?_
          | refine evx_code_exit ?_ | refine evx_lp_exit ?_ | refine evx_blk_hit ?_ | refine evx_blk_pass (by decide) ?_
          | refine And.intro ?_ ?_ | intro _ | decide +kernel | omega)
        all_goals first | (exfalso; simp_all; done) | (exfalso; omega) | skip
        first | refine Stop.mk ?_ | skip
        refine ev_cut [(8, .ptr 16 0), (12, .ptr 40976 0)] [(16, .box [iT 0, iT 0, iT 0, iT 0, .nilS]), (40976, .box [iT n.level, iT n.nsn, iT n.right, .ref 3186696]), (3186696, .opn 110 4 ((n.entries.take i).map oEntry) [.ref 45136, .ref 1093712, iT (n.entries.getD i default).ref, iT (n.entries.getD i default).nsn] ((n.entries.drop (i + 1)).map oEntry)), gI 45136 (un (n.entries.getD i default).rect b).low, gI 1093712 (un (n.entries.getD i default).rect b).high] [] [] (by simp only [go_sem, hP, ↓reduceIte, Nat.reduceAdd, Nat.reduceMul, Nat.reduceEqDiff, Nat.reduceSub, Nat.reduceLeDiff, reduceCtorEq]) ?_
        refine ev_close 3186696 [(0, 0), (0, 0), (0, 0), (0, 0)] (oEntry (wider (n.entries.getD i default) b)) [45136, 1093712] rfl rfl (by decide) (by decide) ?_
        have hset : (n.entries.set i (wider (n.entries.getD i default) b)).map oEntry = (n.entries.take i).map oEntry ++ oEntry (wider (n.entries.getD i default) b) :: (n.entries.drop (i + 1)).map oEntry := set_split h2
        repeat' (first
          | exact True.intro
          | refine ev_seq ?_
          | ((first | refine vgd_go ?_ | refine ev_region hE hM (hS (by decide +kernel)) ?_ | refine ev_if ?_ | refine end_ret hE rfl rfl ?_ | refine end_norm hE rfl rfl ?_ | refine endG_ret [] hE rfl ?_ | refine endG_norm [] hE rfl ?_ | refine vcall_A ?_); simp (maxSteps := 2000000) only [go_sem, hP, ↓reduceIte, Nat.reduceAdd, Nat.reduceMul, Nat.reduceEqDiff, Nat.reduceSub, Nat.reduceLeDiff, reduceCtorEq])
          | refine ev_skip ?_ | refine ev_block ?_ | refine ev_blk ?_ | refine ev_ret ?_ | refine ev_exit ?_ | refine evx_code_ret ?_ | refine evx_blk_ret ?_ | refine evx_lp_ret ?_
          | refine evx_code_exit ?_ | refine evx_lp_exit ?_ | refine evx_blk_hit ?_ | refine evx_blk_pass (by decide) ?_
          | refine And.intro ?_ ?_ | intro _ | decide +kernel | omega)
        all_goals exact hset.symm
      · repeat' (first
          | exact True.intro
          | refine ev_seq ?_
          | ((first | refine vgd_go ?_ | refine ev_region hE hM (hS (by decide +kernel)) ?_ | refine ev_if ?_ | refine end_ret hE rfl rfl ?_ | refine end_norm hE rfl rfl ?_ | refine endG_ret [] hE rfl ?_ | refine endG_norm [] hE rfl ?_ | refine vcallB_of hP (s_implNodeFault n d) ?_ | refine vcallB_of hP (s_implRectFault b d) ?_ | refine vcallB_of hP (s_entryAt n.entries r) ?_ | refine vcall_A ?_); simp (maxSteps := 2000000) only [go_sem, hP, ↓reduceIte, Nat.reduceAdd, Nat.reduceMul, Nat.reduceEqDiff, Nat.reduceSub, Nat.reduceLeDiff, reduceCtorEq])
          | refine ev_skip ?_ | refine ev_block ?_ | refine ev_blk ?_ | refine ev_ret ?_ | refine ev_exit ?_ | refine evx_code_ret ?_ | refine evx_blk_ret ?_ | refine evx_lp_ret ?_
          | refine evx_code_exit ?_ | refine evx_lp_exit ?_ | refine evx_blk_hit ?_ | refine evx_blk_pass (by decide) ?_
          | refine And.intro ?_ ?_ | intro _ | decide +kernel | omega)
        all_goals first
          | (simp_all [wdV, wdC]; done)
          | (simp_all [wdV, wdC]; omega)
    · repeat' (first
        | exact True.intro
        | refine ev_seq ?_
        | ((first | refine vgd_go ?_ | refine ev_region hE hM (hS (by decide +kernel)) ?_ | refine ev_if ?_ | refine end_ret hE rfl rfl ?_ | refine end_norm hE rfl rfl ?_ | refine endG_ret [] hE rfl ?_ | refine endG_norm [] hE rfl ?_ | refine vcallB_of hP (s_implNodeFault n d) ?_ | refine vcallB_of hP (s_implRectFault b d) ?_ | refine vcall_A ?_); simp (maxSteps := 2000000) only [go_sem, hP, ↓reduceIte, Nat.reduceAdd, Nat.reduceMul, Nat.reduceEqDiff, Nat.reduceSub, Nat.reduceLeDiff, reduceCtorEq])
        | refine ev_skip ?_ | refine ev_block ?_ | refine ev_blk ?_ | refine ev_ret ?_ | refine ev_exit ?_ | refine evx_code_ret ?_ | refine evx_blk_ret ?_ | refine evx_lp_ret ?_
        | refine evx_code_exit ?_ | refine evx_lp_exit ?_ | refine evx_blk_hit ?_ | refine evx_blk_pass (by decide) ?_
        | refine And.intro ?_ ?_ | intro _ | decide +kernel | omega)
      all_goals (simp_all [wdV, wdC]; done)
  · repeat' (first
      | exact True.intro
      | refine ev_seq ?_
      | ((first | refine vgd_go ?_ | refine ev_region hE hM (hS (by decide +kernel)) ?_ | refine ev_if ?_ | refine end_ret hE rfl rfl ?_ | refine end_norm hE rfl rfl ?_ | refine endG_ret [] hE rfl ?_ | refine endG_norm [] hE rfl ?_ | refine vcallB_of hP (s_implNodeFault n d) ?_ | refine vcall_A ?_); simp (maxSteps := 2000000) only [go_sem, hP, ↓reduceIte, Nat.reduceAdd, Nat.reduceMul, Nat.reduceEqDiff, Nat.reduceSub, Nat.reduceLeDiff, reduceCtorEq])
      | refine ev_skip ?_ | refine ev_block ?_ | refine ev_blk ?_ | refine ev_ret ?_ | refine ev_exit ?_ | refine evx_code_ret ?_ | refine evx_blk_ret ?_ | refine evx_lp_ret ?_
      | refine evx_code_exit ?_ | refine evx_lp_exit ?_ | refine evx_blk_hit ?_ | refine evx_blk_pass (by decide) ?_
      | refine And.intro ?_ ?_ | intro _ | decide +kernel | omega)
    all_goals (simp_all [wdV, wdC]; done)
theorem s_specWidenEntry (n : Node) (d r : Int) (b : Rect) : Sat Try.prog 68 [aNode n, aI d, aI r, aR b] true (rNR (wdC n d r b) (wdV n d r b)) := by
  refine sat_walk (fn := Try.f68) rfl rfl rfl (Nat.le_of_ble_eq_true rfl) fun fr hP hN hbnd => ?_
  have hE : (envOf fr Try.prog).Ok := envOf_ok hP
  have hM := follows_of hP
  have hS : ∀ {draw ops}, statB Try.f68.ntmps draw ops = true → statB (envOf fr Try.prog).fr.N draw ops = true := fun h => by rw [envOf_fr, hN]; exact h
  by_cases hn : nf n d = 0
  · by_cases hb : rf b d = 0
    · by_cases hi : 0 ≤ findRef n.entries r
      · obtain ⟨i, h1, h2, h3⟩ := findRef_get hi
        have hw := nf_w hn
        have hr := nf_rf hn _ (getD_mem (d := default) h2)
        have hl := lens_of hr hb
        have hz := rf_three hr
        have hci : wdC n d r b = 0 := by unfold wdC; simp [hn, hb]; omega
        have hvi : wdV n d r b = ⟨n.level, n.nsn, n.right, n.entries.set i (wider (n.entries.getD i default) b)⟩ := by unfold wdV; rw [if_pos hci, h1]; rfl
        rw [hci, hvi]
        have hg : (n.entries.map oEntry).getD i [] = oEntry (n.entries.getD i default) := by rw [getD_lt h2]; simp [h2]
        repeat' (first
          | exact True.intro
          | refine ev_seq ?_
          | ((first | refine vgd_go ?_ | refine ev_region hE hM (hS (by decide +kernel)) ?_ | refine ev_if ?_ | refine end_ret hE rfl rfl ?_ | refine end_norm hE rfl rfl ?_ | refine endG_ret [] hE rfl ?_ | refine endG_norm [] hE rfl ?_ | refine vcallB_of hP (s_specNodeFault n d) ?_ | refine vcallB_of hP (s_specRectFault b d) ?_ | refine vcallB_of hP (s_l3Find n.entries r) ?_ | refine vcallB_of hP (s_l3Copy n (by omega)) ?_ | refine vcallB_of hP (s_l1Union (n.entries.getD i default).rect b hl (by omega)) ?_ | refine vcall_A ?_); simp (maxSteps := 2000000) only [go_sem, hP, ↓reduceIte, Nat.reduceAdd, Nat.reduceMul, Nat.reduceEqDiff, Nat.reduceSub, Nat.reduceLeDiff, reduceCtorEq, h1, putL, Int.toNat_natCast, hg, h2, Cs.strip, C.strip, strip_eI, List.take_succ_cons, List.take_zero])
          | refine ev_skip ?_ | refine ev_block ?_ | refine ev_blk ?_ | refine ev_ret ?_ | refine ev_exit ?_ | refine evx_code_ret ?_ | refine evx_blk_ret ?_ | refine evx_lp_ret ?_
          | refine evx_code_exit ?_ | refine evx_lp_exit ?_ | refine evx_blk_hit ?_ | refine evx_blk_pass (by decide) ?_
          | refine And.intro ?_ ?_ | intro _ | decide +kernel | omega)
        all_goals first | (exfalso; simp_all; done) | (exfalso; omega) | skip
        all_goals (rw [List.map_set]; rfl)
      · repeat' (first
          | exact True.intro
          | refine ev_seq ?_
          | ((first | refine vgd_go ?_ | refine ev_region hE hM (hS (by decide +kernel)) ?_ | refine ev_if ?_ | refine end_ret hE rfl rfl ?_ | refine end_norm hE rfl rfl ?_ | refine endG_ret [] hE rfl ?_ | refine endG_norm [] hE rfl ?_ | refine vcallB_of hP (s_specNodeFault n d) ?_ | refine vcallB_of hP (s_specRectFault b d) ?_ | refine vcallB_of hP (s_l3Find n.entries r) ?_ | refine vcall_A ?_); simp (maxSteps := 2000000) only [go_sem, hP, ↓reduceIte, Nat.reduceAdd, Nat.reduceMul, Nat.reduceEqDiff, Nat.reduceSub, Nat.reduceLeDiff, reduceCtorEq])
          | refine ev_skip ?_ | refine ev_block ?_ | refine ev_blk ?_ | refine ev_ret ?_ | refine ev_exit ?_ | refine evx_code_ret ?_ | refine evx_blk_ret ?_ | refine evx_lp_ret ?_
          | refine evx_code_exit ?_ | refine evx_lp_exit ?_ | refine evx_blk_hit ?_ | refine evx_blk_pass (by decide) ?_
          | refine And.intro ?_ ?_ | intro _ | decide +kernel | omega)
        all_goals first
          | (simp_all [wdV, wdC]; done)
          | (simp_all [wdV, wdC]; omega)
    · repeat' (first
        | exact True.intro
        | refine ev_seq ?_
        | ((first | refine vgd_go ?_ | refine ev_region hE hM (hS (by decide +kernel)) ?_ | refine ev_if ?_ | refine end_ret hE rfl rfl ?_ | refine end_norm hE rfl rfl ?_ | refine endG_ret [] hE rfl ?_ | refine endG_norm [] hE rfl ?_ | refine vcallB_of hP (s_specNodeFault n d) ?_ | refine vcallB_of hP (s_specRectFault b d) ?_ | refine vcall_A ?_); simp (maxSteps := 2000000) only [go_sem, hP, ↓reduceIte, Nat.reduceAdd, Nat.reduceMul, Nat.reduceEqDiff, Nat.reduceSub, Nat.reduceLeDiff, reduceCtorEq])
        | refine ev_skip ?_ | refine ev_block ?_ | refine ev_blk ?_ | refine ev_ret ?_ | refine ev_exit ?_ | refine evx_code_ret ?_ | refine evx_blk_ret ?_ | refine evx_lp_ret ?_
        | refine evx_code_exit ?_ | refine evx_lp_exit ?_ | refine evx_blk_hit ?_ | refine evx_blk_pass (by decide) ?_
        | refine And.intro ?_ ?_ | intro _ | decide +kernel | omega)
      all_goals (simp_all [wdV, wdC]; done)
  · repeat' (first
      | exact True.intro
      | refine ev_seq ?_
      | ((first | refine vgd_go ?_ | refine ev_region hE hM (hS (by decide +kernel)) ?_ | refine ev_if ?_ | refine end_ret hE rfl rfl ?_ | refine end_norm hE rfl rfl ?_ | refine endG_ret [] hE rfl ?_ | refine endG_norm [] hE rfl ?_ | refine vcallB_of hP (s_specNodeFault n d) ?_ | refine vcall_A ?_); simp (maxSteps := 2000000) only [go_sem, hP, ↓reduceIte, Nat.reduceAdd, Nat.reduceMul, Nat.reduceEqDiff, Nat.reduceSub, Nat.reduceLeDiff, reduceCtorEq])
      | refine ev_skip ?_ | refine ev_block ?_ | refine ev_blk ?_ | refine ev_ret ?_ | refine ev_exit ?_ | refine evx_code_ret ?_ | refine evx_blk_ret ?_ | refine evx_lp_ret ?_
      | refine evx_code_exit ?_ | refine evx_lp_exit ?_ | refine evx_blk_hit ?_ | refine evx_blk_pass (by decide) ?_
      | refine And.intro ?_ ?_ | intro _ | decide +kernel | omega)
    all_goals (simp_all [wdV, wdC]; done)
theorem l_WidenEntry (a : Node) (b : Int) (c : Int) (d : Rect) : Sat Try.prog 11 [aNode a, aI b, aI c, aR d] true (rB true) := by
  refine sat_walkB (fn := Try.f11) rfl rfl rfl (Nat.le_of_ble_eq_true rfl) fun fr hP hN hYX hbnd => ?_
  have hE : (envOf fr Try.prog).Ok := envOf_ok hP
  have hM := follows_of hP
  have hS : ∀ {draw ops}, statB Try.f11.ntmps draw ops = true → statB (envOf fr Try.prog).fr.N draw ops = true := fun h => by rw [envOf_fr, hN]; exact h
  repeat' (first
    | exact True.intro
    | refine ev_seq ?_
    | ((first | refine ev_stop 19 ?_ | refine vgd_go ?_ | refine ev_region hE hM (hS (by decide +kernel)) ?_ | refine ev_if ?_ | refine end_ret hE rfl rfl ?_ | refine end_norm hE rfl rfl ?_ | refine endG_ret [] hE rfl ?_ | refine endG_norm [] hE rfl ?_ | refine vcallB_of hP (s_szNode a _ (by omega) (by omega)) ?_ | refine vcallB_of hP (s_szRect d _ (by simp only [lessN] at *; omega) (by simp only [lessN] at *; omega)) ?_ | refine vcallB_of hP (s_toNode a (by simp only [lessN] at *; omega)) ?_ | refine vcallB_of hP (s_toRect d (by simp only [lessN] at *; omega)) ?_ | refine vcallB_of hP (s_specWidenEntry a b c d) ?_ | refine vcallB_of hP (s_implWidenEntry a b c d) ?_ | refine vcallB_of hP (s_eqNode a a) ?_ | refine vcallB_of hP (s_eqRect d d) ?_ | refine vcallB_of hP (s_eqNodeResult _ _ _ _) ?_ | refine vcall_A ?_); simp (maxSteps := 2000000) only [go_sem, hP, ↓reduceIte, Nat.reduceAdd, Nat.reduceMul, Nat.reduceEqDiff, Nat.reduceSub, Nat.reduceLeDiff, reduceCtorEq])
    | refine ev_skip ?_ | refine ev_block ?_ | refine ev_blk ?_ | refine ev_ret ?_ | refine ev_exit ?_ | refine evx_code_ret ?_ | refine evx_blk_ret ?_ | refine evx_lp_ret ?_
    | refine evx_code_exit ?_ | refine evx_lp_exit ?_ | refine evx_blk_hit ?_ | refine evx_blk_pass (by decide) ?_
    | refine And.intro ?_ ?_ | intro _ | decide +kernel | omega)
  all_goals first | (exfalso; simp_all; done) | skip
  first | refine Stop.mk ?_ | skip
  have hw0 : wNode a ≤ 1048576 := by simp only [lessN] at *; omega
  have hw1 : wR d ≤ 1048576 := by simp only [lessN] at *; omega
  have hm := mwE_le (xs := a.entries)
  simp only [wNode] at hw0
  have hv := wdV_w a b c d
  have hr := mwE_le (xs := (wdV a b c d).entries)
  have x0 := s_markNode a 1 (by omega) (by simp only [mMax]; omega)
  have x1 := s_markRect d (1 + sumW mwEntry a.entries) (by omega) (by simp only [mMax]; omega)
  have r1 := s_markNodeResult (wdC a b c d) (wdV a b c d) 1 (by omega) (by simp only [mMax]; omega)
  have r2 := s_heldNodeResult (wdC a b c d) (wdV a b c d) 1 (by omega) (by simp only [mMax]; omega)
  refine ev_cut [(1, iT b), (2, iT c), (4, .ptr 0 0), (7, .ptr 8 0), (8, .c (.bool false)), (10, .ptr 32824 0), (11, .ptr 36880 0), (12, .ptr 40976 0), (13, .ptr 45096 0), (14, iT 1)] [(0, .box [iT a.level, iT a.nsn, iT a.right, .ca (sEntryS a.entries)]), (8, .box [.ca (sI d.low), .ca (sI d.high)]), (32824, .box [iT (wdC a b c d), iT ((wdV a b c d).level), iT ((wdV a b c d).nsn), iT ((wdV a b c d).right), .ref 4227120]), gEs 4227120 ((wdV a b c d).entries), (36880, .box [iT a.level, iT a.nsn, iT a.right, .ref 3182600]), gEs 3182600 a.entries, (40976, .box [.ref 40968, .ref 1089544]), gI 40968 d.low, gI 1089544 d.high, (45096, .box [iT (wdC a b c d), iT ((wdV a b c d).level), iT ((wdV a b c d).nsn), iT ((wdV a b c d).right), .ref 4239392]), gEs 4239392 ((wdV a b c d).entries)] [] [] (by simp only [go_sem, hP, ↓reduceIte, Nat.reduceAdd, Nat.reduceMul, Nat.reduceEqDiff, Nat.reduceSub, Nat.reduceLeDiff, reduceCtorEq, List.cons_append, List.nil_append]) ?_
  repeat' (first
    | exact True.intro
    | refine ev_seq ?_
    | ((first | refine ev_regionC (id := 19) (pre := [_, _]) hE rfl (hS (by decide +kernel)) ?_ | refine vgd_go ?_ | refine ev_region hE hM (hS (by decide +kernel)) ?_ | refine ev_if ?_ | refine end_ret hE rfl rfl ?_ | refine end_norm hE rfl rfl ?_ | refine endG_ret [] hE rfl ?_ | refine endG_norm [] hE rfl ?_ | refine vcall_A ?_); simp (maxSteps := 2000000) only [go_sem, hP, ↓reduceIte, Nat.reduceAdd, Nat.reduceMul, Nat.reduceEqDiff, Nat.reduceSub, Nat.reduceLeDiff, reduceCtorEq, List.cons_append, List.nil_append])
    | refine ev_skip ?_ | refine ev_block ?_ | refine ev_blk ?_ | refine ev_ret ?_ | refine ev_exit ?_ | refine evx_code_ret ?_ | refine evx_blk_ret ?_ | refine evx_lp_ret ?_
    | refine evx_code_exit ?_ | refine evx_lp_exit ?_ | refine evx_blk_hit ?_ | refine evx_blk_pass (by decide) ?_
    | refine And.intro ?_ ?_ | intro _ | decide +kernel | omega)
  refine callM_of [(1, 3182600)] [] [(1, iT b), (2, iT c), (4, .ptr 0 0), (7, .ptr 8 0), (8, .c (.bool false)), (10, .ptr 32824 0), (11, .ptr 36880 0), (12, .ptr 40976 0), (13, .ptr 45096 0), (58, .agg [iT a.level, iT a.nsn, iT a.right, .ref 3182600]), (59, iT 1)] [(0, .box [iT a.level, iT a.nsn, iT a.right, .ca (sEntryS a.entries)]), (8, .box [.ca (sI d.low), .ca (sI d.high)]), (32824, .box [iT (wdC a b c d), iT ((wdV a b c d).level), iT ((wdV a b c d).nsn), iT ((wdV a b c d).right), .ref 4227120]), gEs 4227120 ((wdV a b c d).entries), (36880, .box [iT a.level, iT a.nsn, iT a.right, .ref 3182600]), gEs 3182600 a.entries, (40976, .box [.ref 40968, .ref 1089544]), gI 40968 d.low, gI 1089544 d.high, (45096, .box [iT (wdC a b c d), iT ((wdV a b c d).level), iT ((wdV a b c d).nsn), iT ((wdV a b c d).right), .ref 4239392]), gEs 4239392 ((wdV a b c d).entries)] [] hP x0 hYX rfl rfl (by rw [envOf_fr, hN]; decide) (by simp only [go_sem, hP, ↓reduceIte, Nat.reduceAdd, Nat.reduceMul, Nat.reduceEqDiff, Nat.reduceSub, Nat.reduceLeDiff, reduceCtorEq, List.cons_append, List.nil_append]) rfl rfl (by simp only [go_sem, hP, ↓reduceIte, Nat.reduceAdd, Nat.reduceMul, Nat.reduceEqDiff, Nat.reduceSub, Nat.reduceLeDiff, reduceCtorEq, List.cons_append, List.nil_append] <;> simp) (by simp only [go_sem, hP, ↓reduceIte, Nat.reduceAdd, Nat.reduceMul, Nat.reduceEqDiff, Nat.reduceSub, Nat.reduceLeDiff, reduceCtorEq] <;> simp) ?_
  simp only [go_sem, hP, ↓reduceIte, Nat.reduceAdd, Nat.reduceMul, Nat.reduceEqDiff, Nat.reduceSub, Nat.reduceLeDiff, reduceCtorEq, List.cons_append, List.nil_append]
  repeat' (first
    | exact True.intro
    | refine ev_seq ?_
    | ((first | refine ev_stop 24 ?_ | refine vgd_go ?_ | refine ev_region hE hM (hS (by decide +kernel)) ?_ | refine ev_if ?_ | refine end_ret hE rfl rfl ?_ | refine end_norm hE rfl rfl ?_ | refine endG_ret [] hE rfl ?_ | refine endG_norm [] hE rfl ?_ | refine vcallB_of hP (s_toNode a (by simp only [lessN] at *; omega)) ?_ | refine vcallB_of hP (s_toRect d (by simp only [lessN] at *; omega)) ?_ | refine vcallB_of hP (s_implWidenEntry a b c d) ?_ | refine vcallB_of hP (s_eqNodeResult _ _ _ _) ?_ | refine vcallG_of (args := [.agg [.ref 40968, .ref 1089544], _]) [(1, 40968), (2, 1089544)] [] hP x1 ?_ | refine vcall_A ?_); simp (maxSteps := 2000000) only [go_sem, hP, ↓reduceIte, Nat.reduceAdd, Nat.reduceMul, Nat.reduceEqDiff, Nat.reduceSub, Nat.reduceLeDiff, reduceCtorEq, List.cons_append, List.nil_append, markedA])
    | refine ev_skip ?_ | refine ev_block ?_ | refine ev_blk ?_ | refine ev_ret ?_ | refine ev_exit ?_ | refine evx_code_ret ?_ | refine evx_blk_ret ?_ | refine evx_lp_ret ?_
    | refine evx_code_exit ?_ | refine evx_lp_exit ?_ | refine evx_blk_hit ?_ | refine evx_blk_pass (by decide) ?_
    | refine And.intro ?_ ?_ | intro _ | decide +kernel | omega)
  all_goals first | (exfalso; simp_all; done) | skip
  first | refine Stop.mk ?_ | skip
  refine ev_cut [(1, iT b), (2, iT c), (4, .ptr 0 0), (7, .ptr 8 0), (8, .c (.bool false)), (10, .ptr 32824 0), (13, .ptr 45096 0), (15, iT 1)] [(0, .box [iT a.level, iT a.nsn, iT a.right, .ca (sEntryS a.entries)]), (8, .box [.ca (sI d.low), .ca (sI d.high)]), (32824, .box [iT (wdC a b c d), iT ((wdV a b c d).level), iT ((wdV a b c d).nsn), iT ((wdV a b c d).right), .ref 4227120]), gEs 4227120 ((wdV a b c d).entries), (45096, .box [iT (wdC a b c d), iT ((wdV a b c d).level), iT ((wdV a b c d).nsn), iT ((wdV a b c d).right), .ref 4239392]), gEs 4239392 ((wdV a b c d).entries)] [] [] (by simp only [go_sem, hP, ↓reduceIte, Nat.reduceAdd, Nat.reduceMul, Nat.reduceEqDiff, Nat.reduceSub, Nat.reduceLeDiff, reduceCtorEq, List.cons_append, List.nil_append]) ?_
  repeat' (first
    | exact True.intro
    | refine ev_seq ?_
    | ((first | refine ev_regionC (id := 24) (pre := [_, _]) hE rfl (hS (by decide +kernel)) ?_ | refine vgd_go ?_ | refine ev_region hE hM (hS (by decide +kernel)) ?_ | refine ev_if ?_ | refine end_ret hE rfl rfl ?_ | refine end_norm hE rfl rfl ?_ | refine endG_ret [] hE rfl ?_ | refine endG_norm [] hE rfl ?_ | refine vcall_A ?_); simp (maxSteps := 2000000) only [go_sem, hP, ↓reduceIte, Nat.reduceAdd, Nat.reduceMul, Nat.reduceEqDiff, Nat.reduceSub, Nat.reduceLeDiff, reduceCtorEq, List.cons_append, List.nil_append])
    | refine ev_skip ?_ | refine ev_block ?_ | refine ev_blk ?_ | refine ev_ret ?_ | refine ev_exit ?_ | refine evx_code_ret ?_ | refine evx_blk_ret ?_ | refine evx_lp_ret ?_
    | refine evx_code_exit ?_ | refine evx_lp_exit ?_ | refine evx_blk_hit ?_ | refine evx_blk_pass (by decide) ?_
    | refine And.intro ?_ ?_ | intro _ | decide +kernel | omega)
  refine callM_of [(1, 4239392)] [] [(1, iT b), (2, iT c), (4, .ptr 0 0), (7, .ptr 8 0), (8, .c (.bool false)), (10, .ptr 32824 0), (13, .ptr 45096 0), (72, .agg [iT (wdC a b c d), iT ((wdV a b c d).level), iT ((wdV a b c d).nsn), iT ((wdV a b c d).right), .ref 4239392]), (73, iT 1)] [(0, .box [iT a.level, iT a.nsn, iT a.right, .ca (sEntryS a.entries)]), (8, .box [.ca (sI d.low), .ca (sI d.high)]), (32824, .box [iT (wdC a b c d), iT ((wdV a b c d).level), iT ((wdV a b c d).nsn), iT ((wdV a b c d).right), .ref 4227120]), gEs 4227120 ((wdV a b c d).entries), (45096, .box [iT (wdC a b c d), iT ((wdV a b c d).level), iT ((wdV a b c d).nsn), iT ((wdV a b c d).right), .ref 4239392]), gEs 4239392 ((wdV a b c d).entries)] [] hP r1 hYX rfl rfl (by rw [envOf_fr, hN]; decide) (by simp only [go_sem, hP, ↓reduceIte, Nat.reduceAdd, Nat.reduceMul, Nat.reduceEqDiff, Nat.reduceSub, Nat.reduceLeDiff, reduceCtorEq, List.cons_append, List.nil_append]) rfl rfl (by simp only [go_sem, hP, ↓reduceIte, Nat.reduceAdd, Nat.reduceMul, Nat.reduceEqDiff, Nat.reduceSub, Nat.reduceLeDiff, reduceCtorEq, List.cons_append, List.nil_append] <;> simp) (by simp only [go_sem, hP, ↓reduceIte, Nat.reduceAdd, Nat.reduceMul, Nat.reduceEqDiff, Nat.reduceSub, Nat.reduceLeDiff, reduceCtorEq] <;> simp) ?_
  simp only [go_sem, hP, ↓reduceIte, Nat.reduceAdd, Nat.reduceMul, Nat.reduceEqDiff, Nat.reduceSub, Nat.reduceLeDiff, reduceCtorEq, List.cons_append, List.nil_append]
  repeat' (first
    | exact True.intro
    | refine ev_seq ?_
    | ((first | refine vgd_go ?_ | refine ev_region hE hM (hS (by decide +kernel)) ?_ | refine ev_if ?_ | refine end_ret hE rfl rfl ?_ | refine end_norm hE rfl rfl ?_ | refine endG_ret [] hE rfl ?_ | refine endG_norm [] hE rfl ?_ | refine vcallB_of hP (s_toNode a (by simp only [lessN] at *; omega)) ?_ | refine vcallB_of hP (s_toRect d (by simp only [lessN] at *; omega)) ?_ | refine vcallB_of hP (s_implWidenEntry a b c d) ?_ | refine vcallB_of hP (s_eqNodeResult _ _ _ _) ?_ | refine vcallG_of (args := [.agg [.ref 40968, .ref 1089544], _]) [(1, 40968), (2, 1089544)] [] hP x1 ?_ | refine vcallB_of hP r2 ?_ | refine vcall_A ?_); simp (maxSteps := 2000000) only [go_sem, hP, ↓reduceIte, Nat.reduceAdd, Nat.reduceMul, Nat.reduceEqDiff, Nat.reduceSub, Nat.reduceLeDiff, reduceCtorEq, List.cons_append, List.nil_append, markedA, markedN])
    | refine ev_skip ?_ | refine ev_block ?_ | refine ev_blk ?_ | refine ev_ret ?_ | refine ev_exit ?_ | refine evx_code_ret ?_ | refine evx_blk_ret ?_ | refine evx_lp_ret ?_
    | refine evx_code_exit ?_ | refine evx_lp_exit ?_ | refine evx_blk_hit ?_ | refine evx_blk_pass (by decide) ?_
    | refine And.intro ?_ ?_ | intro _ | decide +kernel | omega)
  all_goals (simp_all; done)
theorem all_WidenEntry (gs : List Arg) (h : shpA Try.prog 12 [48, 2, 2, 84] gs) : Sat Try.prog 11 gs true (rB true) := by
  obtain ⟨x0, gs, rfl, h0, x1, gs, rfl, h1, x2, gs, rfl, h2, x3, gs, rfl, h3, rfl⟩ := h
  obtain ⟨a, rfl⟩ := shp_Node (n := 6) rfl h0
  obtain ⟨b, rfl, _⟩ := shp_i64 (n := 11) rfl h1
  obtain ⟨c, rfl, _⟩ := shp_i64 (n := 11) rfl h2
  obtain ⟨d, rfl⟩ := shp_R (n := 9) rfl h3
  exact l_WidenEntry a b c d
end Go.Proofs.Ytcephdpooijciaa.W
