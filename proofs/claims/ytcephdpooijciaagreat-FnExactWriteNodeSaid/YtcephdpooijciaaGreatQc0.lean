/- Contracts of functions that FnExactWriteNode reaches: what each returns; it writes to nothing of old. No condition but those that each theorem states. -/
import Derived.Test.YtcephdpooijciaaGreatPd
open Go Go.Vm Go.Proofs Go.IntWalk Go.RowKit
set_option maxRecDepth 100000
set_option maxHeartbeats 4000000
set_option linter.unusedSimpArgs false
set_option linter.unusedVariables false
set_option linter.unusedSectionVars false
namespace Go.Proofs.YtcephdpooijciaaGreat.W
attribute [local irreducible] kJ ev evx vops vstep vgo vgd vget vcall vcallFn vcallA vcallB vts vres vcond vbin
theorem s_specWriteNode (a : Arena) (id : Int) (n : Node) (hw : wArena a ≤ 1048576) : Sat Tryz.prog 24 [aArena a, aI id, aNode n] true (rAR (wnC a id n) (wnV a id n) 0) := by
  refine sat_walk (fn := Tryz.f24) rfl rfl rfl (Nat.le_of_ble_eq_true rfl) fun fr hP hN hbnd => ?_
  have hE : (envOf fr Tryz.prog).Ok := envOf_ok hP
  have hM := follows_of hP
  have hS : ∀ {draw ops}, statB Tryz.f24.ntmps draw ops = true → statB (envOf fr Tryz.prog).fr.N draw ops = true := fun h => by rw [envOf_fr, hN]; exact h
  by_cases h1 : af a = 0
  · by_cases h2 : nf n a.dims = 0
    · by_cases h3 : pfC a id = 0
      · have h4 := pfC_zero h3
        have hwn := nf_w h2
        repeat' (first
          | exact True.intro
          | refine ev_seq ?_
          | ((first | refine vgd_go ?_ | refine ev_region hE hM (hS (by decide +kernel)) ?_ | refine ev_if ?_ | refine end_ret hE rfl rfl ?_ | refine end_norm hE rfl rfl ?_ | refine endG_ret [] hE rfl ?_ | refine endG_norm [] hE rfl ?_ | refine vcallB_of hP (s_specArenaFault a) ?_ | refine vcallB_of hP (s_specNodeFault n a.dims) ?_ | refine vcallB_of hP (s_l4Read a id) ?_ | refine vcallB_of hP (s_l4Copy a hw) ?_ | refine vcallB_of hP (s_l3Copy n (by omega)) ?_ | refine vcall_A ?_); simp (maxSteps := 2000000) only [go_sem, hP, ↓reduceIte, Nat.reduceAdd, Nat.reduceMul, Nat.reduceEqDiff, Nat.reduceSub, Nat.reduceLeDiff, reduceCtorEq, List.length_map])
          | refine ev_skip ?_ | refine ev_block ?_ | refine ev_blk ?_ | refine ev_ret ?_ | refine ev_exit ?_ | refine evx_code_ret ?_ | refine evx_blk_ret ?_ | refine evx_lp_ret ?_
          | refine evx_code_exit ?_ | refine evx_lp_exit ?_ | refine evx_blk_hit ?_ | refine evx_blk_pass (by decide) ?_
          | refine And.intro ?_ ?_ | intro _ | decide +kernel | omega)
        all_goals first
          | (simp_all [wnC, wnV, oNode_eq]; done)
          | (exfalso; omega)
      · repeat' (first
          | exact True.intro
          | refine ev_seq ?_
          | ((first | refine vgd_go ?_ | refine ev_region hE hM (hS (by decide +kernel)) ?_ | refine ev_if ?_ | refine end_ret hE rfl rfl ?_ | refine end_norm hE rfl rfl ?_ | refine endG_ret [] hE rfl ?_ | refine endG_norm [] hE rfl ?_ | refine vcallB_of hP (s_specArenaFault a) ?_ | refine vcallB_of hP (s_specNodeFault n a.dims) ?_ | refine vcallB_of hP (s_l4Read a id) ?_ | refine vcall_A ?_); simp (maxSteps := 2000000) only [go_sem, hP, ↓reduceIte, Nat.reduceAdd, Nat.reduceMul, Nat.reduceEqDiff, Nat.reduceSub, Nat.reduceLeDiff, reduceCtorEq])
          | refine ev_skip ?_ | refine ev_block ?_ | refine ev_blk ?_ | refine ev_ret ?_ | refine ev_exit ?_ | refine evx_code_ret ?_ | refine evx_blk_ret ?_ | refine evx_lp_ret ?_
          | refine evx_code_exit ?_ | refine evx_lp_exit ?_ | refine evx_blk_hit ?_ | refine evx_blk_pass (by decide) ?_
          | refine And.intro ?_ ?_ | intro _ | decide +kernel | omega)
        all_goals (simp_all [wnC, wnV]; done)
    · repeat' (first
        | exact True.intro
        | refine ev_seq ?_
        | ((first | refine vgd_go ?_ | refine ev_region hE hM (hS (by decide +kernel)) ?_ | refine ev_if ?_ | refine end_ret hE rfl rfl ?_ | refine end_norm hE rfl rfl ?_ | refine endG_ret [] hE rfl ?_ | refine endG_norm [] hE rfl ?_ | refine vcallB_of hP (s_specArenaFault a) ?_ | refine vcallB_of hP (s_specNodeFault n a.dims) ?_ | refine vcall_A ?_); simp (maxSteps := 2000000) only [go_sem, hP, ↓reduceIte, Nat.reduceAdd, Nat.reduceMul, Nat.reduceEqDiff, Nat.reduceSub, Nat.reduceLeDiff, reduceCtorEq])
        | refine ev_skip ?_ | refine ev_block ?_ | refine ev_blk ?_ | refine ev_ret ?_ | refine ev_exit ?_ | refine evx_code_ret ?_ | refine evx_blk_ret ?_ | refine evx_lp_ret ?_
        | refine evx_code_exit ?_ | refine evx_lp_exit ?_ | refine evx_blk_hit ?_ | refine evx_blk_pass (by decide) ?_
        | refine And.intro ?_ ?_ | intro _ | decide +kernel | omega)
      all_goals (simp_all [wnC, wnV]; done)
  · repeat' (first
      | exact True.intro
      | refine ev_seq ?_
      | ((first | refine vgd_go ?_ | refine ev_region hE hM (hS (by decide +kernel)) ?_ | refine ev_if ?_ | refine end_ret hE rfl rfl ?_ | refine end_norm hE rfl rfl ?_ | refine endG_ret [] hE rfl ?_ | refine endG_norm [] hE rfl ?_ | refine vcallB_of hP (s_specArenaFault a) ?_ | refine vcall_A ?_); simp (maxSteps := 2000000) only [go_sem, hP, ↓reduceIte, Nat.reduceAdd, Nat.reduceMul, Nat.reduceEqDiff, Nat.reduceSub, Nat.reduceLeDiff, reduceCtorEq])
      | refine ev_skip ?_ | refine ev_block ?_ | refine ev_blk ?_ | refine ev_ret ?_ | refine ev_exit ?_ | refine evx_code_ret ?_ | refine evx_blk_ret ?_ | refine evx_lp_ret ?_
      | refine evx_code_exit ?_ | refine evx_lp_exit ?_ | refine evx_blk_hit ?_ | refine evx_blk_pass (by decide) ?_
      | refine And.intro ?_ ?_ | intro _ | decide +kernel | omega)
    all_goals (simp_all [wnC, wnV]; done)
theorem s_implWriteNode (a : Arena) (id : Int) (n : Node) (hw : wArena a ≤ 1048576) : Sat Tryz.prog 25 [aArena a, aI id, aNode n] true (rAR (wnC a id n) (wnV a id n) 0) := by
  refine sat_walk (fn := Tryz.f25) rfl rfl rfl (Nat.le_of_ble_eq_true rfl) fun fr hP hN hbnd => ?_
  have hE : (envOf fr Tryz.prog).Ok := envOf_ok hP
  have hM := follows_of hP
  have hS : ∀ {draw ops}, statB Tryz.f25.ntmps draw ops = true → statB (envOf fr Tryz.prog).fr.N draw ops = true := fun h => by rw [envOf_fr, hN]; exact h
  by_cases h1 : af a = 0
  · by_cases h2 : nf n a.dims = 0
    · by_cases h3 : pfC a id = 0
      · have h4 := pfC_zero h3
        have hwn := nf_w h2
        repeat' (first
          | exact True.intro
          | refine ev_seq ?_
          | ((first | refine vgd_go ?_ | refine ev_region hE hM (hS (by decide +kernel)) ?_ | refine ev_if ?_ | refine end_ret hE rfl rfl ?_ | refine end_norm hE rfl rfl ?_ | refine endG_ret [] hE rfl ?_ | refine endG_norm [] hE rfl ?_ | refine vcallB_of hP (s_implArenaFault a) ?_ | refine vcallB_of hP (s_implNodeFault n a.dims) ?_ | refine vcallB_of hP (s_placeFault a id) ?_ | refine vcallB_of hP (s_Acloned a hw) ?_ | refine vcallB_of hP (s_clonedNode n (by omega)) ?_ | refine vcall_A ?_); simp (maxSteps := 2000000) only [go_sem, hP, ↓reduceIte, Nat.reduceAdd, Nat.reduceMul, Nat.reduceEqDiff, Nat.reduceSub, Nat.reduceLeDiff, reduceCtorEq, List.length_map])
          | refine ev_skip ?_ | refine ev_block ?_ | refine ev_blk ?_ | refine ev_ret ?_ | refine ev_exit ?_ | refine evx_code_ret ?_ | refine evx_blk_ret ?_ | refine evx_lp_ret ?_
          | refine evx_code_exit ?_ | refine evx_lp_exit ?_ | refine evx_blk_hit ?_ | refine evx_blk_pass (by decide) ?_
          | refine And.intro ?_ ?_ | intro _ | decide +kernel | omega)
        all_goals first
          | (simp_all [wnC, wnV, oNode_eq]; done)
          | (exfalso; omega)
      · repeat' (first
          | exact True.intro
          | refine ev_seq ?_
          | ((first | refine vgd_go ?_ | refine ev_region hE hM (hS (by decide +kernel)) ?_ | refine ev_if ?_ | refine end_ret hE rfl rfl ?_ | refine end_norm hE rfl rfl ?_ | refine endG_ret [] hE rfl ?_ | refine endG_norm [] hE rfl ?_ | refine vcallB_of hP (s_implArenaFault a) ?_ | refine vcallB_of hP (s_implNodeFault n a.dims) ?_ | refine vcallB_of hP (s_placeFault a id) ?_ | refine vcall_A ?_); simp (maxSteps := 2000000) only [go_sem, hP, ↓reduceIte, Nat.reduceAdd, Nat.reduceMul, Nat.reduceEqDiff, Nat.reduceSub, Nat.reduceLeDiff, reduceCtorEq])
          | refine ev_skip ?_ | refine ev_block ?_ | refine ev_blk ?_ | refine ev_ret ?_ | refine ev_exit ?_ | refine evx_code_ret ?_ | refine evx_blk_ret ?_ | refine evx_lp_ret ?_
          | refine evx_code_exit ?_ | refine evx_lp_exit ?_ | refine evx_blk_hit ?_ | refine evx_blk_pass (by decide) ?_
          | refine And.intro ?_ ?_ | intro _ | decide +kernel | omega)
        all_goals (simp_all [wnC, wnV]; done)
    · repeat' (first
        | exact True.intro
        | refine ev_seq ?_
        | ((first | refine vgd_go ?_ | refine ev_region hE hM (hS (by decide +kernel)) ?_ | refine ev_if ?_ | refine end_ret hE rfl rfl ?_ | refine end_norm hE rfl rfl ?_ | refine endG_ret [] hE rfl ?_ | refine endG_norm [] hE rfl ?_ | refine vcallB_of hP (s_implArenaFault a) ?_ | refine vcallB_of hP (s_implNodeFault n a.dims) ?_ | refine vcall_A ?_); simp (maxSteps := 2000000) only [go_sem, hP, ↓reduceIte, Nat.reduceAdd, Nat.reduceMul, Nat.reduceEqDiff, Nat.reduceSub, Nat.reduceLeDiff, reduceCtorEq])
        | refine ev_skip ?_ | refine ev_block ?_ | refine ev_blk ?_ | refine ev_ret ?_ | refine ev_exit ?_ | refine evx_code_ret ?_ | refine evx_blk_ret ?_ | refine evx_lp_ret ?_
        | refine evx_code_exit ?_ | refine evx_lp_exit ?_ | refine evx_blk_hit ?_ | refine evx_blk_pass (by decide) ?_
        | refine And.intro ?_ ?_ | intro _ | decide +kernel | omega)
      all_goals (simp_all [wnC, wnV]; done)
  · repeat' (first
      | exact True.intro
      | refine ev_seq ?_
      | ((first | refine vgd_go ?_ | refine ev_region hE hM (hS (by decide +kernel)) ?_ | refine ev_if ?_ | refine end_ret hE rfl rfl ?_ | refine end_norm hE rfl rfl ?_ | refine endG_ret [] hE rfl ?_ | refine endG_norm [] hE rfl ?_ | refine vcallB_of hP (s_implArenaFault a) ?_ | refine vcall_A ?_); simp (maxSteps := 2000000) only [go_sem, hP, ↓reduceIte, Nat.reduceAdd, Nat.reduceMul, Nat.reduceEqDiff, Nat.reduceSub, Nat.reduceLeDiff, reduceCtorEq])
      | refine ev_skip ?_ | refine ev_block ?_ | refine ev_blk ?_ | refine ev_ret ?_ | refine ev_exit ?_ | refine evx_code_ret ?_ | refine evx_blk_ret ?_ | refine evx_lp_ret ?_
      | refine evx_code_exit ?_ | refine evx_lp_exit ?_ | refine evx_blk_hit ?_ | refine evx_blk_pass (by decide) ?_
      | refine And.intro ?_ ?_ | intro _ | decide +kernel | omega)
    all_goals (simp_all [wnC, wnV]; done)
theorem wnV_w (a : Arena) (id : Int) (n : Node) : mwA (wnV a id n) ≤ mwA a + 100 := by
  unfold wnV; split
  · rename_i h
    have h2 : nf n a.dims = 0 := by unfold wnC at h; (repeat' split at h) <;> simp_all
    have h3 := mwNode_le' h2
    have h4 := sumW_set (w := mwNode) (x := n) (xs := a.nodes) (i := id.toNat)
    have e : mwA (⟨a.dims, a.nodes.set id.toNat n, a.free, a.retired⟩ : Arena) = sumW mwNode (a.nodes.set id.toNat n) + a.free.length + sumW mwRetired a.retired := rfl
    rw [e]; unfold mwA; omega
  · exact Nat.zero_le _
theorem l_WriteNode (a : Arena) (b : Int) (c : Node) : Sat Tryz.prog 5 [aArena a, aI b, aNode c] true (rB true) := by
  refine sat_walkB (fn := Tryz.f5) rfl rfl rfl (Nat.le_of_ble_eq_true rfl) fun fr hP hN hYX hbnd => ?_
  have hE : (envOf fr Tryz.prog).Ok := envOf_ok hP
  have hM := follows_of hP
  have hS : ∀ {draw ops}, statB Tryz.f5.ntmps draw ops = true → statB (envOf fr Tryz.prog).fr.N draw ops = true := fun h => by rw [envOf_fr, hN]; exact h
  repeat' (first
    | exact True.intro
    | refine ev_seq ?_
    | ((first | refine ev_stop 19 ?_ | refine vgd_go ?_ | refine ev_region hE hM (hS (by decide +kernel)) ?_ | refine ev_if ?_ | refine end_ret hE rfl rfl ?_ | refine end_norm hE rfl rfl ?_ | refine endG_ret [] hE rfl ?_ | refine endG_norm [] hE rfl ?_ | refine vcallB_of hP (s_szArena a _ (by omega) (by omega)) ?_ | refine vcallB_of hP (s_szNode c _ (by simp only [lessN] at *; omega) (by simp only [lessN] at *; omega)) ?_ | refine vcallB_of hP (s_toArena a (by simp only [lessN] at *; omega)) ?_ | refine vcallB_of hP (s_toNode c (by simp only [lessN] at *; omega)) ?_ | refine vcallB_of hP (s_specWriteNode a b c (by simp only [lessN] at *; omega)) ?_ | refine vcallB_of hP (s_implWriteNode a b c (by simp only [lessN] at *; omega)) ?_ | refine vcallB_of hP (s_eqArena a a) ?_ | refine vcallB_of hP (s_eqNode c c) ?_ | refine vcallB_of hP (s_eqArenaResult _ _ _ _ _ _) ?_ | refine vcall_A ?_); simp (maxSteps := 2000000) only [go_sem, hP, ↓reduceIte, Nat.reduceAdd, Nat.reduceMul, Nat.reduceEqDiff, Nat.reduceSub, Nat.reduceLeDiff, reduceCtorEq])
    | refine ev_skip ?_ | refine ev_block ?_ | refine ev_blk ?_ | refine ev_ret ?_ | refine ev_exit ?_ | refine evx_code_ret ?_ | refine evx_blk_ret ?_ | refine evx_lp_ret ?_
    | refine evx_code_exit ?_ | refine evx_lp_exit ?_ | refine evx_blk_hit ?_ | refine evx_blk_pass (by decide) ?_
    | refine And.intro ?_ ?_ | intro _ | decide +kernel | omega)
  all_goals first | (exfalso; simp_all; done) | skip
  first | refine Stop.mk ?_ | skip
  have hw0 : wArena a ≤ 1048576 := by simp only [lessN] at *; omega
  have hw1 : wNode c ≤ 1048576 := by simp only [lessN] at *; omega
  simp only [wNode] at hw1
  have hm := mwA_le (a := a)
  have hv := wnV_w a b c
  have hr := mwE_le (xs := c.entries)
  have hq : 1 + mwA a = 1 + sumW mwNode a.nodes + a.free.length + sumW mwRetired a.retired := by unfold mwA; omega
  have x0 := s_markArena a 1 (by omega) (by simp only [mMax]; omega)
  have x1 := s_markNode c (1 + sumW mwNode a.nodes + a.free.length + sumW mwRetired a.retired) (by omega) (by simp only [mMax]; omega)
  have r1 := s_markArenaResult (wnC a b c) (wnV a b c) 0 1 (by omega) (by simp only [mMax]; omega)
  have r2 := s_heldArenaResult (wnC a b c) (wnV a b c) 0 1 (by omega) (by simp only [mMax]; omega)
  refine ev_cut [(1, iT b), (3, .ptr 0 0), (5, .ptr 8 0), (6, .c (.bool false)), (8, .ptr 32816 0), (9, .ptr 36880 0), (10, .ptr 40976 0), (11, .ptr 45088 0), (12, iT 1)] [(0, .box [iT a.dims, .ca (sNodeS a.nodes), .ca (sI a.free), .ca (sRetiredS a.retired)]), (8, .box [iT c.level, iT c.nsn, iT c.right, .ca (sEntryS c.entries)]), (32816, .box [iT (wnC a b c), iT ((wnV a b c).dims), .ref 2129960, .ref 3178536, .ref 4227112, iT 0]), gNs 2129960 ((wnV a b c).nodes), gI 3178536 ((wnV a b c).free), gRets 4227112 ((wnV a b c).retired), (36880, .box [iT a.dims, .ref 1085448, .ref 2134024, .ref 3182600]), gNs 1085448 a.nodes, gI 2134024 a.free, gRets 3182600 a.retired, (40976, .box [iT c.level, iT c.nsn, iT c.right, .ref 3186696]), gEs 3186696 c.entries, (45088, .box [iT (wnC a b c), iT ((wnV a b c).dims), .ref 2142232, .ref 3190808, .ref 4239384, iT 0]), gNs 2142232 ((wnV a b c).nodes), gI 3190808 ((wnV a b c).free), gRets 4239384 ((wnV a b c).retired)] [] [] (by simp only [go_sem, hP, ↓reduceIte, Nat.reduceAdd, Nat.reduceMul, Nat.reduceEqDiff, Nat.reduceSub, Nat.reduceLeDiff, reduceCtorEq, List.cons_append, List.nil_append]) ?_
  repeat' (first
    | exact True.intro
    | refine ev_seq ?_
    | ((first | refine ev_regionC (id := 19) (pre := [_, _]) hE rfl (hS (by decide +kernel)) ?_ | refine vgd_go ?_ | refine ev_region hE hM (hS (by decide +kernel)) ?_ | refine ev_if ?_ | refine end_ret hE rfl rfl ?_ | refine end_norm hE rfl rfl ?_ | refine endG_ret [] hE rfl ?_ | refine endG_norm [] hE rfl ?_ | refine vcall_A ?_); simp (maxSteps := 2000000) only [go_sem, hP, ↓reduceIte, Nat.reduceAdd, Nat.reduceMul, Nat.reduceEqDiff, Nat.reduceSub, Nat.reduceLeDiff, reduceCtorEq, List.cons_append, List.nil_append])
    | refine ev_skip ?_ | refine ev_block ?_ | refine ev_blk ?_ | refine ev_ret ?_ | refine ev_exit ?_ | refine evx_code_ret ?_ | refine evx_blk_ret ?_ | refine evx_lp_ret ?_
    | refine evx_code_exit ?_ | refine evx_lp_exit ?_ | refine evx_blk_hit ?_ | refine evx_blk_pass (by decide) ?_
    | refine And.intro ?_ ?_ | intro _ | decide +kernel | omega)
  refine callM_of [(1, 1085448), (2, 2134024), (3, 3182600)] [] [(1, iT b), (3, .ptr 0 0), (5, .ptr 8 0), (6, .c (.bool false)), (8, .ptr 32816 0), (9, .ptr 36880 0), (10, .ptr 40976 0), (11, .ptr 45088 0), (54, .agg [iT a.dims, .ref 1085448, .ref 2134024, .ref 3182600]), (55, iT 1)] [(0, .box [iT a.dims, .ca (sNodeS a.nodes), .ca (sI a.free), .ca (sRetiredS a.retired)]), (8, .box [iT c.level, iT c.nsn, iT c.right, .ca (sEntryS c.entries)]), (32816, .box [iT (wnC a b c), iT ((wnV a b c).dims), .ref 2129960, .ref 3178536, .ref 4227112, iT 0]), gNs 2129960 ((wnV a b c).nodes), gI 3178536 ((wnV a b c).free), gRets 4227112 ((wnV a b c).retired), (36880, .box [iT a.dims, .ref 1085448, .ref 2134024, .ref 3182600]), gNs 1085448 a.nodes, gI 2134024 a.free, gRets 3182600 a.retired, (40976, .box [iT c.level, iT c.nsn, iT c.right, .ref 3186696]), gEs 3186696 c.entries, (45088, .box [iT (wnC a b c), iT ((wnV a b c).dims), .ref 2142232, .ref 3190808, .ref 4239384, iT 0]), gNs 2142232 ((wnV a b c).nodes), gI 3190808 ((wnV a b c).free), gRets 4239384 ((wnV a b c).retired)] [] hP x0 hYX rfl rfl (by rw [envOf_fr, hN]; decide) (by simp only [go_sem, hP, ↓reduceIte, Nat.reduceAdd, Nat.reduceMul, Nat.reduceEqDiff, Nat.reduceSub, Nat.reduceLeDiff, reduceCtorEq, List.cons_append, List.nil_append]) rfl rfl (by simp only [go_sem, hP, ↓reduceIte, Nat.reduceAdd, Nat.reduceMul, Nat.reduceEqDiff, Nat.reduceSub, Nat.reduceLeDiff, reduceCtorEq, List.cons_append, List.nil_append] <;> simp) (by simp only [go_sem, hP, ↓reduceIte, Nat.reduceAdd, Nat.reduceMul, Nat.reduceEqDiff, Nat.reduceSub, Nat.reduceLeDiff, reduceCtorEq] <;> simp) ?_
  simp only [go_sem, hP, ↓reduceIte, Nat.reduceAdd, Nat.reduceMul, Nat.reduceEqDiff, Nat.reduceSub, Nat.reduceLeDiff, reduceCtorEq, List.cons_append, List.nil_append]
  repeat' (first
    | exact True.intro
    | refine ev_seq ?_
    | ((first | refine ev_stop 20 ?_ | refine vgd_go ?_ | refine ev_region hE hM (hS (by decide +kernel)) ?_ | refine ev_if ?_ | refine end_ret hE rfl rfl ?_ | refine end_norm hE rfl rfl ?_ | refine endG_ret [] hE rfl ?_ | refine endG_norm [] hE rfl ?_ | refine vcallB_of hP (s_toArena a (by simp only [lessN] at *; omega)) ?_ | refine vcallB_of hP (s_toNode c (by simp only [lessN] at *; omega)) ?_ | refine vcallB_of hP (s_implWriteNode a b c (by simp only [lessN] at *; omega)) ?_ | refine vcallB_of hP (s_eqArenaResult _ _ _ _ _ _) ?_ | refine vcall_A ?_); simp (maxSteps := 2000000) only [go_sem, hP, ↓reduceIte, Nat.reduceAdd, Nat.reduceMul, Nat.reduceEqDiff, Nat.reduceSub, Nat.reduceLeDiff, reduceCtorEq, List.cons_append, List.nil_append, markedA])
    | refine ev_skip ?_ | refine ev_block ?_ | refine ev_blk ?_ | refine ev_ret ?_ | refine ev_exit ?_ | refine evx_code_ret ?_ | refine evx_blk_ret ?_ | refine evx_lp_ret ?_
    | refine evx_code_exit ?_ | refine evx_lp_exit ?_ | refine evx_blk_hit ?_ | refine evx_blk_pass (by decide) ?_
    | refine And.intro ?_ ?_ | intro _ | decide +kernel | omega)
  all_goals first | (exfalso; simp_all; done) | skip
  first | refine Stop.mk ?_ | skip
  refine ev_cut [(1, iT b), (3, .ptr 0 0), (5, .ptr 8 0), (6, .c (.bool false)), (8, .ptr 32816 0), (10, .ptr 40976 0), (11, .ptr 45088 0), (12, iT (1 + sumW mwNode a.nodes + a.free.length + sumW mwRetired a.retired))] [(0, .box [iT a.dims, .ca (sNodeS a.nodes), .ca (sI a.free), .ca (sRetiredS a.retired)]), (8, .box [iT c.level, iT c.nsn, iT c.right, .ca (sEntryS c.entries)]), (32816, .box [iT (wnC a b c), iT ((wnV a b c).dims), .ref 2129960, .ref 3178536, .ref 4227112, iT 0]), gNs 2129960 ((wnV a b c).nodes), gI 3178536 ((wnV a b c).free), gRets 4227112 ((wnV a b c).retired), (40976, .box [iT c.level, iT c.nsn, iT c.right, .ref 3186696]), gEs 3186696 c.entries, (45088, .box [iT (wnC a b c), iT ((wnV a b c).dims), .ref 2142232, .ref 3190808, .ref 4239384, iT 0]), gNs 2142232 ((wnV a b c).nodes), gI 3190808 ((wnV a b c).free), gRets 4239384 ((wnV a b c).retired)] [] [] (by simp only [go_sem, hP, ↓reduceIte, Nat.reduceAdd, Nat.reduceMul, Nat.reduceEqDiff, Nat.reduceSub, Nat.reduceLeDiff, reduceCtorEq, List.cons_append, List.nil_append]) ?_
  repeat' (first
    | exact True.intro
    | refine ev_seq ?_
    | ((first | refine ev_regionC (id := 20) (pre := [_, _]) hE rfl (hS (by decide +kernel)) ?_ | refine vgd_go ?_ | refine ev_region hE hM (hS (by decide +kernel)) ?_ | refine ev_if ?_ | refine end_ret hE rfl rfl ?_ | refine end_norm hE rfl rfl ?_ | refine endG_ret [] hE rfl ?_ | refine endG_norm [] hE rfl ?_ | refine vcall_A ?_); simp (maxSteps := 2000000) only [go_sem, hP, ↓reduceIte, Nat.reduceAdd, Nat.reduceMul, Nat.reduceEqDiff, Nat.reduceSub, Nat.reduceLeDiff, reduceCtorEq, List.cons_append, List.nil_append])
    | refine ev_skip ?_ | refine ev_block ?_ | refine ev_blk ?_ | refine ev_ret ?_ | refine ev_exit ?_ | refine evx_code_ret ?_ | refine evx_blk_ret ?_ | refine evx_lp_ret ?_
    | refine evx_code_exit ?_ | refine evx_lp_exit ?_ | refine evx_blk_hit ?_ | refine evx_blk_pass (by decide) ?_
    | refine And.intro ?_ ?_ | intro _ | decide +kernel | omega)
  refine callM_of [(1, 3186696)] [] [(1, iT b), (3, .ptr 0 0), (5, .ptr 8 0), (6, .c (.bool false)), (8, .ptr 32816 0), (10, .ptr 40976 0), (11, .ptr 45088 0), (57, .agg [iT c.level, iT c.nsn, iT c.right, .ref 3186696]), (58, iT (1 + sumW mwNode a.nodes + a.free.length + sumW mwRetired a.retired))] [(0, .box [iT a.dims, .ca (sNodeS a.nodes), .ca (sI a.free), .ca (sRetiredS a.retired)]), (8, .box [iT c.level, iT c.nsn, iT c.right, .ca (sEntryS c.entries)]), (32816, .box [iT (wnC a b c), iT ((wnV a b c).dims), .ref 2129960, .ref 3178536, .ref 4227112, iT 0]), gNs 2129960 ((wnV a b c).nodes), gI 3178536 ((wnV a b c).free), gRets 4227112 ((wnV a b c).retired), (40976, .box [iT c.level, iT c.nsn, iT c.right, .ref 3186696]), gEs 3186696 c.entries, (45088, .box [iT (wnC a b c), iT ((wnV a b c).dims), .ref 2142232, .ref 3190808, .ref 4239384, iT 0]), gNs 2142232 ((wnV a b c).nodes), gI 3190808 ((wnV a b c).free), gRets 4239384 ((wnV a b c).retired)] [] hP x1 hYX rfl rfl (by rw [envOf_fr, hN]; decide) (by simp only [go_sem, hP, ↓reduceIte, Nat.reduceAdd, Nat.reduceMul, Nat.reduceEqDiff, Nat.reduceSub, Nat.reduceLeDiff, reduceCtorEq, List.cons_append, List.nil_append]) rfl rfl (by simp only [go_sem, hP, ↓reduceIte, Nat.reduceAdd, Nat.reduceMul, Nat.reduceEqDiff, Nat.reduceSub, Nat.reduceLeDiff, reduceCtorEq, List.cons_append, List.nil_append] <;> simp) (by simp only [go_sem, hP, ↓reduceIte, Nat.reduceAdd, Nat.reduceMul, Nat.reduceEqDiff, Nat.reduceSub, Nat.reduceLeDiff, reduceCtorEq] <;> simp) ?_
  simp only [go_sem, hP, ↓reduceIte, Nat.reduceAdd, Nat.reduceMul, Nat.reduceEqDiff, Nat.reduceSub, Nat.reduceLeDiff, reduceCtorEq, List.cons_append, List.nil_append]
  repeat' (first
    | exact True.intro
    | refine ev_seq ?_
    | ((first | refine ev_stop 24 ?_ | refine vgd_go ?_ | refine ev_region hE hM (hS (by decide +kernel)) ?_ | refine ev_if ?_ | refine end_ret hE rfl rfl ?_ | refine end_norm hE rfl rfl ?_ | refine endG_ret [] hE rfl ?_ | refine endG_norm [] hE rfl ?_ | refine vcallB_of hP (s_toArena a (by simp only [lessN] at *; omega)) ?_ | refine vcallB_of hP (s_toNode c (by simp only [lessN] at *; omega)) ?_ | refine vcallB_of hP (s_implWriteNode a b c (by simp only [lessN] at *; omega)) ?_ | refine vcallB_of hP (s_eqArenaResult _ _ _ _ _ _) ?_ | refine vcall_A ?_); simp (maxSteps := 2000000) only [go_sem, hP, ↓reduceIte, Nat.reduceAdd, Nat.reduceMul, Nat.reduceEqDiff, Nat.reduceSub, Nat.reduceLeDiff, reduceCtorEq, List.cons_append, List.nil_append, markedA])
    | refine ev_skip ?_ | refine ev_block ?_ | refine ev_blk ?_ | refine ev_ret ?_ | refine ev_exit ?_ | refine evx_code_ret ?_ | refine evx_blk_ret ?_ | refine evx_lp_ret ?_
    | refine evx_code_exit ?_ | refine evx_lp_exit ?_ | refine evx_blk_hit ?_ | refine evx_blk_pass (by decide) ?_
    | refine And.intro ?_ ?_ | intro _ | decide +kernel | omega)
  all_goals first | (exfalso; simp_all; done) | skip
  first | refine Stop.mk ?_ | skip
  refine ev_cut [(1, iT b), (3, .ptr 0 0), (5, .ptr 8 0), (6, .c (.bool false)), (8, .ptr 32816 0), (11, .ptr 45088 0), (13, iT 1)] [(0, .box [iT a.dims, .ca (sNodeS a.nodes), .ca (sI a.free), .ca (sRetiredS a.retired)]), (8, .box [iT c.level, iT c.nsn, iT c.right, .ca (sEntryS c.entries)]), (32816, .box [iT (wnC a b c), iT ((wnV a b c).dims), .ref 2129960, .ref 3178536, .ref 4227112, iT 0]), gNs 2129960 ((wnV a b c).nodes), gI 3178536 ((wnV a b c).free), gRets 4227112 ((wnV a b c).retired), (45088, .box [iT (wnC a b c), iT ((wnV a b c).dims), .ref 2142232, .ref 3190808, .ref 4239384, iT 0]), gNs 2142232 ((wnV a b c).nodes), gI 3190808 ((wnV a b c).free), gRets 4239384 ((wnV a b c).retired)] [] [] (by simp only [go_sem, hP, ↓reduceIte, Nat.reduceAdd, Nat.reduceMul, Nat.reduceEqDiff, Nat.reduceSub, Nat.reduceLeDiff, reduceCtorEq, List.cons_append, List.nil_append]) ?_
  repeat' (first
    | exact True.intro
    | refine ev_seq ?_
    | ((first | refine ev_regionC (id := 24) (pre := [_, _]) hE rfl (hS (by decide +kernel)) ?_ | refine vgd_go ?_ | refine ev_region hE hM (hS (by decide +kernel)) ?_ | refine ev_if ?_ | refine end_ret hE rfl rfl ?_ | refine end_norm hE rfl rfl ?_ | refine endG_ret [] hE rfl ?_ | refine endG_norm [] hE rfl ?_ | refine vcall_A ?_); simp (maxSteps := 2000000) only [go_sem, hP, ↓reduceIte, Nat.reduceAdd, Nat.reduceMul, Nat.reduceEqDiff, Nat.reduceSub, Nat.reduceLeDiff, reduceCtorEq, List.cons_append, List.nil_append])
    | refine ev_skip ?_ | refine ev_block ?_ | refine ev_blk ?_ | refine ev_ret ?_ | refine ev_exit ?_ | refine evx_code_ret ?_ | refine evx_blk_ret ?_ | refine evx_lp_ret ?_
    | refine evx_code_exit ?_ | refine evx_lp_exit ?_ | refine evx_blk_hit ?_ | refine evx_blk_pass (by decide) ?_
    | refine And.intro ?_ ?_ | intro _ | decide +kernel | omega)
  refine callM_of [(1, 2142232), (2, 3190808), (3, 4239384)] [] [(1, iT b), (3, .ptr 0 0), (5, .ptr 8 0), (6, .c (.bool false)), (8, .ptr 32816 0), (11, .ptr 45088 0), (68, .agg [iT (wnC a b c), iT ((wnV a b c).dims), .ref 2142232, .ref 3190808, .ref 4239384, iT 0]), (69, iT 1)] [(0, .box [iT a.dims, .ca (sNodeS a.nodes), .ca (sI a.free), .ca (sRetiredS a.retired)]), (8, .box [iT c.level, iT c.nsn, iT c.right, .ca (sEntryS c.entries)]), (32816, .box [iT (wnC a b c), iT ((wnV a b c).dims), .ref 2129960, .ref 3178536, .ref 4227112, iT 0]), gNs 2129960 ((wnV a b c).nodes), gI 3178536 ((wnV a b c).free), gRets 4227112 ((wnV a b c).retired), (45088, .box [iT (wnC a b c), iT ((wnV a b c).dims), .ref 2142232, .ref 3190808, .ref 4239384, iT 0]), gNs 2142232 ((wnV a b c).nodes), gI 3190808 ((wnV a b c).free), gRets 4239384 ((wnV a b c).retired)] [] hP r1 hYX rfl rfl (by rw [envOf_fr, hN]; decide) (by simp only [go_sem, hP, ↓reduceIte, Nat.reduceAdd, Nat.reduceMul, Nat.reduceEqDiff, Nat.reduceSub, Nat.reduceLeDiff, reduceCtorEq, List.cons_append, List.nil_append]) rfl rfl (by simp only [go_sem, hP, ↓reduceIte, Nat.reduceAdd, Nat.reduceMul, Nat.reduceEqDiff, Nat.reduceSub, Nat.reduceLeDiff, reduceCtorEq, List.cons_append, List.nil_append] <;> simp) (by simp only [go_sem, hP, ↓reduceIte, Nat.reduceAdd, Nat.reduceMul, Nat.reduceEqDiff, Nat.reduceSub, Nat.reduceLeDiff, reduceCtorEq] <;> simp) ?_
  simp only [go_sem, hP, ↓reduceIte, Nat.reduceAdd, Nat.reduceMul, Nat.reduceEqDiff, Nat.reduceSub, Nat.reduceLeDiff, reduceCtorEq, List.cons_append, List.nil_append]
  repeat' (first
    | exact True.intro
    | refine ev_seq ?_
    | ((first | refine vgd_go ?_ | refine ev_region hE hM (hS (by decide +kernel)) ?_ | refine ev_if ?_ | refine end_ret hE rfl rfl ?_ | refine end_norm hE rfl rfl ?_ | refine endG_ret [] hE rfl ?_ | refine endG_norm [] hE rfl ?_ | refine vcallB_of hP (s_toArena a (by simp only [lessN] at *; omega)) ?_ | refine vcallB_of hP (s_toNode c (by simp only [lessN] at *; omega)) ?_ | refine vcallB_of hP (s_implWriteNode a b c (by simp only [lessN] at *; omega)) ?_ | refine vcallB_of hP (s_eqArenaResult _ _ _ _ _ _) ?_ | refine vcallB_of hP r2 ?_ | refine vcall_A ?_); simp (maxSteps := 2000000) only [go_sem, hP, ↓reduceIte, Nat.reduceAdd, Nat.reduceMul, Nat.reduceEqDiff, Nat.reduceSub, Nat.reduceLeDiff, reduceCtorEq, List.cons_append, List.nil_append, markedA])
    | refine ev_skip ?_ | refine ev_block ?_ | refine ev_blk ?_ | refine ev_ret ?_ | refine ev_exit ?_ | refine evx_code_ret ?_ | refine evx_blk_ret ?_ | refine evx_lp_ret ?_
    | refine evx_code_exit ?_ | refine evx_lp_exit ?_ | refine evx_blk_hit ?_ | refine evx_blk_pass (by decide) ?_
    | refine And.intro ?_ ?_ | intro _ | decide +kernel | omega)
  all_goals (simp_all; done)
theorem all_WriteNode (gs : List Arg) (h : shpA Tryz.prog 12 [26, 2, 46] gs) : Sat Tryz.prog 5 gs true (rB true) := by
  obtain ⟨x0, gs, rfl, h0, x1, gs, rfl, h1, x2, gs, rfl, h2, rfl⟩ := h
  obtain ⟨a, rfl⟩ := shp_Arena (n := 4) rfl h0
  obtain ⟨b, rfl, _⟩ := shp_i64 (n := 11) rfl h1
  obtain ⟨c, rfl⟩ := shp_Node (n := 6) rfl h2
  exact l_WriteNode a b c
end Go.Proofs.YtcephdpooijciaaGreat.W
