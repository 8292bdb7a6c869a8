/- Contracts of functions that FnExactWithEntry reaches: what each returns; it writes to nothing of old. No condition but those that each theorem states. -/
import Derived.Test.YtcephdpooijciaaPb
open Go Go.Vm Go.Proofs Go.IntWalk Go.RowKit
set_option maxRecDepth 100000
set_option maxHeartbeats 4000000
set_option linter.unusedSimpArgs false
set_option linter.unusedVariables false
set_option linter.unusedSectionVars false
namespace Go.Proofs.Ytcephdpooijciaa.W
attribute [local irreducible] kJ ev evx vops vstep vgo vgd vget vcall vcallFn vcallA vcallB vts vres vcond vbin
theorem s_markEntry (a b : Int) (r : Rect) (k : Int) (h0 : 0 ≤ k) (h1 : k + wR r ≤ mMax) : SatG Try.prog 62 false [.agg [.ref 1, .ref 2, iT a, iT b], iT k] (gR 1 2 r) (iT (k + wR r)) (gR 1 2 (markedR k r)) := by
  refine satG_walk (fn := Try.f62) rfl rfl rfl (Nat.le_of_ble_eq_true rfl) (by simp) fun fr hP hN hdp hb1 hb2 => ?_
  have hE : (envOf fr Try.prog).Ok := envOf_ok hP
  have hM := follows_of hP
  have hS : ∀ {draw ops}, statB Try.f62.ntmps draw ops = true → statB (envOf fr Try.prog).fr.N draw ops = true := fun h => by rw [envOf_fr, hN]; exact h
  repeat' (first
    | exact True.intro
    | refine ev_seq ?_
    | ((first | refine vgd_go ?_ | refine ev_region hE hM (hS (by decide +kernel)) ?_ | refine ev_if ?_ | refine end_ret hE rfl rfl ?_ | refine end_norm hE rfl rfl ?_ | refine endG_ret [] hE rfl ?_ | refine endG_norm [] hE rfl ?_ | refine vcallG_of (args := [tR 1 2, _]) [(1, 1), (2, 2)] [] hP (s_markRect r k h0 h1) ?_ | refine vcall_A ?_); simp (maxSteps := 2000000) only [go_sem, hP, ↓reduceIte, Nat.reduceAdd, Nat.reduceMul, Nat.reduceEqDiff, Nat.reduceSub, Nat.reduceLeDiff, reduceCtorEq])
    | refine ev_skip ?_ | refine ev_block ?_ | refine ev_blk ?_ | refine ev_ret ?_ | refine ev_exit ?_ | refine evx_code_ret ?_ | refine evx_blk_ret ?_ | refine evx_lp_ret ?_
    | refine evx_code_exit ?_ | refine evx_lp_exit ?_ | refine evx_blk_hit ?_ | refine evx_blk_pass (by decide) ?_
    | refine And.intro ?_ ?_ | intro _ | decide +kernel | omega)
theorem s_withFault (n : Node) (d : Int) (e : Entry) : Sat Try.prog 123 [aNode n, aI d, aEntry e] true (rI (weC n d e)) := by
  refine sat_walk (fn := Try.f123) rfl rfl rfl (Nat.le_of_ble_eq_true rfl) fun fr hP hN hbnd => ?_
  have hE : (envOf fr Try.prog).Ok := envOf_ok hP
  have hM := follows_of hP
  have hS : ∀ {draw ops}, statB Try.f123.ntmps draw ops = true → statB (envOf fr Try.prog).fr.N draw ops = true := fun h => by rw [envOf_fr, hN]; exact h
  have h5 : nf n d = 0 → (n.entries.length : Int) ≤ 5 := fun h => by have := (nf_inB h).2; omega
  repeat' (first
    | exact True.intro
    | refine ev_seq ?_
    | ((first | refine vgd_go ?_ | refine ev_region hE hM (hS (by decide +kernel)) ?_ | refine ev_if ?_ | refine end_ret hE rfl rfl ?_ | refine end_norm hE rfl rfl ?_ | refine endG_ret [] hE rfl ?_ | refine endG_norm [] hE rfl ?_ | refine vcallB_of hP (s_implNodeFault n d) ?_ | refine vcallB_of hP (s_implRectFault e.rect d) ?_ | refine vcallB_of hP (s_entryRange e) ?_ | refine vcallB_of hP (s_isForm n.level e) ?_ | refine vcallB_of hP (s_entryAt n.entries e.ref) ?_ | refine vcall_A ?_); simp (maxSteps := 2000000) only [go_sem, hP, ↓reduceIte, Nat.reduceAdd, Nat.reduceMul, Nat.reduceEqDiff, Nat.reduceSub, Nat.reduceLeDiff, reduceCtorEq])
    | refine ev_skip ?_ | refine ev_block ?_ | refine ev_blk ?_ | refine ev_ret ?_ | refine ev_exit ?_ | refine evx_code_ret ?_ | refine evx_blk_ret ?_ | refine evx_lp_ret ?_
    | refine evx_code_exit ?_ | refine evx_lp_exit ?_ | refine evx_blk_hit ?_ | refine evx_blk_pass (by decide) ?_
    | refine And.intro ?_ ?_ | intro _ | decide +kernel | omega)
  all_goals first
    | (simp_all [weC, entryF]; done)
    | (simp_all [weC, entryF]; omega)
theorem s_implWithEntry (n : Node) (d : Int) (e : Entry) : Sat Try.prog 59 [aNode n, aI d, aEntry e] true (rNR (weC n d e) (weV n d e)) := by
  refine sat_walk (fn := Try.f59) rfl rfl rfl (Nat.le_of_ble_eq_true rfl) fun fr hP hN hbnd => ?_
  have hE : (envOf fr Try.prog).Ok := envOf_ok hP
  have hM := follows_of hP
  have hS : ∀ {draw ops}, statB Try.f59.ntmps draw ops = true → statB (envOf fr Try.prog).fr.N draw ops = true := fun h => by rw [envOf_fr, hN]; exact h
  by_cases hz : weC n d e = 0
  · have hn : nf n d = 0 := by unfold weC at hz; split at hz <;> simp_all
    have he : entryF d e = 0 := by unfold weC at hz; (repeat' split at hz) <;> simp_all
    have hr := ef_rf he
    have h1 := rf_len hr
    have h2 := rf_two hr
    have h5 := (nf_inB hn).2
    repeat' (first
      | exact True.intro
      | refine ev_seq ?_
      | ((first | refine vgd_go ?_ | refine ev_region hE hM (hS (by decide +kernel)) ?_ | refine ev_if ?_ | refine end_ret hE rfl rfl ?_ | refine end_norm hE rfl rfl ?_ | refine endG_ret [] hE rfl ?_ | refine endG_norm [] hE rfl ?_ | refine vcallB_of hP (s_withFault n d e) ?_ | refine vcallB_of hP (s_clonedNode n (by have := nf_w hn; omega)) ?_ | refine vcallB_of hP (s_cloned e.rect (by omega) (by omega)) ?_ | refine vcall_A ?_); simp (maxSteps := 2000000) only [go_sem, hP, ↓reduceIte, Nat.reduceAdd, Nat.reduceMul, Nat.reduceEqDiff, Nat.reduceSub, Nat.reduceLeDiff, reduceCtorEq, Bool.and_self])
      | refine ev_skip ?_ | refine ev_block ?_ | refine ev_blk ?_ | refine ev_ret ?_ | refine ev_exit ?_ | refine evx_code_ret ?_ | refine evx_blk_ret ?_ | refine evx_lp_ret ?_
      | refine evx_code_exit ?_ | refine evx_lp_exit ?_ | refine evx_blk_hit ?_ | refine evx_blk_pass (by decide) ?_
      | refine And.intro ?_ ?_ | intro _ | decide +kernel | omega)
    all_goals first
      | (simp_all [weV, oEntry_eq]; done)
      | (simp_all [weV, oEntry_eq]; omega)
  · repeat' (first
      | exact True.intro
      | refine ev_seq ?_
      | ((first | refine vgd_go ?_ | refine ev_region hE hM (hS (by decide +kernel)) ?_ | refine ev_if ?_ | refine end_ret hE rfl rfl ?_ | refine end_norm hE rfl rfl ?_ | refine endG_ret [] hE rfl ?_ | refine endG_norm [] hE rfl ?_ | refine vcallB_of hP (s_withFault n d e) ?_ | refine vcall_A ?_); simp (maxSteps := 2000000) only [go_sem, hP, ↓reduceIte, Nat.reduceAdd, Nat.reduceMul, Nat.reduceEqDiff, Nat.reduceSub, Nat.reduceLeDiff, reduceCtorEq])
      | refine ev_skip ?_ | refine ev_block ?_ | refine ev_blk ?_ | refine ev_ret ?_ | refine ev_exit ?_ | refine evx_code_ret ?_ | refine evx_blk_ret ?_ | refine evx_lp_ret ?_
      | refine evx_code_exit ?_ | refine evx_lp_exit ?_ | refine evx_blk_hit ?_ | refine evx_blk_pass (by decide) ?_
      | refine And.intro ?_ ?_ | intro _ | decide +kernel | omega)
    all_goals (simp_all [weV]; done)
theorem s_specWithEntry (n : Node) (d : Int) (e : Entry) : Sat Try.prog 57 [aNode n, aI d, aEntry e] true (rNR (weC n d e) (weV n d e)) := by
  refine sat_walk (fn := Try.f57) rfl rfl rfl (Nat.le_of_ble_eq_true rfl) fun fr hP hN hbnd => ?_
  have hE : (envOf fr Try.prog).Ok := envOf_ok hP
  have hM := follows_of hP
  have hS : ∀ {draw ops}, statB Try.f57.ntmps draw ops = true → statB (envOf fr Try.prog).fr.N draw ops = true := fun h => by rw [envOf_fr, hN]; exact h
  by_cases hn : nf n d = 0
  · by_cases he : entryF d e = 0
    · have hr := ef_rf he
      have h1 := rf_len hr
      have h2 := rf_two hr
      have c := s_l3Entries [e] (by have := even_w (xs := [e]) (d := d) (by simpa using hr); simp at this; omega)
      have h5 := (nf_inB hn).2
      rcases Int.lt_or_le (findRef n.entries e.ref) 0 with h6 | h6
      · have h7 : ¬ 0 ≤ findRef n.entries e.ref := by omega
        have hc : weC n d e = (if fits n.level e = false then 1 else if (4 : Int) < n.entries.length then 7 else 0) := by
          unfold weC; rw [if_neg (by simpa using hn), if_neg (by simpa using he), if_neg h7]
        have hv : weV n d e = if (if fits n.level e = false then 1 else if (4 : Int) < n.entries.length then 7 else 0 : Int) = 0 then ⟨n.level, n.nsn, n.right, n.entries ++ [e]⟩ else ⟨0, 0, 0, []⟩ := by unfold weV; rw [hc]
        rw [hc, hv]
        clear hc hv
        repeat' (first
          | exact True.intro
          | refine ev_seq ?_
          | ((first | refine vgd_go ?_ | refine ev_region hE hM (hS (by decide +kernel)) ?_ | refine ev_if ?_ | refine end_ret hE rfl rfl ?_ | refine end_norm hE rfl rfl ?_ | refine endG_ret [] hE rfl ?_ | refine endG_norm [] hE rfl ?_ | refine vcallB_of hP (s_specNodeFault n d) ?_ | refine vcallB_of hP (s_l3Entry e d) ?_ | refine vcallB_of hP (s_l3Fits n.level e) ?_ | refine vcallB_of hP (s_l3Find n.entries e.ref) ?_ | refine vcallB_of hP (s_l3Copy n (by have := nf_w hn; omega)) ?_ | refine vcallB_of hP c ?_ | refine vcall_A ?_); simp (maxSteps := 2000000) only [go_sem, hP, ↓reduceIte, Nat.reduceAdd, Nat.reduceMul, Nat.reduceEqDiff, Nat.reduceSub, Nat.reduceLeDiff, reduceCtorEq, Bool.and_self])
          | refine ev_skip ?_ | refine ev_block ?_ | refine ev_blk ?_ | refine ev_ret ?_ | refine ev_exit ?_ | refine evx_code_ret ?_ | refine evx_blk_ret ?_ | refine evx_lp_ret ?_
          | refine evx_code_exit ?_ | refine evx_lp_exit ?_ | refine evx_blk_hit ?_ | refine evx_blk_pass (by decide) ?_
          | refine And.intro ?_ ?_ | intro _ | decide +kernel | omega)
        all_goals first
          | (simp_all [oEntry_eq]; done)
          | (simp_all [oEntry_eq]; omega)
      · repeat' (first
          | exact True.intro
          | refine ev_seq ?_
          | ((first | refine vgd_go ?_ | refine ev_region hE hM (hS (by decide +kernel)) ?_ | refine ev_if ?_ | refine end_ret hE rfl rfl ?_ | refine end_norm hE rfl rfl ?_ | refine endG_ret [] hE rfl ?_ | refine endG_norm [] hE rfl ?_ | refine vcallB_of hP (s_specNodeFault n d) ?_ | refine vcallB_of hP (s_l3Entry e d) ?_ | refine vcallB_of hP (s_l3Fits n.level e) ?_ | refine vcallB_of hP (s_l3Find n.entries e.ref) ?_ | refine vcall_A ?_); simp (maxSteps := 2000000) only [go_sem, hP, ↓reduceIte, Nat.reduceAdd, Nat.reduceMul, Nat.reduceEqDiff, Nat.reduceSub, Nat.reduceLeDiff, reduceCtorEq])
          | refine ev_skip ?_ | refine ev_block ?_ | refine ev_blk ?_ | refine ev_ret ?_ | refine ev_exit ?_ | refine evx_code_ret ?_ | refine evx_blk_ret ?_ | refine evx_lp_ret ?_
          | refine evx_code_exit ?_ | refine evx_lp_exit ?_ | refine evx_blk_hit ?_ | refine evx_blk_pass (by decide) ?_
          | refine And.intro ?_ ?_ | intro _ | decide +kernel | omega)
        all_goals first
          | (simp_all [weV, weC, oEntry_eq]; done)
          | (exfalso; omega)
          | (simp_all [weV, weC, oEntry_eq]; omega)
    · repeat' (first
        | exact True.intro
        | refine ev_seq ?_
        | ((first | refine vgd_go ?_ | refine ev_region hE hM (hS (by decide +kernel)) ?_ | refine ev_if ?_ | refine end_ret hE rfl rfl ?_ | refine end_norm hE rfl rfl ?_ | refine endG_ret [] hE rfl ?_ | refine endG_norm [] hE rfl ?_ | refine vcallB_of hP (s_specNodeFault n d) ?_ | refine vcallB_of hP (s_l3Entry e d) ?_ | refine vcall_A ?_); simp (maxSteps := 2000000) only [go_sem, hP, ↓reduceIte, Nat.reduceAdd, Nat.reduceMul, Nat.reduceEqDiff, Nat.reduceSub, Nat.reduceLeDiff, reduceCtorEq])
        | refine ev_skip ?_ | refine ev_block ?_ | refine ev_blk ?_ | refine ev_ret ?_ | refine ev_exit ?_ | refine evx_code_ret ?_ | refine evx_blk_ret ?_ | refine evx_lp_ret ?_
        | refine evx_code_exit ?_ | refine evx_lp_exit ?_ | refine evx_blk_hit ?_ | refine evx_blk_pass (by decide) ?_
        | refine And.intro ?_ ?_ | intro _ | decide +kernel | omega)
      all_goals (simp_all [weV, weC]; done)
  · repeat' (first
      | exact True.intro
      | refine ev_seq ?_
      | ((first | refine vgd_go ?_ | refine ev_region hE hM (hS (by decide +kernel)) ?_ | refine ev_if ?_ | refine end_ret hE rfl rfl ?_ | refine end_norm hE rfl rfl ?_ | refine endG_ret [] hE rfl ?_ | refine endG_norm [] hE rfl ?_ | refine vcallB_of hP (s_specNodeFault n d) ?_ | refine vcall_A ?_); simp (maxSteps := 2000000) only [go_sem, hP, ↓reduceIte, Nat.reduceAdd, Nat.reduceMul, Nat.reduceEqDiff, Nat.reduceSub, Nat.reduceLeDiff, reduceCtorEq])
      | refine ev_skip ?_ | refine ev_block ?_ | refine ev_blk ?_ | refine ev_ret ?_ | refine ev_exit ?_ | refine evx_code_ret ?_ | refine evx_blk_ret ?_ | refine evx_lp_ret ?_
      | refine evx_code_exit ?_ | refine evx_lp_exit ?_ | refine evx_blk_hit ?_ | refine evx_blk_pass (by decide) ?_
      | refine And.intro ?_ ?_ | intro _ | decide +kernel | omega)
    all_goals (simp_all [weV, weC]; done)
theorem l_WithEntry (a : Node) (b : Int) (c : Entry) : Sat Try.prog 9 [aNode a, aI b, aEntry c] true (rB true) := by
  refine sat_walkB (fn := Try.f9) rfl rfl rfl (Nat.le_of_ble_eq_true rfl) fun fr hP hN hYX hbnd => ?_
  have hE : (envOf fr Try.prog).Ok := envOf_ok hP
  have hM := follows_of hP
  have hS : ∀ {draw ops}, statB Try.f9.ntmps draw ops = true → statB (envOf fr Try.prog).fr.N draw ops = true := fun h => by rw [envOf_fr, hN]; exact h
  repeat' (first
    | exact True.intro
    | refine ev_seq ?_
    | ((first | refine ev_stop 19 ?_ | refine vgd_go ?_ | refine ev_region hE hM (hS (by decide +kernel)) ?_ | refine ev_if ?_ | refine end_ret hE rfl rfl ?_ | refine end_norm hE rfl rfl ?_ | refine endG_ret [] hE rfl ?_ | refine endG_norm [] hE rfl ?_ | refine vcallB_of hP (s_szNode a _ (by omega) (by omega)) ?_ | refine vcallB_of hP (s_szEntry c _ (by simp only [lessN] at *; omega) (by simp only [lessN] at *; omega)) ?_ | refine vcallB_of hP (s_toNode a (by simp only [lessN] at *; omega)) ?_ | refine vcallB_of hP (s_toEntry c (by simp only [lessN] at *; omega)) ?_ | refine vcallB_of hP (s_specWithEntry a b c) ?_ | refine vcallB_of hP (s_implWithEntry a b c) ?_ | refine vcallB_of hP (s_eqNode a a) ?_ | refine vcallB_of hP (s_eqEntry c c) ?_ | refine vcallB_of hP (s_eqNodeResult _ _ _ _) ?_ | refine vcall_A ?_); simp (maxSteps := 2000000) only [go_sem, hP, ↓reduceIte, Nat.reduceAdd, Nat.reduceMul, Nat.reduceEqDiff, Nat.reduceSub, Nat.reduceLeDiff, reduceCtorEq])
    | refine ev_skip ?_ | refine ev_block ?_ | refine ev_blk ?_ | refine ev_ret ?_ | refine ev_exit ?_ | refine evx_code_ret ?_ | refine evx_blk_ret ?_ | refine evx_lp_ret ?_
    | refine evx_code_exit ?_ | refine evx_lp_exit ?_ | refine evx_blk_hit ?_ | refine evx_blk_pass (by decide) ?_
    | refine And.intro ?_ ?_ | intro _ | decide +kernel | omega)
  all_goals first | (exfalso; simp_all; done) | skip
  first | refine Stop.mk ?_ | skip
  have hw0 : wNode a ≤ 1048576 := by simp only [lessN] at *; omega
  have hw1 : wEntry c ≤ 1048576 := by simp only [lessN] at *; omega
  have hm := mwE_le (xs := a.entries)
  simp only [wNode] at hw0
  simp only [wEntry] at hw1
  have hv := weV_w a b c
  have hr := mwE_le (xs := (weV a b c).entries)
  have x0 := s_markNode a 1 (by omega) (by simp only [mMax]; omega)
  have x1 := s_markEntry c.ref c.nsn c.rect (1 + sumW mwEntry a.entries) (by omega) (by simp only [mMax]; omega)
  have r1 := s_markNodeResult (weC a b c) (weV a b c) 1 (by omega) (by simp only [mMax]; omega)
  have r2 := s_heldNodeResult (weC a b c) (weV a b c) 1 (by omega) (by simp only [mMax]; omega)
  refine ev_cut [(1, iT b), (3, .ptr 0 0), (5, .ptr 8 0), (6, .c (.bool false)), (8, .ptr 32816 0), (9, .ptr 36880 0), (10, .ptr 40976 0), (11, .ptr 45088 0), (12, iT 1)] [(0, .box [iT a.level, iT a.nsn, iT a.right, .ca (sEntryS a.entries)]), (8, .box [.ca (sI c.rect.low), .ca (sI c.rect.high), iT c.ref, iT c.nsn]), (32816, .box [iT (weC a b c), iT ((weV a b c).level), iT ((weV a b c).nsn), iT ((weV a b c).right), .ref 4227112]), gEs 4227112 ((weV a b c).entries), (36880, .box [iT a.level, iT a.nsn, iT a.right, .ref 3182600]), gEs 3182600 a.entries, (40976, .box [.ref 40968, .ref 1089544, iT c.ref, iT c.nsn]), gI 40968 c.rect.low, gI 1089544 c.rect.high, (45088, .box [iT (weC a b c), iT ((weV a b c).level), iT ((weV a b c).nsn), iT ((weV a b c).right), .ref 4239384]), gEs 4239384 ((weV a b c).entries)] [] [] (by simp only [go_sem, hP, ↓reduceIte, Nat.reduceAdd, Nat.reduceMul, Nat.reduceEqDiff, Nat.reduceSub, Nat.reduceLeDiff, reduceCtorEq, List.cons_append, List.nil_append]) ?_
  repeat' (first
    | exact True.intro
    | refine ev_seq ?_
    | ((first | refine ev_regionC (id := 19) (pre := [_, _]) hE rfl (hS (by decide +kernel)) ?_ | refine vgd_go ?_ | refine ev_region hE hM (hS (by decide +kernel)) ?_ | refine ev_if ?_ | refine end_ret hE rfl rfl ?_ | refine end_norm hE rfl rfl ?_ | refine endG_ret [] hE rfl ?_ | refine endG_norm [] hE rfl ?_ | refine vcall_A ?_); simp (maxSteps := 2000000) only [go_sem, hP, ↓reduceIte, Nat.reduceAdd, Nat.reduceMul, Nat.reduceEqDiff, Nat.reduceSub, Nat.reduceLeDiff, reduceCtorEq, List.cons_append, List.nil_append])
    | refine ev_skip ?_ | refine ev_block ?_ | refine ev_blk ?_ | refine ev_ret ?_ | refine ev_exit ?_ | refine evx_code_ret ?_ | refine evx_blk_ret ?_ | refine evx_lp_ret ?_
    | refine evx_code_exit ?_ | refine evx_lp_exit ?_ | refine evx_blk_hit ?_ | refine evx_blk_pass (by decide) ?_
    | refine And.intro ?_ ?_ | intro _ | decide +kernel | omega)
  refine callM_of [(1, 3182600)] [] [(1, iT b), (3, .ptr 0 0), (5, .ptr 8 0), (6, .c (.bool false)), (8, .ptr 32816 0), (9, .ptr 36880 0), (10, .ptr 40976 0), (11, .ptr 45088 0), (54, .agg [iT a.level, iT a.nsn, iT a.right, .ref 3182600]), (55, iT 1)] [(0, .box [iT a.level, iT a.nsn, iT a.right, .ca (sEntryS a.entries)]), (8, .box [.ca (sI c.rect.low), .ca (sI c.rect.high), iT c.ref, iT c.nsn]), (32816, .box [iT (weC a b c), iT ((weV a b c).level), iT ((weV a b c).nsn), iT ((weV a b c).right), .ref 4227112]), gEs 4227112 ((weV a b c).entries), (36880, .box [iT a.level, iT a.nsn, iT a.right, .ref 3182600]), gEs 3182600 a.entries, (40976, .box [.ref 40968, .ref 1089544, iT c.ref, iT c.nsn]), gI 40968 c.rect.low, gI 1089544 c.rect.high, (45088, .box [iT (weC a b c), iT ((weV a b c).level), iT ((weV a b c).nsn), iT ((weV a b c).right), .ref 4239384]), gEs 4239384 ((weV a b c).entries)] [] hP x0 hYX rfl rfl (by rw [envOf_fr, hN]; decide) (by simp only [go_sem, hP, ↓reduceIte, Nat.reduceAdd, Nat.reduceMul, Nat.reduceEqDiff, Nat.reduceSub, Nat.reduceLeDiff, reduceCtorEq, List.cons_append, List.nil_append]) rfl rfl (by simp only [go_sem, hP, ↓reduceIte, Nat.reduceAdd, Nat.reduceMul, Nat.reduceEqDiff, Nat.reduceSub, Nat.reduceLeDiff, reduceCtorEq, List.cons_append, List.nil_append] <;> simp) (by simp only [go_sem, hP, ↓reduceIte, Nat.reduceAdd, Nat.reduceMul, Nat.reduceEqDiff, Nat.reduceSub, Nat.reduceLeDiff, reduceCtorEq] <;> simp) ?_
  simp only [go_sem, hP, ↓reduceIte, Nat.reduceAdd, Nat.reduceMul, Nat.reduceEqDiff, Nat.reduceSub, Nat.reduceLeDiff, reduceCtorEq, List.cons_append, List.nil_append]
  repeat' (first
    | exact True.intro
    | refine ev_seq ?_
    | ((first | refine ev_stop 24 ?_ | refine vgd_go ?_ | refine ev_region hE hM (hS (by decide +kernel)) ?_ | refine ev_if ?_ | refine end_ret hE rfl rfl ?_ | refine end_norm hE rfl rfl ?_ | refine endG_ret [] hE rfl ?_ | refine endG_norm [] hE rfl ?_ | refine vcallB_of hP (s_toNode a (by simp only [lessN] at *; omega)) ?_ | refine vcallB_of hP (s_toEntry c (by simp only [lessN] at *; omega)) ?_ | refine vcallB_of hP (s_implWithEntry a b c) ?_ | refine vcallB_of hP (s_eqNodeResult _ _ _ _) ?_ | refine vcallG_of (args := [.agg [.ref 40968, .ref 1089544, iT c.ref, iT c.nsn], _]) [(1, 40968), (2, 1089544)] [] hP x1 ?_ | refine vcall_A ?_); simp (maxSteps := 2000000) only [go_sem, hP, ↓reduceIte, Nat.reduceAdd, Nat.reduceMul, Nat.reduceEqDiff, Nat.reduceSub, Nat.reduceLeDiff, reduceCtorEq, List.cons_append, List.nil_append, markedA])
    | refine ev_skip ?_ | refine ev_block ?_ | refine ev_blk ?_ | refine ev_ret ?_ | refine ev_exit ?_ | refine evx_code_ret ?_ | refine evx_blk_ret ?_ | refine evx_lp_ret ?_
    | refine evx_code_exit ?_ | refine evx_lp_exit ?_ | refine evx_blk_hit ?_ | refine evx_blk_pass (by decide) ?_
    | refine And.intro ?_ ?_ | intro _ | decide +kernel | omega)
  all_goals first | (exfalso; simp_all; done) | skip
  first | refine Stop.mk ?_ | skip
  refine ev_cut [(1, iT b), (3, .ptr 0 0), (5, .ptr 8 0), (6, .c (.bool false)), (8, .ptr 32816 0), (11, .ptr 45088 0), (13, iT 1)] [(0, .box [iT a.level, iT a.nsn, iT a.right, .ca (sEntryS a.entries)]), (8, .box [.ca (sI c.rect.low), .ca (sI c.rect.high), iT c.ref, iT c.nsn]), (32816, .box [iT (weC a b c), iT ((weV a b c).level), iT ((weV a b c).nsn), iT ((weV a b c).right), .ref 4227112]), gEs 4227112 ((weV a b c).entries), (45088, .box [iT (weC a b c), iT ((weV a b c).level), iT ((weV a b c).nsn), iT ((weV a b c).right), .ref 4239384]), gEs 4239384 ((weV a b c).entries)] [] [] (by simp only [go_sem, hP, ↓reduceIte, Nat.reduceAdd, Nat.reduceMul, Nat.reduceEqDiff, Nat.reduceSub, Nat.reduceLeDiff, reduceCtorEq, List.cons_append, List.nil_append]) ?_
  repeat' (first
    | exact True.intro
    | refine ev_seq ?_
    | ((first | refine ev_regionC (id := 24) (pre := [_, _]) hE rfl (hS (by decide +kernel)) ?_ | refine vgd_go ?_ | refine ev_region hE hM (hS (by decide +kernel)) ?_ | refine ev_if ?_ | refine end_ret hE rfl rfl ?_ | refine end_norm hE rfl rfl ?_ | refine endG_ret [] hE rfl ?_ | refine endG_norm [] hE rfl ?_ | refine vcall_A ?_); simp (maxSteps := 2000000) only [go_sem, hP, ↓reduceIte, Nat.reduceAdd, Nat.reduceMul, Nat.reduceEqDiff, Nat.reduceSub, Nat.reduceLeDiff, reduceCtorEq, List.cons_append, List.nil_append])
    | refine ev_skip ?_ | refine ev_block ?_ | refine ev_blk ?_ | refine ev_ret ?_ | refine ev_exit ?_ | refine evx_code_ret ?_ | refine evx_blk_ret ?_ | refine evx_lp_ret ?_
    | refine evx_code_exit ?_ | refine evx_lp_exit ?_ | refine evx_blk_hit ?_ | refine evx_blk_pass (by decide) ?_
    | refine And.intro ?_ ?_ | intro _ | decide +kernel | omega)
  refine callM_of [(1, 4239384)] [] [(1, iT b), (3, .ptr 0 0), (5, .ptr 8 0), (6, .c (.bool false)), (8, .ptr 32816 0), (11, .ptr 45088 0), (68, .agg [iT (weC a b c), iT ((weV a b c).level), iT ((weV a b c).nsn), iT ((weV a b c).right), .ref 4239384]), (69, iT 1)] [(0, .box [iT a.level, iT a.nsn, iT a.right, .ca (sEntryS a.entries)]), (8, .box [.ca (sI c.rect.low), .ca (sI c.rect.high), iT c.ref, iT c.nsn]), (32816, .box [iT (weC a b c), iT ((weV a b c).level), iT ((weV a b c).nsn), iT ((weV a b c).right), .ref 4227112]), gEs 4227112 ((weV a b c).entries), (45088, .box [iT (weC a b c), iT ((weV a b c).level), iT ((weV a b c).nsn), iT ((weV a b c).right), .ref 4239384]), gEs 4239384 ((weV a b c).entries)] [] hP r1 hYX rfl rfl (by rw [envOf_fr, hN]; decide) (by simp only [go_sem, hP, ↓reduceIte, Nat.reduceAdd, Nat.reduceMul, Nat.reduceEqDiff, Nat.reduceSub, Nat.reduceLeDiff, reduceCtorEq, List.cons_append, List.nil_append]) rfl rfl (by simp only [go_sem, hP, ↓reduceIte, Nat.reduceAdd, Nat.reduceMul, Nat.reduceEqDiff, Nat.reduceSub, Nat.reduceLeDiff, reduceCtorEq, List.cons_append, List.nil_append] <;> simp) (by simp only [go_sem, hP, ↓reduceIte, Nat.reduceAdd, Nat.reduceMul, Nat.reduceEqDiff, Nat.reduceSub, Nat.reduceLeDiff, reduceCtorEq] <;> simp) ?_
  simp only [go_sem, hP, ↓reduceIte, Nat.reduceAdd, Nat.reduceMul, Nat.reduceEqDiff, Nat.reduceSub, Nat.reduceLeDiff, reduceCtorEq, List.cons_append, List.nil_append]
  repeat' (first
    | exact True.intro
    | refine ev_seq ?_
    | ((first | refine vgd_go ?_ | refine ev_region hE hM (hS (by decide +kernel)) ?_ | refine ev_if ?_ | refine end_ret hE rfl rfl ?_ | refine end_norm hE rfl rfl ?_ | refine endG_ret [] hE rfl ?_ | refine endG_norm [] hE rfl ?_ | refine vcallB_of hP (s_toNode a (by simp only [lessN] at *; omega)) ?_ | refine vcallB_of hP (s_toEntry c (by simp only [lessN] at *; omega)) ?_ | refine vcallB_of hP (s_implWithEntry a b c) ?_ | refine vcallB_of hP (s_eqNodeResult _ _ _ _) ?_ | refine vcallG_of (args := [.agg [.ref 40968, .ref 1089544, iT c.ref, iT c.nsn], _]) [(1, 40968), (2, 1089544)] [] hP x1 ?_ | refine vcallB_of hP r2 ?_ | refine vcall_A ?_); simp (maxSteps := 2000000) only [go_sem, hP, ↓reduceIte, Nat.reduceAdd, Nat.reduceMul, Nat.reduceEqDiff, Nat.reduceSub, Nat.reduceLeDiff, reduceCtorEq, List.cons_append, List.nil_append, markedA, markedN])
    | refine ev_skip ?_ | refine ev_block ?_ | refine ev_blk ?_ | refine ev_ret ?_ | refine ev_exit ?_ | refine evx_code_ret ?_ | refine evx_blk_ret ?_ | refine evx_lp_ret ?_
    | refine evx_code_exit ?_ | refine evx_lp_exit ?_ | refine evx_blk_hit ?_ | refine evx_blk_pass (by decide) ?_
    | refine And.intro ?_ ?_ | intro _ | decide +kernel | omega)
  all_goals (simp_all; done)
theorem all_WithEntry (gs : List Arg) (h : shpA Try.prog 12 [48, 2, 104] gs) : Sat Try.prog 9 gs true (rB true) := by
  obtain ⟨x0, gs, rfl, h0, x1, gs, rfl, h1, x2, gs, rfl, h2, rfl⟩ := h
  obtain ⟨a, rfl⟩ := shp_Node (n := 6) rfl h0
  obtain ⟨b, rfl, _⟩ := shp_i64 (n := 11) rfl h1
  obtain ⟨c, rfl⟩ := shp_Entry (n := 8) rfl h2
  exact l_WithEntry a b c
end Go.Proofs.Ytcephdpooijciaa.W
