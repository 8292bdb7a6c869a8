/- Contracts of functions that FnExactTakeNode reaches: what each returns; it writes to nothing of old. No condition but those that each theorem states. -/
import Derived.Test.YtcephdpooijciaaGreatPd
open Go Go.Vm Go.Proofs Go.IntWalk Go.RowKit
set_option maxRecDepth 100000
set_option maxHeartbeats 4000000
set_option linter.unusedSimpArgs false
set_option linter.unusedVariables false
set_option linter.unusedSectionVars false
namespace Go.Proofs.YtcephdpooijciaaGreat.W
attribute [local irreducible] kJ ev evx vops vstep vgo vgd vget vcall vcallFn vcallA vcallB vts vres vcond vbin
theorem s_takeA (a : Arena) (n : Node) (hw : wEntryS n.entries ≤ 1048576) (hf : 0 < a.free.length) (hl : a.free.length ≤ 1048576) (h0 : 0 ≤ a.free.getD 0 default) (h1 : a.free.getD 0 default < a.nodes.length) : SatG Tryz.prog 52 false [.ptr 1 0, .agg [iT n.level, iT n.nsn, iT n.right, .c (sEntryS n.entries)]] ((1, .box [iT a.dims, .ref 2, .ref 3, .ref 4]) :: gA 2 3 4 a) (.tup [iT (a.free.getD 0 default), .c (.bool true)]) [(1, .box [iT a.dims, .ref 2, .ref 5, .ref 4]), gNs 2 (a.nodes.set (a.free.getD 0 default).toNat n), (3, .fro 1 (a.free.map eI)), gI 5 (a.free.drop 1), gRets 4 a.retired] := by
  refine satG_walk (fn := Tryz.f52) rfl rfl rfl (Nat.le_of_ble_eq_true rfl) (by simp) fun fr hP hN hdp hb1 hb2 => ?_
  have hE : (envOf fr Tryz.prog).Ok := envOf_ok hP
  have hM := follows_of hP
  have hS : ∀ {draw ops}, statB Tryz.f52.ntmps draw ops = true → statB (envOf fr Tryz.prog).fr.N draw ops = true := fun h => by rw [envOf_fr, hN]; exact h
  have c1 := s_CloneI (a.free.drop 1) (by simp; omega)
  have hn : ((a.free.length : Int) == 0) = false := by simp; rintro h; simp [h] at hf
  have hdr : List.take (a.free.length - Int.toNat 1) (List.drop (Int.toNat 1) (List.map eI a.free)) = (a.free.drop 1).map eI := by rw [show Int.toNat 1 = 1 from rfl, ← List.map_drop, List.take_of_length_le (by simp)]
  have ht0 : Int.toNat 0 = 0 := rfl
  repeat' (first
    | exact True.intro
    | refine ev_seq ?_
    | ((first | refine endG_ret [(5, some 16432)] hE rfl ?_ | refine vgd_go ?_ | refine ev_region hE hM (hS (by decide +kernel)) ?_ | refine ev_if ?_ | refine end_ret hE rfl rfl ?_ | refine end_norm hE rfl rfl ?_ | refine endG_ret [] hE rfl ?_ | refine endG_norm [] hE rfl ?_ | refine vcallB_of hP c1 ?_ | refine vcallB_of hP (s_clonedNode n hw) ?_ | refine vcall_A ?_); simp (maxSteps := 2000000) only [go_sem, hP, ↓reduceIte, Nat.reduceAdd, Nat.reduceMul, Nat.reduceEqDiff, Nat.reduceSub, Nat.reduceLeDiff, reduceCtorEq, hn, hdr, ht0, List.map_set, oNode_eq])
    | refine ev_skip ?_ | refine ev_block ?_ | refine ev_blk ?_ | refine ev_ret ?_ | refine ev_exit ?_ | refine evx_code_ret ?_ | refine evx_blk_ret ?_ | refine evx_lp_ret ?_
    | refine evx_code_exit ?_ | refine evx_lp_exit ?_ | refine evx_blk_hit ?_ | refine evx_blk_pass (by decide) ?_
    | refine And.intro ?_ ?_ | intro _ | decide +kernel | omega)
theorem s_takeA0 (a : Arena) (n : Node) (hf : a.free.length = 0) : SatG Tryz.prog 52 false [.ptr 1 0, .agg [iT n.level, iT n.nsn, iT n.right, .c (sEntryS n.entries)]] ((1, .box [iT a.dims, .ref 2, .ref 3, .ref 4]) :: gA 2 3 4 a) (.tup [iT 0, .c (.bool false)]) ((1, .box [iT a.dims, .ref 2, .ref 3, .ref 4]) :: gA 2 3 4 a) := by
  refine satG_walk (fn := Tryz.f52) rfl rfl rfl (Nat.le_of_ble_eq_true rfl) (by simp) fun fr hP hN hdp hb1 hb2 => ?_
  have hE : (envOf fr Tryz.prog).Ok := envOf_ok hP
  have hM := follows_of hP
  have hS : ∀ {draw ops}, statB Tryz.f52.ntmps draw ops = true → statB (envOf fr Tryz.prog).fr.N draw ops = true := fun h => by rw [envOf_fr, hN]; exact h
  have hn : ((a.free.length : Int) == 0) = true := by simp [hf]
  repeat' (first
    | exact True.intro
    | refine ev_seq ?_
    | ((first | refine vgd_go ?_ | refine ev_region hE hM (hS (by decide +kernel)) ?_ | refine ev_if ?_ | refine end_ret hE rfl rfl ?_ | refine end_norm hE rfl rfl ?_ | refine endG_ret [] hE rfl ?_ | refine endG_norm [] hE rfl ?_ | refine vcall_A ?_); simp (maxSteps := 2000000) only [go_sem, hP, ↓reduceIte, Nat.reduceAdd, Nat.reduceMul, Nat.reduceEqDiff, Nat.reduceSub, Nat.reduceLeDiff, reduceCtorEq, hn])
    | refine ev_skip ?_ | refine ev_block ?_ | refine ev_blk ?_ | refine ev_ret ?_ | refine ev_exit ?_ | refine evx_code_ret ?_ | refine evx_blk_ret ?_ | refine evx_lp_ret ?_
    | refine evx_code_exit ?_ | refine evx_lp_exit ?_ | refine evx_blk_hit ?_ | refine evx_blk_pass (by decide) ?_
    | refine And.intro ?_ ?_ | intro _ | decide +kernel | omega)
theorem s_l4TakeA (a : Arena) (n : Node) (hw : wEntryS n.entries ≤ 1048576) (hf : 0 < a.free.length) (hl : a.free.length ≤ 1048576) (h0 : 0 ≤ a.free.getD 0 default) (h1 : a.free.getD 0 default < a.nodes.length) : SatG Tryz.prog 48 false [.ptr 1 0, .agg [iT n.level, iT n.nsn, iT n.right, .c (sEntryS n.entries)]] ((1, .box [iT a.dims, .ref 2, .ref 3, .ref 4]) :: gA 2 3 4 a) (iT (a.free.getD 0 default)) [(1, .box [iT a.dims, .ref 2, .ref 5, .ref 4]), gNs 2 (a.nodes.set (a.free.getD 0 default).toNat n), (3, .fro 1 (a.free.map eI)), gI 5 (a.free.drop 1), gRets 4 a.retired] := by
  refine satG_walk (fn := Tryz.f48) rfl rfl rfl (Nat.le_of_ble_eq_true rfl) (by simp) fun fr hP hN hdp hb1 hb2 => ?_
  have hE : (envOf fr Tryz.prog).Ok := envOf_ok hP
  have hM := follows_of hP
  have hS : ∀ {draw ops}, statB Tryz.f48.ntmps draw ops = true → statB (envOf fr Tryz.prog).fr.N draw ops = true := fun h => by rw [envOf_fr, hN]; exact h
  have c1 := s_l1Ints (a.free.drop 1) (by simp; omega)
  have hdr : List.take (a.free.length - Int.toNat 1) (List.drop (Int.toNat 1) (List.map eI a.free)) = (a.free.drop 1).map eI := by rw [show Int.toNat 1 = 1 from rfl, ← List.map_drop, List.take_of_length_le (by simp)]
  have ht0 : Int.toNat 0 = 0 := rfl
  repeat' (first
    | exact True.intro
    | refine ev_seq ?_
    | ((first | refine endG_ret [(5, some 8240)] hE rfl ?_ | refine vgd_go ?_ | refine ev_region hE hM (hS (by decide +kernel)) ?_ | refine ev_if ?_ | refine end_ret hE rfl rfl ?_ | refine end_norm hE rfl rfl ?_ | refine endG_ret [] hE rfl ?_ | refine endG_norm [] hE rfl ?_ | refine vcallB_of hP c1 ?_ | refine vcallB_of hP (s_l3Copy n hw) ?_ | refine vcall_A ?_); simp (maxSteps := 2000000) only [go_sem, hP, ↓reduceIte, Nat.reduceAdd, Nat.reduceMul, Nat.reduceEqDiff, Nat.reduceSub, Nat.reduceLeDiff, reduceCtorEq, hdr, ht0, List.map_set, oNode_eq])
    | refine ev_skip ?_ | refine ev_block ?_ | refine ev_blk ?_ | refine ev_ret ?_ | refine ev_exit ?_ | refine evx_code_ret ?_ | refine evx_blk_ret ?_ | refine evx_lp_ret ?_
    | refine evx_code_exit ?_ | refine evx_lp_exit ?_ | refine evx_blk_hit ?_ | refine evx_blk_pass (by decide) ?_
    | refine And.intro ?_ ?_ | intro _ | decide +kernel | omega)
theorem s_specTakeNode (a : Arena) (n : Node) (hw : wArena a ≤ 1048576) : Sat Tryz.prog 16 [aArena a, aNode n] true (rAR (tnC a n) (tnV a n) (tnI a n)) := by
  refine sat_walk (fn := Tryz.f16) rfl rfl rfl (Nat.le_of_ble_eq_true rfl) fun fr hP hN hbnd => ?_
  have hE : (envOf fr Tryz.prog).Ok := envOf_ok hP
  have hM := follows_of hP
  have hS : ∀ {draw ops}, statB Tryz.f16.ntmps draw ops = true → statB (envOf fr Tryz.prog).fr.N draw ops = true := fun h => by rw [envOf_fr, hN]; exact h
  by_cases h1 : af a = 0
  · by_cases h2 : nf n a.dims = 0
    · by_cases h3 : 0 < a.free.length
      · have h4 := af_free0 h1 h3
        have hl : a.free.length ≤ 1048576 := by unfold wArena at hw; omega
        have c1 := s_l4TakeA a n (by have := nf_w h2; omega) h3 hl h4.1 h4.2
        have hne : ¬ (a.free.length : Int) = 0 := by omega
        repeat' (first
          | exact True.intro
          | refine ev_seq ?_
          | ((first | refine vgd_go ?_ | refine ev_region hE hM (hS (by decide +kernel)) ?_ | refine ev_if ?_ | refine end_ret hE rfl rfl ?_ | refine end_norm hE rfl rfl ?_ | refine endG_ret [] hE rfl ?_ | refine endG_norm [] hE rfl ?_ | refine vcallB_of hP (s_specArenaFault a) ?_ | refine vcallB_of hP (s_specNodeFault n a.dims) ?_ | refine vcallB_of hP (s_l4Copy a hw) ?_ | refine vcallG_of (args := [.ptr 36872 0, _]) [(1, 36872), (2, 1085440), (3, 2134016), (4, 3182592)] [] hP c1 ?_ | refine vcall_A ?_); simp (maxSteps := 2000000) only [go_sem, hP, ↓reduceIte, Nat.reduceAdd, Nat.reduceMul, Nat.reduceEqDiff, Nat.reduceSub, Nat.reduceLeDiff, reduceCtorEq])
          | refine ev_skip ?_ | refine ev_block ?_ | refine ev_blk ?_ | refine ev_ret ?_ | refine ev_exit ?_ | refine evx_code_ret ?_ | refine evx_blk_ret ?_ | refine evx_lp_ret ?_
          | refine evx_code_exit ?_ | refine evx_lp_exit ?_ | refine evx_blk_hit ?_ | refine evx_blk_pass (by decide) ?_
          | refine And.intro ?_ ?_ | intro _ | decide +kernel | omega)
        all_goals first
          | (simp_all [tnC, tnV, tnI]; done)
          | (exfalso; omega)
      · have hz : (a.free.length : Int) = 0 := by omega
        repeat' (first
          | exact True.intro
          | refine ev_seq ?_
          | ((first | refine vgd_go ?_ | refine ev_region hE hM (hS (by decide +kernel)) ?_ | refine ev_if ?_ | refine end_ret hE rfl rfl ?_ | refine end_norm hE rfl rfl ?_ | refine endG_ret [] hE rfl ?_ | refine endG_norm [] hE rfl ?_ | refine vcallB_of hP (s_specArenaFault a) ?_ | refine vcallB_of hP (s_specNodeFault n a.dims) ?_ | refine vcall_A ?_); simp (maxSteps := 2000000) only [go_sem, hP, ↓reduceIte, Nat.reduceAdd, Nat.reduceMul, Nat.reduceEqDiff, Nat.reduceSub, Nat.reduceLeDiff, reduceCtorEq])
          | refine ev_skip ?_ | refine ev_block ?_ | refine ev_blk ?_ | refine ev_ret ?_ | refine ev_exit ?_ | refine evx_code_ret ?_ | refine evx_blk_ret ?_ | refine evx_lp_ret ?_
          | refine evx_code_exit ?_ | refine evx_lp_exit ?_ | refine evx_blk_hit ?_ | refine evx_blk_pass (by decide) ?_
          | refine And.intro ?_ ?_ | intro _ | decide +kernel | omega)
        all_goals first
          | (simp_all [tnC, tnV, tnI]; done)
          | (exfalso; omega)
    · repeat' (first
        | exact True.intro
        | refine ev_seq ?_
        | ((first | refine vgd_go ?_ | refine ev_region hE hM (hS (by decide +kernel)) ?_ | refine ev_if ?_ | refine end_ret hE rfl rfl ?_ | refine end_norm hE rfl rfl ?_ | refine endG_ret [] hE rfl ?_ | refine endG_norm [] hE rfl ?_ | refine vcallB_of hP (s_specArenaFault a) ?_ | refine vcallB_of hP (s_specNodeFault n a.dims) ?_ | refine vcall_A ?_); simp (maxSteps := 2000000) only [go_sem, hP, ↓reduceIte, Nat.reduceAdd, Nat.reduceMul, Nat.reduceEqDiff, Nat.reduceSub, Nat.reduceLeDiff, reduceCtorEq])
        | refine ev_skip ?_ | refine ev_block ?_ | refine ev_blk ?_ | refine ev_ret ?_ | refine ev_exit ?_ | refine evx_code_ret ?_ | refine evx_blk_ret ?_ | refine evx_lp_ret ?_
        | refine evx_code_exit ?_ | refine evx_lp_exit ?_ | refine evx_blk_hit ?_ | refine evx_blk_pass (by decide) ?_
        | refine And.intro ?_ ?_ | intro _ | decide +kernel | omega)
      all_goals (simp_all [tnC, tnV, tnI]; done)
  · repeat' (first
      | exact True.intro
      | refine ev_seq ?_
      | ((first | refine vgd_go ?_ | refine ev_region hE hM (hS (by decide +kernel)) ?_ | refine ev_if ?_ | refine end_ret hE rfl rfl ?_ | refine end_norm hE rfl rfl ?_ | refine endG_ret [] hE rfl ?_ | refine endG_norm [] hE rfl ?_ | refine vcallB_of hP (s_specArenaFault a) ?_ | refine vcall_A ?_); simp (maxSteps := 2000000) only [go_sem, hP, ↓reduceIte, Nat.reduceAdd, Nat.reduceMul, Nat.reduceEqDiff, Nat.reduceSub, Nat.reduceLeDiff, reduceCtorEq])
      | refine ev_skip ?_ | refine ev_block ?_ | refine ev_blk ?_ | refine ev_ret ?_ | refine ev_exit ?_ | refine evx_code_ret ?_ | refine evx_blk_ret ?_ | refine evx_lp_ret ?_
      | refine evx_code_exit ?_ | refine evx_lp_exit ?_ | refine evx_blk_hit ?_ | refine evx_blk_pass (by decide) ?_
      | refine And.intro ?_ ?_ | intro _ | decide +kernel | omega)
    all_goals (simp_all [tnC, tnV, tnI]; done)
theorem s_implTakeNode (a : Arena) (n : Node) (hw : wArena a ≤ 1048576) : Sat Tryz.prog 18 [aArena a, aNode n] true (rAR (tnC a n) (tnV a n) (tnI a n)) := by
  refine sat_walk (fn := Tryz.f18) rfl rfl rfl (Nat.le_of_ble_eq_true rfl) fun fr hP hN hbnd => ?_
  have hE : (envOf fr Tryz.prog).Ok := envOf_ok hP
  have hM := follows_of hP
  have hS : ∀ {draw ops}, statB Tryz.f18.ntmps draw ops = true → statB (envOf fr Tryz.prog).fr.N draw ops = true := fun h => by rw [envOf_fr, hN]; exact h
  by_cases h1 : af a = 0
  · by_cases h2 : nf n a.dims = 0
    · by_cases h3 : 0 < a.free.length
      · have h4 := af_free0 h1 h3
        have hl : a.free.length ≤ 1048576 := by unfold wArena at hw; omega
        have c1 := s_takeA a n (by have := nf_w h2; omega) h3 hl h4.1 h4.2
        have hne : ¬ (a.free.length : Int) = 0 := by omega
        repeat' (first
          | exact True.intro
          | refine ev_seq ?_
          | ((first | refine vgd_go ?_ | refine ev_region hE hM (hS (by decide +kernel)) ?_ | refine ev_if ?_ | refine end_ret hE rfl rfl ?_ | refine end_norm hE rfl rfl ?_ | refine endG_ret [] hE rfl ?_ | refine endG_norm [] hE rfl ?_ | refine vcallB_of hP (s_implArenaFault a) ?_ | refine vcallB_of hP (s_implNodeFault n a.dims) ?_ | refine vcallB_of hP (s_Acloned a hw) ?_ | refine vcallG_of (args := [.ptr 28688 0, _]) [(1, 28688), (2, 1077256), (3, 2125832), (4, 3174408)] [] hP c1 ?_ | refine vcall_A ?_); simp (maxSteps := 2000000) only [go_sem, hP, ↓reduceIte, Nat.reduceAdd, Nat.reduceMul, Nat.reduceEqDiff, Nat.reduceSub, Nat.reduceLeDiff, reduceCtorEq])
          | refine ev_skip ?_ | refine ev_block ?_ | refine ev_blk ?_ | refine ev_ret ?_ | refine ev_exit ?_ | refine evx_code_ret ?_ | refine evx_blk_ret ?_ | refine evx_lp_ret ?_
          | refine evx_code_exit ?_ | refine evx_lp_exit ?_ | refine evx_blk_hit ?_ | refine evx_blk_pass (by decide) ?_
          | refine And.intro ?_ ?_ | intro _ | decide +kernel | omega)
        all_goals first
          | (simp_all [tnC, tnV, tnI]; done)
          | (exfalso; omega)
      · have hz : (a.free.length : Int) = 0 := by omega
        have c1 := s_takeA0 a n (by omega)
        repeat' (first
          | exact True.intro
          | refine ev_seq ?_
          | ((first | refine vgd_go ?_ | refine ev_region hE hM (hS (by decide +kernel)) ?_ | refine ev_if ?_ | refine end_ret hE rfl rfl ?_ | refine end_norm hE rfl rfl ?_ | refine endG_ret [] hE rfl ?_ | refine endG_norm [] hE rfl ?_ | refine vcallB_of hP (s_implArenaFault a) ?_ | refine vcallB_of hP (s_implNodeFault n a.dims) ?_ | refine vcallB_of hP (s_Acloned a hw) ?_ | refine vcallG_of (args := [.ptr 28688 0, _]) [(1, 28688), (2, 1077256), (3, 2125832), (4, 3174408)] [] hP c1 ?_ | refine vcall_A ?_); simp (maxSteps := 2000000) only [go_sem, hP, ↓reduceIte, Nat.reduceAdd, Nat.reduceMul, Nat.reduceEqDiff, Nat.reduceSub, Nat.reduceLeDiff, reduceCtorEq])
          | refine ev_skip ?_ | refine ev_block ?_ | refine ev_blk ?_ | refine ev_ret ?_ | refine ev_exit ?_ | refine evx_code_ret ?_ | refine evx_blk_ret ?_ | refine evx_lp_ret ?_
          | refine evx_code_exit ?_ | refine evx_lp_exit ?_ | refine evx_blk_hit ?_ | refine evx_blk_pass (by decide) ?_
          | refine And.intro ?_ ?_ | intro _ | decide +kernel | omega)
        all_goals first
          | (simp_all [tnC, tnV, tnI]; done)
          | (exfalso; omega)
    · repeat' (first
        | exact True.intro
        | refine ev_seq ?_
        | ((first | refine vgd_go ?_ | refine ev_region hE hM (hS (by decide +kernel)) ?_ | refine ev_if ?_ | refine end_ret hE rfl rfl ?_ | refine end_norm hE rfl rfl ?_ | refine endG_ret [] hE rfl ?_ | refine endG_norm [] hE rfl ?_ | refine vcallB_of hP (s_implArenaFault a) ?_ | refine vcallB_of hP (s_implNodeFault n a.dims) ?_ | refine vcall_A ?_); simp (maxSteps := 2000000) only [go_sem, hP, ↓reduceIte, Nat.reduceAdd, Nat.reduceMul, Nat.reduceEqDiff, Nat.reduceSub, Nat.reduceLeDiff, reduceCtorEq])
        | refine ev_skip ?_ | refine ev_block ?_ | refine ev_blk ?_ | refine ev_ret ?_ | refine ev_exit ?_ | refine evx_code_ret ?_ | refine evx_blk_ret ?_ | refine evx_lp_ret ?_
        | refine evx_code_exit ?_ | refine evx_lp_exit ?_ | refine evx_blk_hit ?_ | refine evx_blk_pass (by decide) ?_
        | refine And.intro ?_ ?_ | intro _ | decide +kernel | omega)
      all_goals (simp_all [tnC, tnV, tnI]; done)
  · repeat' (first
      | exact True.intro
      | refine ev_seq ?_
      | ((first | refine vgd_go ?_ | refine ev_region hE hM (hS (by decide +kernel)) ?_ | refine ev_if ?_ | refine end_ret hE rfl rfl ?_ | refine end_norm hE rfl rfl ?_ | refine endG_ret [] hE rfl ?_ | refine endG_norm [] hE rfl ?_ | refine vcallB_of hP (s_implArenaFault a) ?_ | refine vcall_A ?_); simp (maxSteps := 2000000) only [go_sem, hP, ↓reduceIte, Nat.reduceAdd, Nat.reduceMul, Nat.reduceEqDiff, Nat.reduceSub, Nat.reduceLeDiff, reduceCtorEq])
      | refine ev_skip ?_ | refine ev_block ?_ | refine ev_blk ?_ | refine ev_ret ?_ | refine ev_exit ?_ | refine evx_code_ret ?_ | refine evx_blk_ret ?_ | refine evx_lp_ret ?_
      | refine evx_code_exit ?_ | refine evx_lp_exit ?_ | refine evx_blk_hit ?_ | refine evx_blk_pass (by decide) ?_
      | refine And.intro ?_ ?_ | intro _ | decide +kernel | omega)
    all_goals (simp_all [tnC, tnV, tnI]; done)
theorem tnV_w (a : Arena) (n : Node) : mwA (tnV a n) ≤ mwA a + 100 := by
  unfold tnV; split
  · rename_i h
    have h2 : nf n a.dims = 0 := by unfold tnC at h; (repeat' split at h) <;> simp_all
    have h3 := mwNode_le' h2
    have h4 := sumW_set (w := mwNode) (x := n) (xs := a.nodes) (i := (a.free.getD 0 default).toNat)
    have e : mwA (⟨a.dims, a.nodes.set (a.free.getD 0 default).toNat n, a.free.drop 1, a.retired⟩ : Arena) = sumW mwNode (a.nodes.set (a.free.getD 0 default).toNat n) + (a.free.drop 1).length + sumW mwRetired a.retired := rfl
    rw [e, List.length_drop]; unfold mwA; omega
  · exact Nat.zero_le _
theorem l_TakeNode (a : Arena) (b : Node) : Sat Tryz.prog 4 [aArena a, aNode b] true (rB true) := by
  refine sat_walkB (fn := Tryz.f4) rfl rfl rfl (Nat.le_of_ble_eq_true rfl) fun fr hP hN hYX hbnd => ?_
  have hE : (envOf fr Tryz.prog).Ok := envOf_ok hP
  have hM := follows_of hP
  have hS : ∀ {draw ops}, statB Tryz.f4.ntmps draw ops = true → statB (envOf fr Tryz.prog).fr.N draw ops = true := fun h => by rw [envOf_fr, hN]; exact h
  repeat' (first
    | exact True.intro
    | refine ev_seq ?_
    | ((first | refine ev_stop 19 ?_ | refine vgd_go ?_ | refine ev_region hE hM (hS (by decide +kernel)) ?_ | refine ev_if ?_ | refine end_ret hE rfl rfl ?_ | refine end_norm hE rfl rfl ?_ | refine endG_ret [] hE rfl ?_ | refine endG_norm [] hE rfl ?_ | refine vcallB_of hP (s_szArena a _ (by omega) (by omega)) ?_ | refine vcallB_of hP (s_szNode b _ (by simp only [lessN] at *; omega) (by simp only [lessN] at *; omega)) ?_ | refine vcallB_of hP (s_toArena a (by simp only [lessN] at *; omega)) ?_ | refine vcallB_of hP (s_toNode b (by simp only [lessN] at *; omega)) ?_ | refine vcallB_of hP (s_specTakeNode a b (by simp only [lessN] at *; omega)) ?_ | refine vcallB_of hP (s_implTakeNode a b (by simp only [lessN] at *; omega)) ?_ | refine vcallB_of hP (s_eqArena a a) ?_ | refine vcallB_of hP (s_eqNode b b) ?_ | refine vcallB_of hP (s_eqArenaResult _ _ _ _ _ _) ?_ | refine vcall_A ?_); simp (maxSteps := 2000000) only [go_sem, hP, ↓reduceIte, Nat.reduceAdd, Nat.reduceMul, Nat.reduceEqDiff, Nat.reduceSub, Nat.reduceLeDiff, reduceCtorEq])
    | refine ev_skip ?_ | refine ev_block ?_ | refine ev_blk ?_ | refine ev_ret ?_ | refine ev_exit ?_ | refine evx_code_ret ?_ | refine evx_blk_ret ?_ | refine evx_lp_ret ?_
    | refine evx_code_exit ?_ | refine evx_lp_exit ?_ | refine evx_blk_hit ?_ | refine evx_blk_pass (by decide) ?_
    | refine And.intro ?_ ?_ | intro _ | decide +kernel | omega)
  all_goals first | (exfalso; simp_all; done) | skip
  first | refine Stop.mk ?_ | skip
  have hw0 : wArena a ≤ 1048576 := by simp only [lessN] at *; omega
  have hw1 : wNode b ≤ 1048576 := by simp only [lessN] at *; omega
  simp only [wNode] at hw1
  have hm := mwA_le (a := a)
  have hv := tnV_w a b
  have hr := mwE_le (xs := b.entries)
  have hq : 1 + mwA a = 1 + sumW mwNode a.nodes + a.free.length + sumW mwRetired a.retired := by unfold mwA; omega
  have x0 := s_markArena a 1 (by omega) (by simp only [mMax]; omega)
  have x1 := s_markNode b (1 + sumW mwNode a.nodes + a.free.length + sumW mwRetired a.retired) (by omega) (by simp only [mMax]; omega)
  have r1 := s_markArenaResult (tnC a b) (tnV a b) (tnI a b) 1 (by omega) (by simp only [mMax]; omega)
  have r2 := s_heldArenaResult (tnC a b) (tnV a b) (tnI a b) 1 (by omega) (by simp only [mMax]; omega)
  refine ev_cut [(2, .ptr 0 0), (3, .ptr 8 0), (4, .c (.bool false)), (6, .ptr 32808 0), (7, .ptr 36880 0), (8, .ptr 40976 0), (9, .ptr 45080 0), (10, iT 1)] [(0, .box [iT a.dims, .ca (sNodeS a.nodes), .ca (sI a.free), .ca (sRetiredS a.retired)]), (8, .box [iT b.level, iT b.nsn, iT b.right, .ca (sEntryS b.entries)]), (32808, .box [iT (tnC a b), iT ((tnV a b).dims), .ref 2129952, .ref 3178528, .ref 4227104, iT (tnI a b)]), gNs 2129952 ((tnV a b).nodes), gI 3178528 ((tnV a b).free), gRets 4227104 ((tnV a b).retired), (36880, .box [iT a.dims, .ref 1085448, .ref 2134024, .ref 3182600]), gNs 1085448 a.nodes, gI 2134024 a.free, gRets 3182600 a.retired, (40976, .box [iT b.level, iT b.nsn, iT b.right, .ref 3186696]), gEs 3186696 b.entries, (45080, .box [iT (tnC a b), iT ((tnV a b).dims), .ref 2142224, .ref 3190800, .ref 4239376, iT (tnI a b)]), gNs 2142224 ((tnV a b).nodes), gI 3190800 ((tnV a b).free), gRets 4239376 ((tnV a b).retired)] [] [] (by simp only [go_sem, hP, ↓reduceIte, Nat.reduceAdd, Nat.reduceMul, Nat.reduceEqDiff, Nat.reduceSub, Nat.reduceLeDiff, reduceCtorEq, List.cons_append, List.nil_append]) ?_
  repeat' (first
    | exact True.intro
    | refine ev_seq ?_
    | ((first | refine ev_regionC (id := 19) (pre := [_, _]) hE rfl (hS (by decide +kernel)) ?_ | refine vgd_go ?_ | refine ev_region hE hM (hS (by decide +kernel)) ?_ | refine ev_if ?_ | refine end_ret hE rfl rfl ?_ | refine end_norm hE rfl rfl ?_ | refine endG_ret [] hE rfl ?_ | refine endG_norm [] hE rfl ?_ | refine vcall_A ?_); simp (maxSteps := 2000000) only [go_sem, hP, ↓reduceIte, Nat.reduceAdd, Nat.reduceMul, Nat.reduceEqDiff, Nat.reduceSub, Nat.reduceLeDiff, reduceCtorEq, List.cons_append, List.nil_append])
    | refine ev_skip ?_ | refine ev_block ?_ | refine ev_blk ?_ | refine ev_ret ?_ | refine ev_exit ?_ | refine evx_code_ret ?_ | refine evx_blk_ret ?_ | refine evx_lp_ret ?_
    | refine evx_code_exit ?_ | refine evx_lp_exit ?_ | refine evx_blk_hit ?_ | refine evx_blk_pass (by decide) ?_
    | refine And.intro ?_ ?_ | intro _ | decide +kernel | omega)
  refine callM_of [(1, 1085448), (2, 2134024), (3, 3182600)] [] [(2, .ptr 0 0), (3, .ptr 8 0), (4, .c (.bool false)), (6, .ptr 32808 0), (7, .ptr 36880 0), (8, .ptr 40976 0), (9, .ptr 45080 0), (50, .agg [iT a.dims, .ref 1085448, .ref 2134024, .ref 3182600]), (51, iT 1)] [(0, .box [iT a.dims, .ca (sNodeS a.nodes), .ca (sI a.free), .ca (sRetiredS a.retired)]), (8, .box [iT b.level, iT b.nsn, iT b.right, .ca (sEntryS b.entries)]), (32808, .box [iT (tnC a b), iT ((tnV a b).dims), .ref 2129952, .ref 3178528, .ref 4227104, iT (tnI a b)]), gNs 2129952 ((tnV a b).nodes), gI 3178528 ((tnV a b).free), gRets 4227104 ((tnV a b).retired), (36880, .box [iT a.dims, .ref 1085448, .ref 2134024, .ref 3182600]), gNs 1085448 a.nodes, gI 2134024 a.free, gRets 3182600 a.retired, (40976, .box [iT b.level, iT b.nsn, iT b.right, .ref 3186696]), gEs 3186696 b.entries, (45080, .box [iT (tnC a b), iT ((tnV a b).dims), .ref 2142224, .ref 3190800, .ref 4239376, iT (tnI a b)]), gNs 2142224 ((tnV a b).nodes), gI 3190800 ((tnV a b).free), gRets 4239376 ((tnV a b).retired)] [] hP x0 hYX rfl rfl (by rw [envOf_fr, hN]; decide) (by simp only [go_sem, hP, ↓reduceIte, Nat.reduceAdd, Nat.reduceMul, Nat.reduceEqDiff, Nat.reduceSub, Nat.reduceLeDiff, reduceCtorEq, List.cons_append, List.nil_append]) rfl rfl (by simp only [go_sem, hP, ↓reduceIte, Nat.reduceAdd, Nat.reduceMul, Nat.reduceEqDiff, Nat.reduceSub, Nat.reduceLeDiff, reduceCtorEq, List.cons_append, List.nil_append] <;> simp) (by simp only [go_sem, hP, ↓reduceIte, Nat.reduceAdd, Nat.reduceMul, Nat.reduceEqDiff, Nat.reduceSub, Nat.reduceLeDiff, reduceCtorEq] <;> simp) ?_
  simp only [go_sem, hP, ↓reduceIte, Nat.reduceAdd, Nat.reduceMul, Nat.reduceEqDiff, Nat.reduceSub, Nat.reduceLeDiff, reduceCtorEq, List.cons_append, List.nil_append]
  repeat' (first
    | exact True.intro
    | refine ev_seq ?_
    | ((first | refine ev_stop 20 ?_ | refine vgd_go ?_ | refine ev_region hE hM (hS (by decide +kernel)) ?_ | refine ev_if ?_ | refine end_ret hE rfl rfl ?_ | refine end_norm hE rfl rfl ?_ | refine endG_ret [] hE rfl ?_ | refine endG_norm [] hE rfl ?_ | refine vcallB_of hP (s_toArena a (by simp only [lessN] at *; omega)) ?_ | refine vcallB_of hP (s_toNode b (by simp only [lessN] at *; omega)) ?_ | refine vcallB_of hP (s_implTakeNode a b (by simp only [lessN] at *; omega)) ?_ | refine vcallB_of hP (s_eqArenaResult _ _ _ _ _ _) ?_ | refine vcall_A ?_); simp (maxSteps := 2000000) only [go_sem, hP, ↓reduceIte, Nat.reduceAdd, Nat.reduceMul, Nat.reduceEqDiff, Nat.reduceSub, Nat.reduceLeDiff, reduceCtorEq, List.cons_append, List.nil_append, markedA])
    | refine ev_skip ?_ | refine ev_block ?_ | refine ev_blk ?_ | refine ev_ret ?_ | refine ev_exit ?_ | refine evx_code_ret ?_ | refine evx_blk_ret ?_ | refine evx_lp_ret ?_
    | refine evx_code_exit ?_ | refine evx_lp_exit ?_ | refine evx_blk_hit ?_ | refine evx_blk_pass (by decide) ?_
    | refine And.intro ?_ ?_ | intro _ | decide +kernel | omega)
  all_goals first | (exfalso; simp_all; done) | skip
  first | refine Stop.mk ?_ | skip
  refine ev_cut [(2, .ptr 0 0), (3, .ptr 8 0), (4, .c (.bool false)), (6, .ptr 32808 0), (8, .ptr 40976 0), (9, .ptr 45080 0), (10, iT (1 + sumW mwNode a.nodes + a.free.length + sumW mwRetired a.retired))] [(0, .box [iT a.dims, .ca (sNodeS a.nodes), .ca (sI a.free), .ca (sRetiredS a.retired)]), (8, .box [iT b.level, iT b.nsn, iT b.right, .ca (sEntryS b.entries)]), (32808, .box [iT (tnC a b), iT ((tnV a b).dims), .ref 2129952, .ref 3178528, .ref 4227104, iT (tnI a b)]), gNs 2129952 ((tnV a b).nodes), gI 3178528 ((tnV a b).free), gRets 4227104 ((tnV a b).retired), (40976, .box [iT b.level, iT b.nsn, iT b.right, .ref 3186696]), gEs 3186696 b.entries, (45080, .box [iT (tnC a b), iT ((tnV a b).dims), .ref 2142224, .ref 3190800, .ref 4239376, iT (tnI a b)]), gNs 2142224 ((tnV a b).nodes), gI 3190800 ((tnV a b).free), gRets 4239376 ((tnV a b).retired)] [] [] (by simp only [go_sem, hP, ↓reduceIte, Nat.reduceAdd, Nat.reduceMul, Nat.reduceEqDiff, Nat.reduceSub, Nat.reduceLeDiff, reduceCtorEq, List.cons_append, List.nil_append]) ?_
  repeat' (first
    | exact True.intro
    | refine ev_seq ?_
    | ((first | refine ev_regionC (id := 20) (pre := [_, _]) hE rfl (hS (by decide +kernel)) ?_ | refine vgd_go ?_ | refine ev_region hE hM (hS (by decide +kernel)) ?_ | refine ev_if ?_ | refine end_ret hE rfl rfl ?_ | refine end_norm hE rfl rfl ?_ | refine endG_ret [] hE rfl ?_ | refine endG_norm [] hE rfl ?_ | refine vcall_A ?_); simp (maxSteps := 2000000) only [go_sem, hP, ↓reduceIte, Nat.reduceAdd, Nat.reduceMul, Nat.reduceEqDiff, Nat.reduceSub, Nat.reduceLeDiff, reduceCtorEq, List.cons_append, List.nil_append])
    | refine ev_skip ?_ | refine ev_block ?_ | refine ev_blk ?_ | refine ev_ret ?_ | refine ev_exit ?_ | refine evx_code_ret ?_ | refine evx_blk_ret ?_ | refine evx_lp_ret ?_
    | refine evx_code_exit ?_ | refine evx_lp_exit ?_ | refine evx_blk_hit ?_ | refine evx_blk_pass (by decide) ?_
    | refine And.intro ?_ ?_ | intro _ | decide +kernel | omega)
  refine callM_of [(1, 3186696)] [] [(2, .ptr 0 0), (3, .ptr 8 0), (4, .c (.bool false)), (6, .ptr 32808 0), (8, .ptr 40976 0), (9, .ptr 45080 0), (53, .agg [iT b.level, iT b.nsn, iT b.right, .ref 3186696]), (54, iT (1 + sumW mwNode a.nodes + a.free.length + sumW mwRetired a.retired))] [(0, .box [iT a.dims, .ca (sNodeS a.nodes), .ca (sI a.free), .ca (sRetiredS a.retired)]), (8, .box [iT b.level, iT b.nsn, iT b.right, .ca (sEntryS b.entries)]), (32808, .box [iT (tnC a b), iT ((tnV a b).dims), .ref 2129952, .ref 3178528, .ref 4227104, iT (tnI a b)]), gNs 2129952 ((tnV a b).nodes), gI 3178528 ((tnV a b).free), gRets 4227104 ((tnV a b).retired), (40976, .box [iT b.level, iT b.nsn, iT b.right, .ref 3186696]), gEs 3186696 b.entries, (45080, .box [iT (tnC a b), iT ((tnV a b).dims), .ref 2142224, .ref 3190800, .ref 4239376, iT (tnI a b)]), gNs 2142224 ((tnV a b).nodes), gI 3190800 ((tnV a b).free), gRets 4239376 ((tnV a b).retired)] [] hP x1 hYX rfl rfl (by rw [envOf_fr, hN]; decide) (by simp only [go_sem, hP, ↓reduceIte, Nat.reduceAdd, Nat.reduceMul, Nat.reduceEqDiff, Nat.reduceSub, Nat.reduceLeDiff, reduceCtorEq, List.cons_append, List.nil_append]) rfl rfl (by simp only [go_sem, hP, ↓reduceIte, Nat.reduceAdd, Nat.reduceMul, Nat.reduceEqDiff, Nat.reduceSub, Nat.reduceLeDiff, reduceCtorEq, List.cons_append, List.nil_append] <;> simp) (by simp only [go_sem, hP, ↓reduceIte, Nat.reduceAdd, Nat.reduceMul, Nat.reduceEqDiff, Nat.reduceSub, Nat.reduceLeDiff, reduceCtorEq] <;> simp) ?_
  simp only [go_sem, hP, ↓reduceIte, Nat.reduceAdd, Nat.reduceMul, Nat.reduceEqDiff, Nat.reduceSub, Nat.reduceLeDiff, reduceCtorEq, List.cons_append, List.nil_append]
  repeat' (first
    | exact True.intro
    | refine ev_seq ?_
    | ((first | refine ev_stop 24 ?_ | refine vgd_go ?_ | refine ev_region hE hM (hS (by decide +kernel)) ?_ | refine ev_if ?_ | refine end_ret hE rfl rfl ?_ | refine end_norm hE rfl rfl ?_ | refine endG_ret [] hE rfl ?_ | refine endG_norm [] hE rfl ?_ | refine vcallB_of hP (s_toArena a (by simp only [lessN] at *; omega)) ?_ | refine vcallB_of hP (s_toNode b (by simp only [lessN] at *; omega)) ?_ | refine vcallB_of hP (s_implTakeNode a b (by simp only [lessN] at *; omega)) ?_ | refine vcallB_of hP (s_eqArenaResult _ _ _ _ _ _) ?_ | refine vcall_A ?_); simp (maxSteps := 2000000) only [go_sem, hP, ↓reduceIte, Nat.reduceAdd, Nat.reduceMul, Nat.reduceEqDiff, Nat.reduceSub, Nat.reduceLeDiff, reduceCtorEq, List.cons_append, List.nil_append, markedA])
    | refine ev_skip ?_ | refine ev_block ?_ | refine ev_blk ?_ | refine ev_ret ?_ | refine ev_exit ?_ | refine evx_code_ret ?_ | refine evx_blk_ret ?_ | refine evx_lp_ret ?_
    | refine evx_code_exit ?_ | refine evx_lp_exit ?_ | refine evx_blk_hit ?_ | refine evx_blk_pass (by decide) ?_
    | refine And.intro ?_ ?_ | intro _ | decide +kernel | omega)
  all_goals first | (exfalso; simp_all; done) | skip
  first | refine Stop.mk ?_ | skip
  refine ev_cut [(2, .ptr 0 0), (3, .ptr 8 0), (4, .c (.bool false)), (6, .ptr 32808 0), (9, .ptr 45080 0), (11, iT 1)] [(0, .box [iT a.dims, .ca (sNodeS a.nodes), .ca (sI a.free), .ca (sRetiredS a.retired)]), (8, .box [iT b.level, iT b.nsn, iT b.right, .ca (sEntryS b.entries)]), (32808, .box [iT (tnC a b), iT ((tnV a b).dims), .ref 2129952, .ref 3178528, .ref 4227104, iT (tnI a b)]), gNs 2129952 ((tnV a b).nodes), gI 3178528 ((tnV a b).free), gRets 4227104 ((tnV a b).retired), (45080, .box [iT (tnC a b), iT ((tnV a b).dims), .ref 2142224, .ref 3190800, .ref 4239376, iT (tnI a b)]), gNs 2142224 ((tnV a b).nodes), gI 3190800 ((tnV a b).free), gRets 4239376 ((tnV a b).retired)] [] [] (by simp only [go_sem, hP, ↓reduceIte, Nat.reduceAdd, Nat.reduceMul, Nat.reduceEqDiff, Nat.reduceSub, Nat.reduceLeDiff, reduceCtorEq, List.cons_append, List.nil_append]) ?_
  repeat' (first
    | exact True.intro
    | refine ev_seq ?_
    | ((first | refine ev_regionC (id := 24) (pre := [_, _]) hE rfl (hS (by decide +kernel)) ?_ | refine vgd_go ?_ | refine ev_region hE hM (hS (by decide +kernel)) ?_ | refine ev_if ?_ | refine end_ret hE rfl rfl ?_ | refine end_norm hE rfl rfl ?_ | refine endG_ret [] hE rfl ?_ | refine endG_norm [] hE rfl ?_ | refine vcall_A ?_); simp (maxSteps := 2000000) only [go_sem, hP, ↓reduceIte, Nat.reduceAdd, Nat.reduceMul, Nat.reduceEqDiff, Nat.reduceSub, Nat.reduceLeDiff, reduceCtorEq, List.cons_append, List.nil_append])
    | refine ev_skip ?_ | refine ev_block ?_ | refine ev_blk ?_ | refine ev_ret ?_ | refine ev_exit ?_ | refine evx_code_ret ?_ | refine evx_blk_ret ?_ | refine evx_lp_ret ?_
    | refine evx_code_exit ?_ | refine evx_lp_exit ?_ | refine evx_blk_hit ?_ | refine evx_blk_pass (by decide) ?_
    | refine And.intro ?_ ?_ | intro _ | decide +kernel | omega)
  refine callM_of [(1, 2142224), (2, 3190800), (3, 4239376)] [] [(2, .ptr 0 0), (3, .ptr 8 0), (4, .c (.bool false)), (6, .ptr 32808 0), (9, .ptr 45080 0), (64, .agg [iT (tnC a b), iT ((tnV a b).dims), .ref 2142224, .ref 3190800, .ref 4239376, iT (tnI a b)]), (65, iT 1)] [(0, .box [iT a.dims, .ca (sNodeS a.nodes), .ca (sI a.free), .ca (sRetiredS a.retired)]), (8, .box [iT b.level, iT b.nsn, iT b.right, .ca (sEntryS b.entries)]), (32808, .box [iT (tnC a b), iT ((tnV a b).dims), .ref 2129952, .ref 3178528, .ref 4227104, iT (tnI a b)]), gNs 2129952 ((tnV a b).nodes), gI 3178528 ((tnV a b).free), gRets 4227104 ((tnV a b).retired), (45080, .box [iT (tnC a b), iT ((tnV a b).dims), .ref 2142224, .ref 3190800, .ref 4239376, iT (tnI a b)]), gNs 2142224 ((tnV a b).nodes), gI 3190800 ((tnV a b).free), gRets 4239376 ((tnV a b).retired)] [] hP r1 hYX rfl rfl (by rw [envOf_fr, hN]; decide) (by simp only [go_sem, hP, ↓reduceIte, Nat.reduceAdd, Nat.reduceMul, Nat.reduceEqDiff, Nat.reduceSub, Nat.reduceLeDiff, reduceCtorEq, List.cons_append, List.nil_append]) rfl rfl (by simp only [go_sem, hP, ↓reduceIte, Nat.reduceAdd, Nat.reduceMul, Nat.reduceEqDiff, Nat.reduceSub, Nat.reduceLeDiff, reduceCtorEq, List.cons_append, List.nil_append] <;> simp) (by simp only [go_sem, hP, ↓reduceIte, Nat.reduceAdd, Nat.reduceMul, Nat.reduceEqDiff, Nat.reduceSub, Nat.reduceLeDiff, reduceCtorEq] <;> simp) ?_
  simp only [go_sem, hP, ↓reduceIte, Nat.reduceAdd, Nat.reduceMul, Nat.reduceEqDiff, Nat.reduceSub, Nat.reduceLeDiff, reduceCtorEq, List.cons_append, List.nil_append]
  repeat' (first
    | exact True.intro
    | refine ev_seq ?_
    | ((first | refine vgd_go ?_ | refine ev_region hE hM (hS (by decide +kernel)) ?_ | refine ev_if ?_ | refine end_ret hE rfl rfl ?_ | refine end_norm hE rfl rfl ?_ | refine endG_ret [] hE rfl ?_ | refine endG_norm [] hE rfl ?_ | refine vcallB_of hP (s_toArena a (by simp only [lessN] at *; omega)) ?_ | refine vcallB_of hP (s_toNode b (by simp only [lessN] at *; omega)) ?_ | refine vcallB_of hP (s_implTakeNode a b (by simp only [lessN] at *; omega)) ?_ | refine vcallB_of hP (s_eqArenaResult _ _ _ _ _ _) ?_ | refine vcallB_of hP r2 ?_ | refine vcall_A ?_); simp (maxSteps := 2000000) only [go_sem, hP, ↓reduceIte, Nat.reduceAdd, Nat.reduceMul, Nat.reduceEqDiff, Nat.reduceSub, Nat.reduceLeDiff, reduceCtorEq, List.cons_append, List.nil_append, markedA])
    | refine ev_skip ?_ | refine ev_block ?_ | refine ev_blk ?_ | refine ev_ret ?_ | refine ev_exit ?_ | refine evx_code_ret ?_ | refine evx_blk_ret ?_ | refine evx_lp_ret ?_
    | refine evx_code_exit ?_ | refine evx_lp_exit ?_ | refine evx_blk_hit ?_ | refine evx_blk_pass (by decide) ?_
    | refine And.intro ?_ ?_ | intro _ | decide +kernel | omega)
  all_goals (simp_all; done)
theorem all_TakeNode (gs : List Arg) (h : shpA Tryz.prog 12 [26, 46] gs) : Sat Tryz.prog 4 gs true (rB true) := by
  obtain ⟨x0, gs, rfl, h0, x1, gs, rfl, h1, rfl⟩ := h
  obtain ⟨a, rfl⟩ := shp_Arena (n := 4) rfl h0
  obtain ⟨b, rfl⟩ := shp_Node (n := 6) rfl h1
  exact l_TakeNode a b
end Go.Proofs.YtcephdpooijciaaGreat.W
