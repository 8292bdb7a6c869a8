/- Contracts of functions that FnExactSplitQuad reaches: what each returns; it writes to nothing of old. No condition but those that each theorem states. -/
import Derived.Test.YtmpndkhnajogkaaQa2
open Go Go.Vm Go.Proofs Go.IntWalk Go.RowKit
set_option maxRecDepth 100000
set_option maxHeartbeats 4000000
set_option linter.unusedSimpArgs false
set_option linter.unusedVariables false
set_option linter.unusedSectionVars false
namespace Go.Proofs.Ytmpndkhnajogkaa.W
attribute [local irreducible] kJ ev evx vops vstep vgo vgd vget vcall vcallFn vcallA vcallB vts vres vcond vbin
theorem s_parted (c : Int) (zs xs ys : List Entry) (sem : List Dat → List Dat → Prop) (hs : c = 0 → sem [(false, [sEntryS zs])] [(false, [oEntryS xs]), (false, [oEntryS ys])]) (h0 : c ≠ 0 → xs = [] ∧ ys = []) :
    Sat Try.prog 128 [aI c, aEntryS zs, .fn sem] true (rPtR c xs ys) := by
  refine sat_walk (fn := Try.f128) rfl rfl rfl (Nat.le_of_ble_eq_true rfl) fun fr hP hN hbnd => ?_
  have hE : (envOf fr Try.prog).Ok := envOf_ok hP
  have hM := follows_of hP
  have hS : ∀ {draw ops}, statB Try.f128.ntmps draw ops = true → statB (envOf fr Try.prog).fr.N draw ops = true := fun h => by rw [envOf_fr, hN]; exact h
  by_cases hc : c = 0
  · subst hc
    repeat' (first
      | exact True.intro
      | refine ev_seq ?_
      | ((first | refine vgd_go ?_ | refine ev_region hE hM (hS (by decide +kernel)) ?_ | refine ev_if ?_ | refine end_ret hE rfl rfl ?_ | refine end_norm hE rfl rfl ?_ | refine endG_ret [] hE rfl ?_ | refine endG_norm [] hE rfl ?_ | refine vcallFn_of [(false, [sEntryS zs])] [] [(false, [oEntryS xs]), (false, [oEntryS ys])] (by simp only [go_sem, hP, ↓reduceIte, Nat.reduceAdd, Nat.reduceMul, Nat.reduceEqDiff, Nat.reduceSub, Nat.reduceLeDiff, reduceCtorEq]) (hs rfl) ?_ | refine vcall_A ?_); simp (maxSteps := 2000000) only [go_sem, hP, ↓reduceIte, Nat.reduceAdd, Nat.reduceMul, Nat.reduceEqDiff, Nat.reduceSub, Nat.reduceLeDiff, reduceCtorEq])
      | refine ev_skip ?_ | refine ev_block ?_ | refine ev_blk ?_ | refine ev_ret ?_ | refine ev_exit ?_ | refine evx_code_ret ?_ | refine evx_blk_ret ?_ | refine evx_lp_ret ?_
      | refine evx_code_exit ?_ | refine evx_lp_exit ?_ | refine evx_blk_hit ?_ | refine evx_blk_pass (by decide) ?_
      | refine And.intro ?_ ?_ | intro _ | decide +kernel | omega)
    all_goals first | rfl | (simp_all; done) | trace_state
  · obtain ⟨rfl, rfl⟩ := h0 hc
    have d0 : (c != 0) = true := by simpa using hc
    repeat' (first
      | exact True.intro
      | refine ev_seq ?_
      | ((first | refine vgd_go ?_ | refine ev_region hE hM (hS (by decide +kernel)) ?_ | refine ev_if ?_ | refine end_ret hE rfl rfl ?_ | refine end_norm hE rfl rfl ?_ | refine endG_ret [] hE rfl ?_ | refine endG_norm [] hE rfl ?_ | refine vcall_A ?_); simp (maxSteps := 2000000) only [go_sem, hP, ↓reduceIte, Nat.reduceAdd, Nat.reduceMul, Nat.reduceEqDiff, Nat.reduceSub, Nat.reduceLeDiff, reduceCtorEq, d0])
      | refine ev_skip ?_ | refine ev_block ?_ | refine ev_blk ?_ | refine ev_ret ?_ | refine ev_exit ?_ | refine evx_code_ret ?_ | refine evx_blk_ret ?_ | refine evx_lp_ret ?_
      | refine evx_code_exit ?_ | refine evx_lp_exit ?_ | refine evx_blk_hit ?_ | refine evx_blk_pass (by decide) ?_
      | refine And.intro ?_ ?_ | intro _ | decide +kernel | omega)
    all_goals first | rfl | (simp_all; done) | trace_state
def sqA (xs : List Entry) (d : Int) : List Entry := if sfC xs d = 0 then selE xs (quadV xs) 1 else []
def sqB (xs : List Entry) (d : Int) : List Entry := if sfC xs d = 0 then selE xs (quadV xs) 2 else []
theorem selE_w {xs : List Entry} {ins : List Int} {s d : Int} (h : esf xs d = 0) : wEntryS (selE xs ins s) ≤ 70 := by
  have h1 := esf_len h
  have h2 := even_w (xs := selE xs ins s) (d := d) (fun e he => esf_rf h e (selE_mem e he))
  have h3 := selTo_len xs ins s xs.length
  unfold selE at h2 ⊢
  omega
theorem sqA_w (xs : List Entry) (d : Int) : wEntryS (sqA xs d) ≤ 70 := by
  unfold sqA; split
  · rename_i h; exact selE_w (sfC_zero h).1
  · exact Nat.zero_le _
theorem sqB_w (xs : List Entry) (d : Int) : wEntryS (sqB xs d) ≤ 70 := by
  unfold sqB; split
  · rename_i h; exact selE_w (sfC_zero h).1
  · exact Nat.zero_le _
theorem s_specSplitQuad (xs : List Entry) (d : Int) : Sat Try.prog 32 [aEntryS xs, aI d] true (rPtR (sfC xs d) (sqA xs d) (sqB xs d)) := by
  refine sat_walk (fn := Try.f32) rfl rfl rfl (Nat.le_of_ble_eq_true rfl) fun fr hP hN hbnd => ?_
  have hE : (envOf fr Try.prog).Ok := envOf_ok hP
  have hM := follows_of hP
  have hS : ∀ {draw ops}, statB Try.f32.ntmps draw ops = true → statB (envOf fr Try.prog).fr.N draw ops = true := fun h => by rw [envOf_fr, hN]; exact h
  by_cases hz : sfC xs d = 0
  · have h1 := sfC_zero hz
    have e1 : sqA xs d = selE xs (quadV xs) 1 := if_pos hz
    have e2 : sqB xs d = selE xs (quadV xs) 2 := if_pos hz
    have w1 := selE_w (ins := quadV xs) (s := 1) h1.1
    have w2 := selE_w (ins := quadV xs) (s := 2) h1.1
    rw [e1, e2, hz]
    repeat' (first
      | exact True.intro
      | refine ev_seq ?_
      | ((first | refine vgd_go ?_ | refine ev_region hE hM (hS (by decide +kernel)) ?_ | refine ev_if ?_ | refine end_ret hE rfl rfl ?_ | refine end_norm hE rfl rfl ?_ | refine endG_ret [] hE rfl ?_ | refine endG_norm [] hE rfl ?_ | refine vcallB_of hP (s_l5Enough xs d) ?_ | refine vcallB_of hP (s_l5Quad xs d h1.1 h1.2) ?_ | refine vcallB_of hP (s_l5Parts _ _ (Nat.le_trans w1 (by omega)) (Nat.le_trans w2 (by omega))) ?_ | refine vcall_A ?_); simp (maxSteps := 2000000) only [go_sem, hP, ↓reduceIte, Nat.reduceAdd, Nat.reduceMul, Nat.reduceEqDiff, Nat.reduceSub, Nat.reduceLeDiff, reduceCtorEq, hz])
      | refine ev_skip ?_ | refine ev_block ?_ | refine ev_blk ?_ | refine ev_ret ?_ | refine ev_exit ?_ | refine evx_code_ret ?_ | refine evx_blk_ret ?_ | refine evx_lp_ret ?_
      | refine evx_code_exit ?_ | refine evx_lp_exit ?_ | refine evx_blk_hit ?_ | refine evx_blk_pass (by decide) ?_
      | refine And.intro ?_ ?_ | intro _ | decide +kernel | omega)
    all_goals first | rfl | (exfalso; simp_all; done) | (simp_all; done) | trace_state
  · have e1 : sqA xs d = [] := if_neg hz
    have e2 : sqB xs d = [] := if_neg hz
    rw [e1, e2]
    repeat' (first
      | exact True.intro
      | refine ev_seq ?_
      | ((first | refine vgd_go ?_ | refine ev_region hE hM (hS (by decide +kernel)) ?_ | refine ev_if ?_ | refine end_ret hE rfl rfl ?_ | refine end_norm hE rfl rfl ?_ | refine endG_ret [] hE rfl ?_ | refine endG_norm [] hE rfl ?_ | refine vcallB_of hP (s_l5Enough xs d) ?_ | refine vcall_A ?_); simp (maxSteps := 2000000) only [go_sem, hP, ↓reduceIte, Nat.reduceAdd, Nat.reduceMul, Nat.reduceEqDiff, Nat.reduceSub, Nat.reduceLeDiff, reduceCtorEq])
      | refine ev_skip ?_ | refine ev_block ?_ | refine ev_blk ?_ | refine ev_ret ?_ | refine ev_exit ?_ | refine evx_code_ret ?_ | refine evx_blk_ret ?_ | refine evx_lp_ret ?_
      | refine evx_code_exit ?_ | refine evx_lp_exit ?_ | refine evx_blk_hit ?_ | refine evx_blk_pass (by decide) ?_
      | refine And.intro ?_ ?_ | intro _ | decide +kernel | omega)
    all_goals first | rfl | (exfalso; simp_all; done) | (simp_all; done) | trace_state
theorem s_implSplitQuad (xs : List Entry) (d : Int) : Sat Try.prog 33 [aEntryS xs, aI d] true (rPtR (sfC xs d) (sqA xs d) (sqB xs d)) := by
  refine sat_walk (fn := Try.f33) rfl rfl rfl (Nat.le_of_ble_eq_true rfl) fun fr hP hN hbnd => ?_
  have hE : (envOf fr Try.prog).Ok := envOf_ok hP
  have hM := follows_of hP
  have hS : ∀ {draw ops}, statB Try.f33.ntmps draw ops = true → statB (envOf fr Try.prog).fr.N draw ops = true := fun h => by rw [envOf_fr, hN]; exact h
  repeat' (first
    | exact True.intro
    | refine ev_seq ?_
    | ((first | refine vgd_go ?_ | refine ev_region hE hM (hS (by decide +kernel)) ?_ | refine ev_if ?_ | refine end_ret hE rfl rfl ?_ | refine end_norm hE rfl rfl ?_ | refine endG_ret [] hE rfl ?_ | refine endG_norm [] hE rfl ?_ | refine vcallB_of hP (s_splitFault xs d) ?_ | refine vcallB_of hP (s_parted (sfC xs d) xs (sqA xs d) (sqB xs d) _ (fun h => by rw [show sqA xs d = selE xs (quadV xs) 1 from if_pos h, show sqB xs d = selE xs (quadV xs) 2 from if_pos h]; exact s_splitQuad xs d (sfC_zero h).1 (sfC_zero h).2) (fun h => ⟨if_neg h, if_neg h⟩)) ?_ | refine vcall_A ?_); simp (maxSteps := 2000000) only [go_sem, hP, ↓reduceIte, Nat.reduceAdd, Nat.reduceMul, Nat.reduceEqDiff, Nat.reduceSub, Nat.reduceLeDiff, reduceCtorEq])
    | refine ev_skip ?_ | refine ev_block ?_ | refine ev_blk ?_ | refine ev_ret ?_ | refine ev_exit ?_ | refine evx_code_ret ?_ | refine evx_blk_ret ?_ | refine evx_lp_ret ?_
    | refine evx_code_exit ?_ | refine evx_lp_exit ?_ | refine evx_blk_hit ?_ | refine evx_blk_pass (by decide) ?_
    | refine And.intro ?_ ?_ | intro _ | decide +kernel | omega)
  all_goals first | rfl | (exfalso; simp_all; done) | (simp_all; done) | trace_state
theorem s_eqPartsResult (c c' : Int) (xs ys xs' ys' : List Entry) : Sat Try.prog 34 [aPtR c xs ys, aPtR c' xs' ys'] true (rB (decide (c = c' ∧ xs = xs' ∧ ys = ys'))) := by
  refine sat_walk (fn := Try.f34) rfl rfl rfl (Nat.le_of_ble_eq_true rfl) fun fr hP hN hbnd => ?_
  have hE : (envOf fr Try.prog).Ok := envOf_ok hP
  have hM := follows_of hP
  have hS : ∀ {draw ops}, statB Try.f34.ntmps draw ops = true → statB (envOf fr Try.prog).fr.N draw ops = true := fun h => by rw [envOf_fr, hN]; exact h
  repeat' (first
    | exact True.intro
    | refine ev_seq ?_
    | ((first | refine vgd_go ?_ | refine ev_region hE hM (hS (by decide +kernel)) ?_ | refine ev_if ?_ | refine end_ret hE rfl rfl ?_ | refine end_norm hE rfl rfl ?_ | refine endG_ret [] hE rfl ?_ | refine endG_norm [] hE rfl ?_ | refine vcallB_of hP (s_eqEntryS xs xs') ?_ | refine vcallB_of hP (s_eqEntryS ys ys') ?_ | refine vcall_A ?_); simp (maxSteps := 2000000) only [go_sem, hP, ↓reduceIte, Nat.reduceAdd, Nat.reduceMul, Nat.reduceEqDiff, Nat.reduceSub, Nat.reduceLeDiff, reduceCtorEq])
    | refine ev_skip ?_ | refine ev_block ?_ | refine ev_blk ?_ | refine ev_ret ?_ | refine ev_exit ?_ | refine evx_code_ret ?_ | refine evx_blk_ret ?_ | refine evx_lp_ret ?_
    | refine evx_code_exit ?_ | refine evx_lp_exit ?_ | refine evx_blk_hit ?_ | refine evx_blk_pass (by decide) ?_
    | refine And.intro ?_ ?_ | intro _ | decide +kernel | omega)
  all_goals simp_all
theorem s_markPartsResult (c : Int) (xs ys : List Entry) (k : Int) (h0 : 0 ≤ k) (h1 : k + sumW mwEntry xs + sumW mwEntry ys ≤ mMax) : SatG Try.prog 35 true [tPtR c 1 2, iT k] [gEs 1 xs, gEs 2 ys] (iT (k + sumW mwEntry xs + sumW mwEntry ys)) [gEs 1 (markedEs k xs), gEs 2 (markedEs (k + sumW mwEntry xs) ys)] := by
  refine satG_walk (fn := Try.f35) rfl rfl rfl (Nat.le_of_ble_eq_true rfl) (by simp) fun fr hP hN hdp hb1 hb2 => ?_
  have hE : (envOf fr Try.prog).Ok := envOf_ok hP
  have hM := follows_of hP
  have hS : ∀ {draw ops}, statB Try.f35.ntmps draw ops = true → statB (envOf fr Try.prog).fr.N draw ops = true := fun h => by rw [envOf_fr, hN]; exact h
  have hY : ∀ b, (envOf fr Try.prog).fr.Y b → (envOf fr Try.prog).fr.X b := fun b hb => hdp rfl b hb
  have c1 := s_markEntryS xs k h0 (by omega)
  have c2 := s_markEntryS ys (k + sumW mwEntry xs) (by omega) h1
  repeat' (first
    | exact True.intro
    | refine ev_seq ?_
    | ((first | refine ev_stop 1 ?_ | refine vgd_go ?_ | refine ev_region hE hM (hS (by decide +kernel)) ?_ | refine ev_if ?_ | refine end_ret hE rfl rfl ?_ | refine end_norm hE rfl rfl ?_ | refine endG_ret [] hE rfl ?_ | refine endG_norm [] hE rfl ?_ | refine vcall_A ?_); simp (maxSteps := 2000000) only [go_sem, hP, ↓reduceIte, Nat.reduceAdd, Nat.reduceMul, Nat.reduceEqDiff, Nat.reduceSub, Nat.reduceLeDiff, reduceCtorEq])
    | refine ev_skip ?_ | refine ev_block ?_ | refine ev_blk ?_ | refine ev_ret ?_ | refine ev_exit ?_ | refine evx_code_ret ?_ | refine evx_blk_ret ?_ | refine evx_lp_ret ?_
    | refine evx_code_exit ?_ | refine evx_lp_exit ?_ | refine evx_blk_hit ?_ | refine evx_blk_pass (by decide) ?_
    | refine And.intro ?_ ?_ | intro _ | decide +kernel | omega)
  first | refine Stop.mk ?_ | skip
  refine ev_cut [(1, iT k), (2, .ptr 0 0)] [(0, .box [iT c, .ref 1, .ref 2]), gEs 1 xs, gEs 2 ys] [(0, .ref 1), (1, .ref 2)] [] (by simp only [go_sem, hP, ↓reduceIte, Nat.reduceAdd, Nat.reduceMul, Nat.reduceEqDiff, Nat.reduceSub, Nat.reduceLeDiff, reduceCtorEq]) ?_
  repeat' (first
    | exact True.intro
    | refine ev_seq ?_
    | ((first | refine ev_regionC (id := 1) (pre := [_, _, _]) hE rfl (hS (by decide +kernel)) ?_ | refine vgd_go ?_ | refine ev_region hE hM (hS (by decide +kernel)) ?_ | refine ev_if ?_ | refine end_ret hE rfl rfl ?_ | refine end_norm hE rfl rfl ?_ | refine endG_ret [] hE rfl ?_ | refine endG_norm [] hE rfl ?_ | refine vcall_A ?_); simp (maxSteps := 2000000) only [go_sem, hP, ↓reduceIte, Nat.reduceAdd, Nat.reduceMul, Nat.reduceEqDiff, Nat.reduceSub, Nat.reduceLeDiff, reduceCtorEq])
    | refine ev_skip ?_ | refine ev_block ?_ | refine ev_blk ?_ | refine ev_ret ?_ | refine ev_exit ?_ | refine evx_code_ret ?_ | refine evx_blk_ret ?_ | refine evx_lp_ret ?_
    | refine evx_code_exit ?_ | refine evx_lp_exit ?_ | refine evx_blk_hit ?_ | refine evx_blk_pass (by decide) ?_
    | refine And.intro ?_ ?_ | intro _ | decide +kernel | omega)
  refine callM_of [(1, 1)] [] [(2, .ptr 0 0), (6, .ref 1), (7, iT k)] [(0, .box [iT c, .ref 1, .ref 2]), gEs 1 xs, gEs 2 ys] [(0, .ref 1), (1, .ref 2)] hP c1 hY rfl rfl (by rw [envOf_fr, hN]; decide) (by simp only [go_sem, hP, ↓reduceIte, Nat.reduceAdd, Nat.reduceMul, Nat.reduceEqDiff, Nat.reduceSub, Nat.reduceLeDiff, reduceCtorEq]) rfl rfl (by simp only [go_sem, hP, ↓reduceIte, Nat.reduceAdd, Nat.reduceMul, Nat.reduceEqDiff, Nat.reduceSub, Nat.reduceLeDiff, reduceCtorEq] <;> simp) (by simp only [go_sem, hP, ↓reduceIte, Nat.reduceAdd, Nat.reduceMul, Nat.reduceEqDiff, Nat.reduceSub, Nat.reduceLeDiff, reduceCtorEq] <;> simp) ?_
  simp only [go_sem, hP, ↓reduceIte, Nat.reduceAdd, Nat.reduceMul, Nat.reduceEqDiff, Nat.reduceSub, Nat.reduceLeDiff, reduceCtorEq]
  repeat' (first
    | exact True.intro
    | refine ev_seq ?_
    | ((first | refine ev_stop 2 ?_ | refine vgd_go ?_ | refine ev_region hE hM (hS (by decide +kernel)) ?_ | refine ev_if ?_ | refine end_ret hE rfl rfl ?_ | refine end_norm hE rfl rfl ?_ | refine endG_ret [] hE rfl ?_ | refine endG_norm [] hE rfl ?_ | refine vcall_A ?_); simp (maxSteps := 2000000) only [go_sem, hP, ↓reduceIte, Nat.reduceAdd, Nat.reduceMul, Nat.reduceEqDiff, Nat.reduceSub, Nat.reduceLeDiff, reduceCtorEq])
    | refine ev_skip ?_ | refine ev_block ?_ | refine ev_blk ?_ | refine ev_ret ?_ | refine ev_exit ?_ | refine evx_code_ret ?_ | refine evx_blk_ret ?_ | refine evx_lp_ret ?_
    | refine evx_code_exit ?_ | refine evx_lp_exit ?_ | refine evx_blk_hit ?_ | refine evx_blk_pass (by decide) ?_
    | refine And.intro ?_ ?_ | intro _ | decide +kernel | omega)
  first | refine Stop.mk ?_ | skip
  refine ev_cut [(1, iT (k + sumW mwEntry xs)), (2, .ptr 0 0)] [(0, .box [iT c, .ref 1, .ref 2]), gEs 1 (markedEs k xs), gEs 2 ys] [(0, .ref 1), (1, .ref 2)] [] (by simp only [go_sem, hP, ↓reduceIte, Nat.reduceAdd, Nat.reduceMul, Nat.reduceEqDiff, Nat.reduceSub, Nat.reduceLeDiff, reduceCtorEq]) ?_
  repeat' (first
    | exact True.intro
    | refine ev_seq ?_
    | ((first | refine ev_regionC (id := 2) (pre := [_, _, _]) hE rfl (hS (by decide +kernel)) ?_ | refine vgd_go ?_ | refine ev_region hE hM (hS (by decide +kernel)) ?_ | refine ev_if ?_ | refine end_ret hE rfl rfl ?_ | refine end_norm hE rfl rfl ?_ | refine endG_ret [] hE rfl ?_ | refine endG_norm [] hE rfl ?_ | refine vcall_A ?_); simp (maxSteps := 2000000) only [go_sem, hP, ↓reduceIte, Nat.reduceAdd, Nat.reduceMul, Nat.reduceEqDiff, Nat.reduceSub, Nat.reduceLeDiff, reduceCtorEq])
    | refine ev_skip ?_ | refine ev_block ?_ | refine ev_blk ?_ | refine ev_ret ?_ | refine ev_exit ?_ | refine evx_code_ret ?_ | refine evx_blk_ret ?_ | refine evx_lp_ret ?_
    | refine evx_code_exit ?_ | refine evx_lp_exit ?_ | refine evx_blk_hit ?_ | refine evx_blk_pass (by decide) ?_
    | refine And.intro ?_ ?_ | intro _ | decide +kernel | omega)
  refine callM_of [(1, 2)] [] [(2, .ptr 0 0), (10, .ref 2), (11, iT (k + sumW mwEntry xs))] [(0, .box [iT c, .ref 1, .ref 2]), gEs 1 (markedEs k xs), gEs 2 ys] [(0, .ref 1), (1, .ref 2)] hP c2 hY rfl rfl (by rw [envOf_fr, hN]; decide) (by simp only [go_sem, hP, ↓reduceIte, Nat.reduceAdd, Nat.reduceMul, Nat.reduceEqDiff, Nat.reduceSub, Nat.reduceLeDiff, reduceCtorEq]) rfl rfl (by simp only [go_sem, hP, ↓reduceIte, Nat.reduceAdd, Nat.reduceMul, Nat.reduceEqDiff, Nat.reduceSub, Nat.reduceLeDiff, reduceCtorEq] <;> simp) (by simp only [go_sem, hP, ↓reduceIte, Nat.reduceAdd, Nat.reduceMul, Nat.reduceEqDiff, Nat.reduceSub, Nat.reduceLeDiff, reduceCtorEq] <;> simp) ?_
  simp only [go_sem, hP, ↓reduceIte, Nat.reduceAdd, Nat.reduceMul, Nat.reduceEqDiff, Nat.reduceSub, Nat.reduceLeDiff, reduceCtorEq]
  repeat' (first
    | exact True.intro
    | refine ev_seq ?_
    | ((first | refine vgd_go ?_ | refine ev_region hE hM (hS (by decide +kernel)) ?_ | refine ev_if ?_ | refine end_ret hE rfl rfl ?_ | refine end_norm hE rfl rfl ?_ | refine endG_ret [] hE rfl ?_ | refine endG_norm [] hE rfl ?_ | refine vcall_A ?_); simp (maxSteps := 2000000) only [go_sem, hP, ↓reduceIte, Nat.reduceAdd, Nat.reduceMul, Nat.reduceEqDiff, Nat.reduceSub, Nat.reduceLeDiff, reduceCtorEq])
    | refine ev_skip ?_ | refine ev_block ?_ | refine ev_blk ?_ | refine ev_ret ?_ | refine ev_exit ?_ | refine evx_code_ret ?_ | refine evx_blk_ret ?_ | refine evx_lp_ret ?_
    | refine evx_code_exit ?_ | refine evx_lp_exit ?_ | refine evx_blk_hit ?_ | refine evx_blk_pass (by decide) ?_
    | refine And.intro ?_ ?_ | intro _ | decide +kernel | omega)
theorem s_heldPartsResult (c : Int) (xs ys : List Entry) (k : Int) (h0 : 0 ≤ k) (h1 : k + sumW mwEntry xs + sumW mwEntry ys ≤ mMax) : Sat Try.prog 36 [aPtR c (markedEs k xs) (markedEs (k + sumW mwEntry xs) ys), aI k] true (rI (k + sumW mwEntry xs + sumW mwEntry ys)) := by
  refine sat_walk (fn := Try.f36) rfl rfl rfl (Nat.le_of_ble_eq_true rfl) fun fr hP hN hbnd => ?_
  have hE : (envOf fr Try.prog).Ok := envOf_ok hP
  have hM := follows_of hP
  have hS : ∀ {draw ops}, statB Try.f36.ntmps draw ops = true → statB (envOf fr Try.prog).fr.N draw ops = true := fun h => by rw [envOf_fr, hN]; exact h
  repeat' (first
    | exact True.intro
    | refine ev_seq ?_
    | ((first | refine vgd_go ?_ | refine ev_region hE hM (hS (by decide +kernel)) ?_ | refine ev_if ?_ | refine end_ret hE rfl rfl ?_ | refine end_norm hE rfl rfl ?_ | refine endG_ret [] hE rfl ?_ | refine endG_norm [] hE rfl ?_ | refine vcallB_of hP (s_heldEntryS xs k h0 (by omega)) ?_ | refine vcallB_of hP (s_heldEntryS ys (k + sumW mwEntry xs) (by omega) h1) ?_ | refine vcall_A ?_); simp (maxSteps := 2000000) only [go_sem, hP, ↓reduceIte, Nat.reduceAdd, Nat.reduceMul, Nat.reduceEqDiff, Nat.reduceSub, Nat.reduceLeDiff, reduceCtorEq])
    | refine ev_skip ?_ | refine ev_block ?_ | refine ev_blk ?_ | refine ev_ret ?_ | refine ev_exit ?_ | refine evx_code_ret ?_ | refine evx_blk_ret ?_ | refine evx_lp_ret ?_
    | refine evx_code_exit ?_ | refine evx_lp_exit ?_ | refine evx_blk_hit ?_ | refine evx_blk_pass (by decide) ?_
    | refine And.intro ?_ ?_ | intro _ | decide +kernel | omega)
  all_goals (exfalso; omega)
theorem l_SplitQuad (a : List Entry) (b : Int) : Sat Try.prog 6 [aEntryS a, aI b] true (rB true) := by
  refine sat_walkB (fn := Try.f6) rfl rfl rfl (Nat.le_of_ble_eq_true rfl) fun fr hP hN hYX hbnd => ?_
  have hE : (envOf fr Try.prog).Ok := envOf_ok hP
  have hM := follows_of hP
  have hS : ∀ {draw ops}, statB Try.f6.ntmps draw ops = true → statB (envOf fr Try.prog).fr.N draw ops = true := fun h => by rw [envOf_fr, hN]; exact h
  repeat' (first
    | exact True.intro
    | refine ev_seq ?_
    | ((first | refine ev_stop 13 ?_ | refine vgd_go ?_ | refine ev_region hE hM (hS (by decide +kernel)) ?_ | refine ev_if ?_ | refine end_ret hE rfl rfl ?_ | refine end_norm hE rfl rfl ?_ | refine endG_ret [] hE rfl ?_ | refine endG_norm [] hE rfl ?_ | refine vcallB_of hP (s_szEntryS a _ (by omega) (by omega)) ?_ | refine vcallB_of hP (s_toEntryS a (by simp only [lessN] at *; omega)) ?_ | refine vcallB_of hP (s_specSplitQuad a b) ?_ | refine vcallB_of hP (s_implSplitQuad a b) ?_ | refine vcallB_of hP (s_eqEntryS a a) ?_ | refine vcallB_of hP (s_eqPartsResult _ _ _ _ _ _) ?_ | refine vcall_A ?_); simp (maxSteps := 2000000) only [go_sem, hP, ↓reduceIte, Nat.reduceAdd, Nat.reduceMul, Nat.reduceEqDiff, Nat.reduceSub, Nat.reduceLeDiff, reduceCtorEq])
    | refine ev_skip ?_ | refine ev_block ?_ | refine ev_blk ?_ | refine ev_ret ?_ | refine ev_exit ?_ | refine evx_code_ret ?_ | refine evx_blk_ret ?_ | refine evx_lp_ret ?_
    | refine evx_code_exit ?_ | refine evx_lp_exit ?_ | refine evx_blk_hit ?_ | refine evx_blk_pass (by decide) ?_
    | refine And.intro ?_ ?_ | intro _ | decide +kernel | omega)
  all_goals first | (exfalso; simp_all; done) | skip
  first | refine Stop.mk ?_ | skip
  have hw0 : wEntryS a ≤ 1048576 := by simp only [lessN] at *; omega
  have hv1 := sqA_w a b
  have hv2 := sqB_w a b
  have hm := mwE_le (xs := a)
  have hr1 := mwE_le (xs := sqA a b)
  have hr2 := mwE_le (xs := sqB a b)
  have x0 := s_markEntryS a 1 (by omega) (by simp only [mMax]; omega)
  have r1 := s_markPartsResult (sfC a b) (sqA a b) (sqB a b) 1 (by omega) (by simp only [mMax]; omega)
  have r2 := s_heldPartsResult (sfC a b) (sqA a b) (sqB a b) 1 (by omega) (by simp only [mMax]; omega)
  refine ev_cut [(0, .ca (sEntryS a)), (1, iT b), (4, .c (.bool false)), (6, .ptr 20512 0), (7, .ref 24584), (8, .ptr 28696 0), (9, iT 1)] [(20512, .box [iT (sfC a b), .ref 1069080, .ref 2117656]), gEs 1069080 (sqA a b), gEs 2117656 (sqB a b), gEs 24584 a, (28696, .box [iT (sfC a b), .ref 1077264, .ref 2125840]), gEs 1077264 (sqA a b), gEs 2125840 (sqB a b)] [] [] (by simp only [go_sem, hP, ↓reduceIte, Nat.reduceAdd, Nat.reduceMul, Nat.reduceEqDiff, Nat.reduceSub, Nat.reduceLeDiff, reduceCtorEq, List.cons_append, List.nil_append]) ?_
  repeat' (first
    | exact True.intro
    | refine ev_seq ?_
    | ((first | refine ev_regionC (id := 13) (pre := [_, _]) hE rfl (hS (by decide +kernel)) ?_ | refine vgd_go ?_ | refine ev_region hE hM (hS (by decide +kernel)) ?_ | refine ev_if ?_ | refine end_ret hE rfl rfl ?_ | refine end_norm hE rfl rfl ?_ | refine endG_ret [] hE rfl ?_ | refine endG_norm [] hE rfl ?_ | refine vcall_A ?_); simp (maxSteps := 2000000) only [go_sem, hP, ↓reduceIte, Nat.reduceAdd, Nat.reduceMul, Nat.reduceEqDiff, Nat.reduceSub, Nat.reduceLeDiff, reduceCtorEq, List.cons_append, List.nil_append])
    | refine ev_skip ?_ | refine ev_block ?_ | refine ev_blk ?_ | refine ev_ret ?_ | refine ev_exit ?_ | refine evx_code_ret ?_ | refine evx_blk_ret ?_ | refine evx_lp_ret ?_
    | refine evx_code_exit ?_ | refine evx_lp_exit ?_ | refine evx_blk_hit ?_ | refine evx_blk_pass (by decide) ?_
    | refine And.intro ?_ ?_ | intro _ | decide +kernel | omega)
  refine callM_of [(1, 24584)] [] [(0, .ca (sEntryS a)), (1, iT b), (4, .c (.bool false)), (6, .ptr 20512 0), (7, .ref 24584), (8, .ptr 28696 0), (36, .ref 24584), (37, iT 1)] [(20512, .box [iT (sfC a b), .ref 1069080, .ref 2117656]), gEs 1069080 (sqA a b), gEs 2117656 (sqB a b), gEs 24584 a, (28696, .box [iT (sfC a b), .ref 1077264, .ref 2125840]), gEs 1077264 (sqA a b), gEs 2125840 (sqB a b)] [] hP x0 hYX rfl rfl (by rw [envOf_fr, hN]; decide) (by simp only [go_sem, hP, ↓reduceIte, Nat.reduceAdd, Nat.reduceMul, Nat.reduceEqDiff, Nat.reduceSub, Nat.reduceLeDiff, reduceCtorEq, List.cons_append, List.nil_append]) rfl rfl (by simp only [go_sem, hP, ↓reduceIte, Nat.reduceAdd, Nat.reduceMul, Nat.reduceEqDiff, Nat.reduceSub, Nat.reduceLeDiff, reduceCtorEq, List.cons_append, List.nil_append] <;> simp) (by simp only [go_sem, hP, ↓reduceIte, Nat.reduceAdd, Nat.reduceMul, Nat.reduceEqDiff, Nat.reduceSub, Nat.reduceLeDiff, reduceCtorEq] <;> simp) ?_
  simp only [go_sem, hP, ↓reduceIte, Nat.reduceAdd, Nat.reduceMul, Nat.reduceEqDiff, Nat.reduceSub, Nat.reduceLeDiff, reduceCtorEq, List.cons_append, List.nil_append]
  repeat' (first
    | exact True.intro
    | refine ev_seq ?_
    | ((first | refine ev_stop 17 ?_ | refine vgd_go ?_ | refine ev_region hE hM (hS (by decide +kernel)) ?_ | refine ev_if ?_ | refine end_ret hE rfl rfl ?_ | refine end_norm hE rfl rfl ?_ | refine endG_ret [] hE rfl ?_ | refine endG_norm [] hE rfl ?_ | refine vcallB_of hP (s_toEntryS a (by simp only [lessN] at *; omega)) ?_ | refine vcallB_of hP (s_implSplitQuad a b) ?_ | refine vcallB_of hP (s_eqPartsResult _ _ _ _ _ _) ?_ | refine vcall_A ?_); simp (maxSteps := 2000000) only [go_sem, hP, ↓reduceIte, Nat.reduceAdd, Nat.reduceMul, Nat.reduceEqDiff, Nat.reduceSub, Nat.reduceLeDiff, reduceCtorEq, List.cons_append, List.nil_append])
    | refine ev_skip ?_ | refine ev_block ?_ | refine ev_blk ?_ | refine ev_ret ?_ | refine ev_exit ?_ | refine evx_code_ret ?_ | refine evx_blk_ret ?_ | refine evx_lp_ret ?_
    | refine evx_code_exit ?_ | refine evx_lp_exit ?_ | refine evx_blk_hit ?_ | refine evx_blk_pass (by decide) ?_
    | refine And.intro ?_ ?_ | intro _ | decide +kernel | omega)
  all_goals first | (exfalso; simp_all; done) | skip
  first | refine Stop.mk ?_ | skip
  refine ev_cut [(0, .ca (sEntryS a)), (1, iT b), (4, .c (.bool false)), (6, .ptr 20512 0), (8, .ptr 28696 0), (10, iT 1)] [(20512, .box [iT (sfC a b), .ref 1069080, .ref 2117656]), gEs 1069080 (sqA a b), gEs 2117656 (sqB a b), (28696, .box [iT (sfC a b), .ref 1077264, .ref 2125840]), gEs 1077264 (sqA a b), gEs 2125840 (sqB a b)] [] [] (by simp only [go_sem, hP, ↓reduceIte, Nat.reduceAdd, Nat.reduceMul, Nat.reduceEqDiff, Nat.reduceSub, Nat.reduceLeDiff, reduceCtorEq, List.cons_append, List.nil_append]) ?_
  repeat' (first
    | exact True.intro
    | refine ev_seq ?_
    | ((first | refine ev_regionC (id := 17) (pre := [_, _]) hE rfl (hS (by decide +kernel)) ?_ | refine vgd_go ?_ | refine ev_region hE hM (hS (by decide +kernel)) ?_ | refine ev_if ?_ | refine end_ret hE rfl rfl ?_ | refine end_norm hE rfl rfl ?_ | refine endG_ret [] hE rfl ?_ | refine endG_norm [] hE rfl ?_ | refine vcall_A ?_); simp (maxSteps := 2000000) only [go_sem, hP, ↓reduceIte, Nat.reduceAdd, Nat.reduceMul, Nat.reduceEqDiff, Nat.reduceSub, Nat.reduceLeDiff, reduceCtorEq, List.cons_append, List.nil_append])
    | refine ev_skip ?_ | refine ev_block ?_ | refine ev_blk ?_ | refine ev_ret ?_ | refine ev_exit ?_ | refine evx_code_ret ?_ | refine evx_blk_ret ?_ | refine evx_lp_ret ?_
    | refine evx_code_exit ?_ | refine evx_lp_exit ?_ | refine evx_blk_hit ?_ | refine evx_blk_pass (by decide) ?_
    | refine And.intro ?_ ?_ | intro _ | decide +kernel | omega)
  refine callM_of [(1, 1077264), (2, 2125840)] [] [(0, .ca (sEntryS a)), (1, iT b), (4, .c (.bool false)), (6, .ptr 20512 0), (8, .ptr 28696 0), (47, .agg [iT (sfC a b), .ref 1077264, .ref 2125840]), (48, iT 1)] [(20512, .box [iT (sfC a b), .ref 1069080, .ref 2117656]), gEs 1069080 (sqA a b), gEs 2117656 (sqB a b), (28696, .box [iT (sfC a b), .ref 1077264, .ref 2125840]), gEs 1077264 (sqA a b), gEs 2125840 (sqB a b)] [] hP r1 hYX rfl rfl (by rw [envOf_fr, hN]; decide) (by simp only [go_sem, hP, ↓reduceIte, Nat.reduceAdd, Nat.reduceMul, Nat.reduceEqDiff, Nat.reduceSub, Nat.reduceLeDiff, reduceCtorEq, List.cons_append, List.nil_append]) rfl rfl (by simp only [go_sem, hP, ↓reduceIte, Nat.reduceAdd, Nat.reduceMul, Nat.reduceEqDiff, Nat.reduceSub, Nat.reduceLeDiff, reduceCtorEq, List.cons_append, List.nil_append] <;> simp) (by simp only [go_sem, hP, ↓reduceIte, Nat.reduceAdd, Nat.reduceMul, Nat.reduceEqDiff, Nat.reduceSub, Nat.reduceLeDiff, reduceCtorEq] <;> simp) ?_
  simp only [go_sem, hP, ↓reduceIte, Nat.reduceAdd, Nat.reduceMul, Nat.reduceEqDiff, Nat.reduceSub, Nat.reduceLeDiff, reduceCtorEq, List.cons_append, List.nil_append]
  repeat' (first
    | exact True.intro
    | refine ev_seq ?_
    | ((first | refine vgd_go ?_ | refine ev_region hE hM (hS (by decide +kernel)) ?_ | refine ev_if ?_ | refine end_ret hE rfl rfl ?_ | refine end_norm hE rfl rfl ?_ | refine endG_ret [] hE rfl ?_ | refine endG_norm [] hE rfl ?_ | refine vcallB_of hP (s_toEntryS a (by simp only [lessN] at *; omega)) ?_ | refine vcallB_of hP (s_implSplitQuad a b) ?_ | refine vcallB_of hP (s_eqPartsResult _ _ _ _ _ _) ?_ | refine vcallB_of hP r2 ?_ | refine vcall_A ?_); simp (maxSteps := 2000000) only [go_sem, hP, ↓reduceIte, Nat.reduceAdd, Nat.reduceMul, Nat.reduceEqDiff, Nat.reduceSub, Nat.reduceLeDiff, reduceCtorEq, List.cons_append, List.nil_append])
    | refine ev_skip ?_ | refine ev_block ?_ | refine ev_blk ?_ | refine ev_ret ?_ | refine ev_exit ?_ | refine evx_code_ret ?_ | refine evx_blk_ret ?_ | refine evx_lp_ret ?_
    | refine evx_code_exit ?_ | refine evx_lp_exit ?_ | refine evx_blk_hit ?_ | refine evx_blk_pass (by decide) ?_
    | refine And.intro ?_ ?_ | intro _ | decide +kernel | omega)
  all_goals (simp_all; done)
theorem all_SplitQuad (gs : List Arg) (h : shpA Try.prog 12 [43, 2] gs) : Sat Try.prog 6 gs true (rB true) := by
  obtain ⟨x0, gs, rfl, h0, x1, gs, rfl, h1, rfl⟩ := h
  obtain ⟨a, rfl⟩ := shp_EntryS (n := 7) rfl h0
  obtain ⟨b, rfl, _⟩ := shp_i64 (n := 11) rfl h1
  exact l_SplitQuad a b
end Go.Proofs.Ytmpndkhnajogkaa.W
