/- Contracts of functions that FnSplits reaches: what each returns; it writes to nothing of old. No condition but those that each theorem states. -/
import Derived.Test.YtegohioalgikjaaGreatQa2
open Go Go.Vm Go.Proofs Go.IntWalk Go.RowKit
set_option maxRecDepth 100000
set_option maxHeartbeats 4000000
set_option linter.unusedSimpArgs false
set_option linter.unusedVariables false
set_option linter.unusedSectionVars false
namespace Go.Proofs.YtegohioalgikjaaGreat.W
attribute [local irreducible] kJ ev evx vops vstep vgo vgd vget vcall vcallFn vcallA vcallB vts vres vcond vbin
theorem s_l5Axis (xs : List Entry) (d : Int) (hz : esf xs d = 0) (h4 : 4 ≤ xs.length) : Sat Tryz.prog 80 [aEntryS xs, aI d] true (rI (bA xs d.toNat)) := by
  refine sat_walk (fn := Tryz.f80) rfl rfl rfl (Nat.le_of_ble_eq_true rfl) fun fr hP hN hbnd => ?_
  have hE : (envOf fr Tryz.prog).Ok := envOf_ok hP
  have hM := follows_of hP
  have hS : ∀ {draw ops}, statB Tryz.f80.ntmps draw ops = true → statB (envOf fr Tryz.prog).fr.N draw ops = true := fun h => by rw [envOf_fr, hN]; exact h
  have hz1 := esf_len hz
  have hrf := esf_rf hz
  have hev := rf_even hrf
  repeat' (first
    | exact True.intro
    | refine ev_seq ?_
    | ((first | refine vgd_go ?_ | refine ev_region hE hM (hS (by decide +kernel)) ?_ | refine ev_if ?_ | refine end_ret hE rfl rfl ?_ | refine end_norm hE rfl rfl ?_ | refine endG_ret [] hE rfl ?_ | refine endG_norm [] hE rfl ?_ | refine vcall_A ?_); simp (maxSteps := 2000000) only [go_sem, hP, ↓reduceIte, Nat.reduceAdd, Nat.reduceMul, Nat.reduceEqDiff, Nat.reduceSub, Nat.reduceLeDiff, reduceCtorEq])
    | refine ev_skip ?_ | refine ev_block ?_ | refine ev_blk ?_ | refine ev_ret ?_ | refine ev_exit ?_ | refine evx_code_ret ?_ | refine evx_blk_ret ?_ | refine evx_lp_ret ?_
    | refine evx_code_exit ?_ | refine evx_lp_exit ?_ | refine evx_blk_hit ?_ | refine evx_blk_pass (by decide) ?_
    | refine And.intro ?_ ?_ | intro _ | decide +kernel | omega)
  refine ev_loop (ι := Nat) (fun a => [(0, .c (sEntryS xs)), (1, iT d), (5, iT (bA xs a)), (6, iT (if a = 0 then -1 else mgF xs (bA xs a))), (7, iT a)]) (fun _ => []) (fun _ => []) (fun a => (a : Int) ≤ d) (fun a => d.toNat - a) 0 [] (by omega) (by simp only [go_sem, hP, ↓reduceIte, Nat.reduceAdd, Nat.reduceMul, Nat.reduceEqDiff, Nat.reduceSub, Nat.reduceLeDiff, reduceCtorEq]; simp [bA]) ?_
  intro a ha
  by_cases hlt : (a : Int) < d
  · have hw1 : IntKind.i64.wrap ((a : Int) + 1) = a + 1 := i64_in _ (by omega)
    have hw2 : IntKind.i64.wrap ((xs.length : Int) - 2) = xs.length - 2 := i64_in _ (by omega)
    have dl : decide ((a : Int) < d) = true := by simp only [decide_eq_true_eq]; exact hlt
    have c1 := s_l5Sort xs a d.toNat hev (by omega) (by omega) (by omega)
    have hyr := sortE_rf a hrf
    have hye := rf_even hyr
    have hyl := sortE_len a xs
    have hF : mgF xs a = mgTo (sortE a xs) (xs.length - 3) := rfl
    have hf1 := mgF_in hrf h4 a
    have hf2 := mgF_in hrf h4 (bA xs a)
    generalize sortE a xs = ys at *
    repeat' (first
      | exact True.intro
      | refine ev_seq ?_
      | ((first | refine vgd_go ?_ | refine ev_region hE hM (hS (by decide +kernel)) ?_ | refine ev_if ?_ | refine end_ret hE rfl rfl ?_ | refine end_norm hE rfl rfl ?_ | refine endG_ret [] hE rfl ?_ | refine endG_norm [] hE rfl ?_ | refine vcallB_of hP c1 ?_ | refine vcall_A ?_); simp (maxSteps := 2000000) only [go_sem, hP, ↓reduceIte, Nat.reduceAdd, Nat.reduceMul, Nat.reduceEqDiff, Nat.reduceSub, Nat.reduceLeDiff, reduceCtorEq, dl])
      | refine ev_skip ?_ | refine ev_block ?_ | refine ev_blk ?_ | refine ev_ret ?_ | refine ev_exit ?_ | refine evx_code_ret ?_ | refine evx_blk_ret ?_ | refine evx_lp_ret ?_
      | refine evx_code_exit ?_ | refine evx_lp_exit ?_ | refine evx_blk_hit ?_ | refine evx_blk_pass (by decide) ?_
      | refine And.intro ?_ ?_ | intro _ | decide +kernel | omega)
    refine ev_loop (ι := Nat) (fun k => [(0, .c (sEntryS xs)), (1, iT d), (5, iT (bA xs a)), (6, iT (if a = 0 then -1 else mgF xs (bA xs a))), (7, iT a), (8, .c (sEntryS ys)), (9, iT (mgTo ys k)), (10, iT (k + 2 : Nat))]) (fun _ => []) (fun _ => []) (fun k => k + 3 ≤ xs.length) (fun k => xs.length - k) 0 [] (by omega) (by simp only [go_sem, hP, ↓reduceIte, Nat.reduceAdd, Nat.reduceMul, Nat.reduceEqDiff, Nat.reduceSub, Nat.reduceLeDiff, reduceCtorEq]; simp [mgTo]) ?_
    intro k hk
    by_cases hk4 : k + 4 ≤ xs.length
    · obtain ⟨r1, r2, m1, m2, m3, m4⟩ := mg_step (k := k) hyr (by omega)
      have mi := mgTo_in hyr k (by omega)
      have dk : decide (((k + 2 : Nat) : Int) ≤ (xs.length : Int) - 2) = true := by simp only [decide_eq_true_eq]; omega
      have hw3 : IntKind.i64.wrap (((k + 2 : Nat) : Int) + 1) = (k + 1 + 2 : Nat) := by rw [i64_in _ (by omega)]; omega
      have l1 := rf_len r1
      have l2 := rf_len r2
      have b1 := s_l3Box (ys.take (k + 2)) d.toNat (even_take hye) (by simp; omega) (by omega)
      have b2 := s_l3Box (ys.drop (k + 2)) d.toNat (even_drop hye) (by simp; omega) (by omega)
      have g1 := s_l1Margin (bx (ys.take (k + 2))) (by omega)
      have g2 := s_l1Margin (bx (ys.drop (k + 2))) (by omega)
      have w1 : IntKind.i64.wrap (mgTo ys k + margin (bx (ys.take (k + 2)))) = mgTo ys k + margin (bx (ys.take (k + 2))) := i64_in _ (by omega)
      have w2 : IntKind.i64.wrap (mgTo ys k + margin (bx (ys.take (k + 2))) + margin (bx (ys.drop (k + 2)))) = mgTo ys (k + 1) := by rw [i64_in _ (by omega)]; simp only [mgTo]; omega
      have t1 : List.take (k + 2 - Int.toNat 0) (List.drop (Int.toNat 0) (ys.map eEntry)) = (ys.take (k + 2)).map eEntry := by rw [show Int.toNat 0 = 0 from rfl, Nat.sub_zero, List.drop_zero, List.map_take]
      have t2 : List.take (ys.length - (k + 2)) (List.drop (k + 2) (ys.map eEntry)) = (ys.drop (k + 2)).map eEntry := by rw [← List.map_drop, List.take_of_length_le (by simp)]
      generalize bx (ys.take (k + 2)) = p1 at *
      generalize bx (ys.drop (k + 2)) = p2 at *
      repeat' (first
        | exact True.intro
        | refine ev_seq ?_
        | ((first | refine vgd_go ?_ | refine ev_region hE hM (hS (by decide +kernel)) ?_ | refine ev_if ?_ | refine end_ret hE rfl rfl ?_ | refine end_norm hE rfl rfl ?_ | refine endG_ret [] hE rfl ?_ | refine endG_norm [] hE rfl ?_ | refine vcallB_of hP b1 ?_ | refine vcallB_of hP b2 ?_ | refine vcallB_of hP g1 ?_ | refine vcallB_of hP g2 ?_ | refine vcall_A ?_); simp (maxSteps := 2000000) only [go_sem, hP, ↓reduceIte, Nat.reduceAdd, Nat.reduceMul, Nat.reduceEqDiff, Nat.reduceSub, Nat.reduceLeDiff, reduceCtorEq, hw2, dk, w1, w2, t1, t2, List.length_map])
        | refine ev_skip ?_ | refine ev_block ?_ | refine ev_blk ?_ | refine ev_ret ?_ | refine ev_exit ?_ | refine evx_code_ret ?_ | refine evx_blk_ret ?_ | refine evx_lp_ret ?_
        | refine evx_code_exit ?_ | refine evx_lp_exit ?_ | refine evx_blk_hit ?_ | refine evx_blk_pass (by decide) ?_
        | refine And.intro ?_ ?_ | intro _ | decide +kernel | omega)
      all_goals first
        | exact ev_lp (k + 1) [] (by omega) (by omega) (by simp only [go_sem, hP, ↓reduceIte, Nat.reduceAdd, Nat.reduceMul, Nat.reduceEqDiff, Nat.reduceSub, Nat.reduceLeDiff, reduceCtorEq]; exact hw3)
        | (exfalso; omega)
        | omega
        | (simp_all; done)
        | trace_state
    · obtain rfl : k = xs.length - 3 := by omega
      have dk : decide (((xs.length - 3 + 2 : Nat) : Int) ≤ (xs.length : Int) - 2) = false := by simp only [decide_eq_false_iff_not]; omega
      rw [← hF]
      by_cases h0 : a = 0
      · subst h0
        repeat' (first
          | exact True.intro
          | refine ev_seq ?_
          | ((first | refine vgd_go ?_ | refine ev_region hE hM (hS (by decide +kernel)) ?_ | refine ev_if ?_ | refine end_ret hE rfl rfl ?_ | refine end_norm hE rfl rfl ?_ | refine endG_ret [] hE rfl ?_ | refine endG_norm [] hE rfl ?_ | refine vcall_A ?_); simp (maxSteps := 2000000) only [go_sem, hP, ↓reduceIte, Nat.reduceAdd, Nat.reduceMul, Nat.reduceEqDiff, Nat.reduceSub, Nat.reduceLeDiff, reduceCtorEq, hw2, dk, List.length_map])
          | refine ev_skip ?_ | refine ev_block ?_ | refine ev_blk ?_ | refine ev_ret ?_ | refine ev_exit ?_ | refine evx_code_ret ?_ | refine evx_blk_ret ?_ | refine evx_lp_ret ?_
          | refine evx_code_exit ?_ | refine evx_lp_exit ?_ | refine evx_blk_hit ?_ | refine evx_blk_pass (by decide) ?_
          | refine And.intro ?_ ?_ | intro _ | decide +kernel | omega)
        all_goals first
          | exact ev_lp 1 [] (by omega) (by omega) (by simp only [go_sem, hP, ↓reduceIte, Nat.reduceAdd, Nat.reduceMul, Nat.reduceEqDiff, Nat.reduceSub, Nat.reduceLeDiff, reduceCtorEq]; simp [hw1, bA, show IntKind.i64.wrap 1 = 1 from rfl])
          | (exfalso; omega)
          | omega
          | (simp_all; done)
          | trace_state
      · have d0 : decide (mgF xs (bA xs a) < 0) = false := by simp only [decide_eq_false_iff_not]; omega
        by_cases hc : mgF xs a < mgF xs (bA xs a)
        · have d1 := decide_eq_true hc
          have e : bA xs (a + 1) = a := by show (if a = 0 then 0 else if mgF xs a < mgF xs (bA xs a) then a else bA xs a) = a; rw [if_neg h0, if_pos hc]
          repeat' (first
            | exact True.intro
            | refine ev_seq ?_
            | ((first | refine vgd_go ?_ | refine ev_region hE hM (hS (by decide +kernel)) ?_ | refine ev_if ?_ | refine end_ret hE rfl rfl ?_ | refine end_norm hE rfl rfl ?_ | refine endG_ret [] hE rfl ?_ | refine endG_norm [] hE rfl ?_ | refine vcall_A ?_); simp (maxSteps := 2000000) only [go_sem, hP, ↓reduceIte, Nat.reduceAdd, Nat.reduceMul, Nat.reduceEqDiff, Nat.reduceSub, Nat.reduceLeDiff, reduceCtorEq, hw2, dk, d0, d1, h0, List.length_map])
            | refine ev_skip ?_ | refine ev_block ?_ | refine ev_blk ?_ | refine ev_ret ?_ | refine ev_exit ?_ | refine evx_code_ret ?_ | refine evx_blk_ret ?_ | refine evx_lp_ret ?_
            | refine evx_code_exit ?_ | refine evx_lp_exit ?_ | refine evx_blk_hit ?_ | refine evx_blk_pass (by decide) ?_
            | refine And.intro ?_ ?_ | intro _ | decide +kernel | omega)
          all_goals first
            | exact ev_lp (a + 1) [] (by omega) (by omega) (by simp only [go_sem, hP, ↓reduceIte, Nat.reduceAdd, Nat.reduceMul, Nat.reduceEqDiff, Nat.reduceSub, Nat.reduceLeDiff, reduceCtorEq]; simp [hw1, e])
            | (exfalso; omega)
            | omega
            | (simp_all; done)
            | trace_state
        · have d1 := decide_eq_false hc
          have e : bA xs (a + 1) = bA xs a := by show (if a = 0 then 0 else if mgF xs a < mgF xs (bA xs a) then a else bA xs a) = _; rw [if_neg h0, if_neg hc]
          repeat' (first
            | exact True.intro
            | refine ev_seq ?_
            | ((first | refine vgd_go ?_ | refine ev_region hE hM (hS (by decide +kernel)) ?_ | refine ev_if ?_ | refine end_ret hE rfl rfl ?_ | refine end_norm hE rfl rfl ?_ | refine endG_ret [] hE rfl ?_ | refine endG_norm [] hE rfl ?_ | refine vcall_A ?_); simp (maxSteps := 2000000) only [go_sem, hP, ↓reduceIte, Nat.reduceAdd, Nat.reduceMul, Nat.reduceEqDiff, Nat.reduceSub, Nat.reduceLeDiff, reduceCtorEq, hw2, dk, d0, d1, h0, List.length_map])
            | refine ev_skip ?_ | refine ev_block ?_ | refine ev_blk ?_ | refine ev_ret ?_ | refine ev_exit ?_ | refine evx_code_ret ?_ | refine evx_blk_ret ?_ | refine evx_lp_ret ?_
            | refine evx_code_exit ?_ | refine evx_lp_exit ?_ | refine evx_blk_hit ?_ | refine evx_blk_pass (by decide) ?_
            | refine And.intro ?_ ?_ | intro _ | decide +kernel | omega)
          all_goals first
            | exact ev_lp (a + 1) [] (by omega) (by omega) (by simp only [go_sem, hP, ↓reduceIte, Nat.reduceAdd, Nat.reduceMul, Nat.reduceEqDiff, Nat.reduceSub, Nat.reduceLeDiff, reduceCtorEq]; simp [hw1, e, h0])
            | (exfalso; omega)
            | omega
            | (simp_all; done)
            | trace_state
  · have hae : (a : Int) = d := by omega
    have dl : decide ((a : Int) < d) = false := by simp only [decide_eq_false_iff_not]; exact hlt
    have he : d.toNat = a := by omega
    rw [he]
    repeat' (first
      | exact True.intro
      | refine ev_seq ?_
      | ((first | refine vgd_go ?_ | refine ev_region hE hM (hS (by decide +kernel)) ?_ | refine ev_if ?_ | refine end_ret hE rfl rfl ?_ | refine end_norm hE rfl rfl ?_ | refine endG_ret [] hE rfl ?_ | refine endG_norm [] hE rfl ?_ | refine vcall_A ?_); simp (maxSteps := 2000000) only [go_sem, hP, ↓reduceIte, Nat.reduceAdd, Nat.reduceMul, Nat.reduceEqDiff, Nat.reduceSub, Nat.reduceLeDiff, reduceCtorEq, dl])
      | refine ev_skip ?_ | refine ev_block ?_ | refine ev_blk ?_ | refine ev_ret ?_ | refine ev_exit ?_ | refine evx_code_ret ?_ | refine evx_blk_ret ?_ | refine evx_lp_ret ?_
      | refine evx_code_exit ?_ | refine evx_lp_exit ?_ | refine evx_blk_hit ?_ | refine evx_blk_pass (by decide) ?_
      | refine And.intro ?_ ?_ | intro _ | decide +kernel | omega)
    all_goals first | rfl | (exfalso; omega) | (simp_all; done) | trace_state
theorem s_bestAxis (xs : List Entry) (d : Int) (hz : esf xs d = 0) (h4 : 4 ≤ xs.length) : Sat Tryz.prog 44 [aEntryS xs] true (rI (bA xs d.toNat)) := by
  refine sat_walk (fn := Tryz.f44) rfl rfl rfl (Nat.le_of_ble_eq_true rfl) fun fr hP hN hbnd => ?_
  have hE : (envOf fr Tryz.prog).Ok := envOf_ok hP
  have hM := follows_of hP
  have hS : ∀ {draw ops}, statB Tryz.f44.ntmps draw ops = true → statB (envOf fr Tryz.prog).fr.N draw ops = true := fun h => by rw [envOf_fr, hN]; exact h
  have hz1 := esf_len hz
  have hrf := esf_rf hz
  have hev := rf_even hrf
  have e0 := (rf_len (hrf _ (getD_mem (d := default) (show 0 < xs.length by omega)))).1
  have k0 := s_ownDims (xs.getD 0 default).rect
  rw [e0] at k0
  repeat' (first
    | exact True.intro
    | refine ev_seq ?_
    | ((first | refine vgd_go ?_ | refine ev_region hE hM (hS (by decide +kernel)) ?_ | refine ev_if ?_ | refine end_ret hE rfl rfl ?_ | refine end_norm hE rfl rfl ?_ | refine endG_ret [] hE rfl ?_ | refine endG_norm [] hE rfl ?_ | refine vcallB_of hP k0 ?_ | refine vcall_A ?_); simp (maxSteps := 2000000) only [go_sem, hP, ↓reduceIte, Nat.reduceAdd, Nat.reduceMul, Nat.reduceEqDiff, Nat.reduceSub, Nat.reduceLeDiff, reduceCtorEq, List.length_map])
    | refine ev_skip ?_ | refine ev_block ?_ | refine ev_blk ?_ | refine ev_ret ?_ | refine ev_exit ?_ | refine evx_code_ret ?_ | refine evx_blk_ret ?_ | refine evx_lp_ret ?_
    | refine evx_code_exit ?_ | refine evx_lp_exit ?_ | refine evx_blk_hit ?_ | refine evx_blk_pass (by decide) ?_
    | refine And.intro ?_ ?_ | intro _ | decide +kernel | omega)
  all_goals first | (exfalso; omega) | omega | skip
  refine ev_loop (ι := Nat) (fun a => [(0, .c (sEntryS xs)), (3, iT (if a = 0 then -1 else (bA xs a : Int))), (4, iT (if a = 0 then 0 else mgF xs (bA xs a))), (13, iT d), (14, iT a)]) (fun _ => []) (fun _ => []) (fun a => (a : Int) ≤ d) (fun a => d.toNat - a) 0 [] (by omega) (by simp only [go_sem, hP, ↓reduceIte, Nat.reduceAdd, Nat.reduceMul, Nat.reduceEqDiff, Nat.reduceSub, Nat.reduceLeDiff, reduceCtorEq]; simp) ?_
  intro a ha
  by_cases hlt : (a : Int) < d
  · have hw1 : IntKind.i64.wrap ((a : Int) + 1) = a + 1 := i64_in _ (by omega)
    have hw2 : IntKind.i64.wrap ((xs.length : Int) - 2) = xs.length - 2 := i64_in _ (by omega)
    have dl : decide ((a : Int) < d) = true := by simp only [decide_eq_true_eq]; exact hlt
    have c1 := s_sorted xs a d.toNat hev (by omega) (by omega) (by omega)
    have hyr := sortE_rf a hrf
    have hye := rf_even hyr
    have hyl := sortE_len a xs
    have hF : mgF xs a = mgTo (sortE a xs) (xs.length - 3) := rfl
    have hf1 := mgF_in hrf h4 a
    have hf2 := mgF_in hrf h4 (bA xs a)
    generalize sortE a xs = ys at *
    repeat' (first
      | exact True.intro
      | refine ev_seq ?_
      | ((first | refine vgd_go ?_ | refine ev_region hE hM (hS (by decide +kernel)) ?_ | refine ev_if ?_ | refine end_ret hE rfl rfl ?_ | refine end_norm hE rfl rfl ?_ | refine endG_ret [] hE rfl ?_ | refine endG_norm [] hE rfl ?_ | refine vcallB_of hP c1 ?_ | refine vcall_A ?_); simp (maxSteps := 2000000) only [go_sem, hP, ↓reduceIte, Nat.reduceAdd, Nat.reduceMul, Nat.reduceEqDiff, Nat.reduceSub, Nat.reduceLeDiff, reduceCtorEq, dl])
      | refine ev_skip ?_ | refine ev_block ?_ | refine ev_blk ?_ | refine ev_ret ?_ | refine ev_exit ?_ | refine evx_code_ret ?_ | refine evx_blk_ret ?_ | refine evx_lp_ret ?_
      | refine evx_code_exit ?_ | refine evx_lp_exit ?_ | refine evx_blk_hit ?_ | refine evx_blk_pass (by decide) ?_
      | refine And.intro ?_ ?_ | intro _ | decide +kernel | omega)
    refine ev_loop (ι := Nat) (fun k => [(0, .c (sEntryS xs)), (3, iT (if a = 0 then -1 else (bA xs a : Int))), (4, iT (if a = 0 then 0 else mgF xs (bA xs a))), (13, iT d), (14, iT a), (5, iT a), (6, .ref 100000), (7, iT (mgTo ys k)), (8, iT (k + 2 : Nat))]) (fun _ => [(100000, .fro 4 (ys.map eEntry))]) (fun _ => []) (fun k => k + 3 ≤ xs.length) (fun k => xs.length - k) 0 [(100000, some 20496)] (by omega) (by simp only [go_sem, hP, ↓reduceIte, Nat.reduceAdd, Nat.reduceMul, Nat.reduceEqDiff, Nat.reduceSub, Nat.reduceLeDiff, reduceCtorEq]; simp [mgTo]) ?_
    intro k hk
    by_cases hk4 : k + 4 ≤ xs.length
    · obtain ⟨r1, r2, m1, m2, m3, m4⟩ := mg_step (k := k) hyr (by omega)
      have mi := mgTo_in hyr k (by omega)
      have dk : decide (((k + 2 : Nat) : Int) ≤ (xs.length : Int) - 2) = true := by simp only [decide_eq_true_eq]; omega
      have hw3 : IntKind.i64.wrap (((k + 2 : Nat) : Int) + 1) = (k + 1 + 2 : Nat) := by rw [i64_in _ (by omega)]; omega
      have l1 := rf_len r1
      have l2 := rf_len r2
      have b1 := s_box (ys.take (k + 2)) d.toNat (even_take hye) (by simp; omega) (by omega)
      have b2 := s_box (ys.drop (k + 2)) d.toNat (even_drop hye) (by simp; omega) (by omega)
      have g1 := s_implmargin (bx (ys.take (k + 2))) (by omega)
      have g2 := s_implmargin (bx (ys.drop (k + 2))) (by omega)
      have w1 : IntKind.i64.wrap (margin (bx (ys.take (k + 2))) + margin (bx (ys.drop (k + 2)))) = margin (bx (ys.take (k + 2))) + margin (bx (ys.drop (k + 2))) := i64_in _ (by omega)
      have w2 : IntKind.i64.wrap (mgTo ys k + (margin (bx (ys.take (k + 2))) + margin (bx (ys.drop (k + 2))))) = mgTo ys (k + 1) := by rw [i64_in _ (by omega)]; simp only [mgTo]
      have t1 : List.take (k + 2 - Int.toNat 0) (List.drop (Int.toNat 0) (ys.map eEntry)) = (ys.take (k + 2)).map eEntry := by rw [show Int.toNat 0 = 0 from rfl, Nat.sub_zero, List.drop_zero, List.map_take]
      have t2 : List.take (ys.length - (k + 2)) (List.drop (k + 2) (ys.map eEntry)) = (ys.drop (k + 2)).map eEntry := by rw [← List.map_drop, List.take_of_length_le (by simp)]
      generalize bx (ys.take (k + 2)) = p1 at *
      generalize bx (ys.drop (k + 2)) = p2 at *
      repeat' (first
        | exact True.intro
        | refine ev_seq ?_
        | ((first | refine vgd_go ?_ | refine ev_region hE hM (hS (by decide +kernel)) ?_ | refine ev_if ?_ | refine end_ret hE rfl rfl ?_ | refine end_norm hE rfl rfl ?_ | refine endG_ret [] hE rfl ?_ | refine endG_norm [] hE rfl ?_ | refine vcallB_of hP b1 ?_ | refine vcallB_of hP b2 ?_ | refine vcallB_of hP g1 ?_ | refine vcallB_of hP g2 ?_ | refine vcall_A ?_); simp (maxSteps := 2000000) only [go_sem, hP, ↓reduceIte, Nat.reduceAdd, Nat.reduceMul, Nat.reduceEqDiff, Nat.reduceSub, Nat.reduceLeDiff, reduceCtorEq, hw2, dk, w1, w2, t1, t2, List.length_map])
        | refine ev_skip ?_ | refine ev_block ?_ | refine ev_blk ?_ | refine ev_ret ?_ | refine ev_exit ?_ | refine evx_code_ret ?_ | refine evx_blk_ret ?_ | refine evx_lp_ret ?_
        | refine evx_code_exit ?_ | refine evx_lp_exit ?_ | refine evx_blk_hit ?_ | refine evx_blk_pass (by decide) ?_
        | refine And.intro ?_ ?_ | intro _ | decide +kernel | omega)
      all_goals first
        | exact ev_lp (k + 1) [] (by omega) (by omega) (by simp only [go_sem, hP, ↓reduceIte, Nat.reduceAdd, Nat.reduceMul, Nat.reduceEqDiff, Nat.reduceSub, Nat.reduceLeDiff, reduceCtorEq]; exact hw3)
        | (exfalso; omega)
        | omega
        | (simp_all; done)
        | trace_state
    · obtain rfl : k = xs.length - 3 := by omega
      have dk : decide (((xs.length - 3 + 2 : Nat) : Int) ≤ (xs.length : Int) - 2) = false := by simp only [decide_eq_false_iff_not]; omega
      rw [← hF]
      by_cases h0 : a = 0
      · subst h0
        repeat' (first
          | exact True.intro
          | refine ev_seq ?_
          | ((first | refine vgd_go ?_ | refine ev_region hE hM (hS (by decide +kernel)) ?_ | refine ev_if ?_ | refine end_ret hE rfl rfl ?_ | refine end_norm hE rfl rfl ?_ | refine endG_ret [] hE rfl ?_ | refine endG_norm [] hE rfl ?_ | refine vcall_A ?_); simp (maxSteps := 2000000) only [go_sem, hP, ↓reduceIte, Nat.reduceAdd, Nat.reduceMul, Nat.reduceEqDiff, Nat.reduceSub, Nat.reduceLeDiff, reduceCtorEq, hw2, dk, List.length_map])
          | refine ev_skip ?_ | refine ev_block ?_ | refine ev_blk ?_ | refine ev_ret ?_ | refine ev_exit ?_ | refine evx_code_ret ?_ | refine evx_blk_ret ?_ | refine evx_lp_ret ?_
          | refine evx_code_exit ?_ | refine evx_lp_exit ?_ | refine evx_blk_hit ?_ | refine evx_blk_pass (by decide) ?_
          | refine And.intro ?_ ?_ | intro _ | decide +kernel | omega)
        all_goals first
          | exact ev_lp 1 [] (by omega) (by omega) (by simp only [go_sem, hP, ↓reduceIte, Nat.reduceAdd, Nat.reduceMul, Nat.reduceEqDiff, Nat.reduceSub, Nat.reduceLeDiff, reduceCtorEq]; simp [hw1, bA, show IntKind.i64.wrap 1 = 1 from rfl])
          | (exfalso; omega)
          | omega
          | (simp_all; done)
          | trace_state
      · have d0 : decide ((bA xs a : Int) < 0) = false := by simp only [decide_eq_false_iff_not]; omega
        by_cases hc : mgF xs a < mgF xs (bA xs a)
        · have d1 := decide_eq_true hc
          have e : bA xs (a + 1) = a := by show (if a = 0 then 0 else if mgF xs a < mgF xs (bA xs a) then a else bA xs a) = a; rw [if_neg h0, if_pos hc]
          repeat' (first
            | exact True.intro
            | refine ev_seq ?_
            | ((first | refine vgd_go ?_ | refine ev_region hE hM (hS (by decide +kernel)) ?_ | refine ev_if ?_ | refine end_ret hE rfl rfl ?_ | refine end_norm hE rfl rfl ?_ | refine endG_ret [] hE rfl ?_ | refine endG_norm [] hE rfl ?_ | refine vcall_A ?_); simp (maxSteps := 2000000) only [go_sem, hP, ↓reduceIte, Nat.reduceAdd, Nat.reduceMul, Nat.reduceEqDiff, Nat.reduceSub, Nat.reduceLeDiff, reduceCtorEq, hw2, dk, d0, d1, h0, List.length_map])
            | refine ev_skip ?_ | refine ev_block ?_ | refine ev_blk ?_ | refine ev_ret ?_ | refine ev_exit ?_ | refine evx_code_ret ?_ | refine evx_blk_ret ?_ | refine evx_lp_ret ?_
            | refine evx_code_exit ?_ | refine evx_lp_exit ?_ | refine evx_blk_hit ?_ | refine evx_blk_pass (by decide) ?_
            | refine And.intro ?_ ?_ | intro _ | decide +kernel | omega)
          all_goals first
            | exact ev_lp (a + 1) [] (by omega) (by omega) (by simp only [go_sem, hP, ↓reduceIte, Nat.reduceAdd, Nat.reduceMul, Nat.reduceEqDiff, Nat.reduceSub, Nat.reduceLeDiff, reduceCtorEq]; simp [hw1, e])
            | (exfalso; omega)
            | omega
            | (simp_all; done)
            | trace_state
        · have d1 := decide_eq_false hc
          have e : bA xs (a + 1) = bA xs a := by show (if a = 0 then 0 else if mgF xs a < mgF xs (bA xs a) then a else bA xs a) = _; rw [if_neg h0, if_neg hc]
          repeat' (first
            | exact True.intro
            | refine ev_seq ?_
            | ((first | refine vgd_go ?_ | refine ev_region hE hM (hS (by decide +kernel)) ?_ | refine ev_if ?_ | refine end_ret hE rfl rfl ?_ | refine end_norm hE rfl rfl ?_ | refine endG_ret [] hE rfl ?_ | refine endG_norm [] hE rfl ?_ | refine vcall_A ?_); simp (maxSteps := 2000000) only [go_sem, hP, ↓reduceIte, Nat.reduceAdd, Nat.reduceMul, Nat.reduceEqDiff, Nat.reduceSub, Nat.reduceLeDiff, reduceCtorEq, hw2, dk, d0, d1, h0, List.length_map])
            | refine ev_skip ?_ | refine ev_block ?_ | refine ev_blk ?_ | refine ev_ret ?_ | refine ev_exit ?_ | refine evx_code_ret ?_ | refine evx_blk_ret ?_ | refine evx_lp_ret ?_
            | refine evx_code_exit ?_ | refine evx_lp_exit ?_ | refine evx_blk_hit ?_ | refine evx_blk_pass (by decide) ?_
            | refine And.intro ?_ ?_ | intro _ | decide +kernel | omega)
          all_goals first
            | exact ev_lp (a + 1) [] (by omega) (by omega) (by simp only [go_sem, hP, ↓reduceIte, Nat.reduceAdd, Nat.reduceMul, Nat.reduceEqDiff, Nat.reduceSub, Nat.reduceLeDiff, reduceCtorEq]; simp [hw1, e, h0])
            | (exfalso; omega)
            | omega
            | (simp_all; done)
            | trace_state
  · have hae : (a : Int) = d := by omega
    have dl : decide ((a : Int) < d) = false := by simp only [decide_eq_false_iff_not]; exact hlt
    have he : d.toNat = a := by omega
    have h0 : ¬ a = 0 := by omega
    rw [he]
    repeat' (first
      | exact True.intro
      | refine ev_seq ?_
      | ((first | refine vgd_go ?_ | refine ev_region hE hM (hS (by decide +kernel)) ?_ | refine ev_if ?_ | refine end_ret hE rfl rfl ?_ | refine end_norm hE rfl rfl ?_ | refine endG_ret [] hE rfl ?_ | refine endG_norm [] hE rfl ?_ | refine vcall_A ?_); simp (maxSteps := 2000000) only [go_sem, hP, ↓reduceIte, Nat.reduceAdd, Nat.reduceMul, Nat.reduceEqDiff, Nat.reduceSub, Nat.reduceLeDiff, reduceCtorEq, dl, h0])
      | refine ev_skip ?_ | refine ev_block ?_ | refine ev_blk ?_ | refine ev_ret ?_ | refine ev_exit ?_ | refine evx_code_ret ?_ | refine evx_blk_ret ?_ | refine evx_lp_ret ?_
      | refine evx_code_exit ?_ | refine evx_lp_exit ?_ | refine evx_blk_hit ?_ | refine evx_blk_pass (by decide) ?_
      | refine And.intro ?_ ?_ | intro _ | decide +kernel | omega)
    all_goals first | rfl | (exfalso; omega) | (simp_all; done) | trace_state
/-- The entries of a side. -/
def selTo (xs : List Entry) (ins : List Int) (s : Int) : Nat → List Entry
  | 0 => []
  | k + 1 => if ins.getD k default = s then selTo xs ins s k ++ [xs.getD k default] else selTo xs ins s k
def selE (xs : List Entry) (ins : List Int) (s : Int) : List Entry := selTo xs ins s xs.length
theorem selTo_len (xs : List Entry) (ins : List Int) (s : Int) : ∀ k, (selTo xs ins s k).length ≤ k
  | 0 => by simp [selTo]
  | k + 1 => by
    have := selTo_len xs ins s k
    unfold selTo; split <;> simp <;> omega
theorem selTo_mem {xs : List Entry} {ins : List Int} {s : Int} : ∀ {k}, k ≤ xs.length → ∀ e ∈ selTo xs ins s k, e ∈ xs
  | 0, _, e, h => by simp [selTo] at h
  | k + 1, hk, e, h => by
    unfold selTo at h
    split at h
    · rcases List.mem_append.1 h with h | h
      · exact selTo_mem (by omega) e h
      · rw [List.mem_singleton.1 h]; exact getD_mem (by omega)
    · exact selTo_mem (by omega) e h
theorem selE_mem {xs : List Entry} {ins : List Int} {s : Int} : ∀ e ∈ selE xs ins s, e ∈ xs := selTo_mem (Nat.le_refl _)
theorem selTo_yes {xs : List Entry} {ins : List Int} {s : Int} {k : Nat} (h : ins.getD k default = s) : selTo xs ins s (k + 1) = selTo xs ins s k ++ [xs.getD k default] := by simp only [selTo]; rw [if_pos h]
theorem selTo_no {xs : List Entry} {ins : List Int} {s : Int} {k : Nat} (h : ¬ ins.getD k default = s) : selTo xs ins s (k + 1) = selTo xs ins s k := by simp only [selTo]; rw [if_neg h]
@[go_sem] abbrev gIn (κ : Nat) (ins : List Int) : Nat × Blk := (κ, .arr true 3 1 (ins.map eI))
theorem s_ofG (xs : List Entry) (ins : List Int) (s : Int) (hl : ins.length = xs.length) (hb : xs.length ≤ 1000) : SatG Tryz.prog 39 false [.ptr 1 0, iT s] [(1, .box [.c (sEntryS xs), .ref 2]), gIn 2 ins] (.ref 3) [(1, .box [.c (sEntryS xs), .ref 2]), gIn 2 ins, (3, .fro 4 ((selE xs ins s).map eEntry))] := by
  refine satG_walk (fn := Tryz.f39) rfl rfl rfl (Nat.le_of_ble_eq_true rfl) (by simp) fun fr hP hN hdp hb1 hb2 => ?_
  have hE : (envOf fr Tryz.prog).Ok := envOf_ok hP
  have hM := follows_of hP
  have hS : ∀ {draw ops}, statB Tryz.f39.ntmps draw ops = true → statB (envOf fr Tryz.prog).fr.N draw ops = true := fun h => by rw [envOf_fr, hN]; exact h
  repeat' (first
    | exact True.intro
    | refine ev_seq ?_
    | ((first | refine vgd_go ?_ | refine ev_region hE hM (hS (by decide +kernel)) ?_ | refine ev_if ?_ | refine end_ret hE rfl rfl ?_ | refine end_norm hE rfl rfl ?_ | refine endG_ret [] hE rfl ?_ | refine endG_norm [] hE rfl ?_ | refine vcall_A ?_); simp (maxSteps := 2000000) only [go_sem, hP, ↓reduceIte, Nat.reduceAdd, Nat.reduceMul, Nat.reduceEqDiff, Nat.reduceSub, Nat.reduceLeDiff, reduceCtorEq, List.length_map])
    | refine ev_skip ?_ | refine ev_block ?_ | refine ev_blk ?_ | refine ev_ret ?_ | refine ev_exit ?_ | refine evx_code_ret ?_ | refine evx_blk_ret ?_ | refine evx_lp_ret ?_
    | refine evx_code_exit ?_ | refine evx_lp_exit ?_ | refine evx_blk_hit ?_ | refine evx_blk_pass (by decide) ?_
    | refine And.intro ?_ ?_ | intro _ | decide +kernel | omega)
  refine ev_loop (ι := Nat) (fun k => [(0, .ptr 1 0), (1, iT s), (5, .ref 100000), (12, .c (sEntryS xs)), (13, iT xs.length), (14, iT k)]) (fun k => [(1, .box [.c (sEntryS xs), .ref 2]), gIn 2 ins, (100000, .arr (selTo xs ins s k).isEmpty 54 4 ((selTo xs ins s k).map eEntry))]) (fun _ => [(0, .ref 1), (1, .ref 2)]) (fun k => k ≤ xs.length) (fun k => xs.length - k) 0 [(100000, some 4096)] (by omega) (by simp only [go_sem, hP, ↓reduceIte, Nat.reduceAdd, Nat.reduceMul, Nat.reduceEqDiff, Nat.reduceSub, Nat.reduceLeDiff, reduceCtorEq]; simp [selTo]) ?_
  intro k hk
  have hsl := selTo_len xs ins s k
  by_cases hlt : k < xs.length
  · have hw1 : IntKind.i64.wrap ((k : Int) + 1) = k + 1 := i64_in _ (by omega)
    have dl : decide ((k : Int) < (xs.length : Int)) = true := by simp only [decide_eq_true_eq]; omega
    have hli : k < ins.length := by omega
    by_cases hs : ins.getD k default = s
    · have hst := selTo_yes (xs := xs) hs
      have d1 : (ins.getD k default == s) = true := beq_iff_eq.2 hs
      generalize selTo xs ins s k = ys at *
      cases ys with
      | nil =>
        repeat' (first
          | exact True.intro
          | refine ev_seq ?_
          | ((first | refine vgd_go ?_ | refine ev_region hE hM (hS (by decide +kernel)) ?_ | refine ev_if ?_ | refine end_ret hE rfl rfl ?_ | refine end_norm hE rfl rfl ?_ | refine endG_ret [] hE rfl ?_ | refine endG_norm [] hE rfl ?_ | refine vcall_A ?_); simp (maxSteps := 2000000) only [go_sem, hP, ↓reduceIte, Nat.reduceAdd, Nat.reduceMul, Nat.reduceEqDiff, Nat.reduceSub, Nat.reduceLeDiff, reduceCtorEq, dl, d1, Bool.and_self, List.length_map, List.isEmpty_nil, List.map_nil, Cs.strip, C.strip, Es.strip])
          | refine ev_skip ?_ | refine ev_block ?_ | refine ev_blk ?_ | refine ev_ret ?_ | refine ev_exit ?_ | refine evx_code_ret ?_ | refine evx_blk_ret ?_ | refine evx_lp_ret ?_
          | refine evx_code_exit ?_ | refine evx_lp_exit ?_ | refine evx_blk_hit ?_ | refine evx_blk_pass (by decide) ?_
          | refine And.intro ?_ ?_ | intro _ | decide +kernel | omega)
        all_goals first
          | exact ev_lp (k + 1) [(100000, some 24600)] (by omega) (by omega) (by simp only [go_sem, hP, ↓reduceIte, Nat.reduceAdd, Nat.reduceMul, Nat.reduceEqDiff, Nat.reduceSub, Nat.reduceLeDiff, reduceCtorEq]; rw [hst]; simp [hw1, eEntry_eq, Es.strip, Bool.and_self])
          | (exfalso; omega)
          | omega
          | (simp_all; done)
          | trace_state
      | cons y ys =>
        simp only [List.length_cons] at hsl
        repeat' (first
          | exact True.intro
          | refine ev_seq ?_
          | ((first | refine vgd_go ?_ | refine ev_region hE hM (hS (by decide +kernel)) ?_ | refine ev_if ?_ | refine end_ret hE rfl rfl ?_ | refine end_norm hE rfl rfl ?_ | refine endG_ret [] hE rfl ?_ | refine endG_norm [] hE rfl ?_ | refine vcall_A ?_); simp (maxSteps := 2000000) only [go_sem, hP, ↓reduceIte, Nat.reduceAdd, Nat.reduceMul, Nat.reduceEqDiff, Nat.reduceSub, Nat.reduceLeDiff, reduceCtorEq, dl, d1, Bool.and_self, List.length_map, List.isEmpty_cons, Cs.strip, C.strip, Es.strip])
          | refine ev_skip ?_ | refine ev_block ?_ | refine ev_blk ?_ | refine ev_ret ?_ | refine ev_exit ?_ | refine evx_code_ret ?_ | refine evx_blk_ret ?_ | refine evx_lp_ret ?_
          | refine evx_code_exit ?_ | refine evx_lp_exit ?_ | refine evx_blk_hit ?_ | refine evx_blk_pass (by decide) ?_
          | refine And.intro ?_ ?_ | intro _ | decide +kernel | omega)
        all_goals first
          | exact ev_lp (k + 1) [(100000, some 24600)] (by omega) (by omega) (by simp only [go_sem, hP, ↓reduceIte, Nat.reduceAdd, Nat.reduceMul, Nat.reduceEqDiff, Nat.reduceSub, Nat.reduceLeDiff, reduceCtorEq]; rw [hst]; simp [hw1, eEntry_eq, Es.strip, Bool.and_self])
          | (exfalso; omega)
          | omega
          | (simp_all; done)
          | trace_state
    · have hst := selTo_no (xs := xs) hs
      have d1 : (ins.getD k default == s) = false := beq_eq_false_iff_ne.2 hs
      repeat' (first
        | exact True.intro
        | refine ev_seq ?_
        | ((first | refine vgd_go ?_ | refine ev_region hE hM (hS (by decide +kernel)) ?_ | refine ev_if ?_ | refine end_ret hE rfl rfl ?_ | refine end_norm hE rfl rfl ?_ | refine endG_ret [] hE rfl ?_ | refine endG_norm [] hE rfl ?_ | refine vcall_A ?_); simp (maxSteps := 2000000) only [go_sem, hP, ↓reduceIte, Nat.reduceAdd, Nat.reduceMul, Nat.reduceEqDiff, Nat.reduceSub, Nat.reduceLeDiff, reduceCtorEq, dl, d1, List.length_map, Cs.strip, C.strip, Es.strip])
        | refine ev_skip ?_ | refine ev_block ?_ | refine ev_blk ?_ | refine ev_ret ?_ | refine ev_exit ?_ | refine evx_code_ret ?_ | refine evx_blk_ret ?_ | refine evx_lp_ret ?_
        | refine evx_code_exit ?_ | refine evx_lp_exit ?_ | refine evx_blk_hit ?_ | refine evx_blk_pass (by decide) ?_
        | refine And.intro ?_ ?_ | intro _ | decide +kernel | omega)
      all_goals first
        | exact ev_lp (k + 1) [(100000, some 100000)] (by omega) (by omega) (by simp only [go_sem, hP, ↓reduceIte, Nat.reduceAdd, Nat.reduceMul, Nat.reduceEqDiff, Nat.reduceSub, Nat.reduceLeDiff, reduceCtorEq]; rw [hst]; simp [hw1])
        | (exfalso; omega)
        | omega
        | (simp_all; done)
        | trace_state
  · obtain rfl : k = xs.length := by omega
    have dl : decide ((xs.length : Int) < (xs.length : Int)) = false := by simp
    repeat' (first
      | exact True.intro
      | refine ev_seq ?_
      | ((first | refine endG_ret [(3, some 100000)] hE rfl ?_ | refine vgd_go ?_ | refine ev_region hE hM (hS (by decide +kernel)) ?_ | refine ev_if ?_ | refine end_ret hE rfl rfl ?_ | refine end_norm hE rfl rfl ?_ | refine endG_ret [] hE rfl ?_ | refine endG_norm [] hE rfl ?_ | refine vcall_A ?_); simp (maxSteps := 2000000) only [go_sem, hP, ↓reduceIte, Nat.reduceAdd, Nat.reduceMul, Nat.reduceEqDiff, Nat.reduceSub, Nat.reduceLeDiff, reduceCtorEq, dl, List.length_map])
      | refine ev_skip ?_ | refine ev_block ?_ | refine ev_blk ?_ | refine ev_ret ?_ | refine ev_exit ?_ | refine evx_code_ret ?_ | refine evx_blk_ret ?_ | refine evx_lp_ret ?_
      | refine evx_code_exit ?_ | refine evx_lp_exit ?_ | refine evx_blk_hit ?_ | refine evx_blk_pass (by decide) ?_
      | refine And.intro ?_ ?_ | intro _ | decide +kernel | omega)
    all_goals first
      | (simp only [selE, flat]; cases selTo xs ins s xs.length <;> simp [Es.strip]; done)
      | (exfalso; omega)
      | (simp_all; done)
      | trace_state
theorem s_l5Side (xs : List Entry) (ins : List Int) (s : Int) (hl : ins.length = xs.length) (hb : xs.length ≤ 1000) : Sat Tryz.prog 55 [aEntryS xs, aL ins, aI s] false [(false, [sEntryS (selE xs ins s)])] := by
  refine sat_walk (fn := Tryz.f55) rfl rfl rfl (Nat.le_of_ble_eq_true rfl) fun fr hP hN hbnd => ?_
  have hE : (envOf fr Tryz.prog).Ok := envOf_ok hP
  have hM := follows_of hP
  have hS : ∀ {draw ops}, statB Tryz.f55.ntmps draw ops = true → statB (envOf fr Tryz.prog).fr.N draw ops = true := fun h => by rw [envOf_fr, hN]; exact h
  repeat' (first
    | exact True.intro
    | refine ev_seq ?_
    | ((first | refine vgd_go ?_ | refine ev_region hE hM (hS (by decide +kernel)) ?_ | refine ev_if ?_ | refine end_ret hE rfl rfl ?_ | refine end_norm hE rfl rfl ?_ | refine endG_ret [] hE rfl ?_ | refine endG_norm [] hE rfl ?_ | refine vcall_A ?_); simp (maxSteps := 2000000) only [go_sem, hP, ↓reduceIte, Nat.reduceAdd, Nat.reduceMul, Nat.reduceEqDiff, Nat.reduceSub, Nat.reduceLeDiff, reduceCtorEq, List.length_map])
    | refine ev_skip ?_ | refine ev_block ?_ | refine ev_blk ?_ | refine ev_ret ?_ | refine ev_exit ?_ | refine evx_code_ret ?_ | refine evx_blk_ret ?_ | refine evx_lp_ret ?_
    | refine evx_code_exit ?_ | refine evx_lp_exit ?_ | refine evx_blk_hit ?_ | refine evx_blk_pass (by decide) ?_
    | refine And.intro ?_ ?_ | intro _ | decide +kernel | omega)
  refine ev_loop (ι := Nat) (fun k => [(0, .c (sEntryS xs)), (1, .c (sI ins)), (2, iT s), (7, .ref 100000), (8, iT k)]) (fun k => [(100000, .arr (selTo xs ins s k).isEmpty 54 4 ((selTo xs ins s k).map eEntry))]) (fun _ => []) (fun k => k ≤ xs.length) (fun k => xs.length - k) 0 [(100000, some 4096)] (by omega) (by simp only [go_sem, hP, ↓reduceIte, Nat.reduceAdd, Nat.reduceMul, Nat.reduceEqDiff, Nat.reduceSub, Nat.reduceLeDiff, reduceCtorEq]; simp [selTo]) ?_
  intro k hk
  have hsl := selTo_len xs ins s k
  by_cases hlt : k < xs.length
  · have hw1 : IntKind.i64.wrap ((k : Int) + 1) = k + 1 := i64_in _ (by omega)
    have dl : decide ((k : Int) < (xs.length : Int)) = true := by simp only [decide_eq_true_eq]; omega
    have hli : k < ins.length := by omega
    by_cases hs : ins.getD k default = s
    · have hst := selTo_yes (xs := xs) hs
      have d1 : (ins.getD k default == s) = true := beq_iff_eq.2 hs
      generalize selTo xs ins s k = ys at *
      cases ys with
      | nil =>
        repeat' (first
          | exact True.intro
          | refine ev_seq ?_
          | ((first | refine vgd_go ?_ | refine ev_region hE hM (hS (by decide +kernel)) ?_ | refine ev_if ?_ | refine end_ret hE rfl rfl ?_ | refine end_norm hE rfl rfl ?_ | refine endG_ret [] hE rfl ?_ | refine endG_norm [] hE rfl ?_ | refine vcall_A ?_); simp (maxSteps := 2000000) only [go_sem, hP, ↓reduceIte, Nat.reduceAdd, Nat.reduceMul, Nat.reduceEqDiff, Nat.reduceSub, Nat.reduceLeDiff, reduceCtorEq, dl, d1, Bool.and_self, List.length_map, List.isEmpty_nil, List.map_nil, Cs.strip, C.strip, Es.strip])
          | refine ev_skip ?_ | refine ev_block ?_ | refine ev_blk ?_ | refine ev_ret ?_ | refine ev_exit ?_ | refine evx_code_ret ?_ | refine evx_blk_ret ?_ | refine evx_lp_ret ?_
          | refine evx_code_exit ?_ | refine evx_lp_exit ?_ | refine evx_blk_hit ?_ | refine evx_blk_pass (by decide) ?_
          | refine And.intro ?_ ?_ | intro _ | decide +kernel | omega)
        all_goals first
          | exact ev_lp (k + 1) [(100000, some 24624)] (by omega) (by omega) (by simp only [go_sem, hP, ↓reduceIte, Nat.reduceAdd, Nat.reduceMul, Nat.reduceEqDiff, Nat.reduceSub, Nat.reduceLeDiff, reduceCtorEq]; rw [hst]; simp [hw1, eEntry_eq, Es.strip, Bool.and_self])
          | (exfalso; omega)
          | omega
          | (simp_all; done)
          | trace_state
      | cons y ys =>
        simp only [List.length_cons] at hsl
        repeat' (first
          | exact True.intro
          | refine ev_seq ?_
          | ((first | refine vgd_go ?_ | refine ev_region hE hM (hS (by decide +kernel)) ?_ | refine ev_if ?_ | refine end_ret hE rfl rfl ?_ | refine end_norm hE rfl rfl ?_ | refine endG_ret [] hE rfl ?_ | refine endG_norm [] hE rfl ?_ | refine vcall_A ?_); simp (maxSteps := 2000000) only [go_sem, hP, ↓reduceIte, Nat.reduceAdd, Nat.reduceMul, Nat.reduceEqDiff, Nat.reduceSub, Nat.reduceLeDiff, reduceCtorEq, dl, d1, Bool.and_self, List.length_map, List.isEmpty_cons, Cs.strip, C.strip, Es.strip])
          | refine ev_skip ?_ | refine ev_block ?_ | refine ev_blk ?_ | refine ev_ret ?_ | refine ev_exit ?_ | refine evx_code_ret ?_ | refine evx_blk_ret ?_ | refine evx_lp_ret ?_
          | refine evx_code_exit ?_ | refine evx_lp_exit ?_ | refine evx_blk_hit ?_ | refine evx_blk_pass (by decide) ?_
          | refine And.intro ?_ ?_ | intro _ | decide +kernel | omega)
        all_goals first
          | exact ev_lp (k + 1) [(100000, some 24624)] (by omega) (by omega) (by simp only [go_sem, hP, ↓reduceIte, Nat.reduceAdd, Nat.reduceMul, Nat.reduceEqDiff, Nat.reduceSub, Nat.reduceLeDiff, reduceCtorEq]; rw [hst]; simp [hw1, eEntry_eq, Es.strip, Bool.and_self])
          | (exfalso; omega)
          | omega
          | (simp_all; done)
          | trace_state
    · have hst := selTo_no (xs := xs) hs
      have d1 : (ins.getD k default == s) = false := beq_eq_false_iff_ne.2 hs
      repeat' (first
        | exact True.intro
        | refine ev_seq ?_
        | ((first | refine vgd_go ?_ | refine ev_region hE hM (hS (by decide +kernel)) ?_ | refine ev_if ?_ | refine end_ret hE rfl rfl ?_ | refine end_norm hE rfl rfl ?_ | refine endG_ret [] hE rfl ?_ | refine endG_norm [] hE rfl ?_ | refine vcall_A ?_); simp (maxSteps := 2000000) only [go_sem, hP, ↓reduceIte, Nat.reduceAdd, Nat.reduceMul, Nat.reduceEqDiff, Nat.reduceSub, Nat.reduceLeDiff, reduceCtorEq, dl, d1, List.length_map, Cs.strip, C.strip, Es.strip])
        | refine ev_skip ?_ | refine ev_block ?_ | refine ev_blk ?_ | refine ev_ret ?_ | refine ev_exit ?_ | refine evx_code_ret ?_ | refine evx_blk_ret ?_ | refine evx_lp_ret ?_
        | refine evx_code_exit ?_ | refine evx_lp_exit ?_ | refine evx_blk_hit ?_ | refine evx_blk_pass (by decide) ?_
        | refine And.intro ?_ ?_ | intro _ | decide +kernel | omega)
      all_goals first
        | exact ev_lp (k + 1) [(100000, some 100000)] (by omega) (by omega) (by simp only [go_sem, hP, ↓reduceIte, Nat.reduceAdd, Nat.reduceMul, Nat.reduceEqDiff, Nat.reduceSub, Nat.reduceLeDiff, reduceCtorEq]; rw [hst]; simp [hw1])
        | (exfalso; omega)
        | omega
        | (simp_all; done)
        | trace_state
  · obtain rfl : k = xs.length := by omega
    have dl : decide ((xs.length : Int) < (xs.length : Int)) = false := by simp
    repeat' (first
      | exact True.intro
      | refine ev_seq ?_
      | ((first | refine vgd_go ?_ | refine ev_region hE hM (hS (by decide +kernel)) ?_ | refine ev_if ?_ | refine end_ret hE rfl rfl ?_ | refine end_norm hE rfl rfl ?_ | refine endG_ret [] hE rfl ?_ | refine endG_norm [] hE rfl ?_ | refine vcall_A ?_); simp (maxSteps := 2000000) only [go_sem, hP, ↓reduceIte, Nat.reduceAdd, Nat.reduceMul, Nat.reduceEqDiff, Nat.reduceSub, Nat.reduceLeDiff, reduceCtorEq, dl, List.length_map])
      | refine ev_skip ?_ | refine ev_block ?_ | refine ev_blk ?_ | refine ev_ret ?_ | refine ev_exit ?_ | refine evx_code_ret ?_ | refine evx_blk_ret ?_ | refine evx_lp_ret ?_
      | refine evx_code_exit ?_ | refine evx_lp_exit ?_ | refine evx_blk_hit ?_ | refine evx_blk_pass (by decide) ?_
      | refine And.intro ?_ ?_ | intro _ | decide +kernel | omega)
    all_goals first
      | (simp only [selE]; cases selTo xs ins s xs.length <;> simp [Es.strip]; done)
      | (exfalso; omega)
      | (simp_all; done)
      | trace_state
theorem s_l5SideG (xs : List Entry) (ins : List Int) (s : Int) (hl : ins.length = xs.length) (hb : xs.length ≤ 1000) : SatG Tryz.prog 55 false [.c (sEntryS xs), .ref 1, iT s] [gIn 1 ins] (.ref 2) [gIn 1 ins, (2, .fro 4 ((selE xs ins s).map eEntry))] := by
  refine satG_walk (fn := Tryz.f55) rfl rfl rfl (Nat.le_of_ble_eq_true rfl) (by simp) fun fr hP hN hdp hb1 hb2 => ?_
  have hE : (envOf fr Tryz.prog).Ok := envOf_ok hP
  have hM := follows_of hP
  have hS : ∀ {draw ops}, statB Tryz.f55.ntmps draw ops = true → statB (envOf fr Tryz.prog).fr.N draw ops = true := fun h => by rw [envOf_fr, hN]; exact h
  repeat' (first
    | exact True.intro
    | refine ev_seq ?_
    | ((first | refine vgd_go ?_ | refine ev_region hE hM (hS (by decide +kernel)) ?_ | refine ev_if ?_ | refine end_ret hE rfl rfl ?_ | refine end_norm hE rfl rfl ?_ | refine endG_ret [] hE rfl ?_ | refine endG_norm [] hE rfl ?_ | refine vcall_A ?_); simp (maxSteps := 2000000) only [go_sem, hP, ↓reduceIte, Nat.reduceAdd, Nat.reduceMul, Nat.reduceEqDiff, Nat.reduceSub, Nat.reduceLeDiff, reduceCtorEq, List.length_map])
    | refine ev_skip ?_ | refine ev_block ?_ | refine ev_blk ?_ | refine ev_ret ?_ | refine ev_exit ?_ | refine evx_code_ret ?_ | refine evx_blk_ret ?_ | refine evx_lp_ret ?_
    | refine evx_code_exit ?_ | refine evx_lp_exit ?_ | refine evx_blk_hit ?_ | refine evx_blk_pass (by decide) ?_
    | refine And.intro ?_ ?_ | intro _ | decide +kernel | omega)
  refine ev_loop (ι := Nat) (fun k => [(0, .c (sEntryS xs)), (1, .ref 1), (2, iT s), (7, .ref 100000), (8, iT k)]) (fun k => [gIn 1 ins, (100000, .arr (selTo xs ins s k).isEmpty 54 4 ((selTo xs ins s k).map eEntry))]) (fun _ => [(0, .ref 1)]) (fun k => k ≤ xs.length) (fun k => xs.length - k) 0 [(100000, some 4096)] (by omega) (by simp only [go_sem, hP, ↓reduceIte, Nat.reduceAdd, Nat.reduceMul, Nat.reduceEqDiff, Nat.reduceSub, Nat.reduceLeDiff, reduceCtorEq]; simp [selTo]) ?_
  intro k hk
  have hsl := selTo_len xs ins s k
  by_cases hlt : k < xs.length
  · have hw1 : IntKind.i64.wrap ((k : Int) + 1) = k + 1 := i64_in _ (by omega)
    have dl : decide ((k : Int) < (xs.length : Int)) = true := by simp only [decide_eq_true_eq]; omega
    have hli : k < ins.length := by omega
    by_cases hs : ins.getD k default = s
    · have hst := selTo_yes (xs := xs) hs
      have d1 : (ins.getD k default == s) = true := beq_iff_eq.2 hs
      generalize selTo xs ins s k = ys at *
      cases ys with
      | nil =>
        repeat' (first
          | exact True.intro
          | refine ev_seq ?_
          | ((first | refine vgd_go ?_ | refine ev_region hE hM (hS (by decide +kernel)) ?_ | refine ev_if ?_ | refine end_ret hE rfl rfl ?_ | refine end_norm hE rfl rfl ?_ | refine endG_ret [] hE rfl ?_ | refine endG_norm [] hE rfl ?_ | refine vcall_A ?_); simp (maxSteps := 2000000) only [go_sem, hP, ↓reduceIte, Nat.reduceAdd, Nat.reduceMul, Nat.reduceEqDiff, Nat.reduceSub, Nat.reduceLeDiff, reduceCtorEq, dl, d1, Bool.and_self, List.length_map, List.isEmpty_nil, List.map_nil, Cs.strip, C.strip, Es.strip])
          | refine ev_skip ?_ | refine ev_block ?_ | refine ev_blk ?_ | refine ev_ret ?_ | refine ev_exit ?_ | refine evx_code_ret ?_ | refine evx_blk_ret ?_ | refine evx_lp_ret ?_
          | refine evx_code_exit ?_ | refine evx_lp_exit ?_ | refine evx_blk_hit ?_ | refine evx_blk_pass (by decide) ?_
          | refine And.intro ?_ ?_ | intro _ | decide +kernel | omega)
        all_goals first
          | exact ev_lp (k + 1) [(100000, some 24624)] (by omega) (by omega) (by simp only [go_sem, hP, ↓reduceIte, Nat.reduceAdd, Nat.reduceMul, Nat.reduceEqDiff, Nat.reduceSub, Nat.reduceLeDiff, reduceCtorEq]; rw [hst]; simp [hw1, eEntry_eq, Es.strip, Bool.and_self])
          | (exfalso; omega)
          | omega
          | (simp_all; done)
          | trace_state
      | cons y ys =>
        simp only [List.length_cons] at hsl
        repeat' (first
          | exact True.intro
          | refine ev_seq ?_
          | ((first | refine vgd_go ?_ | refine ev_region hE hM (hS (by decide +kernel)) ?_ | refine ev_if ?_ | refine end_ret hE rfl rfl ?_ | refine end_norm hE rfl rfl ?_ | refine endG_ret [] hE rfl ?_ | refine endG_norm [] hE rfl ?_ | refine vcall_A ?_); simp (maxSteps := 2000000) only [go_sem, hP, ↓reduceIte, Nat.reduceAdd, Nat.reduceMul, Nat.reduceEqDiff, Nat.reduceSub, Nat.reduceLeDiff, reduceCtorEq, dl, d1, Bool.and_self, List.length_map, List.isEmpty_cons, Cs.strip, C.strip, Es.strip])
          | refine ev_skip ?_ | refine ev_block ?_ | refine ev_blk ?_ | refine ev_ret ?_ | refine ev_exit ?_ | refine evx_code_ret ?_ | refine evx_blk_ret ?_ | refine evx_lp_ret ?_
          | refine evx_code_exit ?_ | refine evx_lp_exit ?_ | refine evx_blk_hit ?_ | refine evx_blk_pass (by decide) ?_
          | refine And.intro ?_ ?_ | intro _ | decide +kernel | omega)
        all_goals first
          | exact ev_lp (k + 1) [(100000, some 24624)] (by omega) (by omega) (by simp only [go_sem, hP, ↓reduceIte, Nat.reduceAdd, Nat.reduceMul, Nat.reduceEqDiff, Nat.reduceSub, Nat.reduceLeDiff, reduceCtorEq]; rw [hst]; simp [hw1, eEntry_eq, Es.strip, Bool.and_self])
          | (exfalso; omega)
          | omega
          | (simp_all; done)
          | trace_state
    · have hst := selTo_no (xs := xs) hs
      have d1 : (ins.getD k default == s) = false := beq_eq_false_iff_ne.2 hs
      repeat' (first
        | exact True.intro
        | refine ev_seq ?_
        | ((first | refine vgd_go ?_ | refine ev_region hE hM (hS (by decide +kernel)) ?_ | refine ev_if ?_ | refine end_ret hE rfl rfl ?_ | refine end_norm hE rfl rfl ?_ | refine endG_ret [] hE rfl ?_ | refine endG_norm [] hE rfl ?_ | refine vcall_A ?_); simp (maxSteps := 2000000) only [go_sem, hP, ↓reduceIte, Nat.reduceAdd, Nat.reduceMul, Nat.reduceEqDiff, Nat.reduceSub, Nat.reduceLeDiff, reduceCtorEq, dl, d1, List.length_map, Cs.strip, C.strip, Es.strip])
        | refine ev_skip ?_ | refine ev_block ?_ | refine ev_blk ?_ | refine ev_ret ?_ | refine ev_exit ?_ | refine evx_code_ret ?_ | refine evx_blk_ret ?_ | refine evx_lp_ret ?_
        | refine evx_code_exit ?_ | refine evx_lp_exit ?_ | refine evx_blk_hit ?_ | refine evx_blk_pass (by decide) ?_
        | refine And.intro ?_ ?_ | intro _ | decide +kernel | omega)
      all_goals first
        | exact ev_lp (k + 1) [(100000, some 100000)] (by omega) (by omega) (by simp only [go_sem, hP, ↓reduceIte, Nat.reduceAdd, Nat.reduceMul, Nat.reduceEqDiff, Nat.reduceSub, Nat.reduceLeDiff, reduceCtorEq]; rw [hst]; simp [hw1])
        | (exfalso; omega)
        | omega
        | (simp_all; done)
        | trace_state
  · obtain rfl : k = xs.length := by omega
    have dl : decide ((xs.length : Int) < (xs.length : Int)) = false := by simp
    repeat' (first
      | exact True.intro
      | refine ev_seq ?_
      | ((first | refine endG_ret [(2, some 100000)] hE rfl ?_ | refine vgd_go ?_ | refine ev_region hE hM (hS (by decide +kernel)) ?_ | refine ev_if ?_ | refine end_ret hE rfl rfl ?_ | refine end_norm hE rfl rfl ?_ | refine endG_ret [] hE rfl ?_ | refine endG_norm [] hE rfl ?_ | refine vcall_A ?_); simp (maxSteps := 2000000) only [go_sem, hP, ↓reduceIte, Nat.reduceAdd, Nat.reduceMul, Nat.reduceEqDiff, Nat.reduceSub, Nat.reduceLeDiff, reduceCtorEq, dl, List.length_map])
      | refine ev_skip ?_ | refine ev_block ?_ | refine ev_blk ?_ | refine ev_ret ?_ | refine ev_exit ?_ | refine evx_code_ret ?_ | refine evx_blk_ret ?_ | refine evx_lp_ret ?_
      | refine evx_code_exit ?_ | refine evx_lp_exit ?_ | refine evx_blk_hit ?_ | refine evx_blk_pass (by decide) ?_
      | refine And.intro ?_ ?_ | intro _ | decide +kernel | omega)
    all_goals first
      | (simp only [selE, flat]; cases selTo xs ins s xs.length <;> simp [Es.strip]; done)
      | (exfalso; omega)
      | (simp_all; done)
      | trace_state
def fillV (ins : List Int) (s : Int) : List Int := ins.map fun x => if x = 0 then s else x
def fillTo (ins : List Int) (s : Int) (k : Nat) : List Int := fillV (ins.take k) s ++ ins.drop k
theorem fillTo_zero (ins : List Int) (s : Int) : fillTo ins s 0 = ins := by simp [fillTo, fillV]
theorem fillTo_all (ins : List Int) (s : Int) : fillTo ins s ins.length = fillV ins s := by simp [fillTo]
theorem fillTo_len (ins : List Int) (s : Int) (k : Nat) : (fillTo ins s k).length = ins.length := by simp [fillTo, fillV]; omega
theorem fillTo_get {ins : List Int} {s : Int} {k : Nat} (h : k < ins.length) : (fillTo ins s k).getD k default = ins.getD k default := by
  unfold fillTo
  have e : (fillV (ins.take k) s).length = k := by simp [fillV]; omega
  rw [List.getD_eq_getElem?_getD, List.getElem?_append_right (by omega), e, Nat.sub_self, List.getElem?_drop, Nat.add_zero, List.getD_eq_getElem?_getD]
theorem fillTo_step {ins : List Int} {s : Int} {k : Nat} (h : k < ins.length) : fillTo ins s (k + 1) = if ins.getD k default = 0 then (fillTo ins s k).set k s else fillTo ins s k := by
  have e : (fillV (ins.take k) s).length = k := by simp [fillV]; omega
  have h1 : ins.take (k + 1) = ins.take k ++ [ins.getD k default] := take_step (d := default) h
  have h2 : ins.drop k = ins.getD k default :: ins.drop (k + 1) := by rw [List.drop_eq_getElem_cons h, getD_lt h]
  unfold fillTo
  rw [h1, h2]
  split
  · rename_i h0
    rw [List.set_append_right _ _ (by omega), e, Nat.sub_self]
    simp only [fillV, List.map_append, List.map_cons, List.map_nil]
    rw [if_pos h0]; simp
  · rename_i h0
    simp only [fillV, List.map_append, List.map_cons, List.map_nil]
    rw [if_neg h0]; simp
theorem s_rest (xs : List Entry) (ins : List Int) (s : Int) (hb : ins.length ≤ 1000) : SatG Tryz.prog 41 false [.ptr 1 0, iT s] [(1, .box [.c (sEntryS xs), .ref 2]), gIn 2 ins] (.tup []) [(1, .box [.c (sEntryS xs), .ref 2]), gIn 2 (fillV ins s)] := by
  refine satG_walk (fn := Tryz.f41) rfl rfl rfl (Nat.le_of_ble_eq_true rfl) (by simp) fun fr hP hN hdp hb1 hb2 => ?_
  have hE : (envOf fr Tryz.prog).Ok := envOf_ok hP
  have hM := follows_of hP
  have hS : ∀ {draw ops}, statB Tryz.f41.ntmps draw ops = true → statB (envOf fr Tryz.prog).fr.N draw ops = true := fun h => by rw [envOf_fr, hN]; exact h
  repeat' (first
    | exact True.intro
    | refine ev_seq ?_
    | ((first | refine vgd_go ?_ | refine ev_region hE hM (hS (by decide +kernel)) ?_ | refine ev_if ?_ | refine end_ret hE rfl rfl ?_ | refine end_norm hE rfl rfl ?_ | refine endG_ret [] hE rfl ?_ | refine endG_norm [] hE rfl ?_ | refine vcall_A ?_); simp (maxSteps := 2000000) only [go_sem, hP, ↓reduceIte, Nat.reduceAdd, Nat.reduceMul, Nat.reduceEqDiff, Nat.reduceSub, Nat.reduceLeDiff, reduceCtorEq, List.length_map])
    | refine ev_skip ?_ | refine ev_block ?_ | refine ev_blk ?_ | refine ev_ret ?_ | refine ev_exit ?_ | refine evx_code_ret ?_ | refine evx_blk_ret ?_ | refine evx_lp_ret ?_
    | refine evx_code_exit ?_ | refine evx_lp_exit ?_ | refine evx_blk_hit ?_ | refine evx_blk_pass (by decide) ?_
    | refine And.intro ?_ ?_ | intro _ | decide +kernel | omega)
  refine ev_loop (ι := Nat) (fun k => [(0, .ptr 1 0), (1, iT s), (9, iT ins.length), (10, iT k)]) (fun k => [(1, .box [.c (sEntryS xs), .ref 2]), gIn 2 (fillTo ins s k)]) (fun _ => [(0, .ref 1), (1, .ref 2)]) (fun k => k ≤ ins.length) (fun k => ins.length - k) 0 [] (by omega) (by simp only [go_sem, hP, ↓reduceIte, Nat.reduceAdd, Nat.reduceMul, Nat.reduceEqDiff, Nat.reduceSub, Nat.reduceLeDiff, reduceCtorEq]; simp [fillTo_zero]) ?_
  intro k hk
  have hfl := fillTo_len ins s k
  by_cases hlt : k < ins.length
  · have hw1 : IntKind.i64.wrap ((k : Int) + 1) = k + 1 := i64_in _ (by omega)
    have dl : decide ((k : Int) < (ins.length : Int)) = true := by simp only [decide_eq_true_eq]; omega
    have hg := fillTo_get (s := s) hlt
    have hst := fillTo_step (s := s) hlt
    generalize fillTo ins s k = js at *
    by_cases h0 : ins.getD k default = 0
    · have d1 : (ins.getD k default == 0) = true := beq_iff_eq.2 h0
      rw [if_pos h0] at hst
      repeat' (first
        | exact True.intro
        | refine ev_seq ?_
        | ((first | refine vgd_go ?_ | refine ev_region hE hM (hS (by decide +kernel)) ?_ | refine ev_if ?_ | refine end_ret hE rfl rfl ?_ | refine end_norm hE rfl rfl ?_ | refine endG_ret [] hE rfl ?_ | refine endG_norm [] hE rfl ?_ | refine vcall_A ?_); simp (maxSteps := 2000000) only [go_sem, hP, ↓reduceIte, Nat.reduceAdd, Nat.reduceMul, Nat.reduceEqDiff, Nat.reduceSub, Nat.reduceLeDiff, reduceCtorEq, dl, hg, d1, List.length_map, Cs.strip, C.strip, Es.strip])
        | refine ev_skip ?_ | refine ev_block ?_ | refine ev_blk ?_ | refine ev_ret ?_ | refine ev_exit ?_ | refine evx_code_ret ?_ | refine evx_blk_ret ?_ | refine evx_lp_ret ?_
        | refine evx_code_exit ?_ | refine evx_lp_exit ?_ | refine evx_blk_hit ?_ | refine evx_blk_pass (by decide) ?_
        | refine And.intro ?_ ?_ | intro _ | decide +kernel | omega)
      all_goals first
        | exact ev_lp (k + 1) [] (by omega) (by omega) (by simp only [go_sem, hP, ↓reduceIte, Nat.reduceAdd, Nat.reduceMul, Nat.reduceEqDiff, Nat.reduceSub, Nat.reduceLeDiff, reduceCtorEq]; rw [hst]; simp [hw1, List.map_set, eI])
        | (exfalso; omega)
        | omega
        | (simp_all; done)
        | trace_state
    · have d1 : (ins.getD k default == 0) = false := beq_eq_false_iff_ne.2 h0
      rw [if_neg h0] at hst
      repeat' (first
        | exact True.intro
        | refine ev_seq ?_
        | ((first | refine vgd_go ?_ | refine ev_region hE hM (hS (by decide +kernel)) ?_ | refine ev_if ?_ | refine end_ret hE rfl rfl ?_ | refine end_norm hE rfl rfl ?_ | refine endG_ret [] hE rfl ?_ | refine endG_norm [] hE rfl ?_ | refine vcall_A ?_); simp (maxSteps := 2000000) only [go_sem, hP, ↓reduceIte, Nat.reduceAdd, Nat.reduceMul, Nat.reduceEqDiff, Nat.reduceSub, Nat.reduceLeDiff, reduceCtorEq, dl, hg, d1, List.length_map, Cs.strip, C.strip, Es.strip])
        | refine ev_skip ?_ | refine ev_block ?_ | refine ev_blk ?_ | refine ev_ret ?_ | refine ev_exit ?_ | refine evx_code_ret ?_ | refine evx_blk_ret ?_ | refine evx_lp_ret ?_
        | refine evx_code_exit ?_ | refine evx_lp_exit ?_ | refine evx_blk_hit ?_ | refine evx_blk_pass (by decide) ?_
        | refine And.intro ?_ ?_ | intro _ | decide +kernel | omega)
      all_goals first
        | exact ev_lp (k + 1) [] (by omega) (by omega) (by simp only [go_sem, hP, ↓reduceIte, Nat.reduceAdd, Nat.reduceMul, Nat.reduceEqDiff, Nat.reduceSub, Nat.reduceLeDiff, reduceCtorEq]; rw [hst]; simp [hw1])
        | (exfalso; omega)
        | omega
        | (simp_all; done)
        | trace_state
  · obtain rfl : k = ins.length := by omega
    have dl : decide ((ins.length : Int) < (ins.length : Int)) = false := by simp
    repeat' (first
      | exact True.intro
      | refine ev_seq ?_
      | ((first | refine vgd_go ?_ | refine ev_region hE hM (hS (by decide +kernel)) ?_ | refine ev_if ?_ | refine end_ret hE rfl rfl ?_ | refine end_norm hE rfl rfl ?_ | refine endG_ret [] hE rfl ?_ | refine endG_norm [] hE rfl ?_ | refine vcall_A ?_); simp (maxSteps := 2000000) only [go_sem, hP, ↓reduceIte, Nat.reduceAdd, Nat.reduceMul, Nat.reduceEqDiff, Nat.reduceSub, Nat.reduceLeDiff, reduceCtorEq, dl, fillTo_all])
      | refine ev_skip ?_ | refine ev_block ?_ | refine ev_blk ?_ | refine ev_ret ?_ | refine ev_exit ?_ | refine evx_code_ret ?_ | refine evx_blk_ret ?_ | refine evx_lp_ret ?_
      | refine evx_code_exit ?_ | refine evx_lp_exit ?_ | refine evx_blk_hit ?_ | refine evx_blk_pass (by decide) ?_
      | refine And.intro ?_ ?_ | intro _ | decide +kernel | omega)
    all_goals first | rfl | (exfalso; omega) | (simp_all; done) | trace_state
/-- By how much more an entry would have one side grow than the other. -/
def dE (p q : Rect) (e : Entry) : Int := max (growth p e.rect - growth q e.rect) (-(growth p e.rect - growth q e.rect))
def nb (xs : List Entry) (ins : List Int) (p q : Rect) : Nat → Int
  | 0 => -1
  | k + 1 => if ins.getD k default = 0 then (if nb xs ins p q k < 0 ∨ dE p q (xs.getD (nb xs ins p q k).toNat default) < dE p q (xs.getD k default) then k else nb xs ins p q k) else nb xs ins p q k
def nbM (xs : List Entry) (ins : List Int) (p q : Rect) (k : Nat) : Int := if nb xs ins p q k < 0 then 0 else dE p q (xs.getD (nb xs ins p q k).toNat default)
theorem nb_in (xs : List Entry) (ins : List Int) (p q : Rect) : ∀ k, -1 ≤ nb xs ins p q k ∧ nb xs ins p q k < k ∧ (0 ≤ nb xs ins p q k → ins.getD (nb xs ins p q k).toNat default = 0) ∧ ((∃ j, j < k ∧ ins.getD j default = 0) → 0 ≤ nb xs ins p q k)
  | 0 => by simp [nb]
  | k + 1 => by
    obtain ⟨h1, h2, h3, h4⟩ := nb_in xs ins p q k
    unfold nb
    split
    · rename_i h0
      split
      · exact ⟨by omega, by omega, fun _ => by simpa using h0, fun _ => by omega⟩
      · rename_i hc
        exact ⟨h1, by omega, h3, fun _ => by omega⟩
    · rename_i h0
      refine ⟨h1, by omega, h3, fun ⟨j, hj, hz⟩ => h4 ⟨j, ?_, hz⟩⟩
      rcases Nat.lt_or_ge j k with h | h
      · exact h
      · obtain rfl : j = k := by omega
        exact absurd hz h0
def nxP (xs : List Entry) (ins : List Int) : Rect := bx (selE xs ins 1)
def nxQ (xs : List Entry) (ins : List Int) : Rect := bx (selE xs ins 2)
def nxI (xs : List Entry) (ins : List Int) : Nat := (nb xs ins (nxP xs ins) (nxQ xs ins) xs.length).toNat
/-- To which side an entry goes. -/
def sideC (p q : Rect) (a b : Nat) (r : Rect) : Int := if growth q r < growth p r ∨ growth p r = growth q r ∧ (area q < area p ∨ area p = area q ∧ b < a) then 2 else 1
def nxS (xs : List Entry) (ins : List Int) : Int := sideC (nxP xs ins) (nxQ xs ins) (selE xs ins 1).length (selE xs ins 2).length (xs.getD (nxI xs ins) default).rect
theorem growth_two {a b : Rect} {d : Int} (h1 : rf a d = 0) (h2 : rf b d = 0) : 0 ≤ growth a b ∧ growth a b ≤ 8000000000 := by
  have := growth_in (two_of h1 h2); omega
theorem rf_lens {a b : Rect} {d : Int} (h1 : rf a d = 0) (h2 : rf b d = 0) : Lens a b := (two_fit (two_of h1 h2)).l
theorem s_l5Next (xs : List Entry) (ins : List Int) (d : Int) (hr : ∀ x ∈ xs, rf x.rect d = 0) (hl : ins.length = xs.length) (hb : xs.length ≤ 1000) (h1 : 0 < (selE xs ins 1).length) (h2 : 0 < (selE xs ins 2).length) (h0 : ∃ j, j < xs.length ∧ ins.getD j default = 0) :
    Sat Tryz.prog 56 [aEntryS xs, aL ins] true [(false, [.int .i64 (nxI xs ins)]), (false, [.int .i64 (nxS xs ins)])] := by
  refine sat_walk (fn := Tryz.f56) rfl rfl rfl (Nat.le_of_ble_eq_true rfl) fun fr hP hN hbnd => ?_
  have hE : (envOf fr Tryz.prog).Ok := envOf_ok hP
  have hM := follows_of hP
  have hS : ∀ {draw ops}, statB Tryz.f56.ntmps draw ops = true → statB (envOf fr Tryz.prog).fr.N draw ops = true := fun h => by rw [envOf_fr, hN]; exact h
  have c1 := s_l5Side xs ins 1 hl hb
  have c2 := s_l5Side xs ins 2 hl hb
  have r1 := bx_rf (fun x hx => hr x (selE_mem x hx)) h1
  have r2 := bx_rf (fun x hx => hr x (selE_mem x hx)) h2
  have b1 := s_l3Box (selE xs ins 1) d.toNat (rf_even fun x hx => hr x (selE_mem x hx)) h1 (by have := rf_two r1; omega)
  have b2 := s_l3Box (selE xs ins 2) d.toNat (rf_even fun x hx => hr x (selE_mem x hx)) h2 (by have := rf_two r2; omega)
  have hn := nb_in xs ins (nxP xs ins) (nxQ xs ins) xs.length
  have hn0 := hn.2.2.2 h0
  have eI : nb xs ins (nxP xs ins) (nxQ xs ins) xs.length = nxI xs ins := by unfold nxI; omega
  have eS : nxS xs ins = sideC (nxP xs ins) (nxQ xs ins) (selE xs ins 1).length (selE xs ins 2).length (xs.getD (nxI xs ins) default).rect := rfl
  have hi : nxI xs ins < xs.length := by omega
  rw [show bx (selE xs ins 1) = nxP xs ins from rfl] at b1 r1
  rw [show bx (selE xs ins 2) = nxQ xs ins from rfl] at b2 r2
  generalize nxI xs ins = i at *
  generalize nxS xs ins = s at *
  generalize nxP xs ins = p at *
  generalize nxQ xs ins = q at *
  generalize selE xs ins 1 = ys at *
  generalize selE xs ins 2 = zs at *
  have hpl := rf_two r1
  have pl := rf_len r1
  repeat' (first
    | exact True.intro
    | refine ev_seq ?_
    | ((first | refine vgd_go ?_ | refine ev_region hE hM (hS (by decide +kernel)) ?_ | refine ev_if ?_ | refine end_ret hE rfl rfl ?_ | refine end_norm hE rfl rfl ?_ | refine endG_ret [] hE rfl ?_ | refine endG_norm [] hE rfl ?_ | refine vcallB_of hP c1 ?_ | refine vcallB_of hP c2 ?_ | refine vcallB_of hP b1 ?_ | refine vcallB_of hP b2 ?_ | refine vcall_A ?_); simp (maxSteps := 2000000) only [go_sem, hP, ↓reduceIte, Nat.reduceAdd, Nat.reduceMul, Nat.reduceEqDiff, Nat.reduceSub, Nat.reduceLeDiff, reduceCtorEq])
    | refine ev_skip ?_ | refine ev_block ?_ | refine ev_blk ?_ | refine ev_ret ?_ | refine ev_exit ?_ | refine evx_code_ret ?_ | refine evx_blk_ret ?_ | refine evx_lp_ret ?_
    | refine evx_code_exit ?_ | refine evx_lp_exit ?_ | refine evx_blk_hit ?_ | refine evx_blk_pass (by decide) ?_
    | refine And.intro ?_ ?_ | intro _ | decide +kernel | omega)
  refine ev_loop (ι := Nat) (fun k => [(0, .c (sEntryS xs)), (1, .c (sI ins)), (6, .c (sEntryS ys)), (7, .c (sEntryS zs)), (8, .ptr 12304 0), (9, .ptr 16400 0), (10, iT (nb xs ins p q k)), (11, iT (nbM xs ins p q k)), (12, iT k)]) (fun _ => [(12304, .box [.ref 12296, .ref 1060872]), gI 12296 p.low, gI 1060872 p.high, (16400, .box [.ref 16392, .ref 1064968]), gI 16392 q.low, gI 1064968 q.high]) (fun _ => []) (fun k => k ≤ xs.length) (fun k => xs.length - k) 0 [] (by omega) (by simp only [go_sem, hP, ↓reduceIte, Nat.reduceAdd, Nat.reduceMul, Nat.reduceEqDiff, Nat.reduceSub, Nat.reduceLeDiff, reduceCtorEq]; simp [nb, nbM]) ?_
  intro k hk
  by_cases hlt : k < xs.length
  · have hw1 : IntKind.i64.wrap ((k : Int) + 1) = k + 1 := i64_in _ (by omega)
    have dl : decide ((k : Int) < (xs.length : Int)) = true := by simp only [decide_eq_true_eq]; omega
    have hli : k < ins.length := by omega
    have hnk := nb_in xs ins p q k
    by_cases hz : ins.getD k default = 0
    · have d1 : (ins.getD k default != 0) = false := by rw [hz]; rfl
      have hx := hr _ (getD_mem (d := default) hlt)
      have g1 := s_l1Growth p (xs.getD k default).rect (rf_lens r1 hx) (by omega)
      have g2 := s_l1Growth q (xs.getD k default).rect (rf_lens r2 hx) (by have := rf_len r2; omega)
      have i1 := growth_two r1 hx
      have i2 := growth_two r2 hx
      have w1 : IntKind.i64.wrap (growth p (xs.getD k default).rect - growth q (xs.getD k default).rect) = growth p (xs.getD k default).rect - growth q (xs.getD k default).rect := i64_in _ (by omega)
      have w2 : IntKind.i64.wrap (0 - (growth p (xs.getD k default).rect - growth q (xs.getD k default).rect)) = -(growth p (xs.getD k default).rect - growth q (xs.getD k default).rect) := by rw [i64_in _ (by omega)]; omega
      have mx := s_l1Max (growth p (xs.getD k default).rect - growth q (xs.getD k default).rect) (-(growth p (xs.getD k default).rect - growth q (xs.getD k default).rect))
      have eD : max (growth p (xs.getD k default).rect - growth q (xs.getD k default).rect) (-(growth p (xs.getD k default).rect - growth q (xs.getD k default).rect)) = dE p q (xs.getD k default) := rfl
      by_cases hb0 : nb xs ins p q k < 0
      · have d2 := decide_eq_true hb0
        have e1 : nb xs ins p q (k + 1) = k := by simp only [nb]; rw [if_pos hz, if_pos (Or.inl hb0)]
        have e2 : nbM xs ins p q (k + 1) = dE p q (xs.getD k default) := by unfold nbM; rw [e1, if_neg (by omega)]; simp
        repeat' (first
          | exact True.intro
          | refine ev_seq ?_
          | ((first | refine vgd_go ?_ | refine ev_region hE hM (hS (by decide +kernel)) ?_ | refine ev_if ?_ | refine end_ret hE rfl rfl ?_ | refine end_norm hE rfl rfl ?_ | refine endG_ret [] hE rfl ?_ | refine endG_norm [] hE rfl ?_ | refine vcallB_of hP g1 ?_ | refine vcallB_of hP g2 ?_ | refine vcallB_of hP mx ?_ | refine vcall_A ?_); simp (maxSteps := 2000000) only [go_sem, hP, ↓reduceIte, Nat.reduceAdd, Nat.reduceMul, Nat.reduceEqDiff, Nat.reduceSub, Nat.reduceLeDiff, reduceCtorEq, dl, d1, d2, w1, w2, eD, List.length_map])
          | refine ev_skip ?_ | refine ev_block ?_ | refine ev_blk ?_ | refine ev_ret ?_ | refine ev_exit ?_ | refine evx_code_ret ?_ | refine evx_blk_ret ?_ | refine evx_lp_ret ?_
          | refine evx_code_exit ?_ | refine evx_lp_exit ?_ | refine evx_blk_hit ?_ | refine evx_blk_pass (by decide) ?_
          | refine And.intro ?_ ?_ | intro _ | decide +kernel | omega)
        all_goals first
          | exact ev_lp (k + 1) [] (by omega) (by omega) (by simp only [go_sem, hP, ↓reduceIte, Nat.reduceAdd, Nat.reduceMul, Nat.reduceEqDiff, Nat.reduceSub, Nat.reduceLeDiff, reduceCtorEq]; rw [e1, e2]; simp [hw1, dE])
          | (exfalso; omega)
          | omega
          | (simp_all; done)
          | trace_state
      · have d2 := decide_eq_false hb0
        have eM : nbM xs ins p q k = dE p q (xs.getD (nb xs ins p q k).toNat default) := by unfold nbM; rw [if_neg hb0]
        by_cases hc : nbM xs ins p q k < dE p q (xs.getD k default)
        · have d3 := decide_eq_true hc
          have e1 : nb xs ins p q (k + 1) = k := by simp only [nb]; rw [if_pos hz, if_pos (Or.inr (by rw [← eM]; exact hc))]
          have e2 : nbM xs ins p q (k + 1) = dE p q (xs.getD k default) := by unfold nbM; rw [e1, if_neg (by omega)]; simp
          repeat' (first
            | exact True.intro
            | refine ev_seq ?_
            | ((first | refine vgd_go ?_ | refine ev_region hE hM (hS (by decide +kernel)) ?_ | refine ev_if ?_ | refine end_ret hE rfl rfl ?_ | refine end_norm hE rfl rfl ?_ | refine endG_ret [] hE rfl ?_ | refine endG_norm [] hE rfl ?_ | refine vcallB_of hP g1 ?_ | refine vcallB_of hP g2 ?_ | refine vcallB_of hP mx ?_ | refine vcall_A ?_); simp (maxSteps := 2000000) only [go_sem, hP, ↓reduceIte, Nat.reduceAdd, Nat.reduceMul, Nat.reduceEqDiff, Nat.reduceSub, Nat.reduceLeDiff, reduceCtorEq, dl, d1, d2, d3, w1, w2, eD, List.length_map])
            | refine ev_skip ?_ | refine ev_block ?_ | refine ev_blk ?_ | refine ev_ret ?_ | refine ev_exit ?_ | refine evx_code_ret ?_ | refine evx_blk_ret ?_ | refine evx_lp_ret ?_
            | refine evx_code_exit ?_ | refine evx_lp_exit ?_ | refine evx_blk_hit ?_ | refine evx_blk_pass (by decide) ?_
            | refine And.intro ?_ ?_ | intro _ | decide +kernel | omega)
          all_goals first
            | exact ev_lp (k + 1) [] (by omega) (by omega) (by simp only [go_sem, hP, ↓reduceIte, Nat.reduceAdd, Nat.reduceMul, Nat.reduceEqDiff, Nat.reduceSub, Nat.reduceLeDiff, reduceCtorEq]; rw [e1, e2]; simp [hw1, dE])
            | (exfalso; omega)
            | omega
            | (simp_all; done)
            | trace_state
        · have d3 := decide_eq_false hc
          have e1 : nb xs ins p q (k + 1) = nb xs ins p q k := by simp only [nb]; rw [if_pos hz, if_neg (by rw [← eM]; omega)]
          have e2 : nbM xs ins p q (k + 1) = nbM xs ins p q k := by unfold nbM; rw [e1]
          repeat' (first
            | exact True.intro
            | refine ev_seq ?_
            | ((first | refine vgd_go ?_ | refine ev_region hE hM (hS (by decide +kernel)) ?_ | refine ev_if ?_ | refine end_ret hE rfl rfl ?_ | refine end_norm hE rfl rfl ?_ | refine endG_ret [] hE rfl ?_ | refine endG_norm [] hE rfl ?_ | refine vcallB_of hP g1 ?_ | refine vcallB_of hP g2 ?_ | refine vcallB_of hP mx ?_ | refine vcall_A ?_); simp (maxSteps := 2000000) only [go_sem, hP, ↓reduceIte, Nat.reduceAdd, Nat.reduceMul, Nat.reduceEqDiff, Nat.reduceSub, Nat.reduceLeDiff, reduceCtorEq, dl, d1, d2, d3, w1, w2, eD, List.length_map])
            | refine ev_skip ?_ | refine ev_block ?_ | refine ev_blk ?_ | refine ev_ret ?_ | refine ev_exit ?_ | refine evx_code_ret ?_ | refine evx_blk_ret ?_ | refine evx_lp_ret ?_
            | refine evx_code_exit ?_ | refine evx_lp_exit ?_ | refine evx_blk_hit ?_ | refine evx_blk_pass (by decide) ?_
            | refine And.intro ?_ ?_ | intro _ | decide +kernel | omega)
          all_goals first
            | exact ev_lp (k + 1) [] (by omega) (by omega) (by simp only [go_sem, hP, ↓reduceIte, Nat.reduceAdd, Nat.reduceMul, Nat.reduceEqDiff, Nat.reduceSub, Nat.reduceLeDiff, reduceCtorEq]; rw [e1, e2]; simp [hw1])
            | (exfalso; omega)
            | omega
            | (simp_all; done)
            | trace_state
    · have d1 : (ins.getD k default != 0) = true := by simpa using hz
      have e1 : nb xs ins p q (k + 1) = nb xs ins p q k := by simp only [nb]; rw [if_neg hz]
      have e2 : nbM xs ins p q (k + 1) = nbM xs ins p q k := by unfold nbM; rw [e1]
      repeat' (first
        | exact True.intro
        | refine ev_seq ?_
        | ((first | refine vgd_go ?_ | refine ev_region hE hM (hS (by decide +kernel)) ?_ | refine ev_if ?_ | refine end_ret hE rfl rfl ?_ | refine end_norm hE rfl rfl ?_ | refine endG_ret [] hE rfl ?_ | refine endG_norm [] hE rfl ?_ | refine vcall_A ?_); simp (maxSteps := 2000000) only [go_sem, hP, ↓reduceIte, Nat.reduceAdd, Nat.reduceMul, Nat.reduceEqDiff, Nat.reduceSub, Nat.reduceLeDiff, reduceCtorEq, dl, d1, List.length_map])
        | refine ev_skip ?_ | refine ev_block ?_ | refine ev_blk ?_ | refine ev_ret ?_ | refine ev_exit ?_ | refine evx_code_ret ?_ | refine evx_blk_ret ?_ | refine evx_lp_ret ?_
        | refine evx_code_exit ?_ | refine evx_lp_exit ?_ | refine evx_blk_hit ?_ | refine evx_blk_pass (by decide) ?_
        | refine And.intro ?_ ?_ | intro _ | decide +kernel | omega)
      all_goals first
        | exact ev_lp (k + 1) [] (by omega) (by omega) (by simp only [go_sem, hP, ↓reduceIte, Nat.reduceAdd, Nat.reduceMul, Nat.reduceEqDiff, Nat.reduceSub, Nat.reduceLeDiff, reduceCtorEq]; rw [e1, e2]; simp [hw1])
        | (exfalso; omega)
        | omega
        | (simp_all; done)
        | trace_state
  · obtain rfl : k = xs.length := by omega
    have dl : decide ((xs.length : Int) < (xs.length : Int)) = false := by simp
    have hx := hr _ (getD_mem (d := default) hi)
    have g1 := s_l1Growth p (xs.getD i default).rect (rf_lens r1 hx) (by omega)
    have g2 := s_l1Growth q (xs.getD i default).rect (rf_lens r2 hx) (by have := rf_len r2; omega)
    have a1 := s_l1Area p (by have := rf_len r1; omega)
    have a2 := s_l1Area q (by have := rf_len r2; omega)
    unfold sideC at eS
    generalize growth p (xs.getD i default).rect = g at *
    generalize growth q (xs.getD i default).rect = h at *
    generalize area p = u at *
    generalize area q = v at *
    rw [eI]
    by_cases q1 : h < g
    · rw [if_pos (Or.inl q1)] at eS
      have e1 := decide_eq_true q1
      have e2 : (g == h) = false := beq_eq_false_iff_ne.2 (by omega)
      repeat' (first
        | exact True.intro
        | refine ev_seq ?_
        | ((first | refine vgd_go ?_ | refine ev_region hE hM (hS (by decide +kernel)) ?_ | refine ev_if ?_ | refine end_ret hE rfl rfl ?_ | refine end_norm hE rfl rfl ?_ | refine endG_ret [] hE rfl ?_ | refine endG_norm [] hE rfl ?_ | refine vcallB_of hP g1 ?_ | refine vcallB_of hP g2 ?_ | refine vcallB_of hP a1 ?_ | refine vcallB_of hP a2 ?_ | refine vcall_A ?_); simp (maxSteps := 2000000) only [go_sem, hP, ↓reduceIte, Nat.reduceAdd, Nat.reduceMul, Nat.reduceEqDiff, Nat.reduceSub, Nat.reduceLeDiff, reduceCtorEq, dl, e1, e2, List.length_map])
        | refine ev_skip ?_ | refine ev_block ?_ | refine ev_blk ?_ | refine ev_ret ?_ | refine ev_exit ?_ | refine evx_code_ret ?_ | refine evx_blk_ret ?_ | refine evx_lp_ret ?_
        | refine evx_code_exit ?_ | refine evx_lp_exit ?_ | refine evx_blk_hit ?_ | refine evx_blk_pass (by decide) ?_
        | refine And.intro ?_ ?_ | intro _ | decide +kernel | omega)
      all_goals first | (rw [eS]; done) | (exfalso; omega) | omega | (simp_all; done) | trace_state
    · have e1 := decide_eq_false q1
      by_cases q2 : g = h
      · have e2 : (g == h) = true := beq_iff_eq.2 q2
        by_cases q3 : v < u
        · rw [if_pos (Or.inr ⟨q2, Or.inl q3⟩)] at eS
          have e3 := decide_eq_true q3
          repeat' (first
            | exact True.intro
            | refine ev_seq ?_
            | ((first | refine vgd_go ?_ | refine ev_region hE hM (hS (by decide +kernel)) ?_ | refine ev_if ?_ | refine end_ret hE rfl rfl ?_ | refine end_norm hE rfl rfl ?_ | refine endG_ret [] hE rfl ?_ | refine endG_norm [] hE rfl ?_ | refine vcallB_of hP g1 ?_ | refine vcallB_of hP g2 ?_ | refine vcallB_of hP a1 ?_ | refine vcallB_of hP a2 ?_ | refine vcall_A ?_); simp (maxSteps := 2000000) only [go_sem, hP, ↓reduceIte, Nat.reduceAdd, Nat.reduceMul, Nat.reduceEqDiff, Nat.reduceSub, Nat.reduceLeDiff, reduceCtorEq, dl, e1, e2, e3, List.length_map])
            | refine ev_skip ?_ | refine ev_block ?_ | refine ev_blk ?_ | refine ev_ret ?_ | refine ev_exit ?_ | refine evx_code_ret ?_ | refine evx_blk_ret ?_ | refine evx_lp_ret ?_
            | refine evx_code_exit ?_ | refine evx_lp_exit ?_ | refine evx_blk_hit ?_ | refine evx_blk_pass (by decide) ?_
            | refine And.intro ?_ ?_ | intro _ | decide +kernel | omega)
          all_goals first | (rw [eS]; done) | (exfalso; omega) | omega | (simp_all; done) | trace_state
        · have e3 := decide_eq_false q3
          by_cases q4 : u = v
          · have e4 : (u == v) = true := beq_iff_eq.2 q4
            by_cases q5 : zs.length < ys.length
            · rw [if_pos (Or.inr ⟨q2, Or.inr ⟨q4, q5⟩⟩)] at eS
              have e5 : decide ((zs.length : Int) < (ys.length : Int)) = true := by simp only [decide_eq_true_eq]; omega
              repeat' (first
                | exact True.intro
                | refine ev_seq ?_
                | ((first | refine vgd_go ?_ | refine ev_region hE hM (hS (by decide +kernel)) ?_ | refine ev_if ?_ | refine end_ret hE rfl rfl ?_ | refine end_norm hE rfl rfl ?_ | refine endG_ret [] hE rfl ?_ | refine endG_norm [] hE rfl ?_ | refine vcallB_of hP g1 ?_ | refine vcallB_of hP g2 ?_ | refine vcallB_of hP a1 ?_ | refine vcallB_of hP a2 ?_ | refine vcall_A ?_); simp (maxSteps := 2000000) only [go_sem, hP, ↓reduceIte, Nat.reduceAdd, Nat.reduceMul, Nat.reduceEqDiff, Nat.reduceSub, Nat.reduceLeDiff, reduceCtorEq, dl, e1, e2, e3, e4, e5, List.length_map])
                | refine ev_skip ?_ | refine ev_block ?_ | refine ev_blk ?_ | refine ev_ret ?_ | refine ev_exit ?_ | refine evx_code_ret ?_ | refine evx_blk_ret ?_ | refine evx_lp_ret ?_
                | refine evx_code_exit ?_ | refine evx_lp_exit ?_ | refine evx_blk_hit ?_ | refine evx_blk_pass (by decide) ?_
                | refine And.intro ?_ ?_ | intro _ | decide +kernel | omega)
              all_goals first | (rw [eS]; done) | (exfalso; omega) | omega | (simp_all; done) | trace_state
            · rw [if_neg (by omega)] at eS
              have e5 : decide ((zs.length : Int) < (ys.length : Int)) = false := by simp only [decide_eq_false_iff_not]; omega
              repeat' (first
                | exact True.intro
                | refine ev_seq ?_
                | ((first | refine vgd_go ?_ | refine ev_region hE hM (hS (by decide +kernel)) ?_ | refine ev_if ?_ | refine end_ret hE rfl rfl ?_ | refine end_norm hE rfl rfl ?_ | refine endG_ret [] hE rfl ?_ | refine endG_norm [] hE rfl ?_ | refine vcallB_of hP g1 ?_ | refine vcallB_of hP g2 ?_ | refine vcallB_of hP a1 ?_ | refine vcallB_of hP a2 ?_ | refine vcall_A ?_); simp (maxSteps := 2000000) only [go_sem, hP, ↓reduceIte, Nat.reduceAdd, Nat.reduceMul, Nat.reduceEqDiff, Nat.reduceSub, Nat.reduceLeDiff, reduceCtorEq, dl, e1, e2, e3, e4, e5, List.length_map])
                | refine ev_skip ?_ | refine ev_block ?_ | refine ev_blk ?_ | refine ev_ret ?_ | refine ev_exit ?_ | refine evx_code_ret ?_ | refine evx_blk_ret ?_ | refine evx_lp_ret ?_
                | refine evx_code_exit ?_ | refine evx_lp_exit ?_ | refine evx_blk_hit ?_ | refine evx_blk_pass (by decide) ?_
                | refine And.intro ?_ ?_ | intro _ | decide +kernel | omega)
              all_goals first | (rw [eS]; done) | (exfalso; omega) | omega | (simp_all; done) | trace_state
          · rw [if_neg (by omega)] at eS
            have e4 : (u == v) = false := beq_eq_false_iff_ne.2 q4
            repeat' (first
              | exact True.intro
              | refine ev_seq ?_
              | ((first | refine vgd_go ?_ | refine ev_region hE hM (hS (by decide +kernel)) ?_ | refine ev_if ?_ | refine end_ret hE rfl rfl ?_ | refine end_norm hE rfl rfl ?_ | refine endG_ret [] hE rfl ?_ | refine endG_norm [] hE rfl ?_ | refine vcallB_of hP g1 ?_ | refine vcallB_of hP g2 ?_ | refine vcallB_of hP a1 ?_ | refine vcallB_of hP a2 ?_ | refine vcall_A ?_); simp (maxSteps := 2000000) only [go_sem, hP, ↓reduceIte, Nat.reduceAdd, Nat.reduceMul, Nat.reduceEqDiff, Nat.reduceSub, Nat.reduceLeDiff, reduceCtorEq, dl, e1, e2, e3, e4, List.length_map])
              | refine ev_skip ?_ | refine ev_block ?_ | refine ev_blk ?_ | refine ev_ret ?_ | refine ev_exit ?_ | refine evx_code_ret ?_ | refine evx_blk_ret ?_ | refine evx_lp_ret ?_
              | refine evx_code_exit ?_ | refine evx_lp_exit ?_ | refine evx_blk_hit ?_ | refine evx_blk_pass (by decide) ?_
              | refine And.intro ?_ ?_ | intro _ | decide +kernel | omega)
            all_goals first | (rw [eS]; done) | (exfalso; omega) | omega | (simp_all; done) | trace_state
      · rw [if_neg (by omega)] at eS
        have e2 : (g == h) = false := beq_eq_false_iff_ne.2 q2
        repeat' (first
          | exact True.intro
          | refine ev_seq ?_
          | ((first | refine vgd_go ?_ | refine ev_region hE hM (hS (by decide +kernel)) ?_ | refine ev_if ?_ | refine end_ret hE rfl rfl ?_ | refine end_norm hE rfl rfl ?_ | refine endG_ret [] hE rfl ?_ | refine endG_norm [] hE rfl ?_ | refine vcallB_of hP g1 ?_ | refine vcallB_of hP g2 ?_ | refine vcallB_of hP a1 ?_ | refine vcallB_of hP a2 ?_ | refine vcall_A ?_); simp (maxSteps := 2000000) only [go_sem, hP, ↓reduceIte, Nat.reduceAdd, Nat.reduceMul, Nat.reduceEqDiff, Nat.reduceSub, Nat.reduceLeDiff, reduceCtorEq, dl, e1, e2, List.length_map])
          | refine ev_skip ?_ | refine ev_block ?_ | refine ev_blk ?_ | refine ev_ret ?_ | refine ev_exit ?_ | refine evx_code_ret ?_ | refine evx_blk_ret ?_ | refine evx_lp_ret ?_
          | refine evx_code_exit ?_ | refine evx_lp_exit ?_ | refine evx_blk_hit ?_ | refine evx_blk_pass (by decide) ?_
          | refine And.intro ?_ ?_ | intro _ | decide +kernel | omega)
        all_goals first | (rw [eS]; done) | (exfalso; omega) | omega | (simp_all; done) | trace_state
theorem s_isNaNInt (a : Int) : Sat Tryz.prog 93 [aI a] true (rB false) := by
  refine sat_walk (fn := Tryz.f93) rfl rfl rfl (Nat.le_of_ble_eq_true rfl) fun fr hP hN hbnd => ?_
  have hE : (envOf fr Tryz.prog).Ok := envOf_ok hP
  have hM := follows_of hP
  have hS : ∀ {draw ops}, statB Tryz.f93.ntmps draw ops = true → statB (envOf fr Tryz.prog).fr.N draw ops = true := fun h => by rw [envOf_fr, hN]; exact h
  repeat' (first
    | exact True.intro
    | refine ev_seq ?_
    | ((first | refine vgd_go ?_ | refine ev_region hE hM (hS (by decide +kernel)) ?_ | refine ev_if ?_ | refine end_ret hE rfl rfl ?_ | refine end_norm hE rfl rfl ?_ | refine endG_ret [] hE rfl ?_ | refine endG_norm [] hE rfl ?_ | refine vcall_A ?_); simp (maxSteps := 2000000) only [go_sem, hP, ↓reduceIte, Nat.reduceAdd, Nat.reduceMul, Nat.reduceEqDiff, Nat.reduceSub, Nat.reduceLeDiff, reduceCtorEq])
    | refine ev_skip ?_ | refine ev_block ?_ | refine ev_blk ?_ | refine ev_ret ?_ | refine ev_exit ?_ | refine evx_code_ret ?_ | refine evx_blk_ret ?_ | refine evx_lp_ret ?_
    | refine evx_code_exit ?_ | refine evx_lp_exit ?_ | refine evx_blk_hit ?_ | refine evx_blk_pass (by decide) ?_
    | refine And.intro ?_ ?_ | intro _ | decide +kernel | omega)
  all_goals simp
theorem s_CompareInt (a b : Int) : Sat Tryz.prog 70 [aI a, aI b] true (rI (cmpI a b)) := by
  refine sat_walk (fn := Tryz.f70) rfl rfl rfl (Nat.le_of_ble_eq_true rfl) fun fr hP hN hbnd => ?_
  have hE : (envOf fr Tryz.prog).Ok := envOf_ok hP
  have hM := follows_of hP
  have hS : ∀ {draw ops}, statB Tryz.f70.ntmps draw ops = true → statB (envOf fr Tryz.prog).fr.N draw ops = true := fun h => by rw [envOf_fr, hN]; exact h
  repeat' (first
    | exact True.intro
    | refine ev_seq ?_
    | ((first | refine vgd_go ?_ | refine ev_region hE hM (hS (by decide +kernel)) ?_ | refine ev_if ?_ | refine end_ret hE rfl rfl ?_ | refine end_norm hE rfl rfl ?_ | refine endG_ret [] hE rfl ?_ | refine endG_norm [] hE rfl ?_ | refine vcallB_of hP (s_isNaNInt _) ?_ | refine vcall_A ?_); simp (maxSteps := 2000000) only [go_sem, hP, ↓reduceIte, Nat.reduceAdd, Nat.reduceMul, Nat.reduceEqDiff, Nat.reduceSub, Nat.reduceLeDiff, reduceCtorEq])
    | refine ev_skip ?_ | refine ev_block ?_ | refine ev_blk ?_ | refine ev_ret ?_ | refine ev_exit ?_ | refine evx_code_ret ?_ | refine evx_blk_ret ?_ | refine evx_lp_ret ?_
    | refine evx_code_exit ?_ | refine evx_lp_exit ?_ | refine evx_blk_hit ?_ | refine evx_blk_pass (by decide) ?_
    | refine And.intro ?_ ?_ | intro _ | decide +kernel | omega)
  all_goals first | (simp_all [cmpI]; done) | (simp_all [cmpI]; omega) | trace_state
theorem s_Or3 (a b c : Int) : Sat Tryz.prog 47 [.d (false, [.sl none 1 [[.int .i64 a], [.int .i64 b], [.int .i64 c]]])] true (rI (firstF id [a, b, c])) := s_OrL [a, b, c]
theorem or3_pos (g h u v : Int) (a b : Nat) : 0 < firstF id [cmpI g h, cmpI u v, cmpI a b] ↔ (h < g ∨ g = h ∧ (v < u ∨ u = v ∧ b < a)) := by
  simp only [firstF, id, cmpI]
  (repeat' split) <;> omega
theorem s_next (xs : List Entry) (ins : List Int) (d : Int) (hr : ∀ x ∈ xs, rf x.rect d = 0) (hl : ins.length = xs.length) (hb : xs.length ≤ 1000) (h1 : 0 < (selE xs ins 1).length) (h2 : 0 < (selE xs ins 2).length) (h0 : ∃ j, j < xs.length ∧ ins.getD j default = 0) :
    SatG Tryz.prog 42 false [.ptr 1 0] [(1, .box [.c (sEntryS xs), .ref 2]), gIn 2 ins] (.tup []) [(1, .box [.c (sEntryS xs), .ref 2]), gIn 2 (ins.set (nxI xs ins) (nxS xs ins))] := by
  refine satG_walk (fn := Tryz.f42) rfl rfl rfl (Nat.le_of_ble_eq_true rfl) (by simp) fun fr hP hN hdp hb1 hb2 => ?_
  have hE : (envOf fr Tryz.prog).Ok := envOf_ok hP
  have hM := follows_of hP
  have hS : ∀ {draw ops}, statB Tryz.f42.ntmps draw ops = true → statB (envOf fr Tryz.prog).fr.N draw ops = true := fun h => by rw [envOf_fr, hN]; exact h
  have c1 := s_ofG xs ins 1 hl hb
  have c2 := s_ofG xs ins 2 hl hb
  have r1 := bx_rf (fun x hx => hr x (selE_mem x hx)) h1
  have r2 := bx_rf (fun x hx => hr x (selE_mem x hx)) h2
  have b1 := s_box (selE xs ins 1) d.toNat (rf_even fun x hx => hr x (selE_mem x hx)) h1 (by have := rf_two r1; omega)
  have b2 := s_box (selE xs ins 2) d.toNat (rf_even fun x hx => hr x (selE_mem x hx)) h2 (by have := rf_two r2; omega)
  have hn := nb_in xs ins (nxP xs ins) (nxQ xs ins) xs.length
  have hn0 := hn.2.2.2 h0
  have eI : nb xs ins (nxP xs ins) (nxQ xs ins) xs.length = nxI xs ins := by unfold nxI; omega
  have eS : nxS xs ins = sideC (nxP xs ins) (nxQ xs ins) (selE xs ins 1).length (selE xs ins 2).length (xs.getD (nxI xs ins) default).rect := rfl
  have hi : nxI xs ins < xs.length := by omega
  rw [show bx (selE xs ins 1) = nxP xs ins from rfl] at b1 r1
  rw [show bx (selE xs ins 2) = nxQ xs ins from rfl] at b2 r2
  generalize nxI xs ins = i at *
  generalize nxS xs ins = s at *
  generalize nxP xs ins = p at *
  generalize nxQ xs ins = q at *
  generalize selE xs ins 1 = ys at *
  generalize selE xs ins 2 = zs at *
  have hpl := rf_two r1
  have pl := rf_len r1
  repeat' (first
    | exact True.intro
    | refine ev_seq ?_
    | ((first | refine vgd_go ?_ | refine ev_region hE hM (hS (by decide +kernel)) ?_ | refine ev_if ?_ | refine end_ret hE rfl rfl ?_ | refine end_norm hE rfl rfl ?_ | refine endG_ret [] hE rfl ?_ | refine endG_norm [] hE rfl ?_ | refine vcallG_of (args := [.ptr 1 0, iT 1]) [(1, 1), (2, 2)] [] hP c1 ?_ | refine vcallG_of (args := [.ptr 1 0, iT 2]) [(1, 1), (2, 2)] [] hP c2 ?_ | refine vcallB_of hP b1 ?_ | refine vcallB_of hP b2 ?_ | refine vcall_A ?_); simp (maxSteps := 2000000) only [go_sem, hP, ↓reduceIte, Nat.reduceAdd, Nat.reduceMul, Nat.reduceEqDiff, Nat.reduceSub, Nat.reduceLeDiff, reduceCtorEq, List.length_map])
    | refine ev_skip ?_ | refine ev_block ?_ | refine ev_blk ?_ | refine ev_ret ?_ | refine ev_exit ?_ | refine evx_code_ret ?_ | refine evx_blk_ret ?_ | refine evx_lp_ret ?_
    | refine evx_code_exit ?_ | refine evx_lp_exit ?_ | refine evx_blk_hit ?_ | refine evx_blk_pass (by decide) ?_
    | refine And.intro ?_ ?_ | intro _ | decide +kernel | omega)
  refine ev_loop (ι := Nat) (fun k => [(0, .ptr 1 0), (2, .ref 3145736), (3, .ref 3145752), (4, .ptr 4128 0), (5, .ptr 4136 0), (6, iT (nb xs ins p q k)), (7, iT (nbM xs ins p q k)), (23, .c (sEntryS xs)), (24, iT xs.length), (25, iT k)]) (fun _ => [(1, .box [.c (sEntryS xs), .ref 2]), gIn 2 ins, (3145736, .fro 4 (ys.map eEntry)), (3145752, .fro 4 (zs.map eEntry)), (4128, .box [.ref 4104, .ref 1052680]), gI 4104 p.low, gI 1052680 p.high, (4136, .box [.ref 4120, .ref 1052696]), gI 4120 q.low, gI 1052696 q.high]) (fun _ => [(0, .ref 1), (1, .ref 2)]) (fun k => k ≤ xs.length) (fun k => xs.length - k) 0 [] (by omega) (by simp only [go_sem, hP, ↓reduceIte, Nat.reduceAdd, Nat.reduceMul, Nat.reduceEqDiff, Nat.reduceSub, Nat.reduceLeDiff, reduceCtorEq]; simp [nb, nbM]) ?_
  intro k hk
  by_cases hlt : k < xs.length
  · have hw1 : IntKind.i64.wrap ((k : Int) + 1) = k + 1 := i64_in _ (by omega)
    have dl : decide ((k : Int) < (xs.length : Int)) = true := by simp only [decide_eq_true_eq]; omega
    have hli : k < ins.length := by omega
    have hnk := nb_in xs ins p q k
    by_cases hz : ins.getD k default = 0
    · have d1 : (ins.getD k default != 0) = false := by rw [hz]; rfl
      have hx := hr _ (getD_mem (d := default) hlt)
      have g1 := s_growth p (xs.getD k default).rect (rf_lens r1 hx) (by omega)
      have g2 := s_growth q (xs.getD k default).rect (rf_lens r2 hx) (by have := rf_len r2; omega)
      have i1 := growth_two r1 hx
      have i2 := growth_two r2 hx
      have w1 : IntKind.i64.wrap (growth p (xs.getD k default).rect - growth q (xs.getD k default).rect) = growth p (xs.getD k default).rect - growth q (xs.getD k default).rect := i64_in _ (by omega)
      have w2 : IntKind.i64.wrap (0 - (growth p (xs.getD k default).rect - growth q (xs.getD k default).rect)) = -(growth p (xs.getD k default).rect - growth q (xs.getD k default).rect) := by rw [i64_in _ (by omega)]; omega
      have eD : max (growth p (xs.getD k default).rect - growth q (xs.getD k default).rect) (-(growth p (xs.getD k default).rect - growth q (xs.getD k default).rect)) = dE p q (xs.getD k default) := rfl
      by_cases hb0 : nb xs ins p q k < 0
      · have d2 := decide_eq_true hb0
        have e1 : nb xs ins p q (k + 1) = k := by simp only [nb]; rw [if_pos hz, if_pos (Or.inl hb0)]
        have e2 : nbM xs ins p q (k + 1) = dE p q (xs.getD k default) := by unfold nbM; rw [e1, if_neg (by omega)]; simp
        repeat' (first
          | exact True.intro
          | refine ev_seq ?_
          | ((first | refine vgd_go ?_ | refine ev_region hE hM (hS (by decide +kernel)) ?_ | refine ev_if ?_ | refine end_ret hE rfl rfl ?_ | refine end_norm hE rfl rfl ?_ | refine endG_ret [] hE rfl ?_ | refine endG_norm [] hE rfl ?_ | refine vcallB_of hP g1 ?_ | refine vcallB_of hP g2 ?_ | refine vcall_A ?_); simp (maxSteps := 2000000) only [go_sem, hP, ↓reduceIte, Nat.reduceAdd, Nat.reduceMul, Nat.reduceEqDiff, Nat.reduceSub, Nat.reduceLeDiff, reduceCtorEq, dl, d1, d2, w1, w2, eD, List.length_map])
          | refine ev_skip ?_ | refine ev_block ?_ | refine ev_blk ?_ | refine ev_ret ?_ | refine ev_exit ?_ | refine evx_code_ret ?_ | refine evx_blk_ret ?_ | refine evx_lp_ret ?_
          | refine evx_code_exit ?_ | refine evx_lp_exit ?_ | refine evx_blk_hit ?_ | refine evx_blk_pass (by decide) ?_
          | refine And.intro ?_ ?_ | intro _ | decide +kernel | omega)
        all_goals first
          | exact ev_lp (k + 1) [] (by omega) (by omega) (by simp only [go_sem, hP, ↓reduceIte, Nat.reduceAdd, Nat.reduceMul, Nat.reduceEqDiff, Nat.reduceSub, Nat.reduceLeDiff, reduceCtorEq]; rw [e1, e2]; simp [hw1, dE])
          | (exfalso; omega)
          | omega
          | (simp_all; done)
          | trace_state
      · have d2 := decide_eq_false hb0
        have eM : nbM xs ins p q k = dE p q (xs.getD (nb xs ins p q k).toNat default) := by unfold nbM; rw [if_neg hb0]
        by_cases hc : nbM xs ins p q k < dE p q (xs.getD k default)
        · have d3 := decide_eq_true hc
          have e1 : nb xs ins p q (k + 1) = k := by simp only [nb]; rw [if_pos hz, if_pos (Or.inr (by rw [← eM]; exact hc))]
          have e2 : nbM xs ins p q (k + 1) = dE p q (xs.getD k default) := by unfold nbM; rw [e1, if_neg (by omega)]; simp
          repeat' (first
            | exact True.intro
            | refine ev_seq ?_
            | ((first | refine vgd_go ?_ | refine ev_region hE hM (hS (by decide +kernel)) ?_ | refine ev_if ?_ | refine end_ret hE rfl rfl ?_ | refine end_norm hE rfl rfl ?_ | refine endG_ret [] hE rfl ?_ | refine endG_norm [] hE rfl ?_ | refine vcallB_of hP g1 ?_ | refine vcallB_of hP g2 ?_ | refine vcall_A ?_); simp (maxSteps := 2000000) only [go_sem, hP, ↓reduceIte, Nat.reduceAdd, Nat.reduceMul, Nat.reduceEqDiff, Nat.reduceSub, Nat.reduceLeDiff, reduceCtorEq, dl, d1, d2, d3, w1, w2, eD, List.length_map])
            | refine ev_skip ?_ | refine ev_block ?_ | refine ev_blk ?_ | refine ev_ret ?_ | refine ev_exit ?_ | refine evx_code_ret ?_ | refine evx_blk_ret ?_ | refine evx_lp_ret ?_
            | refine evx_code_exit ?_ | refine evx_lp_exit ?_ | refine evx_blk_hit ?_ | refine evx_blk_pass (by decide) ?_
            | refine And.intro ?_ ?_ | intro _ | decide +kernel | omega)
          all_goals first
            | exact ev_lp (k + 1) [] (by omega) (by omega) (by simp only [go_sem, hP, ↓reduceIte, Nat.reduceAdd, Nat.reduceMul, Nat.reduceEqDiff, Nat.reduceSub, Nat.reduceLeDiff, reduceCtorEq]; rw [e1, e2]; simp [hw1, dE])
            | (exfalso; omega)
            | omega
            | (simp_all; done)
            | trace_state
        · have d3 := decide_eq_false hc
          have e1 : nb xs ins p q (k + 1) = nb xs ins p q k := by simp only [nb]; rw [if_pos hz, if_neg (by rw [← eM]; omega)]
          have e2 : nbM xs ins p q (k + 1) = nbM xs ins p q k := by unfold nbM; rw [e1]
          repeat' (first
            | exact True.intro
            | refine ev_seq ?_
            | ((first | refine vgd_go ?_ | refine ev_region hE hM (hS (by decide +kernel)) ?_ | refine ev_if ?_ | refine end_ret hE rfl rfl ?_ | refine end_norm hE rfl rfl ?_ | refine endG_ret [] hE rfl ?_ | refine endG_norm [] hE rfl ?_ | refine vcallB_of hP g1 ?_ | refine vcallB_of hP g2 ?_ | refine vcall_A ?_); simp (maxSteps := 2000000) only [go_sem, hP, ↓reduceIte, Nat.reduceAdd, Nat.reduceMul, Nat.reduceEqDiff, Nat.reduceSub, Nat.reduceLeDiff, reduceCtorEq, dl, d1, d2, d3, w1, w2, eD, List.length_map])
            | refine ev_skip ?_ | refine ev_block ?_ | refine ev_blk ?_ | refine ev_ret ?_ | refine ev_exit ?_ | refine evx_code_ret ?_ | refine evx_blk_ret ?_ | refine evx_lp_ret ?_
            | refine evx_code_exit ?_ | refine evx_lp_exit ?_ | refine evx_blk_hit ?_ | refine evx_blk_pass (by decide) ?_
            | refine And.intro ?_ ?_ | intro _ | decide +kernel | omega)
          all_goals first
            | exact ev_lp (k + 1) [] (by omega) (by omega) (by simp only [go_sem, hP, ↓reduceIte, Nat.reduceAdd, Nat.reduceMul, Nat.reduceEqDiff, Nat.reduceSub, Nat.reduceLeDiff, reduceCtorEq]; rw [e1, e2]; simp [hw1])
            | (exfalso; omega)
            | omega
            | (simp_all; done)
            | trace_state
    · have d1 : (ins.getD k default != 0) = true := by simpa using hz
      have e1 : nb xs ins p q (k + 1) = nb xs ins p q k := by simp only [nb]; rw [if_neg hz]
      have e2 : nbM xs ins p q (k + 1) = nbM xs ins p q k := by unfold nbM; rw [e1]
      repeat' (first
        | exact True.intro
        | refine ev_seq ?_
        | ((first | refine vgd_go ?_ | refine ev_region hE hM (hS (by decide +kernel)) ?_ | refine ev_if ?_ | refine end_ret hE rfl rfl ?_ | refine end_norm hE rfl rfl ?_ | refine endG_ret [] hE rfl ?_ | refine endG_norm [] hE rfl ?_ | refine vcall_A ?_); simp (maxSteps := 2000000) only [go_sem, hP, ↓reduceIte, Nat.reduceAdd, Nat.reduceMul, Nat.reduceEqDiff, Nat.reduceSub, Nat.reduceLeDiff, reduceCtorEq, dl, d1, List.length_map])
        | refine ev_skip ?_ | refine ev_block ?_ | refine ev_blk ?_ | refine ev_ret ?_ | refine ev_exit ?_ | refine evx_code_ret ?_ | refine evx_blk_ret ?_ | refine evx_lp_ret ?_
        | refine evx_code_exit ?_ | refine evx_lp_exit ?_ | refine evx_blk_hit ?_ | refine evx_blk_pass (by decide) ?_
        | refine And.intro ?_ ?_ | intro _ | decide +kernel | omega)
      all_goals first
        | exact ev_lp (k + 1) [] (by omega) (by omega) (by simp only [go_sem, hP, ↓reduceIte, Nat.reduceAdd, Nat.reduceMul, Nat.reduceEqDiff, Nat.reduceSub, Nat.reduceLeDiff, reduceCtorEq]; rw [e1, e2]; simp [hw1])
        | (exfalso; omega)
        | omega
        | (simp_all; done)
        | trace_state
  · obtain rfl : k = xs.length := by omega
    have dl : decide ((xs.length : Int) < (xs.length : Int)) = false := by simp
    have hx := hr _ (getD_mem (d := default) hi)
    have hii : i < ins.length := by omega
    have hst1 : (List.map Vm.eI ins).set i [C.int IntKind.i64 1] = List.map Vm.eI (ins.set i 1) := by rw [List.map_set]; rfl
    have hst2 : (List.map Vm.eI (ins.set i 1)).set i [C.int IntKind.i64 2] = List.map Vm.eI (ins.set i 2) := by rw [List.map_set, List.set_set, List.map_set]; rfl
    have hls : (ins.set i 1).length = ins.length := by simp
    have g1 := s_growth p (xs.getD i default).rect (rf_lens r1 hx) (by omega)
    have g2 := s_growth q (xs.getD i default).rect (rf_lens r2 hx) (by have := rf_len r2; omega)
    have a1 := s_implarea p (by have := rf_len r1; omega)
    have a2 := s_implarea q (by have := rf_len r2; omega)
    have o3 := or3_pos (growth p (xs.getD i default).rect) (growth q (xs.getD i default).rect) (area p) (area q) ys.length zs.length
    unfold sideC at eS
    generalize growth p (xs.getD i default).rect = g at *
    generalize growth q (xs.getD i default).rect = h at *
    generalize area p = u at *
    generalize area q = v at *
    have m1 := s_Compare g h
    have m2 := s_Compare u v
    have m3 := s_CompareInt ys.length zs.length
    have m4 := s_Or3 (cmpI g h) (cmpI u v) (cmpI ys.length zs.length)
    generalize firstF id [cmpI g h, cmpI u v, cmpI ys.length zs.length] = o at *
    rw [eI]
    by_cases q1 : 0 < o
    · rw [if_pos (o3.1 q1)] at eS
      have e1 := decide_eq_true q1
      repeat' (first
        | exact True.intro
        | refine ev_seq ?_
        | ((first | refine vgd_go ?_ | refine ev_region hE hM (hS (by decide +kernel)) ?_ | refine ev_if ?_ | refine end_ret hE rfl rfl ?_ | refine end_norm hE rfl rfl ?_ | refine endG_ret [] hE rfl ?_ | refine endG_norm [] hE rfl ?_ | refine vcallB_of hP g1 ?_ | refine vcallB_of hP g2 ?_ | refine vcallB_of hP a1 ?_ | refine vcallB_of hP a2 ?_ | refine vcallB_of hP m1 ?_ | refine vcallB_of hP m2 ?_ | refine vcallB_of hP m3 ?_ | refine vcallB_of hP m4 ?_ | refine vcall_A ?_); simp (maxSteps := 2000000) only [go_sem, hP, ↓reduceIte, Nat.reduceAdd, Nat.reduceMul, Nat.reduceEqDiff, Nat.reduceSub, Nat.reduceLeDiff, reduceCtorEq, dl, e1, hst1, hst2, hls, List.length_map])
        | refine ev_skip ?_ | refine ev_block ?_ | refine ev_blk ?_ | refine ev_ret ?_ | refine ev_exit ?_ | refine evx_code_ret ?_ | refine evx_blk_ret ?_ | refine evx_lp_ret ?_
        | refine evx_code_exit ?_ | refine evx_lp_exit ?_ | refine evx_blk_hit ?_ | refine evx_blk_pass (by decide) ?_
        | refine And.intro ?_ ?_ | intro _ | decide +kernel | omega)
      all_goals first | (rw [eS]; done) | (exfalso; omega) | omega | (simp_all; done) | trace_state
    · rw [if_neg (fun hh => q1 (o3.2 hh))] at eS
      have e1 := decide_eq_false q1
      repeat' (first
        | exact True.intro
        | refine ev_seq ?_
        | ((first | refine vgd_go ?_ | refine ev_region hE hM (hS (by decide +kernel)) ?_ | refine ev_if ?_ | refine end_ret hE rfl rfl ?_ | refine end_norm hE rfl rfl ?_ | refine endG_ret [] hE rfl ?_ | refine endG_norm [] hE rfl ?_ | refine vcallB_of hP g1 ?_ | refine vcallB_of hP g2 ?_ | refine vcallB_of hP a1 ?_ | refine vcallB_of hP a2 ?_ | refine vcallB_of hP m1 ?_ | refine vcallB_of hP m2 ?_ | refine vcallB_of hP m3 ?_ | refine vcallB_of hP m4 ?_ | refine vcall_A ?_); simp (maxSteps := 2000000) only [go_sem, hP, ↓reduceIte, Nat.reduceAdd, Nat.reduceMul, Nat.reduceEqDiff, Nat.reduceSub, Nat.reduceLeDiff, reduceCtorEq, dl, e1, hst1, hst2, hls, List.length_map])
        | refine ev_skip ?_ | refine ev_block ?_ | refine ev_blk ?_ | refine ev_ret ?_ | refine ev_exit ?_ | refine evx_code_ret ?_ | refine evx_blk_ret ?_ | refine evx_lp_ret ?_
        | refine evx_code_exit ?_ | refine evx_lp_exit ?_ | refine evx_blk_hit ?_ | refine evx_blk_pass (by decide) ?_
        | refine And.intro ?_ ?_ | intro _ | decide +kernel | omega)
      all_goals first | (rw [eS]; done) | (exfalso; omega) | omega | (simp_all; done) | trace_state
theorem selTo_count {xs : List Entry} {ins : List Int} (s : Int) : ∀ k, k ≤ ins.length → (selTo xs ins s k).length = (ins.take k).count s
  | 0, _ => by simp [selTo]
  | k + 1, hk => by
    have ih := selTo_count (xs := xs) (ins := ins) s k (by omega)
    rw [take_step (d := default) (show k < ins.length by omega), List.count_append, ← ih]
    by_cases h : ins.getD k default = s
    · rw [selTo_yes h, h]; simp
    · rw [selTo_no h, List.count_singleton, if_neg (by simpa using h)]; omega
theorem selE_count {xs : List Entry} {ins : List Int} (s : Int) (h : ins.length = xs.length) : (selE xs ins s).length = ins.count s := by
  unfold selE
  rw [selTo_count s _ (by omega), ← h, List.take_length]
def quadF (xs : List Entry) : Nat → List Int → List Int
  | 0, ins => ins
  | f + 1, ins => if ((f : Int) + 1) ≤ 2 - (selE xs ins 1).length then fillV ins 1 else if ((f : Int) + 1) ≤ 2 - (selE xs ins 2).length then fillV ins 2 else quadF xs f (ins.set (nxI xs ins) (nxS xs ins))
def startV (n x y : Nat) : List Int := ((List.replicate n 0).set x 1).set y 2
def quadV (xs : List Entry) : List Int := quadF xs (xs.length - 2) (startV xs.length (sd xs).x.toNat (sd xs).y.toNat)
structure QOk (xs : List Entry) (ins : List Int) : Prop where
  len : ins.length = xs.length
  one : 0 < ins.count 1
  two : 0 < ins.count 2
theorem nxS_two (xs : List Entry) (ins : List Int) : nxS xs ins = 1 ∨ nxS xs ins = 2 := by unfold nxS sideC; split <;> simp
theorem zero_at {ins : List Int} (h : 0 < ins.count 0) : ∃ j, j < ins.length ∧ ins.getD j default = 0 := by
  obtain ⟨j, hj, e⟩ := List.mem_iff_getElem.1 (List.count_pos_iff.1 h)
  exact ⟨j, hj, by rw [getD_lt hj]; exact e⟩
theorem nxI_ok {xs : List Entry} {ins : List Int} (q : ins.length = xs.length) (h : 0 < ins.count 0) : nxI xs ins < ins.length ∧ ins.getD (nxI xs ins) default = 0 := by
  obtain ⟨j, hj, hz⟩ := zero_at h
  have hn := nb_in xs ins (nxP xs ins) (nxQ xs ins) xs.length
  have h0 := hn.2.2.2 ⟨j, by omega, hz⟩
  have h1 := hn.2.2.1 h0
  unfold nxI
  exact ⟨by omega, h1⟩
theorem quad_next {xs : List Entry} {ins : List Int} (q : QOk xs ins) (h : 0 < ins.count 0) : QOk xs (ins.set (nxI xs ins) (nxS xs ins)) ∧ (ins.set (nxI xs ins) (nxS xs ins)).count 0 + 1 = ins.count 0 := by
  obtain ⟨h1, h2⟩ := nxI_ok q.len h
  rw [getD_lt h1] at h2
  have q1 := q.one
  have q2 := q.two
  generalize nxI xs ins = i at *
  have c : ∀ b s : Int, (ins.set i s).count b = (ins.count b - if ((0 : Int) == b) = true then 1 else 0) + if (s == b) = true then 1 else 0 := fun b s => by rw [List.count_set h1, h2]
  have q3 := q.len
  have m1 : ((0 : Int) == 1) = false := rfl
  have m2 : ((0 : Int) == 2) = false := rfl
  have m3 : ((1 : Int) == 2) = false := rfl
  have m4 : ((2 : Int) == 1) = false := rfl
  have m5 : ((1 : Int) == 0) = false := rfl
  have m6 : ((2 : Int) == 0) = false := rfl
  rcases nxS_two xs ins with e | e <;> rw [e] <;> refine ⟨⟨by rw [List.length_set]; exact q3, ?_, ?_⟩, ?_⟩ <;> rw [c] <;> simp only [m1, m2, m3, m4, m5, m6, beq_self_eq_true, if_true, Bool.false_eq_true, if_false] <;> omega
theorem fill_zero {ins : List Int} {s : Int} (h : s ≠ 0) : (fillV ins s).count 0 = 0 := by
  rw [List.count_eq_zero]
  unfold fillV
  intro hm
  obtain ⟨x, _, hx⟩ := List.mem_map.1 hm
  split at hx
  · exact h hx
  · rename_i h0; exact h0 hx
theorem fill_ok {xs : List Entry} {ins : List Int} {s : Int} (q : QOk xs ins) : QOk xs (fillV ins s) := by
  have : ∀ b : Int, b ≠ 0 → b ∈ ins → b ∈ fillV ins s := fun b hb hm => List.mem_map.2 ⟨b, hm, by simp [hb]⟩
  exact ⟨by simp [fillV, q.len], List.count_pos_iff.2 (this 1 (by omega) (List.count_pos_iff.1 q.one)), List.count_pos_iff.2 (this 2 (by omega) (List.count_pos_iff.1 q.two))⟩
theorem start_ok {xs : List Entry} {x y : Nat} (hx : x < y) (hy : y < xs.length) : QOk xs (startV xs.length x y) ∧ (startV xs.length x y).count 0 = xs.length - 2 := by
  unfold startV
  have c : ∀ b : Int, (((List.replicate xs.length (0 : Int)).set x 1).set y 2).count b = ((((List.replicate xs.length (0 : Int)).count b - if ((0 : Int) == b) = true then 1 else 0) + if ((1 : Int) == b) = true then 1 else 0) - if ((0 : Int) == b) = true then 1 else 0) + if ((2 : Int) == b) = true then 1 else 0 := fun b => by
    rw [List.count_set (by simp; omega), List.count_set (by simp; omega)]
    simp [List.getElem_set, Nat.ne_of_lt hx]
  refine ⟨⟨by simp, ?_, ?_⟩, ?_⟩ <;> rw [c] <;> simp [List.count_replicate] <;> omega
/-- What a loop of the parting keeps. -/
structure QJ (xs : List Entry) (ins : List Int) : Prop where
  ok : QOk xs ins
  fin : quadF xs (ins.count 0) ins = quadV xs
theorem QJ.start {xs : List Entry} {x y : Nat} (e1 : (sd xs).x = x) (e2 : (sd xs).y = y) (hx : x < y) (hy : y < xs.length) : QJ xs (startV xs.length x y) := by
  obtain ⟨h1, h2⟩ := start_ok hx hy
  refine ⟨h1, ?_⟩
  rw [h2]; unfold quadV; rw [e1, e2]; simp
theorem QJ.done {xs : List Entry} {ins : List Int} (q : QJ xs ins) (h : ins.count 0 = 0) : ins = quadV xs := by
  have := q.fin; rw [h] at this; exact this
theorem QJ.one {xs : List Entry} {ins : List Int} (q : QJ xs ins) (h : 0 < ins.count 0) (hc : (ins.count 0 : Int) ≤ 2 - (selE xs ins 1).length) : fillV ins 1 = quadV xs := by
  have := q.fin
  obtain ⟨f, hf⟩ : ∃ f, ins.count 0 = f + 1 := ⟨ins.count 0 - 1, by omega⟩
  rw [hf] at this hc
  simp only [quadF] at this
  rw [if_pos (by omega)] at this
  exact this
theorem QJ.two {xs : List Entry} {ins : List Int} (q : QJ xs ins) (h : 0 < ins.count 0) (hn : ¬ (ins.count 0 : Int) ≤ 2 - (selE xs ins 1).length) (hc : (ins.count 0 : Int) ≤ 2 - (selE xs ins 2).length) : fillV ins 2 = quadV xs := by
  have := q.fin
  obtain ⟨f, hf⟩ : ∃ f, ins.count 0 = f + 1 := ⟨ins.count 0 - 1, by omega⟩
  rw [hf] at this hc hn
  simp only [quadF] at this
  rw [if_neg (by omega), if_pos (by omega)] at this
  exact this
theorem QJ.fill {xs : List Entry} {ins : List Int} {s : Int} (hs : s ≠ 0) (q : QJ xs ins) (h : fillV ins s = quadV xs) : QJ xs (fillV ins s) :=
  ⟨fill_ok q.ok, by rw [fill_zero hs]; exact h⟩
theorem QJ.next {xs : List Entry} {ins : List Int} (q : QJ xs ins) (h : 0 < ins.count 0) (hn : ¬ (ins.count 0 : Int) ≤ 2 - (selE xs ins 1).length) (hn2 : ¬ (ins.count 0 : Int) ≤ 2 - (selE xs ins 2).length) : QJ xs (ins.set (nxI xs ins) (nxS xs ins)) := by
  obtain ⟨h1, h2⟩ := quad_next q.ok h
  refine ⟨h1, ?_⟩
  have := q.fin
  obtain ⟨f, hf⟩ : ∃ f, ins.count 0 = f + 1 := ⟨ins.count 0 - 1, by omega⟩
  rw [hf] at this hn hn2
  simp only [quadF] at this
  rw [if_neg (by omega), if_neg (by omega)] at this
  rw [show (ins.set (nxI xs ins) (nxS xs ins)).count 0 = f by omega]
  exact this
theorem s_splitQuad (xs : List Entry) (d : Int) (hz : esf xs d = 0) (h4 : 4 ≤ xs.length) : Sat Tryz.prog 21 [aEntryS xs] true [(false, [oEntryS (selE xs (quadV xs) 1)]), (false, [oEntryS (selE xs (quadV xs) 2)])] := by
  refine sat_walk (fn := Tryz.f21) rfl rfl rfl (Nat.le_of_ble_eq_true rfl) fun fr hP hN hbnd => ?_
  have hE : (envOf fr Tryz.prog).Ok := envOf_ok hP
  have hM := follows_of hP
  have hS : ∀ {draw ops}, statB Tryz.f21.ntmps draw ops = true → statB (envOf fr Tryz.prog).fr.N draw ops = true := fun h => by rw [envOf_fr, hN]; exact h
  have hz1 := esf_len hz
  have hrf := esf_rf hz
  have hev := rf_even hrf
  obtain ⟨x, y, e1, e2, e3, e4⟩ := sd_ok (xs := xs) (by omega)
  have k0 := s_seeds xs d.toNat hev (by omega) (by omega)
  rw [e1, e2] at k0
  have hj0 := QJ.start e1 e2 e3 e4
  have hrep : List.replicate xs.length [C.int IntKind.i64 (Int.ofNat 0)] = List.map Vm.eI (List.replicate xs.length (0 : Int)) := by rw [List.map_replicate]; rfl
  have hmk : (List.map Vm.eI (List.replicate xs.length (0 : Int))).set x [C.int IntKind.i64 1] = List.map Vm.eI ((List.replicate xs.length (0 : Int)).set x 1) := by rw [List.map_set]; rfl
  have hmk2 : (List.map Vm.eI ((List.replicate xs.length (0 : Int)).set x 1)).set y [C.int IntKind.i64 2] = List.map Vm.eI (startV xs.length x y) := by unfold startV; rw [List.map_set (l := (List.replicate xs.length (0 : Int)).set x 1)]; rfl
  repeat' (first
    | exact True.intro
    | refine ev_seq ?_
    | ((first | refine vgd_go ?_ | refine ev_region hE hM (hS (by decide +kernel)) ?_ | refine ev_if ?_ | refine end_ret hE rfl rfl ?_ | refine end_norm hE rfl rfl ?_ | refine endG_ret [] hE rfl ?_ | refine endG_norm [] hE rfl ?_ | refine vcallB_of hP k0 ?_ | refine vcall_A ?_); simp (maxSteps := 2000000) only [go_sem, hP, ↓reduceIte, Nat.reduceAdd, Nat.reduceMul, Nat.reduceEqDiff, Nat.reduceSub, Nat.reduceLeDiff, reduceCtorEq, hrep, hmk, hmk2, List.length_map, List.length_set, List.length_replicate])
    | refine ev_skip ?_ | refine ev_block ?_ | refine ev_blk ?_ | refine ev_ret ?_ | refine ev_exit ?_ | refine evx_code_ret ?_ | refine evx_blk_ret ?_ | refine evx_lp_ret ?_
    | refine evx_code_exit ?_ | refine evx_lp_exit ?_ | refine evx_blk_hit ?_ | refine evx_blk_pass (by decide) ?_
    | refine And.intro ?_ ?_ | intro _ | decide +kernel | omega)
  refine ev_loop (ι := List Int) (fun ins => [(0, .c (sEntryS xs)), (4, .ptr 4136 0)]) (fun ins => [(4136, .box [.c (sEntryS xs), .ref 4120]), gIn 4120 ins]) (fun _ => []) (fun ins => QJ xs ins) (fun ins => ins.count 0) (startV xs.length x y) [] hj0 (by simp only [go_sem, hP, ↓reduceIte, Nat.reduceAdd, Nat.reduceMul, Nat.reduceEqDiff, Nat.reduceSub, Nat.reduceLeDiff, reduceCtorEq]) ?_
  intro ins q
  have hl := q.ok.len
  have n0 := selE_count (xs := xs) 0 hl
  have n1 := selE_count (xs := xs) 1 hl
  have n2 := selE_count (xs := xs) 2 hl
  have q1 := q.ok.one
  have q2 := q.ok.two
  have f0 := s_ofG xs ins 0 hl (by omega)
  have f1 := s_ofG xs ins 1 hl (by omega)
  have f2 := s_ofG xs ins 2 hl (by omega)
  have cl : ins.count 0 ≤ 10 ∧ ins.count 1 ≤ 10 ∧ ins.count 2 ≤ 10 := ⟨Nat.le_trans List.count_le_length (by omega), Nat.le_trans List.count_le_length (by omega), Nat.le_trans List.count_le_length (by omega)⟩
  by_cases h0 : ins.count 0 = 0
  · have hd := q.done h0
    have d0 : (((selE xs ins 0).length : Int) == 0) = true := by rw [n0, h0]; rfl
    have w1 := s_clonedEntries (selE xs ins 1) (by have := even_w (xs := selE xs ins 1) (d := d) (fun e he => hrf e (selE_mem e he)); omega)
    have w2 := s_clonedEntries (selE xs ins 2) (by have := even_w (xs := selE xs ins 2) (d := d) (fun e he => hrf e (selE_mem e he)); omega)
    rw [← hd]
    repeat' (first
      | exact True.intro
      | refine ev_seq ?_
      | ((first | refine vgd_go ?_ | refine ev_region hE hM (hS (by decide +kernel)) ?_ | refine ev_if ?_ | refine end_ret hE rfl rfl ?_ | refine end_norm hE rfl rfl ?_ | refine endG_ret [] hE rfl ?_ | refine endG_norm [] hE rfl ?_ | refine vcallG_of (args := [.ptr 4136 0, iT 0]) [(1, 4136), (2, 4120)] [] hP f0 ?_ | refine vcallG_of (args := [.ptr 4136 0, iT 1]) [(1, 4136), (2, 4120)] [] hP f1 ?_ | refine vcallG_of (args := [.ptr 4136 0, iT 2]) [(1, 4136), (2, 4120)] [] hP f2 ?_ | refine vcallB_of hP w1 ?_ | refine vcallB_of hP w2 ?_ | refine vcall_A ?_); simp (maxSteps := 2000000) only [go_sem, hP, ↓reduceIte, Nat.reduceAdd, Nat.reduceMul, Nat.reduceEqDiff, Nat.reduceSub, Nat.reduceLeDiff, reduceCtorEq, d0, List.length_map])
      | refine ev_skip ?_ | refine ev_block ?_ | refine ev_blk ?_ | refine ev_ret ?_ | refine ev_exit ?_ | refine evx_code_ret ?_ | refine evx_blk_ret ?_ | refine evx_lp_ret ?_
      | refine evx_code_exit ?_ | refine evx_lp_exit ?_ | refine evx_blk_hit ?_ | refine evx_blk_pass (by decide) ?_
      | refine And.intro ?_ ?_ | intro _ | decide +kernel | omega)
    all_goals first | rfl | (exfalso; omega) | (simp_all; done) | trace_state
  · have hpos : 0 < ins.count 0 := by omega
    have d0 : (((selE xs ins 0).length : Int) == 0) = false := by rw [n0]; exact beq_eq_false_iff_ne.2 (by omega)
    have w1 : IntKind.i64.wrap (2 - ((selE xs ins 1).length : Int)) = 2 - (selE xs ins 1).length := i64_in _ (by omega)
    have w2 : IntKind.i64.wrap (2 - ((selE xs ins 2).length : Int)) = 2 - (selE xs ins 2).length := i64_in _ (by omega)
    by_cases c1 : (ins.count 0 : Int) ≤ 2 - (selE xs ins 1).length
    · have d1 : decide (((selE xs ins 0).length : Int) ≤ 2 - ((selE xs ins 1).length : Int)) = true := by rw [n0]; exact decide_eq_true c1
      have hq := (q.one hpos c1)
      have hm := fill_zero (ins := ins) (s := 1) (by omega)
      have r1 := s_rest xs ins 1 (by omega)
      repeat' (first
        | exact True.intro
        | refine ev_seq ?_
        | ((first | refine vgd_go ?_ | refine ev_region hE hM (hS (by decide +kernel)) ?_ | refine ev_if ?_ | refine end_ret hE rfl rfl ?_ | refine end_norm hE rfl rfl ?_ | refine endG_ret [] hE rfl ?_ | refine endG_norm [] hE rfl ?_ | refine vcallG_of (args := [.ptr 4136 0, iT 0]) [(1, 4136), (2, 4120)] [] hP f0 ?_ | refine vcallG_of (args := [.ptr 4136 0, iT 1]) [(1, 4136), (2, 4120)] [] hP f1 ?_ | refine vcallG_of (args := [.ptr 4136 0, iT 2]) [(1, 4136), (2, 4120)] [] hP f2 ?_ | refine vcallG_of (args := [.ptr 4136 0, iT 1]) [(1, 4136), (2, 4120)] [] hP r1 ?_ | refine vcall_A ?_); simp (maxSteps := 2000000) only [go_sem, hP, ↓reduceIte, Nat.reduceAdd, Nat.reduceMul, Nat.reduceEqDiff, Nat.reduceSub, Nat.reduceLeDiff, reduceCtorEq, d0, w1, d1, List.length_map])
        | refine ev_skip ?_ | refine ev_block ?_ | refine ev_blk ?_ | refine ev_ret ?_ | refine ev_exit ?_ | refine evx_code_ret ?_ | refine evx_blk_ret ?_ | refine evx_lp_ret ?_
        | refine evx_code_exit ?_ | refine evx_lp_exit ?_ | refine evx_blk_hit ?_ | refine evx_blk_pass (by decide) ?_
        | refine And.intro ?_ ?_ | intro _ | decide +kernel | omega)
      all_goals first
        | exact ev_lp (fillV ins 1) [] (QJ.fill (by omega) q hq) (by omega) (by simp only [go_sem, hP, ↓reduceIte, Nat.reduceAdd, Nat.reduceMul, Nat.reduceEqDiff, Nat.reduceSub, Nat.reduceLeDiff, reduceCtorEq])
        | (exfalso; omega)
        | omega
        | (simp_all; done)
        | trace_state
    · have d1 : decide (((selE xs ins 0).length : Int) ≤ 2 - ((selE xs ins 1).length : Int)) = false := by rw [n0]; exact decide_eq_false c1
      by_cases c2 : (ins.count 0 : Int) ≤ 2 - (selE xs ins 2).length
      · have d2 : decide (((selE xs ins 0).length : Int) ≤ 2 - ((selE xs ins 2).length : Int)) = true := by rw [n0]; exact decide_eq_true c2
        have hq := (q.two hpos c1 c2)
        have hm := fill_zero (ins := ins) (s := 2) (by omega)
        have r2 := s_rest xs ins 2 (by omega)
        repeat' (first
          | exact True.intro
          | refine ev_seq ?_
          | ((first | refine vgd_go ?_ | refine ev_region hE hM (hS (by decide +kernel)) ?_ | refine ev_if ?_ | refine end_ret hE rfl rfl ?_ | refine end_norm hE rfl rfl ?_ | refine endG_ret [] hE rfl ?_ | refine endG_norm [] hE rfl ?_ | refine vcallG_of (args := [.ptr 4136 0, iT 0]) [(1, 4136), (2, 4120)] [] hP f0 ?_ | refine vcallG_of (args := [.ptr 4136 0, iT 1]) [(1, 4136), (2, 4120)] [] hP f1 ?_ | refine vcallG_of (args := [.ptr 4136 0, iT 2]) [(1, 4136), (2, 4120)] [] hP f2 ?_ | refine vcallG_of (args := [.ptr 4136 0, iT 2]) [(1, 4136), (2, 4120)] [] hP r2 ?_ | refine vcall_A ?_); simp (maxSteps := 2000000) only [go_sem, hP, ↓reduceIte, Nat.reduceAdd, Nat.reduceMul, Nat.reduceEqDiff, Nat.reduceSub, Nat.reduceLeDiff, reduceCtorEq, d0, w1, w2, d1, d2, List.length_map])
          | refine ev_skip ?_ | refine ev_block ?_ | refine ev_blk ?_ | refine ev_ret ?_ | refine ev_exit ?_ | refine evx_code_ret ?_ | refine evx_blk_ret ?_ | refine evx_lp_ret ?_
          | refine evx_code_exit ?_ | refine evx_lp_exit ?_ | refine evx_blk_hit ?_ | refine evx_blk_pass (by decide) ?_
          | refine And.intro ?_ ?_ | intro _ | decide +kernel | omega)
        all_goals first
          | exact ev_lp (fillV ins 2) [] (QJ.fill (by omega) q hq) (by omega) (by simp only [go_sem, hP, ↓reduceIte, Nat.reduceAdd, Nat.reduceMul, Nat.reduceEqDiff, Nat.reduceSub, Nat.reduceLeDiff, reduceCtorEq])
          | (exfalso; omega)
          | omega
          | (simp_all; done)
          | trace_state
      · have d2 : decide (((selE xs ins 0).length : Int) ≤ 2 - ((selE xs ins 2).length : Int)) = false := by rw [n0]; exact decide_eq_false c2
        have hq := q.next hpos c1 c2
        have hm := (quad_next q.ok hpos).2
        have nx := s_next xs ins d hrf hl (by omega) (by omega) (by omega) (by obtain ⟨j, h1, h2⟩ := zero_at hpos; exact ⟨j, by omega, h2⟩)
        repeat' (first
          | exact True.intro
          | refine ev_seq ?_
          | ((first | refine vgd_go ?_ | refine ev_region hE hM (hS (by decide +kernel)) ?_ | refine ev_if ?_ | refine end_ret hE rfl rfl ?_ | refine end_norm hE rfl rfl ?_ | refine endG_ret [] hE rfl ?_ | refine endG_norm [] hE rfl ?_ | refine vcallG_of (args := [.ptr 4136 0, iT 0]) [(1, 4136), (2, 4120)] [] hP f0 ?_ | refine vcallG_of (args := [.ptr 4136 0, iT 1]) [(1, 4136), (2, 4120)] [] hP f1 ?_ | refine vcallG_of (args := [.ptr 4136 0, iT 2]) [(1, 4136), (2, 4120)] [] hP f2 ?_ | refine vcallG_of (args := [.ptr 4136 0]) [(1, 4136), (2, 4120)] [] hP nx ?_ | refine vcall_A ?_); simp (maxSteps := 2000000) only [go_sem, hP, ↓reduceIte, Nat.reduceAdd, Nat.reduceMul, Nat.reduceEqDiff, Nat.reduceSub, Nat.reduceLeDiff, reduceCtorEq, d0, w1, w2, d1, d2, List.length_map])
          | refine ev_skip ?_ | refine ev_block ?_ | refine ev_blk ?_ | refine ev_ret ?_ | refine ev_exit ?_ | refine evx_code_ret ?_ | refine evx_blk_ret ?_ | refine evx_lp_ret ?_
          | refine evx_code_exit ?_ | refine evx_lp_exit ?_ | refine evx_blk_hit ?_ | refine evx_blk_pass (by decide) ?_
          | refine And.intro ?_ ?_ | intro _ | decide +kernel | omega)
        all_goals first
          | exact ev_lp (ins.set (nxI xs ins) (nxS xs ins)) [] hq (by omega) (by simp only [go_sem, hP, ↓reduceIte, Nat.reduceAdd, Nat.reduceMul, Nat.reduceEqDiff, Nat.reduceSub, Nat.reduceLeDiff, reduceCtorEq])
          | (exfalso; omega)
          | omega
          | (simp_all; done)
          | trace_state
end Go.Proofs.YtegohioalgikjaaGreat.W
