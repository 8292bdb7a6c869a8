/- Contracts of functions that FnSorts reaches: what each returns; it writes to nothing of old. No condition but those that each theorem states. -/
import Derived.Test.YtegohioalgikjaaQa2
open Go Go.Vm Go.Proofs Go.IntWalk Go.RowKit
set_option maxRecDepth 100000
set_option maxHeartbeats 4000000
set_option linter.unusedSimpArgs false
set_option linter.unusedVariables false
set_option linter.unusedSectionVars false
namespace Go.Proofs.Ytegohioalgikjaa.W
attribute [local irreducible] kJ ev evx vops vstep vgo vgd vget vcall vcallFn vcallA vcallB vts vres vcond vbin
theorem s_l5Axis (xs : List Entry) (d : Int) (hz : esf xs d = 0) (h4 : 4 ≤ xs.length) : Sat Try.prog 41 [aEntryS xs, aI d] true (rI (bA xs d.toNat)) := by
  refine sat_walk (fn := Try.f41) rfl rfl rfl (Nat.le_of_ble_eq_true rfl) fun fr hP hN hbnd => ?_
  have hE : (envOf fr Try.prog).Ok := envOf_ok hP
  have hM := follows_of hP
  have hS : ∀ {draw ops}, statB Try.f41.ntmps draw ops = true → statB (envOf fr Try.prog).fr.N draw ops = true := fun h => by rw [envOf_fr, hN]; exact h
  have hz1 := esf_len hz
  have hrf := esf_rf hz
  have hev := rf_even hrf
  repeat' (first
    | exact True.intro
    | refine ev_seq ?_
    | ((first | refine vgd_go ?_ | refine ev_region hE hM (hS (by decide +kernel)) ?_ | refine ev_if ?_ | refine end_ret hE rfl rfl ?_ | refine end_norm hE rfl rfl ?_ | refine endG_ret [] hE rfl ?_ | refine endG_norm [] hE rfl ?_ | refine vcall_A ?_); simp (maxSteps := 2000000) only [go_sem, hP, ↓reduceIte, Nat.reduceAdd, Nat.reduceMul, Nat.reduceEqDiff, Nat.reduceSub, Nat.reduceLeDiff, reduceCtorEq])
    | refine ev_skip ?_ | refine ev_block ?_ | refine ev_blk ?_ | refine ev_ret ?_ | refine ev_exit ?_ | refine evx_code_ret ?_ | refine evx_blk_ret ?_ | refine evx_lp_ret ?_
    | refine evx_code_exit ?_ | refine evx_lp_exit ?_ | refine evx_blk_hit ?_ | refine evx_blk_pass (by decide) ?_
    | refine And.intro ?_ ?_ | intro _ | decide +kernel | omega)
  refine ev_loop (ι := Nat) (fun a => [(0, .c (sEntryS xs)), (1, iT d), (5, iT (bA xs a)), (6, iT (if a = 0 then -1 else mgF xs (bA xs a))), (7, iT a)]) (fun _ => []) (fun _ => []) (fun a => (a : Int) ≤ d) (fun a => d.toNat - a) 0 [] (by omega) (by simp only [go_sem, hP, ↓reduceIte, Nat.reduceAdd, Nat.reduceMul, Nat.reduceEqDiff, Nat.reduceSub, Nat.reduceLeDiff, reduceCtorEq]; simp [bA]) ?_
  intro a ha
  by_cases hlt : (a : Int) < d
  · have hw1 : IntKind.i64.wrap ((a : Int) + 1) = a + 1 := i64_in _ (by omega)
    have hw2 : IntKind.i64.wrap ((xs.length : Int) - 2) = xs.length - 2 := i64_in _ (by omega)
    have dl : decide ((a : Int) < d) = true := by simp only [decide_eq_true_eq]; exact hlt
    have c1 := s_l5Sort xs a d.toNat hev (by omega) (by omega) (by omega)
    have hyr := sortE_rf a hrf
    have hye := rf_even hyr
    have hyl := sortE_len a xs
    have hF : mgF xs a = mgTo (sortE a xs) (xs.length - 3) := rfl
    have hf1 := mgF_in hrf h4 a
    have hf2 := mgF_in hrf h4 (bA xs a)
    generalize sortE a xs = ys at *
    repeat' (first
      | exact True.intro
      | refine ev_seq ?_
      | ((first | refine vgd_go ?_ | refine ev_region hE hM (hS (by decide +kernel)) ?_ | refine ev_if ?_ | refine end_ret hE rfl rfl ?_ | refine end_norm hE rfl rfl ?_ | refine endG_ret [] hE rfl ?_ | refine endG_norm [] hE rfl ?_ | refine vcallB_of hP c1 ?_ | refine vcall_A ?_); simp (maxSteps := 2000000) only [go_sem, hP, ↓reduceIte, Nat.reduceAdd, Nat.reduceMul, Nat.reduceEqDiff, Nat.reduceSub, Nat.reduceLeDiff, reduceCtorEq, dl])
      | refine ev_skip ?_ | refine ev_block ?_ | refine ev_blk ?_ | refine ev_ret ?_ | refine ev_exit ?_ | refine evx_code_ret ?_ | refine evx_blk_ret ?_ | refine evx_lp_ret ?_
      | refine evx_code_exit ?_ | refine evx_lp_exit ?_ | refine evx_blk_hit ?_ | refine evx_blk_pass (by decide) ?_
      | refine And.intro ?_ ?_ | intro _ | decide +kernel | omega)
    refine ev_loop (ι := Nat) (fun k => [(0, .c (sEntryS xs)), (1, iT d), (5, iT (bA xs a)), (6, iT (if a = 0 then -1 else mgF xs (bA xs a))), (7, iT a), (8, .c (sEntryS ys)), (9, iT (mgTo ys k)), (10, iT (k + 2 : Nat))]) (fun _ => []) (fun _ => []) (fun k => k + 3 ≤ xs.length) (fun k => xs.length - k) 0 [] (by omega) (by simp only [go_sem, hP, ↓reduceIte, Nat.reduceAdd, Nat.reduceMul, Nat.reduceEqDiff, Nat.reduceSub, Nat.reduceLeDiff, reduceCtorEq]; simp [mgTo]) ?_
    intro k hk
    by_cases hk4 : k + 4 ≤ xs.length
    · obtain ⟨r1, r2, m1, m2, m3, m4⟩ := mg_step (k := k) hyr (by omega)
      have mi := mgTo_in hyr k (by omega)
      have dk : decide (((k + 2 : Nat) : Int) ≤ (xs.length : Int) - 2) = true := by simp only [decide_eq_true_eq]; omega
      have hw3 : IntKind.i64.wrap (((k + 2 : Nat) : Int) + 1) = (k + 1 + 2 : Nat) := by rw [i64_in _ (by omega)]; omega
      have l1 := rf_len r1
      have l2 := rf_len r2
      have b1 := s_l3Box (ys.take (k + 2)) d.toNat (even_take hye) (by simp; omega) (by omega)
      have b2 := s_l3Box (ys.drop (k + 2)) d.toNat (even_drop hye) (by simp; omega) (by omega)
      have g1 := s_l1Margin (bx (ys.take (k + 2))) (by omega)
      have g2 := s_l1Margin (bx (ys.drop (k + 2))) (by omega)
      have w1 : IntKind.i64.wrap (mgTo ys k + margin (bx (ys.take (k + 2)))) = mgTo ys k + margin (bx (ys.take (k + 2))) := i64_in _ (by omega)
      have w2 : IntKind.i64.wrap (mgTo ys k + margin (bx (ys.take (k + 2))) + margin (bx (ys.drop (k + 2)))) = mgTo ys (k + 1) := by rw [i64_in _ (by omega)]; simp only [mgTo]; omega
      have t1 : List.take (k + 2 - Int.toNat 0) (List.drop (Int.toNat 0) (ys.map eEntry)) = (ys.take (k + 2)).map eEntry := by rw [show Int.toNat 0 = 0 from rfl, Nat.sub_zero, List.drop_zero, List.map_take]
      have t2 : List.take (ys.length - (k + 2)) (List.drop (k + 2) (ys.map eEntry)) = (ys.drop (k + 2)).map eEntry := by rw [← List.map_drop, List.take_of_length_le (by simp)]
      generalize bx (ys.take (k + 2)) = p1 at *
      generalize bx (ys.drop (k + 2)) = p2 at *
      repeat' (first
        | exact True.intro
        | refine ev_seq ?_
        | ((first | refine vgd_go ?_ | refine ev_region hE hM (hS (by decide +kernel)) ?_ | refine ev_if ?_ | refine end_ret hE rfl rfl ?_ | refine end_norm hE rfl rfl ?_ | refine endG_ret [] hE rfl ?_ | refine endG_norm [] hE rfl ?_ | refine vcallB_of hP b1 ?_ | refine vcallB_of hP b2 ?_ | refine vcallB_of hP g1 ?_ | refine vcallB_of hP g2 ?_ | refine vcall_A ?_); simp (maxSteps := 2000000) only [go_sem, hP, ↓reduceIte, Nat.reduceAdd, Nat.reduceMul, Nat.reduceEqDiff, Nat.reduceSub, Nat.reduceLeDiff, reduceCtorEq, hw2, dk, w1, w2, t1, t2, List.length_map])
        | refine ev_skip ?_ | refine ev_block ?_ | refine ev_blk ?_ | refine ev_ret ?_ | refine ev_exit ?_ | refine evx_code_ret ?_ | refine evx_blk_ret ?_ | refine evx_lp_ret ?_
        | refine evx_code_exit ?_ | refine evx_lp_exit ?_ | refine evx_blk_hit ?_ | refine evx_blk_pass (by decide) ?_
        | refine And.intro ?_ ?_ | intro _ | decide +kernel | omega)
      all_goals first
        | exact ev_lp (k + 1) [] (by omega) (by omega) (by simp only [go_sem, hP, ↓reduceIte, Nat.reduceAdd, Nat.reduceMul, Nat.reduceEqDiff, Nat.reduceSub, Nat.reduceLeDiff, reduceCtorEq]; exact hw3)
        | (exfalso; omega)
        | omega
        | (simp_all; done)
        | trace_state
    · obtain rfl : k = xs.length - 3 := by omega
      have dk : decide (((xs.length - 3 + 2 : Nat) : Int) ≤ (xs.length : Int) - 2) = false := by simp only [decide_eq_false_iff_not]; omega
      rw [← hF]
      by_cases h0 : a = 0
      · subst h0
        repeat' (first
          | exact True.intro
          | refine ev_seq ?_
          | ((first | refine vgd_go ?_ | refine ev_region hE hM (hS (by decide +kernel)) ?_ | refine ev_if ?_ | refine end_ret hE rfl rfl ?_ | refine end_norm hE rfl rfl ?_ | refine endG_ret [] hE rfl ?_ | refine endG_norm [] hE rfl ?_ | refine vcall_A ?_); simp (maxSteps := 2000000) only [go_sem, hP, ↓reduceIte, Nat.reduceAdd, Nat.reduceMul, Nat.reduceEqDiff, Nat.reduceSub, Nat.reduceLeDiff, reduceCtorEq, hw2, dk, List.length_map])
          | refine ev_skip ?_ | refine ev_block ?_ | refine ev_blk ?_ | refine ev_ret ?_ | refine ev_exit ?_ | refine evx_code_ret ?_ | refine evx_blk_ret ?_ | refine evx_lp_ret ?_
          | refine evx_code_exit ?_ | refine evx_lp_exit ?_ | refine evx_blk_hit ?_ | refine evx_blk_pass (by decide) ?_
          | refine And.intro ?_ ?_ | intro _ | decide +kernel | omega)
        all_goals first
          | exact ev_lp 1 [] (by omega) (by omega) (by simp only [go_sem, hP, ↓reduceIte, Nat.reduceAdd, Nat.reduceMul, Nat.reduceEqDiff, Nat.reduceSub, Nat.reduceLeDiff, reduceCtorEq]; simp [hw1, bA, show IntKind.i64.wrap 1 = 1 from rfl])
          | (exfalso; omega)
          | omega
          | (simp_all; done)
          | trace_state
      · have d0 : decide (mgF xs (bA xs a) < 0) = false := by simp only [decide_eq_false_iff_not]; omega
        by_cases hc : mgF xs a < mgF xs (bA xs a)
        · have d1 := decide_eq_true hc
          have e : bA xs (a + 1) = a := by show (if a = 0 then 0 else if mgF xs a < mgF xs (bA xs a) then a else bA xs a) = a; rw [if_neg h0, if_pos hc]
          repeat' (first
            | exact True.intro
            | refine ev_seq ?_
            | ((first | refine vgd_go ?_ | refine ev_region hE hM (hS (by decide +kernel)) ?_ | refine ev_if ?_ | refine end_ret hE rfl rfl ?_ | refine end_norm hE rfl rfl ?_ | refine endG_ret [] hE rfl ?_ | refine endG_norm [] hE rfl ?_ | refine vcall_A ?_); simp (maxSteps := 2000000) only [go_sem, hP, ↓reduceIte, Nat.reduceAdd, Nat.reduceMul, Nat.reduceEqDiff, Nat.reduceSub, Nat.reduceLeDiff, reduceCtorEq, hw2, dk, d0, d1, h0, List.length_map])
            | refine ev_skip ?_ | refine ev_block ?_ | refine ev_blk ?_ | refine ev_ret ?_ | refine ev_exit ?_ | refine evx_code_ret ?_ | refine evx_blk_ret ?_ | refine evx_lp_ret ?_
            | refine evx_code_exit ?_ | refine evx_lp_exit ?_ | refine evx_blk_hit ?_ | refine evx_blk_pass (by decide) ?_
            | refine And.intro ?_ ?_ | intro _ | decide +kernel | omega)
          all_goals first
            | exact ev_lp (a + 1) [] (by omega) (by omega) (by simp only [go_sem, hP, ↓reduceIte, Nat.reduceAdd, Nat.reduceMul, Nat.reduceEqDiff, Nat.reduceSub, Nat.reduceLeDiff, reduceCtorEq]; simp [hw1, e])
            | (exfalso; omega)
            | omega
            | (simp_all; done)
            | trace_state
        · have d1 := decide_eq_false hc
          have e : bA xs (a + 1) = bA xs a := by show (if a = 0 then 0 else if mgF xs a < mgF xs (bA xs a) then a else bA xs a) = _; rw [if_neg h0, if_neg hc]
          repeat' (first
            | exact True.intro
            | refine ev_seq ?_
            | ((first | refine vgd_go ?_ | refine ev_region hE hM (hS (by decide +kernel)) ?_ | refine ev_if ?_ | refine end_ret hE rfl rfl ?_ | refine end_norm hE rfl rfl ?_ | refine endG_ret [] hE rfl ?_ | refine endG_norm [] hE rfl ?_ | refine vcall_A ?_); simp (maxSteps := 2000000) only [go_sem, hP, ↓reduceIte, Nat.reduceAdd, Nat.reduceMul, Nat.reduceEqDiff, Nat.reduceSub, Nat.reduceLeDiff, reduceCtorEq, hw2, dk, d0, d1, h0, List.length_map])
            | refine ev_skip ?_ | refine ev_block ?_ | refine ev_blk ?_ | refine ev_ret ?_ | refine ev_exit ?_ | refine evx_code_ret ?_ | refine evx_blk_ret ?_ | refine evx_lp_ret ?_
            | refine evx_code_exit ?_ | refine evx_lp_exit ?_ | refine evx_blk_hit ?_ | refine evx_blk_pass (by decide) ?_
            | refine And.intro ?_ ?_ | intro _ | decide +kernel | omega)
          all_goals first
            | exact ev_lp (a + 1) [] (by omega) (by omega) (by simp only [go_sem, hP, ↓reduceIte, Nat.reduceAdd, Nat.reduceMul, Nat.reduceEqDiff, Nat.reduceSub, Nat.reduceLeDiff, reduceCtorEq]; simp [hw1, e, h0])
            | (exfalso; omega)
            | omega
            | (simp_all; done)
            | trace_state
  · have hae : (a : Int) = d := by omega
    have dl : decide ((a : Int) < d) = false := by simp only [decide_eq_false_iff_not]; exact hlt
    have he : d.toNat = a := by omega
    rw [he]
    repeat' (first
      | exact True.intro
      | refine ev_seq ?_
      | ((first | refine vgd_go ?_ | refine ev_region hE hM (hS (by decide +kernel)) ?_ | refine ev_if ?_ | refine end_ret hE rfl rfl ?_ | refine end_norm hE rfl rfl ?_ | refine endG_ret [] hE rfl ?_ | refine endG_norm [] hE rfl ?_ | refine vcall_A ?_); simp (maxSteps := 2000000) only [go_sem, hP, ↓reduceIte, Nat.reduceAdd, Nat.reduceMul, Nat.reduceEqDiff, Nat.reduceSub, Nat.reduceLeDiff, reduceCtorEq, dl])
      | refine ev_skip ?_ | refine ev_block ?_ | refine ev_blk ?_ | refine ev_ret ?_ | refine ev_exit ?_ | refine evx_code_ret ?_ | refine evx_blk_ret ?_ | refine evx_lp_ret ?_
      | refine evx_code_exit ?_ | refine evx_lp_exit ?_ | refine evx_blk_hit ?_ | refine evx_blk_pass (by decide) ?_
      | refine And.intro ?_ ?_ | intro _ | decide +kernel | omega)
    all_goals first | rfl | (exfalso; omega) | (simp_all; done) | trace_state
theorem s_bestAxis (xs : List Entry) (d : Int) (hz : esf xs d = 0) (h4 : 4 ≤ xs.length) : Sat Try.prog 35 [aEntryS xs] true (rI (bA xs d.toNat)) := by
  refine sat_walk (fn := Try.f35) rfl rfl rfl (Nat.le_of_ble_eq_true rfl) fun fr hP hN hbnd => ?_
  have hE : (envOf fr Try.prog).Ok := envOf_ok hP
  have hM := follows_of hP
  have hS : ∀ {draw ops}, statB Try.f35.ntmps draw ops = true → statB (envOf fr Try.prog).fr.N draw ops = true := fun h => by rw [envOf_fr, hN]; exact h
  have hz1 := esf_len hz
  have hrf := esf_rf hz
  have hev := rf_even hrf
  have e0 := (rf_len (hrf _ (getD_mem (d := default) (show 0 < xs.length by omega)))).1
  have k0 := s_ownDims (xs.getD 0 default).rect
  rw [e0] at k0
  repeat' (first
    | exact True.intro
    | refine ev_seq ?_
    | ((first | refine vgd_go ?_ | refine ev_region hE hM (hS (by decide +kernel)) ?_ | refine ev_if ?_ | refine end_ret hE rfl rfl ?_ | refine end_norm hE rfl rfl ?_ | refine endG_ret [] hE rfl ?_ | refine endG_norm [] hE rfl ?_ | refine vcallB_of hP k0 ?_ | refine vcall_A ?_); simp (maxSteps := 2000000) only [go_sem, hP, ↓reduceIte, Nat.reduceAdd, Nat.reduceMul, Nat.reduceEqDiff, Nat.reduceSub, Nat.reduceLeDiff, reduceCtorEq, List.length_map])
    | refine ev_skip ?_ | refine ev_block ?_ | refine ev_blk ?_ | refine ev_ret ?_ | refine ev_exit ?_ | refine evx_code_ret ?_ | refine evx_blk_ret ?_ | refine evx_lp_ret ?_
    | refine evx_code_exit ?_ | refine evx_lp_exit ?_ | refine evx_blk_hit ?_ | refine evx_blk_pass (by decide) ?_
    | refine And.intro ?_ ?_ | intro _ | decide +kernel | omega)
  all_goals first | (exfalso; omega) | omega | skip
  refine ev_loop (ι := Nat) (fun a => [(0, .c (sEntryS xs)), (3, iT (if a = 0 then -1 else (bA xs a : Int))), (4, iT (if a = 0 then 0 else mgF xs (bA xs a))), (13, iT d), (14, iT a)]) (fun _ => []) (fun _ => []) (fun a => (a : Int) ≤ d) (fun a => d.toNat - a) 0 [] (by omega) (by simp only [go_sem, hP, ↓reduceIte, Nat.reduceAdd, Nat.reduceMul, Nat.reduceEqDiff, Nat.reduceSub, Nat.reduceLeDiff, reduceCtorEq]; simp) ?_
  intro a ha
  by_cases hlt : (a : Int) < d
  · have hw1 : IntKind.i64.wrap ((a : Int) + 1) = a + 1 := i64_in _ (by omega)
    have hw2 : IntKind.i64.wrap ((xs.length : Int) - 2) = xs.length - 2 := i64_in _ (by omega)
    have dl : decide ((a : Int) < d) = true := by simp only [decide_eq_true_eq]; exact hlt
    have c1 := s_sorted xs a d.toNat hev (by omega) (by omega) (by omega)
    have hyr := sortE_rf a hrf
    have hye := rf_even hyr
    have hyl := sortE_len a xs
    have hF : mgF xs a = mgTo (sortE a xs) (xs.length - 3) := rfl
    have hf1 := mgF_in hrf h4 a
    have hf2 := mgF_in hrf h4 (bA xs a)
    generalize sortE a xs = ys at *
    repeat' (first
      | exact True.intro
      | refine ev_seq ?_
      | ((first | refine vgd_go ?_ | refine ev_region hE hM (hS (by decide +kernel)) ?_ | refine ev_if ?_ | refine end_ret hE rfl rfl ?_ | refine end_norm hE rfl rfl ?_ | refine endG_ret [] hE rfl ?_ | refine endG_norm [] hE rfl ?_ | refine vcallB_of hP c1 ?_ | refine vcall_A ?_); simp (maxSteps := 2000000) only [go_sem, hP, ↓reduceIte, Nat.reduceAdd, Nat.reduceMul, Nat.reduceEqDiff, Nat.reduceSub, Nat.reduceLeDiff, reduceCtorEq, dl])
      | refine ev_skip ?_ | refine ev_block ?_ | refine ev_blk ?_ | refine ev_ret ?_ | refine ev_exit ?_ | refine evx_code_ret ?_ | refine evx_blk_ret ?_ | refine evx_lp_ret ?_
      | refine evx_code_exit ?_ | refine evx_lp_exit ?_ | refine evx_blk_hit ?_ | refine evx_blk_pass (by decide) ?_
      | refine And.intro ?_ ?_ | intro _ | decide +kernel | omega)
    refine ev_loop (ι := Nat) (fun k => [(0, .c (sEntryS xs)), (3, iT (if a = 0 then -1 else (bA xs a : Int))), (4, iT (if a = 0 then 0 else mgF xs (bA xs a))), (13, iT d), (14, iT a), (5, iT a), (6, .ref 100000), (7, iT (mgTo ys k)), (8, iT (k + 2 : Nat))]) (fun _ => [(100000, .fro 4 (ys.map eEntry))]) (fun _ => []) (fun k => k + 3 ≤ xs.length) (fun k => xs.length - k) 0 [(100000, some 20496)] (by omega) (by simp only [go_sem, hP, ↓reduceIte, Nat.reduceAdd, Nat.reduceMul, Nat.reduceEqDiff, Nat.reduceSub, Nat.reduceLeDiff, reduceCtorEq]; simp [mgTo]) ?_
    intro k hk
    by_cases hk4 : k + 4 ≤ xs.length
    · obtain ⟨r1, r2, m1, m2, m3, m4⟩ := mg_step (k := k) hyr (by omega)
      have mi := mgTo_in hyr k (by omega)
      have dk : decide (((k + 2 : Nat) : Int) ≤ (xs.length : Int) - 2) = true := by simp only [decide_eq_true_eq]; omega
      have hw3 : IntKind.i64.wrap (((k + 2 : Nat) : Int) + 1) = (k + 1 + 2 : Nat) := by rw [i64_in _ (by omega)]; omega
      have l1 := rf_len r1
      have l2 := rf_len r2
      have b1 := s_box (ys.take (k + 2)) d.toNat (even_take hye) (by simp; omega) (by omega)
      have b2 := s_box (ys.drop (k + 2)) d.toNat (even_drop hye) (by simp; omega) (by omega)
      have g1 := s_implmargin (bx (ys.take (k + 2))) (by omega)
      have g2 := s_implmargin (bx (ys.drop (k + 2))) (by omega)
      have w1 : IntKind.i64.wrap (margin (bx (ys.take (k + 2))) + margin (bx (ys.drop (k + 2)))) = margin (bx (ys.take (k + 2))) + margin (bx (ys.drop (k + 2))) := i64_in _ (by omega)
      have w2 : IntKind.i64.wrap (mgTo ys k + (margin (bx (ys.take (k + 2))) + margin (bx (ys.drop (k + 2))))) = mgTo ys (k + 1) := by rw [i64_in _ (by omega)]; simp only [mgTo]
      have t1 : List.take (k + 2 - Int.toNat 0) (List.drop (Int.toNat 0) (ys.map eEntry)) = (ys.take (k + 2)).map eEntry := by rw [show Int.toNat 0 = 0 from rfl, Nat.sub_zero, List.drop_zero, List.map_take]
      have t2 : List.take (ys.length - (k + 2)) (List.drop (k + 2) (ys.map eEntry)) = (ys.drop (k + 2)).map eEntry := by rw [← List.map_drop, List.take_of_length_le (by simp)]
      generalize bx (ys.take (k + 2)) = p1 at *
      generalize bx (ys.drop (k + 2)) = p2 at *
      repeat' (first
        | exact True.intro
        | refine ev_seq ?_
        | ((first | refine vgd_go ?_ | refine ev_region hE hM (hS (by decide +kernel)) ?_ | refine ev_if ?_ | refine end_ret hE rfl rfl ?_ | refine end_norm hE rfl rfl ?_ | refine endG_ret [] hE rfl ?_ | refine endG_norm [] hE rfl ?_ | refine vcallB_of hP b1 ?_ | refine vcallB_of hP b2 ?_ | refine vcallB_of hP g1 ?_ | refine vcallB_of hP g2 ?_ | refine vcall_A ?_); simp (maxSteps := 2000000) only [go_sem, hP, ↓reduceIte, Nat.reduceAdd, Nat.reduceMul, Nat.reduceEqDiff, Nat.reduceSub, Nat.reduceLeDiff, reduceCtorEq, hw2, dk, w1, w2, t1, t2, List.length_map])
        | refine ev_skip ?_ | refine ev_block ?_ | refine ev_blk ?_ | refine ev_ret ?_ | refine ev_exit ?_ | refine evx_code_ret ?_ | refine evx_blk_ret ?_ | refine evx_lp_ret ?_
        | refine evx_code_exit ?_ | refine evx_lp_exit ?_ | refine evx_blk_hit ?_ | refine evx_blk_pass (by decide) ?_
        | refine And.intro ?_ ?_ | intro _ | decide +kernel | omega)
      all_goals first
        | exact ev_lp (k + 1) [] (by omega) (by omega) (by simp only [go_sem, hP, ↓reduceIte, Nat.reduceAdd, Nat.reduceMul, Nat.reduceEqDiff, Nat.reduceSub, Nat.reduceLeDiff, reduceCtorEq]; exact hw3)
        | (exfalso; omega)
        | omega
        | (simp_all; done)
        | trace_state
    · obtain rfl : k = xs.length - 3 := by omega
      have dk : decide (((xs.length - 3 + 2 : Nat) : Int) ≤ (xs.length : Int) - 2) = false := by simp only [decide_eq_false_iff_not]; omega
      rw [← hF]
      by_cases h0 : a = 0
      · subst h0
        repeat' (first
          | exact True.intro
          | refine ev_seq ?_
          | ((first | refine vgd_go ?_ | refine ev_region hE hM (hS (by decide +kernel)) ?_ | refine ev_if ?_ | refine end_ret hE rfl rfl ?_ | refine end_norm hE rfl rfl ?_ | refine endG_ret [] hE rfl ?_ | refine endG_norm [] hE rfl ?_ | refine vcall_A ?_); simp (maxSteps := 2000000) only [go_sem, hP, ↓reduceIte, Nat.reduceAdd, Nat.reduceMul, Nat.reduceEqDiff, Nat.reduceSub, Nat.reduceLeDiff, reduceCtorEq, hw2, dk, List.length_map])
          | refine ev_skip ?_ | refine ev_block ?_ | refine ev_blk ?_ | refine ev_ret ?_ | refine ev_exit ?_ | refine evx_code_ret ?_ | refine evx_blk_ret ?_ | refine evx_lp_ret ?_
          | refine evx_code_exit ?_ | refine evx_lp_exit ?_ | refine evx_blk_hit ?_ | refine evx_blk_pass (by decide) ?_
          | refine And.intro ?_ ?_ | intro _ | decide +kernel | omega)
        all_goals first
          | exact ev_lp 1 [] (by omega) (by omega) (by simp only [go_sem, hP, ↓reduceIte, Nat.reduceAdd, Nat.reduceMul, Nat.reduceEqDiff, Nat.reduceSub, Nat.reduceLeDiff, reduceCtorEq]; simp [hw1, bA, show IntKind.i64.wrap 1 = 1 from rfl])
          | (exfalso; omega)
          | omega
          | (simp_all; done)
          | trace_state
      · have d0 : decide ((bA xs a : Int) < 0) = false := by simp only [decide_eq_false_iff_not]; omega
        by_cases hc : mgF xs a < mgF xs (bA xs a)
        · have d1 := decide_eq_true hc
          have e : bA xs (a + 1) = a := by show (if a = 0 then 0 else if mgF xs a < mgF xs (bA xs a) then a else bA xs a) = a; rw [if_neg h0, if_pos hc]
          repeat' (first
            | exact True.intro
            | refine ev_seq ?_
            | ((first | refine vgd_go ?_ | refine ev_region hE hM (hS (by decide +kernel)) ?_ | refine ev_if ?_ | refine end_ret hE rfl rfl ?_ | refine end_norm hE rfl rfl ?_ | refine endG_ret [] hE rfl ?_ | refine endG_norm [] hE rfl ?_ | refine vcall_A ?_); simp (maxSteps := 2000000) only [go_sem, hP, ↓reduceIte, Nat.reduceAdd, Nat.reduceMul, Nat.reduceEqDiff, Nat.reduceSub, Nat.reduceLeDiff, reduceCtorEq, hw2, dk, d0, d1, h0, List.length_map])
            | refine ev_skip ?_ | refine ev_block ?_ | refine ev_blk ?_ | refine ev_ret ?_ | refine ev_exit ?_ | refine evx_code_ret ?_ | refine evx_blk_ret ?_ | refine evx_lp_ret ?_
            | refine evx_code_exit ?_ | refine evx_lp_exit ?_ | refine evx_blk_hit ?_ | refine evx_blk_pass (by decide) ?_
            | refine And.intro ?_ ?_ | intro _ | decide +kernel | omega)
          all_goals first
            | exact ev_lp (a + 1) [] (by omega) (by omega) (by simp only [go_sem, hP, ↓reduceIte, Nat.reduceAdd, Nat.reduceMul, Nat.reduceEqDiff, Nat.reduceSub, Nat.reduceLeDiff, reduceCtorEq]; simp [hw1, e])
            | (exfalso; omega)
            | omega
            | (simp_all; done)
            | trace_state
        · have d1 := decide_eq_false hc
          have e : bA xs (a + 1) = bA xs a := by show (if a = 0 then 0 else if mgF xs a < mgF xs (bA xs a) then a else bA xs a) = _; rw [if_neg h0, if_neg hc]
          repeat' (first
            | exact True.intro
            | refine ev_seq ?_
            | ((first | refine vgd_go ?_ | refine ev_region hE hM (hS (by decide +kernel)) ?_ | refine ev_if ?_ | refine end_ret hE rfl rfl ?_ | refine end_norm hE rfl rfl ?_ | refine endG_ret [] hE rfl ?_ | refine endG_norm [] hE rfl ?_ | refine vcall_A ?_); simp (maxSteps := 2000000) only [go_sem, hP, ↓reduceIte, Nat.reduceAdd, Nat.reduceMul, Nat.reduceEqDiff, Nat.reduceSub, Nat.reduceLeDiff, reduceCtorEq, hw2, dk, d0, d1, h0, List.length_map])
            | refine ev_skip ?_ | refine ev_block ?_ | refine ev_blk ?_ | refine ev_ret ?_ | refine ev_exit ?_ | refine evx_code_ret ?_ | refine evx_blk_ret ?_ | refine evx_lp_ret ?_
            | refine evx_code_exit ?_ | refine evx_lp_exit ?_ | refine evx_blk_hit ?_ | refine evx_blk_pass (by decide) ?_
            | refine And.intro ?_ ?_ | intro _ | decide +kernel | omega)
          all_goals first
            | exact ev_lp (a + 1) [] (by omega) (by omega) (by simp only [go_sem, hP, ↓reduceIte, Nat.reduceAdd, Nat.reduceMul, Nat.reduceEqDiff, Nat.reduceSub, Nat.reduceLeDiff, reduceCtorEq]; simp [hw1, e, h0])
            | (exfalso; omega)
            | omega
            | (simp_all; done)
            | trace_state
  · have hae : (a : Int) = d := by omega
    have dl : decide ((a : Int) < d) = false := by simp only [decide_eq_false_iff_not]; exact hlt
    have he : d.toNat = a := by omega
    have h0 : ¬ a = 0 := by omega
    rw [he]
    repeat' (first
      | exact True.intro
      | refine ev_seq ?_
      | ((first | refine vgd_go ?_ | refine ev_region hE hM (hS (by decide +kernel)) ?_ | refine ev_if ?_ | refine end_ret hE rfl rfl ?_ | refine end_norm hE rfl rfl ?_ | refine endG_ret [] hE rfl ?_ | refine endG_norm [] hE rfl ?_ | refine vcall_A ?_); simp (maxSteps := 2000000) only [go_sem, hP, ↓reduceIte, Nat.reduceAdd, Nat.reduceMul, Nat.reduceEqDiff, Nat.reduceSub, Nat.reduceLeDiff, reduceCtorEq, dl, h0])
      | refine ev_skip ?_ | refine ev_block ?_ | refine ev_blk ?_ | refine ev_ret ?_ | refine ev_exit ?_ | refine evx_code_ret ?_ | refine evx_blk_ret ?_ | refine evx_lp_ret ?_
      | refine evx_code_exit ?_ | refine evx_lp_exit ?_ | refine evx_blk_hit ?_ | refine evx_blk_pass (by decide) ?_
      | refine And.intro ?_ ?_ | intro _ | decide +kernel | omega)
    all_goals first | rfl | (exfalso; omega) | (simp_all; done) | trace_state
def axV (xs : List Entry) (d : Int) : Int := val (sfC xs d) (bA xs d.toNat)
theorem s_AxisOf1 (xs : List Entry) (d : Int) (hz : esf xs d = 0) (h4 : 4 ≤ xs.length) : Sat Try.prog 34 [.pv [sEntryS xs]] true (rI (bA xs d.toNat)) := by
  refine sat_walk (fn := Try.f34) rfl rfl rfl (Nat.le_of_ble_eq_true rfl) fun fr hP hN hbnd => ?_
  have hE : (envOf fr Try.prog).Ok := envOf_ok hP
  have hM := follows_of hP
  have hS : ∀ {draw ops}, statB Try.f34.ntmps draw ops = true → statB (envOf fr Try.prog).fr.N draw ops = true := fun h => by rw [envOf_fr, hN]; exact h
  repeat' (first
    | exact True.intro
    | refine ev_seq ?_
    | ((first | refine vgd_go ?_ | refine ev_region hE hM (hS (by decide +kernel)) ?_ | refine ev_if ?_ | refine end_ret hE rfl rfl ?_ | refine end_norm hE rfl rfl ?_ | refine endG_ret [] hE rfl ?_ | refine endG_norm [] hE rfl ?_ | refine vcallB_of hP (s_bestAxis xs d hz h4) ?_ | refine vcall_A ?_); simp (maxSteps := 2000000) only [go_sem, hP, ↓reduceIte, Nat.reduceAdd, Nat.reduceMul, Nat.reduceEqDiff, Nat.reduceSub, Nat.reduceLeDiff, reduceCtorEq])
    | refine ev_skip ?_ | refine ev_block ?_ | refine ev_blk ?_ | refine ev_ret ?_ | refine ev_exit ?_ | refine evx_code_ret ?_ | refine evx_blk_ret ?_ | refine evx_lp_ret ?_
    | refine evx_code_exit ?_ | refine evx_lp_exit ?_ | refine evx_blk_hit ?_ | refine evx_blk_pass (by decide) ?_
    | refine And.intro ?_ ?_ | intro _ | decide +kernel | omega)
theorem s_implAxisOf (xs : List Entry) (d : Int) : Sat Try.prog 9 [aEntryS xs, aI d] true (rIR (sfC xs d) (axV xs d)) := by
  refine sat_walk (fn := Try.f9) rfl rfl rfl (Nat.le_of_ble_eq_true rfl) fun fr hP hN hbnd => ?_
  have hE : (envOf fr Try.prog).Ok := envOf_ok hP
  have hM := follows_of hP
  have hS : ∀ {draw ops}, statB Try.f9.ntmps draw ops = true → statB (envOf fr Try.prog).fr.N draw ops = true := fun h => by rw [envOf_fr, hN]; exact h
  repeat' (first
    | exact True.intro
    | refine ev_seq ?_
    | ((first | refine vgd_go ?_ | refine ev_region hE hM (hS (by decide +kernel)) ?_ | refine ev_if ?_ | refine end_ret hE rfl rfl ?_ | refine end_norm hE rfl rfl ?_ | refine endG_ret [] hE rfl ?_ | refine endG_norm [] hE rfl ?_ | refine vcallB_of hP (s_splitFault xs d) ?_ | refine vcallB_of hP (s_valued _ (bA xs d.toNat) _ (fun h => s_AxisOf1 xs d (sfC_zero h).1 (sfC_zero h).2)) ?_ | refine vcall_A ?_); simp (maxSteps := 2000000) only [go_sem, hP, ↓reduceIte, Nat.reduceAdd, Nat.reduceMul, Nat.reduceEqDiff, Nat.reduceSub, Nat.reduceLeDiff, reduceCtorEq])
    | refine ev_skip ?_ | refine ev_block ?_ | refine ev_blk ?_ | refine ev_ret ?_ | refine ev_exit ?_ | refine evx_code_ret ?_ | refine evx_blk_ret ?_ | refine evx_lp_ret ?_
    | refine evx_code_exit ?_ | refine evx_lp_exit ?_ | refine evx_blk_hit ?_ | refine evx_blk_pass (by decide) ?_
    | refine And.intro ?_ ?_ | intro _ | decide +kernel | omega)
  all_goals first | rfl | (simp_all [axV]; done) | trace_state
theorem s_specAxisOf (xs : List Entry) (d : Int) : Sat Try.prog 11 [aEntryS xs, aI d] true (rIR (sfC xs d) (axV xs d)) := by
  refine sat_walk (fn := Try.f11) rfl rfl rfl (Nat.le_of_ble_eq_true rfl) fun fr hP hN hbnd => ?_
  have hE : (envOf fr Try.prog).Ok := envOf_ok hP
  have hM := follows_of hP
  have hS : ∀ {draw ops}, statB Try.f11.ntmps draw ops = true → statB (envOf fr Try.prog).fr.N draw ops = true := fun h => by rw [envOf_fr, hN]; exact h
  by_cases hz : sfC xs d = 0
  · have h1 := sfC_zero hz
    repeat' (first
      | exact True.intro
      | refine ev_seq ?_
      | ((first | refine vgd_go ?_ | refine ev_region hE hM (hS (by decide +kernel)) ?_ | refine ev_if ?_ | refine end_ret hE rfl rfl ?_ | refine end_norm hE rfl rfl ?_ | refine endG_ret [] hE rfl ?_ | refine endG_norm [] hE rfl ?_ | refine vcallB_of hP (s_l5Enough xs d) ?_ | refine vcallB_of hP (s_l5Axis xs d h1.1 h1.2) ?_ | refine vcall_A ?_); simp (maxSteps := 2000000) only [go_sem, hP, ↓reduceIte, Nat.reduceAdd, Nat.reduceMul, Nat.reduceEqDiff, Nat.reduceSub, Nat.reduceLeDiff, reduceCtorEq])
      | refine ev_skip ?_ | refine ev_block ?_ | refine ev_blk ?_ | refine ev_ret ?_ | refine ev_exit ?_ | refine evx_code_ret ?_ | refine evx_blk_ret ?_ | refine evx_lp_ret ?_
      | refine evx_code_exit ?_ | refine evx_lp_exit ?_ | refine evx_blk_hit ?_ | refine evx_blk_pass (by decide) ?_
      | refine And.intro ?_ ?_ | intro _ | decide +kernel | omega)
    all_goals first | rfl | (simp_all [axV, val]; done) | trace_state
  · repeat' (first
      | exact True.intro
      | refine ev_seq ?_
      | ((first | refine vgd_go ?_ | refine ev_region hE hM (hS (by decide +kernel)) ?_ | refine ev_if ?_ | refine end_ret hE rfl rfl ?_ | refine end_norm hE rfl rfl ?_ | refine endG_ret [] hE rfl ?_ | refine endG_norm [] hE rfl ?_ | refine vcallB_of hP (s_l5Enough xs d) ?_ | refine vcall_A ?_); simp (maxSteps := 2000000) only [go_sem, hP, ↓reduceIte, Nat.reduceAdd, Nat.reduceMul, Nat.reduceEqDiff, Nat.reduceSub, Nat.reduceLeDiff, reduceCtorEq])
      | refine ev_skip ?_ | refine ev_block ?_ | refine ev_blk ?_ | refine ev_ret ?_ | refine ev_exit ?_ | refine evx_code_ret ?_ | refine evx_blk_ret ?_ | refine evx_lp_ret ?_
      | refine evx_code_exit ?_ | refine evx_lp_exit ?_ | refine evx_blk_hit ?_ | refine evx_blk_pass (by decide) ?_
      | refine And.intro ?_ ?_ | intro _ | decide +kernel | omega)
    all_goals first | rfl | (simp_all [axV, val]; done) | trace_state
def saAx (c : List Int) : Int := pk c (bl c 0).p [0, 1, 0, 1, 2, 3, -1]
theorem s_DrawSortAxis (c : List Int) (hc : codeOk c) : Sat Try.prog 6 [aY c] false [(false, [sEntryS (bl c 0).l]), (false, [.int .i64 (bl c 0).d]), (false, [.int .i64 (saAx c)])] := by
  refine sat_walk (fn := Try.f6) rfl rfl rfl (Nat.le_of_ble_eq_true rfl) fun fr hP hN hbnd => ?_
  have hE : (envOf fr Try.prog).Ok := envOf_ok hP
  have hM := follows_of hP
  have hS : ∀ {draw ops}, statB Try.f6.ntmps draw ops = true → statB (envOf fr Try.prog).fr.N draw ops = true := fun h => by rw [envOf_fr, hN]; exact h
  have q := bl_p c 0
  have k1 := s_l5Bent c 0 hc (by omega) (by omega)
  have k2 := s_l1Pick c (bl c 0).p [0, 1, 0, 1, 2, 3, -1] hc (by omega) (by omega) (by simp) (by simp)
  rw [show pk c (bl c 0).p [0, 1, 0, 1, 2, 3, -1] = saAx c from rfl] at k2
  repeat' (first
    | exact True.intro
    | refine ev_seq ?_
    | ((first | refine vgd_go ?_ | refine ev_region hE hM (hS (by decide +kernel)) ?_ | refine ev_if ?_ | refine end_ret hE rfl rfl ?_ | refine end_norm hE rfl rfl ?_ | refine endG_ret [] hE rfl ?_ | refine endG_norm [] hE rfl ?_ | refine vcallG_of (args := [.c (sY c)]) [] [] hP (s_l1Source c) ?_ | refine vcallG_at (args := [.ptr 1052680 0]) 1052680 [] rfl hP (k1) ?_ | refine vcallG_at (args := [.ptr 1052680 0, .ref 12312]) 1052680 [12312] rfl hP (k2) ?_ | refine vcall_A ?_); simp (maxSteps := 2000000) only [go_sem, hP, ↓reduceIte, Nat.reduceAdd, Nat.reduceMul, Nat.reduceEqDiff, Nat.reduceSub, Nat.reduceLeDiff, reduceCtorEq])
    | refine ev_skip ?_ | refine ev_block ?_ | refine ev_blk ?_ | refine ev_ret ?_ | refine ev_exit ?_ | refine evx_code_ret ?_ | refine evx_blk_ret ?_ | refine evx_lp_ret ?_
    | refine evx_code_exit ?_ | refine evx_lp_exit ?_ | refine evx_blk_hit ?_ | refine evx_blk_pass (by decide) ?_
    | refine And.intro ?_ ?_ | intro _ | decide +kernel | omega)
  all_goals first
    | rfl
    | (simp_all; done)
    | trace_state
theorem sdStep_most (xs : List Entry) (i j : Nat) (s : Sd) : s.most ≤ (sdStep xs i j s).most ∧ waste xs i j ≤ (sdStep xs i j s).most := by
  unfold sdStep
  split
  · rename_i h; exact ⟨by show _ ≤ waste xs i j; omega, Int.le_refl _⟩
  · exact ⟨Int.le_refl _, by omega⟩
theorem sdIn_most (xs : List Entry) (i : Nat) (s : Sd) : ∀ m, s.most ≤ (sdIn xs i s m).most ∧ ∀ q, q < m → waste xs i (i + 1 + q) ≤ (sdIn xs i s m).most
  | 0 => ⟨Int.le_refl _, fun _ h => absurd h (by omega)⟩
  | m + 1 => by
    have ih := sdIn_most xs i s m
    have h := sdStep_most xs i (i + 1 + m) (sdIn xs i s m)
    refine ⟨Int.le_trans ih.1 h.1, fun q hq => ?_⟩
    rcases Nat.lt_or_ge q m with hlt | hge
    · exact Int.le_trans (ih.2 q hlt) h.1
    · obtain rfl : q = m := by omega
      exact h.2
theorem sdOut_most (xs : List Entry) : ∀ i p q, p < i → p < q → q < xs.length → waste xs p q ≤ (sdOut xs i).most
  | 0, _, _, h, _, _ => by omega
  | i + 1, p, q, h, hp, hq => by
    have h1 := sdIn_most xs i (sdOut xs i) (xs.length - 1 - i)
    show _ ≤ (sdIn xs i (sdOut xs i) (xs.length - 1 - i)).most
    rcases Nat.lt_or_ge p i with hlt | hge
    · exact Int.le_trans (sdOut_most xs i p q hlt hp hq) h1.1
    · obtain rfl : p = i := by omega
      have := h1.2 (q - p - 1) (by omega)
      rwa [show p + 1 + (q - p - 1) = q by omega] at this
def SdW (xs : List Entry) (s : Sd) : Prop := ∃ x y : Nat, s.x = x ∧ s.y = y ∧ x < y ∧ y < xs.length ∧ s.most = waste xs x y
theorem sdStep_w {xs : List Entry} {i j : Nat} {s : Sd} (h : SdW xs s) (h1 : i < j) (h2 : j < xs.length) : SdW xs (sdStep xs i j s) := by
  unfold sdStep; split
  · exact ⟨i, j, rfl, rfl, h1, h2, rfl⟩
  · exact h
theorem sdIn_w {xs : List Entry} {i : Nat} {s : Sd} (h : SdW xs s) : ∀ m, i + m < xs.length → SdW xs (sdIn xs i s m)
  | 0, _ => h
  | m + 1, hm => sdStep_w (sdIn_w h m (by omega)) (by omega) (by omega)
theorem sdOut_w {xs : List Entry} (h : 2 ≤ xs.length) : ∀ i, i ≤ xs.length → SdW xs (sdOut xs i)
  | 0, _ => ⟨0, 1, rfl, rfl, by omega, by omega, rfl⟩
  | i + 1, hi => sdIn_w (sdOut_w h i (by omega)) _ (by omega)
theorem sd_all {xs : List Entry} (h : 2 ≤ xs.length) : ∃ x y : Nat, (sd xs).x = x ∧ (sd xs).y = y ∧ x < y ∧ y < xs.length ∧ ∀ p q, p < q → q < xs.length → waste xs p q ≤ waste xs x y := by
  obtain ⟨x, y, e1, e2, e3, e4, e5⟩ := sdOut_w h _ (Nat.le_refl _)
  refine ⟨x, y, e1, e2, e3, e4, fun p q hp hq => ?_⟩
  have := sdOut_most xs xs.length p q (by omega) hp hq
  rwa [e5] at this
theorem saV_ok {xs : List Entry} {d ax : Int} {ys : List Entry} (he : saV xs d ax = ys) {k : Nat} (hk : k < ys.length) : ∃ m : Nat, ax = m ∧ (m : Int) < d ∧ d ≤ 3 ∧ ys.length ≤ 10 ∧ (∀ x ∈ ys, rf x.rect d = 0) ∧ ∀ i, i + 1 < ys.length → (ys.getD i default).rect.low.getD m default ≤ (ys.getD (i + 1) default).rect.low.getD m default := by
  by_cases h : saC xs d ax = 0
  · obtain ⟨h1, h2, h3⟩ := saC_zero h
    have e : saV xs d ax = sortE ax.toNat xs := if_pos h
    rw [e] at he
    have hl := esf_len h1
    subst he
    refine ⟨ax.toNat, by omega, by omega, by omega, by rw [sortE_len]; omega, sortE_rf ax.toNat (esf_rf h1), fun i hi => ?_⟩
    have hs := List.pairwise_iff_getElem.1 (sortL_sorted (leE_tr ax.toNat) (leE_tot ax.toNat) xs) i (i + 1) (by unfold sortE at hi; omega) hi (by omega)
    rw [getD_lt (show i < (sortE ax.toNat xs).length by omega), getD_lt hi]
    have hs2 := hs
    unfold leE at hs2
    simp only [Bool.or_eq_true, Bool.and_eq_true, decide_eq_true_eq] at hs2
    exact hs2.elim (fun h => Int.le_of_lt h) (fun h => Int.le_of_eq h.1)
  · have e : saV xs d ax = [] := if_neg h
    rw [e] at he
    subst he
    exact absurd hk (by simp)
theorem l_FnSorts (c : List Int) (hb : ∀ b ∈ c, 0 ≤ b ∧ b < 256) : Sat Try.prog 3 [aY c] true (rB true) := by
  refine sat_walk (fn := Try.f3) rfl rfl rfl (Nat.le_of_ble_eq_true rfl) fun fr hP hN hbnd => ?_
  have hE : (envOf fr Try.prog).Ok := envOf_ok hP
  have hM := follows_of hP
  have hS : ∀ {draw ops}, statB Try.f3.ntmps draw ops = true → statB (envOf fr Try.prog).fr.N draw ops = true := fun h => by rw [envOf_fr, hN]; exact h
  by_cases hbig : 1048576 < c.length
  · have hz : decide (1048576 < c.length) = true := by simpa using hbig
    have k0 := s_lwBig c
    rw [hz] at k0
    repeat' (first
      | exact True.intro
      | refine ev_seq ?_
      | ((first | refine vgd_go ?_ | refine ev_region hE hM (hS (by decide +kernel)) ?_ | refine ev_if ?_ | refine end_ret hE rfl rfl ?_ | refine end_norm hE rfl rfl ?_ | refine endG_ret [] hE rfl ?_ | refine endG_norm [] hE rfl ?_ | refine vcallB_of hP k0 ?_ | refine vcall_A ?_); simp (maxSteps := 2000000) only [go_sem, hP, ↓reduceIte, Nat.reduceAdd, Nat.reduceMul, Nat.reduceEqDiff, Nat.reduceSub, Nat.reduceLeDiff, reduceCtorEq])
      | refine ev_skip ?_ | refine ev_block ?_ | refine ev_blk ?_ | refine ev_ret ?_ | refine ev_exit ?_ | refine evx_code_ret ?_ | refine evx_blk_ret ?_ | refine evx_lp_ret ?_
      | refine evx_code_exit ?_ | refine evx_lp_exit ?_ | refine evx_blk_hit ?_ | refine evx_blk_pass (by decide) ?_
      | refine And.intro ?_ ?_ | intro _ | decide +kernel | omega)
  have hz : decide (1048576 < c.length) = false := by simpa using hbig
  have k0 := s_lwBig c
  rw [hz] at k0
  have hc : codeOk c := ⟨by omega, hb⟩
  have k1 := s_DrawSortAxis c hc
  generalize (bl c 0).l = xs at k1
  generalize (bl c 0).d = d at k1
  generalize saAx c = ax at k1
  have k2 := s_implSortAxis xs d ax
  have k3 := s_specSortAxis xs d ax
  have k4 := s_implSeedsOf xs d
  have k5 := s_specSeedsOf xs d
  have k6 := s_implAxisOf xs d
  have k7 := s_specAxisOf xs d
  have m0 : (0 != (0 : Int)) = false := rfl
  have bn : ∀ x : Int, (x != x) = false := fun x => by simp
  have hsv : ∃ ys, saV xs d ax = ys := ⟨_, rfl⟩
  obtain ⟨ys, hsv⟩ := hsv
  rw [hsv] at k2 k3
  have hok := fun {k} => saV_ok hsv (k := k)
  generalize saC xs d ax = sc at *
  generalize hav : axV xs d = av at *
  generalize hsl : sdL xs d = sl at *
  generalize hsf : sfC xs d = sf at *
  repeat' (first
    | exact True.intro
    | refine ev_seq ?_
    | ((first | refine ev_stop 9 ?_ | refine vgd_go ?_ | refine ev_region hE hM (hS (by decide +kernel)) ?_ | refine ev_if ?_ | refine end_ret hE rfl rfl ?_ | refine end_norm hE rfl rfl ?_ | refine endG_ret [] hE rfl ?_ | refine endG_norm [] hE rfl ?_ | refine vcallB_of hP k0 ?_ | refine vcallB_of hP k1 ?_ | refine vcallB_of hP k2 ?_ | refine vcallB_of hP k3 ?_ | refine vcallB_of hP k4 ?_ | refine vcallB_of hP k5 ?_ | refine vcallB_of hP k6 ?_ | refine vcallB_of hP k7 ?_ | refine vbin_ne [sf, av] hP (by kernel_rfl) rfl rfl ?_ | refine vcall_A ?_); simp (maxSteps := 2000000) only [go_sem, hP, ↓reduceIte, Nat.reduceAdd, Nat.reduceMul, Nat.reduceEqDiff, Nat.reduceSub, Nat.reduceLeDiff, reduceCtorEq, m0, bn, List.length_map])
    | refine ev_skip ?_ | refine ev_block ?_ | refine ev_blk ?_ | refine ev_ret ?_ | refine ev_exit ?_ | refine evx_code_ret ?_ | refine evx_blk_ret ?_ | refine evx_lp_ret ?_
    | refine evx_code_exit ?_ | refine evx_lp_exit ?_ | refine evx_blk_hit ?_ | refine evx_blk_pass (by decide) ?_
    | refine And.intro ?_ ?_ | intro _ | decide +kernel | omega)
  first | refine Stop.mk ?_ | skip
  refine ev_cut [(3, .c (sEntryS xs)), (4, iT d), (5, iT ax), (6, .ptr 16416 0), (7, .ptr 20504 0), (8, .ptr 24600 0)] [(16416, .box [iT sc, .ref 1064984]), (1064984, .fro 4 (ys.map eEntry)), (20504, .box [iT sf, .ref 1069072]), (1069072, .fro 1 (sl.map eI)), (24600, .box [iT sf, iT av])] [] [] (by simp only [go_sem, hP, ↓reduceIte, Nat.reduceAdd, Nat.reduceMul, Nat.reduceEqDiff, Nat.reduceSub, Nat.reduceLeDiff, reduceCtorEq]) ?_
  repeat' (first
    | exact True.intro
    | refine ev_seq ?_
    | ((first | refine vgd_go ?_ | refine ev_region hE hM (hS (by decide +kernel)) ?_ | refine ev_if ?_ | refine end_ret hE rfl rfl ?_ | refine end_norm hE rfl rfl ?_ | refine endG_ret [] hE rfl ?_ | refine endG_norm [] hE rfl ?_ | refine vcall_A ?_); simp (maxSteps := 2000000) only [go_sem, hP, ↓reduceIte, Nat.reduceAdd, Nat.reduceMul, Nat.reduceEqDiff, Nat.reduceSub, Nat.reduceLeDiff, reduceCtorEq])
    | refine ev_skip ?_ | refine ev_block ?_ | refine ev_blk ?_ | refine ev_ret ?_ | refine ev_exit ?_ | refine evx_code_ret ?_ | refine evx_blk_ret ?_ | refine evx_lp_ret ?_
    | refine evx_code_exit ?_ | refine evx_lp_exit ?_ | refine evx_blk_hit ?_ | refine evx_blk_pass (by decide) ?_
    | refine And.intro ?_ ?_ | intro _ | decide +kernel | omega)
  refine ev_loop (ι := Nat) (fun k => [(3, .c (sEntryS xs)), (4, iT d), (5, iT ax), (6, .ptr 16416 0), (7, .ptr 20504 0), (8, .ptr 24600 0), (9, iT k)]) (fun _ => [(16416, .box [iT sc, .ref 1064984]), (1064984, .fro 4 (ys.map eEntry)), (20504, .box [iT sf, .ref 1069072]), (1069072, .fro 1 (sl.map eI)), (24600, .box [iT sf, iT av])]) (fun _ => []) (fun k => k ≤ ys.length) (fun k => ys.length - k) 0 [] (by omega) (by simp only [go_sem, hP, ↓reduceIte, Nat.reduceAdd, Nat.reduceMul, Nat.reduceEqDiff, Nat.reduceSub, Nat.reduceLeDiff, reduceCtorEq]; simp) ?_
  intro k hk
  by_cases hlt : k < ys.length
  · obtain ⟨m, rfl, g1, g2, g3, g4, g5⟩ := hok hlt
    have hw1 : IntKind.i64.wrap ((k : Int) + 1) = k + 1 := i64_in _ (by omega)
    have d3 : decide ((k : Int) < (ys.length : Int)) = true := by simp only [decide_eq_true_eq]; omega
    have r1 := g4 _ (getD_mem (d := default) hlt)
    have kr := s_specRectFault (ys.getD k default).rect d
    rw [r1] at kr
    have l1 := rf_len r1
    by_cases h0 : k = 0
    · subst h0
      have d4 : decide ((0 : Int) < ((0 : Nat) : Int)) = false := rfl
      repeat' (first
        | exact True.intro
        | refine ev_seq ?_
        | ((first | refine vgd_go ?_ | refine ev_region hE hM (hS (by decide +kernel)) ?_ | refine ev_if ?_ | refine end_ret hE rfl rfl ?_ | refine end_norm hE rfl rfl ?_ | refine endG_ret [] hE rfl ?_ | refine endG_norm [] hE rfl ?_ | refine vcallB_of hP kr ?_ | refine vcall_A ?_); simp (maxSteps := 2000000) only [go_sem, hP, ↓reduceIte, Nat.reduceAdd, Nat.reduceMul, Nat.reduceEqDiff, Nat.reduceSub, Nat.reduceLeDiff, reduceCtorEq, d3, d4, m0, List.length_map])
        | refine ev_skip ?_ | refine ev_block ?_ | refine ev_blk ?_ | refine ev_ret ?_ | refine ev_exit ?_ | refine evx_code_ret ?_ | refine evx_blk_ret ?_ | refine evx_lp_ret ?_
        | refine evx_code_exit ?_ | refine evx_lp_exit ?_ | refine evx_blk_hit ?_ | refine evx_blk_pass (by decide) ?_
        | refine And.intro ?_ ?_ | intro _ | decide +kernel | omega)
      all_goals first
        | exact ev_lp 1 [] (by omega) (by omega) (by simp only [go_sem, hP, ↓reduceIte, Nat.reduceAdd, Nat.reduceMul, Nat.reduceEqDiff, Nat.reduceSub, Nat.reduceLeDiff, reduceCtorEq]; simp; rfl)
        | (exfalso; omega)
        | omega
        | (simp_all; done)
        | trace_state
    · have d4 : decide ((0 : Int) < (k : Int)) = true := by simp only [decide_eq_true_eq]; omega
      have hw2 : IntKind.i64.wrap ((k : Int) - 1) = (k - 1 : Nat) := by rw [i64_in _ (by omega)]; omega
      have r2 := g4 _ (getD_mem (d := default) (show k - 1 < ys.length by omega))
      have l2 := rf_len r2
      have d5 : decide ((ys.getD k default).rect.low.getD m default < (ys.getD (k - 1) default).rect.low.getD m default) = false := by
        have := g5 (k - 1) (by omega)
        rw [show k - 1 + 1 = k by omega] at this
        exact decide_eq_false (by omega)
      repeat' (first
        | exact True.intro
        | refine ev_seq ?_
        | ((first | refine vgd_go ?_ | refine ev_region hE hM (hS (by decide +kernel)) ?_ | refine ev_if ?_ | refine end_ret hE rfl rfl ?_ | refine end_norm hE rfl rfl ?_ | refine endG_ret [] hE rfl ?_ | refine endG_norm [] hE rfl ?_ | refine vcallB_of hP kr ?_ | refine vcall_A ?_); simp (maxSteps := 2000000) only [go_sem, hP, ↓reduceIte, Nat.reduceAdd, Nat.reduceMul, Nat.reduceEqDiff, Nat.reduceSub, Nat.reduceLeDiff, reduceCtorEq, d3, d4, d5, hw2, m0, List.length_map])
        | refine ev_skip ?_ | refine ev_block ?_ | refine ev_blk ?_ | refine ev_ret ?_ | refine ev_exit ?_ | refine evx_code_ret ?_ | refine evx_blk_ret ?_ | refine evx_lp_ret ?_
        | refine evx_code_exit ?_ | refine evx_lp_exit ?_ | refine evx_blk_hit ?_ | refine evx_blk_pass (by decide) ?_
        | refine And.intro ?_ ?_ | intro _ | decide +kernel | omega)
      all_goals first
        | exact ev_lp (k + 1) [] (by omega) (by omega) (by simp only [go_sem, hP, ↓reduceIte, Nat.reduceAdd, Nat.reduceMul, Nat.reduceEqDiff, Nat.reduceSub, Nat.reduceLeDiff, reduceCtorEq]; simp [hw1])
        | (exfalso; omega)
        | omega
        | (simp_all; done)
        | trace_state
  · obtain rfl : k = ys.length := by omega
    have d3 : decide ((ys.length : Int) < (ys.length : Int)) = false := by simp
    by_cases hz : sf = 0
    · subst hz
      obtain ⟨z1, z2⟩ := sfC_zero hsf
      obtain ⟨x, y, e1, e2, e3, e4, e5⟩ := sd_all (xs := xs) (by omega)
      have el := esf_len z1
      have hsle : sl = [(x : Int), (y : Int)] := by rw [← hsl]; unfold sdL; rw [if_pos hsf, e1, e2]
      have t0 : Int.toNat 0 = 0 := rfl
      have t1 : Int.toNat 1 = 1 := rfl
      have sl2 : sl.length = 2 := by rw [hsle]; rfl
      have s0 : sl.getD 0 default = (x : Int) := by rw [hsle]; rfl
      have s1 : sl.getD 1 default = (y : Int) := by rw [hsle]; rfl
      have hb3 := bA_lt xs d.toNat (by omega)
      obtain rfl : av = (bA xs d.toNat : Int) := by rw [← hav]; unfold axV; rw [hsf]; rfl
      generalize bA xs d.toNat = b at *
      have hgr : ∀ i j, i < xs.length → j < xs.length → Sat Try.prog 14 [aR (xs.getD i default).rect, aR (xs.getD j default).rect] true (rIR 0 (growth (xs.getD i default).rect (xs.getD j default).rect)) := fun i j hi hj => by
        have k := s_implGrowthOf (xs.getD i default).rect (xs.getD j default).rect
        rw [two_of (esf_rf z1 _ (getD_mem hi)) (esf_rf z1 _ (getD_mem hj))] at k
        simpa only [val, ↓reduceIte] using k
      have har : ∀ j, j < xs.length → Sat Try.prog 15 [aR (xs.getD j default).rect] true (rIR 0 (area (xs.getD j default).rect)) := fun j hj => by
        have r := esf_rf z1 _ (getD_mem (d := default) hj)
        have k := s_implAreaOf (xs.getD j default).rect
        rw [(rf_len r).1, r] at k
        simpa only [val, ↓reduceIte] using k
      have hws : ∀ i j, IntKind.i64.wrap (growth (xs.getD i default).rect (xs.getD j default).rect - area (xs.getD j default).rect) = waste xs i j := fun _ _ => rfl
      have kg := hgr x y (by omega) e4
      have ka := har y e4
      have d4 : decide ((x : Int) < 0) = false := decide_eq_false (by omega)
      have d5 : decide ((y : Int) ≤ (x : Int)) = false := decide_eq_false (by omega)
      have d6 : decide ((xs.length : Int) ≤ (y : Int)) = false := decide_eq_false (by omega)
      have d9 : ((sl.length : Int) != 2) = false := by rw [sl2]; rfl
      repeat' (first
        | exact True.intro
        | refine ev_seq ?_
        | ((first | refine vgd_go ?_ | refine ev_region hE hM (hS (by decide +kernel)) ?_ | refine ev_if ?_ | refine end_ret hE rfl rfl ?_ | refine end_norm hE rfl rfl ?_ | refine endG_ret [] hE rfl ?_ | refine endG_norm [] hE rfl ?_ | refine vcallB_of hP kg ?_ | refine vcallB_of hP ka ?_ | refine vcall_A ?_); simp (maxSteps := 2000000) only [go_sem, hP, ↓reduceIte, Nat.reduceAdd, Nat.reduceMul, Nat.reduceEqDiff, Nat.reduceSub, Nat.reduceLeDiff, reduceCtorEq, d3, d4, d5, d6, d9, m0, hws, t0, t1, s0, s1, List.length_map])
        | refine ev_skip ?_ | refine ev_block ?_ | refine ev_blk ?_ | refine ev_ret ?_ | refine ev_exit ?_ | refine evx_code_ret ?_ | refine evx_blk_ret ?_ | refine evx_lp_ret ?_
        | refine evx_code_exit ?_ | refine evx_lp_exit ?_ | refine evx_blk_hit ?_ | refine evx_blk_pass (by decide) ?_
        | refine And.intro ?_ ?_ | intro _ | decide +kernel | omega)
      all_goals first | (exfalso; omega) | omega | (simp; done) | skip
      refine ev_loop (ι := Nat) (fun i => [(3, .c (sEntryS xs)), (4, iT d), (8, .ptr 24600 0), (10, iT (waste xs x y)), (11, iT i)]) (fun _ => [(24600, .box [iT 0, iT b])]) (fun _ => []) (fun i => i ≤ xs.length) (fun i => xs.length - i) 0 [] (by omega) (by simp only [go_sem, hP, ↓reduceIte, Nat.reduceAdd, Nat.reduceMul, Nat.reduceEqDiff, Nat.reduceSub, Nat.reduceLeDiff, reduceCtorEq]; simp) ?_
      intro i hi
      by_cases hlt : i < xs.length
      · have hw1 : IntKind.i64.wrap ((i : Int) + 1) = i + 1 := i64_in _ (by omega)
        have d3 : decide ((i : Int) < (xs.length : Int)) = true := decide_eq_true (by omega)
        repeat' (first
          | exact True.intro
          | refine ev_seq ?_
          | ((first | refine vgd_go ?_ | refine ev_region hE hM (hS (by decide +kernel)) ?_ | refine ev_if ?_ | refine end_ret hE rfl rfl ?_ | refine end_norm hE rfl rfl ?_ | refine endG_ret [] hE rfl ?_ | refine endG_norm [] hE rfl ?_ | refine vcall_A ?_); simp (maxSteps := 2000000) only [go_sem, hP, ↓reduceIte, Nat.reduceAdd, Nat.reduceMul, Nat.reduceEqDiff, Nat.reduceSub, Nat.reduceLeDiff, reduceCtorEq, d3, List.length_map])
          | refine ev_skip ?_ | refine ev_block ?_ | refine ev_blk ?_ | refine ev_ret ?_ | refine ev_exit ?_ | refine evx_code_ret ?_ | refine evx_blk_ret ?_ | refine evx_lp_ret ?_
          | refine evx_code_exit ?_ | refine evx_lp_exit ?_ | refine evx_blk_hit ?_ | refine evx_blk_pass (by decide) ?_
          | refine And.intro ?_ ?_ | intro _ | decide +kernel | omega)
        refine ev_loop (ι := Nat) (fun m => [(3, .c (sEntryS xs)), (4, iT d), (8, .ptr 24600 0), (10, iT (waste xs x y)), (11, iT i), (12, iT (i + 1 + m : Nat))]) (fun _ => [(24600, .box [iT 0, iT b])]) (fun _ => []) (fun m => i + 1 + m ≤ xs.length) (fun m => xs.length - m) 0 [] (by omega) (by simp only [go_sem, hP, ↓reduceIte, Nat.reduceAdd, Nat.reduceMul, Nat.reduceEqDiff, Nat.reduceSub, Nat.reduceLeDiff, reduceCtorEq]; simp [hw1]) ?_
        intro m hm2
        by_cases hj : i + 1 + m < xs.length
        · have hw2 : IntKind.i64.wrap ((i + 1 + m : Nat) + 1) = (i + 1 + (m + 1) : Nat) := by rw [i64_in _ (by omega)]; omega
          have d7 : decide (((i + 1 + m : Nat) : Int) < (xs.length : Int)) = true := decide_eq_true (by omega)
          have d8 : decide (waste xs x y < waste xs i (i + 1 + m)) = false := decide_eq_false (by have := e5 i (i + 1 + m) (by omega) hj; omega)
          have kg := hgr i (i + 1 + m) hlt hj
          have ka := har (i + 1 + m) hj
          repeat' (first
            | exact True.intro
            | refine ev_seq ?_
            | ((first | refine vgd_go ?_ | refine ev_region hE hM (hS (by decide +kernel)) ?_ | refine ev_if ?_ | refine end_ret hE rfl rfl ?_ | refine end_norm hE rfl rfl ?_ | refine endG_ret [] hE rfl ?_ | refine endG_norm [] hE rfl ?_ | refine vcallB_of hP kg ?_ | refine vcallB_of hP ka ?_ | refine vcall_A ?_); simp (maxSteps := 2000000) only [go_sem, hP, ↓reduceIte, Nat.reduceAdd, Nat.reduceMul, Nat.reduceEqDiff, Nat.reduceSub, Nat.reduceLeDiff, reduceCtorEq, d7, d8, hws, List.length_map])
            | refine ev_skip ?_ | refine ev_block ?_ | refine ev_blk ?_ | refine ev_ret ?_ | refine ev_exit ?_ | refine evx_code_ret ?_ | refine evx_blk_ret ?_ | refine evx_lp_ret ?_
            | refine evx_code_exit ?_ | refine evx_lp_exit ?_ | refine evx_blk_hit ?_ | refine evx_blk_pass (by decide) ?_
            | refine And.intro ?_ ?_ | intro _ | decide +kernel | omega)
          all_goals first
            | exact ev_lp (m + 1) [] (by omega) (by omega) (by simp only [go_sem, hP, ↓reduceIte, Nat.reduceAdd, Nat.reduceMul, Nat.reduceEqDiff, Nat.reduceSub, Nat.reduceLeDiff, reduceCtorEq]; simp; simpa using hw2)
            | (exfalso; omega)
            | omega
            | (simp_all; done)
            | trace_state
        · have d7 : decide (((i + 1 + m : Nat) : Int) < (xs.length : Int)) = false := decide_eq_false (by omega)
          repeat' (first
            | exact True.intro
            | refine ev_seq ?_
            | ((first | refine vgd_go ?_ | refine ev_region hE hM (hS (by decide +kernel)) ?_ | refine ev_if ?_ | refine end_ret hE rfl rfl ?_ | refine end_norm hE rfl rfl ?_ | refine endG_ret [] hE rfl ?_ | refine endG_norm [] hE rfl ?_ | refine vcall_A ?_); simp (maxSteps := 2000000) only [go_sem, hP, ↓reduceIte, Nat.reduceAdd, Nat.reduceMul, Nat.reduceEqDiff, Nat.reduceSub, Nat.reduceLeDiff, reduceCtorEq, d7, List.length_map])
            | refine ev_skip ?_ | refine ev_block ?_ | refine ev_blk ?_ | refine ev_ret ?_ | refine ev_exit ?_ | refine evx_code_ret ?_ | refine evx_blk_ret ?_ | refine evx_lp_ret ?_
            | refine evx_code_exit ?_ | refine evx_lp_exit ?_ | refine evx_blk_hit ?_ | refine evx_blk_pass (by decide) ?_
            | refine And.intro ?_ ?_ | intro _ | decide +kernel | omega)
          all_goals first
            | exact ev_lp (i + 1) [] (by omega) (by omega) (by simp only [go_sem, hP, ↓reduceIte, Nat.reduceAdd, Nat.reduceMul, Nat.reduceEqDiff, Nat.reduceSub, Nat.reduceLeDiff, reduceCtorEq]; simp; exact hw1)
            | (exfalso; omega)
            | omega
            | (simp_all; done)
            | trace_state
      · obtain rfl : i = xs.length := by omega
        have d3 : decide ((xs.length : Int) < (xs.length : Int)) = false := by simp
        have d7 : decide (0 ≤ (b : Int)) = true := decide_eq_true (by omega)
        have d8 : decide ((b : Int) < d) = true := decide_eq_true (by omega)
        repeat' (first
          | exact True.intro
          | refine ev_seq ?_
          | ((first | refine vgd_go ?_ | refine ev_region hE hM (hS (by decide +kernel)) ?_ | refine ev_if ?_ | refine end_ret hE rfl rfl ?_ | refine end_norm hE rfl rfl ?_ | refine endG_ret [] hE rfl ?_ | refine endG_norm [] hE rfl ?_ | refine vcall_A ?_); simp (maxSteps := 2000000) only [go_sem, hP, ↓reduceIte, Nat.reduceAdd, Nat.reduceMul, Nat.reduceEqDiff, Nat.reduceSub, Nat.reduceLeDiff, reduceCtorEq, d3, d7, d8, List.length_map])
          | refine ev_skip ?_ | refine ev_block ?_ | refine ev_blk ?_ | refine ev_ret ?_ | refine ev_exit ?_ | refine evx_code_ret ?_ | refine evx_blk_ret ?_ | refine evx_lp_ret ?_
          | refine evx_code_exit ?_ | refine evx_lp_exit ?_ | refine evx_blk_hit ?_ | refine evx_blk_pass (by decide) ?_
          | refine And.intro ?_ ?_ | intro _ | decide +kernel | omega)
        all_goals first
          | rfl
          | (exfalso; omega)
          | (simp_all; done)
          | trace_state
    · have hz' : (sf != 0) = true := by simpa using hz
      repeat' (first
        | exact True.intro
        | refine ev_seq ?_
        | ((first | refine vgd_go ?_ | refine ev_region hE hM (hS (by decide +kernel)) ?_ | refine ev_if ?_ | refine end_ret hE rfl rfl ?_ | refine end_norm hE rfl rfl ?_ | refine endG_ret [] hE rfl ?_ | refine endG_norm [] hE rfl ?_ | refine vcall_A ?_); simp (maxSteps := 2000000) only [go_sem, hP, ↓reduceIte, Nat.reduceAdd, Nat.reduceMul, Nat.reduceEqDiff, Nat.reduceSub, Nat.reduceLeDiff, reduceCtorEq, d3, hz', List.length_map])
        | refine ev_skip ?_ | refine ev_block ?_ | refine ev_blk ?_ | refine ev_ret ?_ | refine ev_exit ?_ | refine evx_code_ret ?_ | refine evx_blk_ret ?_ | refine evx_lp_ret ?_
        | refine evx_code_exit ?_ | refine evx_lp_exit ?_ | refine evx_blk_hit ?_ | refine evx_blk_pass (by decide) ?_
        | refine And.intro ?_ ?_ | intro _ | decide +kernel | omega)
      all_goals first
        | rfl
        | (exfalso; omega)
        | (simp_all; done)
        | trace_state
end Go.Proofs.Ytegohioalgikjaa.W
