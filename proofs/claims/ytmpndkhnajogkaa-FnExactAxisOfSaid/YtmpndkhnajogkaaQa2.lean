/- Contracts of functions that FnExactAxisOf reaches: what each returns; it writes to nothing of old. No condition but those that each theorem states. -/
import Derived.Test.YtmpndkhnajogkaaQa1
open Go Go.Vm Go.Proofs Go.IntWalk Go.RowKit
set_option maxRecDepth 100000
set_option maxHeartbeats 4000000
set_option linter.unusedSimpArgs false
set_option linter.unusedVariables false
set_option linter.unusedSectionVars false
namespace Go.Proofs.Ytmpndkhnajogkaa.W
attribute [local irreducible] kJ ev evx vops vstep vgo vgd vget vcall vcallFn vcallA vcallB vts vres vcond vbin
theorem marginTo_in {r : Rect} {n : Nat} (hn : n ≤ 3) (h : ∀ k, k < n → -1000 ≤ r.low.getD k default ∧ r.low.getD k default ≤ r.high.getD k default ∧ r.high.getD k default ≤ 1000) : ∀ k, k ≤ n → 0 ≤ marginTo r k ∧ marginTo r k ≤ 2000 * k := fun k hk => by
  have := marginTo_mono (a := r) (b := r) hn h (fun k hk => by have := h k hk; omega) k hk
  omega
theorem margin_in {r : Rect} {d : Int} (h : rf r d = 0) : 0 ≤ margin r ∧ margin r ≤ 6000 := by
  have h3 := rf_three h
  have := marginTo_in h3 (fun k hk => rf_at h k hk) _ (Nat.le_refl _)
  unfold margin
  omega
def mgTo (ys : List Entry) : Nat → Int
  | 0 => 0
  | k + 1 => mgTo ys k + (margin (bx (ys.take (k + 2))) + margin (bx (ys.drop (k + 2))))
def mgF (xs : List Entry) (a : Nat) : Int := mgTo (sortE a xs) (xs.length - 3)
/-- The axis with the least margins among the first. -/
def bA (xs : List Entry) : Nat → Nat
  | 0 => 0
  | k + 1 => if k = 0 then 0 else if mgF xs k < mgF xs (bA xs k) then k else bA xs k
theorem mg_step {ys : List Entry} {d : Int} {k : Nat} (h : ∀ x ∈ ys, rf x.rect d = 0) (hk : k + 4 ≤ ys.length) :
    rf (bx (ys.take (k + 2))) d = 0 ∧ rf (bx (ys.drop (k + 2))) d = 0 ∧ 0 ≤ margin (bx (ys.take (k + 2))) ∧ margin (bx (ys.take (k + 2))) ≤ 6000 ∧ 0 ≤ margin (bx (ys.drop (k + 2))) ∧ margin (bx (ys.drop (k + 2))) ≤ 6000 := by
  have r1 := bx_rf (xs := ys.take (k + 2)) (d := d) (fun x hx => h x (List.mem_of_mem_take hx)) (by simp; omega)
  have r2 := bx_rf (xs := ys.drop (k + 2)) (d := d) (fun x hx => h x (List.mem_of_mem_drop hx)) (by simp; omega)
  exact ⟨r1, r2, (margin_in r1).1, (margin_in r1).2, (margin_in r2).1, (margin_in r2).2⟩
theorem mgTo_in {ys : List Entry} {d : Int} (h : ∀ x ∈ ys, rf x.rect d = 0) : ∀ k, k + 3 ≤ ys.length → 0 ≤ mgTo ys k ∧ mgTo ys k ≤ 12000 * k
  | 0, _ => by simp [mgTo]
  | k + 1, hk => by
    have ih := mgTo_in h k (by omega)
    have := mg_step (k := k) h (by omega)
    simp only [mgTo]
    omega
theorem sortE_rf {xs : List Entry} {d : Int} (ax : Nat) (h : ∀ x ∈ xs, rf x.rect d = 0) : ∀ x ∈ sortE ax xs, rf x.rect d = 0 := fun x hx => h x ((sortE_perm ax xs).mem_iff.1 hx)
theorem mgF_in {xs : List Entry} {d : Int} (h : ∀ x ∈ xs, rf x.rect d = 0) (h4 : 4 ≤ xs.length) (a : Nat) : 0 ≤ mgF xs a ∧ mgF xs a ≤ 12000 * (xs.length - 3 : Nat) := by
  unfold mgF
  exact mgTo_in (sortE_rf a h) _ (by rw [sortE_len]; omega)
theorem bA_lt (xs : List Entry) : ∀ k, 0 < k → bA xs k < k
  | 0, h => by omega
  | 1, _ => by simp [bA]
  | k + 2, _ => by
    have := bA_lt xs (k + 1) (by omega)
    unfold bA
    rw [if_neg (by omega)]
    split <;> omega
theorem s_l5Axis (xs : List Entry) (d : Int) (hz : esf xs d = 0) (h4 : 4 ≤ xs.length) : Sat Try.prog 112 [aEntryS xs, aI d] true (rI (bA xs d.toNat)) := by
  refine sat_walk (fn := Try.f112) rfl rfl rfl (Nat.le_of_ble_eq_true rfl) fun fr hP hN hbnd => ?_
  have hE : (envOf fr Try.prog).Ok := envOf_ok hP
  have hM := follows_of hP
  have hS : ∀ {draw ops}, statB Try.f112.ntmps draw ops = true → statB (envOf fr Try.prog).fr.N draw ops = true := fun h => by rw [envOf_fr, hN]; exact h
  have hz1 := esf_len hz
  have hrf := esf_rf hz
  have hev := rf_even hrf
  repeat' (first
    | exact True.intro
    | refine ev_seq ?_
    | ((first | refine vgd_go ?_ | refine ev_region hE hM (hS (by decide +kernel)) ?_ | refine ev_if ?_ | refine end_ret hE rfl rfl ?_ | refine end_norm hE rfl rfl ?_ | refine endG_ret [] hE rfl ?_ | refine endG_norm [] hE rfl ?_ | refine vcall_A ?_); simp (maxSteps := 2000000) only [go_sem, hP, ↓reduceIte, Nat.reduceAdd, Nat.reduceMul, Nat.reduceEqDiff, Nat.reduceSub, Nat.reduceLeDiff, reduceCtorEq])
    | refine ev_skip ?_ | refine ev_block ?_ | refine ev_blk ?_ | refine ev_ret ?_ | refine ev_exit ?_ | refine evx_code_ret ?_ | refine evx_blk_ret ?_ | refine evx_lp_ret ?_
    | refine evx_code_exit ?_ | refine evx_lp_exit ?_ | refine evx_blk_hit ?_ | refine evx_blk_pass (by decide) ?_
    | refine And.intro ?_ ?_ | intro _ | decide +kernel | omega)
  refine ev_loop (ι := Nat) (fun a => [(0, .c (sEntryS xs)), (1, iT d), (5, iT (bA xs a)), (6, iT (if a = 0 then -1 else mgF xs (bA xs a))), (7, iT a)]) (fun _ => []) (fun _ => []) (fun a => (a : Int) ≤ d) (fun a => d.toNat - a) 0 [] (by omega) (by simp only [go_sem, hP, ↓reduceIte, Nat.reduceAdd, Nat.reduceMul, Nat.reduceEqDiff, Nat.reduceSub, Nat.reduceLeDiff, reduceCtorEq]; simp [bA]) ?_
  intro a ha
  by_cases hlt : (a : Int) < d
  · have hw1 : IntKind.i64.wrap ((a : Int) + 1) = a + 1 := i64_in _ (by omega)
    have hw2 : IntKind.i64.wrap ((xs.length : Int) - 2) = xs.length - 2 := i64_in _ (by omega)
    have dl : decide ((a : Int) < d) = true := by simp only [decide_eq_true_eq]; exact hlt
    have c1 := s_l5Sort xs a d.toNat hev (by omega) (by omega) (by omega)
    have hyr := sortE_rf a hrf
    have hye := rf_even hyr
    have hyl := sortE_len a xs
    have hF : mgF xs a = mgTo (sortE a xs) (xs.length - 3) := rfl
    have hf1 := mgF_in hrf h4 a
    have hf2 := mgF_in hrf h4 (bA xs a)
    generalize sortE a xs = ys at *
    repeat' (first
      | exact True.intro
      | refine ev_seq ?_
      | ((first | refine vgd_go ?_ | refine ev_region hE hM (hS (by decide +kernel)) ?_ | refine ev_if ?_ | refine end_ret hE rfl rfl ?_ | refine end_norm hE rfl rfl ?_ | refine endG_ret [] hE rfl ?_ | refine endG_norm [] hE rfl ?_ | refine vcallB_of hP c1 ?_ | refine vcall_A ?_); simp (maxSteps := 2000000) only [go_sem, hP, ↓reduceIte, Nat.reduceAdd, Nat.reduceMul, Nat.reduceEqDiff, Nat.reduceSub, Nat.reduceLeDiff, reduceCtorEq, dl])
      | refine ev_skip ?_ | refine ev_block ?_ | refine ev_blk ?_ | refine ev_ret ?_ | refine ev_exit ?_ | refine evx_code_ret ?_ | refine evx_blk_ret ?_ | refine evx_lp_ret ?_
      | refine evx_code_exit ?_ | refine evx_lp_exit ?_ | refine evx_blk_hit ?_ | refine evx_blk_pass (by decide) ?_
      | refine And.intro ?_ ?_ | intro _ | decide +kernel | omega)
    refine ev_loop (ι := Nat) (fun k => [(0, .c (sEntryS xs)), (1, iT d), (5, iT (bA xs a)), (6, iT (if a = 0 then -1 else mgF xs (bA xs a))), (7, iT a), (8, .c (sEntryS ys)), (9, iT (mgTo ys k)), (10, iT (k + 2 : Nat))]) (fun _ => []) (fun _ => []) (fun k => k + 3 ≤ xs.length) (fun k => xs.length - k) 0 [] (by omega) (by simp only [go_sem, hP, ↓reduceIte, Nat.reduceAdd, Nat.reduceMul, Nat.reduceEqDiff, Nat.reduceSub, Nat.reduceLeDiff, reduceCtorEq]; simp [mgTo]) ?_
    intro k hk
    by_cases hk4 : k + 4 ≤ xs.length
    · obtain ⟨r1, r2, m1, m2, m3, m4⟩ := mg_step (k := k) hyr (by omega)
      have mi := mgTo_in hyr k (by omega)
      have dk : decide (((k + 2 : Nat) : Int) ≤ (xs.length : Int) - 2) = true := by simp only [decide_eq_true_eq]; omega
      have hw3 : IntKind.i64.wrap (((k + 2 : Nat) : Int) + 1) = (k + 1 + 2 : Nat) := by rw [i64_in _ (by omega)]; omega
      have l1 := rf_len r1
      have l2 := rf_len r2
      have b1 := s_l3Box (ys.take (k + 2)) d.toNat (even_take hye) (by simp; omega) (by omega)
      have b2 := s_l3Box (ys.drop (k + 2)) d.toNat (even_drop hye) (by simp; omega) (by omega)
      have g1 := s_l1Margin (bx (ys.take (k + 2))) (by omega)
      have g2 := s_l1Margin (bx (ys.drop (k + 2))) (by omega)
      have w1 : IntKind.i64.wrap (mgTo ys k + margin (bx (ys.take (k + 2)))) = mgTo ys k + margin (bx (ys.take (k + 2))) := i64_in _ (by omega)
      have w2 : IntKind.i64.wrap (mgTo ys k + margin (bx (ys.take (k + 2))) + margin (bx (ys.drop (k + 2)))) = mgTo ys (k + 1) := by rw [i64_in _ (by omega)]; simp only [mgTo]; omega
      have t1 : List.take (k + 2 - Int.toNat 0) (List.drop (Int.toNat 0) (ys.map eEntry)) = (ys.take (k + 2)).map eEntry := by rw [show Int.toNat 0 = 0 from rfl, Nat.sub_zero, List.drop_zero, List.map_take]
      have t2 : List.take (ys.length - (k + 2)) (List.drop (k + 2) (ys.map eEntry)) = (ys.drop (k + 2)).map eEntry := by rw [← List.map_drop, List.take_of_length_le (by simp)]
      generalize bx (ys.take (k + 2)) = p1 at *
      generalize bx (ys.drop (k + 2)) = p2 at *
      repeat' (first
        | exact True.intro
        | refine ev_seq ?_
        | ((first | refine vgd_go ?_ | refine ev_region hE hM (hS (by decide +kernel)) ?_ | refine ev_if ?_ | refine end_ret hE rfl rfl ?_ | refine end_norm hE rfl rfl ?_ | refine endG_ret [] hE rfl ?_ | refine endG_norm [] hE rfl ?_ | refine vcallB_of hP b1 ?_ | refine vcallB_of hP b2 ?_ | refine vcallB_of hP g1 ?_ | refine vcallB_of hP g2 ?_ | refine vcall_A ?_); simp (maxSteps := 2000000) only [go_sem, hP, ↓reduceIte, Nat.reduceAdd, Nat.reduceMul, Nat.reduceEqDiff, Nat.reduceSub, Nat.reduceLeDiff, reduceCtorEq, hw2, dk, w1, w2, t1, t2, List.length_map])
        | refine ev_skip ?_ | refine ev_block ?_ | refine ev_blk ?_ | refine ev_ret ?_ | refine ev_exit ?_ | refine evx_code_ret ?_ | refine evx_blk_ret ?_ | refine evx_lp_ret ?_
        | refine evx_code_exit ?_ | refine evx_lp_exit ?_ | refine evx_blk_hit ?_ | refine evx_blk_pass (by decide) ?_
        | refine And.intro ?_ ?_ | intro _ | decide +kernel | omega)
      all_goals first
        | exact ev_lp (k + 1) [] (by omega) (by omega) (by simp only [go_sem, hP, ↓reduceIte, Nat.reduceAdd, Nat.reduceMul, Nat.reduceEqDiff, Nat.reduceSub, Nat.reduceLeDiff, reduceCtorEq]; exact hw3)
        | (exfalso; omega)
        | omega
        | (simp_all; done)
        | trace_state
    · obtain rfl : k = xs.length - 3 := by omega
      have dk : decide (((xs.length - 3 + 2 : Nat) : Int) ≤ (xs.length : Int) - 2) = false := by simp only [decide_eq_false_iff_not]; omega
      rw [← hF]
      by_cases h0 : a = 0
      · subst h0
        repeat' (first
          | exact True.intro
          | refine ev_seq ?_
          | ((first | refine vgd_go ?_ | refine ev_region hE hM (hS (by decide +kernel)) ?_ | refine ev_if ?_ | refine end_ret hE rfl rfl ?_ | refine end_norm hE rfl rfl ?_ | refine endG_ret [] hE rfl ?_ | refine endG_norm [] hE rfl ?_ | refine vcall_A ?_); simp (maxSteps := 2000000) only [go_sem, hP, ↓reduceIte, Nat.reduceAdd, Nat.reduceMul, Nat.reduceEqDiff, Nat.reduceSub, Nat.reduceLeDiff, reduceCtorEq, hw2, dk, List.length_map])
          | refine ev_skip ?_ | refine ev_block ?_ | refine ev_blk ?_ | refine ev_ret ?_ | refine ev_exit ?_ | refine evx_code_ret ?_ | refine evx_blk_ret ?_ | refine evx_lp_ret ?_
          | refine evx_code_exit ?_ | refine evx_lp_exit ?_ | refine evx_blk_hit ?_ | refine evx_blk_pass (by decide) ?_
          | refine And.intro ?_ ?_ | intro _ | decide +kernel | omega)
        all_goals first
          | exact ev_lp 1 [] (by omega) (by omega) (by simp only [go_sem, hP, ↓reduceIte, Nat.reduceAdd, Nat.reduceMul, Nat.reduceEqDiff, Nat.reduceSub, Nat.reduceLeDiff, reduceCtorEq]; simp [hw1, bA, show IntKind.i64.wrap 1 = 1 from rfl])
          | (exfalso; omega)
          | omega
          | (simp_all; done)
          | trace_state
      · have d0 : decide (mgF xs (bA xs a) < 0) = false := by simp only [decide_eq_false_iff_not]; omega
        by_cases hc : mgF xs a < mgF xs (bA xs a)
        · have d1 := decide_eq_true hc
          have e : bA xs (a + 1) = a := by show (if a = 0 then 0 else if mgF xs a < mgF xs (bA xs a) then a else bA xs a) = a; rw [if_neg h0, if_pos hc]
          repeat' (first
            | exact True.intro
            | refine ev_seq ?_
            | ((first | refine vgd_go ?_ | refine ev_region hE hM (hS (by decide +kernel)) ?_ | refine ev_if ?_ | refine end_ret hE rfl rfl ?_ | refine end_norm hE rfl rfl ?_ | refine endG_ret [] hE rfl ?_ | refine endG_norm [] hE rfl ?_ | refine vcall_A ?_); simp (maxSteps := 2000000) only [go_sem, hP, ↓reduceIte, Nat.reduceAdd, Nat.reduceMul, Nat.reduceEqDiff, Nat.reduceSub, Nat.reduceLeDiff, reduceCtorEq, hw2, dk, d0, d1, h0, List.length_map])
            | refine ev_skip ?_ | refine ev_block ?_ | refine ev_blk ?_ | refine ev_ret ?_ | refine ev_exit ?_ | refine evx_code_ret ?_ | refine evx_blk_ret ?_ | refine evx_lp_ret ?_
            | refine evx_code_exit ?_ | refine evx_lp_exit ?_ | refine evx_blk_hit ?_ | refine evx_blk_pass (by decide) ?_
            | refine And.intro ?_ ?_ | intro _ | decide +kernel | omega)
          all_goals first
            | exact ev_lp (a + 1) [] (by omega) (by omega) (by simp only [go_sem, hP, ↓reduceIte, Nat.reduceAdd, Nat.reduceMul, Nat.reduceEqDiff, Nat.reduceSub, Nat.reduceLeDiff, reduceCtorEq]; simp [hw1, e])
            | (exfalso; omega)
            | omega
            | (simp_all; done)
            | trace_state
        · have d1 := decide_eq_false hc
          have e : bA xs (a + 1) = bA xs a := by show (if a = 0 then 0 else if mgF xs a < mgF xs (bA xs a) then a else bA xs a) = _; rw [if_neg h0, if_neg hc]
          repeat' (first
            | exact True.intro
            | refine ev_seq ?_
            | ((first | refine vgd_go ?_ | refine ev_region hE hM (hS (by decide +kernel)) ?_ | refine ev_if ?_ | refine end_ret hE rfl rfl ?_ | refine end_norm hE rfl rfl ?_ | refine endG_ret [] hE rfl ?_ | refine endG_norm [] hE rfl ?_ | refine vcall_A ?_); simp (maxSteps := 2000000) only [go_sem, hP, ↓reduceIte, Nat.reduceAdd, Nat.reduceMul, Nat.reduceEqDiff, Nat.reduceSub, Nat.reduceLeDiff, reduceCtorEq, hw2, dk, d0, d1, h0, List.length_map])
            | refine ev_skip ?_ | refine ev_block ?_ | refine ev_blk ?_ | refine ev_ret ?_ | refine ev_exit ?_ | refine evx_code_ret ?_ | refine evx_blk_ret ?_ | refine evx_lp_ret ?_
            | refine evx_code_exit ?_ | refine evx_lp_exit ?_ | refine evx_blk_hit ?_ | refine evx_blk_pass (by decide) ?_
            | refine And.intro ?_ ?_ | intro _ | decide +kernel | omega)
          all_goals first
            | exact ev_lp (a + 1) [] (by omega) (by omega) (by simp only [go_sem, hP, ↓reduceIte, Nat.reduceAdd, Nat.reduceMul, Nat.reduceEqDiff, Nat.reduceSub, Nat.reduceLeDiff, reduceCtorEq]; simp [hw1, e, h0])
            | (exfalso; omega)
            | omega
            | (simp_all; done)
            | trace_state
  · have hae : (a : Int) = d := by omega
    have dl : decide ((a : Int) < d) = false := by simp only [decide_eq_false_iff_not]; exact hlt
    have he : d.toNat = a := by omega
    rw [he]
    repeat' (first
      | exact True.intro
      | refine ev_seq ?_
      | ((first | refine vgd_go ?_ | refine ev_region hE hM (hS (by decide +kernel)) ?_ | refine ev_if ?_ | refine end_ret hE rfl rfl ?_ | refine end_norm hE rfl rfl ?_ | refine endG_ret [] hE rfl ?_ | refine endG_norm [] hE rfl ?_ | refine vcall_A ?_); simp (maxSteps := 2000000) only [go_sem, hP, ↓reduceIte, Nat.reduceAdd, Nat.reduceMul, Nat.reduceEqDiff, Nat.reduceSub, Nat.reduceLeDiff, reduceCtorEq, dl])
      | refine ev_skip ?_ | refine ev_block ?_ | refine ev_blk ?_ | refine ev_ret ?_ | refine ev_exit ?_ | refine evx_code_ret ?_ | refine evx_blk_ret ?_ | refine evx_lp_ret ?_
      | refine evx_code_exit ?_ | refine evx_lp_exit ?_ | refine evx_blk_hit ?_ | refine evx_blk_pass (by decide) ?_
      | refine And.intro ?_ ?_ | intro _ | decide +kernel | omega)
    all_goals first | rfl | (exfalso; omega) | (simp_all; done) | trace_state
theorem s_bestAxis (xs : List Entry) (d : Int) (hz : esf xs d = 0) (h4 : 4 ≤ xs.length) : Sat Try.prog 117 [aEntryS xs] true (rI (bA xs d.toNat)) := by
  refine sat_walk (fn := Try.f117) rfl rfl rfl (Nat.le_of_ble_eq_true rfl) fun fr hP hN hbnd => ?_
  have hE : (envOf fr Try.prog).Ok := envOf_ok hP
  have hM := follows_of hP
  have hS : ∀ {draw ops}, statB Try.f117.ntmps draw ops = true → statB (envOf fr Try.prog).fr.N draw ops = true := fun h => by rw [envOf_fr, hN]; exact h
  have hz1 := esf_len hz
  have hrf := esf_rf hz
  have hev := rf_even hrf
  have e0 := (rf_len (hrf _ (getD_mem (d := default) (show 0 < xs.length by omega)))).1
  have k0 := s_ownDims (xs.getD 0 default).rect
  rw [e0] at k0
  repeat' (first
    | exact True.intro
    | refine ev_seq ?_
    | ((first | refine vgd_go ?_ | refine ev_region hE hM (hS (by decide +kernel)) ?_ | refine ev_if ?_ | refine end_ret hE rfl rfl ?_ | refine end_norm hE rfl rfl ?_ | refine endG_ret [] hE rfl ?_ | refine endG_norm [] hE rfl ?_ | refine vcallB_of hP k0 ?_ | refine vcall_A ?_); simp (maxSteps := 2000000) only [go_sem, hP, ↓reduceIte, Nat.reduceAdd, Nat.reduceMul, Nat.reduceEqDiff, Nat.reduceSub, Nat.reduceLeDiff, reduceCtorEq, List.length_map])
    | refine ev_skip ?_ | refine ev_block ?_ | refine ev_blk ?_ | refine ev_ret ?_ | refine ev_exit ?_ | refine evx_code_ret ?_ | refine evx_blk_ret ?_ | refine evx_lp_ret ?_
    | refine evx_code_exit ?_ | refine evx_lp_exit ?_ | refine evx_blk_hit ?_ | refine evx_blk_pass (by decide) ?_
    | refine And.intro ?_ ?_ | intro _ | decide +kernel | omega)
  all_goals first | (exfalso; omega) | omega | skip
  refine ev_loop (ι := Nat) (fun a => [(0, .c (sEntryS xs)), (3, iT (if a = 0 then -1 else (bA xs a : Int))), (4, iT (if a = 0 then 0 else mgF xs (bA xs a))), (13, iT d), (14, iT a)]) (fun _ => []) (fun _ => []) (fun a => (a : Int) ≤ d) (fun a => d.toNat - a) 0 [] (by omega) (by simp only [go_sem, hP, ↓reduceIte, Nat.reduceAdd, Nat.reduceMul, Nat.reduceEqDiff, Nat.reduceSub, Nat.reduceLeDiff, reduceCtorEq]; simp) ?_
  intro a ha
  by_cases hlt : (a : Int) < d
  · have hw1 : IntKind.i64.wrap ((a : Int) + 1) = a + 1 := i64_in _ (by omega)
    have hw2 : IntKind.i64.wrap ((xs.length : Int) - 2) = xs.length - 2 := i64_in _ (by omega)
    have dl : decide ((a : Int) < d) = true := by simp only [decide_eq_true_eq]; exact hlt
    have c1 := s_sorted xs a d.toNat hev (by omega) (by omega) (by omega)
    have hyr := sortE_rf a hrf
    have hye := rf_even hyr
    have hyl := sortE_len a xs
    have hF : mgF xs a = mgTo (sortE a xs) (xs.length - 3) := rfl
    have hf1 := mgF_in hrf h4 a
    have hf2 := mgF_in hrf h4 (bA xs a)
    generalize sortE a xs = ys at *
    repeat' (first
      | exact True.intro
      | refine ev_seq ?_
      | ((first | refine vgd_go ?_ | refine ev_region hE hM (hS (by decide +kernel)) ?_ | refine ev_if ?_ | refine end_ret hE rfl rfl ?_ | refine end_norm hE rfl rfl ?_ | refine endG_ret [] hE rfl ?_ | refine endG_norm [] hE rfl ?_ | refine vcallB_of hP c1 ?_ | refine vcall_A ?_); simp (maxSteps := 2000000) only [go_sem, hP, ↓reduceIte, Nat.reduceAdd, Nat.reduceMul, Nat.reduceEqDiff, Nat.reduceSub, Nat.reduceLeDiff, reduceCtorEq, dl])
      | refine ev_skip ?_ | refine ev_block ?_ | refine ev_blk ?_ | refine ev_ret ?_ | refine ev_exit ?_ | refine evx_code_ret ?_ | refine evx_blk_ret ?_ | refine evx_lp_ret ?_
      | refine evx_code_exit ?_ | refine evx_lp_exit ?_ | refine evx_blk_hit ?_ | refine evx_blk_pass (by decide) ?_
      | refine And.intro ?_ ?_ | intro _ | decide +kernel | omega)
    refine ev_loop (ι := Nat) (fun k => [(0, .c (sEntryS xs)), (3, iT (if a = 0 then -1 else (bA xs a : Int))), (4, iT (if a = 0 then 0 else mgF xs (bA xs a))), (13, iT d), (14, iT a), (5, iT a), (6, .ref 100000), (7, iT (mgTo ys k)), (8, iT (k + 2 : Nat))]) (fun _ => [(100000, .fro 4 (ys.map eEntry))]) (fun _ => []) (fun k => k + 3 ≤ xs.length) (fun k => xs.length - k) 0 [(100000, some 20496)] (by omega) (by simp only [go_sem, hP, ↓reduceIte, Nat.reduceAdd, Nat.reduceMul, Nat.reduceEqDiff, Nat.reduceSub, Nat.reduceLeDiff, reduceCtorEq]; simp [mgTo]) ?_
    intro k hk
    by_cases hk4 : k + 4 ≤ xs.length
    · obtain ⟨r1, r2, m1, m2, m3, m4⟩ := mg_step (k := k) hyr (by omega)
      have mi := mgTo_in hyr k (by omega)
      have dk : decide (((k + 2 : Nat) : Int) ≤ (xs.length : Int) - 2) = true := by simp only [decide_eq_true_eq]; omega
      have hw3 : IntKind.i64.wrap (((k + 2 : Nat) : Int) + 1) = (k + 1 + 2 : Nat) := by rw [i64_in _ (by omega)]; omega
      have l1 := rf_len r1
      have l2 := rf_len r2
      have b1 := s_box (ys.take (k + 2)) d.toNat (even_take hye) (by simp; omega) (by omega)
      have b2 := s_box (ys.drop (k + 2)) d.toNat (even_drop hye) (by simp; omega) (by omega)
      have g1 := s_implmargin (bx (ys.take (k + 2))) (by omega)
      have g2 := s_implmargin (bx (ys.drop (k + 2))) (by omega)
      have w1 : IntKind.i64.wrap (margin (bx (ys.take (k + 2))) + margin (bx (ys.drop (k + 2)))) = margin (bx (ys.take (k + 2))) + margin (bx (ys.drop (k + 2))) := i64_in _ (by omega)
      have w2 : IntKind.i64.wrap (mgTo ys k + (margin (bx (ys.take (k + 2))) + margin (bx (ys.drop (k + 2))))) = mgTo ys (k + 1) := by rw [i64_in _ (by omega)]; simp only [mgTo]
      have t1 : List.take (k + 2 - Int.toNat 0) (List.drop (Int.toNat 0) (ys.map eEntry)) = (ys.take (k + 2)).map eEntry := by rw [show Int.toNat 0 = 0 from rfl, Nat.sub_zero, List.drop_zero, List.map_take]
      have t2 : List.take (ys.length - (k + 2)) (List.drop (k + 2) (ys.map eEntry)) = (ys.drop (k + 2)).map eEntry := by rw [← List.map_drop, List.take_of_length_le (by simp)]
      generalize bx (ys.take (k + 2)) = p1 at *
      generalize bx (ys.drop (k + 2)) = p2 at *
      repeat' (first
        | exact True.intro
        | refine ev_seq ?_
        | ((first | refine vgd_go ?_ | refine ev_region hE hM (hS (by decide +kernel)) ?_ | refine ev_if ?_ | refine end_ret hE rfl rfl ?_ | refine end_norm hE rfl rfl ?_ | refine endG_ret [] hE rfl ?_ | refine endG_norm [] hE rfl ?_ | refine vcallB_of hP b1 ?_ | refine vcallB_of hP b2 ?_ | refine vcallB_of hP g1 ?_ | refine vcallB_of hP g2 ?_ | refine vcall_A ?_); simp (maxSteps := 2000000) only [go_sem, hP, ↓reduceIte, Nat.reduceAdd, Nat.reduceMul, Nat.reduceEqDiff, Nat.reduceSub, Nat.reduceLeDiff, reduceCtorEq, hw2, dk, w1, w2, t1, t2, List.length_map])
        | refine ev_skip ?_ | refine ev_block ?_ | refine ev_blk ?_ | refine ev_ret ?_ | refine ev_exit ?_ | refine evx_code_ret ?_ | refine evx_blk_ret ?_ | refine evx_lp_ret ?_
        | refine evx_code_exit ?_ | refine evx_lp_exit ?_ | refine evx_blk_hit ?_ | refine evx_blk_pass (by decide) ?_
        | refine And.intro ?_ ?_ | intro _ | decide +kernel | omega)
      all_goals first
        | exact ev_lp (k + 1) [] (by omega) (by omega) (by simp only [go_sem, hP, ↓reduceIte, Nat.reduceAdd, Nat.reduceMul, Nat.reduceEqDiff, Nat.reduceSub, Nat.reduceLeDiff, reduceCtorEq]; exact hw3)
        | (exfalso; omega)
        | omega
        | (simp_all; done)
        | trace_state
    · obtain rfl : k = xs.length - 3 := by omega
      have dk : decide (((xs.length - 3 + 2 : Nat) : Int) ≤ (xs.length : Int) - 2) = false := by simp only [decide_eq_false_iff_not]; omega
      rw [← hF]
      by_cases h0 : a = 0
      · subst h0
        repeat' (first
          | exact True.intro
          | refine ev_seq ?_
          | ((first | refine vgd_go ?_ | refine ev_region hE hM (hS (by decide +kernel)) ?_ | refine ev_if ?_ | refine end_ret hE rfl rfl ?_ | refine end_norm hE rfl rfl ?_ | refine endG_ret [] hE rfl ?_ | refine endG_norm [] hE rfl ?_ | refine vcall_A ?_); simp (maxSteps := 2000000) only [go_sem, hP, ↓reduceIte, Nat.reduceAdd, Nat.reduceMul, Nat.reduceEqDiff, Nat.reduceSub, Nat.reduceLeDiff, reduceCtorEq, hw2, dk, List.length_map])
          | refine ev_skip ?_ | refine ev_block ?_ | refine ev_blk ?_ | refine ev_ret ?_ | refine ev_exit ?_ | refine evx_code_ret ?_ | refine evx_blk_ret ?_ | refine evx_lp_ret ?_
          | refine evx_code_exit ?_ | refine evx_lp_exit ?_ | refine evx_blk_hit ?_ | refine evx_blk_pass (by decide) ?_
          | refine And.intro ?_ ?_ | intro _ | decide +kernel | omega)
        all_goals first
          | exact ev_lp 1 [] (by omega) (by omega) (by simp only [go_sem, hP, ↓reduceIte, Nat.reduceAdd, Nat.reduceMul, Nat.reduceEqDiff, Nat.reduceSub, Nat.reduceLeDiff, reduceCtorEq]; simp [hw1, bA, show IntKind.i64.wrap 1 = 1 from rfl])
          | (exfalso; omega)
          | omega
          | (simp_all; done)
          | trace_state
      · have d0 : decide ((bA xs a : Int) < 0) = false := by simp only [decide_eq_false_iff_not]; omega
        by_cases hc : mgF xs a < mgF xs (bA xs a)
        · have d1 := decide_eq_true hc
          have e : bA xs (a + 1) = a := by show (if a = 0 then 0 else if mgF xs a < mgF xs (bA xs a) then a else bA xs a) = a; rw [if_neg h0, if_pos hc]
          repeat' (first
            | exact True.intro
            | refine ev_seq ?_
            | ((first | refine vgd_go ?_ | refine ev_region hE hM (hS (by decide +kernel)) ?_ | refine ev_if ?_ | refine end_ret hE rfl rfl ?_ | refine end_norm hE rfl rfl ?_ | refine endG_ret [] hE rfl ?_ | refine endG_norm [] hE rfl ?_ | refine vcall_A ?_); simp (maxSteps := 2000000) only [go_sem, hP, ↓reduceIte, Nat.reduceAdd, Nat.reduceMul, Nat.reduceEqDiff, Nat.reduceSub, Nat.reduceLeDiff, reduceCtorEq, hw2, dk, d0, d1, h0, List.length_map])
            | refine ev_skip ?_ | refine ev_block ?_ | refine ev_blk ?_ | refine ev_ret ?_ | refine ev_exit ?_ | refine evx_code_ret ?_ | refine evx_blk_ret ?_ | refine evx_lp_ret ?_
            | refine evx_code_exit ?_ | refine evx_lp_exit ?_ | refine evx_blk_hit ?_ | refine evx_blk_pass (by decide) ?_
            | refine And.intro ?_ ?_ | intro _ | decide +kernel | omega)
          all_goals first
            | exact ev_lp (a + 1) [] (by omega) (by omega) (by simp only [go_sem, hP, ↓reduceIte, Nat.reduceAdd, Nat.reduceMul, Nat.reduceEqDiff, Nat.reduceSub, Nat.reduceLeDiff, reduceCtorEq]; simp [hw1, e])
            | (exfalso; omega)
            | omega
            | (simp_all; done)
            | trace_state
        · have d1 := decide_eq_false hc
          have e : bA xs (a + 1) = bA xs a := by show (if a = 0 then 0 else if mgF xs a < mgF xs (bA xs a) then a else bA xs a) = _; rw [if_neg h0, if_neg hc]
          repeat' (first
            | exact True.intro
            | refine ev_seq ?_
            | ((first | refine vgd_go ?_ | refine ev_region hE hM (hS (by decide +kernel)) ?_ | refine ev_if ?_ | refine end_ret hE rfl rfl ?_ | refine end_norm hE rfl rfl ?_ | refine endG_ret [] hE rfl ?_ | refine endG_norm [] hE rfl ?_ | refine vcall_A ?_); simp (maxSteps := 2000000) only [go_sem, hP, ↓reduceIte, Nat.reduceAdd, Nat.reduceMul, Nat.reduceEqDiff, Nat.reduceSub, Nat.reduceLeDiff, reduceCtorEq, hw2, dk, d0, d1, h0, List.length_map])
            | refine ev_skip ?_ | refine ev_block ?_ | refine ev_blk ?_ | refine ev_ret ?_ | refine ev_exit ?_ | refine evx_code_ret ?_ | refine evx_blk_ret ?_ | refine evx_lp_ret ?_
            | refine evx_code_exit ?_ | refine evx_lp_exit ?_ | refine evx_blk_hit ?_ | refine evx_blk_pass (by decide) ?_
            | refine And.intro ?_ ?_ | intro _ | decide +kernel | omega)
          all_goals first
            | exact ev_lp (a + 1) [] (by omega) (by omega) (by simp only [go_sem, hP, ↓reduceIte, Nat.reduceAdd, Nat.reduceMul, Nat.reduceEqDiff, Nat.reduceSub, Nat.reduceLeDiff, reduceCtorEq]; simp [hw1, e, h0])
            | (exfalso; omega)
            | omega
            | (simp_all; done)
            | trace_state
  · have hae : (a : Int) = d := by omega
    have dl : decide ((a : Int) < d) = false := by simp only [decide_eq_false_iff_not]; exact hlt
    have he : d.toNat = a := by omega
    have h0 : ¬ a = 0 := by omega
    rw [he]
    repeat' (first
      | exact True.intro
      | refine ev_seq ?_
      | ((first | refine vgd_go ?_ | refine ev_region hE hM (hS (by decide +kernel)) ?_ | refine ev_if ?_ | refine end_ret hE rfl rfl ?_ | refine end_norm hE rfl rfl ?_ | refine endG_ret [] hE rfl ?_ | refine endG_norm [] hE rfl ?_ | refine vcall_A ?_); simp (maxSteps := 2000000) only [go_sem, hP, ↓reduceIte, Nat.reduceAdd, Nat.reduceMul, Nat.reduceEqDiff, Nat.reduceSub, Nat.reduceLeDiff, reduceCtorEq, dl, h0])
      | refine ev_skip ?_ | refine ev_block ?_ | refine ev_blk ?_ | refine ev_ret ?_ | refine ev_exit ?_ | refine evx_code_ret ?_ | refine evx_blk_ret ?_ | refine evx_lp_ret ?_
      | refine evx_code_exit ?_ | refine evx_lp_exit ?_ | refine evx_blk_hit ?_ | refine evx_blk_pass (by decide) ?_
      | refine And.intro ?_ ?_ | intro _ | decide +kernel | omega)
    all_goals first | rfl | (exfalso; omega) | (simp_all; done) | trace_state
def axV (xs : List Entry) (d : Int) : Int := val (sfC xs d) (bA xs d.toNat)
theorem s_AxisOf1 (xs : List Entry) (d : Int) (hz : esf xs d = 0) (h4 : 4 ≤ xs.length) : Sat Try.prog 116 [.pv [sEntryS xs]] true (rI (bA xs d.toNat)) := by
  refine sat_walk (fn := Try.f116) rfl rfl rfl (Nat.le_of_ble_eq_true rfl) fun fr hP hN hbnd => ?_
  have hE : (envOf fr Try.prog).Ok := envOf_ok hP
  have hM := follows_of hP
  have hS : ∀ {draw ops}, statB Try.f116.ntmps draw ops = true → statB (envOf fr Try.prog).fr.N draw ops = true := fun h => by rw [envOf_fr, hN]; exact h
  repeat' (first
    | exact True.intro
    | refine ev_seq ?_
    | ((first | refine vgd_go ?_ | refine ev_region hE hM (hS (by decide +kernel)) ?_ | refine ev_if ?_ | refine end_ret hE rfl rfl ?_ | refine end_norm hE rfl rfl ?_ | refine endG_ret [] hE rfl ?_ | refine endG_norm [] hE rfl ?_ | refine vcallB_of hP (s_bestAxis xs d hz h4) ?_ | refine vcall_A ?_); simp (maxSteps := 2000000) only [go_sem, hP, ↓reduceIte, Nat.reduceAdd, Nat.reduceMul, Nat.reduceEqDiff, Nat.reduceSub, Nat.reduceLeDiff, reduceCtorEq])
    | refine ev_skip ?_ | refine ev_block ?_ | refine ev_blk ?_ | refine ev_ret ?_ | refine ev_exit ?_ | refine evx_code_ret ?_ | refine evx_blk_ret ?_ | refine evx_lp_ret ?_
    | refine evx_code_exit ?_ | refine evx_lp_exit ?_ | refine evx_blk_hit ?_ | refine evx_blk_pass (by decide) ?_
    | refine And.intro ?_ ?_ | intro _ | decide +kernel | omega)
theorem s_implAxisOf (xs : List Entry) (d : Int) : Sat Try.prog 23 [aEntryS xs, aI d] true (rIR (sfC xs d) (axV xs d)) := by
  refine sat_walk (fn := Try.f23) rfl rfl rfl (Nat.le_of_ble_eq_true rfl) fun fr hP hN hbnd => ?_
  have hE : (envOf fr Try.prog).Ok := envOf_ok hP
  have hM := follows_of hP
  have hS : ∀ {draw ops}, statB Try.f23.ntmps draw ops = true → statB (envOf fr Try.prog).fr.N draw ops = true := fun h => by rw [envOf_fr, hN]; exact h
  repeat' (first
    | exact True.intro
    | refine ev_seq ?_
    | ((first | refine vgd_go ?_ | refine ev_region hE hM (hS (by decide +kernel)) ?_ | refine ev_if ?_ | refine end_ret hE rfl rfl ?_ | refine end_norm hE rfl rfl ?_ | refine endG_ret [] hE rfl ?_ | refine endG_norm [] hE rfl ?_ | refine vcallB_of hP (s_splitFault xs d) ?_ | refine vcallB_of hP (s_valued _ (bA xs d.toNat) _ (fun h => s_AxisOf1 xs d (sfC_zero h).1 (sfC_zero h).2)) ?_ | refine vcall_A ?_); simp (maxSteps := 2000000) only [go_sem, hP, ↓reduceIte, Nat.reduceAdd, Nat.reduceMul, Nat.reduceEqDiff, Nat.reduceSub, Nat.reduceLeDiff, reduceCtorEq])
    | refine ev_skip ?_ | refine ev_block ?_ | refine ev_blk ?_ | refine ev_ret ?_ | refine ev_exit ?_ | refine evx_code_ret ?_ | refine evx_blk_ret ?_ | refine evx_lp_ret ?_
    | refine evx_code_exit ?_ | refine evx_lp_exit ?_ | refine evx_blk_hit ?_ | refine evx_blk_pass (by decide) ?_
    | refine And.intro ?_ ?_ | intro _ | decide +kernel | omega)
  all_goals first | rfl | (simp_all [axV]; done) | trace_state
theorem s_specAxisOf (xs : List Entry) (d : Int) : Sat Try.prog 21 [aEntryS xs, aI d] true (rIR (sfC xs d) (axV xs d)) := by
  refine sat_walk (fn := Try.f21) rfl rfl rfl (Nat.le_of_ble_eq_true rfl) fun fr hP hN hbnd => ?_
  have hE : (envOf fr Try.prog).Ok := envOf_ok hP
  have hM := follows_of hP
  have hS : ∀ {draw ops}, statB Try.f21.ntmps draw ops = true → statB (envOf fr Try.prog).fr.N draw ops = true := fun h => by rw [envOf_fr, hN]; exact h
  by_cases hz : sfC xs d = 0
  · have h1 := sfC_zero hz
    repeat' (first
      | exact True.intro
      | refine ev_seq ?_
      | ((first | refine vgd_go ?_ | refine ev_region hE hM (hS (by decide +kernel)) ?_ | refine ev_if ?_ | refine end_ret hE rfl rfl ?_ | refine end_norm hE rfl rfl ?_ | refine endG_ret [] hE rfl ?_ | refine endG_norm [] hE rfl ?_ | refine vcallB_of hP (s_l5Enough xs d) ?_ | refine vcallB_of hP (s_l5Axis xs d h1.1 h1.2) ?_ | refine vcall_A ?_); simp (maxSteps := 2000000) only [go_sem, hP, ↓reduceIte, Nat.reduceAdd, Nat.reduceMul, Nat.reduceEqDiff, Nat.reduceSub, Nat.reduceLeDiff, reduceCtorEq])
      | refine ev_skip ?_ | refine ev_block ?_ | refine ev_blk ?_ | refine ev_ret ?_ | refine ev_exit ?_ | refine evx_code_ret ?_ | refine evx_blk_ret ?_ | refine evx_lp_ret ?_
      | refine evx_code_exit ?_ | refine evx_lp_exit ?_ | refine evx_blk_hit ?_ | refine evx_blk_pass (by decide) ?_
      | refine And.intro ?_ ?_ | intro _ | decide +kernel | omega)
    all_goals first | rfl | (simp_all [axV, val]; done) | trace_state
  · repeat' (first
      | exact True.intro
      | refine ev_seq ?_
      | ((first | refine vgd_go ?_ | refine ev_region hE hM (hS (by decide +kernel)) ?_ | refine ev_if ?_ | refine end_ret hE rfl rfl ?_ | refine end_norm hE rfl rfl ?_ | refine endG_ret [] hE rfl ?_ | refine endG_norm [] hE rfl ?_ | refine vcallB_of hP (s_l5Enough xs d) ?_ | refine vcall_A ?_); simp (maxSteps := 2000000) only [go_sem, hP, ↓reduceIte, Nat.reduceAdd, Nat.reduceMul, Nat.reduceEqDiff, Nat.reduceSub, Nat.reduceLeDiff, reduceCtorEq])
      | refine ev_skip ?_ | refine ev_block ?_ | refine ev_blk ?_ | refine ev_ret ?_ | refine ev_exit ?_ | refine evx_code_ret ?_ | refine evx_blk_ret ?_ | refine evx_lp_ret ?_
      | refine evx_code_exit ?_ | refine evx_lp_exit ?_ | refine evx_blk_hit ?_ | refine evx_blk_pass (by decide) ?_
      | refine And.intro ?_ ?_ | intro _ | decide +kernel | omega)
    all_goals first | rfl | (simp_all [axV, val]; done) | trace_state
theorem l_AxisOf (a : List Entry) (b : Int) : Sat Try.prog 4 [aEntryS a, aI b] true (rB true) := by
  refine sat_walk (fn := Try.f4) rfl rfl rfl (Nat.le_of_ble_eq_true rfl) fun fr hP hN hbnd => ?_
  have hE : (envOf fr Try.prog).Ok := envOf_ok hP
  have hM := follows_of hP
  have hS : ∀ {draw ops}, statB Try.f4.ntmps draw ops = true → statB (envOf fr Try.prog).fr.N draw ops = true := fun h => by rw [envOf_fr, hN]; exact h
  repeat' (first
    | exact True.intro
    | refine ev_seq ?_
    | ((first | refine vgd_go ?_ | refine ev_region hE hM (hS (by decide +kernel)) ?_ | refine ev_if ?_ | refine end_ret hE rfl rfl ?_ | refine end_norm hE rfl rfl ?_ | refine endG_ret [] hE rfl ?_ | refine endG_norm [] hE rfl ?_ | refine vcallB_of hP (s_szEntryS a _ (by omega) (by omega)) ?_ | refine vcallB_of hP (s_toEntryS a (by simp only [lessN] at *; omega)) ?_ | refine vcallB_of hP (s_specAxisOf a b) ?_ | refine vcallB_of hP (s_implAxisOf a b) ?_ | refine vcallB_of hP (s_eqEntryS a a) ?_ | refine vcallB_of hP (s_eqIntResult _ _ _ _) ?_ | refine vcall_A ?_); simp (maxSteps := 2000000) only [go_sem, hP, ↓reduceIte, Nat.reduceAdd, Nat.reduceMul, Nat.reduceEqDiff, Nat.reduceSub, Nat.reduceLeDiff, reduceCtorEq])
    | refine ev_skip ?_ | refine ev_block ?_ | refine ev_blk ?_ | refine ev_ret ?_ | refine ev_exit ?_ | refine evx_code_ret ?_ | refine evx_blk_ret ?_ | refine evx_lp_ret ?_
    | refine evx_code_exit ?_ | refine evx_lp_exit ?_ | refine evx_blk_hit ?_ | refine evx_blk_pass (by decide) ?_
    | refine And.intro ?_ ?_ | intro _ | decide +kernel | omega)
  all_goals simp_all
theorem all_AxisOf (gs : List Arg) (h : shpA Try.prog 12 [43, 2] gs) : Sat Try.prog 4 gs true (rB true) := by
  obtain ⟨x0, gs, rfl, h0, x1, gs, rfl, h1, rfl⟩ := h
  obtain ⟨a, rfl⟩ := shp_EntryS (n := 7) rfl h0
  obtain ⟨b, rfl, _⟩ := shp_i64 (n := 11) rfl h1
  exact l_AxisOf a b
end Go.Proofs.Ytmpndkhnajogkaa.W
