/- Contracts of functions that FnPairs reaches: what each returns; it writes to nothing of old. No condition but those that each theorem states. -/
import Derived.Test.YtmpndkhnajogkaaQa2
open Go Go.Vm Go.Proofs Go.IntWalk Go.RowKit
set_option maxRecDepth 100000
set_option maxHeartbeats 4000000
set_option linter.unusedSimpArgs false
set_option linter.unusedVariables false
set_option linter.unusedSectionVars false
namespace Go.Proofs.Ytmpndkhnajogkaa.W
attribute [local irreducible] kJ ev evx vops vstep vgo vgd vget vcall vcallFn vcallA vcallB vts vres vcond vbin
theorem dpE_w (c : List Int) : wR (dpE c).rect ≤ 7 := by
  have e := clD_in (bq c 0).d
  exact Nat.le_trans (bentV_w c (dpP c + 4) (clD (bq c 0).d)) (by omega)
theorem l_FnPairs (c : List Int) (hb : ∀ b ∈ c, 0 ≤ b ∧ b < 256) : Sat Try.prog 14 [aY c] true (rB true) := by
  refine sat_walk (fn := Try.f14) rfl rfl rfl (Nat.le_of_ble_eq_true rfl) fun fr hP hN hbnd => ?_
  have hE : (envOf fr Try.prog).Ok := envOf_ok hP
  have hM := follows_of hP
  have hS : ∀ {draw ops}, statB Try.f14.ntmps draw ops = true → statB (envOf fr Try.prog).fr.N draw ops = true := fun h => by rw [envOf_fr, hN]; exact h
  by_cases hbig : 1048576 < c.length
  · have hz : decide (1048576 < c.length) = true := by simpa using hbig
    have k0 := s_lwBig c
    rw [hz] at k0
    repeat' (first
      | exact True.intro
      | refine ev_seq ?_
      | ((first | refine vgd_go ?_ | refine ev_region hE hM (hS (by decide +kernel)) ?_ | refine ev_if ?_ | refine end_ret hE rfl rfl ?_ | refine end_norm hE rfl rfl ?_ | refine endG_ret [] hE rfl ?_ | refine endG_norm [] hE rfl ?_ | refine vcallB_of hP k0 ?_ | refine vcall_A ?_); simp (maxSteps := 2000000) only [go_sem, hP, ↓reduceIte, Nat.reduceAdd, Nat.reduceMul, Nat.reduceEqDiff, Nat.reduceSub, Nat.reduceLeDiff, reduceCtorEq])
      | refine ev_skip ?_ | refine ev_block ?_ | refine ev_blk ?_ | refine ev_ret ?_ | refine ev_exit ?_ | refine evx_code_ret ?_ | refine evx_blk_ret ?_ | refine evx_lp_ret ?_
      | refine evx_code_exit ?_ | refine evx_lp_exit ?_ | refine evx_blk_hit ?_ | refine evx_blk_pass (by decide) ?_
      | refine And.intro ?_ ?_ | intro _ | decide +kernel | omega)
  have hz : decide (1048576 < c.length) = false := by simpa using hbig
  have k0 := s_lwBig c
  rw [hz] at k0
  have hc : codeOk c := ⟨by omega, hb⟩
  have k1 := s_DrawAddPair c hc
  have k2 := s_DrawTakePair c hc
  have hw := bq_w c 0
  have hlen := bq_len c 0
  have hwp := dpE_w c
  generalize dpE c = p at *
  generalize dtE c = q at *
  generalize (bq c 0).l = xs at *
  generalize (bq c 0).d = d at *
  have k3 := s_implAddPair xs d p (by omega)
  have k4 := s_specAddPair xs d p
  have k5 := s_implTakePair xs d q (by omega)
  have k6 := s_specTakePair xs d q (by omega)
  have k7 := s_implModelFault xs d
  have k8 := s_specModelFault xs d
  have m0 : (0 != (0 : Int)) = false := rfl
  have m1 : (0 == (0 : Int)) = true := rfl
  have m4 : (4 != (4 : Int)) = false := rfl
  have bn : ∀ x : Int, (x != x) = false := fun x => by simp
  have hxs : decide (xs = xs) = true := by simp
  have kx := s_implSamePairs xs xs
  have ky := s_specSamePairs xs xs
  rw [hxs] at kx ky
  have hT : tpC xs d q = 0 → _ := take_facts
  have hTw := tpV_w xs d q
  have hA : apC xs d p = 0 → _ := add_facts
  have hAw := addV_w xs p
  have hpp := s_implSameRects p.rect p.rect
  rw [show decide (p.rect = p.rect) = true by simp] at hpp
  generalize tpV xs d q = ys at *
  generalize tpC xs d q = tc at *
  generalize mf xs d = mfc at *
  repeat' (first
    | exact True.intro
    | refine ev_seq ?_
    | ((first | refine ev_stop 9 ?_ | refine vgd_go ?_ | refine ev_region hE hM (hS (by decide +kernel)) ?_ | refine ev_if ?_ | refine end_ret hE rfl rfl ?_ | refine end_norm hE rfl rfl ?_ | refine endG_ret [] hE rfl ?_ | refine endG_norm [] hE rfl ?_ | refine vcallB_of hP k0 ?_ | refine vcallB_of hP k1 ?_ | refine vcallB_of hP k2 ?_ | refine vcallB_of hP k3 ?_ | refine vcallB_of hP k4 ?_ | refine vcallB_of hP k5 ?_ | refine vcallB_of hP k6 ?_ | refine vcallB_of hP k7 ?_ | refine vcallB_of hP k8 ?_ | refine vcall_A ?_); simp (maxSteps := 2000000) only [go_sem, hP, ↓reduceIte, Nat.reduceAdd, Nat.reduceMul, Nat.reduceEqDiff, Nat.reduceSub, Nat.reduceLeDiff, reduceCtorEq, m0, bn, List.length_map])
    | refine ev_skip ?_ | refine ev_block ?_ | refine ev_blk ?_ | refine ev_ret ?_ | refine ev_exit ?_ | refine evx_code_ret ?_ | refine evx_blk_ret ?_ | refine evx_lp_ret ?_
    | refine evx_code_exit ?_ | refine evx_lp_exit ?_ | refine evx_blk_hit ?_ | refine evx_blk_pass (by decide) ?_
    | refine And.intro ?_ ?_ | intro _ | decide +kernel | omega)
  all_goals first | (exfalso; simp_all; done) | skip
  first | refine Stop.mk ?_ | skip
  have ez : ∃ zs, apV xs d p = zs := ⟨_, rfl⟩
  obtain ⟨zs, ez⟩ := ez
  rw [ez]
  refine ev_cut [(3, .c (sP xs)), (4, iT d), (5, .ptr 12336 0), (6, .ptr 16416 0), (7, .c (sP xs)), (8, iT d), (9, .ptr 20528 0), (10, .ptr 24608 0)] [(12336, .box [iT p.id, .c (sI p.rect.low), .c (sI p.rect.high)]), (16416, .box [iT (apC xs d p), .ref 1064984]), (1064984, .fro 3 (zs.map eP)), (20528, .box [iT q.id, .c (sI q.rect.low), .c (sI q.rect.high)]), (24608, .box [iT tc, .ref 1073176]), (1073176, .fro 3 (ys.map eP))] [] [] (by simp only [go_sem, hP, ↓reduceIte, Nat.reduceAdd, Nat.reduceMul, Nat.reduceEqDiff, Nat.reduceSub, Nat.reduceLeDiff, reduceCtorEq]) ?_
  -- what behind the first question comes
  by_cases hC : apC xs d p = 0
  · obtain ⟨ea, f1, f2, f3, f4, f5⟩ := hA hC
    rw [← ea, ez] at f1 f2 f3 f4 f5 hAw
    rw [hC]
    have g1 := s_implModelFault zs d
    have g2 := s_implFindPair zs d p.id (by omega)
    have g3 := s_implTakePair zs d p (by omega)
    rw [f1] at g1
    rw [f2] at g2
    rw [f4, f5] at g3
    generalize fpV zs d p.id = v at *
    have hsr : Sat Try.prog 54 [aR v.rect, aR p.rect] true (rB true) := by
      have := s_implSameRects v.rect p.rect
      rwa [show decide (v.rect = p.rect) = true from decide_eq_true f3] at this
    by_cases hB : tc = 0
    · obtain ⟨u1, u2, u3, u4⟩ := hT hB
      subst hB
      have w1 : IntKind.i64.wrap ((xs.length : Int) - 1) = xs.length - 1 := i64_in _ (by have := hlen; omega)
      have o5 : ((ys.length : Int) != (xs.length : Int) - 1) = false := bne_eq_false_iff_eq.2 (by omega)
      have kb := s_implFindPair ys d q.id (by omega)
      have kc := s_implAddPair ys d q (by omega)
      rw [u2] at kb
      rw [u3, u4] at kc
      generalize fpV ys d q.id = v2 at *
      repeat' (first
        | exact True.intro
        | refine ev_seq ?_
        | ((first | refine vgd_go ?_ | refine ev_region hE hM (hS (by decide +kernel)) ?_ | refine ev_if ?_ | refine end_ret hE rfl rfl ?_ | refine end_norm hE rfl rfl ?_ | refine endG_ret [] hE rfl ?_ | refine endG_norm [] hE rfl ?_ | refine vcallB_of hP kb ?_ | refine vcallB_of hP kc ?_ | refine vcallB_of hP kx ?_ | refine vcallB_of hP ky ?_ | refine vcallB_of hP g1 ?_ | refine vcallB_of hP g2 ?_ | refine vcallB_of hP g3 ?_ | refine vcallB_of hP hsr ?_ | refine vcall_A ?_); simp (maxSteps := 2000000) only [go_sem, hP, ↓reduceIte, Nat.reduceAdd, Nat.reduceMul, Nat.reduceEqDiff, Nat.reduceSub, Nat.reduceLeDiff, reduceCtorEq, m0, m1, m4, w1, o5, List.length_map])
        | refine ev_skip ?_ | refine ev_block ?_ | refine ev_blk ?_ | refine ev_ret ?_ | refine ev_exit ?_ | refine evx_code_ret ?_ | refine evx_blk_ret ?_ | refine evx_lp_ret ?_
        | refine evx_code_exit ?_ | refine evx_lp_exit ?_ | refine evx_blk_hit ?_ | refine evx_blk_pass (by decide) ?_
        | refine And.intro ?_ ?_ | intro _ | decide +kernel | omega)
      all_goals first | rfl | (exfalso; simp_all; done) | (simp_all; done) | trace_state
    · have n1 : (tc == 0) = false := by simpa using hB
      repeat' (first
        | exact True.intro
        | refine ev_seq ?_
        | ((first | refine vgd_go ?_ | refine ev_region hE hM (hS (by decide +kernel)) ?_ | refine ev_if ?_ | refine end_ret hE rfl rfl ?_ | refine end_norm hE rfl rfl ?_ | refine endG_ret [] hE rfl ?_ | refine endG_norm [] hE rfl ?_ | refine vcallB_of hP kx ?_ | refine vcallB_of hP ky ?_ | refine vcallB_of hP g1 ?_ | refine vcallB_of hP g2 ?_ | refine vcallB_of hP g3 ?_ | refine vcallB_of hP hsr ?_ | refine vcall_A ?_); simp (maxSteps := 2000000) only [go_sem, hP, ↓reduceIte, Nat.reduceAdd, Nat.reduceMul, Nat.reduceEqDiff, Nat.reduceSub, Nat.reduceLeDiff, reduceCtorEq, m0, m1, m4, n1, List.length_map])
        | refine ev_skip ?_ | refine ev_block ?_ | refine ev_blk ?_ | refine ev_ret ?_ | refine ev_exit ?_ | refine evx_code_ret ?_ | refine evx_blk_ret ?_ | refine evx_lp_ret ?_
        | refine evx_code_exit ?_ | refine evx_lp_exit ?_ | refine evx_blk_hit ?_ | refine evx_blk_pass (by decide) ?_
        | refine And.intro ?_ ?_ | intro _ | decide +kernel | omega)
      all_goals first | rfl | (exfalso; simp_all; done) | (simp_all; done) | trace_state
  · have n2 : (apC xs d p != 0) = true := by simpa using hC
    generalize apC xs d p = ac at *
    by_cases hB : tc = 0
    · obtain ⟨u1, u2, u3, u4⟩ := hT hB
      subst hB
      have w1 : IntKind.i64.wrap ((xs.length : Int) - 1) = xs.length - 1 := i64_in _ (by have := hlen; omega)
      have o5 : ((ys.length : Int) != (xs.length : Int) - 1) = false := bne_eq_false_iff_eq.2 (by omega)
      have kb := s_implFindPair ys d q.id (by omega)
      have kc := s_implAddPair ys d q (by omega)
      rw [u2] at kb
      rw [u3, u4] at kc
      generalize fpV ys d q.id = v2 at *
      repeat' (first
        | exact True.intro
        | refine ev_seq ?_
        | ((first | refine vgd_go ?_ | refine ev_region hE hM (hS (by decide +kernel)) ?_ | refine ev_if ?_ | refine end_ret hE rfl rfl ?_ | refine end_norm hE rfl rfl ?_ | refine endG_ret [] hE rfl ?_ | refine endG_norm [] hE rfl ?_ | refine vcallB_of hP kb ?_ | refine vcallB_of hP kc ?_ | refine vcallB_of hP kx ?_ | refine vcallB_of hP ky ?_ | refine vcall_A ?_); simp (maxSteps := 2000000) only [go_sem, hP, ↓reduceIte, Nat.reduceAdd, Nat.reduceMul, Nat.reduceEqDiff, Nat.reduceSub, Nat.reduceLeDiff, reduceCtorEq, m0, m1, m4, w1, o5, n2, List.length_map])
        | refine ev_skip ?_ | refine ev_block ?_ | refine ev_blk ?_ | refine ev_ret ?_ | refine ev_exit ?_ | refine evx_code_ret ?_ | refine evx_blk_ret ?_ | refine evx_lp_ret ?_
        | refine evx_code_exit ?_ | refine evx_lp_exit ?_ | refine evx_blk_hit ?_ | refine evx_blk_pass (by decide) ?_
        | refine And.intro ?_ ?_ | intro _ | decide +kernel | omega)
      all_goals first | rfl | (exfalso; simp_all; done) | (simp_all; done) | trace_state
    · have n1 : (tc == 0) = false := by simpa using hB
      repeat' (first
        | exact True.intro
        | refine ev_seq ?_
        | ((first | refine vgd_go ?_ | refine ev_region hE hM (hS (by decide +kernel)) ?_ | refine ev_if ?_ | refine end_ret hE rfl rfl ?_ | refine end_norm hE rfl rfl ?_ | refine endG_ret [] hE rfl ?_ | refine endG_norm [] hE rfl ?_ | refine vcall_A ?_); simp (maxSteps := 2000000) only [go_sem, hP, ↓reduceIte, Nat.reduceAdd, Nat.reduceMul, Nat.reduceEqDiff, Nat.reduceSub, Nat.reduceLeDiff, reduceCtorEq, m0, m1, n1, n2, List.length_map])
        | refine ev_skip ?_ | refine ev_block ?_ | refine ev_blk ?_ | refine ev_ret ?_ | refine ev_exit ?_ | refine evx_code_ret ?_ | refine evx_blk_ret ?_ | refine evx_lp_ret ?_
        | refine evx_code_exit ?_ | refine evx_lp_exit ?_ | refine evx_blk_hit ?_ | refine evx_blk_pass (by decide) ?_
        | refine And.intro ?_ ?_ | intro _ | decide +kernel | omega)
      all_goals first | rfl | (exfalso; simp_all; done) | (simp_all; done) | trace_state
end Go.Proofs.Ytmpndkhnajogkaa.W
