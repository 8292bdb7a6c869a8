/- Contracts of functions that FnSplits reaches: what each returns; it writes to nothing of old. No condition but those that each theorem states. -/
import Derived.Test.YtegohioalgikjaaGreatQa3
open Go Go.Vm Go.Proofs Go.IntWalk Go.RowKit
set_option maxRecDepth 100000
set_option maxHeartbeats 4000000
set_option linter.unusedSimpArgs false
set_option linter.unusedVariables false
set_option linter.unusedSectionVars false
namespace Go.Proofs.YtegohioalgikjaaGreat.W
attribute [local irreducible] kJ ev evx vops vstep vgo vgd vget vcall vcallFn vcallA vcallB vts vres vcond vbin
theorem s_l5Quad (xs : List Entry) (d : Int) (hz : esf xs d = 0) (h4 : 4 ≤ xs.length) : Sat Tryz.prog 27 [aEntryS xs] false [(false, [sEntryS (selE xs (quadV xs) 1)]), (false, [sEntryS (selE xs (quadV xs) 2)])] := by
  refine sat_walk (fn := Tryz.f27) rfl rfl rfl (Nat.le_of_ble_eq_true rfl) fun fr hP hN hbnd => ?_
  have hE : (envOf fr Tryz.prog).Ok := envOf_ok hP
  have hM := follows_of hP
  have hS : ∀ {draw ops}, statB Tryz.f27.ntmps draw ops = true → statB (envOf fr Tryz.prog).fr.N draw ops = true := fun h => by rw [envOf_fr, hN]; exact h
  have hz1 := esf_len hz
  have hrf := esf_rf hz
  have hev := rf_even hrf
  obtain ⟨x, y, e1, e2, e3, e4⟩ := sd_ok (xs := xs) (by omega)
  have k0 := s_l5Seeds xs d.toNat hev (by omega) (by omega)
  rw [e1, e2] at k0
  have hj0 := QJ.start e1 e2 e3 e4
  have hs0 := (start_ok e3 e4).2
  have hrep : List.replicate xs.length [C.int IntKind.i64 (Int.ofNat 0)] = List.map Vm.eI (List.replicate xs.length (0 : Int)) := by rw [List.map_replicate]; rfl
  have hmk : (List.map Vm.eI (List.replicate xs.length (0 : Int))).set x [C.int IntKind.i64 1] = List.map Vm.eI ((List.replicate xs.length (0 : Int)).set x 1) := by rw [List.map_set]; rfl
  have hmk2 : (List.map Vm.eI ((List.replicate xs.length (0 : Int)).set x 1)).set y [C.int IntKind.i64 2] = List.map Vm.eI (startV xs.length x y) := by unfold startV; rw [List.map_set (l := (List.replicate xs.length (0 : Int)).set x 1)]; rfl
  have hw0 : IntKind.i64.wrap ((xs.length : Int) - 2) = (xs.length - 2 : Nat) := by rw [i64_in _ (by omega)]; omega
  repeat' (first
    | exact True.intro
    | refine ev_seq ?_
    | ((first | refine vgd_go ?_ | refine ev_region hE hM (hS (by decide +kernel)) ?_ | refine ev_if ?_ | refine end_ret hE rfl rfl ?_ | refine end_norm hE rfl rfl ?_ | refine endG_ret [] hE rfl ?_ | refine endG_norm [] hE rfl ?_ | refine vcallB_of hP k0 ?_ | refine vcall_A ?_); simp (maxSteps := 2000000) only [go_sem, hP, ↓reduceIte, Nat.reduceAdd, Nat.reduceMul, Nat.reduceEqDiff, Nat.reduceSub, Nat.reduceLeDiff, reduceCtorEq, hrep, hmk, hmk2, hw0, List.length_map, List.length_set, List.length_replicate])
    | refine ev_skip ?_ | refine ev_block ?_ | refine ev_blk ?_ | refine ev_ret ?_ | refine ev_exit ?_ | refine evx_code_ret ?_ | refine evx_blk_ret ?_ | refine evx_lp_ret ?_
    | refine evx_code_exit ?_ | refine evx_lp_exit ?_ | refine evx_blk_hit ?_ | refine evx_blk_pass (by decide) ?_
    | refine And.intro ?_ ?_ | intro _ | decide +kernel | omega)
  refine ev_loop (ι := List Int) (fun ins => [(0, .c (sEntryS xs)), (4, .ref 4112), (7, iT (ins.count 0))]) (fun ins => [gIn 4112 ins]) (fun _ => []) (fun ins => QJ xs ins) (fun ins => ins.count 0) (startV xs.length x y) [] hj0 (by simp only [go_sem, hP, ↓reduceIte, Nat.reduceAdd, Nat.reduceMul, Nat.reduceEqDiff, Nat.reduceSub, Nat.reduceLeDiff, reduceCtorEq]; rw [hs0]) ?_
  intro ins q
  have hl := q.ok.len
  have n0 := selE_count (xs := xs) 0 hl
  have n1 := selE_count (xs := xs) 1 hl
  have n2 := selE_count (xs := xs) 2 hl
  have q1 := q.ok.one
  have q2 := q.ok.two
  have f1 := s_l5SideG xs ins 1 hl (by omega)
  have f2 := s_l5SideG xs ins 2 hl (by omega)
  have cl : ins.count 0 ≤ 10 ∧ ins.count 1 ≤ 10 ∧ ins.count 2 ≤ 10 := ⟨Nat.le_trans List.count_le_length (by omega), Nat.le_trans List.count_le_length (by omega), Nat.le_trans List.count_le_length (by omega)⟩
  by_cases h0 : ins.count 0 = 0
  · have hd := q.done h0
    have d0 : decide (0 < (ins.count 0 : Int)) = false := decide_eq_false (by omega)
    rw [← hd]
    repeat' (first
      | exact True.intro
      | refine ev_seq ?_
      | ((first | refine vgd_go ?_ | refine ev_region hE hM (hS (by decide +kernel)) ?_ | refine ev_if ?_ | refine end_ret hE rfl rfl ?_ | refine end_norm hE rfl rfl ?_ | refine endG_ret [] hE rfl ?_ | refine endG_norm [] hE rfl ?_ | refine vcallG_of (args := [_, .ref 4112, iT 1]) [(1, 4112)] [] hP f1 ?_ | refine vcallG_of (args := [_, .ref 4112, iT 2]) [(1, 4112)] [] hP f2 ?_ | refine vcall_A ?_); simp (maxSteps := 2000000) only [go_sem, hP, ↓reduceIte, Nat.reduceAdd, Nat.reduceMul, Nat.reduceEqDiff, Nat.reduceSub, Nat.reduceLeDiff, reduceCtorEq, d0, List.length_map])
      | refine ev_skip ?_ | refine ev_block ?_ | refine ev_blk ?_ | refine ev_ret ?_ | refine ev_exit ?_ | refine evx_code_ret ?_ | refine evx_blk_ret ?_ | refine evx_lp_ret ?_
      | refine evx_code_exit ?_ | refine evx_lp_exit ?_ | refine evx_blk_hit ?_ | refine evx_blk_pass (by decide) ?_
      | refine And.intro ?_ ?_ | intro _ | decide +kernel | omega)
    all_goals first | rfl | (exfalso; omega) | (simp_all; done) | trace_state
  · have hpos : 0 < ins.count 0 := by omega
    have d0 : decide (0 < (ins.count 0 : Int)) = true := decide_eq_true (by omega)
    have z1 : decide (0 < (1 : Int)) = true := rfl
    have z2 : decide (0 < (2 : Int)) = true := rfl
    have z0 : decide (0 < (0 : Int)) = false := rfl
    have w1 : IntKind.i64.wrap (2 - ((selE xs ins 1).length : Int)) = 2 - (selE xs ins 1).length := i64_in _ (by omega)
    have w2 : IntKind.i64.wrap (2 - ((selE xs ins 2).length : Int)) = 2 - (selE xs ins 2).length := i64_in _ (by omega)
    -- what stands behind the loop that fills
    have fin : ∀ s : Int, s ≠ 0 → fillV ins s = quadV xs → SatG Tryz.prog 55 false [.c (sEntryS xs), .ref 1, iT 1] [gIn 1 (fillV ins s)] (.ref 2) [gIn 1 (fillV ins s), (2, .fro 4 ((selE xs (quadV xs) 1).map eEntry))] ∧ SatG Tryz.prog 55 false [.c (sEntryS xs), .ref 1, iT 2] [gIn 1 (fillV ins s)] (.ref 2) [gIn 1 (fillV ins s), (2, .fro 4 ((selE xs (quadV xs) 2).map eEntry))] := fun s hs hq => by
      have e := (fill_ok (s := s) q.ok).len
      have a1 := s_l5SideG xs (fillV ins s) 1 e (by omega)
      have a2 := s_l5SideG xs (fillV ins s) 2 e (by omega)
      rw [show selE xs (quadV xs) 1 = selE xs (fillV ins s) 1 by rw [hq], show selE xs (quadV xs) 2 = selE xs (fillV ins s) 2 by rw [hq]]
      exact ⟨a1, a2⟩
    by_cases c1 : (ins.count 0 : Int) ≤ 2 - (selE xs ins 1).length
    · have d1 : decide ((ins.count 0 : Int) ≤ 2 - ((selE xs ins 1).length : Int)) = true := decide_eq_true c1
      obtain ⟨a1, a2⟩ := fin 1 (by omega) (q.one hpos c1)
      repeat' (first
        | exact True.intro
        | refine ev_seq ?_
        | ((first | refine vgd_go ?_ | refine ev_region hE hM (hS (by decide +kernel)) ?_ | refine ev_if ?_ | refine end_ret hE rfl rfl ?_ | refine end_norm hE rfl rfl ?_ | refine endG_ret [] hE rfl ?_ | refine endG_norm [] hE rfl ?_ | refine vcallG_of (args := [_, .ref 4112, iT 1]) [(1, 4112)] [] hP f1 ?_ | refine vcallG_of (args := [_, .ref 4112, iT 2]) [(1, 4112)] [] hP f2 ?_ | refine vcall_A ?_); simp (maxSteps := 2000000) only [go_sem, hP, ↓reduceIte, Nat.reduceAdd, Nat.reduceMul, Nat.reduceEqDiff, Nat.reduceSub, Nat.reduceLeDiff, reduceCtorEq, d0, z1, w1, d1, List.length_map])
        | refine ev_skip ?_ | refine ev_block ?_ | refine ev_blk ?_ | refine ev_ret ?_ | refine ev_exit ?_ | refine evx_code_ret ?_ | refine evx_blk_ret ?_ | refine evx_lp_ret ?_
        | refine evx_code_exit ?_ | refine evx_lp_exit ?_ | refine evx_blk_hit ?_ | refine evx_blk_pass (by decide) ?_
        | refine And.intro ?_ ?_ | intro _ | decide +kernel | omega)
      refine ev_loop (ι := Nat) (fun k => [(0, .c (sEntryS xs)), (4, .ref 4112), (8, iT 1), (9, iT k)]) (fun k => [gIn 4112 (fillTo ins 1 k)]) (fun _ => []) (fun k => k ≤ ins.length) (fun k => ins.length - k) 0 [] (by omega) (by simp only [go_sem, hP, ↓reduceIte, Nat.reduceAdd, Nat.reduceMul, Nat.reduceEqDiff, Nat.reduceSub, Nat.reduceLeDiff, reduceCtorEq]; simp [fillTo_zero]) ?_
      intro k hk
      have hfl := fillTo_len ins 1 k
      by_cases hlt : k < ins.length
      · have hw1 : IntKind.i64.wrap ((k : Int) + 1) = k + 1 := i64_in _ (by omega)
        have dl : decide ((k : Int) < (xs.length : Int)) = true := by simp only [decide_eq_true_eq]; omega
        have hg := fillTo_get (s := 1) hlt
        have hst := fillTo_step (s := 1) hlt
        generalize fillTo ins 1 k = js at *
        by_cases h0 : ins.getD k default = 0
        · have d5 : (ins.getD k default == 0) = true := beq_iff_eq.2 h0
          rw [if_pos h0] at hst
          repeat' (first
            | exact True.intro
            | refine ev_seq ?_
            | ((first | refine vgd_go ?_ | refine ev_region hE hM (hS (by decide +kernel)) ?_ | refine ev_if ?_ | refine end_ret hE rfl rfl ?_ | refine end_norm hE rfl rfl ?_ | refine endG_ret [] hE rfl ?_ | refine endG_norm [] hE rfl ?_ | refine vcall_A ?_); simp (maxSteps := 2000000) only [go_sem, hP, ↓reduceIte, Nat.reduceAdd, Nat.reduceMul, Nat.reduceEqDiff, Nat.reduceSub, Nat.reduceLeDiff, reduceCtorEq, dl, hg, d5, List.length_map, Cs.strip, C.strip, Es.strip])
            | refine ev_skip ?_ | refine ev_block ?_ | refine ev_blk ?_ | refine ev_ret ?_ | refine ev_exit ?_ | refine evx_code_ret ?_ | refine evx_blk_ret ?_ | refine evx_lp_ret ?_
            | refine evx_code_exit ?_ | refine evx_lp_exit ?_ | refine evx_blk_hit ?_ | refine evx_blk_pass (by decide) ?_
            | refine And.intro ?_ ?_ | intro _ | decide +kernel | omega)
          all_goals first
            | exact ev_lp (k + 1) [] (by omega) (by omega) (by simp only [go_sem, hP, ↓reduceIte, Nat.reduceAdd, Nat.reduceMul, Nat.reduceEqDiff, Nat.reduceSub, Nat.reduceLeDiff, reduceCtorEq]; rw [hst]; simp [hw1, List.map_set, Vm.eI])
            | (exfalso; omega)
            | omega
            | (simp_all; done)
            | trace_state
        · have d5 : (ins.getD k default == 0) = false := beq_eq_false_iff_ne.2 h0
          rw [if_neg h0] at hst
          repeat' (first
            | exact True.intro
            | refine ev_seq ?_
            | ((first | refine vgd_go ?_ | refine ev_region hE hM (hS (by decide +kernel)) ?_ | refine ev_if ?_ | refine end_ret hE rfl rfl ?_ | refine end_norm hE rfl rfl ?_ | refine endG_ret [] hE rfl ?_ | refine endG_norm [] hE rfl ?_ | refine vcall_A ?_); simp (maxSteps := 2000000) only [go_sem, hP, ↓reduceIte, Nat.reduceAdd, Nat.reduceMul, Nat.reduceEqDiff, Nat.reduceSub, Nat.reduceLeDiff, reduceCtorEq, dl, hg, d5, List.length_map, Cs.strip, C.strip, Es.strip])
            | refine ev_skip ?_ | refine ev_block ?_ | refine ev_blk ?_ | refine ev_ret ?_ | refine ev_exit ?_ | refine evx_code_ret ?_ | refine evx_blk_ret ?_ | refine evx_lp_ret ?_
            | refine evx_code_exit ?_ | refine evx_lp_exit ?_ | refine evx_blk_hit ?_ | refine evx_blk_pass (by decide) ?_
            | refine And.intro ?_ ?_ | intro _ | decide +kernel | omega)
          all_goals first
            | exact ev_lp (k + 1) [] (by omega) (by omega) (by simp only [go_sem, hP, ↓reduceIte, Nat.reduceAdd, Nat.reduceMul, Nat.reduceEqDiff, Nat.reduceSub, Nat.reduceLeDiff, reduceCtorEq]; rw [hst]; simp [hw1])
            | (exfalso; omega)
            | omega
            | (simp_all; done)
            | trace_state
      · obtain rfl : k = ins.length := by omega
        have dl : decide ((ins.length : Int) < (xs.length : Int)) = false := by simp [hl]
        repeat' (first
          | exact True.intro
          | refine ev_seq ?_
          | ((first | refine vgd_go ?_ | refine ev_region hE hM (hS (by decide +kernel)) ?_ | refine ev_if ?_ | refine end_ret hE rfl rfl ?_ | refine end_norm hE rfl rfl ?_ | refine endG_ret [] hE rfl ?_ | refine endG_norm [] hE rfl ?_ | refine vcallG_of (args := [_, .ref 4112, iT 1]) [(1, 4112)] [] hP a1 ?_ | refine vcallG_of (args := [_, .ref 4112, iT 2]) [(1, 4112)] [] hP a2 ?_ | refine vcall_A ?_); simp (maxSteps := 2000000) only [go_sem, hP, ↓reduceIte, Nat.reduceAdd, Nat.reduceMul, Nat.reduceEqDiff, Nat.reduceSub, Nat.reduceLeDiff, reduceCtorEq, dl, fillTo_all, List.length_map])
          | refine ev_skip ?_ | refine ev_block ?_ | refine ev_blk ?_ | refine ev_ret ?_ | refine ev_exit ?_ | refine evx_code_ret ?_ | refine evx_blk_ret ?_ | refine evx_lp_ret ?_
          | refine evx_code_exit ?_ | refine evx_lp_exit ?_ | refine evx_blk_hit ?_ | refine evx_blk_pass (by decide) ?_
          | refine And.intro ?_ ?_ | intro _ | decide +kernel | omega)
        all_goals first | rfl | (exfalso; omega) | (simp_all; done) | trace_state
    · have d1 : decide ((ins.count 0 : Int) ≤ 2 - ((selE xs ins 1).length : Int)) = false := decide_eq_false c1
      by_cases c2 : (ins.count 0 : Int) ≤ 2 - (selE xs ins 2).length
      · have d2 : decide ((ins.count 0 : Int) ≤ 2 - ((selE xs ins 2).length : Int)) = true := decide_eq_true c2
        obtain ⟨a1, a2⟩ := fin 2 (by omega) (q.two hpos c1 c2)
        repeat' (first
          | exact True.intro
          | refine ev_seq ?_
          | ((first | refine vgd_go ?_ | refine ev_region hE hM (hS (by decide +kernel)) ?_ | refine ev_if ?_ | refine end_ret hE rfl rfl ?_ | refine end_norm hE rfl rfl ?_ | refine endG_ret [] hE rfl ?_ | refine endG_norm [] hE rfl ?_ | refine vcallG_of (args := [_, .ref 4112, iT 1]) [(1, 4112)] [] hP f1 ?_ | refine vcallG_of (args := [_, .ref 4112, iT 2]) [(1, 4112)] [] hP f2 ?_ | refine vcall_A ?_); simp (maxSteps := 2000000) only [go_sem, hP, ↓reduceIte, Nat.reduceAdd, Nat.reduceMul, Nat.reduceEqDiff, Nat.reduceSub, Nat.reduceLeDiff, reduceCtorEq, d0, z2, w1, w2, d1, d2, List.length_map])
          | refine ev_skip ?_ | refine ev_block ?_ | refine ev_blk ?_ | refine ev_ret ?_ | refine ev_exit ?_ | refine evx_code_ret ?_ | refine evx_blk_ret ?_ | refine evx_lp_ret ?_
          | refine evx_code_exit ?_ | refine evx_lp_exit ?_ | refine evx_blk_hit ?_ | refine evx_blk_pass (by decide) ?_
          | refine And.intro ?_ ?_ | intro _ | decide +kernel | omega)
        refine ev_loop (ι := Nat) (fun k => [(0, .c (sEntryS xs)), (4, .ref 4112), (8, iT 2), (9, iT k)]) (fun k => [gIn 4112 (fillTo ins 2 k)]) (fun _ => []) (fun k => k ≤ ins.length) (fun k => ins.length - k) 0 [] (by omega) (by simp only [go_sem, hP, ↓reduceIte, Nat.reduceAdd, Nat.reduceMul, Nat.reduceEqDiff, Nat.reduceSub, Nat.reduceLeDiff, reduceCtorEq]; simp [fillTo_zero]) ?_
        intro k hk
        have hfl := fillTo_len ins 2 k
        by_cases hlt : k < ins.length
        · have hw1 : IntKind.i64.wrap ((k : Int) + 1) = k + 1 := i64_in _ (by omega)
          have dl : decide ((k : Int) < (xs.length : Int)) = true := by simp only [decide_eq_true_eq]; omega
          have hg := fillTo_get (s := 2) hlt
          have hst := fillTo_step (s := 2) hlt
          generalize fillTo ins 2 k = js at *
          by_cases h0 : ins.getD k default = 0
          · have d5 : (ins.getD k default == 0) = true := beq_iff_eq.2 h0
            rw [if_pos h0] at hst
            repeat' (first
              | exact True.intro
              | refine ev_seq ?_
              | ((first | refine vgd_go ?_ | refine ev_region hE hM (hS (by decide +kernel)) ?_ | refine ev_if ?_ | refine end_ret hE rfl rfl ?_ | refine end_norm hE rfl rfl ?_ | refine endG_ret [] hE rfl ?_ | refine endG_norm [] hE rfl ?_ | refine vcall_A ?_); simp (maxSteps := 2000000) only [go_sem, hP, ↓reduceIte, Nat.reduceAdd, Nat.reduceMul, Nat.reduceEqDiff, Nat.reduceSub, Nat.reduceLeDiff, reduceCtorEq, dl, hg, d5, List.length_map, Cs.strip, C.strip, Es.strip])
              | refine ev_skip ?_ | refine ev_block ?_ | refine ev_blk ?_ | refine ev_ret ?_ | refine ev_exit ?_ | refine evx_code_ret ?_ | refine evx_blk_ret ?_ | refine evx_lp_ret ?_
              | refine evx_code_exit ?_ | refine evx_lp_exit ?_ | refine evx_blk_hit ?_ | refine evx_blk_pass (by decide) ?_
              | refine And.intro ?_ ?_ | intro _ | decide +kernel | omega)
            all_goals first
              | exact ev_lp (k + 1) [] (by omega) (by omega) (by simp only [go_sem, hP, ↓reduceIte, Nat.reduceAdd, Nat.reduceMul, Nat.reduceEqDiff, Nat.reduceSub, Nat.reduceLeDiff, reduceCtorEq]; rw [hst]; simp [hw1, List.map_set, Vm.eI])
              | (exfalso; omega)
              | omega
              | (simp_all; done)
              | trace_state
          · have d5 : (ins.getD k default == 0) = false := beq_eq_false_iff_ne.2 h0
            rw [if_neg h0] at hst
            repeat' (first
              | exact True.intro
              | refine ev_seq ?_
              | ((first | refine vgd_go ?_ | refine ev_region hE hM (hS (by decide +kernel)) ?_ | refine ev_if ?_ | refine end_ret hE rfl rfl ?_ | refine end_norm hE rfl rfl ?_ | refine endG_ret [] hE rfl ?_ | refine endG_norm [] hE rfl ?_ | refine vcall_A ?_); simp (maxSteps := 2000000) only [go_sem, hP, ↓reduceIte, Nat.reduceAdd, Nat.reduceMul, Nat.reduceEqDiff, Nat.reduceSub, Nat.reduceLeDiff, reduceCtorEq, dl, hg, d5, List.length_map, Cs.strip, C.strip, Es.strip])
              | refine ev_skip ?_ | refine ev_block ?_ | refine ev_blk ?_ | refine ev_ret ?_ | refine ev_exit ?_ | refine evx_code_ret ?_ | refine evx_blk_ret ?_ | refine evx_lp_ret ?_
              | refine evx_code_exit ?_ | refine evx_lp_exit ?_ | refine evx_blk_hit ?_ | refine evx_blk_pass (by decide) ?_
              | refine And.intro ?_ ?_ | intro _ | decide +kernel | omega)
            all_goals first
              | exact ev_lp (k + 1) [] (by omega) (by omega) (by simp only [go_sem, hP, ↓reduceIte, Nat.reduceAdd, Nat.reduceMul, Nat.reduceEqDiff, Nat.reduceSub, Nat.reduceLeDiff, reduceCtorEq]; rw [hst]; simp [hw1])
              | (exfalso; omega)
              | omega
              | (simp_all; done)
              | trace_state
        · obtain rfl : k = ins.length := by omega
          have dl : decide ((ins.length : Int) < (xs.length : Int)) = false := by simp [hl]
          repeat' (first
            | exact True.intro
            | refine ev_seq ?_
            | ((first | refine vgd_go ?_ | refine ev_region hE hM (hS (by decide +kernel)) ?_ | refine ev_if ?_ | refine end_ret hE rfl rfl ?_ | refine end_norm hE rfl rfl ?_ | refine endG_ret [] hE rfl ?_ | refine endG_norm [] hE rfl ?_ | refine vcallG_of (args := [_, .ref 4112, iT 1]) [(1, 4112)] [] hP a1 ?_ | refine vcallG_of (args := [_, .ref 4112, iT 2]) [(1, 4112)] [] hP a2 ?_ | refine vcall_A ?_); simp (maxSteps := 2000000) only [go_sem, hP, ↓reduceIte, Nat.reduceAdd, Nat.reduceMul, Nat.reduceEqDiff, Nat.reduceSub, Nat.reduceLeDiff, reduceCtorEq, dl, fillTo_all, List.length_map])
            | refine ev_skip ?_ | refine ev_block ?_ | refine ev_blk ?_ | refine ev_ret ?_ | refine ev_exit ?_ | refine evx_code_ret ?_ | refine evx_blk_ret ?_ | refine evx_lp_ret ?_
            | refine evx_code_exit ?_ | refine evx_lp_exit ?_ | refine evx_blk_hit ?_ | refine evx_blk_pass (by decide) ?_
            | refine And.intro ?_ ?_ | intro _ | decide +kernel | omega)
          all_goals first | rfl | (exfalso; omega) | (simp_all; done) | trace_state
      · have d2 : decide ((ins.count 0 : Int) ≤ 2 - ((selE xs ins 2).length : Int)) = false := decide_eq_false c2
        have hq := q.next hpos c1 c2
        have hm := (quad_next q.ok hpos).2
        have nx := s_l5Next xs ins d hrf hl (by omega) (by omega) (by omega) (by obtain ⟨j, h1, h2⟩ := zero_at hpos; exact ⟨j, by omega, h2⟩)
        have hi := (nxI_ok hl hpos).1
        have hw3 : IntKind.i64.wrap ((ins.count 0 : Int) - 1) = ((ins.set (nxI xs ins) (nxS xs ins)).count 0 : Nat) := by rw [i64_in _ (by omega)]; omega
        generalize nxI xs ins = i at *
        generalize nxS xs ins = s at *
        repeat' (first
          | exact True.intro
          | refine ev_seq ?_
          | ((first | refine vgd_go ?_ | refine ev_region hE hM (hS (by decide +kernel)) ?_ | refine ev_if ?_ | refine end_ret hE rfl rfl ?_ | refine end_norm hE rfl rfl ?_ | refine endG_ret [] hE rfl ?_ | refine endG_norm [] hE rfl ?_ | refine vcallG_of (args := [_, .ref 4112, iT 1]) [(1, 4112)] [] hP f1 ?_ | refine vcallG_of (args := [_, .ref 4112, iT 2]) [(1, 4112)] [] hP f2 ?_ | refine vcallB_of hP nx ?_ | refine vcall_A ?_); simp (maxSteps := 2000000) only [go_sem, hP, ↓reduceIte, Nat.reduceAdd, Nat.reduceMul, Nat.reduceEqDiff, Nat.reduceSub, Nat.reduceLeDiff, reduceCtorEq, d0, z0, w1, w2, d1, d2, hw3, List.length_map])
          | refine ev_skip ?_ | refine ev_block ?_ | refine ev_blk ?_ | refine ev_ret ?_ | refine ev_exit ?_ | refine evx_code_ret ?_ | refine evx_blk_ret ?_ | refine evx_lp_ret ?_
          | refine evx_code_exit ?_ | refine evx_lp_exit ?_ | refine evx_blk_hit ?_ | refine evx_blk_pass (by decide) ?_
          | refine And.intro ?_ ?_ | intro _ | decide +kernel | omega)
        all_goals first
          | exact ev_lp (ins.set i s) [] hq (by omega) (by simp only [go_sem, hP, ↓reduceIte, Nat.reduceAdd, Nat.reduceMul, Nat.reduceEqDiff, Nat.reduceSub, Nat.reduceLeDiff, reduceCtorEq]; simp [List.map_set, Vm.eI])
          | (exfalso; omega)
          | omega
          | (simp_all; done)
          | trace_state
theorem s_l5Parts (xs ys : List Entry) (h1 : wEntryS xs ≤ 1048576) (h2 : wEntryS ys ≤ 1048576) : Sat Tryz.prog 25 [aEntryS xs, aEntryS ys] true [(true, [.int .i64 0, oEntryS xs, oEntryS ys])] := by
  refine sat_walk (fn := Tryz.f25) rfl rfl rfl (Nat.le_of_ble_eq_true rfl) fun fr hP hN hbnd => ?_
  have hE : (envOf fr Tryz.prog).Ok := envOf_ok hP
  have hM := follows_of hP
  have hS : ∀ {draw ops}, statB Tryz.f25.ntmps draw ops = true → statB (envOf fr Tryz.prog).fr.N draw ops = true := fun h => by rw [envOf_fr, hN]; exact h
  repeat' (first
    | exact True.intro
    | refine ev_seq ?_
    | ((first | refine vgd_go ?_ | refine ev_region hE hM (hS (by decide +kernel)) ?_ | refine ev_if ?_ | refine end_ret hE rfl rfl ?_ | refine end_norm hE rfl rfl ?_ | refine endG_ret [] hE rfl ?_ | refine endG_norm [] hE rfl ?_ | refine vcallB_of hP (s_l3Entries xs h1) ?_ | refine vcallB_of hP (s_l3Entries ys h2) ?_ | refine vcall_A ?_); simp (maxSteps := 2000000) only [go_sem, hP, ↓reduceIte, Nat.reduceAdd, Nat.reduceMul, Nat.reduceEqDiff, Nat.reduceSub, Nat.reduceLeDiff, reduceCtorEq])
    | refine ev_skip ?_ | refine ev_block ?_ | refine ev_blk ?_ | refine ev_ret ?_ | refine ev_exit ?_ | refine evx_code_ret ?_ | refine evx_blk_ret ?_ | refine evx_lp_ret ?_
    | refine evx_code_exit ?_ | refine evx_lp_exit ?_ | refine evx_blk_hit ?_ | refine evx_blk_pass (by decide) ?_
    | refine And.intro ?_ ?_ | intro _ | decide +kernel | omega)
@[go_sem] abbrev aPtR (c : Int) (xs ys : List Entry) : Arg := .d (true, [.int .i64 c, sEntryS xs, sEntryS ys])
@[go_sem] abbrev rPtR (c : Int) (xs ys : List Entry) : List Dat := [(true, [.int .i64 c, oEntryS xs, oEntryS ys])]
@[go_sem] abbrev tPtR (c : Int) (a b : Nat) : T := .agg [iT c, .ref a, .ref b]
theorem s_parted (c : Int) (zs xs ys : List Entry) (sem : List Dat → List Dat → Prop) (hs : c = 0 → sem [(false, [sEntryS zs])] [(false, [oEntryS xs]), (false, [oEntryS ys])]) (h0 : c ≠ 0 → xs = [] ∧ ys = []) :
    Sat Tryz.prog 17 [aI c, aEntryS zs, .fn sem] true (rPtR c xs ys) := by
  refine sat_walk (fn := Tryz.f17) rfl rfl rfl (Nat.le_of_ble_eq_true rfl) fun fr hP hN hbnd => ?_
  have hE : (envOf fr Tryz.prog).Ok := envOf_ok hP
  have hM := follows_of hP
  have hS : ∀ {draw ops}, statB Tryz.f17.ntmps draw ops = true → statB (envOf fr Tryz.prog).fr.N draw ops = true := fun h => by rw [envOf_fr, hN]; exact h
  by_cases hc : c = 0
  · subst hc
    repeat' (first
      | exact True.intro
      | refine ev_seq ?_
      | ((first | refine vgd_go ?_ | refine ev_region hE hM (hS (by decide +kernel)) ?_ | refine ev_if ?_ | refine end_ret hE rfl rfl ?_ | refine end_norm hE rfl rfl ?_ | refine endG_ret [] hE rfl ?_ | refine endG_norm [] hE rfl ?_ | refine vcallFn_of [(false, [sEntryS zs])] [] [(false, [oEntryS xs]), (false, [oEntryS ys])] (by simp only [go_sem, hP, ↓reduceIte, Nat.reduceAdd, Nat.reduceMul, Nat.reduceEqDiff, Nat.reduceSub, Nat.reduceLeDiff, reduceCtorEq]) (hs rfl) ?_ | refine vcall_A ?_); simp (maxSteps := 2000000) only [go_sem, hP, ↓reduceIte, Nat.reduceAdd, Nat.reduceMul, Nat.reduceEqDiff, Nat.reduceSub, Nat.reduceLeDiff, reduceCtorEq])
      | refine ev_skip ?_ | refine ev_block ?_ | refine ev_blk ?_ | refine ev_ret ?_ | refine ev_exit ?_ | refine evx_code_ret ?_ | refine evx_blk_ret ?_ | refine evx_lp_ret ?_
      | refine evx_code_exit ?_ | refine evx_lp_exit ?_ | refine evx_blk_hit ?_ | refine evx_blk_pass (by decide) ?_
      | refine And.intro ?_ ?_ | intro _ | decide +kernel | omega)
    all_goals first | rfl | (simp_all; done) | trace_state
  · obtain ⟨rfl, rfl⟩ := h0 hc
    have d0 : (c != 0) = true := by simpa using hc
    repeat' (first
      | exact True.intro
      | refine ev_seq ?_
      | ((first | refine vgd_go ?_ | refine ev_region hE hM (hS (by decide +kernel)) ?_ | refine ev_if ?_ | refine end_ret hE rfl rfl ?_ | refine end_norm hE rfl rfl ?_ | refine endG_ret [] hE rfl ?_ | refine endG_norm [] hE rfl ?_ | refine vcall_A ?_); simp (maxSteps := 2000000) only [go_sem, hP, ↓reduceIte, Nat.reduceAdd, Nat.reduceMul, Nat.reduceEqDiff, Nat.reduceSub, Nat.reduceLeDiff, reduceCtorEq, d0])
      | refine ev_skip ?_ | refine ev_block ?_ | refine ev_blk ?_ | refine ev_ret ?_ | refine ev_exit ?_ | refine evx_code_ret ?_ | refine evx_blk_ret ?_ | refine evx_lp_ret ?_
      | refine evx_code_exit ?_ | refine evx_lp_exit ?_ | refine evx_blk_hit ?_ | refine evx_blk_pass (by decide) ?_
      | refine And.intro ?_ ?_ | intro _ | decide +kernel | omega)
    all_goals first | rfl | (simp_all; done) | trace_state
def sqA (xs : List Entry) (d : Int) : List Entry := if sfC xs d = 0 then selE xs (quadV xs) 1 else []
def sqB (xs : List Entry) (d : Int) : List Entry := if sfC xs d = 0 then selE xs (quadV xs) 2 else []
theorem selE_w {xs : List Entry} {ins : List Int} {s d : Int} (h : esf xs d = 0) : wEntryS (selE xs ins s) ≤ 70 := by
  have h1 := esf_len h
  have h2 := even_w (xs := selE xs ins s) (d := d) (fun e he => esf_rf h e (selE_mem e he))
  have h3 := selTo_len xs ins s xs.length
  unfold selE at h2 ⊢
  omega
theorem sqA_w (xs : List Entry) (d : Int) : wEntryS (sqA xs d) ≤ 70 := by
  unfold sqA; split
  · rename_i h; exact selE_w (sfC_zero h).1
  · exact Nat.zero_le _
theorem sqB_w (xs : List Entry) (d : Int) : wEntryS (sqB xs d) ≤ 70 := by
  unfold sqB; split
  · rename_i h; exact selE_w (sfC_zero h).1
  · exact Nat.zero_le _
theorem s_specSplitQuad (xs : List Entry) (d : Int) : Sat Tryz.prog 10 [aEntryS xs, aI d] true (rPtR (sfC xs d) (sqA xs d) (sqB xs d)) := by
  refine sat_walk (fn := Tryz.f10) rfl rfl rfl (Nat.le_of_ble_eq_true rfl) fun fr hP hN hbnd => ?_
  have hE : (envOf fr Tryz.prog).Ok := envOf_ok hP
  have hM := follows_of hP
  have hS : ∀ {draw ops}, statB Tryz.f10.ntmps draw ops = true → statB (envOf fr Tryz.prog).fr.N draw ops = true := fun h => by rw [envOf_fr, hN]; exact h
  by_cases hz : sfC xs d = 0
  · have h1 := sfC_zero hz
    have e1 : sqA xs d = selE xs (quadV xs) 1 := if_pos hz
    have e2 : sqB xs d = selE xs (quadV xs) 2 := if_pos hz
    have w1 := selE_w (ins := quadV xs) (s := 1) h1.1
    have w2 := selE_w (ins := quadV xs) (s := 2) h1.1
    rw [e1, e2, hz]
    repeat' (first
      | exact True.intro
      | refine ev_seq ?_
      | ((first | refine vgd_go ?_ | refine ev_region hE hM (hS (by decide +kernel)) ?_ | refine ev_if ?_ | refine end_ret hE rfl rfl ?_ | refine end_norm hE rfl rfl ?_ | refine endG_ret [] hE rfl ?_ | refine endG_norm [] hE rfl ?_ | refine vcallB_of hP (s_l5Enough xs d) ?_ | refine vcallB_of hP (s_l5Quad xs d h1.1 h1.2) ?_ | refine vcallB_of hP (s_l5Parts _ _ (Nat.le_trans w1 (by omega)) (Nat.le_trans w2 (by omega))) ?_ | refine vcall_A ?_); simp (maxSteps := 2000000) only [go_sem, hP, ↓reduceIte, Nat.reduceAdd, Nat.reduceMul, Nat.reduceEqDiff, Nat.reduceSub, Nat.reduceLeDiff, reduceCtorEq, hz])
      | refine ev_skip ?_ | refine ev_block ?_ | refine ev_blk ?_ | refine ev_ret ?_ | refine ev_exit ?_ | refine evx_code_ret ?_ | refine evx_blk_ret ?_ | refine evx_lp_ret ?_
      | refine evx_code_exit ?_ | refine evx_lp_exit ?_ | refine evx_blk_hit ?_ | refine evx_blk_pass (by decide) ?_
      | refine And.intro ?_ ?_ | intro _ | decide +kernel | omega)
    all_goals first | rfl | (exfalso; simp_all; done) | (simp_all; done) | trace_state
  · have e1 : sqA xs d = [] := if_neg hz
    have e2 : sqB xs d = [] := if_neg hz
    rw [e1, e2]
    repeat' (first
      | exact True.intro
      | refine ev_seq ?_
      | ((first | refine vgd_go ?_ | refine ev_region hE hM (hS (by decide +kernel)) ?_ | refine ev_if ?_ | refine end_ret hE rfl rfl ?_ | refine end_norm hE rfl rfl ?_ | refine endG_ret [] hE rfl ?_ | refine endG_norm [] hE rfl ?_ | refine vcallB_of hP (s_l5Enough xs d) ?_ | refine vcall_A ?_); simp (maxSteps := 2000000) only [go_sem, hP, ↓reduceIte, Nat.reduceAdd, Nat.reduceMul, Nat.reduceEqDiff, Nat.reduceSub, Nat.reduceLeDiff, reduceCtorEq])
      | refine ev_skip ?_ | refine ev_block ?_ | refine ev_blk ?_ | refine ev_ret ?_ | refine ev_exit ?_ | refine evx_code_ret ?_ | refine evx_blk_ret ?_ | refine evx_lp_ret ?_
      | refine evx_code_exit ?_ | refine evx_lp_exit ?_ | refine evx_blk_hit ?_ | refine evx_blk_pass (by decide) ?_
      | refine And.intro ?_ ?_ | intro _ | decide +kernel | omega)
    all_goals first | rfl | (exfalso; simp_all; done) | (simp_all; done) | trace_state
theorem s_implSplitQuad (xs : List Entry) (d : Int) : Sat Tryz.prog 7 [aEntryS xs, aI d] true (rPtR (sfC xs d) (sqA xs d) (sqB xs d)) := by
  refine sat_walk (fn := Tryz.f7) rfl rfl rfl (Nat.le_of_ble_eq_true rfl) fun fr hP hN hbnd => ?_
  have hE : (envOf fr Tryz.prog).Ok := envOf_ok hP
  have hM := follows_of hP
  have hS : ∀ {draw ops}, statB Tryz.f7.ntmps draw ops = true → statB (envOf fr Tryz.prog).fr.N draw ops = true := fun h => by rw [envOf_fr, hN]; exact h
  repeat' (first
    | exact True.intro
    | refine ev_seq ?_
    | ((first | refine vgd_go ?_ | refine ev_region hE hM (hS (by decide +kernel)) ?_ | refine ev_if ?_ | refine end_ret hE rfl rfl ?_ | refine end_norm hE rfl rfl ?_ | refine endG_ret [] hE rfl ?_ | refine endG_norm [] hE rfl ?_ | refine vcallB_of hP (s_splitFault xs d) ?_ | refine vcallB_of hP (s_parted (sfC xs d) xs (sqA xs d) (sqB xs d) _ (fun h => by rw [show sqA xs d = selE xs (quadV xs) 1 from if_pos h, show sqB xs d = selE xs (quadV xs) 2 from if_pos h]; exact s_splitQuad xs d (sfC_zero h).1 (sfC_zero h).2) (fun h => ⟨if_neg h, if_neg h⟩)) ?_ | refine vcall_A ?_); simp (maxSteps := 2000000) only [go_sem, hP, ↓reduceIte, Nat.reduceAdd, Nat.reduceMul, Nat.reduceEqDiff, Nat.reduceSub, Nat.reduceLeDiff, reduceCtorEq])
    | refine ev_skip ?_ | refine ev_block ?_ | refine ev_blk ?_ | refine ev_ret ?_ | refine ev_exit ?_ | refine evx_code_ret ?_ | refine evx_blk_ret ?_ | refine evx_lp_ret ?_
    | refine evx_code_exit ?_ | refine evx_lp_exit ?_ | refine evx_blk_hit ?_ | refine evx_blk_pass (by decide) ?_
    | refine And.intro ?_ ?_ | intro _ | decide +kernel | omega)
  all_goals first | rfl | (exfalso; simp_all; done) | (simp_all; done) | trace_state
def oF (ys : List Entry) (c : Nat) : Int := overlap (bx (ys.take c)) (bx (ys.drop c))
def aF (ys : List Entry) (c : Nat) : Int := area (bx (ys.take c)) + area (bx (ys.drop c))
def bC (ys : List Entry) : Nat → Nat
  | 0 => 0
  | k + 1 => if k = 0 ∨ oF ys (k + 2) < oF ys (bC ys k) ∨ oF ys (k + 2) = oF ys (bC ys k) ∧ aF ys (k + 2) < aF ys (bC ys k) then k + 2 else bC ys k
theorem bC_in (ys : List Entry) : ∀ k, 0 < k → 2 ≤ bC ys k ∧ bC ys k ≤ k + 1
  | 0, h => by omega
  | k + 1, _ => by
    unfold bC
    split
    · omega
    · rename_i h
      have := bC_in ys k (by omega)
      omega
def starY (xs : List Entry) (d : Int) : List Entry := sortE (bA xs d.toNat) xs
def starC (xs : List Entry) (d : Int) : Nat := bC (starY xs d) (xs.length - 3)
def stC (ys : List Entry) (a b : Nat) : Int := if cmpI (oF ys a) (oF ys b) ≠ 0 then cmpI (oF ys a) (oF ys b) else cmpI (aF ys a) (aF ys b)
theorem stC_neg (ys : List Entry) (a b : Nat) : stC ys a b < 0 ↔ oF ys a < oF ys b ∨ oF ys a = oF ys b ∧ aF ys a < aF ys b := by
  unfold stC cmpI
  (repeat' split) <;> omega
theorem cut_in {ys : List Entry} {d : Int} {c : Nat} (h : ∀ x ∈ ys, rf x.rect d = 0) (h0 : 0 < c) (h1 : c < ys.length) :
    rf (bx (ys.take c)) d = 0 ∧ rf (bx (ys.drop c)) d = 0 ∧ 0 ≤ area (bx (ys.take c)) ∧ area (bx (ys.take c)) ≤ 8000000000 ∧ 0 ≤ area (bx (ys.drop c)) ∧ area (bx (ys.drop c)) ≤ 8000000000 := by
  have r1 := bx_rf (xs := ys.take c) (d := d) (fun x hx => h x (List.mem_of_mem_take hx)) (by simp; omega)
  have r2 := bx_rf (xs := ys.drop c) (d := d) (fun x hx => h x (List.mem_of_mem_drop hx)) (by simp; omega)
  have a1 := area_in r1
  have a2 := area_in r2
  exact ⟨r1, r2, a1.2.1, a1.2.2, a2.2.1, a2.2.2⟩
theorem s_Star1 (ys : List Entry) (d : Int) (a b : Nat) (hr : ∀ x ∈ ys, rf x.rect d = 0) (ha : 0 < a) (ha' : a < ys.length) (hb : 0 < b) (hb' : b < ys.length) (hl : ys.length ≤ 1000) : Sat Tryz.prog 45 [aI a, aI b, .pv [sEntryS ys]] true (rI (stC ys a b)) := by
  refine sat_walk (fn := Tryz.f45) rfl rfl rfl (Nat.le_of_ble_eq_true rfl) fun fr hP hN hbnd => ?_
  have hE : (envOf fr Tryz.prog).Ok := envOf_ok hP
  have hM := follows_of hP
  have hS : ∀ {draw ops}, statB Tryz.f45.ntmps draw ops = true → statB (envOf fr Tryz.prog).fr.N draw ops = true := fun h => by rw [envOf_fr, hN]; exact h
  have hev := rf_even hr
  obtain ⟨r1, r2, m1, m2, m3, m4⟩ := cut_in hr ha ha'
  obtain ⟨r3, r4, m5, m6, m7, m8⟩ := cut_in hr hb hb'
  have d2 := rf_two r1
  have b1 := s_box (ys.take a) d.toNat (even_take hev) (by simp; omega) (by omega)
  have b2 := s_box (ys.drop a) d.toNat (even_drop hev) (by simp; omega) (by omega)
  have b3 := s_box (ys.take b) d.toNat (even_take hev) (by simp; omega) (by omega)
  have b4 := s_box (ys.drop b) d.toNat (even_drop hev) (by simp; omega) (by omega)
  have ov1 := s_overlap (bx (ys.take a)) (bx (ys.drop a)) (two_fit (two_of r1 r2))
  have ov2 := s_overlap (bx (ys.take b)) (bx (ys.drop b)) (two_fit (two_of r3 r4))
  have q1 := s_implarea (bx (ys.take a)) (by have := rf_len r1; omega)
  have q2 := s_implarea (bx (ys.drop a)) (by have := rf_len r2; omega)
  have q3 := s_implarea (bx (ys.take b)) (by have := rf_len r3; omega)
  have q4 := s_implarea (bx (ys.drop b)) (by have := rf_len r4; omega)
  have w1 : IntKind.i64.wrap (area (bx (ys.take a)) + area (bx (ys.drop a))) = aF ys a := i64_in _ (by omega)
  have w2 : IntKind.i64.wrap (area (bx (ys.take b)) + area (bx (ys.drop b))) = aF ys b := i64_in _ (by omega)
  have t1 : List.take (a - Int.toNat 0) (List.drop (Int.toNat 0) (ys.map eEntry)) = (ys.take a).map eEntry := by rw [show Int.toNat 0 = 0 from rfl, Nat.sub_zero, List.drop_zero, List.map_take]
  have t2 : List.take (ys.length - a) (List.drop a (ys.map eEntry)) = (ys.drop a).map eEntry := by rw [← List.map_drop, List.take_of_length_le (by simp)]
  have t3 : List.take (b - Int.toNat 0) (List.drop (Int.toNat 0) (ys.map eEntry)) = (ys.take b).map eEntry := by rw [show Int.toNat 0 = 0 from rfl, Nat.sub_zero, List.drop_zero, List.map_take]
  have t4 : List.take (ys.length - b) (List.drop b (ys.map eEntry)) = (ys.drop b).map eEntry := by rw [← List.map_drop, List.take_of_length_le (by simp)]
  have e : stC ys a b = if cmpI (oF ys a) (oF ys b) ≠ 0 then cmpI (oF ys a) (oF ys b) else cmpI (aF ys a) (aF ys b) := rfl
  have c1 := s_Compare (oF ys a) (oF ys b)
  have c2 := s_Compare (aF ys a) (aF ys b)
  have c3 := s_Or (cmpI (oF ys a) (oF ys b)) (cmpI (aF ys a) (aF ys b))
  rw [← e] at c3
  rw [show overlap (bx (ys.take a)) (bx (ys.drop a)) = oF ys a from rfl] at ov1
  rw [show overlap (bx (ys.take b)) (bx (ys.drop b)) = oF ys b from rfl] at ov2
  generalize oF ys a = o1 at *
  generalize oF ys b = o2 at *
  generalize aF ys a = z1 at *
  generalize aF ys b = z2 at *
  generalize stC ys a b = z at *
  generalize bx (ys.take a) = p1 at *
  generalize bx (ys.drop a) = p2 at *
  generalize bx (ys.take b) = p3 at *
  generalize bx (ys.drop b) = p4 at *
  repeat' (first
    | exact True.intro
    | refine ev_seq ?_
    | ((first | refine vgd_go ?_ | refine ev_region hE hM (hS (by decide +kernel)) ?_ | refine ev_if ?_ | refine end_ret hE rfl rfl ?_ | refine end_norm hE rfl rfl ?_ | refine endG_ret [] hE rfl ?_ | refine endG_norm [] hE rfl ?_ | refine vcallB_of hP b1 ?_ | refine vcallB_of hP b2 ?_ | refine vcallB_of hP b3 ?_ | refine vcallB_of hP b4 ?_ | refine vcallB_of hP ov1 ?_ | refine vcallB_of hP ov2 ?_ | refine vcallB_of hP q1 ?_ | refine vcallB_of hP q2 ?_ | refine vcallB_of hP q3 ?_ | refine vcallB_of hP q4 ?_ | refine vcallB_of hP c1 ?_ | refine vcallB_of hP c2 ?_ | refine vcallB_of hP c3 ?_ | refine vcall_A ?_); simp (maxSteps := 2000000) only [go_sem, hP, ↓reduceIte, Nat.reduceAdd, Nat.reduceMul, Nat.reduceEqDiff, Nat.reduceSub, Nat.reduceLeDiff, reduceCtorEq, t1, t2, t3, t4, w1, w2, List.length_map])
    | refine ev_skip ?_ | refine ev_block ?_ | refine ev_blk ?_ | refine ev_ret ?_ | refine ev_exit ?_ | refine evx_code_ret ?_ | refine evx_blk_ret ?_ | refine evx_lp_ret ?_
    | refine evx_code_exit ?_ | refine evx_lp_exit ?_ | refine evx_blk_hit ?_ | refine evx_blk_pass (by decide) ?_
    | refine And.intro ?_ ?_ | intro _ | decide +kernel | omega)
  all_goals first | rfl | (exfalso; omega) | omega | (simp_all; done) | trace_state
theorem s_splitStar (xs : List Entry) (d : Int) (hz : esf xs d = 0) (h4 : 4 ≤ xs.length) : Sat Tryz.prog 22 [aEntryS xs] true [(false, [oEntryS ((starY xs d).take (starC xs d))]), (false, [oEntryS ((starY xs d).drop (starC xs d))])] := by
  refine sat_walk (fn := Tryz.f22) rfl rfl rfl (Nat.le_of_ble_eq_true rfl) fun fr hP hN hbnd => ?_
  have hE : (envOf fr Tryz.prog).Ok := envOf_ok hP
  have hM := follows_of hP
  have hS : ∀ {draw ops}, statB Tryz.f22.ntmps draw ops = true → statB (envOf fr Tryz.prog).fr.N draw ops = true := fun h => by rw [envOf_fr, hN]; exact h
  have hz1 := esf_len hz
  have hrf := esf_rf hz
  have hev := rf_even hrf
  have hba := bA_lt xs d.toNat (by omega)
  have k1 := s_bestAxis xs d hz h4
  have k2 := s_sorted xs (bA xs d.toNat) d.toNat hev hba (by omega) (by omega)
  have hyr := sortE_rf (bA xs d.toNat) hrf
  have hyl := sortE_len (bA xs d.toNat) xs
  have hC : starC xs d = bC (starY xs d) (xs.length - 3) := rfl
  rw [show sortE (bA xs d.toNat) xs = starY xs d from rfl] at k2 hyr hyl
  generalize starY xs d = ys at *
  have hw2 : IntKind.i64.wrap ((xs.length : Int) - 2) = xs.length - 2 := i64_in _ (by omega)
  repeat' (first
    | exact True.intro
    | refine ev_seq ?_
    | ((first | refine vgd_go ?_ | refine ev_region hE hM (hS (by decide +kernel)) ?_ | refine ev_if ?_ | refine end_ret hE rfl rfl ?_ | refine end_norm hE rfl rfl ?_ | refine endG_ret [] hE rfl ?_ | refine endG_norm [] hE rfl ?_ | refine vcallB_of hP k1 ?_ | refine vcallB_of hP k2 ?_ | refine vcall_A ?_); simp (maxSteps := 2000000) only [go_sem, hP, ↓reduceIte, Nat.reduceAdd, Nat.reduceMul, Nat.reduceEqDiff, Nat.reduceSub, Nat.reduceLeDiff, reduceCtorEq])
    | refine ev_skip ?_ | refine ev_block ?_ | refine ev_blk ?_ | refine ev_ret ?_ | refine ev_exit ?_ | refine evx_code_ret ?_ | refine evx_blk_ret ?_ | refine evx_lp_ret ?_
    | refine evx_code_exit ?_ | refine evx_lp_exit ?_ | refine evx_blk_hit ?_ | refine evx_blk_pass (by decide) ?_
    | refine And.intro ?_ ?_ | intro _ | decide +kernel | omega)
  refine ev_loop (ι := Nat) (fun k => [(0, .c (sEntryS xs)), (4, .ptr 4128 0), (5, iT (bC ys k)), (6, .clo 45 [.ptr 4128 0]), (7, iT (k + 2 : Nat))]) (fun _ => [(4128, .box [.ref 4120]), (4120, .fro 4 (ys.map eEntry))]) (fun _ => []) (fun k => k + 3 ≤ xs.length) (fun k => xs.length - k) 0 [] (by omega) (by simp only [go_sem, hP, ↓reduceIte, Nat.reduceAdd, Nat.reduceMul, Nat.reduceEqDiff, Nat.reduceSub, Nat.reduceLeDiff, reduceCtorEq]; simp [bC, simTs, simT, lk, ren]) ?_
  intro k hk
  by_cases hk4 : k + 4 ≤ xs.length
  · have dk : decide (((k + 2 : Nat) : Int) ≤ (xs.length : Int) - 2) = true := by simp only [decide_eq_true_eq]; omega
    have hw3 : IntKind.i64.wrap (((k + 2 : Nat) : Int) + 1) = (k + 1 + 2 : Nat) := by rw [i64_in _ (by omega)]; omega
    by_cases h0 : k = 0
    · subst h0
      have e1 : bC ys 1 = 2 := by simp [bC]
      have d0 : ((bC ys 0 : Int) == 0) = true := rfl
      repeat' (first
        | exact True.intro
        | refine ev_seq ?_
        | ((first | refine vgd_go ?_ | refine ev_region hE hM (hS (by decide +kernel)) ?_ | refine ev_if ?_ | refine end_ret hE rfl rfl ?_ | refine end_norm hE rfl rfl ?_ | refine endG_ret [] hE rfl ?_ | refine endG_norm [] hE rfl ?_ | refine vcall_A ?_); simp (maxSteps := 2000000) only [go_sem, hP, ↓reduceIte, Nat.reduceAdd, Nat.reduceMul, Nat.reduceEqDiff, Nat.reduceSub, Nat.reduceLeDiff, reduceCtorEq, hw2, dk, d0, List.length_map])
        | refine ev_skip ?_ | refine ev_block ?_ | refine ev_blk ?_ | refine ev_ret ?_ | refine ev_exit ?_ | refine evx_code_ret ?_ | refine evx_blk_ret ?_ | refine evx_lp_ret ?_
        | refine evx_code_exit ?_ | refine evx_lp_exit ?_ | refine evx_blk_hit ?_ | refine evx_blk_pass (by decide) ?_
        | refine And.intro ?_ ?_ | intro _ | decide +kernel | omega)
      all_goals first
        | exact ev_lp 1 [] (by omega) (by omega) (by simp only [go_sem, hP, ↓reduceIte, Nat.reduceAdd, Nat.reduceMul, Nat.reduceEqDiff, Nat.reduceSub, Nat.reduceLeDiff, reduceCtorEq]; rw [e1]; simp [simTs, simT, lk, ren]; exact hw3)
        | (exfalso; omega)
        | omega
        | (simp_all; done)
        | trace_state
    · have hb := bC_in ys k (by omega)
      have d0 : ((bC ys k : Int) == 0) = false := beq_eq_false_iff_ne.2 (by omega)
      have c1 := s_Star1 ys d (k + 2) (bC ys k) hyr (by omega) (by omega) (by omega) (by omega) (by omega)
      have hn := stC_neg ys (k + 2) (bC ys k)
      have e : bC ys (k + 1) = if k = 0 ∨ oF ys (k + 2) < oF ys (bC ys k) ∨ oF ys (k + 2) = oF ys (bC ys k) ∧ aF ys (k + 2) < aF ys (bC ys k) then k + 2 else bC ys k := rfl
      by_cases hc : stC ys (k + 2) (bC ys k) < 0
      · have d1 := decide_eq_true hc
        rw [if_pos (Or.inr (hn.1 hc))] at e
        generalize stC ys (k + 2) (bC ys k) = v at *
        repeat' (first
          | exact True.intro
          | refine ev_seq ?_
          | ((first | refine vgd_go ?_ | refine ev_region hE hM (hS (by decide +kernel)) ?_ | refine ev_if ?_ | refine end_ret hE rfl rfl ?_ | refine end_norm hE rfl rfl ?_ | refine endG_ret [] hE rfl ?_ | refine endG_norm [] hE rfl ?_ | refine vcallB_of hP c1 ?_ | refine vcall_A ?_); simp (maxSteps := 2000000) only [go_sem, hP, ↓reduceIte, Nat.reduceAdd, Nat.reduceMul, Nat.reduceEqDiff, Nat.reduceSub, Nat.reduceLeDiff, reduceCtorEq, hw2, dk, d0, d1, List.length_map])
          | refine ev_skip ?_ | refine ev_block ?_ | refine ev_blk ?_ | refine ev_ret ?_ | refine ev_exit ?_ | refine evx_code_ret ?_ | refine evx_blk_ret ?_ | refine evx_lp_ret ?_
          | refine evx_code_exit ?_ | refine evx_lp_exit ?_ | refine evx_blk_hit ?_ | refine evx_blk_pass (by decide) ?_
          | refine And.intro ?_ ?_ | intro _ | decide +kernel | omega)
        all_goals first
          | exact ev_lp (k + 1) [] (by omega) (by omega) (by simp only [go_sem, hP, ↓reduceIte, Nat.reduceAdd, Nat.reduceMul, Nat.reduceEqDiff, Nat.reduceSub, Nat.reduceLeDiff, reduceCtorEq]; rw [e]; simp [simTs, simT, lk, ren]; exact hw3)
          | (exfalso; omega)
          | omega
          | (simp_all; done)
          | trace_state
      · have d1 := decide_eq_false hc
        rw [if_neg (fun hh => hc (hn.2 (hh.resolve_left h0)))] at e
        generalize stC ys (k + 2) (bC ys k) = v at *
        repeat' (first
          | exact True.intro
          | refine ev_seq ?_
          | ((first | refine vgd_go ?_ | refine ev_region hE hM (hS (by decide +kernel)) ?_ | refine ev_if ?_ | refine end_ret hE rfl rfl ?_ | refine end_norm hE rfl rfl ?_ | refine endG_ret [] hE rfl ?_ | refine endG_norm [] hE rfl ?_ | refine vcallB_of hP c1 ?_ | refine vcall_A ?_); simp (maxSteps := 2000000) only [go_sem, hP, ↓reduceIte, Nat.reduceAdd, Nat.reduceMul, Nat.reduceEqDiff, Nat.reduceSub, Nat.reduceLeDiff, reduceCtorEq, hw2, dk, d0, d1, List.length_map])
          | refine ev_skip ?_ | refine ev_block ?_ | refine ev_blk ?_ | refine ev_ret ?_ | refine ev_exit ?_ | refine evx_code_ret ?_ | refine evx_blk_ret ?_ | refine evx_lp_ret ?_
          | refine evx_code_exit ?_ | refine evx_lp_exit ?_ | refine evx_blk_hit ?_ | refine evx_blk_pass (by decide) ?_
          | refine And.intro ?_ ?_ | intro _ | decide +kernel | omega)
        all_goals first
          | exact ev_lp (k + 1) [] (by omega) (by omega) (by simp only [go_sem, hP, ↓reduceIte, Nat.reduceAdd, Nat.reduceMul, Nat.reduceEqDiff, Nat.reduceSub, Nat.reduceLeDiff, reduceCtorEq]; rw [e]; simp [simTs, simT, lk, ren]; exact hw3)
          | (exfalso; omega)
          | omega
          | (simp_all; done)
          | trace_state
  · obtain rfl : k = xs.length - 3 := by omega
    have dk : decide (((xs.length - 3 + 2 : Nat) : Int) ≤ (xs.length : Int) - 2) = false := by simp only [decide_eq_false_iff_not]; omega
    have hb := bC_in ys (xs.length - 3) (by omega)
    rw [← hC] at hb ⊢
    generalize starC xs d = c at *
    have t1 : List.take (c - Int.toNat 0) (List.drop (Int.toNat 0) (ys.map eEntry)) = (ys.take c).map eEntry := by rw [show Int.toNat 0 = 0 from rfl, Nat.sub_zero, List.drop_zero, List.map_take]
    have t2 : List.take (ys.length - c) (List.drop c (ys.map eEntry)) = (ys.drop c).map eEntry := by rw [← List.map_drop, List.take_of_length_le (by simp)]
    have g1 := even_w (xs := ys.take c) (d := d) (fun e he => hyr e (List.mem_of_mem_take he))
    have g2 := even_w (xs := ys.drop c) (d := d) (fun e he => hyr e (List.mem_of_mem_drop he))
    rw [List.length_take] at g1
    rw [List.length_drop] at g2
    have w1 := s_clonedEntries (ys.take c) (by omega)
    have w2 := s_clonedEntries (ys.drop c) (by omega)
    repeat' (first
      | exact True.intro
      | refine ev_seq ?_
      | ((first | refine vgd_go ?_ | refine ev_region hE hM (hS (by decide +kernel)) ?_ | refine ev_if ?_ | refine end_ret hE rfl rfl ?_ | refine end_norm hE rfl rfl ?_ | refine endG_ret [] hE rfl ?_ | refine endG_norm [] hE rfl ?_ | refine vcallB_of hP w1 ?_ | refine vcallB_of hP w2 ?_ | refine vcall_A ?_); simp (maxSteps := 2000000) only [go_sem, hP, ↓reduceIte, Nat.reduceAdd, Nat.reduceMul, Nat.reduceEqDiff, Nat.reduceSub, Nat.reduceLeDiff, reduceCtorEq, hw2, dk, t1, t2, List.length_map])
      | refine ev_skip ?_ | refine ev_block ?_ | refine ev_blk ?_ | refine ev_ret ?_ | refine ev_exit ?_ | refine evx_code_ret ?_ | refine evx_blk_ret ?_ | refine evx_lp_ret ?_
      | refine evx_code_exit ?_ | refine evx_lp_exit ?_ | refine evx_blk_hit ?_ | refine evx_blk_pass (by decide) ?_
      | refine And.intro ?_ ?_ | intro _ | decide +kernel | omega)
    all_goals first | rfl | (exfalso; omega) | omega | (simp_all; done) | trace_state
theorem s_l5Star (xs : List Entry) (d : Int) (hz : esf xs d = 0) (h4 : 4 ≤ xs.length) : Sat Tryz.prog 53 [aEntryS xs, aI d] false [(false, [sEntryS ((starY xs d).take (starC xs d))]), (false, [sEntryS ((starY xs d).drop (starC xs d))])] := by
  refine sat_walk (fn := Tryz.f53) rfl rfl rfl (Nat.le_of_ble_eq_true rfl) fun fr hP hN hbnd => ?_
  have hE : (envOf fr Tryz.prog).Ok := envOf_ok hP
  have hM := follows_of hP
  have hS : ∀ {draw ops}, statB Tryz.f53.ntmps draw ops = true → statB (envOf fr Tryz.prog).fr.N draw ops = true := fun h => by rw [envOf_fr, hN]; exact h
  have hz1 := esf_len hz
  have hrf := esf_rf hz
  have hev := rf_even hrf
  have hba := bA_lt xs d.toNat (by omega)
  have k1 := s_l5Axis xs d hz h4
  have k2 := s_l5Sort xs (bA xs d.toNat) d.toNat hev hba (by omega) (by omega)
  have hyr := sortE_rf (bA xs d.toNat) hrf
  have hyl := sortE_len (bA xs d.toNat) xs
  have hC : starC xs d = bC (starY xs d) (xs.length - 3) := rfl
  rw [show sortE (bA xs d.toNat) xs = starY xs d from rfl] at k2 hyr hyl
  generalize starY xs d = ys at *
  have hye := rf_even hyr
  have hw2 : IntKind.i64.wrap ((xs.length : Int) - 2) = xs.length - 2 := i64_in _ (by omega)
  repeat' (first
    | exact True.intro
    | refine ev_seq ?_
    | ((first | refine vgd_go ?_ | refine ev_region hE hM (hS (by decide +kernel)) ?_ | refine ev_if ?_ | refine end_ret hE rfl rfl ?_ | refine end_norm hE rfl rfl ?_ | refine endG_ret [] hE rfl ?_ | refine endG_norm [] hE rfl ?_ | refine vcallB_of hP k1 ?_ | refine vcallB_of hP k2 ?_ | refine vcall_A ?_); simp (maxSteps := 2000000) only [go_sem, hP, ↓reduceIte, Nat.reduceAdd, Nat.reduceMul, Nat.reduceEqDiff, Nat.reduceSub, Nat.reduceLeDiff, reduceCtorEq])
    | refine ev_skip ?_ | refine ev_block ?_ | refine ev_blk ?_ | refine ev_ret ?_ | refine ev_exit ?_ | refine evx_code_ret ?_ | refine evx_blk_ret ?_ | refine evx_lp_ret ?_
    | refine evx_code_exit ?_ | refine evx_lp_exit ?_ | refine evx_blk_hit ?_ | refine evx_blk_pass (by decide) ?_
    | refine And.intro ?_ ?_ | intro _ | decide +kernel | omega)
  refine ev_loop (ι := Nat) (fun k => [(0, .c (sEntryS xs)), (6, .c (sEntryS ys)), (7, iT (bC ys k)), (8, iT (if k = 0 then 0 else oF ys (bC ys k))), (9, iT (if k = 0 then 0 else aF ys (bC ys k))), (10, iT (k + 2 : Nat))]) (fun _ => []) (fun _ => []) (fun k => k + 3 ≤ xs.length) (fun k => xs.length - k) 0 [] (by omega) (by simp only [go_sem, hP, ↓reduceIte, Nat.reduceAdd, Nat.reduceMul, Nat.reduceEqDiff, Nat.reduceSub, Nat.reduceLeDiff, reduceCtorEq]; simp [bC]) ?_
  intro k hk
  by_cases hk4 : k + 4 ≤ xs.length
  · have dk : decide (((k + 2 : Nat) : Int) ≤ (xs.length : Int) - 2) = true := by simp only [decide_eq_true_eq]; omega
    have hw3 : IntKind.i64.wrap (((k + 2 : Nat) : Int) + 1) = (k + 1 + 2 : Nat) := by rw [i64_in _ (by omega)]; omega
    obtain ⟨r1, r2, m1, m2, m3, m4⟩ := cut_in (c := k + 2) hyr (by omega) (by omega)
    have b1 := s_l3Box (ys.take (k + 2)) d.toNat (even_take hye) (by simp; omega) (by omega)
    have b2 := s_l3Box (ys.drop (k + 2)) d.toNat (even_drop hye) (by simp; omega) (by omega)
    have ov1 := s_l1Overlap (bx (ys.take (k + 2))) (bx (ys.drop (k + 2))) (two_fit (two_of r1 r2))
    have q1 := s_l1Area (bx (ys.take (k + 2))) (by have := rf_len r1; omega)
    have q2 := s_l1Area (bx (ys.drop (k + 2))) (by have := rf_len r2; omega)
    have w1 : IntKind.i64.wrap (area (bx (ys.take (k + 2))) + area (bx (ys.drop (k + 2)))) = aF ys (k + 2) := i64_in _ (by omega)
    have t1 : List.take (k + 2 - Int.toNat 0) (List.drop (Int.toNat 0) (ys.map eEntry)) = (ys.take (k + 2)).map eEntry := by rw [show Int.toNat 0 = 0 from rfl, Nat.sub_zero, List.drop_zero, List.map_take]
    have t2 : List.take (ys.length - (k + 2)) (List.drop (k + 2) (ys.map eEntry)) = (ys.drop (k + 2)).map eEntry := by rw [← List.map_drop, List.take_of_length_le (by simp)]
    rw [show overlap (bx (ys.take (k + 2))) (bx (ys.drop (k + 2))) = oF ys (k + 2) from rfl] at ov1
    have e : bC ys (k + 1) = if k = 0 ∨ oF ys (k + 2) < oF ys (bC ys k) ∨ oF ys (k + 2) = oF ys (bC ys k) ∧ aF ys (k + 2) < aF ys (bC ys k) then k + 2 else bC ys k := rfl
    generalize bx (ys.take (k + 2)) = p1 at *
    generalize bx (ys.drop (k + 2)) = p2 at *
    by_cases h0 : k = 0
    · subst h0
      have e1 : bC ys 1 = 2 := by simp [bC]
      have d0 : ((bC ys 0 : Int) == 0) = true := rfl
      repeat' (first
        | exact True.intro
        | refine ev_seq ?_
        | ((first | refine vgd_go ?_ | refine ev_region hE hM (hS (by decide +kernel)) ?_ | refine ev_if ?_ | refine end_ret hE rfl rfl ?_ | refine end_norm hE rfl rfl ?_ | refine endG_ret [] hE rfl ?_ | refine endG_norm [] hE rfl ?_ | refine vcallB_of hP b1 ?_ | refine vcallB_of hP b2 ?_ | refine vcallB_of hP ov1 ?_ | refine vcallB_of hP q1 ?_ | refine vcallB_of hP q2 ?_ | refine vcall_A ?_); simp (maxSteps := 2000000) only [go_sem, hP, ↓reduceIte, Nat.reduceAdd, Nat.reduceMul, Nat.reduceEqDiff, Nat.reduceSub, Nat.reduceLeDiff, reduceCtorEq, hw2, dk, d0, w1, t1, t2, List.length_map])
        | refine ev_skip ?_ | refine ev_block ?_ | refine ev_blk ?_ | refine ev_ret ?_ | refine ev_exit ?_ | refine evx_code_ret ?_ | refine evx_blk_ret ?_ | refine evx_lp_ret ?_
        | refine evx_code_exit ?_ | refine evx_lp_exit ?_ | refine evx_blk_hit ?_ | refine evx_blk_pass (by decide) ?_
        | refine And.intro ?_ ?_ | intro _ | decide +kernel | omega)
      all_goals first
        | exact ev_lp 1 [] (by omega) (by omega) (by simp only [go_sem, hP, ↓reduceIte, Nat.reduceAdd, Nat.reduceMul, Nat.reduceEqDiff, Nat.reduceSub, Nat.reduceLeDiff, reduceCtorEq]; rw [e1]; exact ⟨rfl, rfl, rfl, hw3⟩)
        | (exfalso; omega)
        | omega
        | (simp_all; done)
        | trace_state
    · have hb := bC_in ys k (by omega)
      have d0 : ((bC ys k : Int) == 0) = false := beq_eq_false_iff_ne.2 (by omega)
      have eo : (if k = 0 then 0 else oF ys (bC ys k)) = oF ys (bC ys k) := if_neg h0
      have ea : (if k = 0 then 0 else aF ys (bC ys k)) = aF ys (bC ys k) := if_neg h0
      rw [eo, ea]
      by_cases c1 : oF ys (k + 2) < oF ys (bC ys k)
      · have d1 := decide_eq_true c1
        rw [if_pos (Or.inr (Or.inl c1))] at e
        repeat' (first
          | exact True.intro
          | refine ev_seq ?_
          | ((first | refine vgd_go ?_ | refine ev_region hE hM (hS (by decide +kernel)) ?_ | refine ev_if ?_ | refine end_ret hE rfl rfl ?_ | refine end_norm hE rfl rfl ?_ | refine endG_ret [] hE rfl ?_ | refine endG_norm [] hE rfl ?_ | refine vcallB_of hP b1 ?_ | refine vcallB_of hP b2 ?_ | refine vcallB_of hP ov1 ?_ | refine vcallB_of hP q1 ?_ | refine vcallB_of hP q2 ?_ | refine vcall_A ?_); simp (maxSteps := 2000000) only [go_sem, hP, ↓reduceIte, Nat.reduceAdd, Nat.reduceMul, Nat.reduceEqDiff, Nat.reduceSub, Nat.reduceLeDiff, reduceCtorEq, hw2, dk, w1, t1, t2, d0, d1, List.length_map])
          | refine ev_skip ?_ | refine ev_block ?_ | refine ev_blk ?_ | refine ev_ret ?_ | refine ev_exit ?_ | refine evx_code_ret ?_ | refine evx_blk_ret ?_ | refine evx_lp_ret ?_
          | refine evx_code_exit ?_ | refine evx_lp_exit ?_ | refine evx_blk_hit ?_ | refine evx_blk_pass (by decide) ?_
          | refine And.intro ?_ ?_ | intro _ | decide +kernel | omega)
        all_goals first
          | exact ev_lp (k + 1) [] (by omega) (by omega) (by simp only [go_sem, hP, ↓reduceIte, Nat.reduceAdd, Nat.reduceMul, Nat.reduceEqDiff, Nat.reduceSub, Nat.reduceLeDiff, reduceCtorEq]; rw [e]; first | exact ⟨rfl, rfl, rfl, hw3⟩ | exact ⟨rfl, hw3⟩ | exact hw3 | (simp; exact hw3))
          | (exfalso; omega)
          | omega
          | (simp_all; done)
          | trace_state
      · have d1 := decide_eq_false c1
        by_cases c2 : oF ys (k + 2) = oF ys (bC ys k)
        · have d2 : (oF ys (k + 2) == oF ys (bC ys k)) = true := beq_iff_eq.2 c2
          by_cases c3 : aF ys (k + 2) < aF ys (bC ys k)
          · have d3 := decide_eq_true c3
            rw [if_pos (Or.inr (Or.inr ⟨c2, c3⟩))] at e
            repeat' (first
              | exact True.intro
              | refine ev_seq ?_
              | ((first | refine vgd_go ?_ | refine ev_region hE hM (hS (by decide +kernel)) ?_ | refine ev_if ?_ | refine end_ret hE rfl rfl ?_ | refine end_norm hE rfl rfl ?_ | refine endG_ret [] hE rfl ?_ | refine endG_norm [] hE rfl ?_ | refine vcallB_of hP b1 ?_ | refine vcallB_of hP b2 ?_ | refine vcallB_of hP ov1 ?_ | refine vcallB_of hP q1 ?_ | refine vcallB_of hP q2 ?_ | refine vcall_A ?_); simp (maxSteps := 2000000) only [go_sem, hP, ↓reduceIte, Nat.reduceAdd, Nat.reduceMul, Nat.reduceEqDiff, Nat.reduceSub, Nat.reduceLeDiff, reduceCtorEq, hw2, dk, w1, t1, t2, d0, d1, d2, d3, List.length_map])
              | refine ev_skip ?_ | refine ev_block ?_ | refine ev_blk ?_ | refine ev_ret ?_ | refine ev_exit ?_ | refine evx_code_ret ?_ | refine evx_blk_ret ?_ | refine evx_lp_ret ?_
              | refine evx_code_exit ?_ | refine evx_lp_exit ?_ | refine evx_blk_hit ?_ | refine evx_blk_pass (by decide) ?_
              | refine And.intro ?_ ?_ | intro _ | decide +kernel | omega)
            all_goals first
              | exact ev_lp (k + 1) [] (by omega) (by omega) (by simp only [go_sem, hP, ↓reduceIte, Nat.reduceAdd, Nat.reduceMul, Nat.reduceEqDiff, Nat.reduceSub, Nat.reduceLeDiff, reduceCtorEq]; rw [e]; first | exact ⟨rfl, rfl, rfl, hw3⟩ | exact ⟨rfl, hw3⟩ | exact hw3 | (simp; exact hw3))
              | (exfalso; omega)
              | omega
              | (simp_all; done)
              | trace_state
          · have d3 := decide_eq_false c3
            rw [if_neg (by omega)] at e
            repeat' (first
              | exact True.intro
              | refine ev_seq ?_
              | ((first | refine vgd_go ?_ | refine ev_region hE hM (hS (by decide +kernel)) ?_ | refine ev_if ?_ | refine end_ret hE rfl rfl ?_ | refine end_norm hE rfl rfl ?_ | refine endG_ret [] hE rfl ?_ | refine endG_norm [] hE rfl ?_ | refine vcallB_of hP b1 ?_ | refine vcallB_of hP b2 ?_ | refine vcallB_of hP ov1 ?_ | refine vcallB_of hP q1 ?_ | refine vcallB_of hP q2 ?_ | refine vcall_A ?_); simp (maxSteps := 2000000) only [go_sem, hP, ↓reduceIte, Nat.reduceAdd, Nat.reduceMul, Nat.reduceEqDiff, Nat.reduceSub, Nat.reduceLeDiff, reduceCtorEq, hw2, dk, w1, t1, t2, d0, d1, d2, d3, List.length_map])
              | refine ev_skip ?_ | refine ev_block ?_ | refine ev_blk ?_ | refine ev_ret ?_ | refine ev_exit ?_ | refine evx_code_ret ?_ | refine evx_blk_ret ?_ | refine evx_lp_ret ?_
              | refine evx_code_exit ?_ | refine evx_lp_exit ?_ | refine evx_blk_hit ?_ | refine evx_blk_pass (by decide) ?_
              | refine And.intro ?_ ?_ | intro _ | decide +kernel | omega)
            all_goals first
              | exact ev_lp (k + 1) [] (by omega) (by omega) (by simp only [go_sem, hP, ↓reduceIte, Nat.reduceAdd, Nat.reduceMul, Nat.reduceEqDiff, Nat.reduceSub, Nat.reduceLeDiff, reduceCtorEq]; rw [e]; first | exact ⟨rfl, rfl, rfl, hw3⟩ | exact ⟨rfl, hw3⟩ | exact hw3 | (simp; exact hw3))
              | (exfalso; omega)
              | omega
              | (simp_all; done)
              | trace_state
        · have d2 : (oF ys (k + 2) == oF ys (bC ys k)) = false := beq_eq_false_iff_ne.2 c2
          rw [if_neg (by omega)] at e
          repeat' (first
            | exact True.intro
            | refine ev_seq ?_
            | ((first | refine vgd_go ?_ | refine ev_region hE hM (hS (by decide +kernel)) ?_ | refine ev_if ?_ | refine end_ret hE rfl rfl ?_ | refine end_norm hE rfl rfl ?_ | refine endG_ret [] hE rfl ?_ | refine endG_norm [] hE rfl ?_ | refine vcallB_of hP b1 ?_ | refine vcallB_of hP b2 ?_ | refine vcallB_of hP ov1 ?_ | refine vcallB_of hP q1 ?_ | refine vcallB_of hP q2 ?_ | refine vcall_A ?_); simp (maxSteps := 2000000) only [go_sem, hP, ↓reduceIte, Nat.reduceAdd, Nat.reduceMul, Nat.reduceEqDiff, Nat.reduceSub, Nat.reduceLeDiff, reduceCtorEq, hw2, dk, w1, t1, t2, d0, d1, d2, List.length_map])
            | refine ev_skip ?_ | refine ev_block ?_ | refine ev_blk ?_ | refine ev_ret ?_ | refine ev_exit ?_ | refine evx_code_ret ?_ | refine evx_blk_ret ?_ | refine evx_lp_ret ?_
            | refine evx_code_exit ?_ | refine evx_lp_exit ?_ | refine evx_blk_hit ?_ | refine evx_blk_pass (by decide) ?_
            | refine And.intro ?_ ?_ | intro _ | decide +kernel | omega)
          all_goals first
            | exact ev_lp (k + 1) [] (by omega) (by omega) (by simp only [go_sem, hP, ↓reduceIte, Nat.reduceAdd, Nat.reduceMul, Nat.reduceEqDiff, Nat.reduceSub, Nat.reduceLeDiff, reduceCtorEq]; rw [e]; first | exact ⟨rfl, rfl, rfl, hw3⟩ | exact ⟨rfl, hw3⟩ | exact hw3 | (simp; exact hw3))
            | (exfalso; omega)
            | omega
            | (simp_all; done)
            | trace_state
  · obtain rfl : k = xs.length - 3 := by omega
    have dk : decide (((xs.length - 3 + 2 : Nat) : Int) ≤ (xs.length : Int) - 2) = false := by simp only [decide_eq_false_iff_not]; omega
    have hb := bC_in ys (xs.length - 3) (by omega)
    rw [← hC] at hb ⊢
    generalize starC xs d = c at *
    have t1 : List.take (c - Int.toNat 0) (List.drop (Int.toNat 0) (ys.map eEntry)) = (ys.take c).map eEntry := by rw [show Int.toNat 0 = 0 from rfl, Nat.sub_zero, List.drop_zero, List.map_take]
    have t2 : List.take (ys.length - c) (List.drop c (ys.map eEntry)) = (ys.drop c).map eEntry := by rw [← List.map_drop, List.take_of_length_le (by simp)]
    repeat' (first
      | exact True.intro
      | refine ev_seq ?_
      | ((first | refine vgd_go ?_ | refine ev_region hE hM (hS (by decide +kernel)) ?_ | refine ev_if ?_ | refine end_ret hE rfl rfl ?_ | refine end_norm hE rfl rfl ?_ | refine endG_ret [] hE rfl ?_ | refine endG_norm [] hE rfl ?_ | refine vcall_A ?_); simp (maxSteps := 2000000) only [go_sem, hP, ↓reduceIte, Nat.reduceAdd, Nat.reduceMul, Nat.reduceEqDiff, Nat.reduceSub, Nat.reduceLeDiff, reduceCtorEq, hw2, dk, t1, t2, List.length_map])
      | refine ev_skip ?_ | refine ev_block ?_ | refine ev_blk ?_ | refine ev_ret ?_ | refine ev_exit ?_ | refine evx_code_ret ?_ | refine evx_blk_ret ?_ | refine evx_lp_ret ?_
      | refine evx_code_exit ?_ | refine evx_lp_exit ?_ | refine evx_blk_hit ?_ | refine evx_blk_pass (by decide) ?_
      | refine And.intro ?_ ?_ | intro _ | decide +kernel | omega)
    all_goals first | rfl | (exfalso; omega) | omega | (simp_all; done) | trace_state
def ssA (xs : List Entry) (d : Int) : List Entry := if sfC xs d = 0 then (starY xs d).take (starC xs d) else []
def ssB (xs : List Entry) (d : Int) : List Entry := if sfC xs d = 0 then (starY xs d).drop (starC xs d) else []
theorem star_w {xs : List Entry} {d : Int} (h : esf xs d = 0) : wEntryS ((starY xs d).take (starC xs d)) ≤ 70 ∧ wEntryS ((starY xs d).drop (starC xs d)) ≤ 70 := by
  have h1 := esf_len h
  have hr := sortE_rf (bA xs d.toNat) (esf_rf h)
  have hl := sortE_len (bA xs d.toNat) xs
  have g1 := even_w (xs := (starY xs d).take (starC xs d)) (d := d) (fun e he => hr e (List.mem_of_mem_take he))
  have g2 := even_w (xs := (starY xs d).drop (starC xs d)) (d := d) (fun e he => hr e (List.mem_of_mem_drop he))
  rw [List.length_take] at g1
  rw [List.length_drop] at g2
  unfold starY at g1 g2 ⊢
  omega
theorem ssA_w (xs : List Entry) (d : Int) : wEntryS (ssA xs d) ≤ 70 := by
  unfold ssA; split
  · rename_i h; exact (star_w (sfC_zero h).1).1
  · exact Nat.zero_le _
theorem ssB_w (xs : List Entry) (d : Int) : wEntryS (ssB xs d) ≤ 70 := by
  unfold ssB; split
  · rename_i h; exact (star_w (sfC_zero h).1).2
  · exact Nat.zero_le _
theorem s_implSplitStar (xs : List Entry) (d : Int) : Sat Tryz.prog 8 [aEntryS xs, aI d] true (rPtR (sfC xs d) (ssA xs d) (ssB xs d)) := by
  refine sat_walk (fn := Tryz.f8) rfl rfl rfl (Nat.le_of_ble_eq_true rfl) fun fr hP hN hbnd => ?_
  have hE : (envOf fr Tryz.prog).Ok := envOf_ok hP
  have hM := follows_of hP
  have hS : ∀ {draw ops}, statB Tryz.f8.ntmps draw ops = true → statB (envOf fr Tryz.prog).fr.N draw ops = true := fun h => by rw [envOf_fr, hN]; exact h
  repeat' (first
    | exact True.intro
    | refine ev_seq ?_
    | ((first | refine vgd_go ?_ | refine ev_region hE hM (hS (by decide +kernel)) ?_ | refine ev_if ?_ | refine end_ret hE rfl rfl ?_ | refine end_norm hE rfl rfl ?_ | refine endG_ret [] hE rfl ?_ | refine endG_norm [] hE rfl ?_ | refine vcallB_of hP (s_splitFault xs d) ?_ | refine vcallB_of hP (s_parted (sfC xs d) xs (ssA xs d) (ssB xs d) _ (fun h => by rw [show ssA xs d = (starY xs d).take (starC xs d) from if_pos h, show ssB xs d = (starY xs d).drop (starC xs d) from if_pos h]; exact s_splitStar xs d (sfC_zero h).1 (sfC_zero h).2) (fun h => ⟨if_neg h, if_neg h⟩)) ?_ | refine vcall_A ?_); simp (maxSteps := 2000000) only [go_sem, hP, ↓reduceIte, Nat.reduceAdd, Nat.reduceMul, Nat.reduceEqDiff, Nat.reduceSub, Nat.reduceLeDiff, reduceCtorEq])
    | refine ev_skip ?_ | refine ev_block ?_ | refine ev_blk ?_ | refine ev_ret ?_ | refine ev_exit ?_ | refine evx_code_ret ?_ | refine evx_blk_ret ?_ | refine evx_lp_ret ?_
    | refine evx_code_exit ?_ | refine evx_lp_exit ?_ | refine evx_blk_hit ?_ | refine evx_blk_pass (by decide) ?_
    | refine And.intro ?_ ?_ | intro _ | decide +kernel | omega)
  all_goals first | rfl | (exfalso; simp_all; done) | (simp_all; done) | trace_state
def sbC (s : Int) (xs : List Entry) (d : Int) : Int := if s = 0 ∨ s = 1 then sfC xs d else 3
def sbA (s : Int) (xs : List Entry) (d : Int) : List Entry := if s = 0 then sqA xs d else if s = 1 then ssA xs d else []
def sbB (s : Int) (xs : List Entry) (d : Int) : List Entry := if s = 0 then sqB xs d else if s = 1 then ssB xs d else []
theorem s_l5By (s : Int) (xs : List Entry) (d : Int) (hs : s = 0 ∨ s = 1) (hz : sfC xs d = 0) : Sat Tryz.prog 26 [aI s, aEntryS xs, aI d] false [(false, [sEntryS (sbA s xs d)]), (false, [sEntryS (sbB s xs d)])] := by
  refine sat_walk (fn := Tryz.f26) rfl rfl rfl (Nat.le_of_ble_eq_true rfl) fun fr hP hN hbnd => ?_
  have hE : (envOf fr Tryz.prog).Ok := envOf_ok hP
  have hM := follows_of hP
  have hS : ∀ {draw ops}, statB Tryz.f26.ntmps draw ops = true → statB (envOf fr Tryz.prog).fr.N draw ops = true := fun h => by rw [envOf_fr, hN]; exact h
  have h1 := sfC_zero hz
  have k1 := s_l5Quad xs d h1.1 h1.2
  have k2 := s_l5Star xs d h1.1 h1.2
  rw [← show sqA xs d = selE xs (quadV xs) 1 from if_pos hz, ← show sqB xs d = selE xs (quadV xs) 2 from if_pos hz] at k1
  rw [← show ssA xs d = (starY xs d).take (starC xs d) from if_pos hz, ← show ssB xs d = (starY xs d).drop (starC xs d) from if_pos hz] at k2
  generalize hA : sqA xs d = qa at *
  generalize hB : sqB xs d = qb at *
  generalize hC : ssA xs d = ra at *
  generalize hD : ssB xs d = rb at *
  rcases hs with rfl | rfl
  · rw [show sbA 0 xs d = qa from hA, show sbB 0 xs d = qb from hB]
    have d0 : ((0 : Int) == 1) = false := rfl
    repeat' (first
      | exact True.intro
      | refine ev_seq ?_
      | ((first | refine vgd_go ?_ | refine ev_region hE hM (hS (by decide +kernel)) ?_ | refine ev_if ?_ | refine end_ret hE rfl rfl ?_ | refine end_norm hE rfl rfl ?_ | refine endG_ret [] hE rfl ?_ | refine endG_norm [] hE rfl ?_ | refine vcallB_of hP k1 ?_ | refine vcallB_of hP k2 ?_ | refine vcall_A ?_); simp (maxSteps := 2000000) only [go_sem, hP, ↓reduceIte, Nat.reduceAdd, Nat.reduceMul, Nat.reduceEqDiff, Nat.reduceSub, Nat.reduceLeDiff, reduceCtorEq, d0])
      | refine ev_skip ?_ | refine ev_block ?_ | refine ev_blk ?_ | refine ev_ret ?_ | refine ev_exit ?_ | refine evx_code_ret ?_ | refine evx_blk_ret ?_ | refine evx_lp_ret ?_
      | refine evx_code_exit ?_ | refine evx_lp_exit ?_ | refine evx_blk_hit ?_ | refine evx_blk_pass (by decide) ?_
      | refine And.intro ?_ ?_ | intro _ | decide +kernel | omega)
    all_goals first | rfl | (simp_all; done) | trace_state
  · rw [show sbA 1 xs d = ra from hC, show sbB 1 xs d = rb from hD]
    have d0 : ((1 : Int) == 1) = true := rfl
    repeat' (first
      | exact True.intro
      | refine ev_seq ?_
      | ((first | refine vgd_go ?_ | refine ev_region hE hM (hS (by decide +kernel)) ?_ | refine ev_if ?_ | refine end_ret hE rfl rfl ?_ | refine end_norm hE rfl rfl ?_ | refine endG_ret [] hE rfl ?_ | refine endG_norm [] hE rfl ?_ | refine vcallB_of hP k1 ?_ | refine vcallB_of hP k2 ?_ | refine vcall_A ?_); simp (maxSteps := 2000000) only [go_sem, hP, ↓reduceIte, Nat.reduceAdd, Nat.reduceMul, Nat.reduceEqDiff, Nat.reduceSub, Nat.reduceLeDiff, reduceCtorEq, d0])
      | refine ev_skip ?_ | refine ev_block ?_ | refine ev_blk ?_ | refine ev_ret ?_ | refine ev_exit ?_ | refine evx_code_ret ?_ | refine evx_blk_ret ?_ | refine evx_lp_ret ?_
      | refine evx_code_exit ?_ | refine evx_lp_exit ?_ | refine evx_blk_hit ?_ | refine evx_blk_pass (by decide) ?_
      | refine And.intro ?_ ?_ | intro _ | decide +kernel | omega)
    all_goals first | rfl | (simp_all; done) | trace_state
theorem s_implsplitBy (s : Int) (xs : List Entry) (d : Int) (hs : s = 0 ∨ s = 1) (hz : sfC xs d = 0) : Sat Tryz.prog 20 [aI s, aEntryS xs] true [(false, [oEntryS (sbA s xs d)]), (false, [oEntryS (sbB s xs d)])] := by
  refine sat_walk (fn := Tryz.f20) rfl rfl rfl (Nat.le_of_ble_eq_true rfl) fun fr hP hN hbnd => ?_
  have hE : (envOf fr Tryz.prog).Ok := envOf_ok hP
  have hM := follows_of hP
  have hS : ∀ {draw ops}, statB Tryz.f20.ntmps draw ops = true → statB (envOf fr Tryz.prog).fr.N draw ops = true := fun h => by rw [envOf_fr, hN]; exact h
  have h1 := sfC_zero hz
  have k1 := s_splitQuad xs d h1.1 h1.2
  have k2 := s_splitStar xs d h1.1 h1.2
  rw [← show sqA xs d = selE xs (quadV xs) 1 from if_pos hz, ← show sqB xs d = selE xs (quadV xs) 2 from if_pos hz] at k1
  rw [← show ssA xs d = (starY xs d).take (starC xs d) from if_pos hz, ← show ssB xs d = (starY xs d).drop (starC xs d) from if_pos hz] at k2
  generalize hA : sqA xs d = qa at *
  generalize hB : sqB xs d = qb at *
  generalize hC : ssA xs d = ra at *
  generalize hD : ssB xs d = rb at *
  rcases hs with rfl | rfl
  · rw [show sbA 0 xs d = qa from hA, show sbB 0 xs d = qb from hB]
    have d0 : ((0 : Int) == 0) = true := rfl
    repeat' (first
      | exact True.intro
      | refine ev_seq ?_
      | ((first | refine vgd_go ?_ | refine ev_region hE hM (hS (by decide +kernel)) ?_ | refine ev_if ?_ | refine end_ret hE rfl rfl ?_ | refine end_norm hE rfl rfl ?_ | refine endG_ret [] hE rfl ?_ | refine endG_norm [] hE rfl ?_ | refine vcallB_of hP k1 ?_ | refine vcallB_of hP k2 ?_ | refine vcall_A ?_); simp (maxSteps := 2000000) only [go_sem, hP, ↓reduceIte, Nat.reduceAdd, Nat.reduceMul, Nat.reduceEqDiff, Nat.reduceSub, Nat.reduceLeDiff, reduceCtorEq, d0])
      | refine ev_skip ?_ | refine ev_block ?_ | refine ev_blk ?_ | refine ev_ret ?_ | refine ev_exit ?_ | refine evx_code_ret ?_ | refine evx_blk_ret ?_ | refine evx_lp_ret ?_
      | refine evx_code_exit ?_ | refine evx_lp_exit ?_ | refine evx_blk_hit ?_ | refine evx_blk_pass (by decide) ?_
      | refine And.intro ?_ ?_ | intro _ | decide +kernel | omega)
    all_goals first | rfl | (simp_all; done) | trace_state
  · rw [show sbA 1 xs d = ra from hC, show sbB 1 xs d = rb from hD]
    have d0 : ((1 : Int) == 0) = false := rfl
    repeat' (first
      | exact True.intro
      | refine ev_seq ?_
      | ((first | refine vgd_go ?_ | refine ev_region hE hM (hS (by decide +kernel)) ?_ | refine ev_if ?_ | refine end_ret hE rfl rfl ?_ | refine end_norm hE rfl rfl ?_ | refine endG_ret [] hE rfl ?_ | refine endG_norm [] hE rfl ?_ | refine vcallB_of hP k1 ?_ | refine vcallB_of hP k2 ?_ | refine vcall_A ?_); simp (maxSteps := 2000000) only [go_sem, hP, ↓reduceIte, Nat.reduceAdd, Nat.reduceMul, Nat.reduceEqDiff, Nat.reduceSub, Nat.reduceLeDiff, reduceCtorEq, d0])
      | refine ev_skip ?_ | refine ev_block ?_ | refine ev_blk ?_ | refine ev_ret ?_ | refine ev_exit ?_ | refine evx_code_ret ?_ | refine evx_blk_ret ?_ | refine evx_lp_ret ?_
      | refine evx_code_exit ?_ | refine evx_lp_exit ?_ | refine evx_blk_hit ?_ | refine evx_blk_pass (by decide) ?_
      | refine And.intro ?_ ?_ | intro _ | decide +kernel | omega)
    all_goals first | rfl | (simp_all; done) | trace_state
theorem s_SplitBy1 (s : Int) (xs : List Entry) (d : Int) (hs : s = 0 ∨ s = 1) (hz : sfC xs d = 0) : Sat Tryz.prog 19 [aEntryS xs, .pv [.int .i64 s]] true [(false, [oEntryS (sbA s xs d)]), (false, [oEntryS (sbB s xs d)])] := by
  refine sat_walk (fn := Tryz.f19) rfl rfl rfl (Nat.le_of_ble_eq_true rfl) fun fr hP hN hbnd => ?_
  have hE : (envOf fr Tryz.prog).Ok := envOf_ok hP
  have hM := follows_of hP
  have hS : ∀ {draw ops}, statB Tryz.f19.ntmps draw ops = true → statB (envOf fr Tryz.prog).fr.N draw ops = true := fun h => by rw [envOf_fr, hN]; exact h
  repeat' (first
    | exact True.intro
    | refine ev_seq ?_
    | ((first | refine vgd_go ?_ | refine ev_region hE hM (hS (by decide +kernel)) ?_ | refine ev_if ?_ | refine end_ret hE rfl rfl ?_ | refine end_norm hE rfl rfl ?_ | refine endG_ret [] hE rfl ?_ | refine endG_norm [] hE rfl ?_ | refine vcallB_of hP (s_implsplitBy s xs d hs hz) ?_ | refine vcall_A ?_); simp (maxSteps := 2000000) only [go_sem, hP, ↓reduceIte, Nat.reduceAdd, Nat.reduceMul, Nat.reduceEqDiff, Nat.reduceSub, Nat.reduceLeDiff, reduceCtorEq])
    | refine ev_skip ?_ | refine ev_block ?_ | refine ev_blk ?_ | refine ev_ret ?_ | refine ev_exit ?_ | refine evx_code_ret ?_ | refine evx_blk_ret ?_ | refine evx_lp_ret ?_
    | refine evx_code_exit ?_ | refine evx_lp_exit ?_ | refine evx_blk_hit ?_ | refine evx_blk_pass (by decide) ?_
    | refine And.intro ?_ ?_ | intro _ | decide +kernel | omega)
theorem s_implSplitBy (s : Int) (xs : List Entry) (d : Int) : Sat Tryz.prog 6 [aI s, aEntryS xs, aI d] true (rPtR (sbC s xs d) (sbA s xs d) (sbB s xs d)) := by
  refine sat_walk (fn := Tryz.f6) rfl rfl rfl (Nat.le_of_ble_eq_true rfl) fun fr hP hN hbnd => ?_
  have hE : (envOf fr Tryz.prog).Ok := envOf_ok hP
  have hM := follows_of hP
  have hS : ∀ {draw ops}, statB Tryz.f6.ntmps draw ops = true → statB (envOf fr Tryz.prog).fr.N draw ops = true := fun h => by rw [envOf_fr, hN]; exact h
  have k0 := s_isStyle s
  by_cases hs : s = 0 ∨ s = 1
  · have hi : inB s 0 1 = true := by rcases hs with rfl | rfl <;> rfl
    rw [hi] at k0
    have hn : sfC xs d ≠ 0 → sbA s xs d = [] ∧ sbB s xs d = [] := fun h => by rcases hs with rfl | rfl <;> exact ⟨if_neg h, if_neg h⟩
    have hc : sbC s xs d = sfC xs d := if_pos hs
    rw [hc]
    repeat' (first
      | exact True.intro
      | refine ev_seq ?_
      | ((first | refine vgd_go ?_ | refine ev_region hE hM (hS (by decide +kernel)) ?_ | refine ev_if ?_ | refine end_ret hE rfl rfl ?_ | refine end_norm hE rfl rfl ?_ | refine endG_ret [] hE rfl ?_ | refine endG_norm [] hE rfl ?_ | refine vcallB_of hP k0 ?_ | refine vcallB_of hP (s_splitFault xs d) ?_ | refine vcallB_of hP (s_parted (sfC xs d) xs (sbA s xs d) (sbB s xs d) _ (fun h => s_SplitBy1 s xs d hs h) hn) ?_ | refine vcall_A ?_); simp (maxSteps := 2000000) only [go_sem, hP, ↓reduceIte, Nat.reduceAdd, Nat.reduceMul, Nat.reduceEqDiff, Nat.reduceSub, Nat.reduceLeDiff, reduceCtorEq])
      | refine ev_skip ?_ | refine ev_block ?_ | refine ev_blk ?_ | refine ev_ret ?_ | refine ev_exit ?_ | refine evx_code_ret ?_ | refine evx_blk_ret ?_ | refine evx_lp_ret ?_
      | refine evx_code_exit ?_ | refine evx_lp_exit ?_ | refine evx_blk_hit ?_ | refine evx_blk_pass (by decide) ?_
      | refine And.intro ?_ ?_ | intro _ | decide +kernel | omega)
    all_goals first | rfl | (exfalso; simp_all; done) | (simp_all; done) | trace_state
  · have hi : inB s 0 1 = false := by unfold inB; simp; omega
    rw [hi] at k0
    have hc : sbC s xs d = 3 := if_neg hs
    have e1 : sbA s xs d = [] := by unfold sbA; rw [if_neg (fun h => hs (Or.inl h)), if_neg (fun h => hs (Or.inr h))]
    have e2 : sbB s xs d = [] := by unfold sbB; rw [if_neg (fun h => hs (Or.inl h)), if_neg (fun h => hs (Or.inr h))]
    rw [hc, e1, e2]
    repeat' (first
      | exact True.intro
      | refine ev_seq ?_
      | ((first | refine vgd_go ?_ | refine ev_region hE hM (hS (by decide +kernel)) ?_ | refine ev_if ?_ | refine end_ret hE rfl rfl ?_ | refine end_norm hE rfl rfl ?_ | refine endG_ret [] hE rfl ?_ | refine endG_norm [] hE rfl ?_ | refine vcallB_of hP k0 ?_ | refine vcall_A ?_); simp (maxSteps := 2000000) only [go_sem, hP, ↓reduceIte, Nat.reduceAdd, Nat.reduceMul, Nat.reduceEqDiff, Nat.reduceSub, Nat.reduceLeDiff, reduceCtorEq])
      | refine ev_skip ?_ | refine ev_block ?_ | refine ev_blk ?_ | refine ev_ret ?_ | refine ev_exit ?_ | refine evx_code_ret ?_ | refine evx_blk_ret ?_ | refine evx_lp_ret ?_
      | refine evx_code_exit ?_ | refine evx_lp_exit ?_ | refine evx_blk_hit ?_ | refine evx_blk_pass (by decide) ?_
      | refine And.intro ?_ ?_ | intro _ | decide +kernel | omega)
    all_goals first | rfl | (exfalso; simp_all; done) | (simp_all; done) | trace_state
theorem s_specSplitBy (s : Int) (xs : List Entry) (d : Int) : Sat Tryz.prog 9 [aI s, aEntryS xs, aI d] true (rPtR (sbC s xs d) (sbA s xs d) (sbB s xs d)) := by
  refine sat_walk (fn := Tryz.f9) rfl rfl rfl (Nat.le_of_ble_eq_true rfl) fun fr hP hN hbnd => ?_
  have hE : (envOf fr Tryz.prog).Ok := envOf_ok hP
  have hM := follows_of hP
  have hS : ∀ {draw ops}, statB Tryz.f9.ntmps draw ops = true → statB (envOf fr Tryz.prog).fr.N draw ops = true := fun h => by rw [envOf_fr, hN]; exact h
  have k0 := s_l1In s 0 1
  by_cases hs : s = 0 ∨ s = 1
  · have hi : inB s 0 1 = true := by rcases hs with rfl | rfl <;> rfl
    rw [hi] at k0
    have hc : sbC s xs d = sfC xs d := if_pos hs
    rw [hc]
    have w1 : wEntryS (sbA s xs d) ≤ 1048576 := by rcases hs with rfl | rfl <;> exact Nat.le_trans (by first | exact sqA_w xs d | exact ssA_w xs d) (by omega)
    have w2 : wEntryS (sbB s xs d) ≤ 1048576 := by rcases hs with rfl | rfl <;> exact Nat.le_trans (by first | exact sqB_w xs d | exact ssB_w xs d) (by omega)
    by_cases hz : sfC xs d = 0
    · repeat' (first
        | exact True.intro
        | refine ev_seq ?_
        | ((first | refine vgd_go ?_ | refine ev_region hE hM (hS (by decide +kernel)) ?_ | refine ev_if ?_ | refine end_ret hE rfl rfl ?_ | refine end_norm hE rfl rfl ?_ | refine endG_ret [] hE rfl ?_ | refine endG_norm [] hE rfl ?_ | refine vcallB_of hP k0 ?_ | refine vcallB_of hP (s_l5Enough xs d) ?_ | refine vcallB_of hP (s_l5By s xs d hs hz) ?_ | refine vcallB_of hP (s_l5Parts _ _ w1 w2) ?_ | refine vcall_A ?_); simp (maxSteps := 2000000) only [go_sem, hP, ↓reduceIte, Nat.reduceAdd, Nat.reduceMul, Nat.reduceEqDiff, Nat.reduceSub, Nat.reduceLeDiff, reduceCtorEq, hz])
        | refine ev_skip ?_ | refine ev_block ?_ | refine ev_blk ?_ | refine ev_ret ?_ | refine ev_exit ?_ | refine evx_code_ret ?_ | refine evx_blk_ret ?_ | refine evx_lp_ret ?_
        | refine evx_code_exit ?_ | refine evx_lp_exit ?_ | refine evx_blk_hit ?_ | refine evx_blk_pass (by decide) ?_
        | refine And.intro ?_ ?_ | intro _ | decide +kernel | omega)
      all_goals first | rfl | (exfalso; simp_all; done) | (simp_all; done) | trace_state
    · have e1 : sbA s xs d = [] := by rcases hs with rfl | rfl <;> exact if_neg hz
      have e2 : sbB s xs d = [] := by rcases hs with rfl | rfl <;> exact if_neg hz
      rw [e1, e2]
      repeat' (first
        | exact True.intro
        | refine ev_seq ?_
        | ((first | refine vgd_go ?_ | refine ev_region hE hM (hS (by decide +kernel)) ?_ | refine ev_if ?_ | refine end_ret hE rfl rfl ?_ | refine end_norm hE rfl rfl ?_ | refine endG_ret [] hE rfl ?_ | refine endG_norm [] hE rfl ?_ | refine vcallB_of hP k0 ?_ | refine vcallB_of hP (s_l5Enough xs d) ?_ | refine vcall_A ?_); simp (maxSteps := 2000000) only [go_sem, hP, ↓reduceIte, Nat.reduceAdd, Nat.reduceMul, Nat.reduceEqDiff, Nat.reduceSub, Nat.reduceLeDiff, reduceCtorEq])
        | refine ev_skip ?_ | refine ev_block ?_ | refine ev_blk ?_ | refine ev_ret ?_ | refine ev_exit ?_ | refine evx_code_ret ?_ | refine evx_blk_ret ?_ | refine evx_lp_ret ?_
        | refine evx_code_exit ?_ | refine evx_lp_exit ?_ | refine evx_blk_hit ?_ | refine evx_blk_pass (by decide) ?_
        | refine And.intro ?_ ?_ | intro _ | decide +kernel | omega)
      all_goals first | rfl | (exfalso; simp_all; done) | (simp_all; done) | trace_state
  · have hi : inB s 0 1 = false := by unfold inB; simp; omega
    rw [hi] at k0
    have hc : sbC s xs d = 3 := if_neg hs
    have e1 : sbA s xs d = [] := by unfold sbA; rw [if_neg (fun h => hs (Or.inl h)), if_neg (fun h => hs (Or.inr h))]
    have e2 : sbB s xs d = [] := by unfold sbB; rw [if_neg (fun h => hs (Or.inl h)), if_neg (fun h => hs (Or.inr h))]
    rw [hc, e1, e2]
    repeat' (first
      | exact True.intro
      | refine ev_seq ?_
      | ((first | refine vgd_go ?_ | refine ev_region hE hM (hS (by decide +kernel)) ?_ | refine ev_if ?_ | refine end_ret hE rfl rfl ?_ | refine end_norm hE rfl rfl ?_ | refine endG_ret [] hE rfl ?_ | refine endG_norm [] hE rfl ?_ | refine vcallB_of hP k0 ?_ | refine vcall_A ?_); simp (maxSteps := 2000000) only [go_sem, hP, ↓reduceIte, Nat.reduceAdd, Nat.reduceMul, Nat.reduceEqDiff, Nat.reduceSub, Nat.reduceLeDiff, reduceCtorEq])
      | refine ev_skip ?_ | refine ev_block ?_ | refine ev_blk ?_ | refine ev_ret ?_ | refine ev_exit ?_ | refine evx_code_ret ?_ | refine evx_blk_ret ?_ | refine evx_lp_ret ?_
      | refine evx_code_exit ?_ | refine evx_lp_exit ?_ | refine evx_blk_hit ?_ | refine evx_blk_pass (by decide) ?_
      | refine And.intro ?_ ?_ | intro _ | decide +kernel | omega)
    all_goals first | rfl | (exfalso; simp_all; done) | (simp_all; done) | trace_state
def sbS (c : List Int) : Int := pk c (bl c 0).p [0, 1, 0, 1, 2, -1]
theorem s_DrawSplitBy (c : List Int) (hc : codeOk c) : Sat Tryz.prog 5 [aY c] false [(false, [.int .i64 (sbS c)]), (false, [sEntryS (bl c 0).l]), (false, [.int .i64 (bl c 0).d])] := by
  refine sat_walk (fn := Tryz.f5) rfl rfl rfl (Nat.le_of_ble_eq_true rfl) fun fr hP hN hbnd => ?_
  have hE : (envOf fr Tryz.prog).Ok := envOf_ok hP
  have hM := follows_of hP
  have hS : ∀ {draw ops}, statB Tryz.f5.ntmps draw ops = true → statB (envOf fr Tryz.prog).fr.N draw ops = true := fun h => by rw [envOf_fr, hN]; exact h
  have q := bl_p c 0
  have k1 := s_l5Bent c 0 hc (by omega) (by omega)
  have k2 := s_l1Pick c (bl c 0).p [0, 1, 0, 1, 2, -1] hc (by omega) (by omega) (by simp) (by simp)
  rw [show pk c (bl c 0).p [0, 1, 0, 1, 2, -1] = sbS c from rfl] at k2
  repeat' (first
    | exact True.intro
    | refine ev_seq ?_
    | ((first | refine vgd_go ?_ | refine ev_region hE hM (hS (by decide +kernel)) ?_ | refine ev_if ?_ | refine end_ret hE rfl rfl ?_ | refine end_norm hE rfl rfl ?_ | refine endG_ret [] hE rfl ?_ | refine endG_norm [] hE rfl ?_ | refine vcallG_of (args := [.c (sY c)]) [] [] hP (s_l1Source c) ?_ | refine vcallG_at (args := [.ptr 1052680 0]) 1052680 [] rfl hP (k1) ?_ | refine vcallG_at (args := [.ptr 1052680 0, .ref 12296]) 1052680 [12296] rfl hP (k2) ?_ | refine vcall_A ?_); simp (maxSteps := 2000000) only [go_sem, hP, ↓reduceIte, Nat.reduceAdd, Nat.reduceMul, Nat.reduceEqDiff, Nat.reduceSub, Nat.reduceLeDiff, reduceCtorEq])
    | refine ev_skip ?_ | refine ev_block ?_ | refine ev_blk ?_ | refine ev_ret ?_ | refine ev_exit ?_ | refine evx_code_ret ?_ | refine evx_blk_ret ?_ | refine evx_lp_ret ?_
    | refine evx_code_exit ?_ | refine evx_lp_exit ?_ | refine evx_blk_hit ?_ | refine evx_blk_pass (by decide) ?_
    | refine And.intro ?_ ?_ | intro _ | decide +kernel | omega)
  all_goals first
    | rfl
    | (simp_all; done)
    | trace_state
structure QP (n f : Nat) (ins : List Int) : Prop where
  len : ins.length = n
  all : ∀ v ∈ ins, v = 0 ∨ v = 1 ∨ v = 2
  zero : ins.count 0 = f
  one : 1 ≤ ins.count 1
  two : 1 ≤ ins.count 2
  oneE : 2 ≤ ins.count 1 + ins.count 0
  twoE : 2 ≤ ins.count 2 + ins.count 0
theorem cnt3 : ∀ {ins : List Int}, (∀ v ∈ ins, v = 0 ∨ v = 1 ∨ v = 2) → ins.count 0 + ins.count 1 + ins.count 2 = ins.length
  | [], _ => rfl
  | v :: vs, h => by
    have ih := cnt3 (ins := vs) fun w hw => h w (List.mem_cons_of_mem _ hw)
    have m1 : ((0 : Int) == 1) = false := rfl
    have m2 : ((0 : Int) == 2) = false := rfl
    have m3 : ((1 : Int) == 2) = false := rfl
    have m4 : ((2 : Int) == 1) = false := rfl
    have m5 : ((1 : Int) == 0) = false := rfl
    have m6 : ((2 : Int) == 0) = false := rfl
    rcases h v (List.mem_cons_self ..) with rfl | rfl | rfl <;> simp only [List.count_cons, List.length_cons, m1, m2, m3, m4, m5, m6, beq_self_eq_true, if_true, Bool.false_eq_true, if_false] <;> omega
structure QEnd (n : Nat) (ins : List Int) : Prop where
  len : ins.length = n
  all : ∀ v ∈ ins, v = 1 ∨ v = 2
  one : 2 ≤ ins.count 1
  two : 2 ≤ ins.count 2
theorem fill_count {ins : List Int} {s b : Int} (hs : s ≠ 0) (hb : b ≠ 0) : (fillV ins s).count b = ins.count b + if s = b then ins.count 0 else 0 := by
  unfold fillV
  induction ins with
  | nil => simp
  | cons v vs ih =>
    rw [List.map_cons, List.count_cons, ih, List.count_cons, List.count_cons]
    by_cases h0 : v = 0
    · subst h0
      simp only [↓reduceIte]
      by_cases e : s = b
      · subst e; simp [Ne.symm hs]; omega
      · simp [e, Ne.symm hb]
    · by_cases e : s = b
      · subst e; simp [h0]; omega
      · simp [h0, e]
theorem fill_end {n f : Nat} {ins : List Int} (q : QP n f ins) (h4 : 4 ≤ n) {s : Int} (hs : s = 1 ∨ s = 2) (hc : ins.count s + f ≤ 2) : QEnd n (fillV ins s) := by
  have c3 := cnt3 q.all
  have := q.len
  have := q.zero
  have := q.oneE
  have := q.twoE
  refine ⟨by simp [fillV, q.len], ?_, ?_, ?_⟩
  · intro v hv
    unfold fillV at hv
    obtain ⟨w, hw, e⟩ := List.mem_map.1 hv
    have := q.all w hw
    split at e <;> omega
  · rw [fill_count (by omega) (by omega)]
    rcases hs with rfl | rfl <;> simp <;> omega
  · rw [fill_count (by omega) (by omega)]
    rcases hs with rfl | rfl <;> simp <;> omega
theorem quadF_end {xs : List Entry} : ∀ (f : Nat) (ins : List Int), QP xs.length f ins → 4 ≤ xs.length → QEnd xs.length (quadF xs f ins)
  | 0, ins, q, h4 => by
    have := q.zero
    have := q.oneE
    have := q.twoE
    refine ⟨q.len, fun v hv => ?_, by show 2 ≤ ins.count 1; omega, by show 2 ≤ ins.count 2; omega⟩
    rcases q.all v hv with h | h
    · subst h
      have := List.count_pos_iff.2 (show (0 : Int) ∈ ins from hv)
      omega
    · exact h
  | f + 1, ins, q, h4 => by
    have c3 := cnt3 q.all
    have e1 := q.len
    have e2 := q.zero
    have e3 := q.oneE
    have e4 := q.twoE
    have n1 := selE_count (xs := xs) 1 q.len
    have n2 := selE_count (xs := xs) 2 q.len
    unfold quadF
    split
    · exact fill_end q h4 (Or.inl rfl) (by omega)
    split
    · exact fill_end q h4 (Or.inr rfl) (by omega)
    · rename_i h1 h2
      obtain ⟨i1, i2⟩ := nxI_ok (xs := xs) q.len (by omega)
      rw [getD_lt i1] at i2
      have q1 := q.one
      have q2 := q.two
      refine quadF_end f _ ?_ h4
      generalize nxI xs ins = i at *
      have c : ∀ b s : Int, (ins.set i s).count b = (ins.count b - if ((0 : Int) == b) = true then 1 else 0) + if (s == b) = true then 1 else 0 := fun b s => by rw [List.count_set i1, i2]
      have m1 : ((0 : Int) == 1) = false := rfl
      have m2 : ((0 : Int) == 2) = false := rfl
      have m3 : ((1 : Int) == 2) = false := rfl
      have m4 : ((2 : Int) == 1) = false := rfl
      have m5 : ((1 : Int) == 0) = false := rfl
      have m6 : ((2 : Int) == 0) = false := rfl
      rcases nxS_two xs ins with e | e <;> rw [e] <;> refine ⟨by rw [List.length_set]; exact q.len, fun v hv => ?_, ?_, ?_, ?_, ?_, ?_⟩ <;> first
        | (rcases List.mem_or_eq_of_mem_set hv with h | h
           · exact q.all v h
           · simp [h])
        | (simp only [c, m1, m2, m3, m4, m5, m6, beq_self_eq_true, if_true, Bool.false_eq_true, if_false]; omega)
theorem quadV_end {xs : List Entry} (h4 : 4 ≤ xs.length) : QEnd xs.length (quadV xs) := by
  obtain ⟨x, y, e1, e2, e3, e4⟩ := sd_ok (xs := xs) (by omega)
  obtain ⟨s1, s2⟩ := start_ok e3 e4
  unfold quadV
  rw [e1, e2, Int.toNat_natCast, Int.toNat_natCast]
  refine quadF_end _ _ ⟨s1.len, fun v hv => ?_, s2, s1.one, s1.two, by have := s1.one; omega, by have := s1.two; omega⟩ h4
  unfold startV at hv
  rcases List.mem_or_eq_of_mem_set hv with h | h
  · rcases List.mem_or_eq_of_mem_set h with h | h
    · simp [List.mem_replicate] at h; exact Or.inl h.2
    · exact Or.inr (Or.inl h)
  · exact Or.inr (Or.inr h)
theorem sel_perm {xs : List Entry} {ins : List Int} (hl : ins.length = xs.length) (ha : ∀ v ∈ ins, v = 1 ∨ v = 2) (e : Entry) : ∀ k, k ≤ xs.length → (selTo xs ins 1 k).count e + (selTo xs ins 2 k).count e = (xs.take k).count e
  | 0, _ => by simp [selTo]
  | k + 1, hk => by
    have ih := sel_perm hl ha e k (by omega)
    rw [take_step (d := default) (show k < xs.length by omega), List.count_append]
    rcases ha _ (getD_mem (d := default) (show k < ins.length by omega)) with h | h
    · rw [selTo_yes h, selTo_no (s := 2) (by rw [h]; decide), List.count_append]; omega
    · rw [selTo_yes h, selTo_no (s := 1) (by rw [h]; decide), List.count_append]; omega
/-- What two parts of a list are. -/
structure PartOk (xs A B : List Entry) : Prop where
  one : 2 ≤ A.length
  two : 2 ≤ B.length
  sum : A.length + B.length = xs.length
  cnt : ∀ i, i < xs.length → (A ++ B).count (xs.getD i default) = 1
theorem esf_once {xs : List Entry} {d : Int} (h : esf xs d = 0) {i : Nat} (hi : i < xs.length) : xs.count (xs.getD i default) = 1 := by
  have hd : noDup xs = true := by
    unfold esf at h
    (repeat' split at h) <;> simp_all
  have hn : xs.Nodup := by
    rw [List.nodup_iff_pairwise_ne, List.pairwise_iff_getElem]
    intro a b ha hb hab he
    have := noDup_iff.1 hd a b hab hb
    rw [getD_lt ha, getD_lt hb, he] at this
    exact this rfl
  rw [hn.count, if_pos (getD_mem hi)]
theorem sq_ok {xs : List Entry} {d : Int} (h : sfC xs d = 0) : PartOk xs (sqA xs d) (sqB xs d) := by
  have h1 := sfC_zero h
  rw [show sqA xs d = selE xs (quadV xs) 1 from if_pos h, show sqB xs d = selE xs (quadV xs) 2 from if_pos h]
  have q := quadV_end h1.2
  have n1 := selE_count (xs := xs) 1 q.len
  have n2 := selE_count (xs := xs) 2 q.len
  have c3 := cnt3 (ins := quadV xs) (fun v hv => Or.inr (q.all v hv))
  have z : (quadV xs).count 0 = 0 := List.count_eq_zero.2 fun hm => by have := q.all 0 hm; omega
  have q1 := q.one
  have q2 := q.two
  have q3 := q.len
  refine ⟨by omega, by omega, by omega, fun i hi => ?_⟩
  rw [List.count_append]
  have := sel_perm q.len q.all (xs.getD i default) xs.length (Nat.le_refl _)
  rw [List.take_length, esf_once h1.1 hi] at this
  exact this
theorem ss_ok {xs : List Entry} {d : Int} (h : sfC xs d = 0) : PartOk xs (ssA xs d) (ssB xs d) := by
  have h1 := sfC_zero h
  rw [show ssA xs d = (starY xs d).take (starC xs d) from if_pos h, show ssB xs d = (starY xs d).drop (starC xs d) from if_pos h]
  have hc : starC xs d = bC (starY xs d) (xs.length - 3) := rfl
  have hb := bC_in (starY xs d) (xs.length - 3) (by omega)
  rw [← hc] at hb
  have hl : (starY xs d).length = xs.length := sortE_len _ xs
  refine ⟨by rw [List.length_take]; omega, by rw [List.length_drop]; omega, by rw [List.length_take, List.length_drop]; omega, fun i hi => ?_⟩
  rw [List.take_append_drop]
  have hp : (starY xs d).Perm xs := sortE_perm _ xs
  rw [hp.count_eq, esf_once h1.1 hi]
theorem entry_ext {a b : Entry} (h1 : a.rect = b.rect) (h2 : a.ref = b.ref) (h3 : a.nsn = b.nsn) : a = b := by
  cases a; cases b; simp_all
theorem s_lwParts (xs A B : List Entry) (h : PartOk xs A B) (hl : xs.length ≤ 100) : Sat Tryz.prog 11 [aEntryS xs, aPtR 0 A B] true (rB true) := by
  refine sat_walk (fn := Tryz.f11) rfl rfl rfl (Nat.le_of_ble_eq_true rfl) fun fr hP hN hbnd => ?_
  have hE : (envOf fr Tryz.prog).Ok := envOf_ok hP
  have hM := follows_of hP
  have hS : ∀ {draw ops}, statB Tryz.f11.ntmps draw ops = true → statB (envOf fr Tryz.prog).fr.N draw ops = true := fun h => by rw [envOf_fr, hN]; exact h
  have h1 := h.one
  have h2 := h.two
  have h3 := h.sum
  have d1 : decide ((A.length : Int) < 2) = false := decide_eq_false (by omega)
  have d2 : decide ((B.length : Int) < 2) = false := decide_eq_false (by omega)
  have w1 : IntKind.i64.wrap ((A.length : Int) + B.length) = xs.length := by rw [i64_in _ (by omega)]; omega
  have bn : ∀ x : Int, (x != x) = false := fun x => by simp
  repeat' (first
    | exact True.intro
    | refine ev_seq ?_
    | ((first | refine ev_stop 4 ?_ | refine vgd_go ?_ | refine ev_region hE hM (hS (by decide +kernel)) ?_ | refine ev_if ?_ | refine end_ret hE rfl rfl ?_ | refine end_norm hE rfl rfl ?_ | refine endG_ret [] hE rfl ?_ | refine endG_norm [] hE rfl ?_ | refine vcall_A ?_); simp (maxSteps := 2000000) only [go_sem, hP, ↓reduceIte, Nat.reduceAdd, Nat.reduceMul, Nat.reduceEqDiff, Nat.reduceSub, Nat.reduceLeDiff, reduceCtorEq, d1, d2, w1, bn, List.length_map])
    | refine ev_skip ?_ | refine ev_block ?_ | refine ev_blk ?_ | refine ev_ret ?_ | refine ev_exit ?_ | refine evx_code_ret ?_ | refine evx_blk_ret ?_ | refine evx_lp_ret ?_
    | refine evx_code_exit ?_ | refine evx_lp_exit ?_ | refine evx_blk_hit ?_ | refine evx_blk_pass (by decide) ?_
    | refine And.intro ?_ ?_ | intro _ | decide +kernel | omega)
  first | refine Stop.mk ?_ | skip
  all_goals first
    | (rename_i h; exact h.symm)
    | (simp [Es.strip]; omega)
    | skip
  refine ev_cut [(0, .c (sEntryS xs)), (5, .ref 12336)] [(12336, .fro 4 ((A ++ B).map eEntry))] [] [] (by simp only [go_sem, hP, ↓reduceIte, Nat.reduceAdd, Nat.reduceMul, Nat.reduceEqDiff, Nat.reduceSub, Nat.reduceLeDiff, reduceCtorEq]; simp [Es.strip]) ?_
  have hn : (A ++ B).length = xs.length := by rw [List.length_append]; omega
  have hc := h.cnt
  generalize A ++ B = zs at *
  repeat' (first
    | exact True.intro
    | refine ev_seq ?_
    | ((first | refine vgd_go ?_ | refine ev_region hE hM (hS (by decide +kernel)) ?_ | refine ev_if ?_ | refine end_ret hE rfl rfl ?_ | refine end_norm hE rfl rfl ?_ | refine endG_ret [] hE rfl ?_ | refine endG_norm [] hE rfl ?_ | refine vcall_A ?_); simp (maxSteps := 2000000) only [go_sem, hP, ↓reduceIte, Nat.reduceAdd, Nat.reduceMul, Nat.reduceEqDiff, Nat.reduceSub, Nat.reduceLeDiff, reduceCtorEq])
    | refine ev_skip ?_ | refine ev_block ?_ | refine ev_blk ?_ | refine ev_ret ?_ | refine ev_exit ?_ | refine evx_code_ret ?_ | refine evx_blk_ret ?_ | refine evx_lp_ret ?_
    | refine evx_code_exit ?_ | refine evx_lp_exit ?_ | refine evx_blk_hit ?_ | refine evx_blk_pass (by decide) ?_
    | refine And.intro ?_ ?_ | intro _ | decide +kernel | omega)
  refine ev_loop (ι := Nat) (fun i => [(0, .c (sEntryS xs)), (5, .ref 12336), (6, iT i)]) (fun _ => [(12336, .fro 4 (zs.map eEntry))]) (fun _ => []) (fun i => i ≤ xs.length) (fun i => xs.length - i) 0 [] (by omega) (by simp only [go_sem, hP, ↓reduceIte, Nat.reduceAdd, Nat.reduceMul, Nat.reduceEqDiff, Nat.reduceSub, Nat.reduceLeDiff, reduceCtorEq]; simp) ?_
  intro i hi
  by_cases hlt : i < xs.length
  · have hw1 : IntKind.i64.wrap ((i : Int) + 1) = i + 1 := i64_in _ (by omega)
    have d3 : decide ((i : Int) < (xs.length : Int)) = true := decide_eq_true (by omega)
    have hci := hc i hlt
    generalize hx : xs.getD i default = x at *
    repeat' (first
      | exact True.intro
      | refine ev_seq ?_
      | ((first | refine vgd_go ?_ | refine ev_region hE hM (hS (by decide +kernel)) ?_ | refine ev_if ?_ | refine end_ret hE rfl rfl ?_ | refine end_norm hE rfl rfl ?_ | refine endG_ret [] hE rfl ?_ | refine endG_norm [] hE rfl ?_ | refine vcall_A ?_); simp (maxSteps := 2000000) only [go_sem, hP, ↓reduceIte, Nat.reduceAdd, Nat.reduceMul, Nat.reduceEqDiff, Nat.reduceSub, Nat.reduceLeDiff, reduceCtorEq, d3, List.length_map])
      | refine ev_skip ?_ | refine ev_block ?_ | refine ev_blk ?_ | refine ev_ret ?_ | refine ev_exit ?_ | refine evx_code_ret ?_ | refine evx_blk_ret ?_ | refine evx_lp_ret ?_
      | refine evx_code_exit ?_ | refine evx_lp_exit ?_ | refine evx_blk_hit ?_ | refine evx_blk_pass (by decide) ?_
      | refine And.intro ?_ ?_ | intro _ | decide +kernel | omega)
    refine ev_loop (ι := Nat) (fun k => [(0, .c (sEntryS xs)), (5, .ref 12336), (6, iT i), (7, iT ((zs.take k).count x)), (8, iT k)]) (fun _ => [(12336, .fro 4 (zs.map eEntry))]) (fun _ => []) (fun k => k ≤ zs.length) (fun k => zs.length - k) 0 [] (by omega) (by simp only [go_sem, hP, ↓reduceIte, Nat.reduceAdd, Nat.reduceMul, Nat.reduceEqDiff, Nat.reduceSub, Nat.reduceLeDiff, reduceCtorEq]; simp) ?_
    intro k hk
    by_cases hkl : k < zs.length
    · have hw2 : IntKind.i64.wrap ((k : Int) + 1) = k + 1 := i64_in _ (by omega)
      have d4 : decide ((k : Int) < (zs.length : Int)) = true := decide_eq_true (by omega)
      have hst : (zs.take (k + 1)).count x = (zs.take k).count x + if zs.getD k default = x then 1 else 0 := by
        rw [take_step (d := default) hkl, List.count_append, List.count_singleton]; simp
      have hcl : (zs.take k).count x ≤ k := Nat.le_trans List.count_le_length (by rw [List.length_take]; omega)
      have hw3 : IntKind.i64.wrap (((zs.take k).count x : Int) + 1) = ((zs.take k).count x : Int) + 1 := i64_in _ (by omega)
      generalize (zs.take k).count x = n at *
      have ks := s_implSameRects (zs.getD k default).rect x.rect
      by_cases e1 : (zs.getD k default).ref = x.ref
      · have f1 : ((zs.getD k default).ref == x.ref) = true := beq_iff_eq.2 e1
        by_cases e2 : (zs.getD k default).nsn = x.nsn
        · have f2 : ((zs.getD k default).nsn == x.nsn) = true := beq_iff_eq.2 e2
          by_cases e3 : (zs.getD k default).rect = x.rect
          · have f3 : decide ((zs.getD k default).rect = x.rect) = true := decide_eq_true e3
            rw [if_pos (entry_ext e3 e1 e2)] at hst
            repeat' (first
              | exact True.intro
              | refine ev_seq ?_
              | ((first | refine vgd_go ?_ | refine ev_region hE hM (hS (by decide +kernel)) ?_ | refine ev_if ?_ | refine end_ret hE rfl rfl ?_ | refine end_norm hE rfl rfl ?_ | refine endG_ret [] hE rfl ?_ | refine endG_norm [] hE rfl ?_ | refine vcallB_of hP ks ?_ | refine vcall_A ?_); simp (maxSteps := 2000000) only [go_sem, hP, ↓reduceIte, Nat.reduceAdd, Nat.reduceMul, Nat.reduceEqDiff, Nat.reduceSub, Nat.reduceLeDiff, reduceCtorEq, d4, hx, f1, f2, f3, List.length_map])
              | refine ev_skip ?_ | refine ev_block ?_ | refine ev_blk ?_ | refine ev_ret ?_ | refine ev_exit ?_ | refine evx_code_ret ?_ | refine evx_blk_ret ?_ | refine evx_lp_ret ?_
              | refine evx_code_exit ?_ | refine evx_lp_exit ?_ | refine evx_blk_hit ?_ | refine evx_blk_pass (by decide) ?_
              | refine And.intro ?_ ?_ | intro _ | decide +kernel | omega)
            all_goals first
              | exact ev_lp (k + 1) [] (by omega) (by omega) (by simp only [go_sem, hP, ↓reduceIte, Nat.reduceAdd, Nat.reduceMul, Nat.reduceEqDiff, Nat.reduceSub, Nat.reduceLeDiff, reduceCtorEq]; rw [hst]; simp [hw2, hw3])
              | (exfalso; omega)
              | omega
              | (simp_all; done)
              | trace_state
          · have f3 : decide ((zs.getD k default).rect = x.rect) = false := decide_eq_false e3
            rw [if_neg (fun h => e3 (by rw [h]))] at hst
            repeat' (first
              | exact True.intro
              | refine ev_seq ?_
              | ((first | refine vgd_go ?_ | refine ev_region hE hM (hS (by decide +kernel)) ?_ | refine ev_if ?_ | refine end_ret hE rfl rfl ?_ | refine end_norm hE rfl rfl ?_ | refine endG_ret [] hE rfl ?_ | refine endG_norm [] hE rfl ?_ | refine vcallB_of hP ks ?_ | refine vcall_A ?_); simp (maxSteps := 2000000) only [go_sem, hP, ↓reduceIte, Nat.reduceAdd, Nat.reduceMul, Nat.reduceEqDiff, Nat.reduceSub, Nat.reduceLeDiff, reduceCtorEq, d4, hx, f1, f2, f3, List.length_map])
              | refine ev_skip ?_ | refine ev_block ?_ | refine ev_blk ?_ | refine ev_ret ?_ | refine ev_exit ?_ | refine evx_code_ret ?_ | refine evx_blk_ret ?_ | refine evx_lp_ret ?_
              | refine evx_code_exit ?_ | refine evx_lp_exit ?_ | refine evx_blk_hit ?_ | refine evx_blk_pass (by decide) ?_
              | refine And.intro ?_ ?_ | intro _ | decide +kernel | omega)
            all_goals first
              | exact ev_lp (k + 1) [] (by omega) (by omega) (by simp only [go_sem, hP, ↓reduceIte, Nat.reduceAdd, Nat.reduceMul, Nat.reduceEqDiff, Nat.reduceSub, Nat.reduceLeDiff, reduceCtorEq]; rw [hst]; simp [hw2, hw3])
              | (exfalso; omega)
              | omega
              | (simp_all; done)
              | trace_state
        · have f2 : ((zs.getD k default).nsn == x.nsn) = false := beq_eq_false_iff_ne.2 e2
          rw [if_neg (fun h => e2 (by rw [h]))] at hst
          repeat' (first
            | exact True.intro
            | refine ev_seq ?_
            | ((first | refine vgd_go ?_ | refine ev_region hE hM (hS (by decide +kernel)) ?_ | refine ev_if ?_ | refine end_ret hE rfl rfl ?_ | refine end_norm hE rfl rfl ?_ | refine endG_ret [] hE rfl ?_ | refine endG_norm [] hE rfl ?_ | refine vcall_A ?_); simp (maxSteps := 2000000) only [go_sem, hP, ↓reduceIte, Nat.reduceAdd, Nat.reduceMul, Nat.reduceEqDiff, Nat.reduceSub, Nat.reduceLeDiff, reduceCtorEq, d4, hx, f1, f2, List.length_map])
            | refine ev_skip ?_ | refine ev_block ?_ | refine ev_blk ?_ | refine ev_ret ?_ | refine ev_exit ?_ | refine evx_code_ret ?_ | refine evx_blk_ret ?_ | refine evx_lp_ret ?_
            | refine evx_code_exit ?_ | refine evx_lp_exit ?_ | refine evx_blk_hit ?_ | refine evx_blk_pass (by decide) ?_
            | refine And.intro ?_ ?_ | intro _ | decide +kernel | omega)
          all_goals first
            | exact ev_lp (k + 1) [] (by omega) (by omega) (by simp only [go_sem, hP, ↓reduceIte, Nat.reduceAdd, Nat.reduceMul, Nat.reduceEqDiff, Nat.reduceSub, Nat.reduceLeDiff, reduceCtorEq]; rw [hst]; simp [hw2, hw3])
            | (exfalso; omega)
            | omega
            | (simp_all; done)
            | trace_state
      · have f1 : ((zs.getD k default).ref == x.ref) = false := beq_eq_false_iff_ne.2 e1
        rw [if_neg (fun h => e1 (by rw [h]))] at hst
        repeat' (first
          | exact True.intro
          | refine ev_seq ?_
          | ((first | refine vgd_go ?_ | refine ev_region hE hM (hS (by decide +kernel)) ?_ | refine ev_if ?_ | refine end_ret hE rfl rfl ?_ | refine end_norm hE rfl rfl ?_ | refine endG_ret [] hE rfl ?_ | refine endG_norm [] hE rfl ?_ | refine vcall_A ?_); simp (maxSteps := 2000000) only [go_sem, hP, ↓reduceIte, Nat.reduceAdd, Nat.reduceMul, Nat.reduceEqDiff, Nat.reduceSub, Nat.reduceLeDiff, reduceCtorEq, d4, hx, f1, List.length_map])
          | refine ev_skip ?_ | refine ev_block ?_ | refine ev_blk ?_ | refine ev_ret ?_ | refine ev_exit ?_ | refine evx_code_ret ?_ | refine evx_blk_ret ?_ | refine evx_lp_ret ?_
          | refine evx_code_exit ?_ | refine evx_lp_exit ?_ | refine evx_blk_hit ?_ | refine evx_blk_pass (by decide) ?_
          | refine And.intro ?_ ?_ | intro _ | decide +kernel | omega)
        all_goals first
          | exact ev_lp (k + 1) [] (by omega) (by omega) (by simp only [go_sem, hP, ↓reduceIte, Nat.reduceAdd, Nat.reduceMul, Nat.reduceEqDiff, Nat.reduceSub, Nat.reduceLeDiff, reduceCtorEq]; rw [hst]; simp [hw2, hw3])
          | (exfalso; omega)
          | omega
          | (simp_all; done)
          | trace_state
    · obtain rfl : k = zs.length := by omega
      have d4 : decide ((zs.length : Int) < (zs.length : Int)) = false := by simp
      rw [List.take_length, hci]
      have d5 : (((1 : Nat) : Int) != 1) = false := rfl
      repeat' (first
        | exact True.intro
        | refine ev_seq ?_
        | ((first | refine vgd_go ?_ | refine ev_region hE hM (hS (by decide +kernel)) ?_ | refine ev_if ?_ | refine end_ret hE rfl rfl ?_ | refine end_norm hE rfl rfl ?_ | refine endG_ret [] hE rfl ?_ | refine endG_norm [] hE rfl ?_ | refine vcall_A ?_); simp (maxSteps := 2000000) only [go_sem, hP, ↓reduceIte, Nat.reduceAdd, Nat.reduceMul, Nat.reduceEqDiff, Nat.reduceSub, Nat.reduceLeDiff, reduceCtorEq, d4, d5, List.length_map])
        | refine ev_skip ?_ | refine ev_block ?_ | refine ev_blk ?_ | refine ev_ret ?_ | refine ev_exit ?_ | refine evx_code_ret ?_ | refine evx_blk_ret ?_ | refine evx_lp_ret ?_
        | refine evx_code_exit ?_ | refine evx_lp_exit ?_ | refine evx_blk_hit ?_ | refine evx_blk_pass (by decide) ?_
        | refine And.intro ?_ ?_ | intro _ | decide +kernel | omega)
      all_goals first
        | exact ev_lp (i + 1) [] (by omega) (by omega) (by simp only [go_sem, hP, ↓reduceIte, Nat.reduceAdd, Nat.reduceMul, Nat.reduceEqDiff, Nat.reduceSub, Nat.reduceLeDiff, reduceCtorEq]; simp [hw1])
        | (exfalso; omega)
        | omega
        | (simp_all; done)
        | trace_state
  · obtain rfl : i = xs.length := by omega
    have d3 : decide ((xs.length : Int) < (xs.length : Int)) = false := by simp
    repeat' (first
      | exact True.intro
      | refine ev_seq ?_
      | ((first | refine vgd_go ?_ | refine ev_region hE hM (hS (by decide +kernel)) ?_ | refine ev_if ?_ | refine end_ret hE rfl rfl ?_ | refine end_norm hE rfl rfl ?_ | refine endG_ret [] hE rfl ?_ | refine endG_norm [] hE rfl ?_ | refine vcall_A ?_); simp (maxSteps := 2000000) only [go_sem, hP, ↓reduceIte, Nat.reduceAdd, Nat.reduceMul, Nat.reduceEqDiff, Nat.reduceSub, Nat.reduceLeDiff, reduceCtorEq, d3, List.length_map])
      | refine ev_skip ?_ | refine ev_block ?_ | refine ev_blk ?_ | refine ev_ret ?_ | refine ev_exit ?_ | refine evx_code_ret ?_ | refine evx_blk_ret ?_ | refine evx_lp_ret ?_
      | refine evx_code_exit ?_ | refine evx_lp_exit ?_ | refine evx_blk_hit ?_ | refine evx_blk_pass (by decide) ?_
      | refine And.intro ?_ ?_ | intro _ | decide +kernel | omega)
    all_goals first | rfl | (exfalso; omega) | (simp_all; done) | trace_state
theorem sameTwo (a b : List Entry) : decide ([(⟨0, 0, 0, a⟩ : Node), ⟨0, 0, 0, b⟩] = [⟨0, 0, 0, a⟩, ⟨0, 0, 0, b⟩]) = true := by simp
theorem l_FnSplits (c : List Int) (hb : ∀ b ∈ c, 0 ≤ b ∧ b < 256) : Sat Tryz.prog 3 [aY c] true (rB true) := by
  refine sat_walk (fn := Tryz.f3) rfl rfl rfl (Nat.le_of_ble_eq_true rfl) fun fr hP hN hbnd => ?_
  have hE : (envOf fr Tryz.prog).Ok := envOf_ok hP
  have hM := follows_of hP
  have hS : ∀ {draw ops}, statB Tryz.f3.ntmps draw ops = true → statB (envOf fr Tryz.prog).fr.N draw ops = true := fun h => by rw [envOf_fr, hN]; exact h
  by_cases hbig : 1048576 < c.length
  · have hz : decide (1048576 < c.length) = true := by simpa using hbig
    have k0 := s_lwBig c
    rw [hz] at k0
    repeat' (first
      | exact True.intro
      | refine ev_seq ?_
      | ((first | refine vgd_go ?_ | refine ev_region hE hM (hS (by decide +kernel)) ?_ | refine ev_if ?_ | refine end_ret hE rfl rfl ?_ | refine end_norm hE rfl rfl ?_ | refine endG_ret [] hE rfl ?_ | refine endG_norm [] hE rfl ?_ | refine vcallB_of hP k0 ?_ | refine vcall_A ?_); simp (maxSteps := 2000000) only [go_sem, hP, ↓reduceIte, Nat.reduceAdd, Nat.reduceMul, Nat.reduceEqDiff, Nat.reduceSub, Nat.reduceLeDiff, reduceCtorEq])
      | refine ev_skip ?_ | refine ev_block ?_ | refine ev_blk ?_ | refine ev_ret ?_ | refine ev_exit ?_ | refine evx_code_ret ?_ | refine evx_blk_ret ?_ | refine evx_lp_ret ?_
      | refine evx_code_exit ?_ | refine evx_lp_exit ?_ | refine evx_blk_hit ?_ | refine evx_blk_pass (by decide) ?_
      | refine And.intro ?_ ?_ | intro _ | decide +kernel | omega)
  have hz : decide (1048576 < c.length) = false := by simpa using hbig
  have k0 := s_lwBig c
  rw [hz] at k0
  have hc : codeOk c := ⟨by omega, hb⟩
  have k1 := s_DrawSplitBy c hc
  generalize (bl c 0).l = xs at k1
  generalize (bl c 0).d = d at k1
  generalize sbS c = st at k1
  have k2 := s_implSplitBy st xs d
  have k3 := s_specSplitBy st xs d
  have k4 := s_implSplitQuad xs d
  have k5 := s_specSplitQuad xs d
  have k6 := s_implSplitStar xs d
  have m0 : (0 != (0 : Int)) = false := rfl
  have m1 : (0 == (0 : Int)) = true := rfl
  have bn : ∀ x : Int, (x != x) = false := fun x => by simp
  have ka : sfC xs d = 0 → Sat Tryz.prog 11 [aEntryS xs, aPtR 0 (sqA xs d) (sqB xs d)] true (rB true) := fun h => s_lwParts xs _ _ (sq_ok h) (by have := esf_len (sfC_zero h).1; omega)
  have kb : sfC xs d = 0 → Sat Tryz.prog 11 [aEntryS xs, aPtR 0 (ssA xs d) (ssB xs d)] true (rB true) := fun h => s_lwParts xs _ _ (ss_ok h) (by have := esf_len (sfC_zero h).1; omega)
  have hsC : sbC st xs d = 0 → (st = 0 ∧ sbA st xs d = sqA xs d ∧ sbB st xs d = sqB xs d) ∨ (st = 1 ∧ sbA st xs d = ssA xs d ∧ sbB st xs d = ssB xs d) := fun h => by
    unfold sbC at h
    split at h
    · rename_i hs
      rcases hs with rfl | rfl
      · exact Or.inl ⟨rfl, rfl, rfl⟩
      · exact Or.inr ⟨rfl, rfl, rfl⟩
    · omega
  have hsf : sbC st xs d = 0 → sfC xs d = 0 := fun h => by
    unfold sbC at h
    split at h
    · exact h
    · omega
  generalize sbC st xs d = sc at *
  generalize sfC xs d = sf at *
  generalize sbA st xs d = a1 at *
  generalize sbB st xs d = a2 at *
  generalize sqA xs d = q1 at *
  generalize sqB xs d = q2 at *
  generalize ssA xs d = r1 at *
  generalize ssB xs d = r2 at *
  repeat' (first
    | exact True.intro
    | refine ev_seq ?_
    | ((first | refine ev_stop 9 ?_ | refine vgd_go ?_ | refine ev_region hE hM (hS (by decide +kernel)) ?_ | refine ev_if ?_ | refine end_ret hE rfl rfl ?_ | refine end_norm hE rfl rfl ?_ | refine endG_ret [] hE rfl ?_ | refine endG_norm [] hE rfl ?_ | refine vcallB_of hP k0 ?_ | refine vcallB_of hP k1 ?_ | refine vcallB_of hP k2 ?_ | refine vcallB_of hP k3 ?_ | refine vcallB_of hP k4 ?_ | refine vcallB_of hP k5 ?_ | refine vcallB_of hP k6 ?_ | refine vcall_A ?_); simp (maxSteps := 2000000) only [go_sem, hP, ↓reduceIte, Nat.reduceAdd, Nat.reduceMul, Nat.reduceEqDiff, Nat.reduceSub, Nat.reduceLeDiff, reduceCtorEq, bn, List.length_map])
    | refine ev_skip ?_ | refine ev_block ?_ | refine ev_blk ?_ | refine ev_ret ?_ | refine ev_exit ?_ | refine evx_code_ret ?_ | refine evx_blk_ret ?_ | refine evx_lp_ret ?_
    | refine evx_code_exit ?_ | refine evx_lp_exit ?_ | refine evx_blk_hit ?_ | refine evx_blk_pass (by decide) ?_
    | refine And.intro ?_ ?_ | intro _ | decide +kernel | omega)
  first | refine Stop.mk ?_ | skip
  refine ev_cut [(3, .c (.int .i64 st)), (4, .c (sEntryS xs)), (5, iT d), (6, .ptr 16416 0), (7, .ptr 20504 0), (8, .ptr 24600 0)] [(16416, .box [iT sc, .ref 1064984, .ref 2113560]), (1064984, .fro 4 (a1.map eEntry)), (2113560, .fro 4 (a2.map eEntry)), (20504, .box [iT sf, .ref 1069072, .ref 2117648]), (1069072, .fro 4 (q1.map eEntry)), (2117648, .fro 4 (q2.map eEntry)), (24600, .box [iT sf, .ref 1073168, .ref 2121744]), (1073168, .fro 4 (r1.map eEntry)), (2121744, .fro 4 (r2.map eEntry))] [] [] (by simp only [go_sem, hP, ↓reduceIte, Nat.reduceAdd, Nat.reduceMul, Nat.reduceEqDiff, Nat.reduceSub, Nat.reduceLeDiff, reduceCtorEq]) ?_
  by_cases hC : sc = 0
  · subst hC
    obtain rfl := hsf rfl
    have kp := ka rfl
    have kq := kb rfl
    have kn := s_implSameNodes [⟨0, 0, 0, a1⟩, ⟨0, 0, 0, a2⟩] [⟨0, 0, 0, a1⟩, ⟨0, 0, 0, a2⟩]
    rw [sameTwo] at kn
    rcases hsC rfl with ⟨rfl, rfl, rfl⟩ | ⟨rfl, rfl, rfl⟩
    · have d1 : ((0 : Int) == 1) = false := rfl
      repeat' (first
        | exact True.intro
        | refine ev_seq ?_
        | ((first | refine vgd_go ?_ | refine ev_region hE hM (hS (by decide +kernel)) ?_ | refine ev_if ?_ | refine end_ret hE rfl rfl ?_ | refine end_norm hE rfl rfl ?_ | refine endG_ret [] hE rfl ?_ | refine endG_norm [] hE rfl ?_ | refine vcallB_of hP kp ?_ | refine vcallB_of hP kq ?_ | refine vcallB_of hP kn ?_ | refine vcall_A ?_); simp (maxSteps := 2000000) only [go_sem, hP, ↓reduceIte, Nat.reduceAdd, Nat.reduceMul, Nat.reduceEqDiff, Nat.reduceSub, Nat.reduceLeDiff, reduceCtorEq, m0, m1, d1, List.length_map, Es.strip, Cs.strip, C.strip])
        | refine ev_skip ?_ | refine ev_block ?_ | refine ev_blk ?_ | refine ev_ret ?_ | refine ev_exit ?_ | refine evx_code_ret ?_ | refine evx_blk_ret ?_ | refine evx_lp_ret ?_
        | refine evx_code_exit ?_ | refine evx_lp_exit ?_ | refine evx_blk_hit ?_ | refine evx_blk_pass (by decide) ?_
        | refine And.intro ?_ ?_ | intro _ | decide +kernel | omega)
      all_goals first | rfl | (exfalso; simp_all; done) | (simp_all; done) | trace_state
    · have d1 : ((1 : Int) == 1) = true := rfl
      repeat' (first
        | exact True.intro
        | refine ev_seq ?_
        | ((first | refine vgd_go ?_ | refine ev_region hE hM (hS (by decide +kernel)) ?_ | refine ev_if ?_ | refine end_ret hE rfl rfl ?_ | refine end_norm hE rfl rfl ?_ | refine endG_ret [] hE rfl ?_ | refine endG_norm [] hE rfl ?_ | refine vcallB_of hP kp ?_ | refine vcallB_of hP kq ?_ | refine vcallB_of hP kn ?_ | refine vcall_A ?_); simp (maxSteps := 2000000) only [go_sem, hP, ↓reduceIte, Nat.reduceAdd, Nat.reduceMul, Nat.reduceEqDiff, Nat.reduceSub, Nat.reduceLeDiff, reduceCtorEq, m0, m1, d1, List.length_map, Es.strip, Cs.strip, C.strip])
        | refine ev_skip ?_ | refine ev_block ?_ | refine ev_blk ?_ | refine ev_ret ?_ | refine ev_exit ?_ | refine evx_code_ret ?_ | refine evx_blk_ret ?_ | refine evx_lp_ret ?_
        | refine evx_code_exit ?_ | refine evx_lp_exit ?_ | refine evx_blk_hit ?_ | refine evx_blk_pass (by decide) ?_
        | refine And.intro ?_ ?_ | intro _ | decide +kernel | omega)
      all_goals first | rfl | (exfalso; simp_all; done) | (simp_all; done) | trace_state
  · have n0 : (sc != 0) = true := by simpa using hC
    by_cases hF : sf = 0
    · subst hF
      have kp := ka rfl
      have kq := kb rfl
      repeat' (first
        | exact True.intro
        | refine ev_seq ?_
        | ((first | refine vgd_go ?_ | refine ev_region hE hM (hS (by decide +kernel)) ?_ | refine ev_if ?_ | refine end_ret hE rfl rfl ?_ | refine end_norm hE rfl rfl ?_ | refine endG_ret [] hE rfl ?_ | refine endG_norm [] hE rfl ?_ | refine vcallB_of hP kp ?_ | refine vcallB_of hP kq ?_ | refine vcall_A ?_); simp (maxSteps := 2000000) only [go_sem, hP, ↓reduceIte, Nat.reduceAdd, Nat.reduceMul, Nat.reduceEqDiff, Nat.reduceSub, Nat.reduceLeDiff, reduceCtorEq, m0, m1, n0, List.length_map])
        | refine ev_skip ?_ | refine ev_block ?_ | refine ev_blk ?_ | refine ev_ret ?_ | refine ev_exit ?_ | refine evx_code_ret ?_ | refine evx_blk_ret ?_ | refine evx_lp_ret ?_
        | refine evx_code_exit ?_ | refine evx_lp_exit ?_ | refine evx_blk_hit ?_ | refine evx_blk_pass (by decide) ?_
        | refine And.intro ?_ ?_ | intro _ | decide +kernel | omega)
      all_goals first | rfl | (exfalso; simp_all; done) | (simp_all; done) | trace_state
    · have n1 : (sf == 0) = false := by simpa using hF
      repeat' (first
        | exact True.intro
        | refine ev_seq ?_
        | ((first | refine vgd_go ?_ | refine ev_region hE hM (hS (by decide +kernel)) ?_ | refine ev_if ?_ | refine end_ret hE rfl rfl ?_ | refine end_norm hE rfl rfl ?_ | refine endG_ret [] hE rfl ?_ | refine endG_norm [] hE rfl ?_ | refine vcall_A ?_); simp (maxSteps := 2000000) only [go_sem, hP, ↓reduceIte, Nat.reduceAdd, Nat.reduceMul, Nat.reduceEqDiff, Nat.reduceSub, Nat.reduceLeDiff, reduceCtorEq, m0, m1, n0, n1, List.length_map])
        | refine ev_skip ?_ | refine ev_block ?_ | refine ev_blk ?_ | refine ev_ret ?_ | refine ev_exit ?_ | refine evx_code_ret ?_ | refine evx_blk_ret ?_ | refine evx_lp_ret ?_
        | refine evx_code_exit ?_ | refine evx_lp_exit ?_ | refine evx_blk_hit ?_ | refine evx_blk_pass (by decide) ?_
        | refine And.intro ?_ ?_ | intro _ | decide +kernel | omega)
      all_goals first | rfl | (exfalso; simp_all; done) | (simp_all; done) | trace_state
end Go.Proofs.YtegohioalgikjaaGreat.W
