/- Contracts of functions that FnAnswers reaches: what each returns; it writes to nothing of old. No condition but those that each theorem states. -/
import Derived.Test.YtegohioalgikjaaQa3
open Go Go.Vm Go.Proofs Go.IntWalk Go.RowKit
set_option maxRecDepth 100000
set_option maxHeartbeats 4000000
set_option linter.unusedSimpArgs false
set_option linter.unusedVariables false
set_option linter.unusedSectionVars false
namespace Go.Proofs.Ytegohioalgikjaa.W
attribute [local irreducible] kJ ev evx vops vstep vgo vgd vget vcall vcallFn vcallA vcallB vts vres vcond vbin
theorem l_FnAnswers (c : List Int) (hb : ∀ b ∈ c, 0 ≤ b ∧ b < 256) : Sat Try.prog 4 [aY c] true (rB true) := by
  refine sat_walk (fn := Try.f4) rfl rfl rfl (Nat.le_of_ble_eq_true rfl) fun fr hP hN hbnd => ?_
  have hE : (envOf fr Try.prog).Ok := envOf_ok hP
  have hM := follows_of hP
  have hS : ∀ {draw ops}, statB Try.f4.ntmps draw ops = true → statB (envOf fr Try.prog).fr.N draw ops = true := fun h => by rw [envOf_fr, hN]; exact h
  by_cases hbig : 1048576 < c.length
  · have hz : decide (1048576 < c.length) = true := by simpa using hbig
    have k0 := s_lwBig c
    rw [hz] at k0
    repeat' (first
      | exact True.intro
      | refine ev_seq ?_
      | ((first | refine vgd_go ?_ | refine ev_region hE hM (hS (by decide +kernel)) ?_ | refine ev_if ?_ | refine end_ret hE rfl rfl ?_ | refine end_norm hE rfl rfl ?_ | refine endG_ret [] hE rfl ?_ | refine endG_norm [] hE rfl ?_ | refine vcallB_of hP k0 ?_ | refine vcall_A ?_); simp (maxSteps := 2000000) only [go_sem, hP, ↓reduceIte, Nat.reduceAdd, Nat.reduceMul, Nat.reduceEqDiff, Nat.reduceSub, Nat.reduceLeDiff, reduceCtorEq])
      | refine ev_skip ?_ | refine ev_block ?_ | refine ev_blk ?_ | refine ev_ret ?_ | refine ev_exit ?_ | refine evx_code_ret ?_ | refine evx_blk_ret ?_ | refine evx_lp_ret ?_
      | refine evx_code_exit ?_ | refine evx_lp_exit ?_ | refine evx_blk_hit ?_ | refine evx_blk_pass (by decide) ?_
      | refine And.intro ?_ ?_ | intro _ | decide +kernel | omega)
  have hz : decide (1048576 < c.length) = false := by simpa using hbig
  have k0 := s_lwBig c
  rw [hz] at k0
  have hc : codeOk c := ⟨by omega, hb⟩
  have k1 := s_DrawAnswerOf c hc
  have hqw := daQ_w c
  have hxl := bq_len c 0
  generalize daQ c = q at *
  generalize (bq c 0).l = xs at *
  generalize (bq c 0).d = d at *
  have k2 := s_implAnswerOf xs d q
  have k3 := s_specAnswerOf xs d q hqw
  have k4 := s_implQueryFault q d
  have k5 := s_specQueryFault q d hqw
  have m0 : (0 != (0 : Int)) = false := rfl
  have m1 : (0 == (0 : Int)) = true := rfl
  have bn : ∀ x : Int, (x != x) = false := fun x => by simp
  have bnb : ∀ x : Bool, (x != x) = false := fun x => by simp
  by_cases hC : anC xs d q = 0
  · rw [hC] at k2 k3
    have hin := all_in hC
    have hfar := far_in hC
    have hnear := near_ok hC
    have hvl : (anV xs d q).length ≤ 1000 := by
      have hv : anV xs d q = ansV q xs := if_pos hC
      have := ansF_len q xs
      rw [hv]; unfold ansV; split
      · rw [List.length_take, sortP_len]; omega
      · omega
    generalize anV xs d q = v at *
    repeat' (first
      | exact True.intro
      | refine ev_seq ?_
      | ((first | refine vgd_go ?_ | refine ev_region hE hM (hS (by decide +kernel)) ?_ | refine ev_if ?_ | refine end_ret hE rfl rfl ?_ | refine end_norm hE rfl rfl ?_ | refine endG_ret [] hE rfl ?_ | refine endG_norm [] hE rfl ?_ | refine vcallB_of hP k0 ?_ | refine vcallB_of hP k1 ?_ | refine vcallB_of hP k2 ?_ | refine vcallB_of hP k3 ?_ | refine vcallB_of hP k4 ?_ | refine vcallB_of hP k5 ?_ | refine vcall_A ?_); simp (maxSteps := 2000000) only [go_sem, hP, ↓reduceIte, Nat.reduceAdd, Nat.reduceMul, Nat.reduceEqDiff, Nat.reduceSub, Nat.reduceLeDiff, reduceCtorEq, m0, bn, List.length_map])
      | refine ev_skip ?_ | refine ev_block ?_ | refine ev_blk ?_ | refine ev_ret ?_ | refine ev_exit ?_ | refine evx_code_ret ?_ | refine evx_blk_ret ?_ | refine evx_lp_ret ?_
      | refine evx_code_exit ?_ | refine evx_lp_exit ?_ | refine evx_blk_hit ?_ | refine evx_blk_pass (by decide) ?_
      | refine And.intro ?_ ?_ | intro _ | decide +kernel | omega)
    refine ev_loop (ι := Nat) (fun k => [(3, .c (sP xs)), (4, iT d), (5, .ptr 12336 0), (6, .ptr 16416 0), (7, iT k)]) (fun _ => [(12336, .box ((eQuery q).map .c)), (16416, .box [iT 0, .c (sP v)])]) (fun _ => []) (fun k => k ≤ v.length) (fun k => v.length - k) 0 [] (by omega) (by simp only [go_sem, hP, ↓reduceIte, Nat.reduceAdd, Nat.reduceMul, Nat.reduceEqDiff, Nat.reduceSub, Nat.reduceLeDiff, reduceCtorEq]; simp [eQuery]) ?_
    intro k hk
    by_cases hlt : k < v.length
    · have hw1 : IntKind.i64.wrap ((k : Int) + 1) = k + 1 := i64_in _ (by omega)
      have d3 : decide ((k : Int) < (v.length : Int)) = true := decide_eq_true (by omega)
      obtain ⟨g1, g2⟩ := hin _ (getD_mem (d := default) hlt)
      have ka := s_lwHas xs (v.getD k default) (by omega)
      rw [hasP_iff.2 g1] at ka
      have kb := s_implMatches q d (v.getD k default).rect
      rw [g2] at kb
      repeat' (first
        | exact True.intro
        | refine ev_seq ?_
        | ((first | refine vgd_go ?_ | refine ev_region hE hM (hS (by decide +kernel)) ?_ | refine ev_if ?_ | refine end_ret hE rfl rfl ?_ | refine end_norm hE rfl rfl ?_ | refine endG_ret [] hE rfl ?_ | refine endG_norm [] hE rfl ?_ | refine vcallB_of hP ka ?_ | refine vcallB_of hP kb ?_ | refine vcall_A ?_); simp (maxSteps := 2000000) only [go_sem, hP, ↓reduceIte, Nat.reduceAdd, Nat.reduceMul, Nat.reduceEqDiff, Nat.reduceSub, Nat.reduceLeDiff, reduceCtorEq, d3, List.length_map])
        | refine ev_skip ?_ | refine ev_block ?_ | refine ev_blk ?_ | refine ev_ret ?_ | refine ev_exit ?_ | refine evx_code_ret ?_ | refine evx_blk_ret ?_ | refine evx_lp_ret ?_
        | refine evx_code_exit ?_ | refine evx_lp_exit ?_ | refine evx_blk_hit ?_ | refine evx_blk_pass (by decide) ?_
        | refine And.intro ?_ ?_ | intro _ | decide +kernel | omega)
      all_goals first
        | exact ev_lp (k + 1) [] (by omega) (by omega) (by simp only [go_sem, hP, ↓reduceIte, Nat.reduceAdd, Nat.reduceMul, Nat.reduceEqDiff, Nat.reduceSub, Nat.reduceLeDiff, reduceCtorEq]; simp [hw1, eQuery])
        | (exfalso; omega)
        | omega
        | (simp_all; done)
        | trace_state
    · obtain rfl : k = v.length := by omega
      have d3 : decide ((v.length : Int) < (v.length : Int)) = false := by simp
      by_cases hk4 : q.kind = 4
      · have d4 : (q.kind != 4) = false := by simp [hk4]
        obtain ⟨n1, n2, n3, n4, n5, n6⟩ := hnear hk4
        repeat' (first
          | exact True.intro
          | refine ev_seq ?_
          | ((first | refine vgd_go ?_ | refine ev_region hE hM (hS (by decide +kernel)) ?_ | refine ev_if ?_ | refine end_ret hE rfl rfl ?_ | refine end_norm hE rfl rfl ?_ | refine endG_ret [] hE rfl ?_ | refine endG_norm [] hE rfl ?_ | refine vcall_A ?_); simp (maxSteps := 2000000) only [go_sem, hP, ↓reduceIte, Nat.reduceAdd, Nat.reduceMul, Nat.reduceEqDiff, Nat.reduceSub, Nat.reduceLeDiff, reduceCtorEq, d3, d4, List.length_map])
          | refine ev_skip ?_ | refine ev_block ?_ | refine ev_blk ?_ | refine ev_ret ?_ | refine ev_exit ?_ | refine evx_code_ret ?_ | refine evx_blk_ret ?_ | refine evx_lp_ret ?_
          | refine evx_code_exit ?_ | refine evx_lp_exit ?_ | refine evx_blk_hit ?_ | refine evx_blk_pass (by decide) ?_
          | refine And.intro ?_ ?_ | intro _ | decide +kernel | omega)
        refine ev_loop (ι := Nat) (fun i => [(3, .c (sP xs)), (4, iT d), (5, .ptr 12336 0), (6, .ptr 16416 0), (9, iT (i + 1 : Nat))]) (fun _ => [(12336, .box ((eQuery q).map .c)), (16416, .box [iT 0, .c (sP v)])]) (fun _ => []) (fun i => i ≤ v.length) (fun i => v.length - i) 0 [] (by omega) (by simp only [go_sem, hP, ↓reduceIte, Nat.reduceAdd, Nat.reduceMul, Nat.reduceEqDiff, Nat.reduceSub, Nat.reduceLeDiff, reduceCtorEq]; simp [eQuery]) ?_
        intro i hi
        by_cases hil : i + 1 < v.length
        · have hw1 : IntKind.i64.wrap (((i + 1 : Nat) : Int) + 1) = (i + 1 + 1 : Nat) := by rw [i64_in _ (by omega)]; omega
          have hw2 : IntKind.i64.wrap (((i + 1 : Nat) : Int) - 1) = (i : Nat) := by rw [i64_in _ (by omega)]; omega
          have d5 : decide (((i + 1 : Nat) : Int) < (v.length : Int)) = true := decide_eq_true (by omega)
          have ka := s_implDistOf (v.getD i default).rect q.point
          have kb := s_implDistOf (v.getD (i + 1) default).rect q.point
          rw [n3 _ (getD_mem (show i < v.length by omega))] at ka
          rw [n3 _ (getD_mem hil)] at kb
          simp only [val, ↓reduceIte] at ka kb
          have d6 : decide (dist (v.getD (i + 1) default).rect q.point < dist (v.getD i default).rect q.point) = false := decide_eq_false (by have := n4 i hil; omega)
          repeat' (first
            | exact True.intro
            | refine ev_seq ?_
            | ((first | refine vgd_go ?_ | refine ev_region hE hM (hS (by decide +kernel)) ?_ | refine ev_if ?_ | refine end_ret hE rfl rfl ?_ | refine end_norm hE rfl rfl ?_ | refine endG_ret [] hE rfl ?_ | refine endG_norm [] hE rfl ?_ | refine vcallB_of hP ka ?_ | refine vcallB_of hP kb ?_ | refine vcall_A ?_); simp (maxSteps := 2000000) only [go_sem, hP, ↓reduceIte, Nat.reduceAdd, Nat.reduceMul, Nat.reduceEqDiff, Nat.reduceSub, Nat.reduceLeDiff, reduceCtorEq, hw2, d5, d6, List.length_map])
            | refine ev_skip ?_ | refine ev_block ?_ | refine ev_blk ?_ | refine ev_ret ?_ | refine ev_exit ?_ | refine evx_code_ret ?_ | refine evx_blk_ret ?_ | refine evx_lp_ret ?_
            | refine evx_code_exit ?_ | refine evx_lp_exit ?_ | refine evx_blk_hit ?_ | refine evx_blk_pass (by decide) ?_
            | refine And.intro ?_ ?_ | intro _ | decide +kernel | omega)
          all_goals first
            | exact ev_lp (i + 1) [] (by omega) (by omega) (by simp only [go_sem, hP, ↓reduceIte, Nat.reduceAdd, Nat.reduceMul, Nat.reduceEqDiff, Nat.reduceSub, Nat.reduceLeDiff, reduceCtorEq]; simp [eQuery]; simpa using hw1)
            | (exfalso; omega)
            | omega
            | (simp_all; done)
            | trace_state
        · have d5 : decide (((i + 1 : Nat) : Int) < (v.length : Int)) = false := decide_eq_false (by omega)
          have kc := s_implAnswerOf xs d { q with k := 1 }
          rw [n5, n6] at kc
          have ks := s_implSamePairs (v.take 1) (v.take 1)
          rw [show decide (v.take 1 = v.take 1) = true by simp] at ks
          have d7 : decide ((v.length : Int) ≤ q.k) = true := decide_eq_true (by omega)
          have t0 : List.take (Int.toNat 1 - Int.toNat 0) (List.drop (Int.toNat 0) (v.map eP)) = (v.take 1).map eP := by rw [show Int.toNat 0 = 0 from rfl, show Int.toNat 1 = 1 from rfl, Nat.sub_zero, List.drop_zero, List.map_take]
          by_cases hx0 : xs.length = 0
          · have e8 : ((xs.length : Int) == 0) = true := by rw [hx0]; rfl
            have e9 : ((v.length : Int) == (xs.length : Int)) = true := beq_iff_eq.2 (by omega)
            have e10 : ((v.length : Int) == q.k) = false := beq_eq_false_iff_ne.2 (by omega)
            repeat' (first
              | exact True.intro
              | refine ev_seq ?_
              | ((first | refine vgd_go ?_ | refine ev_region hE hM (hS (by decide +kernel)) ?_ | refine ev_if ?_ | refine end_ret hE rfl rfl ?_ | refine end_norm hE rfl rfl ?_ | refine endG_ret [] hE rfl ?_ | refine endG_norm [] hE rfl ?_ | refine vcallB_of hP kc ?_ | refine vcallB_of hP ks ?_ | refine vcall_A ?_); simp (maxSteps := 2000000) only [go_sem, hP, ↓reduceIte, Nat.reduceAdd, Nat.reduceMul, Nat.reduceEqDiff, Nat.reduceSub, Nat.reduceLeDiff, reduceCtorEq, d5, d7, e8, e9, e10, List.length_map])
              | refine ev_skip ?_ | refine ev_block ?_ | refine ev_blk ?_ | refine ev_ret ?_ | refine ev_exit ?_ | refine evx_code_ret ?_ | refine evx_blk_ret ?_ | refine evx_lp_ret ?_
              | refine evx_code_exit ?_ | refine evx_lp_exit ?_ | refine evx_blk_hit ?_ | refine evx_blk_pass (by decide) ?_
              | refine And.intro ?_ ?_ | intro _ | decide +kernel | omega)
            all_goals first | rfl | (exfalso; omega) | omega | trace_state
          · have e8 : ((xs.length : Int) == 0) = false := beq_eq_false_iff_ne.2 (by omega)
            have hv1 : 1 ≤ v.length := by omega
            have hl1 : (v.take 1).length = 1 := by rw [List.length_take]; omega
            have e11 : decide ((0 : Int) < (v.length : Int)) = true := decide_eq_true (by omega)
            have e12 : (((1 : Nat) : Int) == 1) = true := rfl
            by_cases hkv : (v.length : Int) = q.k
            · have e10 : ((v.length : Int) == q.k) = true := beq_iff_eq.2 hkv
              repeat' (first
                | exact True.intro
                | refine ev_seq ?_
                | ((first | refine vgd_go ?_ | refine ev_region hE hM (hS (by decide +kernel)) ?_ | refine ev_if ?_ | refine end_ret hE rfl rfl ?_ | refine end_norm hE rfl rfl ?_ | refine endG_ret [] hE rfl ?_ | refine endG_norm [] hE rfl ?_ | refine vcallB_of hP kc ?_ | refine vcallB_of hP ks ?_ | refine vcall_A ?_); simp (maxSteps := 2000000) only [go_sem, hP, ↓reduceIte, Nat.reduceAdd, Nat.reduceMul, Nat.reduceEqDiff, Nat.reduceSub, Nat.reduceLeDiff, reduceCtorEq, d5, d7, e8, e10, e11, e12, hl1, t0, List.length_map])
                | refine ev_skip ?_ | refine ev_block ?_ | refine ev_blk ?_ | refine ev_ret ?_ | refine ev_exit ?_ | refine evx_code_ret ?_ | refine evx_blk_ret ?_ | refine evx_lp_ret ?_
                | refine evx_code_exit ?_ | refine evx_lp_exit ?_ | refine evx_blk_hit ?_ | refine evx_blk_pass (by decide) ?_
                | refine And.intro ?_ ?_ | intro _ | decide +kernel | omega)
              all_goals first | rfl | (exfalso; omega) | omega | trace_state
            · have e10 : ((v.length : Int) == q.k) = false := beq_eq_false_iff_ne.2 hkv
              have e9 : ((v.length : Int) == (xs.length : Int)) = true := beq_iff_eq.2 (by omega)
              repeat' (first
                | exact True.intro
                | refine ev_seq ?_
                | ((first | refine vgd_go ?_ | refine ev_region hE hM (hS (by decide +kernel)) ?_ | refine ev_if ?_ | refine end_ret hE rfl rfl ?_ | refine end_norm hE rfl rfl ?_ | refine endG_ret [] hE rfl ?_ | refine endG_norm [] hE rfl ?_ | refine vcallB_of hP kc ?_ | refine vcallB_of hP ks ?_ | refine vcall_A ?_); simp (maxSteps := 2000000) only [go_sem, hP, ↓reduceIte, Nat.reduceAdd, Nat.reduceMul, Nat.reduceEqDiff, Nat.reduceSub, Nat.reduceLeDiff, reduceCtorEq, d5, d7, e8, e9, e10, e11, e12, hl1, t0, List.length_map])
                | refine ev_skip ?_ | refine ev_block ?_ | refine ev_blk ?_ | refine ev_ret ?_ | refine ev_exit ?_ | refine evx_code_ret ?_ | refine evx_blk_ret ?_ | refine evx_lp_ret ?_
                | refine evx_code_exit ?_ | refine evx_lp_exit ?_ | refine evx_blk_hit ?_ | refine evx_blk_pass (by decide) ?_
                | refine And.intro ?_ ?_ | intro _ | decide +kernel | omega)
              all_goals first | rfl | (exfalso; omega) | omega | trace_state
      · have d4 : (q.kind != 4) = true := by simp [hk4]
        have hfa := hfar hk4
        repeat' (first
          | exact True.intro
          | refine ev_seq ?_
          | ((first | refine vgd_go ?_ | refine ev_region hE hM (hS (by decide +kernel)) ?_ | refine ev_if ?_ | refine end_ret hE rfl rfl ?_ | refine end_norm hE rfl rfl ?_ | refine endG_ret [] hE rfl ?_ | refine endG_norm [] hE rfl ?_ | refine vcall_A ?_); simp (maxSteps := 2000000) only [go_sem, hP, ↓reduceIte, Nat.reduceAdd, Nat.reduceMul, Nat.reduceEqDiff, Nat.reduceSub, Nat.reduceLeDiff, reduceCtorEq, d3, d4, List.length_map])
          | refine ev_skip ?_ | refine ev_block ?_ | refine ev_blk ?_ | refine ev_ret ?_ | refine ev_exit ?_ | refine evx_code_ret ?_ | refine evx_blk_ret ?_ | refine evx_lp_ret ?_
          | refine evx_code_exit ?_ | refine evx_lp_exit ?_ | refine evx_blk_hit ?_ | refine evx_blk_pass (by decide) ?_
          | refine And.intro ?_ ?_ | intro _ | decide +kernel | omega)
        refine ev_loop (ι := Nat) (fun i => [(3, .c (sP xs)), (4, iT d), (5, .ptr 12336 0), (6, .ptr 16416 0), (8, iT i)]) (fun _ => [(12336, .box ((eQuery q).map .c)), (16416, .box [iT 0, .c (sP v)])]) (fun _ => []) (fun i => i ≤ xs.length) (fun i => xs.length - i) 0 [] (by omega) (by simp only [go_sem, hP, ↓reduceIte, Nat.reduceAdd, Nat.reduceMul, Nat.reduceEqDiff, Nat.reduceSub, Nat.reduceLeDiff, reduceCtorEq]; simp [eQuery]) ?_
        intro i hi
        by_cases hil : i < xs.length
        · have hw1 : IntKind.i64.wrap ((i : Int) + 1) = i + 1 := i64_in _ (by omega)
          have d5 : decide ((i : Int) < (xs.length : Int)) = true := decide_eq_true (by omega)
          have ka := s_lwHas v (xs.getD i default) (by omega)
          have kb := s_implMatches q d (xs.getD i default).rect
          rw [hfa _ (getD_mem hil)] at ka
          generalize matchesAll q d (xs.getD i default).rect = mb at *
          have d6 := bnb mb
          repeat' (first
            | exact True.intro
            | refine ev_seq ?_
            | ((first | refine vgd_go ?_ | refine ev_region hE hM (hS (by decide +kernel)) ?_ | refine ev_if ?_ | refine end_ret hE rfl rfl ?_ | refine end_norm hE rfl rfl ?_ | refine endG_ret [] hE rfl ?_ | refine endG_norm [] hE rfl ?_ | refine vcallB_of hP ka ?_ | refine vcallB_of hP kb ?_ | refine vcall_A ?_); simp (maxSteps := 2000000) only [go_sem, hP, ↓reduceIte, Nat.reduceAdd, Nat.reduceMul, Nat.reduceEqDiff, Nat.reduceSub, Nat.reduceLeDiff, reduceCtorEq, d5, d6, List.length_map])
            | refine ev_skip ?_ | refine ev_block ?_ | refine ev_blk ?_ | refine ev_ret ?_ | refine ev_exit ?_ | refine evx_code_ret ?_ | refine evx_blk_ret ?_ | refine evx_lp_ret ?_
            | refine evx_code_exit ?_ | refine evx_lp_exit ?_ | refine evx_blk_hit ?_ | refine evx_blk_pass (by decide) ?_
            | refine And.intro ?_ ?_ | intro _ | decide +kernel | omega)
          all_goals first
            | exact ev_lp (i + 1) [] (by omega) (by omega) (by simp only [go_sem, hP, ↓reduceIte, Nat.reduceAdd, Nat.reduceMul, Nat.reduceEqDiff, Nat.reduceSub, Nat.reduceLeDiff, reduceCtorEq]; simp [hw1, eQuery])
            | (exfalso; omega)
            | omega
            | (simp_all; done)
            | trace_state
        · obtain rfl : i = xs.length := by omega
          have d5 : decide ((xs.length : Int) < (xs.length : Int)) = false := by simp
          have be : ((v.length : Int) == (v.length : Int)) = true := by simp
          repeat' (first
            | exact True.intro
            | refine ev_seq ?_
            | ((first | refine vgd_go ?_ | refine ev_region hE hM (hS (by decide +kernel)) ?_ | refine ev_if ?_ | refine end_ret hE rfl rfl ?_ | refine end_norm hE rfl rfl ?_ | refine endG_ret [] hE rfl ?_ | refine endG_norm [] hE rfl ?_ | refine vcallB_of hP k3 ?_ | refine vcall_A ?_); simp (maxSteps := 2000000) only [go_sem, hP, ↓reduceIte, Nat.reduceAdd, Nat.reduceMul, Nat.reduceEqDiff, Nat.reduceSub, Nat.reduceLeDiff, reduceCtorEq, d5, be, List.length_map])
            | refine ev_skip ?_ | refine ev_block ?_ | refine ev_blk ?_ | refine ev_ret ?_ | refine ev_exit ?_ | refine evx_code_ret ?_ | refine evx_blk_ret ?_ | refine evx_lp_ret ?_
            | refine evx_code_exit ?_ | refine evx_lp_exit ?_ | refine evx_blk_hit ?_ | refine evx_blk_pass (by decide) ?_
            | refine And.intro ?_ ?_ | intro _ | decide +kernel | omega)
          all_goals first | rfl | (exfalso; omega) | (simp_all; done) | trace_state
  · have n0 : (anC xs d q != 0) = true := by simpa using hC
    generalize anC xs d q = ac at *
    generalize anV xs d q = v at *
    repeat' (first
      | exact True.intro
      | refine ev_seq ?_
      | ((first | refine vgd_go ?_ | refine ev_region hE hM (hS (by decide +kernel)) ?_ | refine ev_if ?_ | refine end_ret hE rfl rfl ?_ | refine end_norm hE rfl rfl ?_ | refine endG_ret [] hE rfl ?_ | refine endG_norm [] hE rfl ?_ | refine vcallB_of hP k0 ?_ | refine vcallB_of hP k1 ?_ | refine vcallB_of hP k2 ?_ | refine vcallB_of hP k3 ?_ | refine vcallB_of hP k4 ?_ | refine vcallB_of hP k5 ?_ | refine vcall_A ?_); simp (maxSteps := 2000000) only [go_sem, hP, ↓reduceIte, Nat.reduceAdd, Nat.reduceMul, Nat.reduceEqDiff, Nat.reduceSub, Nat.reduceLeDiff, reduceCtorEq, m0, bn, n0, List.length_map])
      | refine ev_skip ?_ | refine ev_block ?_ | refine ev_blk ?_ | refine ev_ret ?_ | refine ev_exit ?_ | refine evx_code_ret ?_ | refine evx_blk_ret ?_ | refine evx_lp_ret ?_
      | refine evx_code_exit ?_ | refine evx_lp_exit ?_ | refine evx_blk_hit ?_ | refine evx_blk_pass (by decide) ?_
      | refine And.intro ?_ ?_ | intro _ | decide +kernel | omega)
    all_goals first | rfl | (exfalso; simp_all; done) | (simp_all; done) | trace_state
end Go.Proofs.Ytegohioalgikjaa.W
