/- Contracts of functions that FnExactTakePair reaches: what each returns; it writes to nothing of old. No condition but those that each theorem states. -/
import Derived.Test.YtcephdpooijciaaPb
open Go Go.Vm Go.Proofs Go.IntWalk Go.RowKit
set_option maxRecDepth 100000
set_option maxHeartbeats 4000000
set_option linter.unusedSimpArgs false
set_option linter.unusedVariables false
set_option linter.unusedSectionVars false
namespace Go.Proofs.Ytcephdpooijciaa.W
attribute [local irreducible] kJ ev evx vops vstep vgo vgd vget vcall vcallFn vcallA vcallB vts vres vcond vbin
theorem s_l1Same (xs ys : List Int) : Sat Try.prog 162 [aL xs, aL ys] true (rB (decide (xs = ys))) := by
  refine sat_walk (fn := Try.f162) rfl rfl rfl (Nat.le_of_ble_eq_true rfl) fun fr hP hN hbnd => ?_
  have hE : (envOf fr Try.prog).Ok := envOf_ok hP
  have hM := follows_of hP
  have hS : ∀ {draw ops}, statB Try.f162.ntmps draw ops = true → statB (envOf fr Try.prog).fr.N draw ops = true := fun h => by rw [envOf_fr, hN]; exact h
  have hlen := bndL hbnd
  repeat' (first
    | exact True.intro
    | refine ev_seq ?_
    | ((first | refine vgd_go ?_ | refine ev_region hE hM (hS (by decide +kernel)) ?_ | refine ev_if ?_ | refine end_ret hE rfl rfl ?_ | refine end_norm hE rfl rfl ?_ | refine endG_ret [] hE rfl ?_ | refine endG_norm [] hE rfl ?_ | refine vcall_A ?_); simp (maxSteps := 2000000) only [go_sem, hP, ↓reduceIte, Nat.reduceAdd, Nat.reduceMul, Nat.reduceEqDiff, Nat.reduceSub, Nat.reduceLeDiff, reduceCtorEq])
    | refine ev_skip ?_ | refine ev_block ?_ | refine ev_blk ?_ | refine ev_ret ?_ | refine ev_exit ?_ | refine evx_code_ret ?_ | refine evx_blk_ret ?_ | refine evx_lp_ret ?_
    | refine evx_code_exit ?_ | refine evx_lp_exit ?_ | refine evx_blk_hit ?_ | refine evx_blk_pass (by decide) ?_
    | refine And.intro ?_ ?_ | intro _ | decide +kernel | omega)
  · rename_i h; simp at h; simp; rintro rfl; exact h rfl
  rename_i h; simp at h
  refine ev_loop (ι := Nat) (fun k => [(0, .c (sI xs)), (1, .c (sI ys)), (5, .c (.int .i64 k))]) (fun k => []) (fun _ => []) (fun k => k ≤ xs.length ∧ xs.take k = ys.take k) (fun k => xs.length - k) 0 [] (by simp) (by simp only [go_sem, hP, ↓reduceIte, Nat.reduceAdd, Nat.reduceMul, Nat.reduceEqDiff, Nat.reduceSub, Nat.reduceLeDiff, reduceCtorEq]; simp) ?_
  intro k hk
  repeat' (first
    | exact True.intro
    | refine ev_seq ?_
    | ((first | refine vgd_go ?_ | refine ev_region hE hM (hS (by decide +kernel)) ?_ | refine ev_if ?_ | refine end_ret hE rfl rfl ?_ | refine end_norm hE rfl rfl ?_ | refine endG_ret [] hE rfl ?_ | refine endG_norm [] hE rfl ?_ | refine vcall_A ?_); simp (maxSteps := 2000000) only [go_sem, hP, ↓reduceIte, Nat.reduceAdd, Nat.reduceMul, Nat.reduceEqDiff, Nat.reduceSub, Nat.reduceLeDiff, reduceCtorEq])
    | refine ev_skip ?_ | refine ev_block ?_ | refine ev_blk ?_ | refine ev_ret ?_ | refine ev_exit ?_ | refine evx_code_ret ?_ | refine evx_blk_ret ?_ | refine evx_lp_ret ?_
    | refine evx_code_exit ?_ | refine evx_lp_exit ?_ | refine evx_blk_hit ?_ | refine evx_blk_pass (by decide) ?_
    | refine And.intro ?_ ?_ | intro _ | decide +kernel | omega)
  · rename_i h3; simp at h3; simp; exact eq_not h3
  · rename_i h3 h4; simp at h4
    exact ev_lp (k + 1) [] ⟨by omega, eq_step (d := default) (e := default) (by omega) (by omega) hk.2 (by simpa using h4)⟩ (by omega) (by simp only [go_sem, hP, ↓reduceIte, Nat.reduceAdd, Nat.reduceMul, Nat.reduceEqDiff, Nat.reduceSub, Nat.reduceLeDiff, reduceCtorEq]; simp; exact wrap_nat (by omega) hlen)
  · simp; exact eq_done (by omega) (by omega) hk.2
theorem s_EqualI (xs ys : List Int) : Sat Try.prog 199 [aL xs, aL ys] true (rB (decide (xs = ys))) := by
  refine sat_walk (fn := Try.f199) rfl rfl rfl (Nat.le_of_ble_eq_true rfl) fun fr hP hN hbnd => ?_
  have hE : (envOf fr Try.prog).Ok := envOf_ok hP
  have hM := follows_of hP
  have hS : ∀ {draw ops}, statB Try.f199.ntmps draw ops = true → statB (envOf fr Try.prog).fr.N draw ops = true := fun h => by rw [envOf_fr, hN]; exact h
  have hlen := bndL hbnd
  repeat' (first
    | exact True.intro
    | refine ev_seq ?_
    | ((first | refine vgd_go ?_ | refine ev_region hE hM (hS (by decide +kernel)) ?_ | refine ev_if ?_ | refine end_ret hE rfl rfl ?_ | refine end_norm hE rfl rfl ?_ | refine endG_ret [] hE rfl ?_ | refine endG_norm [] hE rfl ?_ | refine vcall_A ?_); simp (maxSteps := 2000000) only [go_sem, hP, ↓reduceIte, Nat.reduceAdd, Nat.reduceMul, Nat.reduceEqDiff, Nat.reduceSub, Nat.reduceLeDiff, reduceCtorEq])
    | refine ev_skip ?_ | refine ev_block ?_ | refine ev_blk ?_ | refine ev_ret ?_ | refine ev_exit ?_ | refine evx_code_ret ?_ | refine evx_blk_ret ?_ | refine evx_lp_ret ?_
    | refine evx_code_exit ?_ | refine evx_lp_exit ?_ | refine evx_blk_hit ?_ | refine evx_blk_pass (by decide) ?_
    | refine And.intro ?_ ?_ | intro _ | decide +kernel | omega)
  · rename_i h; simp at h; simp; rintro rfl; exact h rfl
  rename_i h; simp at h
  refine ev_loop (ι := Nat) (fun k => [(0, .c (sI xs)), (1, .c (sI ys)), (12, .c (.int .i64 xs.length)), (13, .c (.int .i64 k))]) (fun k => []) (fun _ => []) (fun k => k ≤ xs.length ∧ xs.take k = ys.take k) (fun k => xs.length - k) 0 [] (by simp) (by simp only [go_sem, hP, ↓reduceIte, Nat.reduceAdd, Nat.reduceMul, Nat.reduceEqDiff, Nat.reduceSub, Nat.reduceLeDiff, reduceCtorEq]; simp) ?_
  intro k hk
  repeat' (first
    | exact True.intro
    | refine ev_seq ?_
    | ((first | refine vgd_go ?_ | refine ev_region hE hM (hS (by decide +kernel)) ?_ | refine ev_if ?_ | refine end_ret hE rfl rfl ?_ | refine end_norm hE rfl rfl ?_ | refine endG_ret [] hE rfl ?_ | refine endG_norm [] hE rfl ?_ | refine vcall_A ?_); simp (maxSteps := 2000000) only [go_sem, hP, ↓reduceIte, Nat.reduceAdd, Nat.reduceMul, Nat.reduceEqDiff, Nat.reduceSub, Nat.reduceLeDiff, reduceCtorEq])
    | refine ev_skip ?_ | refine ev_block ?_ | refine ev_blk ?_ | refine ev_ret ?_ | refine ev_exit ?_ | refine evx_code_ret ?_ | refine evx_blk_ret ?_ | refine evx_lp_ret ?_
    | refine evx_code_exit ?_ | refine evx_lp_exit ?_ | refine evx_blk_hit ?_ | refine evx_blk_pass (by decide) ?_
    | refine And.intro ?_ ?_ | intro _ | decide +kernel | omega)
  · rename_i h3; simp at h3; simp; exact eq_not h3
  · rename_i h3 h4; simp at h4
    exact ev_lp (k + 1) [] ⟨by omega, eq_step (d := default) (e := default) (by omega) (by omega) hk.2 (by simpa using h4)⟩ (by omega) (by simp only [go_sem, hP, ↓reduceIte, Nat.reduceAdd, Nat.reduceMul, Nat.reduceEqDiff, Nat.reduceSub, Nat.reduceLeDiff, reduceCtorEq]; simp; exact wrap_nat (by omega) hlen)
  · simp; exact eq_done (by omega) (by omega) hk.2
theorem s_specSameRects (a b : Rect) : Sat Try.prog 109 [aR a, aR b] true (rB (decide (a = b))) := by
  refine sat_walk (fn := Try.f109) rfl rfl rfl (Nat.le_of_ble_eq_true rfl) fun fr hP hN hbnd => ?_
  have hE : (envOf fr Try.prog).Ok := envOf_ok hP
  have hM := follows_of hP
  have hS : ∀ {draw ops}, statB Try.f109.ntmps draw ops = true → statB (envOf fr Try.prog).fr.N draw ops = true := fun h => by rw [envOf_fr, hN]; exact h
  repeat' (first
    | exact True.intro
    | refine ev_seq ?_
    | ((first | refine vgd_go ?_ | refine ev_region hE hM (hS (by decide +kernel)) ?_ | refine ev_if ?_ | refine end_ret hE rfl rfl ?_ | refine end_norm hE rfl rfl ?_ | refine endG_ret [] hE rfl ?_ | refine endG_norm [] hE rfl ?_ | refine vcallB_of hP (s_l1Same _ _) ?_ | refine vcall_A ?_); simp (maxSteps := 2000000) only [go_sem, hP, ↓reduceIte, Nat.reduceAdd, Nat.reduceMul, Nat.reduceEqDiff, Nat.reduceSub, Nat.reduceLeDiff, reduceCtorEq])
    | refine ev_skip ?_ | refine ev_block ?_ | refine ev_blk ?_ | refine ev_ret ?_ | refine ev_exit ?_ | refine evx_code_ret ?_ | refine evx_blk_ret ?_ | refine evx_lp_ret ?_
    | refine evx_code_exit ?_ | refine evx_lp_exit ?_ | refine evx_blk_hit ?_ | refine evx_blk_pass (by decide) ?_
    | refine And.intro ?_ ?_ | intro _ | decide +kernel | omega)
  all_goals simp_all [eqR]
theorem s_implSameRects (a b : Rect) : Sat Try.prog 166 [aR a, aR b] true (rB (decide (a = b))) := by
  refine sat_walk (fn := Try.f166) rfl rfl rfl (Nat.le_of_ble_eq_true rfl) fun fr hP hN hbnd => ?_
  have hE : (envOf fr Try.prog).Ok := envOf_ok hP
  have hM := follows_of hP
  have hS : ∀ {draw ops}, statB Try.f166.ntmps draw ops = true → statB (envOf fr Try.prog).fr.N draw ops = true := fun h => by rw [envOf_fr, hN]; exact h
  repeat' (first
    | exact True.intro
    | refine ev_seq ?_
    | ((first | refine vgd_go ?_ | refine ev_region hE hM (hS (by decide +kernel)) ?_ | refine ev_if ?_ | refine end_ret hE rfl rfl ?_ | refine end_norm hE rfl rfl ?_ | refine endG_ret [] hE rfl ?_ | refine endG_norm [] hE rfl ?_ | refine vcallB_of hP (s_EqualI _ _) ?_ | refine vcall_A ?_); simp (maxSteps := 2000000) only [go_sem, hP, ↓reduceIte, Nat.reduceAdd, Nat.reduceMul, Nat.reduceEqDiff, Nat.reduceSub, Nat.reduceLeDiff, reduceCtorEq])
    | refine ev_skip ?_ | refine ev_block ?_ | refine ev_blk ?_ | refine ev_ret ?_ | refine ev_exit ?_ | refine evx_code_ret ?_ | refine evx_blk_ret ?_ | refine evx_lp_ret ?_
    | refine evx_code_exit ?_ | refine evx_lp_exit ?_ | refine evx_blk_hit ?_ | refine evx_blk_pass (by decide) ?_
    | refine And.intro ?_ ?_ | intro _ | decide +kernel | omega)
  all_goals simp_all [eqR]
theorem s_DeletePair (xs : List Pair) (i j : Nat) (hij : j = i + 1) (hi : i < xs.length) : SatG Try.prog 167 false [.ref 1, iT i, iT j] [gPs 1 xs] (.ref 2) [(1, .dead), gPs 2 (xs.take i ++ xs.drop j)] := by
  have h := satG_delete (P := Try.prog) (f := 167) (ty := 94) (sz := 3) (es := xs.map oP) (i := i) (j := j) ⟨_, rfl, rfl, rfl⟩ hij (by simpa using hi) (by rw [List.length_map]; exact k_deletePair _ _ _ hij hi)
  have e : (xs.take i ++ xs.drop j).map oP = (xs.map oP).take i ++ (xs.map oP).drop j := by simp [List.map_take, List.map_drop]
  show SatG _ _ _ _ _ _ [(1, .dead), (2, .arr true _ 3 ((xs.take i ++ xs.drop j).map oP))]
  rw [e]; exact h
theorem s_l2Take (xs : List Pair) (r : Int) (hl : xs.length ≤ 1048576) : Sat Try.prog 111 [aPs xs, aI r] false [(false, [sP (xs.filter (fun p => decide (p.id ≠ r)))])] := by
  refine sat_walk (fn := Try.f111) rfl rfl rfl (Nat.le_of_ble_eq_true rfl) fun fr hP hN hbnd => ?_
  have hE : (envOf fr Try.prog).Ok := envOf_ok hP
  have hM := follows_of hP
  have hS : ∀ {draw ops}, statB Try.f111.ntmps draw ops = true → statB (envOf fr Try.prog).fr.N draw ops = true := fun h => by rw [envOf_fr, hN]; exact h
  repeat' (first
    | exact True.intro
    | refine ev_seq ?_
    | ((first | refine vgd_go ?_ | refine ev_region hE hM (hS (by decide +kernel)) ?_ | refine ev_if ?_ | refine end_ret hE rfl rfl ?_ | refine end_norm hE rfl rfl ?_ | refine endG_ret [] hE rfl ?_ | refine endG_norm [] hE rfl ?_ | refine vcall_A ?_); simp (maxSteps := 2000000) only [go_sem, hP, ↓reduceIte, Nat.reduceAdd, Nat.reduceMul, Nat.reduceEqDiff, Nat.reduceSub, Nat.reduceLeDiff, reduceCtorEq])
    | refine ev_skip ?_ | refine ev_block ?_ | refine ev_blk ?_ | refine ev_ret ?_ | refine ev_exit ?_ | refine evx_code_ret ?_ | refine evx_blk_ret ?_ | refine evx_lp_ret ?_
    | refine evx_code_exit ?_ | refine evx_lp_exit ?_ | refine evx_blk_hit ?_ | refine evx_blk_pass (by decide) ?_
    | refine And.intro ?_ ?_ | intro _ | decide +kernel | omega)
  refine ev_loop (ι := Nat) (fun k => [(0, .c (sP xs)), (1, iT r), (5, .ref 100000), (6, iT k)]) (fun k => [(100000, .arr ((xs.take k).filter (fun p => decide (p.id ≠ r))).isEmpty 94 3 (((xs.take k).filter (fun p => decide (p.id ≠ r))).map eP))]) (fun _ => []) (fun k => k ≤ xs.length) (fun k => xs.length - k) 0 [(100000, some 4096)] (by omega) (by simp only [go_sem, hP, ↓reduceIte, Nat.reduceAdd, Nat.reduceMul, Nat.reduceEqDiff, Nat.reduceSub, Nat.reduceLeDiff, reduceCtorEq]; simp) ?_
  intro k hk
  have hw1 : k < xs.length → IntKind.i64.wrap ((k : Int) + 1) = k + 1 := fun h => i64_in _ (by omega)
  have hfl : ((xs.take k).filter (fun p => decide (p.id ≠ r))).length ≤ k := Nat.le_trans (List.length_filter_le _ _) (by rw [List.length_take]; omega)
  generalize hys : (xs.take k).filter (fun p => decide (p.id ≠ r)) = ys at hfl
  have hfl' := hfl
  by_cases hlt : k < xs.length
  · have hst : (xs.take (k + 1)).filter (fun p => decide (p.id ≠ r)) = if (xs.getD k default).id ≠ r then ys ++ [xs.getD k default] else ys := by
      rw [take_step (d := default) hlt, List.filter_append, hys]
      generalize xs.getD k default = x
      by_cases he : x.id = r <;> simp [he]
    cases ys with
    | nil =>
      repeat' (first
        | exact True.intro
        | refine ev_seq ?_
        | ((first | refine vgd_go ?_ | refine ev_region hE hM (hS (by decide +kernel)) ?_ | refine ev_if ?_ | refine end_ret hE rfl rfl ?_ | refine end_norm hE rfl rfl ?_ | refine endG_ret [] hE rfl ?_ | refine endG_norm [] hE rfl ?_ | refine vcall_A ?_); simp (maxSteps := 2000000) only [go_sem, hP, ↓reduceIte, Nat.reduceAdd, Nat.reduceMul, Nat.reduceEqDiff, Nat.reduceSub, Nat.reduceLeDiff, reduceCtorEq, hys, Bool.and_self, List.length_map, List.isEmpty_nil, List.map_nil])
        | refine ev_skip ?_ | refine ev_block ?_ | refine ev_blk ?_ | refine ev_ret ?_ | refine ev_exit ?_ | refine evx_code_ret ?_ | refine evx_blk_ret ?_ | refine evx_lp_ret ?_
        | refine evx_code_exit ?_ | refine evx_lp_exit ?_ | refine evx_blk_hit ?_ | refine evx_blk_pass (by decide) ?_
        | refine And.intro ?_ ?_ | intro _ | decide +kernel | omega)
      all_goals first
        | exact ev_lp (k + 1) [(100000, some 24624)] (by omega) (by omega) (by simp only [go_sem, hP, ↓reduceIte, Nat.reduceAdd, Nat.reduceMul, Nat.reduceEqDiff, Nat.reduceSub, Nat.reduceLeDiff, reduceCtorEq]; rw [hst, if_pos (by simp_all)]; simp [hw1 hlt, eP_eq, Es.strip])
        | exact ev_lp (k + 1) [(100000, some 100000)] (by omega) (by omega) (by simp only [go_sem, hP, ↓reduceIte, Nat.reduceAdd, Nat.reduceMul, Nat.reduceEqDiff, Nat.reduceSub, Nat.reduceLeDiff, reduceCtorEq]; rw [hst, if_neg (by simp_all)]; simp [hw1 hlt, eP_eq, Es.strip])
        | (exfalso; omega)
        | (simp_all; done)
    | cons y ys =>
      simp only [List.length_cons] at hfl'
      repeat' (first
        | exact True.intro
        | refine ev_seq ?_
        | ((first | refine vgd_go ?_ | refine ev_region hE hM (hS (by decide +kernel)) ?_ | refine ev_if ?_ | refine end_ret hE rfl rfl ?_ | refine end_norm hE rfl rfl ?_ | refine endG_ret [] hE rfl ?_ | refine endG_norm [] hE rfl ?_ | refine vcall_A ?_); simp (maxSteps := 2000000) only [go_sem, hP, ↓reduceIte, Nat.reduceAdd, Nat.reduceMul, Nat.reduceEqDiff, Nat.reduceSub, Nat.reduceLeDiff, reduceCtorEq, hys, Bool.and_self, List.length_map, List.isEmpty_cons])
        | refine ev_skip ?_ | refine ev_block ?_ | refine ev_blk ?_ | refine ev_ret ?_ | refine ev_exit ?_ | refine evx_code_ret ?_ | refine evx_blk_ret ?_ | refine evx_lp_ret ?_
        | refine evx_code_exit ?_ | refine evx_lp_exit ?_ | refine evx_blk_hit ?_ | refine evx_blk_pass (by decide) ?_
        | refine And.intro ?_ ?_ | intro _ | decide +kernel | omega)
      all_goals first
        | exact ev_lp (k + 1) [(100000, some 24624)] (by omega) (by omega) (by simp only [go_sem, hP, ↓reduceIte, Nat.reduceAdd, Nat.reduceMul, Nat.reduceEqDiff, Nat.reduceSub, Nat.reduceLeDiff, reduceCtorEq]; rw [hst, if_pos (by simp_all)]; simp [hw1 hlt, eP_eq, Es.strip])
        | exact ev_lp (k + 1) [(100000, some 100000)] (by omega) (by omega) (by simp only [go_sem, hP, ↓reduceIte, Nat.reduceAdd, Nat.reduceMul, Nat.reduceEqDiff, Nat.reduceSub, Nat.reduceLeDiff, reduceCtorEq]; rw [hst, if_neg (by simp_all)]; simp [hw1 hlt, eP_eq, Es.strip])
        | (exfalso; omega)
        | omega
        | (simp_all; done)
  · have hke : k = xs.length := by omega
    subst hke
    rw [List.take_length] at hys
    rw [hys]
    cases ys with
    | nil =>
      repeat' (first
        | exact True.intro
        | refine ev_seq ?_
        | ((first | refine vgd_go ?_ | refine ev_region hE hM (hS (by decide +kernel)) ?_ | refine ev_if ?_ | refine end_ret hE rfl rfl ?_ | refine end_norm hE rfl rfl ?_ | refine endG_ret [] hE rfl ?_ | refine endG_norm [] hE rfl ?_ | refine vcall_A ?_); simp (maxSteps := 2000000) only [go_sem, hP, ↓reduceIte, Nat.reduceAdd, Nat.reduceMul, Nat.reduceEqDiff, Nat.reduceSub, Nat.reduceLeDiff, reduceCtorEq, hys, List.take_length, List.isEmpty_nil, List.map_nil])
        | refine ev_skip ?_ | refine ev_block ?_ | refine ev_blk ?_ | refine ev_ret ?_ | refine ev_exit ?_ | refine evx_code_ret ?_ | refine evx_blk_ret ?_ | refine evx_lp_ret ?_
        | refine evx_code_exit ?_ | refine evx_lp_exit ?_ | refine evx_blk_hit ?_ | refine evx_blk_pass (by decide) ?_
        | refine And.intro ?_ ?_ | intro _ | decide +kernel | omega)
      all_goals first
        | (exfalso; omega)
        | (simp_all; done)
    | cons y ys =>
      repeat' (first
        | exact True.intro
        | refine ev_seq ?_
        | ((first | refine vgd_go ?_ | refine ev_region hE hM (hS (by decide +kernel)) ?_ | refine ev_if ?_ | refine end_ret hE rfl rfl ?_ | refine end_norm hE rfl rfl ?_ | refine endG_ret [] hE rfl ?_ | refine endG_norm [] hE rfl ?_ | refine vcall_A ?_); simp (maxSteps := 2000000) only [go_sem, hP, ↓reduceIte, Nat.reduceAdd, Nat.reduceMul, Nat.reduceEqDiff, Nat.reduceSub, Nat.reduceLeDiff, reduceCtorEq, hys, List.take_length, List.isEmpty_cons])
        | refine ev_skip ?_ | refine ev_block ?_ | refine ev_blk ?_ | refine ev_ret ?_ | refine ev_exit ?_ | refine evx_code_ret ?_ | refine evx_blk_ret ?_ | refine evx_lp_ret ?_
        | refine evx_code_exit ?_ | refine evx_lp_exit ?_ | refine evx_blk_hit ?_ | refine evx_blk_pass (by decide) ?_
        | refine And.intro ?_ ?_ | intro _ | decide +kernel | omega)
      all_goals first
        | (exfalso; omega)
        | (simp_all; done)
theorem s_taken (xs : List Pair) (p : Pair) (hw : wPs xs ≤ 1048576) (i : Nat) (h1 : findId xs p.id = i) (h2 : i < xs.length) (h3 : (xs.getD i default).rect = p.rect) : Sat Try.prog 113 [aPs xs, aP p] true [(false, [oPs (xs.take i ++ xs.drop (i + 1))]), (false, [.bool true])] := by
  refine sat_walk (fn := Try.f113) rfl rfl rfl (Nat.le_of_ble_eq_true rfl) fun fr hP hN hbnd => ?_
  have hE : (envOf fr Try.prog).Ok := envOf_ok hP
  have hM := follows_of hP
  have hS : ∀ {draw ops}, statB Try.f113.ntmps draw ops = true → statB (envOf fr Try.prog).fr.N draw ops = true := fun h => by rw [envOf_fr, hN]; exact h
  have hlen : xs.length ≤ 1048576 := by unfold wPs at hw; omega
  have hw1 : IntKind.i64.wrap ((i : Int) + 1) = (i + 1 : Nat) := by rw [i64_in _ (by omega)]; omega
  have c2 := s_DeletePair xs i (i + 1) rfl h2
  repeat' (first
    | exact True.intro
    | refine ev_seq ?_
    | ((first | refine vgd_go ?_ | refine ev_region hE hM (hS (by decide +kernel)) ?_ | refine ev_if ?_ | refine end_ret hE rfl rfl ?_ | refine end_norm hE rfl rfl ?_ | refine endG_ret [] hE rfl ?_ | refine endG_norm [] hE rfl ?_ | refine vcallB_of hP (s_indexOf xs p.id) ?_ | refine vcallB_of hP (s_implSameRects (xs.getD i default).rect p.rect) ?_ | refine vcallB_of hP (s_clonedPairs xs hw) ?_ | refine vcallG_of (args := [_, _, _]) [(1, 16392)] [] hP c2 ?_ | refine vcall_A ?_); simp (maxSteps := 2000000) only [go_sem, hP, ↓reduceIte, Nat.reduceAdd, Nat.reduceMul, Nat.reduceEqDiff, Nat.reduceSub, Nat.reduceLeDiff, reduceCtorEq, h1, Int.toNat_natCast, hw1])
    | refine ev_skip ?_ | refine ev_block ?_ | refine ev_blk ?_ | refine ev_ret ?_ | refine ev_exit ?_ | refine evx_code_ret ?_ | refine evx_blk_ret ?_ | refine evx_lp_ret ?_
    | refine evx_code_exit ?_ | refine evx_lp_exit ?_ | refine evx_blk_hit ?_ | refine evx_blk_pass (by decide) ?_
    | refine And.intro ?_ ?_ | intro _ | decide +kernel | omega)
  all_goals first
    | (exfalso; omega)
    | (simp_all; done)
theorem s_takenNo (xs : List Pair) (p : Pair) (h : findId xs p.id < 0 ∨ ¬ (xs.getD (findId xs p.id).toNat default).rect = p.rect) : Sat Try.prog 113 [aPs xs, aP p] true [(false, [oPs []]), (false, [.bool false])] := by
  refine sat_walk (fn := Try.f113) rfl rfl rfl (Nat.le_of_ble_eq_true rfl) fun fr hP hN hbnd => ?_
  have hE : (envOf fr Try.prog).Ok := envOf_ok hP
  have hM := follows_of hP
  have hS : ∀ {draw ops}, statB Try.f113.ntmps draw ops = true → statB (envOf fr Try.prog).fr.N draw ops = true := fun h => by rw [envOf_fr, hN]; exact h
  rcases Int.lt_or_le (findId xs p.id) 0 with h1 | h1
  · repeat' (first
      | exact True.intro
      | refine ev_seq ?_
      | ((first | refine vgd_go ?_ | refine ev_region hE hM (hS (by decide +kernel)) ?_ | refine ev_if ?_ | refine end_ret hE rfl rfl ?_ | refine end_norm hE rfl rfl ?_ | refine endG_ret [] hE rfl ?_ | refine endG_norm [] hE rfl ?_ | refine vcallB_of hP (s_indexOf xs p.id) ?_ | refine vcall_A ?_); simp (maxSteps := 2000000) only [go_sem, hP, ↓reduceIte, Nat.reduceAdd, Nat.reduceMul, Nat.reduceEqDiff, Nat.reduceSub, Nat.reduceLeDiff, reduceCtorEq])
      | refine ev_skip ?_ | refine ev_block ?_ | refine ev_blk ?_ | refine ev_ret ?_ | refine ev_exit ?_ | refine evx_code_ret ?_ | refine evx_blk_ret ?_ | refine evx_lp_ret ?_
      | refine evx_code_exit ?_ | refine evx_lp_exit ?_ | refine evx_blk_hit ?_ | refine evx_blk_pass (by decide) ?_
      | refine And.intro ?_ ?_ | intro _ | decide +kernel | omega)
    all_goals first
      | (exfalso; omega)
      | (simp_all; done)
  · obtain ⟨i, e, h2, _⟩ := findId_get h1
    have h3 : ¬ (xs.getD i default).rect = p.rect := by
      rcases h with h | h
      · omega
      · rw [e, Int.toNat_natCast] at h; exact h
    repeat' (first
      | exact True.intro
      | refine ev_seq ?_
      | ((first | refine vgd_go ?_ | refine ev_region hE hM (hS (by decide +kernel)) ?_ | refine ev_if ?_ | refine end_ret hE rfl rfl ?_ | refine end_norm hE rfl rfl ?_ | refine endG_ret [] hE rfl ?_ | refine endG_norm [] hE rfl ?_ | refine vcallB_of hP (s_indexOf xs p.id) ?_ | refine vcallB_of hP (s_implSameRects (xs.getD i default).rect p.rect) ?_ | refine vcall_A ?_); simp (maxSteps := 2000000) only [go_sem, hP, ↓reduceIte, Nat.reduceAdd, Nat.reduceMul, Nat.reduceEqDiff, Nat.reduceSub, Nat.reduceLeDiff, reduceCtorEq, e, Int.toNat_natCast])
      | refine ev_skip ?_ | refine ev_block ?_ | refine ev_blk ?_ | refine ev_ret ?_ | refine ev_exit ?_ | refine evx_code_ret ?_ | refine evx_blk_ret ?_ | refine evx_lp_ret ?_
      | refine evx_code_exit ?_ | refine evx_lp_exit ?_ | refine evx_blk_hit ?_ | refine evx_blk_pass (by decide) ?_
      | refine And.intro ?_ ?_ | intro _ | decide +kernel | omega)
    all_goals first
      | (exfalso; omega)
      | (simp_all; done)
theorem s_implTakePair (xs : List Pair) (d : Int) (p : Pair) (hw : wPs xs ≤ 1048576) : Sat Try.prog 46 [aPs xs, aI d, aP p] true (rPsR (tpC xs d p) (tpV xs d p)) := by
  refine sat_walk (fn := Try.f46) rfl rfl rfl (Nat.le_of_ble_eq_true rfl) fun fr hP hN hbnd => ?_
  have hE : (envOf fr Try.prog).Ok := envOf_ok hP
  have hM := follows_of hP
  have hS : ∀ {draw ops}, statB Try.f46.ntmps draw ops = true → statB (envOf fr Try.prog).fr.N draw ops = true := fun h => by rw [envOf_fr, hN]; exact h
  by_cases hc : chC xs d p = 0
  · have h1 : mf xs d = 0 := by unfold chC at hc; split at hc <;> simp_all
    have h2 : pairF d p = 0 := by unfold chC at hc; split at hc <;> simp_all
    by_cases h3 : findId xs p.id < 0 ∨ ¬ (xs.getD (findId xs p.id).toNat default).rect = p.rect
    · have e1 : tpC xs d p = 4 := by unfold tpC; rw [if_neg (by simpa using h1), if_neg (by simpa using h2), if_pos h3]
      have e2 : tpV xs d p = [] := by unfold tpV; rw [e1]; rfl
      rw [e1, e2]
      repeat' (first
        | exact True.intro
        | refine ev_seq ?_
        | ((first | refine vgd_go ?_ | refine ev_region hE hM (hS (by decide +kernel)) ?_ | refine ev_if ?_ | refine end_ret hE rfl rfl ?_ | refine end_norm hE rfl rfl ?_ | refine endG_ret [] hE rfl ?_ | refine endG_norm [] hE rfl ?_ | refine vcallB_of hP (s_changeFault xs d p) ?_ | refine vcallB_of hP (s_takenNo xs p h3) ?_ | refine vcall_A ?_); simp (maxSteps := 2000000) only [go_sem, hP, ↓reduceIte, Nat.reduceAdd, Nat.reduceMul, Nat.reduceEqDiff, Nat.reduceSub, Nat.reduceLeDiff, reduceCtorEq, hc])
        | refine ev_skip ?_ | refine ev_block ?_ | refine ev_blk ?_ | refine ev_ret ?_ | refine ev_exit ?_ | refine evx_code_ret ?_ | refine evx_blk_ret ?_ | refine evx_lp_ret ?_
        | refine evx_code_exit ?_ | refine evx_lp_exit ?_ | refine evx_blk_hit ?_ | refine evx_blk_pass (by decide) ?_
        | refine And.intro ?_ ?_ | intro _ | decide +kernel | omega)
      all_goals first | (exfalso; omega) | (simp_all; done)
    · have e1 : tpC xs d p = 0 := by unfold tpC; rw [if_neg (by simpa using h1), if_neg (by simpa using h2), if_neg h3]
      obtain ⟨_, _, h4, h5⟩ := tpC_zero e1
      obtain ⟨i, e, h6, _⟩ := findId_get h4
      have e2 : tpV xs d p = xs.take i ++ xs.drop (i + 1) := by unfold tpV; rw [if_pos e1, e]; rfl
      rw [e, Int.toNat_natCast] at h5
      rw [e1, e2]
      repeat' (first
        | exact True.intro
        | refine ev_seq ?_
        | ((first | refine vgd_go ?_ | refine ev_region hE hM (hS (by decide +kernel)) ?_ | refine ev_if ?_ | refine end_ret hE rfl rfl ?_ | refine end_norm hE rfl rfl ?_ | refine endG_ret [] hE rfl ?_ | refine endG_norm [] hE rfl ?_ | refine vcallB_of hP (s_changeFault xs d p) ?_ | refine vcallB_of hP (s_taken xs p hw i e h6 h5) ?_ | refine vcall_A ?_); simp (maxSteps := 2000000) only [go_sem, hP, ↓reduceIte, Nat.reduceAdd, Nat.reduceMul, Nat.reduceEqDiff, Nat.reduceSub, Nat.reduceLeDiff, reduceCtorEq, hc])
        | refine ev_skip ?_ | refine ev_block ?_ | refine ev_blk ?_ | refine ev_ret ?_ | refine ev_exit ?_ | refine evx_code_ret ?_ | refine evx_blk_ret ?_ | refine evx_lp_ret ?_
        | refine evx_code_exit ?_ | refine evx_lp_exit ?_ | refine evx_blk_hit ?_ | refine evx_blk_pass (by decide) ?_
        | refine And.intro ?_ ?_ | intro _ | decide +kernel | omega)
      all_goals first | (exfalso; omega) | (simp_all; done)
  · have e1 : tpC xs d p = chC xs d p := by unfold tpC chC at *; split <;> simp_all
    have e2 : tpV xs d p = [] := by unfold tpV; rw [if_neg (by rw [e1]; exact hc)]
    rw [e1, e2]
    repeat' (first
      | exact True.intro
      | refine ev_seq ?_
      | ((first | refine vgd_go ?_ | refine ev_region hE hM (hS (by decide +kernel)) ?_ | refine ev_if ?_ | refine end_ret hE rfl rfl ?_ | refine end_norm hE rfl rfl ?_ | refine endG_ret [] hE rfl ?_ | refine endG_norm [] hE rfl ?_ | refine vcallB_of hP (s_changeFault xs d p) ?_ | refine vcall_A ?_); simp (maxSteps := 2000000) only [go_sem, hP, ↓reduceIte, Nat.reduceAdd, Nat.reduceMul, Nat.reduceEqDiff, Nat.reduceSub, Nat.reduceLeDiff, reduceCtorEq])
      | refine ev_skip ?_ | refine ev_block ?_ | refine ev_blk ?_ | refine ev_ret ?_ | refine ev_exit ?_ | refine evx_code_ret ?_ | refine evx_blk_ret ?_ | refine evx_lp_ret ?_
      | refine evx_code_exit ?_ | refine evx_lp_exit ?_ | refine evx_blk_hit ?_ | refine evx_blk_pass (by decide) ?_
      | refine And.intro ?_ ?_ | intro _ | decide +kernel | omega)
    all_goals first | (exfalso; omega) | (simp_all; done)
theorem s_specTakePair (xs : List Pair) (d : Int) (p : Pair) (hw : wPs xs ≤ 1048576) : Sat Try.prog 43 [aPs xs, aI d, aP p] true (rPsR (tpC xs d p) (tpV xs d p)) := by
  refine sat_walk (fn := Try.f43) rfl rfl rfl (Nat.le_of_ble_eq_true rfl) fun fr hP hN hbnd => ?_
  have hE : (envOf fr Try.prog).Ok := envOf_ok hP
  have hM := follows_of hP
  have hS : ∀ {draw ops}, statB Try.f43.ntmps draw ops = true → statB (envOf fr Try.prog).fr.N draw ops = true := fun h => by rw [envOf_fr, hN]; exact h
  by_cases hc : chC xs d p = 0
  · have h1 : mf xs d = 0 := by unfold chC at hc; split at hc <;> simp_all
    have h2 : pairF d p = 0 := by unfold chC at hc; split at hc <;> simp_all
    have hl := mf_len h1
    rcases Int.lt_or_le (findId xs p.id) 0 with h3 | h3
    · have e1 : tpC xs d p = 4 := by unfold tpC; rw [if_neg (by simpa using h1), if_neg (by simpa using h2), if_pos (.inl h3)]
      have e2 : tpV xs d p = [] := by unfold tpV; rw [e1]; rfl
      rw [e1, e2]
      repeat' (first
        | exact True.intro
        | refine ev_seq ?_
        | ((first | refine vgd_go ?_ | refine ev_region hE hM (hS (by decide +kernel)) ?_ | refine ev_if ?_ | refine end_ret hE rfl rfl ?_ | refine end_norm hE rfl rfl ?_ | refine endG_ret [] hE rfl ?_ | refine endG_norm [] hE rfl ?_ | refine vcallB_of hP (s_l2Ask xs d p) ?_ | refine vcallB_of hP (s_l2At xs p.id) ?_ | refine vcall_A ?_); simp (maxSteps := 2000000) only [go_sem, hP, ↓reduceIte, Nat.reduceAdd, Nat.reduceMul, Nat.reduceEqDiff, Nat.reduceSub, Nat.reduceLeDiff, reduceCtorEq, hc])
        | refine ev_skip ?_ | refine ev_block ?_ | refine ev_blk ?_ | refine ev_ret ?_ | refine ev_exit ?_ | refine evx_code_ret ?_ | refine evx_blk_ret ?_ | refine evx_lp_ret ?_
        | refine evx_code_exit ?_ | refine evx_lp_exit ?_ | refine evx_blk_hit ?_ | refine evx_blk_pass (by decide) ?_
        | refine And.intro ?_ ?_ | intro _ | decide +kernel | omega)
      all_goals first | (exfalso; omega) | (simp_all; done)
    · obtain ⟨i, e, h6, h7⟩ := findId_get h3
      by_cases h5 : (xs.getD i default).rect = p.rect
      · have e1 : tpC xs d p = 0 := by
          unfold tpC; rw [if_neg (by simpa using h1), if_neg (by simpa using h2), if_neg]
          rintro (h | h)
          · omega
          · rw [e, Int.toNat_natCast] at h; exact h h5
        have e2 : tpV xs d p = xs.take i ++ xs.drop (i + 1) := by unfold tpV; rw [if_pos e1, e]; rfl
        have e3 := filter_one h1 h6 h7
        have c1 := s_l2Take xs p.id (by omega)
        rw [e3] at c1
        rw [e1, e2]
        repeat' (first
          | exact True.intro
          | refine ev_seq ?_
          | ((first | refine vgd_go ?_ | refine ev_region hE hM (hS (by decide +kernel)) ?_ | refine ev_if ?_ | refine end_ret hE rfl rfl ?_ | refine end_norm hE rfl rfl ?_ | refine endG_ret [] hE rfl ?_ | refine endG_norm [] hE rfl ?_ | refine vcallB_of hP (s_l2Ask xs d p) ?_ | refine vcallB_of hP (s_l2At xs p.id) ?_ | refine vcallB_of hP (s_specSameRects (xs.getD i default).rect p.rect) ?_ | refine vcallB_of hP c1 ?_ | refine vcallB_of hP (s_l2Copies _ (Nat.le_trans (drop_w xs i) hw)) ?_ | refine vcall_A ?_); simp (maxSteps := 2000000) only [go_sem, hP, ↓reduceIte, Nat.reduceAdd, Nat.reduceMul, Nat.reduceEqDiff, Nat.reduceSub, Nat.reduceLeDiff, reduceCtorEq, hc, e, Int.toNat_natCast])
          | refine ev_skip ?_ | refine ev_block ?_ | refine ev_blk ?_ | refine ev_ret ?_ | refine ev_exit ?_ | refine evx_code_ret ?_ | refine evx_blk_ret ?_ | refine evx_lp_ret ?_
          | refine evx_code_exit ?_ | refine evx_lp_exit ?_ | refine evx_blk_hit ?_ | refine evx_blk_pass (by decide) ?_
          | refine And.intro ?_ ?_ | intro _ | decide +kernel | omega)
        all_goals first | (exfalso; omega) | (simp_all; done)
      · have e1 : tpC xs d p = 4 := by unfold tpC; rw [if_neg (by simpa using h1), if_neg (by simpa using h2), if_pos (.inr (by rw [e, Int.toNat_natCast]; exact h5))]
        have e2 : tpV xs d p = [] := by unfold tpV; rw [e1]; rfl
        rw [e1, e2]
        repeat' (first
          | exact True.intro
          | refine ev_seq ?_
          | ((first | refine vgd_go ?_ | refine ev_region hE hM (hS (by decide +kernel)) ?_ | refine ev_if ?_ | refine end_ret hE rfl rfl ?_ | refine end_norm hE rfl rfl ?_ | refine endG_ret [] hE rfl ?_ | refine endG_norm [] hE rfl ?_ | refine vcallB_of hP (s_l2Ask xs d p) ?_ | refine vcallB_of hP (s_l2At xs p.id) ?_ | refine vcallB_of hP (s_specSameRects (xs.getD i default).rect p.rect) ?_ | refine vcall_A ?_); simp (maxSteps := 2000000) only [go_sem, hP, ↓reduceIte, Nat.reduceAdd, Nat.reduceMul, Nat.reduceEqDiff, Nat.reduceSub, Nat.reduceLeDiff, reduceCtorEq, hc, e, Int.toNat_natCast])
          | refine ev_skip ?_ | refine ev_block ?_ | refine ev_blk ?_ | refine ev_ret ?_ | refine ev_exit ?_ | refine evx_code_ret ?_ | refine evx_blk_ret ?_ | refine evx_lp_ret ?_
          | refine evx_code_exit ?_ | refine evx_lp_exit ?_ | refine evx_blk_hit ?_ | refine evx_blk_pass (by decide) ?_
          | refine And.intro ?_ ?_ | intro _ | decide +kernel | omega)
        all_goals first | (exfalso; omega) | (simp_all; done)
  · have e1 : tpC xs d p = chC xs d p := by unfold tpC chC at *; split <;> simp_all
    have e2 : tpV xs d p = [] := by unfold tpV; rw [if_neg (by rw [e1]; exact hc)]
    rw [e1, e2]
    repeat' (first
      | exact True.intro
      | refine ev_seq ?_
      | ((first | refine vgd_go ?_ | refine ev_region hE hM (hS (by decide +kernel)) ?_ | refine ev_if ?_ | refine end_ret hE rfl rfl ?_ | refine end_norm hE rfl rfl ?_ | refine endG_ret [] hE rfl ?_ | refine endG_norm [] hE rfl ?_ | refine vcallB_of hP (s_l2Ask xs d p) ?_ | refine vcall_A ?_); simp (maxSteps := 2000000) only [go_sem, hP, ↓reduceIte, Nat.reduceAdd, Nat.reduceMul, Nat.reduceEqDiff, Nat.reduceSub, Nat.reduceLeDiff, reduceCtorEq])
      | refine ev_skip ?_ | refine ev_block ?_ | refine ev_blk ?_ | refine ev_ret ?_ | refine ev_exit ?_ | refine evx_code_ret ?_ | refine evx_blk_ret ?_ | refine evx_lp_ret ?_
      | refine evx_code_exit ?_ | refine evx_lp_exit ?_ | refine evx_blk_hit ?_ | refine evx_blk_pass (by decide) ?_
      | refine And.intro ?_ ?_ | intro _ | decide +kernel | omega)
    all_goals first | (exfalso; omega) | (simp_all; done)
theorem l_TakePair (a : List Pair) (b : Int) (c : Pair) : Sat Try.prog 7 [aPs a, aI b, aP c] true (rB true) := by
  refine sat_walkB (fn := Try.f7) rfl rfl rfl (Nat.le_of_ble_eq_true rfl) fun fr hP hN hYX hbnd => ?_
  have hE : (envOf fr Try.prog).Ok := envOf_ok hP
  have hM := follows_of hP
  have hS : ∀ {draw ops}, statB Try.f7.ntmps draw ops = true → statB (envOf fr Try.prog).fr.N draw ops = true := fun h => by rw [envOf_fr, hN]; exact h
  repeat' (first
    | exact True.intro
    | refine ev_seq ?_
    | ((first | refine ev_stop 19 ?_ | refine vgd_go ?_ | refine ev_region hE hM (hS (by decide +kernel)) ?_ | refine ev_if ?_ | refine end_ret hE rfl rfl ?_ | refine end_norm hE rfl rfl ?_ | refine endG_ret [] hE rfl ?_ | refine endG_norm [] hE rfl ?_ | refine vcallB_of hP (s_szPairS a _ (by omega) (by omega)) ?_ | refine vcallB_of hP (s_szPair c _ (by simp only [lessN] at *; omega) (by simp only [lessN] at *; omega)) ?_ | refine vcallB_of hP (s_toPairS a (by simp only [lessN] at *; omega)) ?_ | refine vcallB_of hP (s_toPair c (by simp only [lessN] at *; omega)) ?_ | refine vcallB_of hP (s_specTakePair a b c (by simp only [lessN] at *; omega)) ?_ | refine vcallB_of hP (s_implTakePair a b c (by simp only [lessN] at *; omega)) ?_ | refine vcallB_of hP (s_eqPairS a a) ?_ | refine vcallB_of hP (s_eqPair c c) ?_ | refine vcallB_of hP (s_eqPairsResult _ _ _ _) ?_ | refine vcall_A ?_); simp (maxSteps := 2000000) only [go_sem, hP, ↓reduceIte, Nat.reduceAdd, Nat.reduceMul, Nat.reduceEqDiff, Nat.reduceSub, Nat.reduceLeDiff, reduceCtorEq])
    | refine ev_skip ?_ | refine ev_block ?_ | refine ev_blk ?_ | refine ev_ret ?_ | refine ev_exit ?_ | refine evx_code_ret ?_ | refine evx_blk_ret ?_ | refine evx_lp_ret ?_
    | refine evx_code_exit ?_ | refine evx_lp_exit ?_ | refine evx_blk_hit ?_ | refine evx_blk_pass (by decide) ?_
    | refine And.intro ?_ ?_ | intro _ | decide +kernel | omega)
  all_goals first | (exfalso; simp_all; done) | skip
  first | refine Stop.mk ?_ | skip
  have hw0 : wPs a ≤ 1048576 := by simp only [lessN] at *; omega
  have hw1 : wR c.rect ≤ 1048576 := by simp only [lessN] at *; omega
  have hv := tpV_w a b c
  have hwc : wPs a + wR c.rect ≤ 1048576 := by simp only [lessN] at *; omega
  have x0 := s_markPairS a 1 (by omega) (by simp only [mMax]; omega)
  have x1 := s_markPair c.id c.rect (1 + wPs a) (by omega) (by simp only [mMax]; omega)
  have r1 := s_markPairsResult (tpC a b c) (tpV a b c) 1 (by omega) (by simp only [mMax]; omega)
  have r2 := s_heldPairsResult (tpC a b c) (tpV a b c) 1 (by omega) (by simp only [mMax]; omega)
  refine ev_cut [(0, .ca (sP a)), (1, iT b), (5, .ptr 0 0), (6, .c (.bool false)), (8, .ptr 32816 0), (9, .ref 36872), (10, .ptr 40976 0), (11, .ptr 45088 0), (12, iT 1)] [(0, .box [iT c.id, .ca (sI c.rect.low), .ca (sI c.rect.high)]), (32816, .box [iT (tpC a b c), .ref 1081384]), gPs 1081384 (tpV a b c), gPs 36872 a, (40976, .box [iT c.id, .ref 1089544, .ref 2138120]), gI 1089544 c.rect.low, gI 2138120 c.rect.high, (45088, .box [iT (tpC a b c), .ref 1093656]), gPs 1093656 (tpV a b c)] [] [] (by simp only [go_sem, hP, ↓reduceIte, Nat.reduceAdd, Nat.reduceMul, Nat.reduceEqDiff, Nat.reduceSub, Nat.reduceLeDiff, reduceCtorEq, List.cons_append, List.nil_append]) ?_
  repeat' (first
    | exact True.intro
    | refine ev_seq ?_
    | ((first | refine ev_regionC (id := 19) (pre := [_, _]) hE rfl (hS (by decide +kernel)) ?_ | refine vgd_go ?_ | refine ev_region hE hM (hS (by decide +kernel)) ?_ | refine ev_if ?_ | refine end_ret hE rfl rfl ?_ | refine end_norm hE rfl rfl ?_ | refine endG_ret [] hE rfl ?_ | refine endG_norm [] hE rfl ?_ | refine vcall_A ?_); simp (maxSteps := 2000000) only [go_sem, hP, ↓reduceIte, Nat.reduceAdd, Nat.reduceMul, Nat.reduceEqDiff, Nat.reduceSub, Nat.reduceLeDiff, reduceCtorEq, List.cons_append, List.nil_append])
    | refine ev_skip ?_ | refine ev_block ?_ | refine ev_blk ?_ | refine ev_ret ?_ | refine ev_exit ?_ | refine evx_code_ret ?_ | refine evx_blk_ret ?_ | refine evx_lp_ret ?_
    | refine evx_code_exit ?_ | refine evx_lp_exit ?_ | refine evx_blk_hit ?_ | refine evx_blk_pass (by decide) ?_
    | refine And.intro ?_ ?_ | intro _ | decide +kernel | omega)
  refine callM_of [(1, 36872)] [] [(0, .ca (sP a)), (1, iT b), (5, .ptr 0 0), (6, .c (.bool false)), (8, .ptr 32816 0), (9, .ref 36872), (10, .ptr 40976 0), (11, .ptr 45088 0), (54, .ref 36872), (55, iT 1)] [(0, .box [iT c.id, .ca (sI c.rect.low), .ca (sI c.rect.high)]), (32816, .box [iT (tpC a b c), .ref 1081384]), gPs 1081384 (tpV a b c), gPs 36872 a, (40976, .box [iT c.id, .ref 1089544, .ref 2138120]), gI 1089544 c.rect.low, gI 2138120 c.rect.high, (45088, .box [iT (tpC a b c), .ref 1093656]), gPs 1093656 (tpV a b c)] [] hP x0 hYX rfl rfl (by rw [envOf_fr, hN]; decide) (by simp only [go_sem, hP, ↓reduceIte, Nat.reduceAdd, Nat.reduceMul, Nat.reduceEqDiff, Nat.reduceSub, Nat.reduceLeDiff, reduceCtorEq, List.cons_append, List.nil_append]) rfl rfl (by simp only [go_sem, hP, ↓reduceIte, Nat.reduceAdd, Nat.reduceMul, Nat.reduceEqDiff, Nat.reduceSub, Nat.reduceLeDiff, reduceCtorEq, List.cons_append, List.nil_append] <;> simp) (by simp only [go_sem, hP, ↓reduceIte, Nat.reduceAdd, Nat.reduceMul, Nat.reduceEqDiff, Nat.reduceSub, Nat.reduceLeDiff, reduceCtorEq] <;> simp) ?_
  simp only [go_sem, hP, ↓reduceIte, Nat.reduceAdd, Nat.reduceMul, Nat.reduceEqDiff, Nat.reduceSub, Nat.reduceLeDiff, reduceCtorEq, List.cons_append, List.nil_append]
  repeat' (first
    | exact True.intro
    | refine ev_seq ?_
    | ((first | refine ev_stop 24 ?_ | refine vgd_go ?_ | refine ev_region hE hM (hS (by decide +kernel)) ?_ | refine ev_if ?_ | refine end_ret hE rfl rfl ?_ | refine end_norm hE rfl rfl ?_ | refine endG_ret [] hE rfl ?_ | refine endG_norm [] hE rfl ?_ | refine vcallB_of hP (s_toPairS a (by simp only [lessN] at *; omega)) ?_ | refine vcallB_of hP (s_toPair c (by simp only [lessN] at *; omega)) ?_ | refine vcallB_of hP (s_implTakePair a b c (by simp only [lessN] at *; omega)) ?_ | refine vcallB_of hP (s_eqPairsResult _ _ _ _) ?_ | refine vcallG_of (args := [.agg [iT c.id, .ref 1089544, .ref 2138120], _]) [(1, 1089544), (2, 2138120)] [] hP x1 ?_ | refine vcall_A ?_); simp (maxSteps := 2000000) only [go_sem, hP, ↓reduceIte, Nat.reduceAdd, Nat.reduceMul, Nat.reduceEqDiff, Nat.reduceSub, Nat.reduceLeDiff, reduceCtorEq, List.cons_append, List.nil_append, markedA])
    | refine ev_skip ?_ | refine ev_block ?_ | refine ev_blk ?_ | refine ev_ret ?_ | refine ev_exit ?_ | refine evx_code_ret ?_ | refine evx_blk_ret ?_ | refine evx_lp_ret ?_
    | refine evx_code_exit ?_ | refine evx_lp_exit ?_ | refine evx_blk_hit ?_ | refine evx_blk_pass (by decide) ?_
    | refine And.intro ?_ ?_ | intro _ | decide +kernel | omega)
  all_goals first | (exfalso; simp_all; done) | skip
  first | refine Stop.mk ?_ | skip
  refine ev_cut [(0, .ca (sP a)), (1, iT b), (5, .ptr 0 0), (6, .c (.bool false)), (8, .ptr 32816 0), (11, .ptr 45088 0), (13, iT 1)] [(0, .box [iT c.id, .ca (sI c.rect.low), .ca (sI c.rect.high)]), (32816, .box [iT (tpC a b c), .ref 1081384]), gPs 1081384 (tpV a b c), (45088, .box [iT (tpC a b c), .ref 1093656]), gPs 1093656 (tpV a b c)] [] [] (by simp only [go_sem, hP, ↓reduceIte, Nat.reduceAdd, Nat.reduceMul, Nat.reduceEqDiff, Nat.reduceSub, Nat.reduceLeDiff, reduceCtorEq, List.cons_append, List.nil_append]) ?_
  repeat' (first
    | exact True.intro
    | refine ev_seq ?_
    | ((first | refine ev_regionC (id := 24) (pre := [_, _]) hE rfl (hS (by decide +kernel)) ?_ | refine vgd_go ?_ | refine ev_region hE hM (hS (by decide +kernel)) ?_ | refine ev_if ?_ | refine end_ret hE rfl rfl ?_ | refine end_norm hE rfl rfl ?_ | refine endG_ret [] hE rfl ?_ | refine endG_norm [] hE rfl ?_ | refine vcall_A ?_); simp (maxSteps := 2000000) only [go_sem, hP, ↓reduceIte, Nat.reduceAdd, Nat.reduceMul, Nat.reduceEqDiff, Nat.reduceSub, Nat.reduceLeDiff, reduceCtorEq, List.cons_append, List.nil_append])
    | refine ev_skip ?_ | refine ev_block ?_ | refine ev_blk ?_ | refine ev_ret ?_ | refine ev_exit ?_ | refine evx_code_ret ?_ | refine evx_blk_ret ?_ | refine evx_lp_ret ?_
    | refine evx_code_exit ?_ | refine evx_lp_exit ?_ | refine evx_blk_hit ?_ | refine evx_blk_pass (by decide) ?_
    | refine And.intro ?_ ?_ | intro _ | decide +kernel | omega)
  refine callM_of [(1, 1093656)] [] [(0, .ca (sP a)), (1, iT b), (5, .ptr 0 0), (6, .c (.bool false)), (8, .ptr 32816 0), (11, .ptr 45088 0), (68, .agg [iT (tpC a b c), .ref 1093656]), (69, iT 1)] [(0, .box [iT c.id, .ca (sI c.rect.low), .ca (sI c.rect.high)]), (32816, .box [iT (tpC a b c), .ref 1081384]), gPs 1081384 (tpV a b c), (45088, .box [iT (tpC a b c), .ref 1093656]), gPs 1093656 (tpV a b c)] [] hP r1 hYX rfl rfl (by rw [envOf_fr, hN]; decide) (by simp only [go_sem, hP, ↓reduceIte, Nat.reduceAdd, Nat.reduceMul, Nat.reduceEqDiff, Nat.reduceSub, Nat.reduceLeDiff, reduceCtorEq, List.cons_append, List.nil_append]) rfl rfl (by simp only [go_sem, hP, ↓reduceIte, Nat.reduceAdd, Nat.reduceMul, Nat.reduceEqDiff, Nat.reduceSub, Nat.reduceLeDiff, reduceCtorEq, List.cons_append, List.nil_append] <;> simp) (by simp only [go_sem, hP, ↓reduceIte, Nat.reduceAdd, Nat.reduceMul, Nat.reduceEqDiff, Nat.reduceSub, Nat.reduceLeDiff, reduceCtorEq] <;> simp) ?_
  simp only [go_sem, hP, ↓reduceIte, Nat.reduceAdd, Nat.reduceMul, Nat.reduceEqDiff, Nat.reduceSub, Nat.reduceLeDiff, reduceCtorEq, List.cons_append, List.nil_append]
  repeat' (first
    | exact True.intro
    | refine ev_seq ?_
    | ((first | refine vgd_go ?_ | refine ev_region hE hM (hS (by decide +kernel)) ?_ | refine ev_if ?_ | refine end_ret hE rfl rfl ?_ | refine end_norm hE rfl rfl ?_ | refine endG_ret [] hE rfl ?_ | refine endG_norm [] hE rfl ?_ | refine vcallB_of hP (s_toPairS a (by simp only [lessN] at *; omega)) ?_ | refine vcallB_of hP (s_toPair c (by simp only [lessN] at *; omega)) ?_ | refine vcallB_of hP (s_implTakePair a b c (by simp only [lessN] at *; omega)) ?_ | refine vcallB_of hP (s_eqPairsResult _ _ _ _) ?_ | refine vcallG_of (args := [.agg [iT c.id, .ref 1089544, .ref 2138120], _]) [(1, 1089544), (2, 2138120)] [] hP x1 ?_ | refine vcallB_of hP r2 ?_ | refine vcall_A ?_); simp (maxSteps := 2000000) only [go_sem, hP, ↓reduceIte, Nat.reduceAdd, Nat.reduceMul, Nat.reduceEqDiff, Nat.reduceSub, Nat.reduceLeDiff, reduceCtorEq, List.cons_append, List.nil_append, markedA])
    | refine ev_skip ?_ | refine ev_block ?_ | refine ev_blk ?_ | refine ev_ret ?_ | refine ev_exit ?_ | refine evx_code_ret ?_ | refine evx_blk_ret ?_ | refine evx_lp_ret ?_
    | refine evx_code_exit ?_ | refine evx_lp_exit ?_ | refine evx_blk_hit ?_ | refine evx_blk_pass (by decide) ?_
    | refine And.intro ?_ ?_ | intro _ | decide +kernel | omega)
  all_goals (simp_all; done)
theorem all_TakePair (gs : List Arg) (h : shpA Try.prog 12 [69, 2, 86] gs) : Sat Try.prog 7 gs true (rB true) := by
  obtain ⟨x0, gs, rfl, h0, x1, gs, rfl, h1, x2, gs, rfl, h2, rfl⟩ := h
  obtain ⟨a, rfl⟩ := shp_Ps (n := 6) rfl h0
  obtain ⟨b, rfl, _⟩ := shp_i64 (n := 11) rfl h1
  obtain ⟨c, rfl⟩ := shp_P (n := 7) rfl h2
  exact l_TakePair a b c
end Go.Proofs.Ytcephdpooijciaa.W
