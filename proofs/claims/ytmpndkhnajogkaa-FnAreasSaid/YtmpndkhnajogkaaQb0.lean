/- Contracts of functions that FnAreas reaches: what each returns; it writes to nothing of old. No condition but those that each theorem states. -/
import Derived.Test.YtmpndkhnajogkaaPb
open Go Go.Vm Go.Proofs Go.IntWalk Go.RowKit
set_option maxRecDepth 100000
set_option maxHeartbeats 4000000
set_option linter.unusedSimpArgs false
set_option linter.unusedVariables false
set_option linter.unusedSectionVars false
namespace Go.Proofs.Ytmpndkhnajogkaa.W
attribute [local irreducible] kJ ev evx vops vstep vgo vgd vget vcall vcallFn vcallA vcallB vts vres vcond vbin
@[go_sem] abbrev aIR (c v : Int) : Arg := .d (true, [.int .i64 c, .int .i64 v])
@[go_sem] abbrev rIR (c v : Int) : List Dat := [(true, [.int .i64 c, .int .i64 v])]
/-- A number, if there is no code. -/
def val (c v : Int) : Int := if c = 0 then v else 0
theorem s_valued (c v : Int) (sem : List Dat → List Dat → Prop) (hs : c = 0 → sem [] [(false, [.int .i64 v])]) : Sat Try.prog 114 [aI c, .fn sem] true (rIR c (val c v)) := by
  refine sat_walk (fn := Try.f114) rfl rfl rfl (Nat.le_of_ble_eq_true rfl) fun fr hP hN hbnd => ?_
  have hE : (envOf fr Try.prog).Ok := envOf_ok hP
  have hM := follows_of hP
  have hS : ∀ {draw ops}, statB Try.f114.ntmps draw ops = true → statB (envOf fr Try.prog).fr.N draw ops = true := fun h => by rw [envOf_fr, hN]; exact h
  repeat' (first
    | exact True.intro
    | refine ev_seq ?_
    | ((first | refine vgd_go ?_ | refine ev_region hE hM (hS (by decide +kernel)) ?_ | refine ev_if ?_ | refine end_ret hE rfl rfl ?_ | refine end_norm hE rfl rfl ?_ | refine endG_ret [] hE rfl ?_ | refine endG_norm [] hE rfl ?_ | refine vcallFn_of [] [] [(false, [.int .i64 v])] (by simp only [go_sem, hP, ↓reduceIte, Nat.reduceAdd, Nat.reduceMul, Nat.reduceEqDiff, Nat.reduceSub, Nat.reduceLeDiff, reduceCtorEq]) (hs (by simp_all)) ?_ | refine vcall_A ?_); simp (maxSteps := 2000000) only [go_sem, hP, ↓reduceIte, Nat.reduceAdd, Nat.reduceMul, Nat.reduceEqDiff, Nat.reduceSub, Nat.reduceLeDiff, reduceCtorEq])
    | refine ev_skip ?_ | refine ev_block ?_ | refine ev_blk ?_ | refine ev_ret ?_ | refine ev_exit ?_ | refine evx_code_ret ?_ | refine evx_blk_ret ?_ | refine evx_lp_ret ?_
    | refine evx_code_exit ?_ | refine evx_lp_exit ?_ | refine evx_blk_hit ?_ | refine evx_blk_pass (by decide) ?_
    | refine And.intro ?_ ?_ | intro _ | decide +kernel | omega)
  all_goals simp_all [val]
theorem s_l1Area (r : Rect) (h : r.high.length = r.low.length) : Sat Try.prog 167 [pR r] true (rI (area r)) := by
  refine sat_walk (fn := Try.f167) rfl rfl rfl (Nat.le_of_ble_eq_true rfl) fun fr hP hN hbnd => ?_
  have hE : (envOf fr Try.prog).Ok := envOf_ok hP
  have hM := follows_of hP
  have hS : ∀ {draw ops}, statB Try.f167.ntmps draw ops = true → statB (envOf fr Try.prog).fr.N draw ops = true := fun h => by rw [envOf_fr, hN]; exact h
  have hl := bndPR hbnd
  repeat' (first
    | exact True.intro
    | refine ev_seq ?_
    | ((first | refine vgd_go ?_ | refine ev_region hE hM (hS (by decide +kernel)) ?_ | refine ev_if ?_ | refine end_ret hE rfl rfl ?_ | refine end_norm hE rfl rfl ?_ | refine endG_ret [] hE rfl ?_ | refine endG_norm [] hE rfl ?_ | refine vcall_A ?_); simp (maxSteps := 2000000) only [go_sem, hP, ↓reduceIte, Nat.reduceAdd, Nat.reduceMul, Nat.reduceEqDiff, Nat.reduceSub, Nat.reduceLeDiff, reduceCtorEq])
    | refine ev_skip ?_ | refine ev_block ?_ | refine ev_blk ?_ | refine ev_ret ?_ | refine ev_exit ?_ | refine evx_code_ret ?_ | refine evx_blk_ret ?_ | refine evx_lp_ret ?_
    | refine evx_code_exit ?_ | refine evx_lp_exit ?_ | refine evx_blk_hit ?_ | refine evx_blk_pass (by decide) ?_
    | refine And.intro ?_ ?_ | intro _ | decide +kernel | omega)
  refine ev_loop (ι := Nat) (fun k => [(0, .pv (cR r)), (3, .c (.int .i64 (areaTo r k))), (4, .c (.int .i64 k))]) (fun k => []) (fun _ => []) (fun k => k ≤ r.low.length) (fun k => r.low.length - k) 0 [] (by simp [allLt_zero] <;> omega) (by simp only [go_sem, hP, ↓reduceIte, Nat.reduceAdd, Nat.reduceMul, Nat.reduceEqDiff, Nat.reduceSub, Nat.reduceLeDiff, reduceCtorEq]; simp) ?_
  intro k hk
  repeat' (first
    | exact True.intro
    | refine ev_seq ?_
    | ((first | refine vgd_go ?_ | refine ev_region hE hM (hS (by decide +kernel)) ?_ | refine ev_if ?_ | refine end_ret hE rfl rfl ?_ | refine end_norm hE rfl rfl ?_ | refine endG_ret [] hE rfl ?_ | refine endG_norm [] hE rfl ?_ | refine vcall_A ?_); simp (maxSteps := 2000000) only [go_sem, hP, ↓reduceIte, Nat.reduceAdd, Nat.reduceMul, Nat.reduceEqDiff, Nat.reduceSub, Nat.reduceLeDiff, reduceCtorEq])
    | refine ev_skip ?_ | refine ev_block ?_ | refine ev_blk ?_ | refine ev_ret ?_ | refine ev_exit ?_ | refine evx_code_ret ?_ | refine evx_blk_ret ?_ | refine evx_lp_ret ?_
    | refine evx_code_exit ?_ | refine evx_lp_exit ?_ | refine evx_blk_hit ?_ | refine evx_blk_pass (by decide) ?_
    | refine And.intro ?_ ?_ | intro _ | decide +kernel | omega)
  · exact ev_lp (k + 1) [] (by omega) (by omega) (by simp only [go_sem, hP, ↓reduceIte, Nat.reduceAdd, Nat.reduceMul, Nat.reduceEqDiff, Nat.reduceSub, Nat.reduceLeDiff, reduceCtorEq]; simp; exact ⟨rfl, wrap_nat (by omega) hl.1⟩)
  · have : k = r.low.length := by omega
    subst this; rfl
theorem s_implarea (r : Rect) (h : r.high.length = r.low.length) : Sat Try.prog 166 [aR r] true (rI (area r)) := by
  refine sat_walk (fn := Try.f166) rfl rfl rfl (Nat.le_of_ble_eq_true rfl) fun fr hP hN hbnd => ?_
  have hE : (envOf fr Try.prog).Ok := envOf_ok hP
  have hM := follows_of hP
  have hS : ∀ {draw ops}, statB Try.f166.ntmps draw ops = true → statB (envOf fr Try.prog).fr.N draw ops = true := fun h => by rw [envOf_fr, hN]; exact h
  have hl := bndR hbnd
  repeat' (first
    | exact True.intro
    | refine ev_seq ?_
    | ((first | refine vgd_go ?_ | refine ev_region hE hM (hS (by decide +kernel)) ?_ | refine ev_if ?_ | refine end_ret hE rfl rfl ?_ | refine end_norm hE rfl rfl ?_ | refine endG_ret [] hE rfl ?_ | refine endG_norm [] hE rfl ?_ | refine vcall_A ?_); simp (maxSteps := 2000000) only [go_sem, hP, ↓reduceIte, Nat.reduceAdd, Nat.reduceMul, Nat.reduceEqDiff, Nat.reduceSub, Nat.reduceLeDiff, reduceCtorEq])
    | refine ev_skip ?_ | refine ev_block ?_ | refine ev_blk ?_ | refine ev_ret ?_ | refine ev_exit ?_ | refine evx_code_ret ?_ | refine evx_blk_ret ?_ | refine evx_lp_ret ?_
    | refine evx_code_exit ?_ | refine evx_lp_exit ?_ | refine evx_blk_hit ?_ | refine evx_blk_pass (by decide) ?_
    | refine And.intro ?_ ?_ | intro _ | decide +kernel | omega)
  refine ev_loop (ι := Nat) (fun k => [(1, .ptr 0 0), (3, .c (.int .i64 (areaTo r k))), (7, .c (.int .i64 r.low.length)), (8, .c (.int .i64 k))]) (fun k => [(0, .box [.c (sI r.low), .c (sI r.high)])]) (fun _ => []) (fun k => k ≤ r.low.length) (fun k => r.low.length - k) 0 [] (by simp [allLt_zero] <;> omega) (by simp only [go_sem, hP, ↓reduceIte, Nat.reduceAdd, Nat.reduceMul, Nat.reduceEqDiff, Nat.reduceSub, Nat.reduceLeDiff, reduceCtorEq]; simp) ?_
  intro k hk
  repeat' (first
    | exact True.intro
    | refine ev_seq ?_
    | ((first | refine vgd_go ?_ | refine ev_region hE hM (hS (by decide +kernel)) ?_ | refine ev_if ?_ | refine end_ret hE rfl rfl ?_ | refine end_norm hE rfl rfl ?_ | refine endG_ret [] hE rfl ?_ | refine endG_norm [] hE rfl ?_ | refine vcall_A ?_); simp (maxSteps := 2000000) only [go_sem, hP, ↓reduceIte, Nat.reduceAdd, Nat.reduceMul, Nat.reduceEqDiff, Nat.reduceSub, Nat.reduceLeDiff, reduceCtorEq])
    | refine ev_skip ?_ | refine ev_block ?_ | refine ev_blk ?_ | refine ev_ret ?_ | refine ev_exit ?_ | refine evx_code_ret ?_ | refine evx_blk_ret ?_ | refine evx_lp_ret ?_
    | refine evx_code_exit ?_ | refine evx_lp_exit ?_ | refine evx_blk_hit ?_ | refine evx_blk_pass (by decide) ?_
    | refine And.intro ?_ ?_ | intro _ | decide +kernel | omega)
  · exact ev_lp (k + 1) [] (by omega) (by omega) (by simp only [go_sem, hP, ↓reduceIte, Nat.reduceAdd, Nat.reduceMul, Nat.reduceEqDiff, Nat.reduceSub, Nat.reduceLeDiff, reduceCtorEq]; simp; exact ⟨rfl, wrap_nat (by omega) hl.1⟩)
  · have : k = r.low.length := by omega
    subst this; rfl
theorem s_AreaOf1 (r : Rect) (h : r.high.length = r.low.length) : Sat Try.prog 165 [pR r] true (rI (area r)) := by
  refine sat_walk (fn := Try.f165) rfl rfl rfl (Nat.le_of_ble_eq_true rfl) fun fr hP hN hbnd => ?_
  have hE : (envOf fr Try.prog).Ok := envOf_ok hP
  have hM := follows_of hP
  have hS : ∀ {draw ops}, statB Try.f165.ntmps draw ops = true → statB (envOf fr Try.prog).fr.N draw ops = true := fun h => by rw [envOf_fr, hN]; exact h
  repeat' (first
    | exact True.intro
    | refine ev_seq ?_
    | ((first | refine vgd_go ?_ | refine ev_region hE hM (hS (by decide +kernel)) ?_ | refine ev_if ?_ | refine end_ret hE rfl rfl ?_ | refine end_norm hE rfl rfl ?_ | refine endG_ret [] hE rfl ?_ | refine endG_norm [] hE rfl ?_ | refine vcallB_of hP (s_implarea r h) ?_ | refine vcall_A ?_); simp (maxSteps := 2000000) only [go_sem, hP, ↓reduceIte, Nat.reduceAdd, Nat.reduceMul, Nat.reduceEqDiff, Nat.reduceSub, Nat.reduceLeDiff, reduceCtorEq])
    | refine ev_skip ?_ | refine ev_block ?_ | refine ev_blk ?_ | refine ev_ret ?_ | refine ev_exit ?_ | refine evx_code_ret ?_ | refine evx_blk_ret ?_ | refine evx_lp_ret ?_
    | refine evx_code_exit ?_ | refine evx_lp_exit ?_ | refine evx_blk_hit ?_ | refine evx_blk_pass (by decide) ?_
    | refine And.intro ?_ ?_ | intro _ | decide +kernel | omega)
theorem rf_high {r : Rect} (h : rf r r.low.length = 0) : r.high.length = r.low.length := by have := rf_len h; omega
theorem s_specAreaOf (r : Rect) : Sat Try.prog 61 [aR r] true (rIR (rf r r.low.length) (val (rf r r.low.length) (area r))) := by
  refine sat_walk (fn := Try.f61) rfl rfl rfl (Nat.le_of_ble_eq_true rfl) fun fr hP hN hbnd => ?_
  have hE : (envOf fr Try.prog).Ok := envOf_ok hP
  have hM := follows_of hP
  have hS : ∀ {draw ops}, statB Try.f61.ntmps draw ops = true → statB (envOf fr Try.prog).fr.N draw ops = true := fun h => by rw [envOf_fr, hN]; exact h
  repeat' (first
    | exact True.intro
    | refine ev_seq ?_
    | ((first | refine vgd_go ?_ | refine ev_region hE hM (hS (by decide +kernel)) ?_ | refine ev_if ?_ | refine end_ret hE rfl rfl ?_ | refine end_norm hE rfl rfl ?_ | refine endG_ret [] hE rfl ?_ | refine endG_norm [] hE rfl ?_ | refine vcallB_of hP (s_specRectFault r _) ?_ | refine vcallB_of hP (s_l1Area r (rf_high (by simp_all))) ?_ | refine vcall_A ?_); simp (maxSteps := 2000000) only [go_sem, hP, ↓reduceIte, Nat.reduceAdd, Nat.reduceMul, Nat.reduceEqDiff, Nat.reduceSub, Nat.reduceLeDiff, reduceCtorEq])
    | refine ev_skip ?_ | refine ev_block ?_ | refine ev_blk ?_ | refine ev_ret ?_ | refine ev_exit ?_ | refine evx_code_ret ?_ | refine evx_blk_ret ?_ | refine evx_lp_ret ?_
    | refine evx_code_exit ?_ | refine evx_lp_exit ?_ | refine evx_blk_hit ?_ | refine evx_blk_pass (by decide) ?_
    | refine And.intro ?_ ?_ | intro _ | decide +kernel | omega)
  all_goals simp_all [val]
theorem s_implAreaOf (r : Rect) : Sat Try.prog 60 [aR r] true (rIR (rf r r.low.length) (val (rf r r.low.length) (area r))) := by
  refine sat_walk (fn := Try.f60) rfl rfl rfl (Nat.le_of_ble_eq_true rfl) fun fr hP hN hbnd => ?_
  have hE : (envOf fr Try.prog).Ok := envOf_ok hP
  have hM := follows_of hP
  have hS : ∀ {draw ops}, statB Try.f60.ntmps draw ops = true → statB (envOf fr Try.prog).fr.N draw ops = true := fun h => by rw [envOf_fr, hN]; exact h
  repeat' (first
    | exact True.intro
    | refine ev_seq ?_
    | ((first | refine vgd_go ?_ | refine ev_region hE hM (hS (by decide +kernel)) ?_ | refine ev_if ?_ | refine end_ret hE rfl rfl ?_ | refine end_norm hE rfl rfl ?_ | refine endG_ret [] hE rfl ?_ | refine endG_norm [] hE rfl ?_ | refine vcallB_of hP (s_ownDims r) ?_ | refine vcallB_of hP (s_implRectFault r _) ?_ | refine vcallB_of hP (s_valued _ (area r) _ (fun h => s_AreaOf1 r (rf_high h))) ?_ | refine vcall_A ?_); simp (maxSteps := 2000000) only [go_sem, hP, ↓reduceIte, Nat.reduceAdd, Nat.reduceMul, Nat.reduceEqDiff, Nat.reduceSub, Nat.reduceLeDiff, reduceCtorEq])
    | refine ev_skip ?_ | refine ev_block ?_ | refine ev_blk ?_ | refine ev_ret ?_ | refine ev_exit ?_ | refine evx_code_ret ?_ | refine evx_blk_ret ?_ | refine evx_lp_ret ?_
    | refine evx_code_exit ?_ | refine evx_lp_exit ?_ | refine evx_blk_hit ?_ | refine evx_blk_pass (by decide) ?_
    | refine And.intro ?_ ?_ | intro _ | decide +kernel | omega)
  all_goals simp_all [val]
def marginTo (r : Rect) : Nat → Int
  | 0 => 0
  | k + 1 => IntKind.i64.wrap (marginTo r k + (r.high.getD k default - r.low.getD k default))
@[simp] theorem marginTo_zero (r : Rect) : marginTo r 0 = 0 := rfl
def margin (r : Rect) : Int := marginTo r r.low.length
theorem s_l1Margin (r : Rect) (h : r.high.length = r.low.length) : Sat Try.prog 170 [pR r] true (rI (margin r)) := by
  refine sat_walk (fn := Try.f170) rfl rfl rfl (Nat.le_of_ble_eq_true rfl) fun fr hP hN hbnd => ?_
  have hE : (envOf fr Try.prog).Ok := envOf_ok hP
  have hM := follows_of hP
  have hS : ∀ {draw ops}, statB Try.f170.ntmps draw ops = true → statB (envOf fr Try.prog).fr.N draw ops = true := fun h => by rw [envOf_fr, hN]; exact h
  have hl := bndPR hbnd
  repeat' (first
    | exact True.intro
    | refine ev_seq ?_
    | ((first | refine vgd_go ?_ | refine ev_region hE hM (hS (by decide +kernel)) ?_ | refine ev_if ?_ | refine end_ret hE rfl rfl ?_ | refine end_norm hE rfl rfl ?_ | refine endG_ret [] hE rfl ?_ | refine endG_norm [] hE rfl ?_ | refine vcall_A ?_); simp (maxSteps := 2000000) only [go_sem, hP, ↓reduceIte, Nat.reduceAdd, Nat.reduceMul, Nat.reduceEqDiff, Nat.reduceSub, Nat.reduceLeDiff, reduceCtorEq])
    | refine ev_skip ?_ | refine ev_block ?_ | refine ev_blk ?_ | refine ev_ret ?_ | refine ev_exit ?_ | refine evx_code_ret ?_ | refine evx_blk_ret ?_ | refine evx_lp_ret ?_
    | refine evx_code_exit ?_ | refine evx_lp_exit ?_ | refine evx_blk_hit ?_ | refine evx_blk_pass (by decide) ?_
    | refine And.intro ?_ ?_ | intro _ | decide +kernel | omega)
  refine ev_loop (ι := Nat) (fun k => [(0, .pv (cR r)), (3, .c (.int .i64 (marginTo r k))), (4, .c (.int .i64 k))]) (fun k => []) (fun _ => []) (fun k => k ≤ r.low.length) (fun k => r.low.length - k) 0 [] (by simp [allLt_zero] <;> omega) (by simp only [go_sem, hP, ↓reduceIte, Nat.reduceAdd, Nat.reduceMul, Nat.reduceEqDiff, Nat.reduceSub, Nat.reduceLeDiff, reduceCtorEq]; simp) ?_
  intro k hk
  repeat' (first
    | exact True.intro
    | refine ev_seq ?_
    | ((first | refine vgd_go ?_ | refine ev_region hE hM (hS (by decide +kernel)) ?_ | refine ev_if ?_ | refine end_ret hE rfl rfl ?_ | refine end_norm hE rfl rfl ?_ | refine endG_ret [] hE rfl ?_ | refine endG_norm [] hE rfl ?_ | refine vcall_A ?_); simp (maxSteps := 2000000) only [go_sem, hP, ↓reduceIte, Nat.reduceAdd, Nat.reduceMul, Nat.reduceEqDiff, Nat.reduceSub, Nat.reduceLeDiff, reduceCtorEq])
    | refine ev_skip ?_ | refine ev_block ?_ | refine ev_blk ?_ | refine ev_ret ?_ | refine ev_exit ?_ | refine evx_code_ret ?_ | refine evx_blk_ret ?_ | refine evx_lp_ret ?_
    | refine evx_code_exit ?_ | refine evx_lp_exit ?_ | refine evx_blk_hit ?_ | refine evx_blk_pass (by decide) ?_
    | refine And.intro ?_ ?_ | intro _ | decide +kernel | omega)
  · exact ev_lp (k + 1) [] (by omega) (by omega) (by simp only [go_sem, hP, ↓reduceIte, Nat.reduceAdd, Nat.reduceMul, Nat.reduceEqDiff, Nat.reduceSub, Nat.reduceLeDiff, reduceCtorEq]; simp; exact ⟨by rw [← List.getD_eq_getElem?_getD, ← List.getD_eq_getElem?_getD]; exact wr1 _ _ _, wrap_nat (by omega) hl.1⟩)
  · have : k = r.low.length := by omega
    subst this; rfl
theorem s_implmargin (r : Rect) (h : r.high.length = r.low.length) : Sat Try.prog 169 [aR r] true (rI (margin r)) := by
  refine sat_walk (fn := Try.f169) rfl rfl rfl (Nat.le_of_ble_eq_true rfl) fun fr hP hN hbnd => ?_
  have hE : (envOf fr Try.prog).Ok := envOf_ok hP
  have hM := follows_of hP
  have hS : ∀ {draw ops}, statB Try.f169.ntmps draw ops = true → statB (envOf fr Try.prog).fr.N draw ops = true := fun h => by rw [envOf_fr, hN]; exact h
  have hl := bndR hbnd
  repeat' (first
    | exact True.intro
    | refine ev_seq ?_
    | ((first | refine vgd_go ?_ | refine ev_region hE hM (hS (by decide +kernel)) ?_ | refine ev_if ?_ | refine end_ret hE rfl rfl ?_ | refine end_norm hE rfl rfl ?_ | refine endG_ret [] hE rfl ?_ | refine endG_norm [] hE rfl ?_ | refine vcall_A ?_); simp (maxSteps := 2000000) only [go_sem, hP, ↓reduceIte, Nat.reduceAdd, Nat.reduceMul, Nat.reduceEqDiff, Nat.reduceSub, Nat.reduceLeDiff, reduceCtorEq])
    | refine ev_skip ?_ | refine ev_block ?_ | refine ev_blk ?_ | refine ev_ret ?_ | refine ev_exit ?_ | refine evx_code_ret ?_ | refine evx_blk_ret ?_ | refine evx_lp_ret ?_
    | refine evx_code_exit ?_ | refine evx_lp_exit ?_ | refine evx_blk_hit ?_ | refine evx_blk_pass (by decide) ?_
    | refine And.intro ?_ ?_ | intro _ | decide +kernel | omega)
  refine ev_loop (ι := Nat) (fun k => [(1, .ptr 0 0), (3, .c (.int .i64 (marginTo r k))), (7, .c (.int .i64 r.low.length)), (8, .c (.int .i64 k))]) (fun k => [(0, .box [.c (sI r.low), .c (sI r.high)])]) (fun _ => []) (fun k => k ≤ r.low.length) (fun k => r.low.length - k) 0 [] (by simp [allLt_zero] <;> omega) (by simp only [go_sem, hP, ↓reduceIte, Nat.reduceAdd, Nat.reduceMul, Nat.reduceEqDiff, Nat.reduceSub, Nat.reduceLeDiff, reduceCtorEq]; simp) ?_
  intro k hk
  repeat' (first
    | exact True.intro
    | refine ev_seq ?_
    | ((first | refine vgd_go ?_ | refine ev_region hE hM (hS (by decide +kernel)) ?_ | refine ev_if ?_ | refine end_ret hE rfl rfl ?_ | refine end_norm hE rfl rfl ?_ | refine endG_ret [] hE rfl ?_ | refine endG_norm [] hE rfl ?_ | refine vcall_A ?_); simp (maxSteps := 2000000) only [go_sem, hP, ↓reduceIte, Nat.reduceAdd, Nat.reduceMul, Nat.reduceEqDiff, Nat.reduceSub, Nat.reduceLeDiff, reduceCtorEq])
    | refine ev_skip ?_ | refine ev_block ?_ | refine ev_blk ?_ | refine ev_ret ?_ | refine ev_exit ?_ | refine evx_code_ret ?_ | refine evx_blk_ret ?_ | refine evx_lp_ret ?_
    | refine evx_code_exit ?_ | refine evx_lp_exit ?_ | refine evx_blk_hit ?_ | refine evx_blk_pass (by decide) ?_
    | refine And.intro ?_ ?_ | intro _ | decide +kernel | omega)
  · exact ev_lp (k + 1) [] (by omega) (by omega) (by simp only [go_sem, hP, ↓reduceIte, Nat.reduceAdd, Nat.reduceMul, Nat.reduceEqDiff, Nat.reduceSub, Nat.reduceLeDiff, reduceCtorEq]; simp; exact ⟨by rw [← List.getD_eq_getElem?_getD, ← List.getD_eq_getElem?_getD]; exact wr2 _ _ _, wrap_nat (by omega) hl.1⟩)
  · have : k = r.low.length := by omega
    subst this; rfl
theorem s_MarginOf1 (r : Rect) (h : r.high.length = r.low.length) : Sat Try.prog 168 [pR r] true (rI (margin r)) := by
  refine sat_walk (fn := Try.f168) rfl rfl rfl (Nat.le_of_ble_eq_true rfl) fun fr hP hN hbnd => ?_
  have hE : (envOf fr Try.prog).Ok := envOf_ok hP
  have hM := follows_of hP
  have hS : ∀ {draw ops}, statB Try.f168.ntmps draw ops = true → statB (envOf fr Try.prog).fr.N draw ops = true := fun h => by rw [envOf_fr, hN]; exact h
  repeat' (first
    | exact True.intro
    | refine ev_seq ?_
    | ((first | refine vgd_go ?_ | refine ev_region hE hM (hS (by decide +kernel)) ?_ | refine ev_if ?_ | refine end_ret hE rfl rfl ?_ | refine end_norm hE rfl rfl ?_ | refine endG_ret [] hE rfl ?_ | refine endG_norm [] hE rfl ?_ | refine vcallB_of hP (s_implmargin r h) ?_ | refine vcall_A ?_); simp (maxSteps := 2000000) only [go_sem, hP, ↓reduceIte, Nat.reduceAdd, Nat.reduceMul, Nat.reduceEqDiff, Nat.reduceSub, Nat.reduceLeDiff, reduceCtorEq])
    | refine ev_skip ?_ | refine ev_block ?_ | refine ev_blk ?_ | refine ev_ret ?_ | refine ev_exit ?_ | refine evx_code_ret ?_ | refine evx_blk_ret ?_ | refine evx_lp_ret ?_
    | refine evx_code_exit ?_ | refine evx_lp_exit ?_ | refine evx_blk_hit ?_ | refine evx_blk_pass (by decide) ?_
    | refine And.intro ?_ ?_ | intro _ | decide +kernel | omega)
theorem s_specMarginOf (r : Rect) : Sat Try.prog 63 [aR r] true (rIR (rf r r.low.length) (val (rf r r.low.length) (margin r))) := by
  refine sat_walk (fn := Try.f63) rfl rfl rfl (Nat.le_of_ble_eq_true rfl) fun fr hP hN hbnd => ?_
  have hE : (envOf fr Try.prog).Ok := envOf_ok hP
  have hM := follows_of hP
  have hS : ∀ {draw ops}, statB Try.f63.ntmps draw ops = true → statB (envOf fr Try.prog).fr.N draw ops = true := fun h => by rw [envOf_fr, hN]; exact h
  repeat' (first
    | exact True.intro
    | refine ev_seq ?_
    | ((first | refine vgd_go ?_ | refine ev_region hE hM (hS (by decide +kernel)) ?_ | refine ev_if ?_ | refine end_ret hE rfl rfl ?_ | refine end_norm hE rfl rfl ?_ | refine endG_ret [] hE rfl ?_ | refine endG_norm [] hE rfl ?_ | refine vcallB_of hP (s_specRectFault r _) ?_ | refine vcallB_of hP (s_l1Margin r (rf_high (by simp_all))) ?_ | refine vcall_A ?_); simp (maxSteps := 2000000) only [go_sem, hP, ↓reduceIte, Nat.reduceAdd, Nat.reduceMul, Nat.reduceEqDiff, Nat.reduceSub, Nat.reduceLeDiff, reduceCtorEq])
    | refine ev_skip ?_ | refine ev_block ?_ | refine ev_blk ?_ | refine ev_ret ?_ | refine ev_exit ?_ | refine evx_code_ret ?_ | refine evx_blk_ret ?_ | refine evx_lp_ret ?_
    | refine evx_code_exit ?_ | refine evx_lp_exit ?_ | refine evx_blk_hit ?_ | refine evx_blk_pass (by decide) ?_
    | refine And.intro ?_ ?_ | intro _ | decide +kernel | omega)
  all_goals simp_all [val]
theorem s_implMarginOf (r : Rect) : Sat Try.prog 62 [aR r] true (rIR (rf r r.low.length) (val (rf r r.low.length) (margin r))) := by
  refine sat_walk (fn := Try.f62) rfl rfl rfl (Nat.le_of_ble_eq_true rfl) fun fr hP hN hbnd => ?_
  have hE : (envOf fr Try.prog).Ok := envOf_ok hP
  have hM := follows_of hP
  have hS : ∀ {draw ops}, statB Try.f62.ntmps draw ops = true → statB (envOf fr Try.prog).fr.N draw ops = true := fun h => by rw [envOf_fr, hN]; exact h
  repeat' (first
    | exact True.intro
    | refine ev_seq ?_
    | ((first | refine vgd_go ?_ | refine ev_region hE hM (hS (by decide +kernel)) ?_ | refine ev_if ?_ | refine end_ret hE rfl rfl ?_ | refine end_norm hE rfl rfl ?_ | refine endG_ret [] hE rfl ?_ | refine endG_norm [] hE rfl ?_ | refine vcallB_of hP (s_ownDims r) ?_ | refine vcallB_of hP (s_implRectFault r _) ?_ | refine vcallB_of hP (s_valued _ (margin r) _ (fun h => s_MarginOf1 r (rf_high h))) ?_ | refine vcall_A ?_); simp (maxSteps := 2000000) only [go_sem, hP, ↓reduceIte, Nat.reduceAdd, Nat.reduceMul, Nat.reduceEqDiff, Nat.reduceSub, Nat.reduceLeDiff, reduceCtorEq])
    | refine ev_skip ?_ | refine ev_block ?_ | refine ev_blk ?_ | refine ev_ret ?_ | refine ev_exit ?_ | refine evx_code_ret ?_ | refine evx_blk_ret ?_ | refine evx_lp_ret ?_
    | refine evx_code_exit ?_ | refine evx_lp_exit ?_ | refine evx_blk_hit ?_ | refine evx_blk_pass (by decide) ?_
    | refine And.intro ?_ ?_ | intro _ | decide +kernel | omega)
  all_goals simp_all [val]
theorem s_l1Overlap (a b : Rect) (f : Fit a b) : Sat Try.prog 164 [pR a, pR b] true (rI (overlap a b)) := by
  refine sat_walk (fn := Try.f164) rfl rfl rfl (Nat.le_of_ble_eq_true rfl) fun fr hP hN hbnd => ?_
  have hE : (envOf fr Try.prog).Ok := envOf_ok hP
  have hM := follows_of hP
  have hS : ∀ {draw ops}, statB Try.f164.ntmps draw ops = true → statB (envOf fr Try.prog).fr.N draw ops = true := fun h => by rw [envOf_fr, hN]; exact h
  have hl := bndPR hbnd
  obtain ⟨e1, e2, e3⟩ := f.l
  repeat' (first
    | exact True.intro
    | refine ev_seq ?_
    | ((first | refine vgd_go ?_ | refine ev_region hE hM (hS (by decide +kernel)) ?_ | refine ev_if ?_ | refine end_ret hE rfl rfl ?_ | refine end_norm hE rfl rfl ?_ | refine endG_ret [] hE rfl ?_ | refine endG_norm [] hE rfl ?_ | refine vcall_A ?_); simp (maxSteps := 2000000) only [go_sem, hP, ↓reduceIte, Nat.reduceAdd, Nat.reduceMul, Nat.reduceEqDiff, Nat.reduceSub, Nat.reduceLeDiff, reduceCtorEq])
    | refine ev_skip ?_ | refine ev_block ?_ | refine ev_blk ?_ | refine ev_ret ?_ | refine ev_exit ?_ | refine evx_code_ret ?_ | refine evx_blk_ret ?_ | refine evx_lp_ret ?_
    | refine evx_code_exit ?_ | refine evx_lp_exit ?_ | refine evx_blk_hit ?_ | refine evx_blk_pass (by decide) ?_
    | refine And.intro ?_ ?_ | intro _ | decide +kernel | omega)
  refine ev_loop (ι := Nat) (fun k => [(0, .pv (cR a)), (1, .pv (cR b)), (5, .c (.int .i64 (ovTo a b k))), (6, .c (.int .i64 k))]) (fun k => []) (fun _ => []) (fun k => k ≤ a.low.length) (fun k => a.low.length - k) 0 [] (by simp [allLt_zero] <;> omega) (by simp only [go_sem, hP, ↓reduceIte, Nat.reduceAdd, Nat.reduceMul, Nat.reduceEqDiff, Nat.reduceSub, Nat.reduceLeDiff, reduceCtorEq]; simp) ?_
  intro k hk
  repeat' (first
    | exact True.intro
    | refine ev_seq ?_
    | ((first | refine vgd_go ?_ | refine ev_region hE hM (hS (by decide +kernel)) ?_ | refine ev_if ?_ | refine end_ret hE rfl rfl ?_ | refine end_norm hE rfl rfl ?_ | refine endG_ret [] hE rfl ?_ | refine endG_norm [] hE rfl ?_ | refine vcallB_of hP (s_l1Min _ _) ?_ | refine vcallB_of hP (s_l1Max _ _) ?_ | refine vcall_A ?_); simp (maxSteps := 2000000) only [go_sem, hP, ↓reduceIte, Nat.reduceAdd, Nat.reduceMul, Nat.reduceEqDiff, Nat.reduceSub, Nat.reduceLeDiff, reduceCtorEq])
    | refine ev_skip ?_ | refine ev_block ?_ | refine ev_blk ?_ | refine ev_ret ?_ | refine ev_exit ?_ | refine evx_code_ret ?_ | refine evx_blk_ret ?_ | refine evx_lp_ret ?_
    | refine evx_code_exit ?_ | refine evx_lp_exit ?_ | refine evx_blk_hit ?_ | refine evx_blk_pass (by decide) ?_
    | refine And.intro ?_ ?_ | intro _ | decide +kernel | omega)
  · rename_i h1
    have g1 := f.a1 k (by omega)
    have g2 := f.b1 k (by omega)
    have g3 := wr_small (n := min (a.high.getD k default) (b.high.getD k default) - max (a.low.getD k default) (b.low.getD k default)) (by omega)
    exact ev_lp (k + 1) [] (by omega) (by omega) (by simp only [go_sem, hP, ↓reduceIte, Nat.reduceAdd, Nat.reduceMul, Nat.reduceEqDiff, Nat.reduceSub, Nat.reduceLeDiff, reduceCtorEq]; simp; exact ⟨by simp only [List.getD_eq_getElem?_getD] at g3; simp only [ovTo, ovAt, List.getD_eq_getElem?_getD]; exact congrArg (fun z => IntKind.i64.wrap (ovTo a b k * max z 0)) g3, wrap_nat (by omega) hl.1⟩)
  · have : k = a.low.length := by omega
    subst this; rfl
theorem s_overlap (a b : Rect) (f : Fit a b) : Sat Try.prog 162 [aR a, aR b] true (rI (overlap a b)) := by
  refine sat_walk (fn := Try.f162) rfl rfl rfl (Nat.le_of_ble_eq_true rfl) fun fr hP hN hbnd => ?_
  have hE : (envOf fr Try.prog).Ok := envOf_ok hP
  have hM := follows_of hP
  have hS : ∀ {draw ops}, statB Try.f162.ntmps draw ops = true → statB (envOf fr Try.prog).fr.N draw ops = true := fun h => by rw [envOf_fr, hN]; exact h
  have hl := bndR hbnd
  have e1 := f.l.h1
  have e2 := f.l.h2
  have e3 := f.l.h3
  repeat' (first
    | exact True.intro
    | refine ev_seq ?_
    | ((first | refine vgd_go ?_ | refine ev_region hE hM (hS (by decide +kernel)) ?_ | refine ev_if ?_ | refine end_ret hE rfl rfl ?_ | refine end_norm hE rfl rfl ?_ | refine endG_ret [] hE rfl ?_ | refine endG_norm [] hE rfl ?_ | refine vcallB_of hP (s_implmeets a b f.l) ?_ | refine vcallB_of hP (s_cloned a (by have := f.n; omega) (by have := f.n; have := f.l.h1; omega)) ?_ | refine vcall_A ?_); simp (maxSteps := 2000000) only [go_sem, hP, ↓reduceIte, Nat.reduceAdd, Nat.reduceMul, Nat.reduceEqDiff, Nat.reduceSub, Nat.reduceLeDiff, reduceCtorEq])
    | refine ev_skip ?_ | refine ev_block ?_ | refine ev_blk ?_ | refine ev_ret ?_ | refine ev_exit ?_ | refine evx_code_ret ?_ | refine evx_blk_ret ?_ | refine evx_lp_ret ?_
    | refine evx_code_exit ?_ | refine evx_lp_exit ?_ | refine evx_blk_hit ?_ | refine evx_blk_pass (by decide) ?_
    | refine And.intro ?_ ?_ | intro _ | decide +kernel | omega)
  · rename_i h; rw [overlap_apart f (by simpa using h)]
  rename_i h
  refine ev_loop (ι := Nat) (fun k => [(2, .ptr 0 0), (3, .ptr 8 0), (5, .ptr 12304 0), (15, .c (.int .i64 a.low.length)), (16, .c (.int .i64 k))]) (fun k => [(0, .box [.c (sI a.low), .c (sI a.high)]), (8, .box [.c (sI b.low), .c (sI b.high)]), (12304, .box [.ref 12296, .ref 1060872]), (12296, .arr true 2 1 ((mixF (fun j => max (a.low.getD j default) (b.low.getD j default)) a.low k).map eI)), (1060872, .arr true 2 1 ((mixF (fun j => min (a.high.getD j default) (b.high.getD j default)) a.high k).map eI))]) (fun _ => []) (fun k => k ≤ a.low.length) (fun k => a.low.length - k) 0 [] (by simp [allLt_zero] <;> omega) (by simp only [go_sem, hP, ↓reduceIte, Nat.reduceAdd, Nat.reduceMul, Nat.reduceEqDiff, Nat.reduceSub, Nat.reduceLeDiff, reduceCtorEq]; simp) ?_
  intro k hk
  repeat' (first
    | exact True.intro
    | refine ev_seq ?_
    | ((first | refine vgd_go ?_ | refine ev_region hE hM (hS (by decide +kernel)) ?_ | refine ev_if ?_ | refine end_ret hE rfl rfl ?_ | refine end_norm hE rfl rfl ?_ | refine endG_ret [] hE rfl ?_ | refine endG_norm [] hE rfl ?_ | refine vcallB_of hP (s_implarea (commonTo a b k) (by simp [e1])) ?_ | refine vcall_A ?_); simp (maxSteps := 2000000) only [go_sem, hP, ↓reduceIte, Nat.reduceAdd, Nat.reduceMul, Nat.reduceEqDiff, Nat.reduceSub, Nat.reduceLeDiff, reduceCtorEq, mixF_length])
    | refine ev_skip ?_ | refine ev_block ?_ | refine ev_blk ?_ | refine ev_ret ?_ | refine ev_exit ?_ | refine evx_code_ret ?_ | refine evx_blk_ret ?_ | refine evx_lp_ret ?_
    | refine evx_code_exit ?_ | refine evx_lp_exit ?_ | refine evx_blk_hit ?_ | refine evx_blk_pass (by decide) ?_
    | refine And.intro ?_ ?_ | intro _ | decide +kernel | omega)
  · exact ev_lp (k + 1) [] (by omega) (by omega) (by simp only [go_sem, hP, ↓reduceIte, Nat.reduceAdd, Nat.reduceMul, Nat.reduceEqDiff, Nat.reduceSub, Nat.reduceLeDiff, reduceCtorEq]; simp; exact ⟨wrap_nat (by omega) hl.1, mixF_set_map (f := fun j => max (a.low.getD j default) (b.low.getD j default)) (by omega), mixF_set_map (f := fun j => min (a.high.getD j default) (b.high.getD j default)) (by omega)⟩)
  · rename_i h1
    have : k = a.low.length := by omega
    subst this
    exact area_common f (by simpa using h)
theorem s_OverlapOf1 (a b : Rect) (f : Fit a b) : Sat Try.prog 161 [pR a, pR b] true (rI (overlap a b)) := by
  refine sat_walk (fn := Try.f161) rfl rfl rfl (Nat.le_of_ble_eq_true rfl) fun fr hP hN hbnd => ?_
  have hE : (envOf fr Try.prog).Ok := envOf_ok hP
  have hM := follows_of hP
  have hS : ∀ {draw ops}, statB Try.f161.ntmps draw ops = true → statB (envOf fr Try.prog).fr.N draw ops = true := fun h => by rw [envOf_fr, hN]; exact h
  repeat' (first
    | exact True.intro
    | refine ev_seq ?_
    | ((first | refine vgd_go ?_ | refine ev_region hE hM (hS (by decide +kernel)) ?_ | refine ev_if ?_ | refine end_ret hE rfl rfl ?_ | refine end_norm hE rfl rfl ?_ | refine endG_ret [] hE rfl ?_ | refine endG_norm [] hE rfl ?_ | refine vcallB_of hP (s_overlap a b f) ?_ | refine vcall_A ?_); simp (maxSteps := 2000000) only [go_sem, hP, ↓reduceIte, Nat.reduceAdd, Nat.reduceMul, Nat.reduceEqDiff, Nat.reduceSub, Nat.reduceLeDiff, reduceCtorEq])
    | refine ev_skip ?_ | refine ev_block ?_ | refine ev_blk ?_ | refine ev_ret ?_ | refine ev_exit ?_ | refine evx_code_ret ?_ | refine evx_blk_ret ?_ | refine evx_lp_ret ?_
    | refine evx_code_exit ?_ | refine evx_lp_exit ?_ | refine evx_blk_hit ?_ | refine evx_blk_pass (by decide) ?_
    | refine And.intro ?_ ?_ | intro _ | decide +kernel | omega)
theorem s_specOverlapOf (a b : Rect) : Sat Try.prog 59 [aR a, aR b] true (rIR (two a b) (val (two a b) (overlap a b))) := by
  refine sat_walk (fn := Try.f59) rfl rfl rfl (Nat.le_of_ble_eq_true rfl) fun fr hP hN hbnd => ?_
  have hE : (envOf fr Try.prog).Ok := envOf_ok hP
  have hM := follows_of hP
  have hS : ∀ {draw ops}, statB Try.f59.ntmps draw ops = true → statB (envOf fr Try.prog).fr.N draw ops = true := fun h => by rw [envOf_fr, hN]; exact h
  repeat' (first
    | exact True.intro
    | refine ev_seq ?_
    | ((first | refine vgd_go ?_ | refine ev_region hE hM (hS (by decide +kernel)) ?_ | refine ev_if ?_ | refine end_ret hE rfl rfl ?_ | refine end_norm hE rfl rfl ?_ | refine endG_ret [] hE rfl ?_ | refine endG_norm [] hE rfl ?_ | refine vcallB_of hP (s_l1Two a b) ?_ | refine vcallB_of hP (s_l1Overlap a b (two_fit (by simp_all))) ?_ | refine vcall_A ?_); simp (maxSteps := 2000000) only [go_sem, hP, ↓reduceIte, Nat.reduceAdd, Nat.reduceMul, Nat.reduceEqDiff, Nat.reduceSub, Nat.reduceLeDiff, reduceCtorEq])
    | refine ev_skip ?_ | refine ev_block ?_ | refine ev_blk ?_ | refine ev_ret ?_ | refine ev_exit ?_ | refine evx_code_ret ?_ | refine evx_blk_ret ?_ | refine evx_lp_ret ?_
    | refine evx_code_exit ?_ | refine evx_lp_exit ?_ | refine evx_blk_hit ?_ | refine evx_blk_pass (by decide) ?_
    | refine And.intro ?_ ?_ | intro _ | decide +kernel | omega)
  all_goals simp_all [val]
theorem s_implOverlapOf (a b : Rect) : Sat Try.prog 57 [aR a, aR b] true (rIR (two a b) (val (two a b) (overlap a b))) := by
  refine sat_walk (fn := Try.f57) rfl rfl rfl (Nat.le_of_ble_eq_true rfl) fun fr hP hN hbnd => ?_
  have hE : (envOf fr Try.prog).Ok := envOf_ok hP
  have hM := follows_of hP
  have hS : ∀ {draw ops}, statB Try.f57.ntmps draw ops = true → statB (envOf fr Try.prog).fr.N draw ops = true := fun h => by rw [envOf_fr, hN]; exact h
  repeat' (first
    | exact True.intro
    | refine ev_seq ?_
    | ((first | refine vgd_go ?_ | refine ev_region hE hM (hS (by decide +kernel)) ?_ | refine ev_if ?_ | refine end_ret hE rfl rfl ?_ | refine end_norm hE rfl rfl ?_ | refine endG_ret [] hE rfl ?_ | refine endG_norm [] hE rfl ?_ | refine vcallB_of hP (s_twoFault a b) ?_ | refine vcallB_of hP (s_valued _ (overlap a b) _ (fun h => s_OverlapOf1 a b (two_fit h))) ?_ | refine vcall_A ?_); simp (maxSteps := 2000000) only [go_sem, hP, ↓reduceIte, Nat.reduceAdd, Nat.reduceMul, Nat.reduceEqDiff, Nat.reduceSub, Nat.reduceLeDiff, reduceCtorEq])
    | refine ev_skip ?_ | refine ev_block ?_ | refine ev_blk ?_ | refine ev_ret ?_ | refine ev_exit ?_ | refine evx_code_ret ?_ | refine evx_blk_ret ?_ | refine evx_lp_ret ?_
    | refine evx_code_exit ?_ | refine evx_lp_exit ?_ | refine evx_blk_hit ?_ | refine evx_blk_pass (by decide) ?_
    | refine And.intro ?_ ?_ | intro _ | decide +kernel | omega)
  all_goals simp_all [val]
def growth (a b : Rect) : Int := IntKind.i64.wrap (area (un a b) - area a)
theorem s_l1Growth (a b : Rect) (h : Lens a b) (hx : a.low.length ≤ 1048576) : Sat Try.prog 163 [pR a, pR b] true (rI (growth a b)) := by
  refine sat_walk (fn := Try.f163) rfl rfl rfl (Nat.le_of_ble_eq_true rfl) fun fr hP hN hbnd => ?_
  have hE : (envOf fr Try.prog).Ok := envOf_ok hP
  have hM := follows_of hP
  have hS : ∀ {draw ops}, statB Try.f163.ntmps draw ops = true → statB (envOf fr Try.prog).fr.N draw ops = true := fun h => by rw [envOf_fr, hN]; exact h
  repeat' (first
    | exact True.intro
    | refine ev_seq ?_
    | ((first | refine vgd_go ?_ | refine ev_region hE hM (hS (by decide +kernel)) ?_ | refine ev_if ?_ | refine end_ret hE rfl rfl ?_ | refine end_norm hE rfl rfl ?_ | refine endG_ret [] hE rfl ?_ | refine endG_norm [] hE rfl ?_ | refine vcallB_of hP (s_l1Union a b h hx) ?_ | refine vcallB_of hP (s_l1Area (un a b) (un_len a b)) ?_ | refine vcallB_of hP (s_l1Area a h.h1) ?_ | refine vcall_A ?_); simp (maxSteps := 2000000) only [go_sem, hP, ↓reduceIte, Nat.reduceAdd, Nat.reduceMul, Nat.reduceEqDiff, Nat.reduceSub, Nat.reduceLeDiff, reduceCtorEq])
    | refine ev_skip ?_ | refine ev_block ?_ | refine ev_blk ?_ | refine ev_ret ?_ | refine ev_exit ?_ | refine evx_code_ret ?_ | refine evx_blk_ret ?_ | refine evx_lp_ret ?_
    | refine evx_code_exit ?_ | refine evx_lp_exit ?_ | refine evx_blk_hit ?_ | refine evx_blk_pass (by decide) ?_
    | refine And.intro ?_ ?_ | intro _ | decide +kernel | omega)
  all_goals rfl
theorem s_growth (a b : Rect) (h : Lens a b) (hx : a.low.length ≤ 1048576) : Sat Try.prog 160 [aR a, aR b] true (rI (growth a b)) := by
  refine sat_walk (fn := Try.f160) rfl rfl rfl (Nat.le_of_ble_eq_true rfl) fun fr hP hN hbnd => ?_
  have hE : (envOf fr Try.prog).Ok := envOf_ok hP
  have hM := follows_of hP
  have hS : ∀ {draw ops}, statB Try.f160.ntmps draw ops = true → statB (envOf fr Try.prog).fr.N draw ops = true := fun h => by rw [envOf_fr, hN]; exact h
  repeat' (first
    | exact True.intro
    | refine ev_seq ?_
    | ((first | refine vgd_go ?_ | refine ev_region hE hM (hS (by decide +kernel)) ?_ | refine ev_if ?_ | refine end_ret hE rfl rfl ?_ | refine end_norm hE rfl rfl ?_ | refine endG_ret [] hE rfl ?_ | refine endG_norm [] hE rfl ?_ | refine vcallB_of hP (s_union a b h hx) ?_ | refine vcallB_of hP (s_implarea (un a b) (un_len a b)) ?_ | refine vcallB_of hP (s_implarea a h.h1) ?_ | refine vcall_A ?_); simp (maxSteps := 2000000) only [go_sem, hP, ↓reduceIte, Nat.reduceAdd, Nat.reduceMul, Nat.reduceEqDiff, Nat.reduceSub, Nat.reduceLeDiff, reduceCtorEq])
    | refine ev_skip ?_ | refine ev_block ?_ | refine ev_blk ?_ | refine ev_ret ?_ | refine ev_exit ?_ | refine evx_code_ret ?_ | refine evx_blk_ret ?_ | refine evx_lp_ret ?_
    | refine evx_code_exit ?_ | refine evx_lp_exit ?_ | refine evx_blk_hit ?_ | refine evx_blk_pass (by decide) ?_
    | refine And.intro ?_ ?_ | intro _ | decide +kernel | omega)
  all_goals rfl
theorem s_GrowthOf1 (a b : Rect) (h : two a b = 0) : Sat Try.prog 159 [pR a, pR b] true (rI (growth a b)) := by
  refine sat_walk (fn := Try.f159) rfl rfl rfl (Nat.le_of_ble_eq_true rfl) fun fr hP hN hbnd => ?_
  have hE : (envOf fr Try.prog).Ok := envOf_ok hP
  have hM := follows_of hP
  have hS : ∀ {draw ops}, statB Try.f159.ntmps draw ops = true → statB (envOf fr Try.prog).fr.N draw ops = true := fun h => by rw [envOf_fr, hN]; exact h
  repeat' (first
    | exact True.intro
    | refine ev_seq ?_
    | ((first | refine vgd_go ?_ | refine ev_region hE hM (hS (by decide +kernel)) ?_ | refine ev_if ?_ | refine end_ret hE rfl rfl ?_ | refine end_norm hE rfl rfl ?_ | refine endG_ret [] hE rfl ?_ | refine endG_norm [] hE rfl ?_ | refine vcallB_of hP (s_growth a b (two_lens h) (by have := (two_fit h).n; omega)) ?_ | refine vcall_A ?_); simp (maxSteps := 2000000) only [go_sem, hP, ↓reduceIte, Nat.reduceAdd, Nat.reduceMul, Nat.reduceEqDiff, Nat.reduceSub, Nat.reduceLeDiff, reduceCtorEq])
    | refine ev_skip ?_ | refine ev_block ?_ | refine ev_blk ?_ | refine ev_ret ?_ | refine ev_exit ?_ | refine evx_code_ret ?_ | refine evx_blk_ret ?_ | refine evx_lp_ret ?_
    | refine evx_code_exit ?_ | refine evx_lp_exit ?_ | refine evx_blk_hit ?_ | refine evx_blk_pass (by decide) ?_
    | refine And.intro ?_ ?_ | intro _ | decide +kernel | omega)
theorem s_specGrowthOf (a b : Rect) : Sat Try.prog 58 [aR a, aR b] true (rIR (two a b) (val (two a b) (growth a b))) := by
  refine sat_walk (fn := Try.f58) rfl rfl rfl (Nat.le_of_ble_eq_true rfl) fun fr hP hN hbnd => ?_
  have hE : (envOf fr Try.prog).Ok := envOf_ok hP
  have hM := follows_of hP
  have hS : ∀ {draw ops}, statB Try.f58.ntmps draw ops = true → statB (envOf fr Try.prog).fr.N draw ops = true := fun h => by rw [envOf_fr, hN]; exact h
  repeat' (first
    | exact True.intro
    | refine ev_seq ?_
    | ((first | refine vgd_go ?_ | refine ev_region hE hM (hS (by decide +kernel)) ?_ | refine ev_if ?_ | refine end_ret hE rfl rfl ?_ | refine end_norm hE rfl rfl ?_ | refine endG_ret [] hE rfl ?_ | refine endG_norm [] hE rfl ?_ | refine vcallB_of hP (s_l1Two a b) ?_ | refine vcallB_of hP (s_l1Growth a b (two_lens (by simp_all)) (by have := (two_fit (a := a) (b := b) (by simp_all)).n; omega)) ?_ | refine vcall_A ?_); simp (maxSteps := 2000000) only [go_sem, hP, ↓reduceIte, Nat.reduceAdd, Nat.reduceMul, Nat.reduceEqDiff, Nat.reduceSub, Nat.reduceLeDiff, reduceCtorEq])
    | refine ev_skip ?_ | refine ev_block ?_ | refine ev_blk ?_ | refine ev_ret ?_ | refine ev_exit ?_ | refine evx_code_ret ?_ | refine evx_blk_ret ?_ | refine evx_lp_ret ?_
    | refine evx_code_exit ?_ | refine evx_lp_exit ?_ | refine evx_blk_hit ?_ | refine evx_blk_pass (by decide) ?_
    | refine And.intro ?_ ?_ | intro _ | decide +kernel | omega)
  all_goals simp_all [val]
theorem s_implGrowthOf (a b : Rect) : Sat Try.prog 56 [aR a, aR b] true (rIR (two a b) (val (two a b) (growth a b))) := by
  refine sat_walk (fn := Try.f56) rfl rfl rfl (Nat.le_of_ble_eq_true rfl) fun fr hP hN hbnd => ?_
  have hE : (envOf fr Try.prog).Ok := envOf_ok hP
  have hM := follows_of hP
  have hS : ∀ {draw ops}, statB Try.f56.ntmps draw ops = true → statB (envOf fr Try.prog).fr.N draw ops = true := fun h => by rw [envOf_fr, hN]; exact h
  repeat' (first
    | exact True.intro
    | refine ev_seq ?_
    | ((first | refine vgd_go ?_ | refine ev_region hE hM (hS (by decide +kernel)) ?_ | refine ev_if ?_ | refine end_ret hE rfl rfl ?_ | refine end_norm hE rfl rfl ?_ | refine endG_ret [] hE rfl ?_ | refine endG_norm [] hE rfl ?_ | refine vcallB_of hP (s_twoFault a b) ?_ | refine vcallB_of hP (s_valued _ (growth a b) _ (fun h => s_GrowthOf1 a b h)) ?_ | refine vcall_A ?_); simp (maxSteps := 2000000) only [go_sem, hP, ↓reduceIte, Nat.reduceAdd, Nat.reduceMul, Nat.reduceEqDiff, Nat.reduceSub, Nat.reduceLeDiff, reduceCtorEq])
    | refine ev_skip ?_ | refine ev_block ?_ | refine ev_blk ?_ | refine ev_ret ?_ | refine ev_exit ?_ | refine evx_code_ret ?_ | refine evx_blk_ret ?_ | refine evx_lp_ret ?_
    | refine evx_code_exit ?_ | refine evx_lp_exit ?_ | refine evx_blk_hit ?_ | refine evx_blk_pass (by decide) ?_
    | refine And.intro ?_ ?_ | intro _ | decide +kernel | omega)
  all_goals simp_all [val]
theorem s_DrawGrowthOf (c : List Int) (hc : codeOk c) : Sat Try.prog 55 [aY c] false [(true, cR (unA c)), (true, cR (unB c))] := by
  refine sat_walk (fn := Try.f55) rfl rfl rfl (Nat.le_of_ble_eq_true rfl) fun fr hP hN hbnd => ?_
  have hE : (envOf fr Try.prog).Ok := envOf_ok hP
  have hM := follows_of hP
  have hS : ∀ {draw ops}, statB Try.f55.ntmps draw ops = true → statB (envOf fr Try.prog).fr.N draw ops = true := fun h => by rw [envOf_fr, hN]; exact h
  repeat' (first
    | exact True.intro
    | refine ev_seq ?_
    | ((first | refine vgd_go ?_ | refine ev_region hE hM (hS (by decide +kernel)) ?_ | refine ev_if ?_ | refine end_ret hE rfl rfl ?_ | refine end_norm hE rfl rfl ?_ | refine endG_ret [] hE rfl ?_ | refine endG_norm [] hE rfl ?_ | refine vcallB_of hP (s_DrawUnionOf c hc) ?_ | refine vcall_A ?_); simp (maxSteps := 2000000) only [go_sem, hP, ↓reduceIte, Nat.reduceAdd, Nat.reduceMul, Nat.reduceEqDiff, Nat.reduceSub, Nat.reduceLeDiff, reduceCtorEq])
    | refine ev_skip ?_ | refine ev_block ?_ | refine ev_blk ?_ | refine ev_ret ?_ | refine ev_exit ?_ | refine evx_code_ret ?_ | refine evx_blk_ret ?_ | refine evx_lp_ret ?_
    | refine evx_code_exit ?_ | refine evx_lp_exit ?_ | refine evx_blk_hit ?_ | refine evx_blk_pass (by decide) ?_
    | refine And.intro ?_ ?_ | intro _ | decide +kernel | omega)
def prodTo (r : Rect) : Nat → Int
  | 0 => 1
  | k + 1 => prodTo r k * (r.high.getD k default - r.low.getD k default)
theorem p2000 (k : Nat) : (0 : Int) ≤ 2000 ^ k := Int.pow_nonneg (by omega)
theorem prodTo_in {r : Rect} {n : Nat} (h : ∀ k, k < n → -1000 ≤ r.low.getD k default ∧ r.low.getD k default ≤ r.high.getD k default ∧ r.high.getD k default ≤ 1000) : ∀ k, k ≤ n → 0 ≤ prodTo r k ∧ prodTo r k ≤ 2000 ^ k
  | 0, _ => by simp [prodTo]
  | k + 1, hk => by
    obtain ⟨h1, h2⟩ := prodTo_in h k (by omega)
    have e := h k (by omega)
    simp only [prodTo]
    refine ⟨Int.mul_nonneg h1 (by omega), ?_⟩
    rw [Int.pow_succ]
    exact Int.mul_le_mul h2 (by omega) (by omega) (p2000 k)
theorem p2000_le {k : Nat} (h : k ≤ 3) : (2000 : Int) ^ k ≤ 8000000000 := by
  match k, h with
  | 0, _ => decide
  | 1, _ => decide
  | 2, _ => decide
  | 3, _ => decide
theorem areaTo_prod {r : Rect} {n : Nat} (hn : n ≤ 3) (h : ∀ k, k < n → -1000 ≤ r.low.getD k default ∧ r.low.getD k default ≤ r.high.getD k default ∧ r.high.getD k default ≤ 1000) : ∀ k, k ≤ n → areaTo r k = prodTo r k
  | 0, _ => rfl
  | k + 1, hk => by
    have e := h k (by omega)
    have p1 := prodTo_in h (k + 1) hk
    have p2 := p2000_le (k := k + 1) (by omega)
    have ih := areaTo_prod hn h k (by omega)
    show IntKind.i64.wrap (areaTo r k * IntKind.i64.wrap (r.high.getD k default - r.low.getD k default)) = prodTo r (k + 1)
    rw [ih, wr_small (n := r.high.getD k default - r.low.getD k default) (by omega)]
    have e2 : prodTo r k * (r.high.getD k default - r.low.getD k default) = prodTo r (k + 1) := rfl
    rw [e2]
    exact i64_in _ (by omega)
theorem prodTo_mono {a b : Rect} {n : Nat} (ha : ∀ k, k < n → -1000 ≤ a.low.getD k default ∧ a.low.getD k default ≤ a.high.getD k default ∧ a.high.getD k default ≤ 1000) (hb : ∀ k, k < n → b.low.getD k default ≤ a.low.getD k default ∧ a.high.getD k default ≤ b.high.getD k default) : ∀ k, k ≤ n → prodTo a k ≤ prodTo b k
  | 0, _ => Int.le_refl _
  | k + 1, hk => by
    have ih := prodTo_mono ha hb k (by omega)
    have p1 := (prodTo_in ha k (by omega)).1
    have e1 := ha k (by omega)
    have e2 := hb k (by omega)
    simp only [prodTo]
    exact Int.mul_le_mul ih (by omega) (by omega) (by omega)
theorem area_in {r : Rect} {d : Int} (h : rf r d = 0) : area r = prodTo r r.low.length ∧ 0 ≤ area r ∧ area r ≤ 8000000000 := by
  have h3 := rf_three h
  have e := areaTo_prod h3 (fun k hk => rf_at h k hk) _ (Nat.le_refl _)
  have p := prodTo_in (fun k hk => rf_at h k hk) _ (Nat.le_refl r.low.length)
  have q := p2000_le h3
  unfold area
  rw [e]
  exact ⟨rfl, p.1, by omega⟩
theorem area_mono {a b : Rect} (h : two a b = 0) (hc : covers a b = true) : area b ≤ area a := by
  have f := two_fit h
  obtain ⟨h1, h2⟩ := two_iff.1 h
  rw [(area_in h1).1, (area_in h2).1, f.l.h2]
  exact prodTo_mono f.b1 (fun k hk => covers_iff.1 hc k hk) _ (Nat.le_refl _)
theorem growth_in {a b : Rect} (h : two a b = 0) : 0 ≤ growth a b ∧ growth a b ≤ 8000000000 ∧ growth a b = area (un a b) - area a := by
  obtain ⟨u1, u2⟩ := two_un_left h
  have m := area_mono u1 u2
  obtain ⟨h1, h2⟩ := two_iff.1 h
  have e1 := area_in h1
  have e2 := area_in (rf_un h)
  have e : growth a b = area (un a b) - area a := i64_in _ (by omega)
  omega
def ovP (a b : Rect) : Nat → Int
  | 0 => 1
  | k + 1 => ovP a b k * ovAt a b k
theorem ovAt_in {a b : Rect} (f : Fit a b) {k : Nat} (hk : k < a.low.length) : 0 ≤ ovAt a b k ∧ ovAt a b k ≤ a.high.getD k default - a.low.getD k default ∧ ovAt a b k ≤ b.high.getD k default - b.low.getD k default ∧ ovAt b a k = ovAt a b k := by
  have e1 := f.a1 k hk
  have e2 := f.b1 k hk
  unfold ovAt
  omega
theorem ovP_in {a b : Rect} (f : Fit a b) : ∀ k, k ≤ a.low.length → 0 ≤ ovP a b k ∧ ovP a b k ≤ prodTo a k ∧ ovP a b k ≤ prodTo b k ∧ ovP b a k = ovP a b k ∧ ovTo a b k = ovP a b k
  | 0, _ => by simp [ovP, prodTo]
  | k + 1, hk => by
    obtain ⟨h1, h2, h3, h4, h5⟩ := ovP_in f k (by omega)
    obtain ⟨e1, e2, e3, e4⟩ := ovAt_in f (k := k) (by omega)
    have a1 := prodTo_in f.a1 k (by omega)
    have b1 := prodTo_in f.b1 k (by omega)
    have a2 := prodTo_in f.a1 (k + 1) hk
    have q := p2000_le (k := k + 1) (by have := f.n; omega)
    have g1 : ovP a b (k + 1) ≤ prodTo a (k + 1) := by simp only [ovP, prodTo]; exact Int.mul_le_mul h2 e2 e1 (by omega)
    have g2 : ovP a b (k + 1) ≤ prodTo b (k + 1) := by simp only [ovP, prodTo]; exact Int.mul_le_mul h3 e3 e1 (by omega)
    have g0 : 0 ≤ ovP a b (k + 1) := by simp only [ovP]; exact Int.mul_nonneg h1 e1
    refine ⟨g0, g1, g2, by simp only [ovP]; rw [h4, e4], ?_⟩
    show IntKind.i64.wrap (ovTo a b k * ovAt a b k) = ovP a b (k + 1)
    rw [h5]
    have : ovP a b k * ovAt a b k = ovP a b (k + 1) := rfl
    rw [this]
    exact i64_in _ (by omega)
theorem overlap_in {a b : Rect} (h : two a b = 0) : 0 ≤ overlap a b ∧ overlap a b ≤ area a ∧ overlap a b ≤ area b ∧ overlap b a = overlap a b := by
  have f := two_fit h
  have f' := two_fit (two_symm h)
  obtain ⟨h1, h2⟩ := two_iff.1 h
  obtain ⟨e1, e2, e3, e4, e5⟩ := ovP_in f _ (Nat.le_refl _)
  have e6 := (ovP_in f' _ (Nat.le_refl _)).2.2.2.2
  unfold overlap
  rw [(area_in h1).1, (area_in h2).1, e5, e6, f.l.h2, e4]
  exact ⟨e1, e2, e3, rfl⟩
theorem marginTo_mono {a b : Rect} {n : Nat} (hn : n ≤ 3) (ha : ∀ k, k < n → -1000 ≤ a.low.getD k default ∧ a.low.getD k default ≤ a.high.getD k default ∧ a.high.getD k default ≤ 1000) (hb : ∀ k, k < n → -1000 ≤ b.low.getD k default ∧ b.low.getD k default ≤ a.low.getD k default ∧ a.high.getD k default ≤ b.high.getD k default ∧ b.high.getD k default ≤ 1000) : ∀ k, k ≤ n → 0 ≤ marginTo a k ∧ marginTo a k ≤ marginTo b k ∧ marginTo b k ≤ 2000 * k
  | 0, _ => by simp
  | k + 1, hk => by
    obtain ⟨h1, h2, h3⟩ := marginTo_mono hn ha hb k (by omega)
    have e1 := ha k (by omega)
    have e2 := hb k (by omega)
    have w1 : marginTo a (k + 1) = marginTo a k + (a.high.getD k default - a.low.getD k default) := by
      show IntKind.i64.wrap _ = _
      exact wr_small (by omega)
    have w2 : marginTo b (k + 1) = marginTo b k + (b.high.getD k default - b.low.getD k default) := by
      show IntKind.i64.wrap _ = _
      exact wr_small (by omega)
    rw [w1, w2]
    omega
theorem margin_mono {a b : Rect} (h : two a b = 0) (hc : covers a b = true) : margin b ≤ margin a := by
  have f := two_fit h
  unfold margin
  rw [f.l.h2]
  exact (marginTo_mono f.n f.b1 (fun k hk => by have := f.a1 k hk; have := covers_iff.1 hc k hk; omega) _ (Nat.le_refl _)).2.1
theorem eqInts_self (ns : List Int) : eqInts ns ns = true := by
  induction ns with
  | nil => rfl
  | cons n ns ih => simp [eqInts, ih]
section
variable {c : Cx} {i : Nat} {dst : Option Nat} {rest : List Oper} {acc : List (List Nat × List Nat)} {st : St} {P : Program} {t : Nat} {x y : T}
theorem vbin_ne (ns : List Int) (hP : c.E.fr.P = P) (ht : intsTy P t ns.length = true) (hx : x = .agg (ns.map fun n => .c (.int .i64 n))) (hy : y = .agg (ns.map fun n => .c (.int .i64 n)))
    (h : vops c (i + 1) rest (([], keysE ⟨.c (.bool false), [], []⟩) :: acc) (app st dst ⟨.c (.bool false), [], []⟩)) : vbin c i dst rest acc st .neq t x y := vbin_of ns ns false hP ht hx hy rfl (by rw [eqInts_self]; rfl) h
theorem vbin_eq (ns : List Int) (hP : c.E.fr.P = P) (ht : intsTy P t ns.length = true) (hx : x = .agg (ns.map fun n => .c (.int .i64 n))) (hy : y = .agg (ns.map fun n => .c (.int .i64 n)))
    (h : vops c (i + 1) rest (([], keysE ⟨.c (.bool true), [], []⟩) :: acc) (app st dst ⟨.c (.bool true), [], []⟩)) : vbin c i dst rest acc st .eql t x y := vbin_of ns ns true hP ht hx hy rfl (by rw [eqInts_self]; rfl) h
end
theorem l_FnAreas (c : List Int) (hb : ∀ b ∈ c, 0 ≤ b ∧ b < 256) : Sat Try.prog 10 [aY c] true (rB true) := by
  refine sat_walk (fn := Try.f10) rfl rfl rfl (Nat.le_of_ble_eq_true rfl) fun fr hP hN hbnd => ?_
  have hE : (envOf fr Try.prog).Ok := envOf_ok hP
  have hM := follows_of hP
  have hS : ∀ {draw ops}, statB Try.f10.ntmps draw ops = true → statB (envOf fr Try.prog).fr.N draw ops = true := fun h => by rw [envOf_fr, hN]; exact h
  by_cases hbig : 1048576 < c.length
  · have hz : decide (1048576 < c.length) = true := by simpa using hbig
    have k0 := s_lwBig c
    rw [hz] at k0
    repeat' (first
      | exact True.intro
      | refine ev_seq ?_
      | ((first | refine vgd_go ?_ | refine ev_region hE hM (hS (by decide +kernel)) ?_ | refine ev_if ?_ | refine end_ret hE rfl rfl ?_ | refine end_norm hE rfl rfl ?_ | refine endG_ret [] hE rfl ?_ | refine endG_norm [] hE rfl ?_ | refine vcallB_of hP k0 ?_ | refine vcall_A ?_); simp (maxSteps := 2000000) only [go_sem, hP, ↓reduceIte, Nat.reduceAdd, Nat.reduceMul, Nat.reduceEqDiff, Nat.reduceSub, Nat.reduceLeDiff, reduceCtorEq])
      | refine ev_skip ?_ | refine ev_block ?_ | refine ev_blk ?_ | refine ev_ret ?_ | refine ev_exit ?_ | refine evx_code_ret ?_ | refine evx_blk_ret ?_ | refine evx_lp_ret ?_
      | refine evx_code_exit ?_ | refine evx_lp_exit ?_ | refine evx_blk_hit ?_ | refine evx_blk_pass (by decide) ?_
      | refine And.intro ?_ ?_ | intro _ | decide +kernel | omega)
  have hz : decide (1048576 < c.length) = false := by simpa using hbig
  have k0 := s_lwBig c
  rw [hz] at k0
  have hc : codeOk c := ⟨by omega, hb⟩
  have k1 := s_DrawGrowthOf c hc
  generalize unA c = a at k1
  generalize unB c = b at k1
  have k2 := s_implGrowthOf a b
  have k3 := s_specGrowthOf a b
  have k4 := s_implOverlapOf a b
  have k5 := s_specOverlapOf a b
  have k6 := s_implAreaOf a
  have k7 := s_specAreaOf a
  have k8 := s_implMarginOf a
  have k9 := s_specMarginOf a
  have m0 : (0 != (0 : Int)) = false := rfl
  have be : ∀ x : Int, (x == x) = true := fun x => by simp
  by_cases hT : two a b = 0
  · obtain ⟨h1, h2⟩ := two_iff.1 hT
    have l := two_lens hT
    have h3 : rf b b.low.length = 0 := by rw [l.h2]; exact h2
    have h4 : rf (un a b) (un a b).low.length = 0 := by rw [un_low_len]; exact rf_un hT
    have ka := s_implUnionOf a b
    have kb := s_implAreaOf b
    have kc := s_implOverlapOf b a
    have kd := s_implAreaOf (un a b)
    have ke := s_implMarginOf (un a b)
    have kf := s_implMarginOf b
    have kg := s_implMeets a b
    obtain ⟨o1, o2, o3, o4⟩ := overlap_in hT
    obtain ⟨g1, g2, g3⟩ := growth_in hT
    have e1 := area_in h1
    have e2 := area_in h4
    obtain ⟨u3, u4⟩ := two_un_right hT
    have mm := margin_mono u3 u4
    rw [two_symm hT, o4] at kc
    rw [hT] at k2 k3 k4 k5 ka kg
    rw [h1] at k6 k7 k8 k9
    rw [h3] at kb kf
    rw [h4] at kd ke
    simp only [val, valR, ↓reduceIte] at k2 k3 k4 k5 k6 k7 k8 k9 ka kb kc kd ke kf
    have d1 : decide (0 ≤ growth a b) = true := by simpa using g1
    have d2 : decide (0 ≤ overlap a b) = true := by simpa using o1
    have d3 : decide (overlap a b ≤ area a) = true := by simpa using o2
    have d4 : decide (overlap a b ≤ area b) = true := by simpa using o3
    have d5 : IntKind.i64.wrap (area a + growth a b) = area (un a b) := by rw [i64_in _ (by omega)]; omega
    have d6 : decide (margin b ≤ margin (un a b)) = true := by simpa using mm
    have hm : overlap a b ≠ 0 → meets a b = true := fun h => by
      by_cases hq : meets a b = true
      · exact hq
      · exact absurd (overlap_apart (two_fit hT) (by simpa using hq)) h
    generalize overlap a b = o at *
    generalize growth a b = g at *
    generalize area a = x at *
    generalize area b = y at *
    generalize margin a = z at *
    by_cases ho : o = 0
    · have ho' : (o == 0) = true := by simpa using ho
      repeat' (first
        | exact True.intro
        | refine ev_seq ?_
        | ((first | refine vgd_go ?_ | refine ev_region hE hM (hS (by decide +kernel)) ?_ | refine ev_if ?_ | refine end_ret hE rfl rfl ?_ | refine end_norm hE rfl rfl ?_ | refine endG_ret [] hE rfl ?_ | refine endG_norm [] hE rfl ?_ | refine vcallB_of hP k0 ?_ | refine vcallB_of hP k1 ?_ | refine vcallB_of hP k2 ?_ | refine vcallB_of hP k3 ?_ | refine vcallB_of hP k4 ?_ | refine vcallB_of hP k5 ?_ | refine vcallB_of hP k6 ?_ | refine vcallB_of hP k7 ?_ | refine vcallB_of hP k8 ?_ | refine vcallB_of hP k9 ?_ | refine vcallB_of hP ka ?_ | refine vcallB_of hP kb ?_ | refine vcallB_of hP kc ?_ | refine vcallB_of hP kd ?_ | refine vcallB_of hP ke ?_ | refine vcallB_of hP kf ?_ | refine vcallB_of hP kg ?_ | refine vbin_ne [0, g] hP (by kernel_rfl) rfl rfl ?_ | refine vbin_ne [0, o] hP (by kernel_rfl) rfl rfl ?_ | refine vbin_ne [0, x] hP (by kernel_rfl) rfl rfl ?_ | refine vbin_ne [0, z] hP (by kernel_rfl) rfl rfl ?_ | refine vbin_eq [0, o] hP (by kernel_rfl) rfl rfl ?_ | refine vcall_A ?_); simp (maxSteps := 2000000) only [go_sem, hP, ↓reduceIte, Nat.reduceAdd, Nat.reduceMul, Nat.reduceEqDiff, Nat.reduceSub, Nat.reduceLeDiff, reduceCtorEq, m0, be, d1, d2, d3, d4, d5, d6, ho', List.length_map])
        | refine ev_skip ?_ | refine ev_block ?_ | refine ev_blk ?_ | refine ev_ret ?_ | refine ev_exit ?_ | refine evx_code_ret ?_ | refine evx_blk_ret ?_ | refine evx_lp_ret ?_
        | refine evx_code_exit ?_ | refine evx_lp_exit ?_ | refine evx_blk_hit ?_ | refine evx_blk_pass (by decide) ?_
        | refine And.intro ?_ ?_ | intro _ | decide +kernel | omega)
      all_goals first | (simp_all; done) | trace_state
    · have ho' : (o == 0) = false := by simpa using ho
      rw [hm ho] at kg
      repeat' (first
        | exact True.intro
        | refine ev_seq ?_
        | ((first | refine vgd_go ?_ | refine ev_region hE hM (hS (by decide +kernel)) ?_ | refine ev_if ?_ | refine end_ret hE rfl rfl ?_ | refine end_norm hE rfl rfl ?_ | refine endG_ret [] hE rfl ?_ | refine endG_norm [] hE rfl ?_ | refine vcallB_of hP k0 ?_ | refine vcallB_of hP k1 ?_ | refine vcallB_of hP k2 ?_ | refine vcallB_of hP k3 ?_ | refine vcallB_of hP k4 ?_ | refine vcallB_of hP k5 ?_ | refine vcallB_of hP k6 ?_ | refine vcallB_of hP k7 ?_ | refine vcallB_of hP k8 ?_ | refine vcallB_of hP k9 ?_ | refine vcallB_of hP ka ?_ | refine vcallB_of hP kb ?_ | refine vcallB_of hP kc ?_ | refine vcallB_of hP kd ?_ | refine vcallB_of hP ke ?_ | refine vcallB_of hP kf ?_ | refine vcallB_of hP kg ?_ | refine vbin_ne [0, g] hP (by kernel_rfl) rfl rfl ?_ | refine vbin_ne [0, o] hP (by kernel_rfl) rfl rfl ?_ | refine vbin_ne [0, x] hP (by kernel_rfl) rfl rfl ?_ | refine vbin_ne [0, z] hP (by kernel_rfl) rfl rfl ?_ | refine vbin_eq [0, o] hP (by kernel_rfl) rfl rfl ?_ | refine vcall_A ?_); simp (maxSteps := 2000000) only [go_sem, hP, ↓reduceIte, Nat.reduceAdd, Nat.reduceMul, Nat.reduceEqDiff, Nat.reduceSub, Nat.reduceLeDiff, reduceCtorEq, m0, be, d1, d2, d3, d4, d5, d6, ho', List.length_map])
        | refine ev_skip ?_ | refine ev_block ?_ | refine ev_blk ?_ | refine ev_ret ?_ | refine ev_exit ?_ | refine evx_code_ret ?_ | refine evx_blk_ret ?_ | refine evx_lp_ret ?_
        | refine evx_code_exit ?_ | refine evx_lp_exit ?_ | refine evx_blk_hit ?_ | refine evx_blk_pass (by decide) ?_
        | refine And.intro ?_ ?_ | intro _ | decide +kernel | omega)
      all_goals first | (simp_all; done) | trace_state
  · have hT' : (two a b != 0) = true := by simpa using hT
    generalize val (two a b) (growth a b) = g at *
    generalize val (two a b) (overlap a b) = o at *
    generalize val (rf a a.low.length) (area a) = x at *
    generalize val (rf a a.low.length) (margin a) = z at *
    generalize two a b = t at *
    generalize rf a a.low.length = w at *
    repeat' (first
      | exact True.intro
      | refine ev_seq ?_
      | ((first | refine vgd_go ?_ | refine ev_region hE hM (hS (by decide +kernel)) ?_ | refine ev_if ?_ | refine end_ret hE rfl rfl ?_ | refine end_norm hE rfl rfl ?_ | refine endG_ret [] hE rfl ?_ | refine endG_norm [] hE rfl ?_ | refine vcallB_of hP k0 ?_ | refine vcallB_of hP k1 ?_ | refine vcallB_of hP k2 ?_ | refine vcallB_of hP k3 ?_ | refine vcallB_of hP k4 ?_ | refine vcallB_of hP k5 ?_ | refine vcallB_of hP k6 ?_ | refine vcallB_of hP k7 ?_ | refine vcallB_of hP k8 ?_ | refine vcallB_of hP k9 ?_ | refine vbin_ne [t, g] hP (by kernel_rfl) rfl rfl ?_ | refine vbin_ne [t, o] hP (by kernel_rfl) rfl rfl ?_ | refine vbin_ne [w, x] hP (by kernel_rfl) rfl rfl ?_ | refine vbin_ne [w, z] hP (by kernel_rfl) rfl rfl ?_ | refine vcall_A ?_); simp (maxSteps := 2000000) only [go_sem, hP, ↓reduceIte, Nat.reduceAdd, Nat.reduceMul, Nat.reduceEqDiff, Nat.reduceSub, Nat.reduceLeDiff, reduceCtorEq, m0, be, hT'])
      | refine ev_skip ?_ | refine ev_block ?_ | refine ev_blk ?_ | refine ev_ret ?_ | refine ev_exit ?_ | refine evx_code_ret ?_ | refine evx_blk_ret ?_ | refine evx_lp_ret ?_
      | refine evx_code_exit ?_ | refine evx_lp_exit ?_ | refine evx_blk_hit ?_ | refine evx_blk_pass (by decide) ?_
      | refine And.intro ?_ ?_ | intro _ | decide +kernel | omega)
    all_goals first | (simp_all; done) | trace_state
theorem all_FnAreas (gs : List Arg) (h : shpA Try.prog 12 [65] gs) : Sat Try.prog 10 gs true (rB true) := by
  obtain ⟨x0, gs, rfl, h0, rfl⟩ := h
  obtain ⟨c, rfl, hb⟩ := shp_Y (n := 10) rfl h0
  exact l_FnAreas c hb
end Go.Proofs.Ytmpndkhnajogkaa.W
