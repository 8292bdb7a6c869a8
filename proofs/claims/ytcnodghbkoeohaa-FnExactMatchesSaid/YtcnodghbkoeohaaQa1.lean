/- Contracts of functions that FnExactMatches reaches: what each returns; it writes to nothing of old. No condition but those that each theorem states. -/
import Derived.Test.YtcnodghbkoeohaaQa0
open Go Go.Vm Go.Proofs Go.IntWalk Go.RowKit
set_option maxRecDepth 100000
set_option maxHeartbeats 4000000
set_option linter.unusedSimpArgs false
set_option linter.unusedVariables false
set_option linter.unusedSectionVars false
namespace Go.Proofs.Ytcnodghbkoeohaa.W
attribute [local irreducible] kJ ev evx vops vstep vgo vgd vget vcall vcallFn vcallA vcallB vts vres vcond
theorem s_specRectFault (r : Rect) (d : Int) : Sat Try.prog 101 [aR r, aI d] true (rI (rf r d)) := by
  refine sat_walk (fn := Try.f101) rfl rfl rfl (Nat.le_of_ble_eq_true rfl) fun fr hP hN hbnd => ?_
  have hE : (envOf fr Try.prog).Ok := envOf_ok hP
  have hM := follows_of hP
  have hS : ∀ {draw ops}, statB Try.f101.ntmps draw ops = true → statB (envOf fr Try.prog).fr.N draw ops = true := fun h => by rw [envOf_fr, hN]; exact h
  have hl := bndR hbnd
  repeat' (first
    | exact True.intro
    | refine ev_seq ?_
    | ((first | refine vgd_go ?_ | refine ev_region hE hM (hS (by decide +kernel)) ?_ | refine ev_if ?_ | refine end_ret hE rfl rfl ?_ | refine end_norm hE rfl rfl ?_ | refine vcall_A ?_ | refine vcallB_of hP (s_specPointFault _ _) ?_); simp (maxSteps := 2000000) only [go_sem, hP, ↓reduceIte, Nat.reduceAdd, Nat.reduceMul, Nat.reduceEqDiff, Nat.reduceSub, Nat.reduceLeDiff, reduceCtorEq])
    | refine ev_skip ?_ | refine ev_block ?_ | refine ev_blk ?_ | refine ev_ret ?_ | refine ev_exit ?_ | refine evx_code_ret ?_ | refine evx_blk_ret ?_ | refine evx_lp_ret ?_
    | refine evx_code_exit ?_ | refine evx_lp_exit ?_ | refine evx_blk_hit ?_ | refine evx_blk_pass (by decide) ?_
    | refine And.intro ?_ ?_ | intro _ | decide +kernel | omega)
  · simp_all [rf]
  · simp_all [rf]
  rename_i h1 h2
  have e1 := pf_len (by simpa using h1)
  have e2 := pf_len (by simpa using h2)
  refine ev_loop (ι := Nat) (fun k => [(2, .ptr 0 0), (7, .c (.int .i64 k))]) (fun k => [(0, .box [.c (sI r.low), .c (sI r.high)])]) (fun _ => []) (fun k => k ≤ r.low.length ∧ allLt k (fun j => decide (r.low.getD j default ≤ r.high.getD j default)) = true) (fun k => r.low.length - k) 0 [] (by simp [allLt_zero] <;> omega) (by simp only [go_sem, hP, ↓reduceIte, Nat.reduceAdd, Nat.reduceMul, Nat.reduceEqDiff, Nat.reduceSub, Nat.reduceLeDiff, reduceCtorEq]; simp) ?_
  intro k hk
  repeat' (first
    | exact True.intro
    | refine ev_seq ?_
    | ((first | refine vgd_go ?_ | refine ev_region hE hM (hS (by decide +kernel)) ?_ | refine ev_if ?_ | refine end_ret hE rfl rfl ?_ | refine end_norm hE rfl rfl ?_ | refine vcall_A ?_); simp (maxSteps := 2000000) only [go_sem, hP, ↓reduceIte, Nat.reduceAdd, Nat.reduceMul, Nat.reduceEqDiff, Nat.reduceSub, Nat.reduceLeDiff, reduceCtorEq])
    | refine ev_skip ?_ | refine ev_block ?_ | refine ev_blk ?_ | refine ev_ret ?_ | refine ev_exit ?_ | refine evx_code_ret ?_ | refine evx_blk_ret ?_ | refine evx_lp_ret ?_
    | refine evx_code_exit ?_ | refine evx_lp_exit ?_ | refine evx_blk_hit ?_ | refine evx_blk_pass (by decide) ?_
    | refine And.intro ?_ ?_ | intro _ | decide +kernel | omega)
  · rename_i h3 h4
    have : lowHigh r = false := allLt_not (k := k) (by omega) (by simpa using h4)
    simp_all [rf]
  · rename_i h3 h4
    exact ev_lp (k + 1) [] ⟨by omega, allLt_step hk.2 (by simpa using h4)⟩ (by omega) (by simp only [go_sem, hP, ↓reduceIte, Nat.reduceAdd, Nat.reduceMul, Nat.reduceEqDiff, Nat.reduceSub, Nat.reduceLeDiff, reduceCtorEq]; simp; exact wrap_nat (by omega) hl.1)
  · have : lowHigh r = true := allLt_done (by omega) hk.2
    simp_all [rf]
theorem s_implRectFault (r : Rect) (d : Int) : Sat Try.prog 96 [aR r, aI d] true (rI (rf r d)) := by
  refine sat_walk (fn := Try.f96) rfl rfl rfl (Nat.le_of_ble_eq_true rfl) fun fr hP hN hbnd => ?_
  have hE : (envOf fr Try.prog).Ok := envOf_ok hP
  have hM := follows_of hP
  have hS : ∀ {draw ops}, statB Try.f96.ntmps draw ops = true → statB (envOf fr Try.prog).fr.N draw ops = true := fun h => by rw [envOf_fr, hN]; exact h
  have hl := bndR hbnd
  repeat' (first
    | exact True.intro
    | refine ev_seq ?_
    | ((first | refine vgd_go ?_ | refine ev_region hE hM (hS (by decide +kernel)) ?_ | refine ev_if ?_ | refine end_ret hE rfl rfl ?_ | refine end_norm hE rfl rfl ?_ | refine vcall_A ?_ | refine vcallB_of hP (s_implPointFault _ _) ?_); simp (maxSteps := 2000000) only [go_sem, hP, ↓reduceIte, Nat.reduceAdd, Nat.reduceMul, Nat.reduceEqDiff, Nat.reduceSub, Nat.reduceLeDiff, reduceCtorEq])
    | refine ev_skip ?_ | refine ev_block ?_ | refine ev_blk ?_ | refine ev_ret ?_ | refine ev_exit ?_ | refine evx_code_ret ?_ | refine evx_blk_ret ?_ | refine evx_lp_ret ?_
    | refine evx_code_exit ?_ | refine evx_lp_exit ?_ | refine evx_blk_hit ?_ | refine evx_blk_pass (by decide) ?_
    | refine And.intro ?_ ?_ | intro _ | decide +kernel | omega)
  · simp_all [rf]
  · simp_all [rf]
  rename_i h1 h2
  have e1 := pf_len (by simpa using h1)
  have e2 := pf_len (by simpa using h2)
  refine ev_loop (ι := Nat) (fun k => [(2, .ptr 0 0), (24, .c (sI r.low)), (25, .c (.int .i64 r.low.length)), (26, .c (.int .i64 k))]) (fun k => [(0, .box [.c (sI r.low), .c (sI r.high)])]) (fun _ => []) (fun k => k ≤ r.low.length ∧ allLt k (fun j => decide (r.low.getD j default ≤ r.high.getD j default)) = true) (fun k => r.low.length - k) 0 [] (by simp [allLt_zero] <;> omega) (by simp only [go_sem, hP, ↓reduceIte, Nat.reduceAdd, Nat.reduceMul, Nat.reduceEqDiff, Nat.reduceSub, Nat.reduceLeDiff, reduceCtorEq]; simp) ?_
  intro k hk
  repeat' (first
    | exact True.intro
    | refine ev_seq ?_
    | ((first | refine vgd_go ?_ | refine ev_region hE hM (hS (by decide +kernel)) ?_ | refine ev_if ?_ | refine end_ret hE rfl rfl ?_ | refine end_norm hE rfl rfl ?_ | refine vcall_A ?_); simp (maxSteps := 2000000) only [go_sem, hP, ↓reduceIte, Nat.reduceAdd, Nat.reduceMul, Nat.reduceEqDiff, Nat.reduceSub, Nat.reduceLeDiff, reduceCtorEq])
    | refine ev_skip ?_ | refine ev_block ?_ | refine ev_blk ?_ | refine ev_ret ?_ | refine ev_exit ?_ | refine evx_code_ret ?_ | refine evx_blk_ret ?_ | refine evx_lp_ret ?_
    | refine evx_code_exit ?_ | refine evx_lp_exit ?_ | refine evx_blk_hit ?_ | refine evx_blk_pass (by decide) ?_
    | refine And.intro ?_ ?_ | intro _ | decide +kernel | omega)
  · rename_i h3 h4
    have : lowHigh r = false := allLt_not (k := k) (by omega) (by simpa using h4)
    simp_all [rf]
  · rename_i h3 h4
    exact ev_lp (k + 1) [] ⟨by omega, allLt_step hk.2 (by simpa using h4)⟩ (by omega) (by simp only [go_sem, hP, ↓reduceIte, Nat.reduceAdd, Nat.reduceMul, Nat.reduceEqDiff, Nat.reduceSub, Nat.reduceLeDiff, reduceCtorEq]; simp; exact wrap_nat (by omega) hl.1)
  · have : lowHigh r = true := allLt_done (by omega) hk.2
    simp_all [rf]
theorem rf_len {r : Rect} {d : Int} (h : rf r d = 0) : (r.low.length : Int) = d ∧ (r.high.length : Int) = d := by
  unfold rf at h
  split at h
  · simp_all
  · split at h
    · simp_all
    · rename_i h1 h2
      exact ⟨pf_len (by simpa using h1), pf_len (by simpa using h2)⟩
def two (a b : Rect) : Int := if rf a a.low.length ≠ 0 then rf a a.low.length else rf b a.low.length
structure Lens (a b : Rect) : Prop where
  h1 : a.high.length = a.low.length
  h2 : b.low.length = a.low.length
  h3 : b.high.length = a.low.length
theorem two_lens {a b : Rect} (h : two a b = 0) : Lens a b := by
  unfold two at h
  split at h
  · simp_all
  · rename_i h1
    have e1 := rf_len (by simpa using h1)
    have e2 := rf_len h
    exact ⟨by omega, by omega, by omega⟩
def coversAt (a b : Rect) (j : Nat) : Bool := !(decide (a.low.getD j default > b.low.getD j default) || decide (a.high.getD j default < b.high.getD j default))
def covers (a b : Rect) : Bool := allLt a.low.length (coversAt a b)
theorem s_l1Covers (a b : Rect) (h : Lens a b) : Sat Try.prog 154 [pR a, pR b] true (rB (covers a b)) := by
  refine sat_walk (fn := Try.f154) rfl rfl rfl (Nat.le_of_ble_eq_true rfl) fun fr hP hN hbnd => ?_
  have hE : (envOf fr Try.prog).Ok := envOf_ok hP
  have hM := follows_of hP
  have hS : ∀ {draw ops}, statB Try.f154.ntmps draw ops = true → statB (envOf fr Try.prog).fr.N draw ops = true := fun h => by rw [envOf_fr, hN]; exact h
  have hl := bndPR hbnd
  obtain ⟨e1, e2, e3⟩ := h
  repeat' (first
    | exact True.intro
    | refine ev_seq ?_
    | ((first | refine vgd_go ?_ | refine ev_region hE hM (hS (by decide +kernel)) ?_ | refine ev_if ?_ | refine end_ret hE rfl rfl ?_ | refine end_norm hE rfl rfl ?_ | refine vcall_A ?_); simp (maxSteps := 2000000) only [go_sem, hP, ↓reduceIte, Nat.reduceAdd, Nat.reduceMul, Nat.reduceEqDiff, Nat.reduceSub, Nat.reduceLeDiff, reduceCtorEq])
    | refine ev_skip ?_ | refine ev_block ?_ | refine ev_blk ?_ | refine ev_ret ?_ | refine ev_exit ?_ | refine evx_code_ret ?_ | refine evx_blk_ret ?_ | refine evx_lp_ret ?_
    | refine evx_code_exit ?_ | refine evx_lp_exit ?_ | refine evx_blk_hit ?_ | refine evx_blk_pass (by decide) ?_
    | refine And.intro ?_ ?_ | intro _ | decide +kernel | omega)
  refine ev_loop (ι := Nat) (fun k => [(0, .pv (cR a)), (1, .pv (cR b)), (5, .c (.int .i64 k))]) (fun k => []) (fun _ => []) (fun k => k ≤ a.low.length ∧ allLt k (coversAt a b) = true) (fun k => a.low.length - k) 0 [] (by simp [allLt_zero] <;> omega) (by simp only [go_sem, hP, ↓reduceIte, Nat.reduceAdd, Nat.reduceMul, Nat.reduceEqDiff, Nat.reduceSub, Nat.reduceLeDiff, reduceCtorEq]; simp) ?_
  intro k hk
  repeat' (first
    | exact True.intro
    | refine ev_seq ?_
    | ((first | refine vgd_go ?_ | refine ev_region hE hM (hS (by decide +kernel)) ?_ | refine ev_if ?_ | refine end_ret hE rfl rfl ?_ | refine end_norm hE rfl rfl ?_ | refine vcall_A ?_); simp (maxSteps := 2000000) only [go_sem, hP, ↓reduceIte, Nat.reduceAdd, Nat.reduceMul, Nat.reduceEqDiff, Nat.reduceSub, Nat.reduceLeDiff, reduceCtorEq])
    | refine ev_skip ?_ | refine ev_block ?_ | refine ev_blk ?_ | refine ev_ret ?_ | refine ev_exit ?_ | refine evx_code_ret ?_ | refine evx_blk_ret ?_ | refine evx_lp_ret ?_
    | refine evx_code_exit ?_ | refine evx_lp_exit ?_ | refine evx_blk_hit ?_ | refine evx_blk_pass (by decide) ?_
    | refine And.intro ?_ ?_ | intro _ | decide +kernel | omega)
  all_goals first
    | exact ev_lp (k + 1) [] ⟨by omega, allLt_step hk.2 (by simp_all [coversAt])⟩ (by omega) (by simp only [go_sem, hP, ↓reduceIte, Nat.reduceAdd, Nat.reduceMul, Nat.reduceEqDiff, Nat.reduceSub, Nat.reduceLeDiff, reduceCtorEq]; simp; exact wrap_nat (by omega) hl.1)
    | (have h9 : allLt a.low.length (coversAt a b) = false := allLt_not (k := k) (by omega) (by simp_all [coversAt])
       simp_all [covers]; done)
    | (have h9 : allLt a.low.length (coversAt a b) = true := allLt_done (by omega) hk.2
       simp_all [covers]; done)
theorem s_implcovers (a b : Rect) (h : Lens a b) : Sat Try.prog 158 [aR a, aR b] true (rB (covers a b)) := by
  refine sat_walk (fn := Try.f158) rfl rfl rfl (Nat.le_of_ble_eq_true rfl) fun fr hP hN hbnd => ?_
  have hE : (envOf fr Try.prog).Ok := envOf_ok hP
  have hM := follows_of hP
  have hS : ∀ {draw ops}, statB Try.f158.ntmps draw ops = true → statB (envOf fr Try.prog).fr.N draw ops = true := fun h => by rw [envOf_fr, hN]; exact h
  have hl := bndR hbnd
  obtain ⟨e1, e2, e3⟩ := h
  repeat' (first
    | exact True.intro
    | refine ev_seq ?_
    | ((first | refine vgd_go ?_ | refine ev_region hE hM (hS (by decide +kernel)) ?_ | refine ev_if ?_ | refine end_ret hE rfl rfl ?_ | refine end_norm hE rfl rfl ?_ | refine vcall_A ?_); simp (maxSteps := 2000000) only [go_sem, hP, ↓reduceIte, Nat.reduceAdd, Nat.reduceMul, Nat.reduceEqDiff, Nat.reduceSub, Nat.reduceLeDiff, reduceCtorEq])
    | refine ev_skip ?_ | refine ev_block ?_ | refine ev_blk ?_ | refine ev_ret ?_ | refine ev_exit ?_ | refine evx_code_ret ?_ | refine evx_blk_ret ?_ | refine evx_lp_ret ?_
    | refine evx_code_exit ?_ | refine evx_lp_exit ?_ | refine evx_blk_hit ?_ | refine evx_blk_pass (by decide) ?_
    | refine And.intro ?_ ?_ | intro _ | decide +kernel | omega)
  refine ev_loop (ι := Nat) (fun k => [(2, .ptr 0 0), (3, .ptr 8 0), (8, .c (.int .i64 a.low.length)), (9, .c (.int .i64 k))]) (fun k => [(0, .box [.c (sI a.low), .c (sI a.high)]), (8, .box [.c (sI b.low), .c (sI b.high)])]) (fun _ => []) (fun k => k ≤ a.low.length ∧ allLt k (coversAt a b) = true) (fun k => a.low.length - k) 0 [] (by simp [allLt_zero] <;> omega) (by simp only [go_sem, hP, ↓reduceIte, Nat.reduceAdd, Nat.reduceMul, Nat.reduceEqDiff, Nat.reduceSub, Nat.reduceLeDiff, reduceCtorEq]; simp) ?_
  intro k hk
  repeat' (first
    | exact True.intro
    | refine ev_seq ?_
    | ((first | refine vgd_go ?_ | refine ev_region hE hM (hS (by decide +kernel)) ?_ | refine ev_if ?_ | refine end_ret hE rfl rfl ?_ | refine end_norm hE rfl rfl ?_ | refine vcall_A ?_); simp (maxSteps := 2000000) only [go_sem, hP, ↓reduceIte, Nat.reduceAdd, Nat.reduceMul, Nat.reduceEqDiff, Nat.reduceSub, Nat.reduceLeDiff, reduceCtorEq])
    | refine ev_skip ?_ | refine ev_block ?_ | refine ev_blk ?_ | refine ev_ret ?_ | refine ev_exit ?_ | refine evx_code_ret ?_ | refine evx_blk_ret ?_ | refine evx_lp_ret ?_
    | refine evx_code_exit ?_ | refine evx_lp_exit ?_ | refine evx_blk_hit ?_ | refine evx_blk_pass (by decide) ?_
    | refine And.intro ?_ ?_ | intro _ | decide +kernel | omega)
  all_goals first
    | exact ev_lp (k + 1) [] ⟨by omega, allLt_step hk.2 (by simp_all [coversAt])⟩ (by omega) (by simp only [go_sem, hP, ↓reduceIte, Nat.reduceAdd, Nat.reduceMul, Nat.reduceEqDiff, Nat.reduceSub, Nat.reduceLeDiff, reduceCtorEq]; simp; exact wrap_nat (by omega) hl.1)
    | (have h9 : allLt a.low.length (coversAt a b) = false := allLt_not (k := k) (by omega) (by simp_all [coversAt])
       simp_all [covers]; done)
    | (have h9 : allLt a.low.length (coversAt a b) = true := allLt_done (by omega) hk.2
       simp_all [covers]; done)
def meetsAt (a b : Rect) (j : Nat) : Bool := !(decide (a.low.getD j default > b.high.getD j default) || decide (b.low.getD j default > a.high.getD j default))
def meets (a b : Rect) : Bool := allLt a.low.length (meetsAt a b)
theorem s_l1Meets (a b : Rect) (h : Lens a b) : Sat Try.prog 153 [pR a, pR b] true (rB (meets a b)) := by
  refine sat_walk (fn := Try.f153) rfl rfl rfl (Nat.le_of_ble_eq_true rfl) fun fr hP hN hbnd => ?_
  have hE : (envOf fr Try.prog).Ok := envOf_ok hP
  have hM := follows_of hP
  have hS : ∀ {draw ops}, statB Try.f153.ntmps draw ops = true → statB (envOf fr Try.prog).fr.N draw ops = true := fun h => by rw [envOf_fr, hN]; exact h
  have hl := bndPR hbnd
  obtain ⟨e1, e2, e3⟩ := h
  repeat' (first
    | exact True.intro
    | refine ev_seq ?_
    | ((first | refine vgd_go ?_ | refine ev_region hE hM (hS (by decide +kernel)) ?_ | refine ev_if ?_ | refine end_ret hE rfl rfl ?_ | refine end_norm hE rfl rfl ?_ | refine vcall_A ?_); simp (maxSteps := 2000000) only [go_sem, hP, ↓reduceIte, Nat.reduceAdd, Nat.reduceMul, Nat.reduceEqDiff, Nat.reduceSub, Nat.reduceLeDiff, reduceCtorEq])
    | refine ev_skip ?_ | refine ev_block ?_ | refine ev_blk ?_ | refine ev_ret ?_ | refine ev_exit ?_ | refine evx_code_ret ?_ | refine evx_blk_ret ?_ | refine evx_lp_ret ?_
    | refine evx_code_exit ?_ | refine evx_lp_exit ?_ | refine evx_blk_hit ?_ | refine evx_blk_pass (by decide) ?_
    | refine And.intro ?_ ?_ | intro _ | decide +kernel | omega)
  refine ev_loop (ι := Nat) (fun k => [(0, .pv (cR a)), (1, .pv (cR b)), (5, .c (.int .i64 k))]) (fun k => []) (fun _ => []) (fun k => k ≤ a.low.length ∧ allLt k (meetsAt a b) = true) (fun k => a.low.length - k) 0 [] (by simp [allLt_zero] <;> omega) (by simp only [go_sem, hP, ↓reduceIte, Nat.reduceAdd, Nat.reduceMul, Nat.reduceEqDiff, Nat.reduceSub, Nat.reduceLeDiff, reduceCtorEq]; simp) ?_
  intro k hk
  repeat' (first
    | exact True.intro
    | refine ev_seq ?_
    | ((first | refine vgd_go ?_ | refine ev_region hE hM (hS (by decide +kernel)) ?_ | refine ev_if ?_ | refine end_ret hE rfl rfl ?_ | refine end_norm hE rfl rfl ?_ | refine vcall_A ?_); simp (maxSteps := 2000000) only [go_sem, hP, ↓reduceIte, Nat.reduceAdd, Nat.reduceMul, Nat.reduceEqDiff, Nat.reduceSub, Nat.reduceLeDiff, reduceCtorEq])
    | refine ev_skip ?_ | refine ev_block ?_ | refine ev_blk ?_ | refine ev_ret ?_ | refine ev_exit ?_ | refine evx_code_ret ?_ | refine evx_blk_ret ?_ | refine evx_lp_ret ?_
    | refine evx_code_exit ?_ | refine evx_lp_exit ?_ | refine evx_blk_hit ?_ | refine evx_blk_pass (by decide) ?_
    | refine And.intro ?_ ?_ | intro _ | decide +kernel | omega)
  all_goals first
    | exact ev_lp (k + 1) [] ⟨by omega, allLt_step hk.2 (by simp_all [meetsAt])⟩ (by omega) (by simp only [go_sem, hP, ↓reduceIte, Nat.reduceAdd, Nat.reduceMul, Nat.reduceEqDiff, Nat.reduceSub, Nat.reduceLeDiff, reduceCtorEq]; simp; exact wrap_nat (by omega) hl.1)
    | (have h9 : allLt a.low.length (meetsAt a b) = false := allLt_not (k := k) (by omega) (by simp_all [meetsAt])
       simp_all [meets]; done)
    | (have h9 : allLt a.low.length (meetsAt a b) = true := allLt_done (by omega) hk.2
       simp_all [meets]; done)
theorem s_implmeets (a b : Rect) (h : Lens a b) : Sat Try.prog 157 [aR a, aR b] true (rB (meets a b)) := by
  refine sat_walk (fn := Try.f157) rfl rfl rfl (Nat.le_of_ble_eq_true rfl) fun fr hP hN hbnd => ?_
  have hE : (envOf fr Try.prog).Ok := envOf_ok hP
  have hM := follows_of hP
  have hS : ∀ {draw ops}, statB Try.f157.ntmps draw ops = true → statB (envOf fr Try.prog).fr.N draw ops = true := fun h => by rw [envOf_fr, hN]; exact h
  have hl := bndR hbnd
  obtain ⟨e1, e2, e3⟩ := h
  repeat' (first
    | exact True.intro
    | refine ev_seq ?_
    | ((first | refine vgd_go ?_ | refine ev_region hE hM (hS (by decide +kernel)) ?_ | refine ev_if ?_ | refine end_ret hE rfl rfl ?_ | refine end_norm hE rfl rfl ?_ | refine vcall_A ?_); simp (maxSteps := 2000000) only [go_sem, hP, ↓reduceIte, Nat.reduceAdd, Nat.reduceMul, Nat.reduceEqDiff, Nat.reduceSub, Nat.reduceLeDiff, reduceCtorEq])
    | refine ev_skip ?_ | refine ev_block ?_ | refine ev_blk ?_ | refine ev_ret ?_ | refine ev_exit ?_ | refine evx_code_ret ?_ | refine evx_blk_ret ?_ | refine evx_lp_ret ?_
    | refine evx_code_exit ?_ | refine evx_lp_exit ?_ | refine evx_blk_hit ?_ | refine evx_blk_pass (by decide) ?_
    | refine And.intro ?_ ?_ | intro _ | decide +kernel | omega)
  refine ev_loop (ι := Nat) (fun k => [(2, .ptr 0 0), (3, .ptr 8 0), (8, .c (.int .i64 a.low.length)), (9, .c (.int .i64 k))]) (fun k => [(0, .box [.c (sI a.low), .c (sI a.high)]), (8, .box [.c (sI b.low), .c (sI b.high)])]) (fun _ => []) (fun k => k ≤ a.low.length ∧ allLt k (meetsAt a b) = true) (fun k => a.low.length - k) 0 [] (by simp [allLt_zero] <;> omega) (by simp only [go_sem, hP, ↓reduceIte, Nat.reduceAdd, Nat.reduceMul, Nat.reduceEqDiff, Nat.reduceSub, Nat.reduceLeDiff, reduceCtorEq]; simp) ?_
  intro k hk
  repeat' (first
    | exact True.intro
    | refine ev_seq ?_
    | ((first | refine vgd_go ?_ | refine ev_region hE hM (hS (by decide +kernel)) ?_ | refine ev_if ?_ | refine end_ret hE rfl rfl ?_ | refine end_norm hE rfl rfl ?_ | refine vcall_A ?_); simp (maxSteps := 2000000) only [go_sem, hP, ↓reduceIte, Nat.reduceAdd, Nat.reduceMul, Nat.reduceEqDiff, Nat.reduceSub, Nat.reduceLeDiff, reduceCtorEq])
    | refine ev_skip ?_ | refine ev_block ?_ | refine ev_blk ?_ | refine ev_ret ?_ | refine ev_exit ?_ | refine evx_code_ret ?_ | refine evx_blk_ret ?_ | refine evx_lp_ret ?_
    | refine evx_code_exit ?_ | refine evx_lp_exit ?_ | refine evx_blk_hit ?_ | refine evx_blk_pass (by decide) ?_
    | refine And.intro ?_ ?_ | intro _ | decide +kernel | omega)
  all_goals first
    | exact ev_lp (k + 1) [] ⟨by omega, allLt_step hk.2 (by simp_all [meetsAt])⟩ (by omega) (by simp only [go_sem, hP, ↓reduceIte, Nat.reduceAdd, Nat.reduceMul, Nat.reduceEqDiff, Nat.reduceSub, Nat.reduceLeDiff, reduceCtorEq]; simp; exact wrap_nat (by omega) hl.1)
    | (have h9 : allLt a.low.length (meetsAt a b) = false := allLt_not (k := k) (by omega) (by simp_all [meetsAt])
       simp_all [meets]; done)
    | (have h9 : allLt a.low.length (meetsAt a b) = true := allLt_done (by omega) hk.2
       simp_all [meets]; done)
theorem wr_i64 (n : Int) : IntKind.i64.wrap n = (n + 9223372036854775808) % 18446744073709551616 - 9223372036854775808 := by
  rw [i64_left]; unfold wrap64; omega
theorem wr1 (a b c : Int) : IntKind.i64.wrap (IntKind.i64.wrap (a + b) - c) = IntKind.i64.wrap (a + (b - c)) := by simp only [wr_i64]; omega
theorem wr2 (a b c : Int) : IntKind.i64.wrap (a + IntKind.i64.wrap (b - c)) = IntKind.i64.wrap (a + (b - c)) := by simp only [wr_i64]; omega
theorem pf_at {xs : List Int} {d : Int} (h : pf xs d = 0) (k : Nat) (hk : k < xs.length) : -1000 ≤ xs.getD k default ∧ xs.getD k default ≤ 1000 := by
  have ha : xs.all (inB · (-1000) 1000) = true := by
    unfold pf at h; split at h <;> (try split at h) <;> (try split at h) <;> simp_all
  have := List.all_eq_true.mp ha _ (getD_mem (d := default) hk)
  simpa [inB] using this
theorem rf_at {r : Rect} {d : Int} (h : rf r d = 0) (k : Nat) (hk : k < r.low.length) :
    -1000 ≤ r.low.getD k default ∧ r.low.getD k default ≤ r.high.getD k default ∧ r.high.getD k default ≤ 1000 := by
  have hl := rf_len h
  unfold rf at h
  split at h
  · simp_all
  rename_i h1
  split at h
  · simp_all
  rename_i h2
  split at h
  · rename_i h3
    have e1 := pf_at (by simpa using h1) k hk
    have e2 := pf_at (by simpa using h2) k (by omega)
    have e3 := allLt_iff.mp h3 k hk
    simp at e3
    simp at e1 e2 ⊢
    omega
  · simp_all
structure Good (r : Rect) (p : List Int) : Prop where
  h1 : r.high.length = r.low.length
  h2 : p.length = r.low.length
  h3 : ∀ k, k < r.low.length → -1000 ≤ r.low.getD k default ∧ r.low.getD k default ≤ r.high.getD k default ∧ r.high.getD k default ≤ 1000
  h4 : ∀ k, k < r.low.length → -1000 ≤ p.getD k default ∧ p.getD k default ≤ 1000
theorem good_of {r : Rect} {p : List Int} {d : Int} (h : rf r d = 0) (h' : pf p d = 0) : Good r p := by
  have e1 := rf_len h
  have e2 := pf_len h'
  exact ⟨by omega, by omega, fun k hk => rf_at h k hk, fun k hk => pf_at h' k (by omega)⟩
def distAt (r : Rect) (p : List Int) (k : Nat) : Int := max (max 0 (r.low.getD k default - p.getD k default)) (p.getD k default - r.high.getD k default)
def distTo (r : Rect) (p : List Int) : Nat → Int
  | 0 => 0
  | k + 1 => IntKind.i64.wrap (distTo r p k + distAt r p k)
@[simp] theorem distTo_zero (r : Rect) (p : List Int) : distTo r p 0 = 0 := rfl
def dist (r : Rect) (p : List Int) : Int := distTo r p r.low.length
theorem wr_small {n : Int} (h : -9000 ≤ n ∧ n ≤ 9000) : IntKind.i64.wrap n = n := by rw [wr_i64]; omega
theorem dist_spec {r : Rect} {p : List Int} (g : Good r p) (k : Nat) (hk : k < r.low.length) (a : Int) :
    IntKind.i64.wrap (IntKind.i64.wrap (a + max (IntKind.i64.wrap (r.low.getD k default - p.getD k default)) 0) + max (IntKind.i64.wrap (p.getD k default - r.high.getD k default)) 0) = IntKind.i64.wrap (a + distAt r p k) := by
  have e1 := g.h3 k hk
  have e2 := g.h4 k hk
  rw [wr_small (n := r.low.getD k default - p.getD k default) (by omega), wr_small (n := p.getD k default - r.high.getD k default) (by omega)]
  unfold distAt; simp only [wr_i64]; omega
theorem dist_impl {r : Rect} {p : List Int} (g : Good r p) (k : Nat) (hk : k < r.low.length) (a : Int) :
    IntKind.i64.wrap (a + max (max 0 (IntKind.i64.wrap (r.low.getD k default - p.getD k default))) (IntKind.i64.wrap (p.getD k default - r.high.getD k default))) = IntKind.i64.wrap (a + distAt r p k) := by
  have e1 := g.h3 k hk
  have e2 := g.h4 k hk
  rw [wr_small (n := r.low.getD k default - p.getD k default) (by omega), wr_small (n := p.getD k default - r.high.getD k default) (by omega)]
  rfl
theorem s_l1Max (a b : Int) : Sat Try.prog 173 [aI a, aI b] true (rI (max a b)) := by
  refine sat_walk (fn := Try.f173) rfl rfl rfl (Nat.le_of_ble_eq_true rfl) fun fr hP hN hbnd => ?_
  have hE : (envOf fr Try.prog).Ok := envOf_ok hP
  have hM := follows_of hP
  have hS : ∀ {draw ops}, statB Try.f173.ntmps draw ops = true → statB (envOf fr Try.prog).fr.N draw ops = true := fun h => by rw [envOf_fr, hN]; exact h
  repeat' (first
    | exact True.intro
    | refine ev_seq ?_
    | ((first | refine vgd_go ?_ | refine ev_region hE hM (hS (by decide +kernel)) ?_ | refine ev_if ?_ | refine end_ret hE rfl rfl ?_ | refine end_norm hE rfl rfl ?_ | refine vcall_A ?_); simp (maxSteps := 2000000) only [go_sem, hP, ↓reduceIte, Nat.reduceAdd, Nat.reduceMul, Nat.reduceEqDiff, Nat.reduceSub, Nat.reduceLeDiff, reduceCtorEq])
    | refine ev_skip ?_ | refine ev_block ?_ | refine ev_blk ?_ | refine ev_ret ?_ | refine ev_exit ?_ | refine evx_code_ret ?_ | refine evx_blk_ret ?_ | refine evx_lp_ret ?_
    | refine evx_code_exit ?_ | refine evx_lp_exit ?_ | refine evx_blk_hit ?_ | refine evx_blk_pass (by decide) ?_
    | refine And.intro ?_ ?_ | intro _ | decide +kernel | omega)
  all_goals simp_all
  all_goals omega
theorem s_l1Dist (r : Rect) (p : List Int) (g : Good r p) : Sat Try.prog 155 [pR r, aL p] true (rI (dist r p)) := by
  refine sat_walk (fn := Try.f155) rfl rfl rfl (Nat.le_of_ble_eq_true rfl) fun fr hP hN hbnd => ?_
  have hE : (envOf fr Try.prog).Ok := envOf_ok hP
  have hM := follows_of hP
  have hS : ∀ {draw ops}, statB Try.f155.ntmps draw ops = true → statB (envOf fr Try.prog).fr.N draw ops = true := fun h => by rw [envOf_fr, hN]; exact h
  have hl := bndPR hbnd
  have g1 := g.h1
  have g2 := g.h2
  repeat' (first
    | exact True.intro
    | refine ev_seq ?_
    | ((first | refine vgd_go ?_ | refine ev_region hE hM (hS (by decide +kernel)) ?_ | refine ev_if ?_ | refine end_ret hE rfl rfl ?_ | refine end_norm hE rfl rfl ?_ | refine vcall_A ?_); simp (maxSteps := 2000000) only [go_sem, hP, ↓reduceIte, Nat.reduceAdd, Nat.reduceMul, Nat.reduceEqDiff, Nat.reduceSub, Nat.reduceLeDiff, reduceCtorEq])
    | refine ev_skip ?_ | refine ev_block ?_ | refine ev_blk ?_ | refine ev_ret ?_ | refine ev_exit ?_ | refine evx_code_ret ?_ | refine evx_blk_ret ?_ | refine evx_lp_ret ?_
    | refine evx_code_exit ?_ | refine evx_lp_exit ?_ | refine evx_blk_hit ?_ | refine evx_blk_pass (by decide) ?_
    | refine And.intro ?_ ?_ | intro _ | decide +kernel | omega)
  refine ev_loop (ι := Nat) (fun k => [(0, .pv (cR r)), (1, .c (sI p)), (5, .c (.int .i64 (distTo r p k))), (6, .c (.int .i64 k))]) (fun k => []) (fun _ => []) (fun k => k ≤ r.low.length) (fun k => r.low.length - k) 0 [] (by simp [allLt_zero] <;> omega) (by simp only [go_sem, hP, ↓reduceIte, Nat.reduceAdd, Nat.reduceMul, Nat.reduceEqDiff, Nat.reduceSub, Nat.reduceLeDiff, reduceCtorEq]; simp) ?_
  intro k hk
  repeat' (first
    | exact True.intro
    | refine ev_seq ?_
    | ((first | refine vgd_go ?_ | refine ev_region hE hM (hS (by decide +kernel)) ?_ | refine ev_if ?_ | refine end_ret hE rfl rfl ?_ | refine end_norm hE rfl rfl ?_ | refine vcall_A ?_ | refine vcallB_of hP (s_l1Max _ _) ?_); simp (maxSteps := 2000000) only [go_sem, hP, ↓reduceIte, Nat.reduceAdd, Nat.reduceMul, Nat.reduceEqDiff, Nat.reduceSub, Nat.reduceLeDiff, reduceCtorEq])
    | refine ev_skip ?_ | refine ev_block ?_ | refine ev_blk ?_ | refine ev_ret ?_ | refine ev_exit ?_ | refine evx_code_ret ?_ | refine evx_blk_ret ?_ | refine evx_lp_ret ?_
    | refine evx_code_exit ?_ | refine evx_lp_exit ?_ | refine evx_blk_hit ?_ | refine evx_blk_pass (by decide) ?_
    | refine And.intro ?_ ?_ | intro _ | decide +kernel | omega)
  · exact ev_lp (k + 1) [] (by omega) (by omega) (by simp only [go_sem, hP, ↓reduceIte, Nat.reduceAdd, Nat.reduceMul, Nat.reduceEqDiff, Nat.reduceSub, Nat.reduceLeDiff, reduceCtorEq]; simp; exact ⟨by simpa [distTo] using dist_spec g k (by omega) (distTo r p k), wrap_nat (by omega) hl.1⟩)
  · have : k = r.low.length := by omega
    subst this; rfl
end Go.Proofs.Ytcnodghbkoeohaa.W
