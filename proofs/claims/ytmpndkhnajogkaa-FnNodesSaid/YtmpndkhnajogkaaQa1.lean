/- Contracts of functions that FnNodes reaches: what each returns; it writes to nothing of old. No condition but those that each theorem states. -/
import Derived.Test.YtmpndkhnajogkaaQa0
open Go Go.Vm Go.Proofs Go.IntWalk Go.RowKit
set_option maxRecDepth 100000
set_option maxHeartbeats 4000000
set_option linter.unusedSimpArgs false
set_option linter.unusedVariables false
set_option linter.unusedSectionVars false
namespace Go.Proofs.Ytmpndkhnajogkaa.W
attribute [local irreducible] kJ ev evx vops vstep vgo vgd vget vcall vcallFn vcallA vcallB vts vres vcond vbin
theorem s_specNodeFault (n : Node) (d : Int) : Sat Try.prog 83 [aNode n, aI d] true (rI (nf n d)) := by
  refine sat_walk (fn := Try.f83) rfl rfl rfl (Nat.le_of_ble_eq_true rfl) fun fr hP hN hbnd => ?_
  have hE : (envOf fr Try.prog).Ok := envOf_ok hP
  have hM := follows_of hP
  have hS : ∀ {draw ops}, statB Try.f83.ntmps draw ops = true → statB (envOf fr Try.prog).fr.N draw ops = true := fun h => by rw [envOf_fr, hN]; exact h
  have hlen := bnd_Node hbnd
  repeat' (first
    | exact True.intro
    | refine ev_seq ?_
    | ((first | refine vgd_go ?_ | refine ev_region hE hM (hS (by decide +kernel)) ?_ | refine ev_if ?_ | refine end_ret hE rfl rfl ?_ | refine end_norm hE rfl rfl ?_ | refine endG_ret [] hE rfl ?_ | refine endG_norm [] hE rfl ?_ | refine vcallB_of hP (s_l1In _ _ _) ?_ | refine vcall_A ?_); simp (maxSteps := 2000000) only [go_sem, hP, ↓reduceIte, Nat.reduceAdd, Nat.reduceMul, Nat.reduceEqDiff, Nat.reduceSub, Nat.reduceLeDiff, reduceCtorEq])
    | refine ev_skip ?_ | refine ev_block ?_ | refine ev_blk ?_ | refine ev_ret ?_ | refine ev_exit ?_ | refine evx_code_ret ?_ | refine evx_blk_ret ?_ | refine evx_lp_ret ?_
    | refine evx_code_exit ?_ | refine evx_lp_exit ?_ | refine evx_blk_hit ?_ | refine evx_blk_pass (by decide) ?_
    | refine And.intro ?_ ?_ | intro _ | decide +kernel | omega)
  all_goals first
    | (simp_all [nf]; done)
    | skip
  refine ev_loop (ι := Nat) (fun k => [(1, .c (.int .i64 d)), (2, .ptr 0 0), (5, .c (.int .i64 k))]) (fun k => [(0, .box [.c (.int .i64 n.level), .c (.int .i64 n.nsn), .c (.int .i64 n.right), .c (sEntryS n.entries)])]) (fun _ => []) (fun k => k ≤ n.entries.length ∧ allLt k (fun j => decide (entryF d (n.entries.getD j default) = 0)) = true) (fun k => n.entries.length - k) 0 [] (by simp [allLt_zero] <;> omega) (by simp only [go_sem, hP, ↓reduceIte, Nat.reduceAdd, Nat.reduceMul, Nat.reduceEqDiff, Nat.reduceSub, Nat.reduceLeDiff, reduceCtorEq]; simp) ?_
  intro k hk
  repeat' (first
    | exact True.intro
    | refine ev_seq ?_
    | ((first | refine vgd_go ?_ | refine ev_region hE hM (hS (by decide +kernel)) ?_ | refine ev_if ?_ | refine end_ret hE rfl rfl ?_ | refine end_norm hE rfl rfl ?_ | refine endG_ret [] hE rfl ?_ | refine endG_norm [] hE rfl ?_ | refine vcallB_of hP (s_l3Entry (n.entries.getD k default) _) ?_ | refine vcall_A ?_); simp (maxSteps := 2000000) only [go_sem, hP, ↓reduceIte, Nat.reduceAdd, Nat.reduceMul, Nat.reduceEqDiff, Nat.reduceSub, Nat.reduceLeDiff, reduceCtorEq])
    | refine ev_skip ?_ | refine ev_block ?_ | refine ev_blk ?_ | refine ev_ret ?_ | refine ev_exit ?_ | refine evx_code_ret ?_ | refine evx_blk_ret ?_ | refine evx_lp_ret ?_
    | refine evx_code_exit ?_ | refine evx_lp_exit ?_ | refine evx_blk_hit ?_ | refine evx_blk_pass (by decide) ?_
    | refine And.intro ?_ ?_ | intro _ | decide +kernel | omega)
  · rename_i h1 h2
    have h9 : firstF (entryF d) n.entries = entryF d (n.entries.getD k default) := firstF_here (k := k) (by omega) hk.2 (by simpa using h2)
    simp_all [nf] <;> first | omega | grind
  · rename_i h1 h2
    exact ev_lp (k + 1) [] ⟨by omega, allLt_step hk.2 (by simpa using h2)⟩ (by omega) (by simp only [go_sem, hP, ↓reduceIte, Nat.reduceAdd, Nat.reduceMul, Nat.reduceEqDiff, Nat.reduceSub, Nat.reduceLeDiff, reduceCtorEq]; simp; exact wrap_nat (by omega) hlen)
  rename_i h1
  have hz : firstF (entryF d) n.entries = 0 := firstF_done (by omega) hk.2
  clear h1 hk
  refine ev_loop (ι := Nat) (fun k => [(2, .ptr 0 0), (7, .c (.int .i64 k))]) (fun k => [(0, .box [.c (.int .i64 n.level), .c (.int .i64 n.nsn), .c (.int .i64 n.right), .c (sEntryS n.entries)])]) (fun _ => []) (fun k => k ≤ n.entries.length ∧ (n.entries.take k).all (fits n.level) = true) (fun k => n.entries.length - k) 0 [] (by simp [allLt_zero] <;> omega) (by simp only [go_sem, hP, ↓reduceIte, Nat.reduceAdd, Nat.reduceMul, Nat.reduceEqDiff, Nat.reduceSub, Nat.reduceLeDiff, reduceCtorEq]; simp) ?_
  intro k hk
  repeat' (first
    | exact True.intro
    | refine ev_seq ?_
    | ((first | refine vgd_go ?_ | refine ev_region hE hM (hS (by decide +kernel)) ?_ | refine ev_if ?_ | refine end_ret hE rfl rfl ?_ | refine end_norm hE rfl rfl ?_ | refine endG_ret [] hE rfl ?_ | refine endG_norm [] hE rfl ?_ | refine vcallB_of hP (s_l3Fits n.level (n.entries.getD k default)) ?_ | refine vcall_A ?_); simp (maxSteps := 2000000) only [go_sem, hP, ↓reduceIte, Nat.reduceAdd, Nat.reduceMul, Nat.reduceEqDiff, Nat.reduceSub, Nat.reduceLeDiff, reduceCtorEq])
    | refine ev_skip ?_ | refine ev_block ?_ | refine ev_blk ?_ | refine ev_ret ?_ | refine ev_exit ?_ | refine evx_code_ret ?_ | refine evx_blk_ret ?_ | refine evx_lp_ret ?_
    | refine evx_code_exit ?_ | refine evx_lp_exit ?_ | refine evx_blk_hit ?_ | refine evx_blk_pass (by decide) ?_
    | refine And.intro ?_ ?_ | intro _ | decide +kernel | omega)
  · rename_i h1 h2
    have h9 : n.entries.all (fits n.level) = false := all_not (k := k) (d := default) (by omega) (by simpa using h2)
    simp_all [nf] <;> first | omega | grind
  · rename_i h1 h2
    exact ev_lp (k + 1) [] ⟨by omega, all_step (d := default) (by omega) hk.2 (by simpa using h2)⟩ (by omega) (by simp only [go_sem, hP, ↓reduceIte, Nat.reduceAdd, Nat.reduceMul, Nat.reduceEqDiff, Nat.reduceSub, Nat.reduceLeDiff, reduceCtorEq]; simp; exact wrap_nat (by omega) hlen)
  rename_i h1
  have hf : n.entries.all (fits n.level) = true := all_done (k := k) (by omega) hk.2
  clear h1 hk
  refine ev_loop (ι := Nat) (fun k => [(2, .ptr 0 0), (8, .c (.int .i64 k))]) (fun k => [(0, .box [.c (.int .i64 n.level), .c (.int .i64 n.nsn), .c (.int .i64 n.right), .c (sEntryS n.entries)])]) (fun _ => []) (fun k => k ≤ n.entries.length ∧ allLt k (fun j => !dupAt n.entries j) = true) (fun k => n.entries.length - k) 0 [] (by simp [allLt_zero] <;> omega) (by simp only [go_sem, hP, ↓reduceIte, Nat.reduceAdd, Nat.reduceMul, Nat.reduceEqDiff, Nat.reduceSub, Nat.reduceLeDiff, reduceCtorEq]; simp) ?_
  intro k hk
  have hs := fun h => findRef_self (xs := n.entries) (k := k) h
  repeat' (first
    | exact True.intro
    | refine ev_seq ?_
    | ((first | refine vgd_go ?_ | refine ev_region hE hM (hS (by decide +kernel)) ?_ | refine ev_if ?_ | refine end_ret hE rfl rfl ?_ | refine end_norm hE rfl rfl ?_ | refine endG_ret [] hE rfl ?_ | refine endG_norm [] hE rfl ?_ | refine vcallB_of hP (s_l3Find n.entries _) ?_ | refine vcall_A ?_); simp (maxSteps := 2000000) only [go_sem, hP, ↓reduceIte, Nat.reduceAdd, Nat.reduceMul, Nat.reduceEqDiff, Nat.reduceSub, Nat.reduceLeDiff, reduceCtorEq])
    | refine ev_skip ?_ | refine ev_block ?_ | refine ev_blk ?_ | refine ev_ret ?_ | refine ev_exit ?_ | refine evx_code_ret ?_ | refine evx_blk_ret ?_ | refine evx_lp_ret ?_
    | refine evx_code_exit ?_ | refine evx_lp_exit ?_ | refine evx_blk_hit ?_ | refine evx_blk_pass (by decide) ?_
    | refine And.intro ?_ ?_ | intro _ | decide +kernel | omega)
  · rename_i h1 h2
    have h9 : noDup n.entries = false := allLt_not (k := k) (by omega) (by have := hs (by omega); simp_all)
    simp_all [nf] <;> first | omega | grind
  · rename_i h1 h2
    exact ev_lp (k + 1) [] ⟨by omega, allLt_step hk.2 (by have := hs (by omega); simp_all)⟩ (by omega) (by simp only [go_sem, hP, ↓reduceIte, Nat.reduceAdd, Nat.reduceMul, Nat.reduceEqDiff, Nat.reduceSub, Nat.reduceLeDiff, reduceCtorEq]; simp; exact wrap_nat (by omega) hlen)
  · have h9 : noDup n.entries = true := allLt_done (by omega) hk.2
    simp_all [nf] <;> first | omega | grind
theorem s_implNodeFault (n : Node) (d : Int) : Sat Try.prog 82 [aNode n, aI d] true (rI (nf n d)) := by
  refine sat_walk (fn := Try.f82) rfl rfl rfl (Nat.le_of_ble_eq_true rfl) fun fr hP hN hbnd => ?_
  have hE : (envOf fr Try.prog).Ok := envOf_ok hP
  have hM := follows_of hP
  have hS : ∀ {draw ops}, statB Try.f82.ntmps draw ops = true → statB (envOf fr Try.prog).fr.N draw ops = true := fun h => by rw [envOf_fr, hN]; exact h
  have hlen := bnd_Node hbnd
  repeat' (first
    | exact True.intro
    | refine ev_seq ?_
    | ((first | refine vgd_go ?_ | refine ev_region hE hM (hS (by decide +kernel)) ?_ | refine ev_if ?_ | refine end_ret hE rfl rfl ?_ | refine end_norm hE rfl rfl ?_ | refine endG_ret [] hE rfl ?_ | refine endG_norm [] hE rfl ?_ | refine vcallB_of hP (s_isDims _) ?_ | refine vcallB_of hP (s_within _ _ _) ?_ | refine vcallB_of hP (s_isNsn _) ?_ | refine vcall_A ?_); simp (maxSteps := 2000000) only [go_sem, hP, ↓reduceIte, Nat.reduceAdd, Nat.reduceMul, Nat.reduceEqDiff, Nat.reduceSub, Nat.reduceLeDiff, reduceCtorEq])
    | refine ev_skip ?_ | refine ev_block ?_ | refine ev_blk ?_ | refine ev_ret ?_ | refine ev_exit ?_ | refine evx_code_ret ?_ | refine evx_blk_ret ?_ | refine evx_lp_ret ?_
    | refine evx_code_exit ?_ | refine evx_lp_exit ?_ | refine evx_blk_hit ?_ | refine evx_blk_pass (by decide) ?_
    | refine And.intro ?_ ?_ | intro _ | decide +kernel | omega)
  all_goals first
    | (simp_all [nf]; done)
    | skip
  refine ev_loop (ι := Nat) (fun k => [(1, .c (.int .i64 d)), (2, .ptr 0 0), (33, .c (sEntryS n.entries)), (34, .c (.int .i64 n.entries.length)), (35, .c (.int .i64 k))]) (fun k => [(0, .box [.c (.int .i64 n.level), .c (.int .i64 n.nsn), .c (.int .i64 n.right), .c (sEntryS n.entries)])]) (fun _ => []) (fun k => k ≤ n.entries.length ∧ allLt k (fun j => decide (entryF d (n.entries.getD j default) = 0)) = true) (fun k => n.entries.length - k) 0 [] (by simp [allLt_zero] <;> omega) (by simp only [go_sem, hP, ↓reduceIte, Nat.reduceAdd, Nat.reduceMul, Nat.reduceEqDiff, Nat.reduceSub, Nat.reduceLeDiff, reduceCtorEq]; simp) ?_
  intro k hk
  repeat' (first
    | exact True.intro
    | refine ev_seq ?_
    | ((first | refine vgd_go ?_ | refine ev_region hE hM (hS (by decide +kernel)) ?_ | refine ev_if ?_ | refine end_ret hE rfl rfl ?_ | refine end_norm hE rfl rfl ?_ | refine endG_ret [] hE rfl ?_ | refine endG_norm [] hE rfl ?_ | refine vcallB_of hP (s_implRectFault (n.entries.getD k default).rect _) ?_ | refine vcallB_of hP (s_entryRange (n.entries.getD k default)) ?_ | refine vcall_A ?_); simp (maxSteps := 2000000) only [go_sem, hP, ↓reduceIte, Nat.reduceAdd, Nat.reduceMul, Nat.reduceEqDiff, Nat.reduceSub, Nat.reduceLeDiff, reduceCtorEq])
    | refine ev_skip ?_ | refine ev_block ?_ | refine ev_blk ?_ | refine ev_ret ?_ | refine ev_exit ?_ | refine evx_code_ret ?_ | refine evx_blk_ret ?_ | refine evx_lp_ret ?_
    | refine evx_code_exit ?_ | refine evx_lp_exit ?_ | refine evx_blk_hit ?_ | refine evx_blk_pass (by decide) ?_
    | refine And.intro ?_ ?_ | intro _ | decide +kernel | omega)
  · rename_i h1 h2
    have h8 : entryF d (n.entries.getD k default) = rf (n.entries.getD k default).rect d := by unfold entryF; rw [if_pos (by simpa using h2)]
    have h9 : firstF (entryF d) n.entries = entryF d (n.entries.getD k default) := firstF_here (k := k) (by omega) hk.2 (by rw [h8]; simpa using h2)
    rw [h8] at h9
    simp_all [nf] <;> first | omega | grind
  · rename_i h1 h2 h3
    have h8 : entryF d (n.entries.getD k default) = if inB (n.entries.getD k default).ref 0 999 && inB (n.entries.getD k default).nsn 0 100000 then 0 else 3 := by unfold entryF; rw [if_neg (by simpa using h2)]
    have h9 : firstF (entryF d) n.entries = entryF d (n.entries.getD k default) := firstF_here (k := k) (by omega) hk.2 (by rw [h8]; simpa using h3)
    rw [h8] at h9
    simp_all [nf] <;> first | omega | grind
  · rename_i h1 h2 h3
    have h8 : entryF d (n.entries.getD k default) = if inB (n.entries.getD k default).ref 0 999 && inB (n.entries.getD k default).nsn 0 100000 then 0 else 3 := by unfold entryF; rw [if_neg (by simpa using h2)]
    exact ev_lp (k + 1) [] ⟨by omega, allLt_step hk.2 (by rw [h8]; simpa using h3)⟩ (by omega) (by simp only [go_sem, hP, ↓reduceIte, Nat.reduceAdd, Nat.reduceMul, Nat.reduceEqDiff, Nat.reduceSub, Nat.reduceLeDiff, reduceCtorEq]; simp; exact wrap_nat (by omega) hlen)
  rename_i h1
  have hz : firstF (entryF d) n.entries = 0 := firstF_done (by omega) hk.2
  clear h1 hk
  repeat' (first
    | exact True.intro
    | refine ev_seq ?_
    | ((first | refine vgd_go ?_ | refine ev_region hE hM (hS (by decide +kernel)) ?_ | refine ev_if ?_ | refine end_ret hE rfl rfl ?_ | refine end_norm hE rfl rfl ?_ | refine endG_ret [] hE rfl ?_ | refine endG_norm [] hE rfl ?_ | refine vcallB_of hP (s_ContainsFuncEntry n.entries _ (fun e => !fits n.level e) (fun e _ => s_NodeFault1 e n)) ?_ | refine vcall_A ?_); simp (maxSteps := 2000000) only [go_sem, hP, ↓reduceIte, Nat.reduceAdd, Nat.reduceMul, Nat.reduceEqDiff, Nat.reduceSub, Nat.reduceLeDiff, reduceCtorEq])
    | refine ev_skip ?_ | refine ev_block ?_ | refine ev_blk ?_ | refine ev_ret ?_ | refine ev_exit ?_ | refine evx_code_ret ?_ | refine evx_blk_ret ?_ | refine evx_lp_ret ?_
    | refine evx_code_exit ?_ | refine evx_lp_exit ?_ | refine evx_blk_hit ?_ | refine evx_blk_pass (by decide) ?_
    | refine And.intro ?_ ?_ | intro _ | decide +kernel | omega)
  · have h9 : n.entries.all (fits n.level) = false := by rename_i h; rw [← Bool.not_eq_true, List.all_eq_true]; simpa using h
    simp_all [nf] <;> first | omega | grind
  rename_i h1
  have hf : n.entries.all (fits n.level) = true := by rw [List.all_eq_true]; simpa using h1
  clear h1
  refine ev_loop (ι := Nat) (fun k => [(2, .ptr 0 0), (57, .c (sEntryS n.entries)), (58, .c (.int .i64 n.entries.length)), (59, .c (.int .i64 k))]) (fun k => [(0, .box [.c (.int .i64 n.level), .c (.int .i64 n.nsn), .c (.int .i64 n.right), .c (sEntryS n.entries)])]) (fun _ => []) (fun k => k ≤ n.entries.length ∧ allLt k (fun j => !dupAt n.entries j) = true) (fun k => n.entries.length - k) 0 [] (by simp [allLt_zero] <;> omega) (by simp only [go_sem, hP, ↓reduceIte, Nat.reduceAdd, Nat.reduceMul, Nat.reduceEqDiff, Nat.reduceSub, Nat.reduceLeDiff, reduceCtorEq]; simp) ?_
  intro k hk
  have hn := findRef_nonneg (xs := n.entries.take k) (r := (n.entries.getD k default).ref)
  repeat' (first
    | exact True.intro
    | refine ev_seq ?_
    | ((first | refine vgd_go ?_ | refine ev_region hE hM (hS (by decide +kernel)) ?_ | refine ev_if ?_ | refine end_ret hE rfl rfl ?_ | refine end_norm hE rfl rfl ?_ | refine endG_ret [] hE rfl ?_ | refine endG_norm [] hE rfl ?_ | refine vcallB_of hP (s_entryAt (n.entries.take k) _) ?_ | refine vcall_A ?_); simp (maxSteps := 2000000) only [go_sem, hP, ↓reduceIte, Nat.reduceAdd, Nat.reduceMul, Nat.reduceEqDiff, Nat.reduceSub, Nat.reduceLeDiff, reduceCtorEq, Int.toNat_zero, Nat.sub_zero, ← List.map_take])
    | refine ev_skip ?_ | refine ev_block ?_ | refine ev_blk ?_ | refine ev_ret ?_ | refine ev_exit ?_ | refine evx_code_ret ?_ | refine evx_blk_ret ?_ | refine evx_lp_ret ?_
    | refine evx_code_exit ?_ | refine evx_lp_exit ?_ | refine evx_blk_hit ?_ | refine evx_blk_pass (by decide) ?_
    | refine And.intro ?_ ?_ | intro _ | decide +kernel | omega)
  · rename_i h1 h2
    have h9 : noDup n.entries = false := allLt_not (k := k) (by omega) (by unfold dupAt; rw [← hn]; simpa using h2)
    simp_all [nf] <;> first | omega | grind
  · rename_i h1 h2
    exact ev_lp (k + 1) [] ⟨by omega, allLt_step hk.2 (by unfold dupAt; rw [← hn]; simpa using h2)⟩ (by omega) (by simp only [go_sem, hP, ↓reduceIte, Nat.reduceAdd, Nat.reduceMul, Nat.reduceEqDiff, Nat.reduceSub, Nat.reduceLeDiff, reduceCtorEq]; simp; exact wrap_nat (by omega) hlen)
  · have h9 : noDup n.entries = true := allLt_done (by omega) hk.2
    simp_all [nf] <;> first | omega | grind
def efcode (n : Node) (d r : Int) : Int := if nf n d ≠ 0 then nf n d else if findRef n.entries r < 0 then 4 else 0
theorem s_specEntryFor (n : Node) (d r : Int) : Sat Try.prog 81 [aNode n, aI d, aI r] true (rIR (efcode n d r) (val (efcode n d r) (findRef n.entries r))) := by
  refine sat_walk (fn := Try.f81) rfl rfl rfl (Nat.le_of_ble_eq_true rfl) fun fr hP hN hbnd => ?_
  have hE : (envOf fr Try.prog).Ok := envOf_ok hP
  have hM := follows_of hP
  have hS : ∀ {draw ops}, statB Try.f81.ntmps draw ops = true → statB (envOf fr Try.prog).fr.N draw ops = true := fun h => by rw [envOf_fr, hN]; exact h
  repeat' (first
    | exact True.intro
    | refine ev_seq ?_
    | ((first | refine vgd_go ?_ | refine ev_region hE hM (hS (by decide +kernel)) ?_ | refine ev_if ?_ | refine end_ret hE rfl rfl ?_ | refine end_norm hE rfl rfl ?_ | refine endG_ret [] hE rfl ?_ | refine endG_norm [] hE rfl ?_ | refine vcallB_of hP (s_specNodeFault n _) ?_ | refine vcallB_of hP (s_l3Find n.entries _) ?_ | refine vcall_A ?_); simp (maxSteps := 2000000) only [go_sem, hP, ↓reduceIte, Nat.reduceAdd, Nat.reduceMul, Nat.reduceEqDiff, Nat.reduceSub, Nat.reduceLeDiff, reduceCtorEq])
    | refine ev_skip ?_ | refine ev_block ?_ | refine ev_blk ?_ | refine ev_ret ?_ | refine ev_exit ?_ | refine evx_code_ret ?_ | refine evx_blk_ret ?_ | refine evx_lp_ret ?_
    | refine evx_code_exit ?_ | refine evx_lp_exit ?_ | refine evx_blk_hit ?_ | refine evx_blk_pass (by decide) ?_
    | refine And.intro ?_ ?_ | intro _ | decide +kernel | omega)
  all_goals (simp_all [val, efcode] <;> rfl)
theorem s_implEntryFor (n : Node) (d r : Int) : Sat Try.prog 80 [aNode n, aI d, aI r] true (rIR (efcode n d r) (val (efcode n d r) (findRef n.entries r))) := by
  refine sat_walk (fn := Try.f80) rfl rfl rfl (Nat.le_of_ble_eq_true rfl) fun fr hP hN hbnd => ?_
  have hE : (envOf fr Try.prog).Ok := envOf_ok hP
  have hM := follows_of hP
  have hS : ∀ {draw ops}, statB Try.f80.ntmps draw ops = true → statB (envOf fr Try.prog).fr.N draw ops = true := fun h => by rw [envOf_fr, hN]; exact h
  repeat' (first
    | exact True.intro
    | refine ev_seq ?_
    | ((first | refine vgd_go ?_ | refine ev_region hE hM (hS (by decide +kernel)) ?_ | refine ev_if ?_ | refine end_ret hE rfl rfl ?_ | refine end_norm hE rfl rfl ?_ | refine endG_ret [] hE rfl ?_ | refine endG_norm [] hE rfl ?_ | refine vcallB_of hP (s_implNodeFault n _) ?_ | refine vcallB_of hP (s_entryAt n.entries _) ?_ | refine vcall_A ?_); simp (maxSteps := 2000000) only [go_sem, hP, ↓reduceIte, Nat.reduceAdd, Nat.reduceMul, Nat.reduceEqDiff, Nat.reduceSub, Nat.reduceLeDiff, reduceCtorEq])
    | refine ev_skip ?_ | refine ev_block ?_ | refine ev_blk ?_ | refine ev_ret ?_ | refine ev_exit ?_ | refine evx_code_ret ?_ | refine evx_blk_ret ?_ | refine evx_lp_ret ?_
    | refine evx_code_exit ?_ | refine evx_lp_exit ?_ | refine evx_blk_hit ?_ | refine evx_blk_pass (by decide) ?_
    | refine And.intro ?_ ?_ | intro _ | decide +kernel | omega)
  all_goals (simp_all [val, efcode] <;> rfl)
def cmpI (a b : Int) : Int := if a < b then -1 else if b < a then 1 else 0
def better (xs : List Entry) (r : Rect) (i j : Nat) : Bool :=
  decide (growth (xs.getD i default).rect r < growth (xs.getD j default).rect r) || (decide (growth (xs.getD i default).rect r = growth (xs.getD j default).rect r) && decide (area (xs.getD i default).rect < area (xs.getD j default).rect))
def chooseTo (xs : List Entry) (r : Rect) : Nat → Nat
  | 0 => 0
  | k + 1 => if better xs r k (chooseTo xs r k) then k else chooseTo xs r k
@[simp] theorem chooseTo_zero (xs : List Entry) (r : Rect) : chooseTo xs r 0 = 0 := rfl
@[simp] theorem chooseTo_one (xs : List Entry) (r : Rect) : chooseTo xs r 1 = 0 := by
  show (if better xs r 0 0 = true then 0 else 0) = 0
  split <;> rfl
theorem cmp_less {a b c d : Int} : ((if ¬cmpI a b = 0 then cmpI a b else cmpI c d) < 0) ↔ (decide (a < b) || (decide (a = b) && decide (c < d))) = true := by
  unfold cmpI; simp only [Bool.or_eq_true, Bool.and_eq_true, decide_eq_true_eq]; repeat' split
  all_goals omega
theorem chooseTo_yes {xs : List Entry} {r : Rect} {k : Nat} (h : better xs r k (chooseTo xs r k) = true) : chooseTo xs r (k + 1) = k := by
  show (if better xs r k (chooseTo xs r k) = true then k else chooseTo xs r k) = k
  rw [if_pos h]
theorem chooseTo_no {xs : List Entry} {r : Rect} {k : Nat} (h : ¬ better xs r k (chooseTo xs r k) = true) : chooseTo xs r (k + 1) = chooseTo xs r k := by
  show (if better xs r k (chooseTo xs r k) = true then k else chooseTo xs r k) = _
  rw [if_neg h]
theorem chooseTo_lt (xs : List Entry) (r : Rect) : ∀ k, chooseTo xs r k ≤ k
  | 0 => Nat.le_refl _
  | k + 1 => by have := chooseTo_lt xs r k; unfold chooseTo; split <;> omega
theorem chooseTo_len {xs : List Entry} {r : Rect} (h : 0 < xs.length) : ∀ k, k ≤ xs.length → chooseTo xs r k < xs.length
  | 0, _ => h
  | k + 1, hk => by have := chooseTo_len h (r := r) k (by omega); unfold chooseTo; split <;> omega
def chcode (xs : List Entry) (d : Int) (r : Rect) : Int := if esf xs d ≠ 0 then esf xs d else if rf r d ≠ 0 then rf r d else if xs.length = 0 then 4 else 0
theorem ef_rf {d : Int} {e : Entry} (h : entryF d e = 0) : rf e.rect d = 0 := by
  unfold entryF at h; split at h
  · rename_i h1; exact absurd h h1
  · rename_i h1; simpa using h1
theorem esf_rf {xs : List Entry} {d : Int} (h : esf xs d = 0) : ∀ x ∈ xs, rf x.rect d = 0 := by
  unfold esf at h
  (repeat' split at h) <;> try omega
  rename_i h1 _
  exact fun x hx => ef_rf (firstF_zero (by simpa using h1) x hx)
theorem esf_lens {xs : List Entry} {d : Int} {r : Rect} (h1 : esf xs d = 0) (h2 : rf r d = 0) : ∀ x ∈ xs, Lens x.rect r ∧ x.rect.low.length ≤ 1048576 := by
  intro x hx
  have h3 := esf_rf h1 x hx
  have := rf_three h3
  exact ⟨lens_of h3 h2, by omega⟩
def risesI (xs : List Int) (j : Nat) : Bool := decide (j = 0) || decide (xs.getD (j - 1) default < xs.getD j default)
def wf (xs : List Int) : Int := if (4 : Int) < xs.length then 2 else if xs.all (inB · 0 3) = false then 3 else if allLt xs.length (risesI xs) then 0 else 1
theorem wf_eq {xs : List Int} (h4 : ¬ (4 : Int) < xs.length) (ha : xs.all (inB · 0 3) = true) : wf xs = if allLt xs.length (risesI xs) then 0 else 1 := by
  unfold wf; rw [if_neg h4, if_neg (by rw [ha]; decide)]
theorem wf_3 {xs : List Int} (h4 : ¬ (4 : Int) < xs.length) (ha : xs.all (inB · 0 3) = false) : wf xs = 3 := by
  unfold wf; rw [if_neg h4, if_pos ha]
theorem any_nall {xs : List Int} {p : Int → Bool} : xs.any (fun n => !p n) = !xs.all p := by
  induction xs with
  | nil => rfl
  | cons x xs ih => simp [ih]
/-- Numbers that rise from one on. -/
def markedI (k : Int) (n : Nat) : List Int := (List.range n).map fun (j : Nat) => k + j
@[simp] theorem markedI_length (k : Int) (n : Nat) : (markedI k n).length = n := by simp [markedI]
theorem markedI_getD {k : Int} {n j : Nat} (h : j < n) : (markedI k n).getD j default = k + j := by
  rw [getD_lt (by simpa using h)]; simp [markedI]
/-- A row of numbers that is given: the key's name is none of the walk's own (those are multiples of 8). -/
@[go_sem] abbrev gI (κ : Nat) (xs : List Int) : Nat × Blk := (κ, .arr true 2 1 (xs.map eI))
@[go_sem] abbrev iT (n : Int) : T := .c (.int .i64 n)
/-- How far marks may go. -/
abbrev mMax : Int := 1000000000000
def markedR (k : Int) (r : Rect) : Rect := ⟨markedI k r.low.length, markedI (k + r.low.length) r.high.length⟩
theorem markedR_w (k : Int) (r : Rect) : wR (markedR k r) = wR r := by simp [markedR, wR]
@[go_sem] abbrev tR (a b : Nat) : T := .agg [.ref a, .ref b]
@[go_sem] abbrev gR (a b : Nat) (r : Rect) : List (Nat × Blk) := [gI a r.low, gI b r.high]
/-- A box, if there is no code. -/
def valR (c : Int) (r : Rect) : Rect := if c = 0 then r else ⟨[], []⟩
@[go_sem] abbrev aRR (c : Int) (r : Rect) : Arg := .d (true, [.int .i64 c, sI r.low, sI r.high])
@[go_sem] abbrev rRR (c : Int) (r : Rect) : List Dat := [(true, [.int .i64 c, oI r.low, oI r.high])]
@[go_sem] abbrev tRR (c : Int) (a b : Nat) : T := .agg [iT c, .ref a, .ref b]
theorem s_l1Ints (xs : List Int) (hx : xs.length ≤ 1048576) : Sat Try.prog 247 [aL xs] true (rL xs) := by
  refine sat_walk (fn := Try.f247) rfl rfl rfl (Nat.le_of_ble_eq_true rfl) fun fr hP hN hbnd => ?_
  have hE : (envOf fr Try.prog).Ok := envOf_ok hP
  have hM := follows_of hP
  have hS : ∀ {draw ops}, statB Try.f247.ntmps draw ops = true → statB (envOf fr Try.prog).fr.N draw ops = true := fun h => by rw [envOf_fr, hN]; exact h
  have hlen := bndL hbnd
  repeat' (first
    | exact True.intro
    | refine ev_seq ?_
    | ((first | refine vgd_go ?_ | refine ev_region hE hM (hS (by decide +kernel)) ?_ | refine ev_if ?_ | refine end_ret hE rfl rfl ?_ | refine end_norm hE rfl rfl ?_ | refine endG_ret [] hE rfl ?_ | refine endG_norm [] hE rfl ?_ | refine vcall_A ?_); simp (maxSteps := 2000000) only [go_sem, hP, ↓reduceIte, Nat.reduceAdd, Nat.reduceMul, Nat.reduceEqDiff, Nat.reduceSub, Nat.reduceLeDiff, reduceCtorEq, Bool.and_self])
    | refine ev_skip ?_ | refine ev_block ?_ | refine ev_blk ?_ | refine ev_ret ?_ | refine ev_exit ?_ | refine evx_code_ret ?_ | refine evx_blk_ret ?_ | refine evx_lp_ret ?_
    | refine evx_code_exit ?_ | refine evx_lp_exit ?_ | refine evx_blk_hit ?_ | refine evx_blk_pass (by decide) ?_
    | refine And.intro ?_ ?_ | intro _ | decide +kernel | omega)
  all_goals (simp_all; done)
theorem s_l1Copy (r : Rect) (h1 : r.low.length ≤ 1048576) (h2 : r.high.length ≤ 1048576) : Sat Try.prog 151 [pR r] true (rR r) := by
  refine sat_walk (fn := Try.f151) rfl rfl rfl (Nat.le_of_ble_eq_true rfl) fun fr hP hN hbnd => ?_
  have hE : (envOf fr Try.prog).Ok := envOf_ok hP
  have hM := follows_of hP
  have hS : ∀ {draw ops}, statB Try.f151.ntmps draw ops = true → statB (envOf fr Try.prog).fr.N draw ops = true := fun h => by rw [envOf_fr, hN]; exact h
  repeat' (first
    | exact True.intro
    | refine ev_seq ?_
    | ((first | refine vgd_go ?_ | refine ev_region hE hM (hS (by decide +kernel)) ?_ | refine ev_if ?_ | refine end_ret hE rfl rfl ?_ | refine end_norm hE rfl rfl ?_ | refine endG_ret [] hE rfl ?_ | refine endG_norm [] hE rfl ?_ | refine vcallB_of hP (s_l1Ints _ h1) ?_ | refine vcallB_of hP (s_l1Ints _ h2) ?_ | refine vcall_A ?_); simp (maxSteps := 2000000) only [go_sem, hP, ↓reduceIte, Nat.reduceAdd, Nat.reduceMul, Nat.reduceEqDiff, Nat.reduceSub, Nat.reduceLeDiff, reduceCtorEq])
    | refine ev_skip ?_ | refine ev_block ?_ | refine ev_blk ?_ | refine ev_ret ?_ | refine ev_exit ?_ | refine evx_code_ret ?_ | refine evx_blk_ret ?_ | refine evx_lp_ret ?_
    | refine evx_code_exit ?_ | refine evx_lp_exit ?_ | refine evx_blk_hit ?_ | refine evx_blk_pass (by decide) ?_
    | refine And.intro ?_ ?_ | intro _ | decide +kernel | omega)
/-- How far the marks are, ahead of the j-th element; the first elements, marked. -/
def kS {α : Type} (w : α → Nat) (k : Int) (xs : List α) (j : Nat) : Int := k + sumW w (xs.take j)
def preS {α : Type} [Inhabited α] (f : Int → α → α) (w : α → Nat) (k : Int) (xs : List α) (j : Nat) : List α := (List.range j).map fun i => f (kS w k xs i) (xs.getD i default)
section
variable {α : Type} [Inhabited α] {f : Int → α → α} {w : α → Nat} {k : Int} {xs : List α} {j : Nat}
@[simp] theorem preS_length : (preS f w k xs j).length = j := by simp [preS]
theorem preS_zero : preS f w k xs 0 = [] := rfl
theorem preS_succ : preS f w k xs (j + 1) = preS f w k xs j ++ [f (kS w k xs j) (xs.getD j default)] := by simp [preS, List.range_succ]
theorem preS_getD {n : Nat} (h : j < n) : (preS f w k xs n).getD j default = f (kS w k xs j) (xs.getD j default) := by
  rw [getD_lt (by simpa using h)]; simp [preS]
theorem kS_zero : kS w k xs 0 = k := by simp [kS, sumW]
theorem kS_succ (h : j < xs.length) : kS w k xs (j + 1) = kS w k xs j + w (xs.getD j default) := by
  have := sumW_step (w := w) (d := default) h
  simp only [kS, this]; omega
theorem kS_le (j : Nat) : kS w k xs j ≤ k + sumW w xs := by
  have := sumW_le (w := w) (xs := xs) j
  simp only [kS]; omega
theorem kS_ge (j : Nat) : k ≤ kS w k xs j := by simp only [kS]; omega
theorem kS_done : kS w k xs xs.length = k + sumW w xs := by simp [kS]
theorem drop_map {β : Type} {g : α → β} (h : j < xs.length) : (xs.drop j).map g = g (xs.getD j default) :: (xs.drop (j + 1)).map g := by
  rw [List.drop_eq_getElem_cons h, getD_lt h]; rfl
end
def mwEntry (e : Entry) : Nat := wR e.rect + 2
def mkEntry (k : Int) (e : Entry) : Entry := ⟨markedR k e.rect, k + e.rect.low.length + e.rect.high.length, k + e.rect.low.length + e.rect.high.length + 1⟩
def markedEs (k : Int) (xs : List Entry) : List Entry := preS mkEntry mwEntry k xs xs.length
@[go_sem] abbrev gEs (κ : Nat) (xs : List Entry) : Nat × Blk := (κ, .arr true 85 4 (xs.map oEntry))
theorem wE_get {xs : List Entry} {i : Nat} (h : i < xs.length) (hw : wEntryS xs ≤ 1048576) : (xs.getD i default).rect.low.length ≤ 1048576 ∧ (xs.getD i default).rect.high.length ≤ 1048576 := by
  have := sumW_get (w := wEntry) (d := default) h
  have e : wEntry (xs.getD i default) = (xs.getD i default).rect.low.length + (xs.getD i default).rect.high.length := rfl
  unfold wEntryS at hw
  omega
theorem s_clonedEntries (xs : List Entry) (hw : wEntryS xs ≤ 1048576) : Sat Try.prog 230 [aEntryS xs] true (rEntryS xs) := by
  refine sat_walk (fn := Try.f230) rfl rfl rfl (Nat.le_of_ble_eq_true rfl) fun fr hP hN hbnd => ?_
  have hE : (envOf fr Try.prog).Ok := envOf_ok hP
  have hM := follows_of hP
  have hS : ∀ {draw ops}, statB Try.f230.ntmps draw ops = true → statB (envOf fr Try.prog).fr.N draw ops = true := fun h => by rw [envOf_fr, hN]; exact h
  have hlen : xs.length ≤ 1048576 := by unfold wEntryS at hw; omega
  repeat' (first
    | exact True.intro
    | refine ev_seq ?_
    | ((first | refine vgd_go ?_ | refine ev_region hE hM (hS (by decide +kernel)) ?_ | refine ev_if ?_ | refine end_ret hE rfl rfl ?_ | refine end_norm hE rfl rfl ?_ | refine endG_ret [] hE rfl ?_ | refine endG_norm [] hE rfl ?_ | refine vcall_A ?_); simp (maxSteps := 2000000) only [go_sem, hP, ↓reduceIte, Nat.reduceAdd, Nat.reduceMul, Nat.reduceEqDiff, Nat.reduceSub, Nat.reduceLeDiff, reduceCtorEq])
    | refine ev_skip ?_ | refine ev_block ?_ | refine ev_blk ?_ | refine ev_ret ?_ | refine ev_exit ?_ | refine evx_code_ret ?_ | refine evx_blk_ret ?_ | refine evx_lp_ret ?_
    | refine evx_code_exit ?_ | refine evx_lp_exit ?_ | refine evx_blk_hit ?_ | refine evx_blk_pass (by decide) ?_
    | refine And.intro ?_ ?_ | intro _ | decide +kernel | omega)
  refine ev_loop (ι := Nat) (fun k => [(3, .ref 100000), (7, .c (sEntryS xs)), (8, iT xs.length), (9, iT k)]) (fun k => [(100000, .arr true 85 4 ((xs.take k).map oEntry))]) (fun _ => []) (fun k => k ≤ xs.length) (fun k => xs.length - k) 0 [(100000, some 4096)] (by omega) (by simp only [go_sem, hP, ↓reduceIte, Nat.reduceAdd, Nat.reduceMul, Nat.reduceEqDiff, Nat.reduceSub, Nat.reduceLeDiff, reduceCtorEq]; simp) ?_
  intro k hk
  have hw1 : k < xs.length → IntKind.i64.wrap ((k : Int) + 1) = k + 1 := fun h => i64_in _ (by omega)
  have htl : ((xs.take k).map oEntry).length = k := by simp; omega
  by_cases hlt : k < xs.length
  · have hg := wE_get hlt hw
    repeat' (first
      | exact True.intro
      | refine ev_seq ?_
      | ((first | refine vgd_go ?_ | refine ev_region hE hM (hS (by decide +kernel)) ?_ | refine ev_if ?_ | refine end_ret hE rfl rfl ?_ | refine end_norm hE rfl rfl ?_ | refine endG_ret [] hE rfl ?_ | refine endG_norm [] hE rfl ?_ | refine vcallB_of hP (s_cloned (xs.getD k default).rect hg.1 hg.2) ?_ | refine vcall_A ?_); simp (maxSteps := 2000000) only [go_sem, hP, ↓reduceIte, Nat.reduceAdd, Nat.reduceMul, Nat.reduceEqDiff, Nat.reduceSub, Nat.reduceLeDiff, reduceCtorEq, htl, Bool.and_self])
      | refine ev_skip ?_ | refine ev_block ?_ | refine ev_blk ?_ | refine ev_ret ?_ | refine ev_exit ?_ | refine evx_code_ret ?_ | refine evx_blk_ret ?_ | refine evx_lp_ret ?_
      | refine evx_code_exit ?_ | refine evx_lp_exit ?_ | refine evx_blk_hit ?_ | refine evx_blk_pass (by decide) ?_
      | refine And.intro ?_ ?_ | intro _ | decide +kernel | omega)
    all_goals first
      | exact ev_lp (k + 1) [(100000, some 20560)] (by omega) (by omega) (by simp only [go_sem, hP, ↓reduceIte, Nat.reduceAdd, Nat.reduceMul, Nat.reduceEqDiff, Nat.reduceSub, Nat.reduceLeDiff, reduceCtorEq]; rw [take_step (d := default) hlt]; simp [hw1 hlt, oEntry_eq])
      | (exfalso; omega)
      | (simp_all; done)
  · obtain rfl : k = xs.length := by omega
    repeat' (first
      | exact True.intro
      | refine ev_seq ?_
      | ((first | refine vgd_go ?_ | refine ev_region hE hM (hS (by decide +kernel)) ?_ | refine ev_if ?_ | refine end_ret hE rfl rfl ?_ | refine end_norm hE rfl rfl ?_ | refine endG_ret [] hE rfl ?_ | refine endG_norm [] hE rfl ?_ | refine vcall_A ?_); simp (maxSteps := 2000000) only [go_sem, hP, ↓reduceIte, Nat.reduceAdd, Nat.reduceMul, Nat.reduceEqDiff, Nat.reduceSub, Nat.reduceLeDiff, reduceCtorEq, htl, List.take_length])
      | refine ev_skip ?_ | refine ev_block ?_ | refine ev_blk ?_ | refine ev_ret ?_ | refine ev_exit ?_ | refine evx_code_ret ?_ | refine evx_blk_ret ?_ | refine evx_lp_ret ?_
      | refine evx_code_exit ?_ | refine evx_lp_exit ?_ | refine evx_blk_hit ?_ | refine evx_blk_pass (by decide) ?_
      | refine And.intro ?_ ?_ | intro _ | decide +kernel | omega)
    all_goals first
      | (exfalso; omega)
      | (simp_all; done)
theorem s_clonedNode (n : Node) (hw : wEntryS n.entries ≤ 1048576) : Sat Try.prog 179 [aNode n] true (rNode n) := by
  refine sat_walk (fn := Try.f179) rfl rfl rfl (Nat.le_of_ble_eq_true rfl) fun fr hP hN hbnd => ?_
  have hE : (envOf fr Try.prog).Ok := envOf_ok hP
  have hM := follows_of hP
  have hS : ∀ {draw ops}, statB Try.f179.ntmps draw ops = true → statB (envOf fr Try.prog).fr.N draw ops = true := fun h => by rw [envOf_fr, hN]; exact h
  repeat' (first
    | exact True.intro
    | refine ev_seq ?_
    | ((first | refine vgd_go ?_ | refine ev_region hE hM (hS (by decide +kernel)) ?_ | refine ev_if ?_ | refine end_ret hE rfl rfl ?_ | refine end_norm hE rfl rfl ?_ | refine endG_ret [] hE rfl ?_ | refine endG_norm [] hE rfl ?_ | refine vcallB_of hP (s_clonedEntries n.entries hw) ?_ | refine vcall_A ?_); simp (maxSteps := 2000000) only [go_sem, hP, ↓reduceIte, Nat.reduceAdd, Nat.reduceMul, Nat.reduceEqDiff, Nat.reduceSub, Nat.reduceLeDiff, reduceCtorEq])
    | refine ev_skip ?_ | refine ev_block ?_ | refine ev_blk ?_ | refine ev_ret ?_ | refine ev_exit ?_ | refine evx_code_ret ?_ | refine evx_blk_ret ?_ | refine evx_lp_ret ?_
    | refine evx_code_exit ?_ | refine evx_lp_exit ?_ | refine evx_blk_hit ?_ | refine evx_blk_pass (by decide) ?_
    | refine And.intro ?_ ?_ | intro _ | decide +kernel | omega)
theorem s_l3Entries (xs : List Entry) (hw : wEntryS xs ≤ 1048576) : Sat Try.prog 120 [aEntryS xs] true (rEntryS xs) := by
  refine sat_walk (fn := Try.f120) rfl rfl rfl (Nat.le_of_ble_eq_true rfl) fun fr hP hN hbnd => ?_
  have hE : (envOf fr Try.prog).Ok := envOf_ok hP
  have hM := follows_of hP
  have hS : ∀ {draw ops}, statB Try.f120.ntmps draw ops = true → statB (envOf fr Try.prog).fr.N draw ops = true := fun h => by rw [envOf_fr, hN]; exact h
  have hlen : xs.length ≤ 1048576 := by unfold wEntryS at hw; omega
  repeat' (first
    | exact True.intro
    | refine ev_seq ?_
    | ((first | refine vgd_go ?_ | refine ev_region hE hM (hS (by decide +kernel)) ?_ | refine ev_if ?_ | refine end_ret hE rfl rfl ?_ | refine end_norm hE rfl rfl ?_ | refine endG_ret [] hE rfl ?_ | refine endG_norm [] hE rfl ?_ | refine vcall_A ?_); simp (maxSteps := 2000000) only [go_sem, hP, ↓reduceIte, Nat.reduceAdd, Nat.reduceMul, Nat.reduceEqDiff, Nat.reduceSub, Nat.reduceLeDiff, reduceCtorEq])
    | refine ev_skip ?_ | refine ev_block ?_ | refine ev_blk ?_ | refine ev_ret ?_ | refine ev_exit ?_ | refine evx_code_ret ?_ | refine evx_blk_ret ?_ | refine evx_lp_ret ?_
    | refine evx_code_exit ?_ | refine evx_lp_exit ?_ | refine evx_blk_hit ?_ | refine evx_blk_pass (by decide) ?_
    | refine And.intro ?_ ?_ | intro _ | decide +kernel | omega)
  refine ev_loop (ι := Nat) (fun k => [(0, .c (sEntryS xs)), (3, .ref 100000), (4, iT k)]) (fun k => [(100000, .arr true 85 4 ((xs.take k).map oEntry))]) (fun _ => []) (fun k => k ≤ xs.length) (fun k => xs.length - k) 0 [(100000, some 4096)] (by omega) (by simp only [go_sem, hP, ↓reduceIte, Nat.reduceAdd, Nat.reduceMul, Nat.reduceEqDiff, Nat.reduceSub, Nat.reduceLeDiff, reduceCtorEq]; simp) ?_
  intro k hk
  have hw1 : k < xs.length → IntKind.i64.wrap ((k : Int) + 1) = k + 1 := fun h => i64_in _ (by omega)
  have htl : ((xs.take k).map oEntry).length = k := by simp; omega
  by_cases hlt : k < xs.length
  · have hg := wE_get hlt hw
    repeat' (first
      | exact True.intro
      | refine ev_seq ?_
      | ((first | refine vgd_go ?_ | refine ev_region hE hM (hS (by decide +kernel)) ?_ | refine ev_if ?_ | refine end_ret hE rfl rfl ?_ | refine end_norm hE rfl rfl ?_ | refine endG_ret [] hE rfl ?_ | refine endG_norm [] hE rfl ?_ | refine vcallB_of hP (s_l1Copy (xs.getD k default).rect hg.1 hg.2) ?_ | refine vcall_A ?_); simp (maxSteps := 2000000) only [go_sem, hP, ↓reduceIte, Nat.reduceAdd, Nat.reduceMul, Nat.reduceEqDiff, Nat.reduceSub, Nat.reduceLeDiff, reduceCtorEq, htl, Bool.and_self])
      | refine ev_skip ?_ | refine ev_block ?_ | refine ev_blk ?_ | refine ev_ret ?_ | refine ev_exit ?_ | refine evx_code_ret ?_ | refine evx_blk_ret ?_ | refine evx_lp_ret ?_
      | refine evx_code_exit ?_ | refine evx_lp_exit ?_ | refine evx_blk_hit ?_ | refine evx_blk_pass (by decide) ?_
      | refine And.intro ?_ ?_ | intro _ | decide +kernel | omega)
    all_goals first
      | exact ev_lp (k + 1) [(100000, some 28696)] (by omega) (by omega) (by simp only [go_sem, hP, ↓reduceIte, Nat.reduceAdd, Nat.reduceMul, Nat.reduceEqDiff, Nat.reduceSub, Nat.reduceLeDiff, reduceCtorEq]; rw [take_step (d := default) hlt]; simp [hw1 hlt, oEntry_eq])
      | (exfalso; omega)
      | (simp_all; done)
  · obtain rfl : k = xs.length := by omega
    repeat' (first
      | exact True.intro
      | refine ev_seq ?_
      | ((first | refine vgd_go ?_ | refine ev_region hE hM (hS (by decide +kernel)) ?_ | refine ev_if ?_ | refine end_ret hE rfl rfl ?_ | refine end_norm hE rfl rfl ?_ | refine endG_ret [] hE rfl ?_ | refine endG_norm [] hE rfl ?_ | refine vcall_A ?_); simp (maxSteps := 2000000) only [go_sem, hP, ↓reduceIte, Nat.reduceAdd, Nat.reduceMul, Nat.reduceEqDiff, Nat.reduceSub, Nat.reduceLeDiff, reduceCtorEq, htl, List.take_length])
      | refine ev_skip ?_ | refine ev_block ?_ | refine ev_blk ?_ | refine ev_ret ?_ | refine ev_exit ?_ | refine evx_code_ret ?_ | refine evx_blk_ret ?_ | refine evx_lp_ret ?_
      | refine evx_code_exit ?_ | refine evx_lp_exit ?_ | refine evx_blk_hit ?_ | refine evx_blk_pass (by decide) ?_
      | refine And.intro ?_ ?_ | intro _ | decide +kernel | omega)
    all_goals first
      | (exfalso; omega)
      | (simp_all; done)
theorem s_l3Copy (n : Node) (hw : wEntryS n.entries ≤ 1048576) : Sat Try.prog 181 [pNode n] true (rNode n) := by
  refine sat_walk (fn := Try.f181) rfl rfl rfl (Nat.le_of_ble_eq_true rfl) fun fr hP hN hbnd => ?_
  have hE : (envOf fr Try.prog).Ok := envOf_ok hP
  have hM := follows_of hP
  have hS : ∀ {draw ops}, statB Try.f181.ntmps draw ops = true → statB (envOf fr Try.prog).fr.N draw ops = true := fun h => by rw [envOf_fr, hN]; exact h
  repeat' (first
    | exact True.intro
    | refine ev_seq ?_
    | ((first | refine vgd_go ?_ | refine ev_region hE hM (hS (by decide +kernel)) ?_ | refine ev_if ?_ | refine end_ret hE rfl rfl ?_ | refine end_norm hE rfl rfl ?_ | refine endG_ret [] hE rfl ?_ | refine endG_norm [] hE rfl ?_ | refine vcallB_of hP (s_l3Entries n.entries hw) ?_ | refine vcall_A ?_); simp (maxSteps := 2000000) only [go_sem, hP, ↓reduceIte, Nat.reduceAdd, Nat.reduceMul, Nat.reduceEqDiff, Nat.reduceSub, Nat.reduceLeDiff, reduceCtorEq])
    | refine ev_skip ?_ | refine ev_block ?_ | refine ev_blk ?_ | refine ev_ret ?_ | refine ev_exit ?_ | refine evx_code_ret ?_ | refine evx_blk_ret ?_ | refine evx_lp_ret ?_
    | refine evx_code_exit ?_ | refine evx_lp_exit ?_ | refine evx_blk_hit ?_ | refine evx_blk_pass (by decide) ?_
    | refine And.intro ?_ ?_ | intro _ | decide +kernel | omega)
/-- All boxes have as many numbers as n tells. -/
def Even (xs : List Entry) (n : Nat) : Prop := ∀ x ∈ xs, x.rect.low.length = n ∧ x.rect.high.length = n
theorem even_get {xs : List Entry} {n k : Nat} (h : Even xs n) (hk : k < xs.length) : (xs.getD k default).rect.low.length = n ∧ (xs.getD k default).rect.high.length = n := h _ (getD_mem hk)
theorem even_drop {xs : List Entry} {n k : Nat} (h : Even xs n) : Even (xs.drop k) n := fun x hx => h x (List.mem_of_mem_drop hx)
theorem even_take {xs : List Entry} {n k : Nat} (h : Even xs n) : Even (xs.take k) n := fun x hx => h x (List.mem_of_mem_take hx)
def boxTo (xs : List Entry) : Nat → Rect
  | 0 => (xs.getD 0 default).rect
  | k + 1 => un (boxTo xs k) (xs.getD (k + 1) default).rect
theorem boxTo_zero (xs : List Entry) : boxTo xs 0 = (xs.getD 0 default).rect := rfl
theorem boxTo_succ (xs : List Entry) (k : Nat) : boxTo xs (k + 1) = un (boxTo xs k) (xs.getD (k + 1) default).rect := rfl
def bx (xs : List Entry) : Rect := boxTo xs (xs.length - 1)
theorem un_size {a b : Rect} : (un a b).low.length = a.low.length ∧ (un a b).high.length = a.low.length := by simp [un]
theorem boxTo_size {xs : List Entry} {n : Nat} (h : Even xs n) : ∀ k, k < xs.length → (boxTo xs k).low.length = n ∧ (boxTo xs k).high.length = n
  | 0, hk => even_get h hk
  | k + 1, hk => by
    have := boxTo_size h k (by omega)
    rw [boxTo_succ]
    exact ⟨by rw [un_size.1]; exact this.1, by rw [un_size.2]; exact this.1⟩
theorem boxTo_lens {xs : List Entry} {n k : Nat} (h : Even xs n) (hk : k + 1 < xs.length) : Lens (boxTo xs k) (xs.getD (k + 1) default).rect := by
  have h1 := boxTo_size h k (by omega)
  have h2 := even_get h hk
  exact ⟨by omega, by omega, by omega⟩
theorem bx_size {xs : List Entry} {n : Nat} (h : Even xs n) (h0 : 0 < xs.length) : (bx xs).low.length = n ∧ (bx xs).high.length = n := boxTo_size h _ (by omega)
theorem nf_rf {n : Node} {d : Int} (h : nf n d = 0) : ∀ x ∈ n.entries, rf x.rect d = 0 := by
  unfold nf at h
  (repeat' split at h) <;> try omega
  all_goals first
    | (rename_i h1 h2 h3; exact fun x hx => ef_rf (firstF_zero (by simpa using ‹¬firstF (entryF d) n.entries ≠ 0›) x hx))
    | skip
theorem rf_even {xs : List Entry} {d : Int} (h : ∀ x ∈ xs, rf x.rect d = 0) : Even xs d.toNat := fun x hx => by
  have := rf_len (h x hx); omega
theorem rf_two {r : Rect} {d : Int} (h : rf r d = 0) : 2 ≤ d ∧ d ≤ 3 := by
  have h1 := rf_len h
  have h2 : pf r.low d = 0 := by unfold rf at h; split at h <;> simp_all
  have := pf_three h2
  unfold pf at h2; split at h2 <;> simp_all [inB]
def weC (n : Node) (d : Int) (e : Entry) : Int := if nf n d ≠ 0 then nf n d else if entryF d e ≠ 0 then entryF d e else if fits n.level e = false then 1 else if 0 ≤ findRef n.entries e.ref then 6 else if (4 : Int) < n.entries.length then 7 else 0
def weV (n : Node) (d : Int) (e : Entry) : Node := if weC n d e = 0 then ⟨n.level, n.nsn, n.right, n.entries ++ [e]⟩ else ⟨0, 0, 0, []⟩
def wdC (n : Node) (d r : Int) (b : Rect) : Int := if nf n d ≠ 0 then nf n d else if rf b d ≠ 0 then rf b d else if findRef n.entries r < 0 then 4 else 0
def wider (e : Entry) (b : Rect) : Entry := ⟨un e.rect b, e.ref, e.nsn⟩
def wdV (n : Node) (d r : Int) (b : Rect) : Node := if wdC n d r b = 0 then ⟨n.level, n.nsn, n.right, n.entries.set (findRef n.entries r).toNat (wider (n.entries.getD (findRef n.entries r).toNat default) b)⟩ else ⟨0, 0, 0, []⟩
theorem nf_inB {n : Node} {d : Int} (h : nf n d = 0) : inB d 2 3 = true ∧ n.entries.length ≤ 5 := by
  unfold nf at h
  (repeat' split at h) <;> simp_all <;> omega
theorem nf_small {n : Node} {d : Int} (h : nf n d = 0) : d.toNat ≤ 1048576 := by
  have := (nf_inB h).1
  simp [inB] at this; omega
theorem esf_small {xs : List Entry} {d : Int} (h : esf xs d = 0) : d.toNat ≤ 1048576 := by
  unfold esf at h
  (repeat' split at h) <;> simp_all [inB] <;> omega
theorem even_w {xs : List Entry} {d : Int} (h : ∀ x ∈ xs, rf x.rect d = 0) : wEntryS xs ≤ 7 * xs.length := by
  unfold wEntryS
  have : ∀ ys : List Entry, (∀ x ∈ ys, rf x.rect d = 0) → sumW wEntry ys ≤ 6 * ys.length := by
    intro ys
    induction ys with
    | nil => intro _; exact Nat.zero_le _
    | cons y ys ih =>
      intro hy
      have e2 : sumW wEntry (y :: ys) = wEntry y + sumW wEntry ys := rfl
      have h1 := hy y (by simp)
      have h2 := rf_len h1
      have h3 := rf_two h1
      have h4 := ih fun x hx => hy x (by simp [hx])
      have e3 : wEntry y = y.rect.low.length + y.rect.high.length := rfl
      rw [e2, List.length_cons, e3]; omega
  have := this xs h
  omega
theorem nf_w {n : Node} {d : Int} (h : nf n d = 0) : wEntryS n.entries ≤ 35 := by
  have h1 := even_w (nf_rf h)
  have h2 := (nf_inB h).2
  omega
theorem findRef_get {xs : List Entry} {r : Int} (h : 0 ≤ findRef xs r) : ∃ i : Nat, findRef xs r = i ∧ i < xs.length ∧ (xs.getD i default).ref = r := by
  unfold findRef at h ⊢
  split at h
  · rename_i ha
    rw [if_pos ha]
    have hi : xs.findIdx (fun e => decide (e.ref = r)) < xs.length := by
      rw [List.findIdx_lt_length]; simpa using ha
    refine ⟨_, rfl, hi, ?_⟩
    rw [getD_lt hi]
    have := List.findIdx_getElem (w := hi)
    simpa using this
  · omega
theorem s_l3Box (xs : List Entry) (n : Nat) (h : Even xs n) (h0 : 0 < xs.length) (hn : n ≤ 1048576) : Sat Try.prog 182 [aEntryS xs] true (rR (bx xs)) := by
  refine sat_walk (fn := Try.f182) rfl rfl rfl (Nat.le_of_ble_eq_true rfl) fun fr hP hN hbnd => ?_
  have hE : (envOf fr Try.prog).Ok := envOf_ok hP
  have hM := follows_of hP
  have hS : ∀ {draw ops}, statB Try.f182.ntmps draw ops = true → statB (envOf fr Try.prog).fr.N draw ops = true := fun h => by rw [envOf_fr, hN]; exact h
  have hlen := bnd_EntryS hbnd
  have g0 := even_get h h0
  repeat' (first
    | exact True.intro
    | refine ev_seq ?_
    | ((first | refine vgd_go ?_ | refine ev_region hE hM (hS (by decide +kernel)) ?_ | refine ev_if ?_ | refine end_ret hE rfl rfl ?_ | refine end_norm hE rfl rfl ?_ | refine endG_ret [] hE rfl ?_ | refine endG_norm [] hE rfl ?_ | refine vcallB_of hP (s_l1Copy (xs.getD 0 default).rect (by omega) (by omega)) ?_ | refine vcall_A ?_); simp (maxSteps := 2000000) only [go_sem, hP, ↓reduceIte, Nat.reduceAdd, Nat.reduceMul, Nat.reduceEqDiff, Nat.reduceSub, Nat.reduceLeDiff, reduceCtorEq])
    | refine ev_skip ?_ | refine ev_block ?_ | refine ev_blk ?_ | refine ev_ret ?_ | refine ev_exit ?_ | refine evx_code_ret ?_ | refine evx_blk_ret ?_ | refine evx_lp_ret ?_
    | refine evx_code_exit ?_ | refine evx_lp_exit ?_ | refine evx_blk_hit ?_ | refine evx_blk_pass (by decide) ?_
    | refine And.intro ?_ ?_ | intro _ | decide +kernel | omega)
  all_goals first | (exfalso; omega) | skip
  refine ev_loop (ι := Nat) (fun k => [(0, .c (sEntryS xs)), (2, .ptr 0 0), (3, .ptr 4128 0), (4, iT (k + 1))]) (fun k => [(0, .box [.nilS, .nilS]), (4128, .box [.ref 100000, .ref 100001]), (100000, .arr true 2 1 ((boxTo xs k).low.map eI)), (100001, .arr true 2 1 ((boxTo xs k).high.map eI))]) (fun _ => []) (fun k => k + 1 ≤ xs.length) (fun k => xs.length - k) 0 [(100000, some 4120), (100001, some 1052696)] (by omega) (by simp only [go_sem, hP, ↓reduceIte, Nat.reduceAdd, Nat.reduceMul, Nat.reduceEqDiff, Nat.reduceSub, Nat.reduceLeDiff, reduceCtorEq]; simp [boxTo_zero]) ?_
  intro k hk
  by_cases hlt : k + 1 < xs.length
  · have hw : IntKind.i64.wrap ((k : Int) + 1 + 1) = k + 1 + 1 := i64_in _ (by have : maxLen = 9223372036854775807 := rfl; omega)
    have hs := boxTo_size h k (by omega)
    have hk1 : Int.toNat ((k : Int) + 1) = k + 1 := by omega
    repeat' (first
      | exact True.intro
      | refine ev_seq ?_
      | ((first | refine vgd_go ?_ | refine ev_region hE hM (hS (by decide +kernel)) ?_ | refine ev_if ?_ | refine end_ret hE rfl rfl ?_ | refine end_norm hE rfl rfl ?_ | refine endG_ret [] hE rfl ?_ | refine endG_norm [] hE rfl ?_ | refine vcallB_of hP (s_l1Union (boxTo xs k) (xs.getD (k + 1) default).rect (boxTo_lens h hlt) (by omega)) ?_ | refine vcall_A ?_); simp (maxSteps := 2000000) only [go_sem, hP, ↓reduceIte, Nat.reduceAdd, Nat.reduceMul, Nat.reduceEqDiff, Nat.reduceSub, Nat.reduceLeDiff, reduceCtorEq, hk1])
      | refine ev_skip ?_ | refine ev_block ?_ | refine ev_blk ?_ | refine ev_ret ?_ | refine ev_exit ?_ | refine evx_code_ret ?_ | refine evx_blk_ret ?_ | refine evx_lp_ret ?_
      | refine evx_code_exit ?_ | refine evx_lp_exit ?_ | refine evx_blk_hit ?_ | refine evx_blk_pass (by decide) ?_
      | refine And.intro ?_ ?_ | intro _ | decide +kernel | omega)
    all_goals first
      | exact ev_lp (k + 1) [(100000, some 20512), (100001, some 1069088)] (by omega) (by omega) (by simp only [go_sem, hP, ↓reduceIte, Nat.reduceAdd, Nat.reduceMul, Nat.reduceEqDiff, Nat.reduceSub, Nat.reduceLeDiff, reduceCtorEq]; simp [hw, boxTo_succ])
      | (exfalso; omega)
      | (simp_all; done)
  · repeat' (first
      | exact True.intro
      | refine ev_seq ?_
      | ((first | refine vgd_go ?_ | refine ev_region hE hM (hS (by decide +kernel)) ?_ | refine ev_if ?_ | refine end_ret hE rfl rfl ?_ | refine end_norm hE rfl rfl ?_ | refine endG_ret [] hE rfl ?_ | refine endG_norm [] hE rfl ?_ | refine vcall_A ?_); simp (maxSteps := 2000000) only [go_sem, hP, ↓reduceIte, Nat.reduceAdd, Nat.reduceMul, Nat.reduceEqDiff, Nat.reduceSub, Nat.reduceLeDiff, reduceCtorEq])
      | refine ev_skip ?_ | refine ev_block ?_ | refine ev_blk ?_ | refine ev_ret ?_ | refine ev_exit ?_ | refine evx_code_ret ?_ | refine evx_blk_ret ?_ | refine evx_lp_ret ?_
      | refine evx_code_exit ?_ | refine evx_lp_exit ?_ | refine evx_blk_hit ?_ | refine evx_blk_pass (by decide) ?_
      | refine And.intro ?_ ?_ | intro _ | decide +kernel | omega)
    all_goals first
      | (exfalso; omega)
      | (have e : xs.length - 1 = k := by omega
         simp [bx, e]; done)
      | (simp_all; done)
theorem s_box (xs : List Entry) (n : Nat) (h : Even xs n) (h0 : 0 < xs.length) (hn : n ≤ 1048576) : Sat Try.prog 180 [aEntryS xs] true (rR (bx xs)) := by
  refine sat_walk (fn := Try.f180) rfl rfl rfl (Nat.le_of_ble_eq_true rfl) fun fr hP hN hbnd => ?_
  have hE : (envOf fr Try.prog).Ok := envOf_ok hP
  have hM := follows_of hP
  have hS : ∀ {draw ops}, statB Try.f180.ntmps draw ops = true → statB (envOf fr Try.prog).fr.N draw ops = true := fun h => by rw [envOf_fr, hN]; exact h
  have hlen := bnd_EntryS hbnd
  have hm : maxLen = 9223372036854775807 := rfl
  have g0 := even_get h h0
  have hdr : List.take (xs.length - Int.toNat 1) (List.drop (Int.toNat 1) (List.map eEntry xs)) = (xs.drop 1).map eEntry := by rw [show Int.toNat 1 = 1 from rfl, ← List.map_drop, List.take_of_length_le (by simp)]
  repeat' (first
    | exact True.intro
    | refine ev_seq ?_
    | ((first | refine vgd_go ?_ | refine ev_region hE hM (hS (by decide +kernel)) ?_ | refine ev_if ?_ | refine end_ret hE rfl rfl ?_ | refine end_norm hE rfl rfl ?_ | refine endG_ret [] hE rfl ?_ | refine endG_norm [] hE rfl ?_ | refine vcallB_of hP (s_cloned (xs.getD 0 default).rect (by omega) (by omega)) ?_ | refine vcall_A ?_); simp (maxSteps := 2000000) only [go_sem, hP, ↓reduceIte, Nat.reduceAdd, Nat.reduceMul, Nat.reduceEqDiff, Nat.reduceSub, Nat.reduceLeDiff, reduceCtorEq, hdr])
    | refine ev_skip ?_ | refine ev_block ?_ | refine ev_blk ?_ | refine ev_ret ?_ | refine ev_exit ?_ | refine evx_code_ret ?_ | refine evx_blk_ret ?_ | refine evx_lp_ret ?_
    | refine evx_code_exit ?_ | refine evx_lp_exit ?_ | refine evx_blk_hit ?_ | refine evx_blk_pass (by decide) ?_
    | refine And.intro ?_ ?_ | intro _ | decide +kernel | omega)
  all_goals first | (exfalso; omega) | skip
  refine ev_loop (ι := Nat) (fun k => [(2, .ptr 0 0), (3, .ptr 4136 0), (12, .c (sEntryS (xs.drop 1))), (13, iT (xs.length - 1 : Nat)), (14, iT k)]) (fun k => [(0, .box [.nilS, .nilS]), (4136, .box [.ref 100000, .ref 100001]), (100000, .arr true 2 1 ((boxTo xs k).low.map eI)), (100001, .arr true 2 1 ((boxTo xs k).high.map eI))]) (fun _ => []) (fun k => k + 1 ≤ xs.length) (fun k => xs.length - k) 0 [(100000, some 4128), (100001, some 1052704)] (by omega) (by simp only [go_sem, hP, ↓reduceIte, Nat.reduceAdd, Nat.reduceMul, Nat.reduceEqDiff, Nat.reduceSub, Nat.reduceLeDiff, reduceCtorEq]; simp [boxTo_zero]) ?_
  intro k hk
  by_cases hlt : k + 1 < xs.length
  · have hw : IntKind.i64.wrap ((k : Int) + 1) = k + 1 := i64_in _ (by omega)
    have hs := boxTo_size h k (by omega)
    have hg : (xs.drop 1).getD k default = xs.getD (k + 1) default := by simp [List.getD_eq_getElem?_getD, Nat.add_comm]
    repeat' (first
      | exact True.intro
      | refine ev_seq ?_
      | ((first | refine vgd_go ?_ | refine ev_region hE hM (hS (by decide +kernel)) ?_ | refine ev_if ?_ | refine end_ret hE rfl rfl ?_ | refine end_norm hE rfl rfl ?_ | refine endG_ret [] hE rfl ?_ | refine endG_norm [] hE rfl ?_ | refine vcallB_of hP (s_union (boxTo xs k) (xs.getD (k + 1) default).rect (boxTo_lens h hlt) (by omega)) ?_ | refine vcall_A ?_); simp (maxSteps := 2000000) only [go_sem, hP, ↓reduceIte, Nat.reduceAdd, Nat.reduceMul, Nat.reduceEqDiff, Nat.reduceSub, Nat.reduceLeDiff, reduceCtorEq, hg])
      | refine ev_skip ?_ | refine ev_block ?_ | refine ev_blk ?_ | refine ev_ret ?_ | refine ev_exit ?_ | refine evx_code_ret ?_ | refine evx_blk_ret ?_ | refine evx_lp_ret ?_
      | refine evx_code_exit ?_ | refine evx_lp_exit ?_ | refine evx_blk_hit ?_ | refine evx_blk_pass (by decide) ?_
      | refine And.intro ?_ ?_ | intro _ | decide +kernel | omega)
    all_goals first
      | exact ev_lp (k + 1) [(100000, some 20504), (100001, some 1069080)] (by omega) (by omega) (by simp only [go_sem, hP, ↓reduceIte, Nat.reduceAdd, Nat.reduceMul, Nat.reduceEqDiff, Nat.reduceSub, Nat.reduceLeDiff, reduceCtorEq]; simp [hw, boxTo_succ])
      | (exfalso; simp_all; omega)
      | (simp_all; done)
  · repeat' (first
      | exact True.intro
      | refine ev_seq ?_
      | ((first | refine vgd_go ?_ | refine ev_region hE hM (hS (by decide +kernel)) ?_ | refine ev_if ?_ | refine end_ret hE rfl rfl ?_ | refine end_norm hE rfl rfl ?_ | refine endG_ret [] hE rfl ?_ | refine endG_norm [] hE rfl ?_ | refine vcall_A ?_); simp (maxSteps := 2000000) only [go_sem, hP, ↓reduceIte, Nat.reduceAdd, Nat.reduceMul, Nat.reduceEqDiff, Nat.reduceSub, Nat.reduceLeDiff, reduceCtorEq])
      | refine ev_skip ?_ | refine ev_block ?_ | refine ev_blk ?_ | refine ev_ret ?_ | refine ev_exit ?_ | refine evx_code_ret ?_ | refine evx_blk_ret ?_ | refine evx_lp_ret ?_
      | refine evx_code_exit ?_ | refine evx_lp_exit ?_ | refine evx_blk_hit ?_ | refine evx_blk_pass (by decide) ?_
      | refine And.intro ?_ ?_ | intro _ | decide +kernel | omega)
    all_goals first
      | (exfalso; omega)
      | (have e : xs.length - 1 = k := by omega
         simp [bx, e]; done)
      | (simp_all; done)
/-- A node, if there is no code. -/
def valN (c : Int) (n : Node) : Node := if c = 0 then n else ⟨0, 0, 0, []⟩
@[go_sem] abbrev aNR (c : Int) (n : Node) : Arg := .d (true, [.int .i64 c, .int .i64 n.level, .int .i64 n.nsn, .int .i64 n.right, sEntryS n.entries])
@[go_sem] abbrev rNR (c : Int) (n : Node) : List Dat := [(true, [.int .i64 c, .int .i64 n.level, .int .i64 n.nsn, .int .i64 n.right, oEntryS n.entries])]
@[go_sem] abbrev tNR (c : Int) (n : Node) (a : Nat) : T := .agg [iT c, iT n.level, iT n.nsn, iT n.right, .ref a]
@[go_sem] abbrev tN (n : Node) (a : Nat) : T := .agg [iT n.level, iT n.nsn, iT n.right, .ref a]
def bxC (n : Node) (d : Int) : Int := if nf n d ≠ 0 then nf n d else if n.entries.length = 0 then 4 else 0
def bxV (n : Node) (d : Int) : Rect := if bxC n d = 0 then bx n.entries else ⟨[], []⟩
theorem bxV_w (n : Node) (d : Int) : wR (bxV n d) ≤ 6 := by
  unfold bxV; split
  · rename_i h
    unfold bxC at h
    (repeat' split at h) <;> try omega
    rename_i h1 h2
    have h3 := nf_rf (n := n) (d := d) (by simpa using h1)
    have h4 := bx_size (rf_even h3) (by omega)
    have h5 : 0 < n.entries.length := by omega
    have h6 := rf_two (h3 _ (getD_mem (d := default) h5))
    unfold wR; omega
  · simp [wR]
theorem s_specBoxOf (n : Node) (d : Int) : Sat Try.prog 73 [aNode n, aI d] true (rRR (bxC n d) (bxV n d)) := by
  refine sat_walk (fn := Try.f73) rfl rfl rfl (Nat.le_of_ble_eq_true rfl) fun fr hP hN hbnd => ?_
  have hE : (envOf fr Try.prog).Ok := envOf_ok hP
  have hM := follows_of hP
  have hS : ∀ {draw ops}, statB Try.f73.ntmps draw ops = true → statB (envOf fr Try.prog).fr.N draw ops = true := fun h => by rw [envOf_fr, hN]; exact h
  by_cases hz : nf n d = 0
  · by_cases he : 0 < n.entries.length
    · have c := s_l3Box n.entries d.toNat (rf_even (nf_rf hz)) he (nf_small hz)
      have he2 : n.entries.length ≠ 0 := by omega
      repeat' (first
        | exact True.intro
        | refine ev_seq ?_
        | ((first | refine vgd_go ?_ | refine ev_region hE hM (hS (by decide +kernel)) ?_ | refine ev_if ?_ | refine end_ret hE rfl rfl ?_ | refine end_norm hE rfl rfl ?_ | refine endG_ret [] hE rfl ?_ | refine endG_norm [] hE rfl ?_ | refine vcallB_of hP (s_specNodeFault n d) ?_ | refine vcallB_of hP c ?_ | refine vcall_A ?_); simp (maxSteps := 2000000) only [go_sem, hP, ↓reduceIte, Nat.reduceAdd, Nat.reduceMul, Nat.reduceEqDiff, Nat.reduceSub, Nat.reduceLeDiff, reduceCtorEq])
        | refine ev_skip ?_ | refine ev_block ?_ | refine ev_blk ?_ | refine ev_ret ?_ | refine ev_exit ?_ | refine evx_code_ret ?_ | refine evx_blk_ret ?_ | refine evx_lp_ret ?_
        | refine evx_code_exit ?_ | refine evx_lp_exit ?_ | refine evx_blk_hit ?_ | refine evx_blk_pass (by decide) ?_
        | refine And.intro ?_ ?_ | intro _ | decide +kernel | omega)
      all_goals (simp_all [bxC, bxV]; done)
    · have he2 : n.entries.length = 0 := by omega
      repeat' (first
        | exact True.intro
        | refine ev_seq ?_
        | ((first | refine vgd_go ?_ | refine ev_region hE hM (hS (by decide +kernel)) ?_ | refine ev_if ?_ | refine end_ret hE rfl rfl ?_ | refine end_norm hE rfl rfl ?_ | refine endG_ret [] hE rfl ?_ | refine endG_norm [] hE rfl ?_ | refine vcallB_of hP (s_specNodeFault n d) ?_ | refine vcall_A ?_); simp (maxSteps := 2000000) only [go_sem, hP, ↓reduceIte, Nat.reduceAdd, Nat.reduceMul, Nat.reduceEqDiff, Nat.reduceSub, Nat.reduceLeDiff, reduceCtorEq])
        | refine ev_skip ?_ | refine ev_block ?_ | refine ev_blk ?_ | refine ev_ret ?_ | refine ev_exit ?_ | refine evx_code_ret ?_ | refine evx_blk_ret ?_ | refine evx_lp_ret ?_
        | refine evx_code_exit ?_ | refine evx_lp_exit ?_ | refine evx_blk_hit ?_ | refine evx_blk_pass (by decide) ?_
        | refine And.intro ?_ ?_ | intro _ | decide +kernel | omega)
      all_goals (simp_all [bxC, bxV]; done)
  · repeat' (first
      | exact True.intro
      | refine ev_seq ?_
      | ((first | refine vgd_go ?_ | refine ev_region hE hM (hS (by decide +kernel)) ?_ | refine ev_if ?_ | refine end_ret hE rfl rfl ?_ | refine end_norm hE rfl rfl ?_ | refine endG_ret [] hE rfl ?_ | refine endG_norm [] hE rfl ?_ | refine vcallB_of hP (s_specNodeFault n d) ?_ | refine vcall_A ?_); simp (maxSteps := 2000000) only [go_sem, hP, ↓reduceIte, Nat.reduceAdd, Nat.reduceMul, Nat.reduceEqDiff, Nat.reduceSub, Nat.reduceLeDiff, reduceCtorEq])
      | refine ev_skip ?_ | refine ev_block ?_ | refine ev_blk ?_ | refine ev_ret ?_ | refine ev_exit ?_ | refine evx_code_ret ?_ | refine evx_blk_ret ?_ | refine evx_lp_ret ?_
      | refine evx_code_exit ?_ | refine evx_lp_exit ?_ | refine evx_blk_hit ?_ | refine evx_blk_pass (by decide) ?_
      | refine And.intro ?_ ?_ | intro _ | decide +kernel | omega)
    all_goals (simp_all [bxC, bxV]; done)
theorem s_implBoxOf (n : Node) (d : Int) : Sat Try.prog 71 [aNode n, aI d] true (rRR (bxC n d) (bxV n d)) := by
  refine sat_walk (fn := Try.f71) rfl rfl rfl (Nat.le_of_ble_eq_true rfl) fun fr hP hN hbnd => ?_
  have hE : (envOf fr Try.prog).Ok := envOf_ok hP
  have hM := follows_of hP
  have hS : ∀ {draw ops}, statB Try.f71.ntmps draw ops = true → statB (envOf fr Try.prog).fr.N draw ops = true := fun h => by rw [envOf_fr, hN]; exact h
  by_cases hz : nf n d = 0
  · by_cases he : 0 < n.entries.length
    · have c := s_box n.entries d.toNat (rf_even (nf_rf hz)) he (nf_small hz)
      have he2 : n.entries.length ≠ 0 := by omega
      repeat' (first
        | exact True.intro
        | refine ev_seq ?_
        | ((first | refine vgd_go ?_ | refine ev_region hE hM (hS (by decide +kernel)) ?_ | refine ev_if ?_ | refine end_ret hE rfl rfl ?_ | refine end_norm hE rfl rfl ?_ | refine endG_ret [] hE rfl ?_ | refine endG_norm [] hE rfl ?_ | refine vcallB_of hP (s_implNodeFault n d) ?_ | refine vcallB_of hP c ?_ | refine vcall_A ?_); simp (maxSteps := 2000000) only [go_sem, hP, ↓reduceIte, Nat.reduceAdd, Nat.reduceMul, Nat.reduceEqDiff, Nat.reduceSub, Nat.reduceLeDiff, reduceCtorEq])
        | refine ev_skip ?_ | refine ev_block ?_ | refine ev_blk ?_ | refine ev_ret ?_ | refine ev_exit ?_ | refine evx_code_ret ?_ | refine evx_blk_ret ?_ | refine evx_lp_ret ?_
        | refine evx_code_exit ?_ | refine evx_lp_exit ?_ | refine evx_blk_hit ?_ | refine evx_blk_pass (by decide) ?_
        | refine And.intro ?_ ?_ | intro _ | decide +kernel | omega)
      all_goals (simp_all [bxC, bxV]; done)
    · have he2 : n.entries.length = 0 := by omega
      repeat' (first
        | exact True.intro
        | refine ev_seq ?_
        | ((first | refine vgd_go ?_ | refine ev_region hE hM (hS (by decide +kernel)) ?_ | refine ev_if ?_ | refine end_ret hE rfl rfl ?_ | refine end_norm hE rfl rfl ?_ | refine endG_ret [] hE rfl ?_ | refine endG_norm [] hE rfl ?_ | refine vcallB_of hP (s_implNodeFault n d) ?_ | refine vcall_A ?_); simp (maxSteps := 2000000) only [go_sem, hP, ↓reduceIte, Nat.reduceAdd, Nat.reduceMul, Nat.reduceEqDiff, Nat.reduceSub, Nat.reduceLeDiff, reduceCtorEq])
        | refine ev_skip ?_ | refine ev_block ?_ | refine ev_blk ?_ | refine ev_ret ?_ | refine ev_exit ?_ | refine evx_code_ret ?_ | refine evx_blk_ret ?_ | refine evx_lp_ret ?_
        | refine evx_code_exit ?_ | refine evx_lp_exit ?_ | refine evx_blk_hit ?_ | refine evx_blk_pass (by decide) ?_
        | refine And.intro ?_ ?_ | intro _ | decide +kernel | omega)
      all_goals (simp_all [bxC, bxV]; done)
  · repeat' (first
      | exact True.intro
      | refine ev_seq ?_
      | ((first | refine vgd_go ?_ | refine ev_region hE hM (hS (by decide +kernel)) ?_ | refine ev_if ?_ | refine end_ret hE rfl rfl ?_ | refine end_norm hE rfl rfl ?_ | refine endG_ret [] hE rfl ?_ | refine endG_norm [] hE rfl ?_ | refine vcallB_of hP (s_implNodeFault n d) ?_ | refine vcall_A ?_); simp (maxSteps := 2000000) only [go_sem, hP, ↓reduceIte, Nat.reduceAdd, Nat.reduceMul, Nat.reduceEqDiff, Nat.reduceSub, Nat.reduceLeDiff, reduceCtorEq])
      | refine ev_skip ?_ | refine ev_block ?_ | refine ev_blk ?_ | refine ev_ret ?_ | refine ev_exit ?_ | refine evx_code_ret ?_ | refine evx_blk_ret ?_ | refine evx_lp_ret ?_
      | refine evx_code_exit ?_ | refine evx_lp_exit ?_ | refine evx_blk_hit ?_ | refine evx_blk_pass (by decide) ?_
      | refine And.intro ?_ ?_ | intro _ | decide +kernel | omega)
    all_goals (simp_all [bxC, bxV]; done)
theorem s_withFault (n : Node) (d : Int) (e : Entry) : Sat Try.prog 185 [aNode n, aI d, aEntry e] true (rI (weC n d e)) := by
  refine sat_walk (fn := Try.f185) rfl rfl rfl (Nat.le_of_ble_eq_true rfl) fun fr hP hN hbnd => ?_
  have hE : (envOf fr Try.prog).Ok := envOf_ok hP
  have hM := follows_of hP
  have hS : ∀ {draw ops}, statB Try.f185.ntmps draw ops = true → statB (envOf fr Try.prog).fr.N draw ops = true := fun h => by rw [envOf_fr, hN]; exact h
  have h5 : nf n d = 0 → (n.entries.length : Int) ≤ 5 := fun h => by have := (nf_inB h).2; omega
  repeat' (first
    | exact True.intro
    | refine ev_seq ?_
    | ((first | refine vgd_go ?_ | refine ev_region hE hM (hS (by decide +kernel)) ?_ | refine ev_if ?_ | refine end_ret hE rfl rfl ?_ | refine end_norm hE rfl rfl ?_ | refine endG_ret [] hE rfl ?_ | refine endG_norm [] hE rfl ?_ | refine vcallB_of hP (s_implNodeFault n d) ?_ | refine vcallB_of hP (s_implRectFault e.rect d) ?_ | refine vcallB_of hP (s_entryRange e) ?_ | refine vcallB_of hP (s_isForm n.level e) ?_ | refine vcallB_of hP (s_entryAt n.entries e.ref) ?_ | refine vcall_A ?_); simp (maxSteps := 2000000) only [go_sem, hP, ↓reduceIte, Nat.reduceAdd, Nat.reduceMul, Nat.reduceEqDiff, Nat.reduceSub, Nat.reduceLeDiff, reduceCtorEq])
    | refine ev_skip ?_ | refine ev_block ?_ | refine ev_blk ?_ | refine ev_ret ?_ | refine ev_exit ?_ | refine evx_code_ret ?_ | refine evx_blk_ret ?_ | refine evx_lp_ret ?_
    | refine evx_code_exit ?_ | refine evx_lp_exit ?_ | refine evx_blk_hit ?_ | refine evx_blk_pass (by decide) ?_
    | refine And.intro ?_ ?_ | intro _ | decide +kernel | omega)
  all_goals first
    | (simp_all [weC, entryF]; done)
    | (simp_all [weC, entryF]; omega)
theorem s_implWithEntry (n : Node) (d : Int) (e : Entry) : Sat Try.prog 75 [aNode n, aI d, aEntry e] true (rNR (weC n d e) (weV n d e)) := by
  refine sat_walk (fn := Try.f75) rfl rfl rfl (Nat.le_of_ble_eq_true rfl) fun fr hP hN hbnd => ?_
  have hE : (envOf fr Try.prog).Ok := envOf_ok hP
  have hM := follows_of hP
  have hS : ∀ {draw ops}, statB Try.f75.ntmps draw ops = true → statB (envOf fr Try.prog).fr.N draw ops = true := fun h => by rw [envOf_fr, hN]; exact h
  by_cases hz : weC n d e = 0
  · have hn : nf n d = 0 := by unfold weC at hz; split at hz <;> simp_all
    have he : entryF d e = 0 := by unfold weC at hz; (repeat' split at hz) <;> simp_all
    have hr := ef_rf he
    have h1 := rf_len hr
    have h2 := rf_two hr
    have h5 := (nf_inB hn).2
    repeat' (first
      | exact True.intro
      | refine ev_seq ?_
      | ((first | refine vgd_go ?_ | refine ev_region hE hM (hS (by decide +kernel)) ?_ | refine ev_if ?_ | refine end_ret hE rfl rfl ?_ | refine end_norm hE rfl rfl ?_ | refine endG_ret [] hE rfl ?_ | refine endG_norm [] hE rfl ?_ | refine vcallB_of hP (s_withFault n d e) ?_ | refine vcallB_of hP (s_clonedNode n (by have := nf_w hn; omega)) ?_ | refine vcallB_of hP (s_cloned e.rect (by omega) (by omega)) ?_ | refine vcall_A ?_); simp (maxSteps := 2000000) only [go_sem, hP, ↓reduceIte, Nat.reduceAdd, Nat.reduceMul, Nat.reduceEqDiff, Nat.reduceSub, Nat.reduceLeDiff, reduceCtorEq, Bool.and_self])
      | refine ev_skip ?_ | refine ev_block ?_ | refine ev_blk ?_ | refine ev_ret ?_ | refine ev_exit ?_ | refine evx_code_ret ?_ | refine evx_blk_ret ?_ | refine evx_lp_ret ?_
      | refine evx_code_exit ?_ | refine evx_lp_exit ?_ | refine evx_blk_hit ?_ | refine evx_blk_pass (by decide) ?_
      | refine And.intro ?_ ?_ | intro _ | decide +kernel | omega)
    all_goals first
      | (simp_all [weV, oEntry_eq]; done)
      | (simp_all [weV, oEntry_eq]; omega)
  · repeat' (first
      | exact True.intro
      | refine ev_seq ?_
      | ((first | refine vgd_go ?_ | refine ev_region hE hM (hS (by decide +kernel)) ?_ | refine ev_if ?_ | refine end_ret hE rfl rfl ?_ | refine end_norm hE rfl rfl ?_ | refine endG_ret [] hE rfl ?_ | refine endG_norm [] hE rfl ?_ | refine vcallB_of hP (s_withFault n d e) ?_ | refine vcall_A ?_); simp (maxSteps := 2000000) only [go_sem, hP, ↓reduceIte, Nat.reduceAdd, Nat.reduceMul, Nat.reduceEqDiff, Nat.reduceSub, Nat.reduceLeDiff, reduceCtorEq])
      | refine ev_skip ?_ | refine ev_block ?_ | refine ev_blk ?_ | refine ev_ret ?_ | refine ev_exit ?_ | refine evx_code_ret ?_ | refine evx_blk_ret ?_ | refine evx_lp_ret ?_
      | refine evx_code_exit ?_ | refine evx_lp_exit ?_ | refine evx_blk_hit ?_ | refine evx_blk_pass (by decide) ?_
      | refine And.intro ?_ ?_ | intro _ | decide +kernel | omega)
    all_goals (simp_all [weV]; done)
theorem s_specWithEntry (n : Node) (d : Int) (e : Entry) : Sat Try.prog 78 [aNode n, aI d, aEntry e] true (rNR (weC n d e) (weV n d e)) := by
  refine sat_walk (fn := Try.f78) rfl rfl rfl (Nat.le_of_ble_eq_true rfl) fun fr hP hN hbnd => ?_
  have hE : (envOf fr Try.prog).Ok := envOf_ok hP
  have hM := follows_of hP
  have hS : ∀ {draw ops}, statB Try.f78.ntmps draw ops = true → statB (envOf fr Try.prog).fr.N draw ops = true := fun h => by rw [envOf_fr, hN]; exact h
  by_cases hn : nf n d = 0
  · by_cases he : entryF d e = 0
    · have hr := ef_rf he
      have h1 := rf_len hr
      have h2 := rf_two hr
      have c := s_l3Entries [e] (by have := even_w (xs := [e]) (d := d) (by simpa using hr); simp at this; omega)
      have h5 := (nf_inB hn).2
      rcases Int.lt_or_le (findRef n.entries e.ref) 0 with h6 | h6
      · have h7 : ¬ 0 ≤ findRef n.entries e.ref := by omega
        have hc : weC n d e = (if fits n.level e = false then 1 else if (4 : Int) < n.entries.length then 7 else 0) := by
          unfold weC; rw [if_neg (by simpa using hn), if_neg (by simpa using he), if_neg h7]
        have hv : weV n d e = if (if fits n.level e = false then 1 else if (4 : Int) < n.entries.length then 7 else 0 : Int) = 0 then ⟨n.level, n.nsn, n.right, n.entries ++ [e]⟩ else ⟨0, 0, 0, []⟩ := by unfold weV; rw [hc]
        rw [hc, hv]
        clear hc hv
        repeat' (first
          | exact True.intro
          | refine ev_seq ?_
          | ((first | refine vgd_go ?_ | refine ev_region hE hM (hS (by decide +kernel)) ?_ | refine ev_if ?_ | refine end_ret hE rfl rfl ?_ | refine end_norm hE rfl rfl ?_ | refine endG_ret [] hE rfl ?_ | refine endG_norm [] hE rfl ?_ | refine vcallB_of hP (s_specNodeFault n d) ?_ | refine vcallB_of hP (s_l3Entry e d) ?_ | refine vcallB_of hP (s_l3Fits n.level e) ?_ | refine vcallB_of hP (s_l3Find n.entries e.ref) ?_ | refine vcallB_of hP (s_l3Copy n (by have := nf_w hn; omega)) ?_ | refine vcallB_of hP c ?_ | refine vcall_A ?_); simp (maxSteps := 2000000) only [go_sem, hP, ↓reduceIte, Nat.reduceAdd, Nat.reduceMul, Nat.reduceEqDiff, Nat.reduceSub, Nat.reduceLeDiff, reduceCtorEq, Bool.and_self])
          | refine ev_skip ?_ | refine ev_block ?_ | refine ev_blk ?_ | refine ev_ret ?_ | refine ev_exit ?_ | refine evx_code_ret ?_ | refine evx_blk_ret ?_ | refine evx_lp_ret ?_
          | refine evx_code_exit ?_ | refine evx_lp_exit ?_ | refine evx_blk_hit ?_ | refine evx_blk_pass (by decide) ?_
          | refine And.intro ?_ ?_ | intro _ | decide +kernel | omega)
        all_goals first
          | (simp_all [oEntry_eq]; done)
          | (simp_all [oEntry_eq]; omega)
      · repeat' (first
          | exact True.intro
          | refine ev_seq ?_
          | ((first | refine vgd_go ?_ | refine ev_region hE hM (hS (by decide +kernel)) ?_ | refine ev_if ?_ | refine end_ret hE rfl rfl ?_ | refine end_norm hE rfl rfl ?_ | refine endG_ret [] hE rfl ?_ | refine endG_norm [] hE rfl ?_ | refine vcallB_of hP (s_specNodeFault n d) ?_ | refine vcallB_of hP (s_l3Entry e d) ?_ | refine vcallB_of hP (s_l3Fits n.level e) ?_ | refine vcallB_of hP (s_l3Find n.entries e.ref) ?_ | refine vcall_A ?_); simp (maxSteps := 2000000) only [go_sem, hP, ↓reduceIte, Nat.reduceAdd, Nat.reduceMul, Nat.reduceEqDiff, Nat.reduceSub, Nat.reduceLeDiff, reduceCtorEq])
          | refine ev_skip ?_ | refine ev_block ?_ | refine ev_blk ?_ | refine ev_ret ?_ | refine ev_exit ?_ | refine evx_code_ret ?_ | refine evx_blk_ret ?_ | refine evx_lp_ret ?_
          | refine evx_code_exit ?_ | refine evx_lp_exit ?_ | refine evx_blk_hit ?_ | refine evx_blk_pass (by decide) ?_
          | refine And.intro ?_ ?_ | intro _ | decide +kernel | omega)
        all_goals first
          | (simp_all [weV, weC, oEntry_eq]; done)
          | (exfalso; omega)
          | (simp_all [weV, weC, oEntry_eq]; omega)
    · repeat' (first
        | exact True.intro
        | refine ev_seq ?_
        | ((first | refine vgd_go ?_ | refine ev_region hE hM (hS (by decide +kernel)) ?_ | refine ev_if ?_ | refine end_ret hE rfl rfl ?_ | refine end_norm hE rfl rfl ?_ | refine endG_ret [] hE rfl ?_ | refine endG_norm [] hE rfl ?_ | refine vcallB_of hP (s_specNodeFault n d) ?_ | refine vcallB_of hP (s_l3Entry e d) ?_ | refine vcall_A ?_); simp (maxSteps := 2000000) only [go_sem, hP, ↓reduceIte, Nat.reduceAdd, Nat.reduceMul, Nat.reduceEqDiff, Nat.reduceSub, Nat.reduceLeDiff, reduceCtorEq])
        | refine ev_skip ?_ | refine ev_block ?_ | refine ev_blk ?_ | refine ev_ret ?_ | refine ev_exit ?_ | refine evx_code_ret ?_ | refine evx_blk_ret ?_ | refine evx_lp_ret ?_
        | refine evx_code_exit ?_ | refine evx_lp_exit ?_ | refine evx_blk_hit ?_ | refine evx_blk_pass (by decide) ?_
        | refine And.intro ?_ ?_ | intro _ | decide +kernel | omega)
      all_goals (simp_all [weV, weC]; done)
  · repeat' (first
      | exact True.intro
      | refine ev_seq ?_
      | ((first | refine vgd_go ?_ | refine ev_region hE hM (hS (by decide +kernel)) ?_ | refine ev_if ?_ | refine end_ret hE rfl rfl ?_ | refine end_norm hE rfl rfl ?_ | refine endG_ret [] hE rfl ?_ | refine endG_norm [] hE rfl ?_ | refine vcallB_of hP (s_specNodeFault n d) ?_ | refine vcall_A ?_); simp (maxSteps := 2000000) only [go_sem, hP, ↓reduceIte, Nat.reduceAdd, Nat.reduceMul, Nat.reduceEqDiff, Nat.reduceSub, Nat.reduceLeDiff, reduceCtorEq])
      | refine ev_skip ?_ | refine ev_block ?_ | refine ev_blk ?_ | refine ev_ret ?_ | refine ev_exit ?_ | refine evx_code_ret ?_ | refine evx_blk_ret ?_ | refine evx_lp_ret ?_
      | refine evx_code_exit ?_ | refine evx_lp_exit ?_ | refine evx_blk_hit ?_ | refine evx_blk_pass (by decide) ?_
      | refine And.intro ?_ ?_ | intro _ | decide +kernel | omega)
    all_goals (simp_all [weV, weC]; done)
theorem s_DeleteEntry (xs : List Entry) (i j : Nat) (hij : j = i + 1) (hi : i < xs.length) : SatG Try.prog 188 false [.ref 1, iT i, iT j] [gEs 1 xs] (.ref 2) [(1, .dead), gEs 2 (xs.take i ++ xs.drop j)] := by
  have h := satG_delete (P := Try.prog) (f := 188) (ty := 85) (sz := 4) (es := xs.map oEntry) (i := i) (j := j) ⟨_, rfl, rfl, rfl⟩ hij (by simpa using hi) (by rw [List.length_map]; exact k_deleteEntry _ _ _ hij hi)
  have e : (xs.take i ++ xs.drop j).map oEntry = (xs.map oEntry).take i ++ (xs.map oEntry).drop j := by simp [List.map_take, List.map_drop]
  show SatG _ _ _ _ _ _ [(1, .dead), (2, .arr true _ 4 ((xs.take i ++ xs.drop j).map oEntry))]
  rw [e]; exact h
def woV (n : Node) (d r : Int) : Node := if efcode n d r = 0 then ⟨n.level, n.nsn, n.right, n.entries.take (findRef n.entries r).toNat ++ n.entries.drop ((findRef n.entries r).toNat + 1)⟩ else ⟨0, 0, 0, []⟩
theorem ef_zero {n : Node} {d r : Int} (h : efcode n d r = 0) : nf n d = 0 ∧ 0 ≤ findRef n.entries r := by
  unfold efcode at h
  (repeat' split at h) <;> omega
theorem nf_dup {n : Node} {d : Int} (h : nf n d = 0) : noDup n.entries = true := by
  unfold nf at h; (repeat' split at h) <;> first | omega | assumption
theorem wES_append (xs ys : List Entry) : wEntryS (xs ++ ys) = wEntryS xs + wEntryS ys := by unfold wEntryS sumW; simp; omega
theorem dropE_w (xs : List Entry) (i : Nat) : wEntryS (xs.take i ++ xs.drop (i + 1)) ≤ wEntryS xs := by
  have h1 : wEntryS (xs.take i) + wEntryS (xs.drop i) = wEntryS xs := by rw [← wES_append, List.take_append_drop]
  have h2 : wEntryS ((xs.drop i).take 1) + wEntryS ((xs.drop i).drop 1) = wEntryS (xs.drop i) := by rw [← wES_append, List.take_append_drop]
  rw [List.drop_drop] at h2
  rw [wES_append]; omega
theorem woV_w (n : Node) (d r : Int) : wEntryS (woV n d r).entries ≤ 50 := by
  unfold woV; split
  · rename_i h
    have h1 := nf_w (ef_zero h).1
    have h2 := dropE_w n.entries (findRef n.entries r).toNat
    exact Nat.le_trans h2 (by omega)
  · exact Nat.zero_le _
theorem filterE_one {xs : List Entry} {r : Int} {i : Nat} (h : noDup xs = true) (hi : i < xs.length) (hr : (xs.getD i default).ref = r) : xs.filter (fun p => decide (p.ref ≠ r)) = xs.take i ++ xs.drop (i + 1) := by
  have hd : ∀ a b, a < b → b < xs.length → (xs.getD a default).ref ≠ (xs.getD b default).ref := fun a b hab hb he => by
    have h1 := allLt_iff.mp h b hb
    have h2 : dupAt xs b = true := by
      unfold dupAt
      rw [List.any_eq_true]
      have hl : a < (xs.take b).length := by rw [List.length_take]; omega
      refine ⟨(xs.take b)[a], List.getElem_mem hl, ?_⟩
      rw [List.getElem_take, ← getD_lt (show a < xs.length by omega)]
      simpa using he
    rw [h2] at h1; cases h1
  conv => lhs; rw [← List.take_append_drop i xs, List.drop_eq_getElem_cons hi]
  rw [List.filter_append, List.filter_cons]
  have e0 : xs[i] = xs.getD i default := (getD_lt hi).symm
  have e1 : (xs.take i).filter (fun p => decide (p.ref ≠ r)) = xs.take i := by
    rw [List.filter_eq_self]
    intro p hp
    obtain ⟨k, hk, rfl⟩ := List.mem_iff_getElem.1 hp
    rw [List.length_take] at hk
    have := hd k i (by omega) hi
    rw [getD_lt (show k < xs.length by omega), hr] at this
    rw [List.getElem_take]
    simpa using this
  have e2 : (xs.drop (i + 1)).filter (fun p => decide (p.ref ≠ r)) = xs.drop (i + 1) := by
    rw [List.filter_eq_self]
    intro p hp
    obtain ⟨k, hk, rfl⟩ := List.mem_iff_getElem.1 hp
    rw [List.length_drop] at hk
    have := hd i (i + 1 + k) (by omega) (by omega)
    rw [getD_lt (show i + 1 + k < xs.length by omega), hr] at this
    rw [List.getElem_drop]
    simpa using Ne.symm this
  have e3 : decide (xs[i].ref ≠ r) = false := by rw [e0, hr]; simp
  rw [e1, e2, e3]; rfl
theorem s_implWithoutEntry (n : Node) (d r : Int) : Sat Try.prog 77 [aNode n, aI d, aI r] true (rNR (efcode n d r) (woV n d r)) := by
  refine sat_walk (fn := Try.f77) rfl rfl rfl (Nat.le_of_ble_eq_true rfl) fun fr hP hN hbnd => ?_
  have hE : (envOf fr Try.prog).Ok := envOf_ok hP
  have hM := follows_of hP
  have hS : ∀ {draw ops}, statB Try.f77.ntmps draw ops = true → statB (envOf fr Try.prog).fr.N draw ops = true := fun h => by rw [envOf_fr, hN]; exact h
  by_cases hz : efcode n d r = 0
  · obtain ⟨h1, h2⟩ := ef_zero hz
    obtain ⟨i, e, h3, _⟩ := findRef_get h2
    have hw := nf_w h1
    have h5 := (nf_inB h1).2
    have hv : woV n d r = ⟨n.level, n.nsn, n.right, n.entries.take i ++ n.entries.drop (i + 1)⟩ := by unfold woV; rw [if_pos hz, e]; rfl
    have hval : val (efcode n d r) (findRef n.entries r) = i := by unfold val; rw [if_pos hz]; exact e
    have c1 := s_implEntryFor n d r
    rw [hz, val, if_pos rfl, e] at c1
    have hw1 : IntKind.i64.wrap ((i : Int) + 1) = (i + 1 : Nat) := by rw [i64_in _ (by omega)]; omega
    have hw2 : IntKind.i64.wrap (i : Int) = i := i64_in _ (by omega)
    have c2 := s_DeleteEntry n.entries i (i + 1) rfl h3
    rw [hz, hv]
    repeat' (first
      | exact True.intro
      | refine ev_seq ?_
      | ((first | refine vgd_go ?_ | refine ev_region hE hM (hS (by decide +kernel)) ?_ | refine ev_if ?_ | refine end_ret hE rfl rfl ?_ | refine end_norm hE rfl rfl ?_ | refine endG_ret [] hE rfl ?_ | refine endG_norm [] hE rfl ?_ | refine vcallB_of hP c1 ?_ | refine vcallB_of hP (s_clonedNode n (by omega)) ?_ | refine vcallG_of (args := [.ref 3162120, _, _]) [(1, 3162120)] [] hP c2 ?_ | refine vcall_A ?_); simp (maxSteps := 2000000) only [go_sem, hP, ↓reduceIte, Nat.reduceAdd, Nat.reduceMul, Nat.reduceEqDiff, Nat.reduceSub, Nat.reduceLeDiff, reduceCtorEq, hw1, hw2])
      | refine ev_skip ?_ | refine ev_block ?_ | refine ev_blk ?_ | refine ev_ret ?_ | refine ev_exit ?_ | refine evx_code_ret ?_ | refine evx_blk_ret ?_ | refine evx_lp_ret ?_
      | refine evx_code_exit ?_ | refine evx_lp_exit ?_ | refine evx_blk_hit ?_ | refine evx_blk_pass (by decide) ?_
      | refine And.intro ?_ ?_ | intro _ | decide +kernel | omega)
    all_goals first | (exfalso; omega) | (simp_all; done)
  · have hv : woV n d r = ⟨0, 0, 0, []⟩ := by unfold woV; rw [if_neg hz]
    rw [hv]
    repeat' (first
      | exact True.intro
      | refine ev_seq ?_
      | ((first | refine vgd_go ?_ | refine ev_region hE hM (hS (by decide +kernel)) ?_ | refine ev_if ?_ | refine end_ret hE rfl rfl ?_ | refine end_norm hE rfl rfl ?_ | refine endG_ret [] hE rfl ?_ | refine endG_norm [] hE rfl ?_ | refine vcallB_of hP (s_implEntryFor n d r) ?_ | refine vcall_A ?_); simp (maxSteps := 2000000) only [go_sem, hP, ↓reduceIte, Nat.reduceAdd, Nat.reduceMul, Nat.reduceEqDiff, Nat.reduceSub, Nat.reduceLeDiff, reduceCtorEq])
      | refine ev_skip ?_ | refine ev_block ?_ | refine ev_blk ?_ | refine ev_ret ?_ | refine ev_exit ?_ | refine evx_code_ret ?_ | refine evx_blk_ret ?_ | refine evx_lp_ret ?_
      | refine evx_code_exit ?_ | refine evx_lp_exit ?_ | refine evx_blk_hit ?_ | refine evx_blk_pass (by decide) ?_
      | refine And.intro ?_ ?_ | intro _ | decide +kernel | omega)
    all_goals first | (exfalso; omega) | (simp_all [val]; done)
/-- An entry as it lies in memory. -/
structure RE where
  x : Entry
  u0 : Value
  u1 : Value
  deriving Inhabited
def rawEn (z : RE) : List C := [.val z.u0, .val z.u1, .int .i64 z.x.ref, .int .i64 z.x.nsn]
@[go_sem] theorem rawEn_eq (z : RE) : rawEn z = [.val z.u0, .val z.u1, .int .i64 z.x.ref, .int .i64 z.x.nsn] := rfl
theorem stripC_rawEn (z : RE) : Cs.strip (rawEn z) = rawEn z := by simp [rawEn, Cs.strip, C.strip]
@[go_sem] theorem strip_rawEn (zs : List RE) : Es.strip (zs.map rawEn) = zs.map rawEn := by rw [Es.strip_map]; simp [Function.comp_def, stripC_rawEn]
theorem rawEn_of {L : List El} {xs : List Entry} (h : L.map (·.e) = xs.map oEntry) (hl : ∀ x ∈ L, x.us.length = x.e.length) : ∃ zs : List RE, L.map El.raw = zs.map rawEn ∧ zs.map (·.x) = xs ∧ zs.length = L.length := by
  induction L generalizing xs with
  | nil =>
    have : xs = [] := by simpa using h.symm
    subst this
    exact ⟨[], rfl, rfl, rfl⟩
  | cons l L ih =>
    cases xs with
    | nil => simp at h
    | cons x xs =>
      simp only [List.map_cons, List.cons.injEq] at h
      obtain ⟨zs, h1, h2, h3⟩ := ih h.2 (fun y hy => hl y (by simp [hy]))
      have h4 := hl l (by simp)
      obtain ⟨e, us, fs⟩ := l
      simp only at h h4
      obtain ⟨rfl, _⟩ := h
      have h5 : us.length = 4 := h4
      match us, h5 with
      | [u0, u1, u2, u3], _ =>
        exact ⟨⟨x, u0, u1⟩ :: zs, by simp only [List.map_cons, h1]; rfl, by simp [h2], by simp [h3]⟩
theorem pick_raw {L : List El} {zs : List RE} (h : L.map El.raw = zs.map rawEn) {p : List Nat} (hp : ∀ i ∈ p, i < L.length) : (pick L p).map El.raw = (p.map fun i => zs.getD i default).map rawEn := by
  have hl : L.length = zs.length := by have := congrArg List.length h; simpa using this
  simp only [pick, List.map_map]
  refine List.map_congr_left fun i hi => ?_
  have h1 := hp i hi
  have h2 : (L.map El.raw)[i]? = (zs.map rawEn)[i]? := by rw [h]
  rw [List.getElem?_map, List.getElem?_map, List.getElem?_eq_getElem h1, List.getElem?_eq_getElem (by omega)] at h2
  simp only [Option.map_some, Option.some.injEq] at h2
  simp only [Function.comp]
  rw [List.getD_eq_getElem?_getD, List.getD_eq_getElem?_getD, List.getElem?_eq_getElem h1, List.getElem?_eq_getElem (by omega)]
  exact h2
theorem range_get {α : Type} [Inhabited α] (zs : List α) : (List.range zs.length).map (fun i => zs.getD i default) = zs := by
  refine List.ext_getElem (by simp) fun i h1 h2 => ?_
  simp only [List.getElem_map, List.getElem_range]
  exact getD_lt h2
theorem range_filter {α : Type} [Inhabited α] (zs : List α) (q : α → Bool) : ((List.range zs.length).filter (fun i => q (zs.getD i default))).map (fun i => zs.getD i default) = zs.filter q := by
  have h := List.filter_map (f := fun i => zs.getD i default) (p := q) (l := List.range zs.length)
  rw [range_get] at h
  exact h.symm
theorem s_l3WithoutR (zs : List RE) (r : Int) (hl : zs.length ≤ 1048576) : SatG Try.prog 190 false [.ref 1, iT r] [(1, .arr true 85 4 (zs.map rawEn))] (.ref 2) [(1, .arr true 85 4 (zs.map rawEn)), (2, .arr (zs.filter (fun z => decide (z.x.ref ≠ r))).isEmpty 85 4 ((zs.filter (fun z => decide (z.x.ref ≠ r))).map rawEn))] := by
  refine satG_walk (fn := Try.f190) rfl rfl rfl (Nat.le_of_ble_eq_true rfl) (by simp) fun fr hP hN hdp hb1 hb2 => ?_
  have hE : (envOf fr Try.prog).Ok := envOf_ok hP
  have hM := follows_of hP
  have hS : ∀ {draw ops}, statB Try.f190.ntmps draw ops = true → statB (envOf fr Try.prog).fr.N draw ops = true := fun h => by rw [envOf_fr, hN]; exact h
  repeat' (first
    | exact True.intro
    | refine ev_seq ?_
    | ((first | refine vgd_go ?_ | refine ev_region hE hM (hS (by decide +kernel)) ?_ | refine ev_if ?_ | refine end_ret hE rfl rfl ?_ | refine end_norm hE rfl rfl ?_ | refine endG_ret [] hE rfl ?_ | refine endG_norm [] hE rfl ?_ | refine vcall_A ?_); simp (maxSteps := 2000000) only [go_sem, hP, ↓reduceIte, Nat.reduceAdd, Nat.reduceMul, Nat.reduceEqDiff, Nat.reduceSub, Nat.reduceLeDiff, reduceCtorEq])
    | refine ev_skip ?_ | refine ev_block ?_ | refine ev_blk ?_ | refine ev_ret ?_ | refine ev_exit ?_ | refine evx_code_ret ?_ | refine evx_blk_ret ?_ | refine evx_lp_ret ?_
    | refine evx_code_exit ?_ | refine evx_lp_exit ?_ | refine evx_blk_hit ?_ | refine evx_blk_pass (by decide) ?_
    | refine And.intro ?_ ?_ | intro _ | decide +kernel | omega)
  refine ev_loop (ι := Nat) (fun k => [(0, .ref 1), (1, iT r), (5, .ref 100000), (6, iT k)]) (fun k => [(1, .arr true 85 4 (zs.map rawEn)), (100000, .arr ((zs.take k).filter (fun z => decide (z.x.ref ≠ r))).isEmpty 85 4 (((zs.take k).filter (fun z => decide (z.x.ref ≠ r))).map rawEn))]) (fun _ => [(0, .ref 1)]) (fun k => k ≤ zs.length) (fun k => zs.length - k) 0 [(100000, some 4096)] (by omega) (by simp only [go_sem, hP, ↓reduceIte, Nat.reduceAdd, Nat.reduceMul, Nat.reduceEqDiff, Nat.reduceSub, Nat.reduceLeDiff, reduceCtorEq]; simp) ?_
  intro k hk
  have hw1 : k < zs.length → IntKind.i64.wrap ((k : Int) + 1) = k + 1 := fun h => i64_in _ (by omega)
  have hfl : ((zs.take k).filter (fun z => decide (z.x.ref ≠ r))).length ≤ k := Nat.le_trans (List.length_filter_le _ _) (by rw [List.length_take]; omega)
  generalize hys : (zs.take k).filter (fun z => decide (z.x.ref ≠ r)) = ys at hfl
  have hfl' := hfl
  by_cases hlt : k < zs.length
  · have hst : (zs.take (k + 1)).filter (fun z => decide (z.x.ref ≠ r)) = if (zs.getD k default).x.ref ≠ r then ys ++ [zs.getD k default] else ys := by
      rw [take_step (d := default) hlt, List.filter_append, hys]
      generalize zs.getD k default = x
      by_cases he : x.x.ref = r <;> simp [he]
    cases ys with
    | nil =>
      repeat' (first
        | exact True.intro
        | refine ev_seq ?_
        | ((first | refine vgd_go ?_ | refine ev_region hE hM (hS (by decide +kernel)) ?_ | refine ev_if ?_ | refine end_ret hE rfl rfl ?_ | refine end_norm hE rfl rfl ?_ | refine endG_ret [] hE rfl ?_ | refine endG_norm [] hE rfl ?_ | refine vcall_A ?_); simp (maxSteps := 2000000) only [go_sem, hP, ↓reduceIte, Nat.reduceAdd, Nat.reduceMul, Nat.reduceEqDiff, Nat.reduceSub, Nat.reduceLeDiff, reduceCtorEq, hys, Bool.and_self, List.length_map, List.isEmpty_nil, List.map_nil, Cs.strip, C.strip])
        | refine ev_skip ?_ | refine ev_block ?_ | refine ev_blk ?_ | refine ev_ret ?_ | refine ev_exit ?_ | refine evx_code_ret ?_ | refine evx_blk_ret ?_ | refine evx_lp_ret ?_
        | refine evx_code_exit ?_ | refine evx_lp_exit ?_ | refine evx_blk_hit ?_ | refine evx_blk_pass (by decide) ?_
        | refine And.intro ?_ ?_ | intro _ | decide +kernel | omega)
      all_goals first
        | exact ev_lp (k + 1) [(100000, some 24624)] (by omega) (by omega) (by simp only [go_sem, hP, ↓reduceIte, Nat.reduceAdd, Nat.reduceMul, Nat.reduceEqDiff, Nat.reduceSub, Nat.reduceLeDiff, reduceCtorEq]; rw [hst, if_pos (by simp_all)]; simp [hw1 hlt, rawEn_eq, Es.strip])
        | exact ev_lp (k + 1) [(100000, some 100000)] (by omega) (by omega) (by simp only [go_sem, hP, ↓reduceIte, Nat.reduceAdd, Nat.reduceMul, Nat.reduceEqDiff, Nat.reduceSub, Nat.reduceLeDiff, reduceCtorEq]; rw [hst, if_neg (by simp_all)]; simp [hw1 hlt, rawEn_eq, Es.strip])
        | (exfalso; omega)
        | omega
        | (simp_all; done)
    | cons y ys =>
      simp only [List.length_cons] at hfl'
      repeat' (first
        | exact True.intro
        | refine ev_seq ?_
        | ((first | refine vgd_go ?_ | refine ev_region hE hM (hS (by decide +kernel)) ?_ | refine ev_if ?_ | refine end_ret hE rfl rfl ?_ | refine end_norm hE rfl rfl ?_ | refine endG_ret [] hE rfl ?_ | refine endG_norm [] hE rfl ?_ | refine vcall_A ?_); simp (maxSteps := 2000000) only [go_sem, hP, ↓reduceIte, Nat.reduceAdd, Nat.reduceMul, Nat.reduceEqDiff, Nat.reduceSub, Nat.reduceLeDiff, reduceCtorEq, hys, Bool.and_self, List.length_map, List.isEmpty_cons, Cs.strip, C.strip])
        | refine ev_skip ?_ | refine ev_block ?_ | refine ev_blk ?_ | refine ev_ret ?_ | refine ev_exit ?_ | refine evx_code_ret ?_ | refine evx_blk_ret ?_ | refine evx_lp_ret ?_
        | refine evx_code_exit ?_ | refine evx_lp_exit ?_ | refine evx_blk_hit ?_ | refine evx_blk_pass (by decide) ?_
        | refine And.intro ?_ ?_ | intro _ | decide +kernel | omega)
      all_goals first
        | exact ev_lp (k + 1) [(100000, some 24624)] (by omega) (by omega) (by simp only [go_sem, hP, ↓reduceIte, Nat.reduceAdd, Nat.reduceMul, Nat.reduceEqDiff, Nat.reduceSub, Nat.reduceLeDiff, reduceCtorEq]; rw [hst, if_pos (by simp_all)]; simp [hw1 hlt, rawEn_eq, Es.strip])
        | exact ev_lp (k + 1) [(100000, some 100000)] (by omega) (by omega) (by simp only [go_sem, hP, ↓reduceIte, Nat.reduceAdd, Nat.reduceMul, Nat.reduceEqDiff, Nat.reduceSub, Nat.reduceLeDiff, reduceCtorEq]; rw [hst, if_neg (by simp_all)]; simp [hw1 hlt, rawEn_eq, Es.strip])
        | (exfalso; omega)
        | omega
        | (simp_all; done)
  · have hke : k = zs.length := by omega
    subst hke
    rw [List.take_length] at hys
    rw [hys]
    cases ys with
    | nil =>
      repeat' (first
        | exact True.intro
        | refine ev_seq ?_
        | ((first | refine endG_ret [(2, some 100000)] hE rfl ?_ | refine vgd_go ?_ | refine ev_region hE hM (hS (by decide +kernel)) ?_ | refine ev_if ?_ | refine end_ret hE rfl rfl ?_ | refine end_norm hE rfl rfl ?_ | refine endG_ret [] hE rfl ?_ | refine endG_norm [] hE rfl ?_ | refine vcall_A ?_); simp (maxSteps := 2000000) only [go_sem, hP, ↓reduceIte, Nat.reduceAdd, Nat.reduceMul, Nat.reduceEqDiff, Nat.reduceSub, Nat.reduceLeDiff, reduceCtorEq, hys, List.take_length, List.isEmpty_nil, List.map_nil])
        | refine ev_skip ?_ | refine ev_block ?_ | refine ev_blk ?_ | refine ev_ret ?_ | refine ev_exit ?_ | refine evx_code_ret ?_ | refine evx_blk_ret ?_ | refine evx_lp_ret ?_
        | refine evx_code_exit ?_ | refine evx_lp_exit ?_ | refine evx_blk_hit ?_ | refine evx_blk_pass (by decide) ?_
        | refine And.intro ?_ ?_ | intro _ | decide +kernel | omega)
      all_goals first
        | (exfalso; omega)
        | (simp_all; done)
    | cons y ys =>
      repeat' (first
        | exact True.intro
        | refine ev_seq ?_
        | ((first | refine endG_ret [(2, some 100000)] hE rfl ?_ | refine vgd_go ?_ | refine ev_region hE hM (hS (by decide +kernel)) ?_ | refine ev_if ?_ | refine end_ret hE rfl rfl ?_ | refine end_norm hE rfl rfl ?_ | refine endG_ret [] hE rfl ?_ | refine endG_norm [] hE rfl ?_ | refine vcall_A ?_); simp (maxSteps := 2000000) only [go_sem, hP, ↓reduceIte, Nat.reduceAdd, Nat.reduceMul, Nat.reduceEqDiff, Nat.reduceSub, Nat.reduceLeDiff, reduceCtorEq, hys, List.take_length, List.isEmpty_cons])
        | refine ev_skip ?_ | refine ev_block ?_ | refine ev_blk ?_ | refine ev_ret ?_ | refine ev_exit ?_ | refine evx_code_ret ?_ | refine evx_blk_ret ?_ | refine evx_lp_ret ?_
        | refine evx_code_exit ?_ | refine evx_lp_exit ?_ | refine evx_blk_hit ?_ | refine evx_blk_pass (by decide) ?_
        | refine And.intro ?_ ?_ | intro _ | decide +kernel | omega)
      all_goals first
        | (exfalso; omega)
        | (simp_all; done)
theorem s_l3Without (xs : List Entry) (r : Int) (hl : xs.length ≤ 1048576) : SatG Try.prog 190 false [.ref 1, iT r] [gEs 1 xs] (.ref 2) [(1, .dead), gEs 2 (xs.filter (fun e => decide (e.ref ≠ r)))] := by
  have key := satG_move (P := Try.prog) (f := 190) (ty := 85) (sz := 4) (es := xs.map oEntry) (r := r) (p := (List.range xs.length).filter (fun i => decide ((xs.getD i default).ref ≠ r))) (q := (List.range xs.length).filter (fun i => !decide ((xs.getD i default).ref ≠ r))) ⟨_, rfl, rfl, rfl⟩ (by rw [List.length_map]; exact List.filter_append_perm _ _) (fun L hL hu => by
    obtain ⟨zs, h1, h2, h3⟩ := rawEn_of hL hu
    have hn : zs.length = xs.length := by rw [← h2, List.length_map]
    rw [pick_raw h1 (fun i hi => by have := List.mem_range.1 (List.mem_filter.1 hi).1; omega), h1]
    have e : ((List.range xs.length).filter (fun i => decide ((xs.getD i default).ref ≠ r))).map (fun i => zs.getD i default) = zs.filter (fun z => decide (z.x.ref ≠ r)) := by
      rw [← range_filter zs, hn]
      congr 1
      refine List.filter_congr fun i hi => ?_
      have hi := List.mem_range.1 hi
      have : (zs.getD i default).x = xs.getD i default := by
        rw [← h2, getD_lt (show i < zs.length by omega), getD_lt (by simpa using (show i < zs.length by omega))]; simp
      rw [this]
    rw [e]
    exact ⟨_, s_l3WithoutR zs r (by omega)⟩)
  have e : (xs.filter (fun e => decide (e.ref ≠ r))).map oEntry = ((List.range xs.length).filter (fun i => decide ((xs.getD i default).ref ≠ r))).map (fun i => (xs.map oEntry).getD i []) := by
    rw [← range_filter xs, List.map_map]
    refine List.map_congr_left fun i hi => ?_
    have hi := List.mem_range.1 (List.mem_filter.1 hi).1
    simp only [Function.comp]
    rw [getD_lt hi, List.getD_eq_getElem?_getD, List.getElem?_map, List.getElem?_eq_getElem hi]; rfl
  show SatG _ _ _ _ _ _ [(1, .dead), (2, .arr true _ 4 ((xs.filter (fun e => decide (e.ref ≠ r))).map oEntry))]
  rw [e]; exact key
theorem s_specWithoutEntry (n : Node) (d r : Int) : Sat Try.prog 79 [aNode n, aI d, aI r] true (rNR (efcode n d r) (woV n d r)) := by
  refine sat_walk (fn := Try.f79) rfl rfl rfl (Nat.le_of_ble_eq_true rfl) fun fr hP hN hbnd => ?_
  have hE : (envOf fr Try.prog).Ok := envOf_ok hP
  have hM := follows_of hP
  have hS : ∀ {draw ops}, statB Try.f79.ntmps draw ops = true → statB (envOf fr Try.prog).fr.N draw ops = true := fun h => by rw [envOf_fr, hN]; exact h
  by_cases hz : efcode n d r = 0
  · obtain ⟨h1, h2⟩ := ef_zero hz
    obtain ⟨i, e, h3, h4⟩ := findRef_get h2
    have hw := nf_w h1
    have h5 := (nf_inB h1).2
    have hv : woV n d r = ⟨n.level, n.nsn, n.right, n.entries.filter (fun e => decide (e.ref ≠ r))⟩ := by unfold woV; rw [if_pos hz, e, filterE_one (nf_dup h1) h3 h4]; rfl
    have c1 := s_l3Without n.entries r (by omega)
    rw [hz, hv]
    repeat' (first
      | exact True.intro
      | refine ev_seq ?_
      | ((first | refine vgd_go ?_ | refine ev_region hE hM (hS (by decide +kernel)) ?_ | refine ev_if ?_ | refine end_ret hE rfl rfl ?_ | refine end_norm hE rfl rfl ?_ | refine endG_ret [] hE rfl ?_ | refine endG_norm [] hE rfl ?_ | refine vcallB_of hP (s_specNodeFault n d) ?_ | refine vcallB_of hP (s_l3Find n.entries r) ?_ | refine vcallB_of hP (s_l3Copy n (by omega)) ?_ | refine vcallG_of (args := [.ref 3170304, _]) [(1, 3170304)] [] hP c1 ?_ | refine vcall_A ?_); simp (maxSteps := 2000000) only [go_sem, hP, ↓reduceIte, Nat.reduceAdd, Nat.reduceMul, Nat.reduceEqDiff, Nat.reduceSub, Nat.reduceLeDiff, reduceCtorEq, h1, e])
      | refine ev_skip ?_ | refine ev_block ?_ | refine ev_blk ?_ | refine ev_ret ?_ | refine ev_exit ?_ | refine evx_code_ret ?_ | refine evx_blk_ret ?_ | refine evx_lp_ret ?_
      | refine evx_code_exit ?_ | refine evx_lp_exit ?_ | refine evx_blk_hit ?_ | refine evx_blk_pass (by decide) ?_
      | refine And.intro ?_ ?_ | intro _ | decide +kernel | omega)
    all_goals first | (exfalso; omega) | (simp_all; done)
  · have hv : woV n d r = ⟨0, 0, 0, []⟩ := by unfold woV; rw [if_neg hz]
    rw [hv]
    repeat' (first
      | exact True.intro
      | refine ev_seq ?_
      | ((first | refine vgd_go ?_ | refine ev_region hE hM (hS (by decide +kernel)) ?_ | refine ev_if ?_ | refine end_ret hE rfl rfl ?_ | refine end_norm hE rfl rfl ?_ | refine endG_ret [] hE rfl ?_ | refine endG_norm [] hE rfl ?_ | refine vcallB_of hP (s_specNodeFault n d) ?_ | refine vcallB_of hP (s_l3Find n.entries r) ?_ | refine vcall_A ?_); simp (maxSteps := 2000000) only [go_sem, hP, ↓reduceIte, Nat.reduceAdd, Nat.reduceMul, Nat.reduceEqDiff, Nat.reduceSub, Nat.reduceLeDiff, reduceCtorEq])
      | refine ev_skip ?_ | refine ev_block ?_ | refine ev_blk ?_ | refine ev_ret ?_ | refine ev_exit ?_ | refine evx_code_ret ?_ | refine evx_blk_ret ?_ | refine evx_lp_ret ?_
      | refine evx_code_exit ?_ | refine evx_lp_exit ?_ | refine evx_blk_hit ?_ | refine evx_blk_pass (by decide) ?_
      | refine And.intro ?_ ?_ | intro _ | decide +kernel | omega)
    all_goals first | (exfalso; omega) | (simp_all [efcode]; done) | (simp_all [efcode]; omega)
@[go_sem] abbrev eY (b : Int) : List C := [.int .u8 b]
@[go_sem] abbrev sY (xs : List Int) : C := .sl none 1 (xs.map eY)
@[go_sem] abbrev aY (xs : List Int) : Arg := .d (false, [sY xs])
/-- The source of a code's bytes. -/
@[go_sem] abbrev bSrc (c : List Int) (a : Int) : Blk := .box [.c (sY c), iT a]
def codeOk (c : List Int) : Prop := c.length ≤ 1048576 ∧ ∀ b ∈ c, 0 ≤ b ∧ b < 256
def nv (c : List Int) (a n : Int) : Int :=
  if n > 200 then (c.getD (a % c.length).toNat default + a / c.length * 37) * 251 + c.getD ((a + 1) % c.length).toNat default * 13 + a
  else c.getD (a % c.length).toNat default + a / c.length * 37
def nx (c : List Int) (a n : Int) : Int := if c.length = 0 then (a * 7) % n else nv c a n % n
theorem byte_get {c : List Int} (hc : codeOk c) (i : Nat) : 0 ≤ c.getD i default ∧ c.getD i default < 256 := by
  rw [List.getD_eq_getElem?_getD]
  rcases h : c[i]? with _ | x
  · exact ⟨by decide, by decide⟩
  · exact hc.2 x (List.mem_of_getElem? h)
theorem nx_in {c : List Int} {a n : Int} (hn : 1 ≤ n) : 0 ≤ nx c a n ∧ nx c a n < n := by
  unfold nx
  split <;> exact ⟨Int.emod_nonneg _ (by omega), Int.emod_lt_of_pos _ (by omega)⟩
theorem tmod_pos {a b : Int} (h : 0 ≤ a) : a.tmod b = a % b := Int.tmod_eq_emod_of_nonneg h
theorem tdiv_pos {a b : Int} (h : 0 ≤ a) : a.tdiv b = a / b := Int.tdiv_eq_ediv_of_nonneg h
section
variable {c : Cx} {i : Nat} {dst : Option Nat} {rest : List Oper} {acc : List (List Nat × List Nat)} {st : St} {f κ : Nat} {P : Program}
theorem vcallG_at {caps args ts : List T} {ats : List Nat} {hc' : List (Nat × Blk)} {rt : T} {b : Blk} (K : Nat) (ks : List Nat) (hst : st.h K = some b) (hP : c.E.fr.P = P) (hs : SatG P f false ts [(1, b)] rt hc') (h : vcallG c i dst rest acc st caps args ts [(1, b)] rt hc' P (rhoOf [(1, K)] κ) ks) :
    vcall c i dst rest acc st f caps args ats κ := vcallG_of [(1, K)] ks hP hs h
end
theorem s_l1Next (c : List Int) (a n : Int) (hc : codeOk c) (h0 : 0 ≤ a) (h1 : a ≤ 1073741824) (h2 : 1 ≤ n) (h3 : n ≤ 60000) : SatG Try.prog 184 false [.ptr 1 0, iT n] [(1, bSrc c a)] (iT (nx c a n)) [(1, bSrc c (a + 1))] := by
  refine satG_walk (fn := Try.f184) rfl rfl rfl (Nat.le_of_ble_eq_true rfl) (by simp) fun fr hP hN hdp hb1 hb2 => ?_
  have hE : (envOf fr Try.prog).Ok := envOf_ok hP
  have hM := follows_of hP
  have hS : ∀ {draw ops}, statB Try.f184.ntmps draw ops = true → statB (envOf fr Try.prog).fr.N draw ops = true := fun h => by rw [envOf_fr, hN]; exact h
  have w1 : IntKind.i64.wrap (a + 1) = a + 1 := i64_in _ (by omega)
  have w2 : IntKind.i64.wrap (a + 1 - 1) = a := by rw [i64_in _ (by omega)]; omega
  have n0 : (n = 0) = False := eq_false (by omega)
  have n1 : decide (n < 1) = false := by simp; omega
  have n6 : decide (60000 < n) = false := by simp; omega
  by_cases hz : c.length = 0
  · have w3 : IntKind.i64.wrap (a * 7) = a * 7 := i64_in _ (by omega)
    have e : nx c a n = (a * 7).tmod n := by unfold nx; rw [if_pos hz, tmod_pos (by omega)]
    rw [e]
    repeat' (first
      | exact True.intro
      | refine ev_seq ?_
      | ((first | refine vgd_go ?_ | refine ev_region hE hM (hS (by decide +kernel)) ?_ | refine ev_if ?_ | refine end_ret hE rfl rfl ?_ | refine end_norm hE rfl rfl ?_ | refine endG_ret [] hE rfl ?_ | refine endG_norm [] hE rfl ?_ | refine vcall_A ?_); simp (maxSteps := 2000000) only [go_sem, hP, ↓reduceIte, Nat.reduceAdd, Nat.reduceMul, Nat.reduceEqDiff, Nat.reduceSub, Nat.reduceLeDiff, reduceCtorEq, w1, w2, w3, hz, n0, n1])
      | refine ev_skip ?_ | refine ev_block ?_ | refine ev_blk ?_ | refine ev_ret ?_ | refine ev_exit ?_ | refine evx_code_ret ?_ | refine evx_blk_ret ?_ | refine evx_lp_ret ?_
      | refine evx_code_exit ?_ | refine evx_lp_exit ?_ | refine evx_blk_hit ?_ | refine evx_blk_pass (by decide) ?_
      | refine And.intro ?_ ?_ | intro _ | decide +kernel | omega)
    all_goals first | (exfalso; omega) | (simp_all; done)
  · have k0 : ((c.length : Int) = 0) = False := eq_false (by omega)
    have k1 : ((c.length : Int) == 0) = false := beq_eq_false_iff_ne.2 (by omega)
    have hk := hc.1
    have e1 := tmod_pos (b := c.length) h0
    have e2 := tdiv_pos (b := c.length) h0
    have e3 := tmod_pos (a := a + 1) (b := c.length) (by omega)
    have m1 := Int.emod_nonneg a (b := c.length) (by omega)
    have m2 := Int.emod_lt_of_pos a (b := c.length) (by omega)
    have m3 := Int.emod_nonneg (a + 1) (b := c.length) (by omega)
    have m4 := Int.emod_lt_of_pos (a + 1) (b := c.length) (by omega)
    have d1 : 0 ≤ a / c.length := Int.ediv_nonneg h0 (by omega)
    have d2 : a / c.length ≤ a := Int.ediv_le_self _ h0
    obtain ⟨b1, b2⟩ := byte_get hc (a % c.length).toNat
    obtain ⟨b3, b4⟩ := byte_get hc ((a + 1) % c.length).toNat
    have ev : nx c a n = (nv c a n).tmod n := by unfold nx; rw [if_neg hz, tmod_pos]; unfold nv; split <;> omega
    rw [ev]
    unfold nv
    generalize hx : c.getD (a % c.length).toNat default = x at *
    generalize hy : c.getD ((a + 1) % c.length).toNat default = y at *
    generalize hq : a / c.length = q at *
    generalize hr : a % c.length = r at *
    generalize hs : (a + 1) % c.length = s at *
    have w3 : IntKind.i64.wrap q = q := i64_in _ (by omega)
    have w4 : IntKind.i64.wrap (q * 37) = q * 37 := i64_in _ (by omega)
    have w5 : IntKind.i64.wrap x = x := i64_in _ (by omega)
    have w6 : IntKind.i64.wrap (x + q * 37) = x + q * 37 := i64_in _ (by omega)
    have w7 : IntKind.i64.wrap ((x + q * 37) * 251) = (x + q * 37) * 251 := i64_in _ (by omega)
    have w8 : IntKind.i64.wrap y = y := i64_in _ (by omega)
    have w9 : IntKind.i64.wrap (y * 13) = y * 13 := i64_in _ (by omega)
    have wa : IntKind.i64.wrap ((x + q * 37) * 251 + y * 13) = (x + q * 37) * 251 + y * 13 := i64_in _ (by omega)
    have wb : IntKind.i64.wrap ((x + q * 37) * 251 + y * 13 + a) = (x + q * 37) * 251 + y * 13 + a := i64_in _ (by omega)
    by_cases h2 : n > 200
    · rw [if_pos h2]
      have n2 : decide (200 < n) = true := by simp; omega
      repeat' (first
        | exact True.intro
        | refine ev_seq ?_
        | ((first | refine vgd_go ?_ | refine ev_region hE hM (hS (by decide +kernel)) ?_ | refine ev_if ?_ | refine end_ret hE rfl rfl ?_ | refine end_norm hE rfl rfl ?_ | refine endG_ret [] hE rfl ?_ | refine endG_norm [] hE rfl ?_ | refine vcall_A ?_); simp (maxSteps := 2000000) only [go_sem, hP, ↓reduceIte, Nat.reduceAdd, Nat.reduceMul, Nat.reduceEqDiff, Nat.reduceSub, Nat.reduceLeDiff, reduceCtorEq, w1, w2, w3, w4, w5, w6, w7, w8, w9, wa, wb, e1, e2, e3, hx, hy, hq, hr, hs, k0, k1, n0, n1, n2, n6])
        | refine ev_skip ?_ | refine ev_block ?_ | refine ev_blk ?_ | refine ev_ret ?_ | refine ev_exit ?_ | refine evx_code_ret ?_ | refine evx_blk_ret ?_ | refine evx_lp_ret ?_
        | refine evx_code_exit ?_ | refine evx_lp_exit ?_ | refine evx_blk_hit ?_ | refine evx_blk_pass (by decide) ?_
        | refine And.intro ?_ ?_ | intro _ | decide +kernel | omega)
      all_goals first | (exfalso; omega) | omega | (simp_all; done)
    · rw [if_neg h2]
      have n2 : decide (200 < n) = false := by simp; omega
      repeat' (first
        | exact True.intro
        | refine ev_seq ?_
        | ((first | refine vgd_go ?_ | refine ev_region hE hM (hS (by decide +kernel)) ?_ | refine ev_if ?_ | refine end_ret hE rfl rfl ?_ | refine end_norm hE rfl rfl ?_ | refine endG_ret [] hE rfl ?_ | refine endG_norm [] hE rfl ?_ | refine vcall_A ?_); simp (maxSteps := 2000000) only [go_sem, hP, ↓reduceIte, Nat.reduceAdd, Nat.reduceMul, Nat.reduceEqDiff, Nat.reduceSub, Nat.reduceLeDiff, reduceCtorEq, w1, w2, w3, w4, w5, w6, e1, e2, hx, hq, hr, k0, k1, n0, n1, n2, n6])
        | refine ev_skip ?_ | refine ev_block ?_ | refine ev_blk ?_ | refine ev_ret ?_ | refine ev_exit ?_ | refine evx_code_ret ?_ | refine evx_blk_ret ?_ | refine evx_lp_ret ?_
        | refine evx_code_exit ?_ | refine evx_lp_exit ?_ | refine evx_blk_hit ?_ | refine evx_blk_pass (by decide) ?_
        | refine And.intro ?_ ?_ | intro _ | decide +kernel | omega)
      all_goals first | (exfalso; omega) | omega | (simp_all; done)
def pk (c : List Int) (a : Int) (xs : List Int) : Int := xs.getD (nx c a xs.length).toNat default
def coord (c : List Int) (a : Int) : Int := pk c (a + 4) [nx c a 20, nx c (a + 1) 20, nx c (a + 2) 20 - 10, nx c (a + 3) 300 * 3 - 400, 1000, -1000]
theorem pk_mem {c : List Int} {a : Int} {xs : List Int} (h : xs ≠ []) : pk c a xs ∈ xs := by
  have hl : 1 ≤ xs.length := List.length_pos_iff.2 h
  obtain ⟨p1, p2⟩ := nx_in (c := c) (a := a) (n := xs.length) (by omega)
  unfold pk
  rw [List.getD_eq_getElem?_getD, List.getElem?_eq_getElem (by omega)]
  exact List.getElem_mem _
theorem coord_in (c : List Int) (a : Int) : -1000 ≤ coord c a ∧ coord c a ≤ 1000 := by
  have h := pk_mem (c := c) (a := a + 4) (xs := [nx c a 20, nx c (a + 1) 20, nx c (a + 2) 20 - 10, nx c (a + 3) 300 * 3 - 400, 1000, -1000]) (by simp)
  have e0 := nx_in (c := c) (a := a) (n := 20) (by omega)
  have e1 := nx_in (c := c) (a := a + 1) (n := 20) (by omega)
  have e2 := nx_in (c := c) (a := a + 2) (n := 20) (by omega)
  have e3 := nx_in (c := c) (a := a + 3) (n := 300) (by omega)
  simp only [List.mem_cons, List.not_mem_nil, or_false] at h
  unfold coord
  rcases h with h | h | h | h | h | h <;> rw [h] <;> omega
def pointV (c : List Int) (a : Int) (d : Nat) : List Int := (List.range d).map fun (i : Nat) => coord c (a + 5 * i)
def rectLo (c : List Int) (a : Int) (d : Nat) : List Int := (List.range d).map fun (i : Nat) => coord c (a + 6 * i)
def rectHi (c : List Int) (a : Int) (d : Nat) : List Int := (List.range d).map fun (i : Nat) => min (coord c (a + 6 * i) + pk c (a + 6 * i + 5) [0, 1, 3, 8, 30]) 1000
def rectV (c : List Int) (a : Int) (d : Nat) : Rect := ⟨rectLo c a d, rectHi c a d⟩
theorem pk5_in (c : List Int) (a : Int) : 0 ≤ pk c a [0, 1, 3, 8, 30] ∧ pk c a [0, 1, 3, 8, 30] ≤ 30 := by
  have h := pk_mem (c := c) (a := a) (xs := [0, 1, 3, 8, 30]) (by simp)
  simp only [List.mem_cons, List.not_mem_nil, or_false] at h
  omega
theorem dims_in (c : List Int) (a : Int) : pk c a [2, 2, 3] = 2 ∨ pk c a [2, 2, 3] = 3 := by
  have h := pk_mem (c := c) (a := a) (xs := [2, 2, 3]) (by simp)
  simp only [List.mem_cons, List.not_mem_nil, or_false] at h
  omega
theorem rectV_hi (c : List Int) (a : Int) (d i : Nat) (h : i < d) : -1000 ≤ (rectHi c a d).getD i default ∧ (rectHi c a d).getD i default ≤ 1000 := by
  unfold rectHi
  rw [getD_lt (by simpa using h)]
  simp only [List.getElem_map, List.getElem_range]
  have h1 := coord_in c (a + 6 * i)
  have h2 := pk5_in c (a + 6 * i + 5)
  omega
def bentV (c : List Int) (a : Int) (d : Nat) : Rect :=
  if nx c (a + 6 * d) 14 = 0 then ⟨(rectLo c a d).set 0 (pk c (a + 6 * d + 1) [(rectHi c a d).getD 0 default + 1, -1001, 1001]), rectHi c a d⟩
  else if nx c (a + 6 * d) 14 = 1 then ⟨rectLo c a d, (rectHi c a d).drop 1⟩
  else if nx c (a + 6 * d) 14 = 2 then ⟨rectLo c a d ++ [0], rectHi c a d⟩
  else if nx c (a + 6 * d) 14 = 3 then ⟨rectLo c a d, (rectHi c a d).set 1 (pk c (a + 6 * d + 1) [1000, 1001, -1000])⟩
  else rectV c a d
def bentA (c : List Int) (a : Int) (d : Nat) : Int := if nx c (a + 6 * d) 14 = 0 ∨ nx c (a + 6 * d) 14 = 3 then a + 6 * d + 2 else a + 6 * d + 1
theorem bentA_in (c : List Int) (a : Int) (d : Nat) : a ≤ bentA c a d ∧ bentA c a d ≤ a + 6 * d + 2 := by unfold bentA; split <;> omega
theorem s_l1Chance (c : List Int) (a n : Int) (hc : codeOk c) (h0 : 0 ≤ a) (h1 : a ≤ 1073741824) (h2 : 1 ≤ n) (h3 : n ≤ 60000) : SatG Try.prog 139 false [.ptr 1 0, iT n] [(1, bSrc c a)] (.c (.bool (nx c a n == 0))) [(1, bSrc c (a + 1))] := by
  refine satG_walk (fn := Try.f139) rfl rfl rfl (Nat.le_of_ble_eq_true rfl) (by simp) fun fr hP hN hdp hb1 hb2 => ?_
  have hE : (envOf fr Try.prog).Ok := envOf_ok hP
  have hM := follows_of hP
  have hS : ∀ {draw ops}, statB Try.f139.ntmps draw ops = true → statB (envOf fr Try.prog).fr.N draw ops = true := fun h => by rw [envOf_fr, hN]; exact h
  repeat' (first
    | exact True.intro
    | refine ev_seq ?_
    | ((first | refine vgd_go ?_ | refine ev_region hE hM (hS (by decide +kernel)) ?_ | refine ev_if ?_ | refine end_ret hE rfl rfl ?_ | refine end_norm hE rfl rfl ?_ | refine endG_ret [] hE rfl ?_ | refine endG_norm [] hE rfl ?_ | refine vcallG_at (args := [.ptr 1 0, iT n]) 1 [] rfl hP (s_l1Next c _ n hc (by omega) (by omega) (by omega) (by omega)) ?_ | refine vcall_A ?_); simp (maxSteps := 2000000) only [go_sem, hP, ↓reduceIte, Nat.reduceAdd, Nat.reduceMul, Nat.reduceEqDiff, Nat.reduceSub, Nat.reduceLeDiff, reduceCtorEq])
    | refine ev_skip ?_ | refine ev_block ?_ | refine ev_blk ?_ | refine ev_ret ?_ | refine ev_exit ?_ | refine evx_code_ret ?_ | refine evx_blk_ret ?_ | refine evx_lp_ret ?_
    | refine evx_code_exit ?_ | refine evx_lp_exit ?_ | refine evx_blk_hit ?_ | refine evx_blk_pass (by decide) ?_
    | refine And.intro ?_ ?_ | intro _ | decide +kernel | omega)
theorem s_l1Pick (c : List Int) (a : Int) (xs : List Int) (hc : codeOk c) (h0 : 0 ≤ a) (h1 : a ≤ 1073741824) (h2 : 1 ≤ xs.length) (h3 : xs.length ≤ 60000) : SatG Try.prog 135 false [.ptr 1 0, .c (.sl none 1 (xs.map eI))] [(1, bSrc c a)] (iT (pk c a xs)) [(1, bSrc c (a + 1))] := by
  refine satG_walk (fn := Try.f135) rfl rfl rfl (Nat.le_of_ble_eq_true rfl) (by simp) fun fr hP hN hdp hb1 hb2 => ?_
  have hE : (envOf fr Try.prog).Ok := envOf_ok hP
  have hM := follows_of hP
  have hS : ∀ {draw ops}, statB Try.f135.ntmps draw ops = true → statB (envOf fr Try.prog).fr.N draw ops = true := fun h => by rw [envOf_fr, hN]; exact h
  obtain ⟨p1, p2⟩ := nx_in (c := c) (a := a) (n := xs.length) (by omega)
  unfold pk
  repeat' (first
    | exact True.intro
    | refine ev_seq ?_
    | ((first | refine vgd_go ?_ | refine ev_region hE hM (hS (by decide +kernel)) ?_ | refine ev_if ?_ | refine end_ret hE rfl rfl ?_ | refine end_norm hE rfl rfl ?_ | refine endG_ret [] hE rfl ?_ | refine endG_norm [] hE rfl ?_ | refine vcallG_at (args := [.ptr 1 0, iT xs.length]) 1 [] rfl hP (s_l1Next c _ xs.length hc (by omega) (by omega) (by omega) (by omega)) ?_ | refine vcall_A ?_); simp (maxSteps := 2000000) only [go_sem, hP, ↓reduceIte, Nat.reduceAdd, Nat.reduceMul, Nat.reduceEqDiff, Nat.reduceSub, Nat.reduceLeDiff, reduceCtorEq, List.length_map])
    | refine ev_skip ?_ | refine ev_block ?_ | refine ev_blk ?_ | refine ev_ret ?_ | refine ev_exit ?_ | refine evx_code_ret ?_ | refine evx_blk_ret ?_ | refine evx_lp_ret ?_
    | refine evx_code_exit ?_ | refine evx_lp_exit ?_ | refine evx_blk_hit ?_ | refine evx_blk_pass (by decide) ?_
    | refine And.intro ?_ ?_ | intro _ | decide +kernel | omega)
theorem s_l1Coord (c : List Int) (a : Int) (hc : codeOk c) (h0 : 0 ≤ a) (h1 : a ≤ 1073741800) : SatG Try.prog 244 false [.ptr 1 0] [(1, bSrc c a)] (iT (coord c a)) [(1, bSrc c (a + 5))] := by
  refine satG_walk (fn := Try.f244) rfl rfl rfl (Nat.le_of_ble_eq_true rfl) (by simp) fun fr hP hN hdp hb1 hb2 => ?_
  have hE : (envOf fr Try.prog).Ok := envOf_ok hP
  have hM := follows_of hP
  have hS : ∀ {draw ops}, statB Try.f244.ntmps draw ops = true → statB (envOf fr Try.prog).fr.N draw ops = true := fun h => by rw [envOf_fr, hN]; exact h
  obtain ⟨p1, p2⟩ := nx_in (c := c) (a := a + 2) (n := 20) (by omega)
  obtain ⟨p3, p4⟩ := nx_in (c := c) (a := a + 3) (n := 300) (by omega)
  have w1 : IntKind.i64.wrap (nx c (a + 2) 20 - 10) = nx c (a + 2) 20 - 10 := i64_in _ (by omega)
  have w2 : IntKind.i64.wrap (nx c (a + 3) 300 * 3) = nx c (a + 3) 300 * 3 := i64_in _ (by omega)
  have w3 : IntKind.i64.wrap (nx c (a + 3) 300 * 3 - 400) = nx c (a + 3) 300 * 3 - 400 := i64_in _ (by omega)
  unfold coord
  repeat' (first
    | exact True.intro
    | refine ev_seq ?_
    | ((first | refine vgd_go ?_ | refine ev_region hE hM (hS (by decide +kernel)) ?_ | refine ev_if ?_ | refine end_ret hE rfl rfl ?_ | refine end_norm hE rfl rfl ?_ | refine endG_ret [] hE rfl ?_ | refine endG_norm [] hE rfl ?_ | refine vcallG_at (args := [.ptr 1 0, iT 20]) 1 [] rfl hP (s_l1Next c _ 20 hc (by omega) (by omega) (by omega) (by omega)) ?_ | refine vcallG_at (args := [.ptr 1 0, iT 300]) 1 [] rfl hP (s_l1Next c _ 300 hc (by omega) (by omega) (by omega) (by omega)) ?_ | refine vcallG_at (args := [.ptr 1 0, .ref 4192]) 1 [4192] rfl hP (s_l1Pick c _ [nx c a 20, nx c (a + 1) 20, nx c (a + 2) 20 - 10, nx c (a + 3) 300 * 3 - 400, 1000, -1000] hc (by omega) (by omega) (by simp) (by simp)) ?_ | refine vcall_A ?_); simp (maxSteps := 2000000) only [go_sem, hP, ↓reduceIte, Nat.reduceAdd, Nat.reduceMul, Nat.reduceEqDiff, Nat.reduceSub, Nat.reduceLeDiff, reduceCtorEq, Int.add_assoc, Int.reduceAdd, w1, w2, w3])
    | refine ev_skip ?_ | refine ev_block ?_ | refine ev_blk ?_ | refine ev_ret ?_ | refine ev_exit ?_ | refine evx_code_ret ?_ | refine evx_blk_ret ?_ | refine evx_lp_ret ?_
    | refine evx_code_exit ?_ | refine evx_lp_exit ?_ | refine evx_blk_hit ?_ | refine evx_blk_pass (by decide) ?_
    | refine And.intro ?_ ?_ | intro _ | decide +kernel | omega)
  all_goals first | rfl | simp
theorem s_l1Dims (c : List Int) (a : Int) (hc : codeOk c) (h0 : 0 ≤ a) (h1 : a ≤ 1073741800) : SatG Try.prog 149 false [.ptr 1 0] [(1, bSrc c a)] (iT (pk c a [2, 2, 3])) [(1, bSrc c (a + 1))] := by
  refine satG_walk (fn := Try.f149) rfl rfl rfl (Nat.le_of_ble_eq_true rfl) (by simp) fun fr hP hN hdp hb1 hb2 => ?_
  have hE : (envOf fr Try.prog).Ok := envOf_ok hP
  have hM := follows_of hP
  have hS : ∀ {draw ops}, statB Try.f149.ntmps draw ops = true → statB (envOf fr Try.prog).fr.N draw ops = true := fun h => by rw [envOf_fr, hN]; exact h
  repeat' (first
    | exact True.intro
    | refine ev_seq ?_
    | ((first | refine vgd_go ?_ | refine ev_region hE hM (hS (by decide +kernel)) ?_ | refine ev_if ?_ | refine end_ret hE rfl rfl ?_ | refine end_norm hE rfl rfl ?_ | refine endG_ret [] hE rfl ?_ | refine endG_norm [] hE rfl ?_ | refine vcallG_at (args := [.ptr 1 0, .ref 4104]) 1 [4104] rfl hP (s_l1Pick c _ [2, 2, 3] hc (by omega) (by omega) (by simp) (by simp)) ?_ | refine vcall_A ?_); simp (maxSteps := 2000000) only [go_sem, hP, ↓reduceIte, Nat.reduceAdd, Nat.reduceMul, Nat.reduceEqDiff, Nat.reduceSub, Nat.reduceLeDiff, reduceCtorEq])
    | refine ev_skip ?_ | refine ev_block ?_ | refine ev_blk ?_ | refine ev_ret ?_ | refine ev_exit ?_ | refine evx_code_ret ?_ | refine evx_blk_ret ?_ | refine evx_lp_ret ?_
    | refine evx_code_exit ?_ | refine evx_lp_exit ?_ | refine evx_blk_hit ?_ | refine evx_blk_pass (by decide) ?_
    | refine And.intro ?_ ?_ | intro _ | decide +kernel | omega)
  all_goals rfl
theorem s_l1Source (c : List Int) : SatG Try.prog 148 false [.c (sY c)] [] (.ptr 1 0) [(1, bSrc c 0)] := by
  refine satG_walk (fn := Try.f148) rfl rfl rfl (Nat.le_of_ble_eq_true rfl) (by simp) fun fr hP hN hdp hb1 hb2 => ?_
  have hE : (envOf fr Try.prog).Ok := envOf_ok hP
  have hM := follows_of hP
  have hS : ∀ {draw ops}, statB Try.f148.ntmps draw ops = true → statB (envOf fr Try.prog).fr.N draw ops = true := fun h => by rw [envOf_fr, hN]; exact h
  repeat' (first
    | exact True.intro
    | refine ev_seq ?_
    | ((first | refine endG_ret [(1, some 4112)] hE rfl ?_ | refine vgd_go ?_ | refine ev_region hE hM (hS (by decide +kernel)) ?_ | refine ev_if ?_ | refine end_ret hE rfl rfl ?_ | refine end_norm hE rfl rfl ?_ | refine endG_ret [] hE rfl ?_ | refine endG_norm [] hE rfl ?_ | refine vcall_A ?_); simp (maxSteps := 2000000) only [go_sem, hP, ↓reduceIte, Nat.reduceAdd, Nat.reduceMul, Nat.reduceEqDiff, Nat.reduceSub, Nat.reduceLeDiff, reduceCtorEq])
    | refine ev_skip ?_ | refine ev_block ?_ | refine ev_blk ?_ | refine ev_ret ?_ | refine ev_exit ?_ | refine evx_code_ret ?_ | refine evx_blk_ret ?_ | refine evx_lp_ret ?_
    | refine evx_code_exit ?_ | refine evx_lp_exit ?_ | refine evx_blk_hit ?_ | refine evx_blk_pass (by decide) ?_
    | refine And.intro ?_ ?_ | intro _ | decide +kernel | omega)
end Go.Proofs.Ytmpndkhnajogkaa.W
