/- Contracts of functions that the statements of this seat reach: what each returns; it writes to nothing of old. No condition but those that each theorem states. -/
import Derived.Test.YtcephdpooijciaaGreatPb
open Go Go.Vm Go.Proofs Go.IntWalk Go.RowKit
set_option maxRecDepth 100000
set_option maxHeartbeats 4000000
set_option linter.unusedSimpArgs false
set_option linter.unusedVariables false
set_option linter.unusedSectionVars false
namespace Go.Proofs.YtcephdpooijciaaGreat.W
attribute [local irreducible] kJ ev evx vops vstep vgo vgd vget vcall vcallFn vcallA vcallB vts vres vcond vbin
theorem s_l4Free (a : Arena) : Sat Tryz.prog 58 [pArena a] true (rI (freeF a)) := by
  refine sat_walk (fn := Tryz.f58) rfl rfl rfl (Nat.le_of_ble_eq_true rfl) fun fr hP hN hbnd => ?_
  have hE : (envOf fr Tryz.prog).Ok := envOf_ok hP
  have hM := follows_of hP
  have hS : ∀ {draw ops}, statB Tryz.f58.ntmps draw ops = true → statB (envOf fr Tryz.prog).fr.N draw ops = true := fun h => by rw [envOf_fr, hN]; exact h
  have hlen : a.nodes.length ≤ maxLen ∧ a.free.length ≤ maxLen := by
    have h1 := hbnd.1.2.1.1; have h2 := hbnd.1.2.2.1.1
    rw [List.length_map] at h1 h2; exact ⟨h1, h2⟩
  have hm : maxLen = 9223372036854775807 := rfl
  repeat' (first
    | exact True.intro
    | refine ev_seq ?_
    | ((first | refine vgd_go ?_ | refine ev_region hE hM (hS (by decide +kernel)) ?_ | refine ev_if ?_ | refine end_ret hE rfl rfl ?_ | refine end_norm hE rfl rfl ?_ | refine endG_ret [] hE rfl ?_ | refine endG_norm [] hE rfl ?_ | refine vcall_A ?_); simp (maxSteps := 2000000) only [go_sem, hP, ↓reduceIte, Nat.reduceAdd, Nat.reduceMul, Nat.reduceEqDiff, Nat.reduceSub, Nat.reduceLeDiff, reduceCtorEq])
    | refine ev_skip ?_ | refine ev_block ?_ | refine ev_blk ?_ | refine ev_ret ?_ | refine ev_exit ?_ | refine evx_code_ret ?_ | refine evx_blk_ret ?_ | refine evx_lp_ret ?_
    | refine evx_code_exit ?_ | refine evx_lp_exit ?_ | refine evx_blk_hit ?_ | refine evx_blk_pass (by decide) ?_
    | refine And.intro ?_ ?_ | intro _ | decide +kernel | omega)
  refine ev_loop (ι := Nat) (fun k => [(0, .pv (eArena a)), (3, .c (.int .i64 k))]) (fun k => []) (fun _ => []) (fun k => k ≤ a.free.length ∧ allLt k (fun j => isPlace a (a.free.getD j default)) = true) (fun k => a.free.length - k) 0 [] (by simp [allLt_zero] <;> omega) (by simp only [go_sem, hP, ↓reduceIte, Nat.reduceAdd, Nat.reduceMul, Nat.reduceEqDiff, Nat.reduceSub, Nat.reduceLeDiff, reduceCtorEq]; simp) ?_
  intro k hk
  repeat' (first
    | exact True.intro
    | refine ev_seq ?_
    | ((first | refine vgd_go ?_ | refine ev_region hE hM (hS (by decide +kernel)) ?_ | refine ev_if ?_ | refine end_ret hE rfl rfl ?_ | refine end_norm hE rfl rfl ?_ | refine endG_ret [] hE rfl ?_ | refine endG_norm [] hE rfl ?_ | refine vcallB_of hP (s_l4Place a _) ?_ | refine vcall_A ?_); simp (maxSteps := 2000000) only [go_sem, hP, ↓reduceIte, Nat.reduceAdd, Nat.reduceMul, Nat.reduceEqDiff, Nat.reduceSub, Nat.reduceLeDiff, reduceCtorEq])
    | refine ev_skip ?_ | refine ev_block ?_ | refine ev_blk ?_ | refine ev_ret ?_ | refine ev_exit ?_ | refine evx_code_ret ?_ | refine evx_blk_ret ?_ | refine evx_lp_ret ?_
    | refine evx_code_exit ?_ | refine evx_lp_exit ?_ | refine evx_blk_hit ?_ | refine evx_blk_pass (by decide) ?_
    | refine And.intro ?_ ?_ | intro _ | decide +kernel | omega)
  · rename_i h1 h2
    have h9 : places a = false := allLt_not (k := k) (by omega) (by simpa using h2)
    simp [freeF, h9]
  · rename_i h1 h2
    exact ev_lp (k + 1) [] ⟨by omega, allLt_step hk.2 (by simpa using h2)⟩ (by omega) (by simp only [go_sem, hP, ↓reduceIte, Nat.reduceAdd, Nat.reduceMul, Nat.reduceEqDiff, Nat.reduceSub, Nat.reduceLeDiff, reduceCtorEq]; simp; exact wrap_nat (by omega) hlen.2)
  have hpl : places a = true := allLt_done (k := k) (by omega) hk.2
  clear hk
  refine ev_loop (ι := Nat) (fun k => [(0, .pv (eArena a)), (4, .c (.int .i64 k))]) (fun k => []) (fun _ => []) (fun k => k ≤ a.free.length ∧ allLt k (freeOk a) = true) (fun k => a.free.length - k) 0 [] (by simp [allLt_zero] <;> omega) (by simp only [go_sem, hP, ↓reduceIte, Nat.reduceAdd, Nat.reduceMul, Nat.reduceEqDiff, Nat.reduceSub, Nat.reduceLeDiff, reduceCtorEq]; simp) ?_
  intro k hk
  have hw1 : 0 < k → IntKind.i64.wrap ((k : Int) - 1) = ((k - 1 : Nat) : Int) := fun h => by rw [i64_in _ (by omega)]; omega
  have hp : k < a.free.length → 0 ≤ a.free.getD k default ∧ (a.free.getD k default).toNat < a.nodes.length ∧ a.free.getD k default < a.nodes.length := fun h => place_lt (places_at hpl h)
  have hw2 : k < a.free.length → IntKind.i64.wrap (a.free.getD k default + 1) = a.free.getD k default + 1 := fun h => by have := hp h; exact i64_in _ (by omega)
  have hs : k < a.free.length → Sat Tryz.prog 93 [.d (false, [.sl none 4 (List.take ((IntKind.i64.wrap (a.free.getD k default + 1)).toNat - (a.free.getD k default).toNat) (List.drop (a.free.getD k default).toNat (a.nodes.map eNode)))]),
      .d (false, [.sl none 4 (Es.strip [[.int .i64 emptyNode.level, .int .i64 emptyNode.nsn, .int .i64 emptyNode.right, .sl (some 112) 4 (emptyNode.entries.map oEntry)]])])] true
      (rB (decide (a.nodes.getD (a.free.getD k default).toNat default = emptyNode))) := fun h => by
    have h0 := hp h
    have e1 : (a.free.getD k default + 1).toNat - (a.free.getD k default).toNat = 1 := by omega
    rw [hw2 h, e1, ← List.map_drop, ← List.map_take, drop_take_one h0.2.1]
    have := s_specSameNodes [a.nodes.getD (a.free.getD k default).toNat default] [emptyNode]
    rw [show decide ([a.nodes.getD (a.free.getD k default).toNat default] = [emptyNode]) = decide (a.nodes.getD (a.free.getD k default).toNat default = emptyNode) by simp] at this
    exact this
  repeat' (first
    | exact True.intro
    | refine ev_seq ?_
    | ((first | refine vgd_go ?_ | refine ev_region hE hM (hS (by decide +kernel)) ?_ | refine ev_if ?_ | refine end_ret hE rfl rfl ?_ | refine end_norm hE rfl rfl ?_ | refine endG_ret [] hE rfl ?_ | refine endG_norm [] hE rfl ?_ | refine vcallB_of hP s_l4Empty ?_ | refine vcallB_of hP (hs (by omega)) ?_ | refine vcall_A ?_); simp (maxSteps := 2000000) only [go_sem, hP, ↓reduceIte, Nat.reduceAdd, Nat.reduceMul, Nat.reduceEqDiff, Nat.reduceSub, Nat.reduceLeDiff, reduceCtorEq])
    | refine ev_skip ?_ | refine ev_block ?_ | refine ev_blk ?_ | refine ev_ret ?_ | refine ev_exit ?_ | refine evx_code_ret ?_ | refine evx_blk_ret ?_ | refine evx_lp_ret ?_
    | refine evx_code_exit ?_ | refine evx_lp_exit ?_ | refine evx_blk_hit ?_ | refine evx_blk_pass (by decide) ?_
    | refine And.intro ?_ ?_ | intro _ | decide +kernel | omega)
  all_goals first
    | (rename_i h1 h2 h3
       rw [hw1 (by omega), Int.toNat_natCast] at h3
       have hr : freeOk a k = false := by simp only [freeOk, risesI, Bool.and_eq_false_iff, Bool.or_eq_false_iff, decide_eq_false_iff_not]; exact .inl ⟨by omega, by omega⟩
       have h9 : allLt a.free.length (freeOk a) = false := allLt_not (k := k) (by omega) hr
       simp only [freeF, hpl, h9]; rfl)
    | (rename_i h1 h2 h3 h4
       have hn : ¬ a.nodes.getD (a.free.getD k default).toNat default = emptyNode := by simpa only [Bool.not_eq_true', decide_eq_false_iff_not] using h4
       have hr : freeOk a k = false := by simp only [freeOk, Bool.and_eq_false_iff, decide_eq_false_iff_not]; exact .inr hn
       have h9 : allLt a.free.length (freeOk a) = false := allLt_not (k := k) (by omega) hr
       simp only [freeF, hpl, h9]; rfl)
    | (rename_i h1 h2 h4
       have hn : ¬ a.nodes.getD (a.free.getD k default).toNat default = emptyNode := by simpa only [Bool.not_eq_true', decide_eq_false_iff_not] using h4
       have hr : freeOk a k = false := by simp only [freeOk, Bool.and_eq_false_iff, decide_eq_false_iff_not]; exact .inr hn
       have h9 : allLt a.free.length (freeOk a) = false := allLt_not (k := k) (by omega) hr
       simp only [freeF, hpl, h9]; rfl)
    | (rename_i h1 h2 h3 h4
       rw [hw1 (by omega), Int.toNat_natCast] at h3
       have hn : a.nodes.getD (a.free.getD k default).toNat default = emptyNode := by simpa only [Bool.not_eq_false', decide_eq_true_eq] using h4
       have hr : freeOk a k = true := by simp only [freeOk, risesI, Bool.and_eq_true, Bool.or_eq_true, decide_eq_true_eq]; exact ⟨.inr (by omega), hn⟩
       exact ev_lp (k + 1) [] ⟨by omega, allLt_step hk.2 hr⟩ (by omega) (by simp only [go_sem, hP, ↓reduceIte, Nat.reduceAdd, Nat.reduceMul, Nat.reduceEqDiff, Nat.reduceSub, Nat.reduceLeDiff, reduceCtorEq]; simp; exact wrap_nat (by omega) hlen.2))
    | (rename_i h1 h2 h4
       have hn : a.nodes.getD (a.free.getD k default).toNat default = emptyNode := by simpa only [Bool.not_eq_false', decide_eq_true_eq] using h4
       have hr : freeOk a k = true := by simp only [freeOk, risesI, Bool.and_eq_true, Bool.or_eq_true, decide_eq_true_eq]; exact ⟨.inl (by omega), hn⟩
       exact ev_lp (k + 1) [] ⟨by omega, allLt_step hk.2 hr⟩ (by omega) (by simp only [go_sem, hP, ↓reduceIte, Nat.reduceAdd, Nat.reduceMul, Nat.reduceEqDiff, Nat.reduceSub, Nat.reduceLeDiff, reduceCtorEq]; simp; exact wrap_nat (by omega) hlen.2))
    | (have h9 : allLt a.free.length (freeOk a) = true := allLt_done (by omega) hk.2
       simp only [freeF, hpl, h9]; rfl)
def retF (a : Arena) (r : Retired) : Int := if isPlace a r.id = false then 3 else if r.watch.length = 0 then 2 else wf r.watch
def takenAt (a : Arena) (i : Nat) : Bool := (a.retired.take i).any (fun e => decide (e.id = (a.retired.getD i default).id)) || a.free.any (fun x => decide (x = (a.retired.getD i default).id))
def af (a : Arena) : Int :=
  if inB a.dims 2 3 = false then 3 else if (a.nodes.length : Int) < 4 ∨ (40 : Int) < a.nodes.length then 2 else
  if firstF (nf · a.dims) a.nodes ≠ 0 then firstF (nf · a.dims) a.nodes else if freeF a ≠ 0 then freeF a else
  if firstF (retF a) a.retired ≠ 0 then firstF (retF a) a.retired else if allLt a.retired.length (fun i => !takenAt a i) then 0 else 6
structure Af1 (a : Arena) : Prop where
  h1 : inB a.dims 2 3 = true
  h2 : 4 ≤ (a.nodes.length : Int) ∧ (a.nodes.length : Int) ≤ 40
theorem af_node {a : Arena} (h : Af1 a) (h3 : firstF (nf · a.dims) a.nodes ≠ 0) : af a = firstF (nf · a.dims) a.nodes := by
  have := h.h2
  unfold af; rw [if_neg (by rw [h.h1]; decide), if_neg (by omega), if_pos h3]
theorem af_free {a : Arena} (h : Af1 a) (h3 : firstF (nf · a.dims) a.nodes = 0) (h4 : freeF a ≠ 0) : af a = freeF a := by
  have := h.h2
  unfold af; rw [if_neg (by rw [h.h1]; decide), if_neg (by omega), if_neg (by omega), if_pos h4]
theorem af_ret {a : Arena} (h : Af1 a) (h3 : firstF (nf · a.dims) a.nodes = 0) (h4 : freeF a = 0) (h5 : firstF (retF a) a.retired ≠ 0) : af a = firstF (retF a) a.retired := by
  have := h.h2
  unfold af; rw [if_neg (by rw [h.h1]; decide), if_neg (by omega), if_neg (by omega), if_neg (by omega), if_pos h5]
theorem af_end {a : Arena} (h : Af1 a) (h3 : firstF (nf · a.dims) a.nodes = 0) (h4 : freeF a = 0) (h5 : firstF (retF a) a.retired = 0) : af a = if allLt a.retired.length (fun i => !takenAt a i) then 0 else 6 := by
  have := h.h2
  unfold af; rw [if_neg (by rw [h.h1]; decide), if_neg (by omega), if_neg (by omega), if_neg (by omega), if_neg (by omega)]
theorem af_two {a : Arena} (h : inB a.dims 2 3 = true) (h2 : ¬ (4 ≤ (a.nodes.length : Int) ∧ (a.nodes.length : Int) ≤ 40)) : af a = 2 := by
  unfold af; rw [if_neg (by rw [h]; decide), if_pos (by omega)]
theorem af_dims {a : Arena} (h : (!inB a.dims 2 3) = true) : 3 = af a := by
  have hd : inB a.dims 2 3 = false := by simpa using h
  unfold af; rw [if_pos hd]
theorem af_few {a : Arena} (h : (!inB a.dims 2 3) = false) (h2 : (a.nodes.length : Int) < 4) : 2 = af a := (af_two (by simpa using h) (by omega)).symm
theorem af_many {a : Arena} (h : (!inB a.dims 2 3) = false) (h2 : (40 : Int) < a.nodes.length) : 2 = af a := (af_two (by simpa using h) (by omega)).symm
theorem af_node_here {a : Arena} (h : Af1 a) {k : Nat} (hk : k < a.nodes.length) (ha : allLt k (fun j => decide (nf (a.nodes.getD j default) a.dims = 0)) = true) (hc : nf (a.nodes.getD k default) a.dims ≠ 0) : nf (a.nodes.getD k default) a.dims = af a := by
  have e := firstF_here (f := (nf · a.dims)) (d := default) hk ha hc
  rw [af_node h (by rw [e]; exact hc), e]
theorem af_ret_here {a : Arena} (h : Af1 a) (h3 : firstF (nf · a.dims) a.nodes = 0) (h4 : freeF a = 0) {k : Nat} (hk : k < a.retired.length) (ha : allLt k (fun j => decide (retF a (a.retired.getD j default) = 0)) = true) (c : Int) (he : retF a (a.retired.getD k default) = c) (hc : c ≠ 0) : c = af a := by
  have e := firstF_here (f := retF a) (d := default) hk ha (by rw [he]; exact hc)
  rw [af_ret h h3 h4 (by rw [e, he]; exact hc), e, he]
theorem retF_3 {a : Arena} {r : Retired} (h : isPlace a r.id = false) : retF a r = 3 := by unfold retF; rw [if_pos h]
theorem retF_w {a : Arena} {r : Retired} (h : isPlace a r.id = true) : retF a r = if (r.watch.length : Int) < 1 then 2 else wf r.watch := by
  unfold retF; rw [if_neg (by rw [h]; decide)]
  by_cases h0 : r.watch.length = 0
  · rw [if_pos h0, if_pos (by omega)]
  · rw [if_neg h0, if_neg (by omega)]
theorem s_implArenaFault (a : Arena) : Sat Tryz.prog 35 [aArena a] true (rI (af a)) := by
  refine sat_walk (fn := Tryz.f35) rfl rfl rfl (Nat.le_of_ble_eq_true rfl) fun fr hP hN hbnd => ?_
  have hE : (envOf fr Tryz.prog).Ok := envOf_ok hP
  have hM := follows_of hP
  have hS : ∀ {draw ops}, statB Tryz.f35.ntmps draw ops = true → statB (envOf fr Tryz.prog).fr.N draw ops = true := fun h => by rw [envOf_fr, hN]; exact h
  have hlen := bnd_Arena hbnd
  have hw2 : IntKind.i64.wrap (a.nodes.length : Int) = a.nodes.length := i64_in _ (by have hm : maxLen = 9223372036854775807 := rfl; omega)
  repeat' (first
    | exact True.intro
    | refine ev_seq ?_
    | ((first | refine vgd_go ?_ | refine ev_region hE hM (hS (by decide +kernel)) ?_ | refine ev_if ?_ | refine end_ret hE rfl rfl ?_ | refine end_norm hE rfl rfl ?_ | refine endG_ret [] hE rfl ?_ | refine endG_norm [] hE rfl ?_ | refine vcallB_of hP (s_isDims _) ?_ | refine vcallB_of hP (s_within _ _ _) ?_ | refine vcall_A ?_); simp (maxSteps := 2000000) only [go_sem, hP, ↓reduceIte, Nat.reduceAdd, Nat.reduceMul, Nat.reduceEqDiff, Nat.reduceSub, Nat.reduceLeDiff, reduceCtorEq, hw2])
    | refine ev_skip ?_ | refine ev_block ?_ | refine ev_blk ?_ | refine ev_ret ?_ | refine ev_exit ?_ | refine evx_code_ret ?_ | refine evx_blk_ret ?_ | refine evx_lp_ret ?_
    | refine evx_code_exit ?_ | refine evx_lp_exit ?_ | refine evx_blk_hit ?_ | refine evx_blk_pass (by decide) ?_
    | refine And.intro ?_ ?_ | intro _ | decide +kernel | omega)
  · rename_i h1
    have hd : inB a.dims 2 3 = false := by simpa using h1
    unfold af; rw [if_pos hd]
  · rename_i h1 h2
    have hd : inB a.dims 2 3 = true := by simpa using h1
    exact (af_two hd (by simp [inB] at h2; omega)).symm
  rename_i h1 h2
  have H : Af1 a := ⟨by simpa using h1, by simp [inB] at h2; omega⟩
  refine ev_loop (ι := Nat) (fun k => [(1, .ptr 0 0), (24, .c (sNodeS a.nodes)), (25, .c (.int .i64 a.nodes.length)), (26, .c (.int .i64 k))]) (fun k => [(0, .box ((eArena a).map .c))]) (fun _ => []) (fun k => k ≤ a.nodes.length ∧ allLt k (fun j => decide (nf (a.nodes.getD j default) a.dims = 0)) = true) (fun k => a.nodes.length - k) 0 [] (by simp [allLt_zero] <;> omega) (by simp only [go_sem, hP, ↓reduceIte, Nat.reduceAdd, Nat.reduceMul, Nat.reduceEqDiff, Nat.reduceSub, Nat.reduceLeDiff, reduceCtorEq]; simp) ?_
  intro k hk
  repeat' (first
    | exact True.intro
    | refine ev_seq ?_
    | ((first | refine vgd_go ?_ | refine ev_region hE hM (hS (by decide +kernel)) ?_ | refine ev_if ?_ | refine end_ret hE rfl rfl ?_ | refine end_norm hE rfl rfl ?_ | refine endG_ret [] hE rfl ?_ | refine endG_norm [] hE rfl ?_ | refine vcallB_of hP (s_implNodeFault (a.nodes.getD k default) _) ?_ | refine vcall_A ?_); simp (maxSteps := 2000000) only [go_sem, hP, ↓reduceIte, Nat.reduceAdd, Nat.reduceMul, Nat.reduceEqDiff, Nat.reduceSub, Nat.reduceLeDiff, reduceCtorEq])
    | refine ev_skip ?_ | refine ev_block ?_ | refine ev_blk ?_ | refine ev_ret ?_ | refine ev_exit ?_ | refine evx_code_ret ?_ | refine evx_blk_ret ?_ | refine evx_lp_ret ?_
    | refine evx_code_exit ?_ | refine evx_lp_exit ?_ | refine evx_blk_hit ?_ | refine evx_blk_pass (by decide) ?_
    | refine And.intro ?_ ?_ | intro _ | decide +kernel | omega)
  · rename_i g1 g2
    exact af_node_here H (by omega) hk.2 (by simpa only [bne_iff_ne, ne_eq] using g2)
  · rename_i g1 g2
    exact ev_lp (k + 1) [] ⟨by omega, allLt_step hk.2 (by simpa using g2)⟩ (by omega) (by simp only [go_sem, hP, ↓reduceIte, Nat.reduceAdd, Nat.reduceMul, Nat.reduceEqDiff, Nat.reduceSub, Nat.reduceLeDiff, reduceCtorEq]; simp; exact wrap_nat (by omega) hlen.1)
  have H3 : firstF (nf · a.dims) a.nodes = 0 := firstF_done (by omega) hk.2
  clear hk
  repeat' (first
    | exact True.intro
    | refine ev_seq ?_
    | ((first | refine vgd_go ?_ | refine ev_region hE hM (hS (by decide +kernel)) ?_ | refine ev_if ?_ | refine end_ret hE rfl rfl ?_ | refine end_norm hE rfl rfl ?_ | refine endG_ret [] hE rfl ?_ | refine endG_norm [] hE rfl ?_ | refine vcallB_of hP (s_freeFault a) ?_ | refine vcall_A ?_); simp (maxSteps := 2000000) only [go_sem, hP, ↓reduceIte, Nat.reduceAdd, Nat.reduceMul, Nat.reduceEqDiff, Nat.reduceSub, Nat.reduceLeDiff, reduceCtorEq])
    | refine ev_skip ?_ | refine ev_block ?_ | refine ev_blk ?_ | refine ev_ret ?_ | refine ev_exit ?_ | refine evx_code_ret ?_ | refine evx_blk_ret ?_ | refine evx_lp_ret ?_
    | refine evx_code_exit ?_ | refine evx_lp_exit ?_ | refine evx_blk_hit ?_ | refine evx_blk_pass (by decide) ?_
    | refine And.intro ?_ ?_ | intro _ | decide +kernel | omega)
  · rename_i g1
    exact (af_free H H3 (by simpa only [bne_iff_ne, ne_eq] using g1)).symm
  rename_i g1
  have H4 : freeF a = 0 := by simpa using g1
  refine ev_loop (ι := Nat) (fun k => [(1, .ptr 0 0), (44, .c (sRetiredS a.retired)), (45, .c (.int .i64 a.retired.length)), (46, .c (.int .i64 k))]) (fun k => [(0, .box ((eArena a).map .c))]) (fun _ => []) (fun k => k ≤ a.retired.length ∧ allLt k (fun j => decide (retF a (a.retired.getD j default) = 0)) = true) (fun k => a.retired.length - k) 0 [] (by simp [allLt_zero] <;> omega) (by simp only [go_sem, hP, ↓reduceIte, Nat.reduceAdd, Nat.reduceMul, Nat.reduceEqDiff, Nat.reduceSub, Nat.reduceLeDiff, reduceCtorEq]; simp) ?_
  intro k hk
  repeat' (first
    | exact True.intro
    | refine ev_seq ?_
    | ((first | refine vgd_go ?_ | refine ev_region hE hM (hS (by decide +kernel)) ?_ | refine ev_if ?_ | refine end_ret hE rfl rfl ?_ | refine end_norm hE rfl rfl ?_ | refine endG_ret [] hE rfl ?_ | refine endG_norm [] hE rfl ?_ | refine vcallB_of hP (s_isPlace a _) ?_ | refine vcallB_of hP (s_watchFault (a.retired.getD k default).watch _) ?_ | refine vcall_A ?_); simp (maxSteps := 2000000) only [go_sem, hP, ↓reduceIte, Nat.reduceAdd, Nat.reduceMul, Nat.reduceEqDiff, Nat.reduceSub, Nat.reduceLeDiff, reduceCtorEq])
    | refine ev_skip ?_ | refine ev_block ?_ | refine ev_blk ?_ | refine ev_ret ?_ | refine ev_exit ?_ | refine evx_code_ret ?_ | refine evx_blk_ret ?_ | refine evx_lp_ret ?_
    | refine evx_code_exit ?_ | refine evx_lp_exit ?_ | refine evx_blk_hit ?_ | refine evx_blk_pass (by decide) ?_
    | refine And.intro ?_ ?_ | intro _ | decide +kernel | omega)
  · rename_i g1 g2
    exact af_ret_here H H3 H4 (by omega) hk.2 3 (retF_3 (by simpa using g2)) (by decide)
  · rename_i g1 g2 g3
    exact af_ret_here H H3 H4 (by omega) hk.2 _ (retF_w (by simpa using g2)) (by simpa only [bne_iff_ne, ne_eq] using g3)
  · rename_i g1 g2 g3
    have e := retF_w (a := a) (r := a.retired.getD k default) (by simpa using g2)
    exact ev_lp (k + 1) [] ⟨by omega, allLt_step hk.2 (by rw [e]; simpa using g3)⟩ (by omega) (by simp only [go_sem, hP, ↓reduceIte, Nat.reduceAdd, Nat.reduceMul, Nat.reduceEqDiff, Nat.reduceSub, Nat.reduceLeDiff, reduceCtorEq]; simp; exact wrap_nat (by omega) hlen.2.2)
  have H5 : firstF (retF a) a.retired = 0 := firstF_done (by omega) hk.2
  clear hk
  have Hn := af_end H H3 H4 H5
  refine ev_loop (ι := Nat) (fun k => [(1, .ptr 0 0), (63, .c (sRetiredS a.retired)), (64, .c (.int .i64 a.retired.length)), (65, .c (.int .i64 k))]) (fun k => [(0, .box ((eArena a).map .c))]) (fun _ => []) (fun k => k ≤ a.retired.length ∧ allLt k (fun i => !takenAt a i) = true) (fun k => a.retired.length - k) 0 [] (by simp [allLt_zero] <;> omega) (by simp only [go_sem, hP, ↓reduceIte, Nat.reduceAdd, Nat.reduceMul, Nat.reduceEqDiff, Nat.reduceSub, Nat.reduceLeDiff, reduceCtorEq]; simp) ?_
  intro k hk
  have hn := findRet_nonneg (xs := a.retired.take k) (r := (a.retired.getD k default).id)
  repeat' (first
    | exact True.intro
    | refine ev_seq ?_
    | ((first | refine vgd_go ?_ | refine ev_region hE hM (hS (by decide +kernel)) ?_ | refine ev_if ?_ | refine end_ret hE rfl rfl ?_ | refine end_norm hE rfl rfl ?_ | refine endG_ret [] hE rfl ?_ | refine endG_norm [] hE rfl ?_ | refine vcallB_of hP (s_retiredAt (a.retired.take k) _) ?_ | refine vcallB_of hP (s_isFree a _) ?_ | refine vcall_A ?_); simp (maxSteps := 2000000) only [go_sem, hP, ↓reduceIte, Nat.reduceAdd, Nat.reduceMul, Nat.reduceEqDiff, Nat.reduceSub, Nat.reduceLeDiff, reduceCtorEq, Int.toNat_zero, Nat.sub_zero, ← List.map_take])
    | refine ev_skip ?_ | refine ev_block ?_ | refine ev_blk ?_ | refine ev_ret ?_ | refine ev_exit ?_ | refine evx_code_ret ?_ | refine evx_blk_ret ?_ | refine evx_lp_ret ?_
    | refine evx_code_exit ?_ | refine evx_lp_exit ?_ | refine evx_blk_hit ?_ | refine evx_blk_pass (by decide) ?_
    | refine And.intro ?_ ?_ | intro _ | decide +kernel | omega)
  all_goals first
    | (rename_i g1 g2
       have ht : takenAt a k = true := by unfold takenAt; rw [← hn, decide_eq_true g2]; rfl
       have h9 : allLt a.retired.length (fun i => !takenAt a i) = false := allLt_not (k := k) (by omega) (by rw [ht]; rfl)
       rw [Hn, h9]; rfl)
    | (rename_i g1 g2 g3
       have ht : takenAt a k = true := by unfold takenAt; rw [g3, Bool.or_true]
       have h9 : allLt a.retired.length (fun i => !takenAt a i) = false := allLt_not (k := k) (by omega) (by rw [ht]; rfl)
       rw [Hn, h9]; rfl)
    | (rename_i g1 g2 g3
       have ht : takenAt a k = false := by unfold takenAt; rw [← hn, decide_eq_false g2, g3]; rfl
       exact ev_lp (k + 1) [] ⟨by omega, allLt_step hk.2 (by rw [ht]; rfl)⟩ (by omega) (by simp only [go_sem, hP, ↓reduceIte, Nat.reduceAdd, Nat.reduceMul, Nat.reduceEqDiff, Nat.reduceSub, Nat.reduceLeDiff, reduceCtorEq]; simp; exact wrap_nat (by omega) hlen.2.2))
    | (have h9 : allLt a.retired.length (fun i => !takenAt a i) = true := allLt_done (by omega) hk.2
       rw [Hn, h9]; rfl)
theorem take_any_yes {α : Type} {xs : List α} {p : α → Bool} {j k : Nat} {d : α} (hj : j < k) (hk : k ≤ xs.length) (h : p (xs.getD j d) = true) : (xs.take k).any p = true := by
  rw [List.any_eq_true]
  refine ⟨xs[j]'(by omega), ?_, by rwa [getD_lt (by omega)] at h⟩
  rw [List.mem_iff_getElem]
  exact ⟨j, by simp; omega, by simp⟩
theorem s_specArenaFault (a : Arena) : Sat Tryz.prog 29 [aArena a] true (rI (af a)) := by
  refine sat_walk (fn := Tryz.f29) rfl rfl rfl (Nat.le_of_ble_eq_true rfl) fun fr hP hN hbnd => ?_
  have hE : (envOf fr Tryz.prog).Ok := envOf_ok hP
  have hM := follows_of hP
  have hS : ∀ {draw ops}, statB Tryz.f29.ntmps draw ops = true → statB (envOf fr Tryz.prog).fr.N draw ops = true := fun h => by rw [envOf_fr, hN]; exact h
  have hlen := bnd_Arena hbnd
  repeat' (first
    | exact True.intro
    | refine ev_seq ?_
    | ((first | refine vgd_go ?_ | refine ev_region hE hM (hS (by decide +kernel)) ?_ | refine ev_if ?_ | refine end_ret hE rfl rfl ?_ | refine end_norm hE rfl rfl ?_ | refine endG_ret [] hE rfl ?_ | refine endG_norm [] hE rfl ?_ | refine vcallB_of hP (s_l1In _ _ _) ?_ | refine vcall_A ?_); simp (maxSteps := 2000000) only [go_sem, hP, ↓reduceIte, Nat.reduceAdd, Nat.reduceMul, Nat.reduceEqDiff, Nat.reduceSub, Nat.reduceLeDiff, reduceCtorEq])
    | refine ev_skip ?_ | refine ev_block ?_ | refine ev_blk ?_ | refine ev_ret ?_ | refine ev_exit ?_ | refine evx_code_ret ?_ | refine evx_blk_ret ?_ | refine evx_lp_ret ?_
    | refine evx_code_exit ?_ | refine evx_lp_exit ?_ | refine evx_blk_hit ?_ | refine evx_blk_pass (by decide) ?_
    | refine And.intro ?_ ?_ | intro _ | decide +kernel | omega)
  all_goals first
    | (apply af_dims; assumption)
    | (apply af_few <;> assumption)
    | (apply af_many <;> assumption)
    | skip
  have H : Af1 a := ⟨by simp_all, by omega⟩
  refine ev_loop (ι := Nat) (fun k => [(1, .ptr 0 0), (3, .c (.int .i64 k))]) (fun k => [(0, .box ((eArena a).map .c))]) (fun _ => []) (fun k => k ≤ a.nodes.length ∧ allLt k (fun j => decide (nf (a.nodes.getD j default) a.dims = 0)) = true) (fun k => a.nodes.length - k) 0 [] (by simp [allLt_zero] <;> omega) (by simp only [go_sem, hP, ↓reduceIte, Nat.reduceAdd, Nat.reduceMul, Nat.reduceEqDiff, Nat.reduceSub, Nat.reduceLeDiff, reduceCtorEq]; simp) ?_
  intro k hk
  repeat' (first
    | exact True.intro
    | refine ev_seq ?_
    | ((first | refine vgd_go ?_ | refine ev_region hE hM (hS (by decide +kernel)) ?_ | refine ev_if ?_ | refine end_ret hE rfl rfl ?_ | refine end_norm hE rfl rfl ?_ | refine endG_ret [] hE rfl ?_ | refine endG_norm [] hE rfl ?_ | refine vcallB_of hP (s_specNodeFault (a.nodes.getD k default) _) ?_ | refine vcall_A ?_); simp (maxSteps := 2000000) only [go_sem, hP, ↓reduceIte, Nat.reduceAdd, Nat.reduceMul, Nat.reduceEqDiff, Nat.reduceSub, Nat.reduceLeDiff, reduceCtorEq])
    | refine ev_skip ?_ | refine ev_block ?_ | refine ev_blk ?_ | refine ev_ret ?_ | refine ev_exit ?_ | refine evx_code_ret ?_ | refine evx_blk_ret ?_ | refine evx_lp_ret ?_
    | refine evx_code_exit ?_ | refine evx_lp_exit ?_ | refine evx_blk_hit ?_ | refine evx_blk_pass (by decide) ?_
    | refine And.intro ?_ ?_ | intro _ | decide +kernel | omega)
  · rename_i g1 g2
    exact af_node_here H (by omega) hk.2 (by simpa only [bne_iff_ne, ne_eq] using g2)
  · rename_i g1 g2
    exact ev_lp (k + 1) [] ⟨by omega, allLt_step hk.2 (by simpa using g2)⟩ (by omega) (by simp only [go_sem, hP, ↓reduceIte, Nat.reduceAdd, Nat.reduceMul, Nat.reduceEqDiff, Nat.reduceSub, Nat.reduceLeDiff, reduceCtorEq]; simp; exact wrap_nat (by omega) hlen.1)
  have H3 : firstF (nf · a.dims) a.nodes = 0 := firstF_done (by omega) hk.2
  clear hk
  repeat' (first
    | exact True.intro
    | refine ev_seq ?_
    | ((first | refine vgd_go ?_ | refine ev_region hE hM (hS (by decide +kernel)) ?_ | refine ev_if ?_ | refine end_ret hE rfl rfl ?_ | refine end_norm hE rfl rfl ?_ | refine endG_ret [] hE rfl ?_ | refine endG_norm [] hE rfl ?_ | refine vcallB_of hP (s_l4Free a) ?_ | refine vcall_A ?_); simp (maxSteps := 2000000) only [go_sem, hP, ↓reduceIte, Nat.reduceAdd, Nat.reduceMul, Nat.reduceEqDiff, Nat.reduceSub, Nat.reduceLeDiff, reduceCtorEq])
    | refine ev_skip ?_ | refine ev_block ?_ | refine ev_blk ?_ | refine ev_ret ?_ | refine ev_exit ?_ | refine evx_code_ret ?_ | refine evx_blk_ret ?_ | refine evx_lp_ret ?_
    | refine evx_code_exit ?_ | refine evx_lp_exit ?_ | refine evx_blk_hit ?_ | refine evx_blk_pass (by decide) ?_
    | refine And.intro ?_ ?_ | intro _ | decide +kernel | omega)
  · rename_i g1
    exact (af_free H H3 (by simpa only [bne_iff_ne, ne_eq] using g1)).symm
  rename_i g1
  have H4 : freeF a = 0 := by simpa using g1
  refine ev_loop (ι := Nat) (fun k => [(1, .ptr 0 0), (6, .c (.int .i64 k))]) (fun k => [(0, .box ((eArena a).map .c))]) (fun _ => []) (fun k => k ≤ a.retired.length ∧ allLt k (fun j => decide (retF a (a.retired.getD j default) = 0)) = true) (fun k => a.retired.length - k) 0 [] (by simp [allLt_zero] <;> omega) (by simp only [go_sem, hP, ↓reduceIte, Nat.reduceAdd, Nat.reduceMul, Nat.reduceEqDiff, Nat.reduceSub, Nat.reduceLeDiff, reduceCtorEq]; simp) ?_
  intro k hk
  repeat' (first
    | exact True.intro
    | refine ev_seq ?_
    | ((first | refine vgd_go ?_ | refine ev_region hE hM (hS (by decide +kernel)) ?_ | refine ev_if ?_ | refine end_ret hE rfl rfl ?_ | refine end_norm hE rfl rfl ?_ | refine endG_ret [] hE rfl ?_ | refine endG_norm [] hE rfl ?_ | refine vcallB_of hP (s_l4Place a _) ?_ | refine vcallB_of hP (s_l4Watch (a.retired.getD k default).watch) ?_ | refine vcall_A ?_); simp (maxSteps := 2000000) only [go_sem, hP, ↓reduceIte, Nat.reduceAdd, Nat.reduceMul, Nat.reduceEqDiff, Nat.reduceSub, Nat.reduceLeDiff, reduceCtorEq])
    | refine ev_skip ?_ | refine ev_block ?_ | refine ev_blk ?_ | refine ev_ret ?_ | refine ev_exit ?_ | refine evx_code_ret ?_ | refine evx_blk_ret ?_ | refine evx_lp_ret ?_
    | refine evx_code_exit ?_ | refine evx_lp_exit ?_ | refine evx_blk_hit ?_ | refine evx_blk_pass (by decide) ?_
    | refine And.intro ?_ ?_ | intro _ | decide +kernel | omega)
  · rename_i g1 g2
    exact af_ret_here H H3 H4 (by omega) hk.2 3 (retF_3 (by simpa using g2)) (by decide)
  · rename_i g1 g2 g3
    have hz : ((a.retired.getD k default).watch.length : Int) = 0 := by simpa only [beq_iff_eq] using g3
    exact af_ret_here H H3 H4 (by omega) hk.2 2 (by rw [retF_w (by simpa using g2), if_pos (by omega)]) (by decide)
  · rename_i g1 g2 g3 g4
    have hz : ¬ ((a.retired.getD k default).watch.length : Int) = 0 := by simpa only [beq_eq_false_iff_ne, ne_eq] using g3
    exact af_ret_here H H3 H4 (by omega) hk.2 _ (by rw [retF_w (by simpa using g2), if_neg (by omega)]) (by simpa only [bne_iff_ne, ne_eq] using g4)
  · rename_i g1 g2 g3 g4
    have hz : ¬ ((a.retired.getD k default).watch.length : Int) = 0 := by simpa only [beq_eq_false_iff_ne, ne_eq] using g3
    have e : retF a (a.retired.getD k default) = wf (a.retired.getD k default).watch := by rw [retF_w (by simpa using g2), if_neg (by omega)]
    exact ev_lp (k + 1) [] ⟨by omega, allLt_step hk.2 (by rw [e]; simpa using g4)⟩ (by omega) (by simp only [go_sem, hP, ↓reduceIte, Nat.reduceAdd, Nat.reduceMul, Nat.reduceEqDiff, Nat.reduceSub, Nat.reduceLeDiff, reduceCtorEq]; simp; exact wrap_nat (by omega) hlen.2.2)
  have H5 : firstF (retF a) a.retired = 0 := firstF_done (by omega) hk.2
  clear hk
  have Hn := af_end H H3 H4 H5
  refine ev_loop (ι := Nat) (fun k => [(1, .ptr 0 0), (8, .c (.int .i64 k))]) (fun k => [(0, .box ((eArena a).map .c))]) (fun _ => []) (fun k => k ≤ a.retired.length ∧ allLt k (fun i => !takenAt a i) = true) (fun k => a.retired.length - k) 0 [] (by simp [allLt_zero] <;> omega) (by simp only [go_sem, hP, ↓reduceIte, Nat.reduceAdd, Nat.reduceMul, Nat.reduceEqDiff, Nat.reduceSub, Nat.reduceLeDiff, reduceCtorEq]; simp) ?_
  intro k hk
  repeat' (first
    | exact True.intro
    | refine ev_seq ?_
    | ((first | refine vgd_go ?_ | refine ev_region hE hM (hS (by decide +kernel)) ?_ | refine ev_if ?_ | refine end_ret hE rfl rfl ?_ | refine end_norm hE rfl rfl ?_ | refine endG_ret [] hE rfl ?_ | refine endG_norm [] hE rfl ?_ | refine vcall_A ?_); simp (maxSteps := 2000000) only [go_sem, hP, ↓reduceIte, Nat.reduceAdd, Nat.reduceMul, Nat.reduceEqDiff, Nat.reduceSub, Nat.reduceLeDiff, reduceCtorEq])
    | refine ev_skip ?_ | refine ev_block ?_ | refine ev_blk ?_ | refine ev_ret ?_ | refine ev_exit ?_ | refine evx_code_ret ?_ | refine evx_blk_ret ?_ | refine evx_lp_ret ?_
    | refine evx_code_exit ?_ | refine evx_lp_exit ?_ | refine evx_blk_hit ?_ | refine evx_blk_pass (by decide) ?_
    | refine And.intro ?_ ?_ | intro _ | decide +kernel | omega)
  · rename_i g1
    refine ev_loop (ι := Nat) (fun j => [(1, .ptr 0 0), (8, .c (.int .i64 k)), (9, .c (.int .i64 j))]) (fun j => [(0, .box ((eArena a).map .c))]) (fun _ => []) (fun j => j ≤ k ∧ (a.retired.take j).any (fun e => decide (e.id = (a.retired.getD k default).id)) = false) (fun j => k - j) 0 [] (by simp) (by simp only [go_sem, hP, ↓reduceIte, Nat.reduceAdd, Nat.reduceMul, Nat.reduceEqDiff, Nat.reduceSub, Nat.reduceLeDiff, reduceCtorEq]; simp) ?_
    intro j hj
    repeat' (first
      | exact True.intro
      | refine ev_seq ?_
      | ((first | refine vgd_go ?_ | refine ev_region hE hM (hS (by decide +kernel)) ?_ | refine ev_if ?_ | refine end_ret hE rfl rfl ?_ | refine end_norm hE rfl rfl ?_ | refine endG_ret [] hE rfl ?_ | refine endG_norm [] hE rfl ?_ | refine vcallB_of hP (s_l1Has a.free _) ?_ | refine vcall_A ?_); simp (maxSteps := 2000000) only [go_sem, hP, ↓reduceIte, Nat.reduceAdd, Nat.reduceMul, Nat.reduceEqDiff, Nat.reduceSub, Nat.reduceLeDiff, reduceCtorEq])
      | refine ev_skip ?_ | refine ev_block ?_ | refine ev_blk ?_ | refine ev_ret ?_ | refine ev_exit ?_ | refine evx_code_ret ?_ | refine evx_blk_ret ?_ | refine evx_lp_ret ?_
      | refine evx_code_exit ?_ | refine evx_lp_exit ?_ | refine evx_blk_hit ?_ | refine evx_blk_pass (by decide) ?_
      | refine And.intro ?_ ?_ | intro _ | decide +kernel | omega)
    · rename_i g2 g3
      have h3 : (fun e : Retired => decide (e.id = (a.retired.getD k default).id)) (a.retired.getD j default) = true := by simpa only [beq_iff_eq, decide_eq_true_eq] using g3
      have ht : takenAt a k = true := by unfold takenAt; rw [take_any_yes (by omega) (by omega) h3, Bool.true_or]
      have h9 : allLt a.retired.length (fun i => !takenAt a i) = false := allLt_not (k := k) (by omega) (by rw [ht]; rfl)
      rw [Hn, h9]; rfl
    · rename_i g2 g3
      have h3 : (fun e : Retired => decide (e.id = (a.retired.getD k default).id)) (a.retired.getD j default) = false := by simpa only [beq_eq_false_iff_ne, ne_eq, decide_eq_false_iff_not] using g3
      exact ev_lp (j + 1) [] ⟨by omega, any_step (d := default) (by omega) hj.2 h3⟩ (by omega) (by simp only [go_sem, hP, ↓reduceIte, Nat.reduceAdd, Nat.reduceMul, Nat.reduceEqDiff, Nat.reduceSub, Nat.reduceLeDiff, reduceCtorEq]; simp; exact wrap_nat (by omega) hlen.2.2)
    · rename_i g2 g3
      have ht : takenAt a k = true := by unfold takenAt; rw [g3, Bool.or_true]
      have h9 : allLt a.retired.length (fun i => !takenAt a i) = false := allLt_not (k := k) (by omega) (by rw [ht]; rfl)
      rw [Hn, h9]; rfl
    · rename_i g2 g3
      obtain rfl : j = k := by omega
      have ht : takenAt a j = false := by unfold takenAt; rw [hj.2, g3]; rfl
      exact ev_lp (j + 1) [] ⟨by omega, allLt_step hk.2 (by rw [ht]; rfl)⟩ (by omega) (by simp only [go_sem, hP, ↓reduceIte, Nat.reduceAdd, Nat.reduceMul, Nat.reduceEqDiff, Nat.reduceSub, Nat.reduceLeDiff, reduceCtorEq]; simp; exact wrap_nat (by omega) hlen.2.2)
  · have h9 : allLt a.retired.length (fun i => !takenAt a i) = true := allLt_done (by omega) hk.2
    rw [Hn, h9]; rfl
/-- Numbers that rise from one on. -/
def markedI (k : Int) (n : Nat) : List Int := (List.range n).map fun (j : Nat) => k + j
@[simp] theorem markedI_length (k : Int) (n : Nat) : (markedI k n).length = n := by simp [markedI]
theorem markedI_getD {k : Int} {n j : Nat} (h : j < n) : (markedI k n).getD j default = k + j := by
  rw [getD_lt (by simpa using h)]; simp [markedI]
/-- A row of numbers that is given: the key's name is none of the walk's own (those are multiples of 8). -/
@[go_sem] abbrev gI (κ : Nat) (xs : List Int) : Nat × Blk := (κ, .arr true 2 1 (xs.map eI))
@[go_sem] abbrev iT (n : Int) : T := .c (.int .i64 n)
/-- How far marks may go. -/
abbrev mMax : Int := 1000000000000
theorem s_markInt64S (xs : List Int) (k : Int) (h0 : 0 ≤ k) (h1 : k + xs.length ≤ mMax) : SatG Tryz.prog 42 false [.ref 1, iT k] [gI 1 xs] (iT (k + xs.length)) [gI 1 (markedI k xs.length)] := by
  refine satG_walk (fn := Tryz.f42) rfl rfl rfl (Nat.le_of_ble_eq_true rfl) (by simp) fun fr hP hN hdp hb1 hb2 => ?_
  have hE : (envOf fr Tryz.prog).Ok := envOf_ok hP
  have hM := follows_of hP
  have hS : ∀ {draw ops}, statB Tryz.f42.ntmps draw ops = true → statB (envOf fr Tryz.prog).fr.N draw ops = true := fun h => by rw [envOf_fr, hN]; exact h
  simp only [mMax] at h1
  repeat' (first
    | exact True.intro
    | refine ev_seq ?_
    | ((first | refine vgd_go ?_ | refine ev_region hE hM (hS (by decide +kernel)) ?_ | refine ev_if ?_ | refine end_ret hE rfl rfl ?_ | refine end_norm hE rfl rfl ?_ | refine endG_ret [] hE rfl ?_ | refine endG_norm [] hE rfl ?_ | refine vcall_A ?_); simp (maxSteps := 2000000) only [go_sem, hP, ↓reduceIte, Nat.reduceAdd, Nat.reduceMul, Nat.reduceEqDiff, Nat.reduceSub, Nat.reduceLeDiff, reduceCtorEq])
    | refine ev_skip ?_ | refine ev_block ?_ | refine ev_blk ?_ | refine ev_ret ?_ | refine ev_exit ?_ | refine evx_code_ret ?_ | refine evx_blk_ret ?_ | refine evx_lp_ret ?_
    | refine evx_code_exit ?_ | refine evx_lp_exit ?_ | refine evx_blk_hit ?_ | refine evx_blk_pass (by decide) ?_
    | refine And.intro ?_ ?_ | intro _ | decide +kernel | omega)
  refine ev_loop (ι := Nat) (fun j => [(0, .ref 1), (1, iT (k + j)), (5, iT j)]) (fun j => [gI 1 (mixF (fun i => k + i) xs j)]) (fun _ => [(0, .ref 1)]) (fun j => j ≤ xs.length) (fun j => xs.length - j) 0 [] (by omega) (by simp only [go_sem, hP, ↓reduceIte, Nat.reduceAdd, Nat.reduceMul, Nat.reduceEqDiff, Nat.reduceSub, Nat.reduceLeDiff, reduceCtorEq]; simp) ?_
  intro j hj
  have hw : j < xs.length → IntKind.i64.wrap (k + j + 1) = k + j + 1 := fun h => i64_in _ (by omega)
  repeat' (first
    | exact True.intro
    | refine ev_seq ?_
    | ((first | refine vgd_go ?_ | refine ev_region hE hM (hS (by decide +kernel)) ?_ | refine ev_if ?_ | refine end_ret hE rfl rfl ?_ | refine end_norm hE rfl rfl ?_ | refine endG_ret [] hE rfl ?_ | refine endG_norm [] hE rfl ?_ | refine vcall_A ?_); simp (maxSteps := 2000000) only [go_sem, hP, ↓reduceIte, Nat.reduceAdd, Nat.reduceMul, Nat.reduceEqDiff, Nat.reduceSub, Nat.reduceLeDiff, reduceCtorEq, mixF_length])
    | refine ev_skip ?_ | refine ev_block ?_ | refine ev_blk ?_ | refine ev_ret ?_ | refine ev_exit ?_ | refine evx_code_ret ?_ | refine evx_blk_ret ?_ | refine evx_lp_ret ?_
    | refine evx_code_exit ?_ | refine evx_lp_exit ?_ | refine evx_blk_hit ?_ | refine evx_blk_pass (by decide) ?_
    | refine And.intro ?_ ?_ | intro _ | decide +kernel | omega)
  · rename_i h
    exact ev_lp (j + 1) [] (by omega) (by omega) (by simp only [go_sem, hP, ↓reduceIte, Nat.reduceAdd, Nat.reduceMul, Nat.reduceEqDiff, Nat.reduceSub, Nat.reduceLeDiff, reduceCtorEq]; simp [hw (by omega)]; exact ⟨⟨by omega, i64_in _ (by omega)⟩, mixF_set_map (by omega)⟩)
  · obtain rfl : j = xs.length := by omega
    simp [markedI, mixF_full]
theorem s_heldInt64S (n : Nat) (k : Int) (h0 : 0 ≤ k) (h1 : k + n ≤ mMax) : Sat Tryz.prog 91 [aL (markedI k n), aI k] true (rI (k + n)) := by
  refine sat_walk (fn := Tryz.f91) rfl rfl rfl (Nat.le_of_ble_eq_true rfl) fun fr hP hN hbnd => ?_
  have hE : (envOf fr Tryz.prog).Ok := envOf_ok hP
  have hM := follows_of hP
  have hS : ∀ {draw ops}, statB Tryz.f91.ntmps draw ops = true → statB (envOf fr Tryz.prog).fr.N draw ops = true := fun h => by rw [envOf_fr, hN]; exact h
  simp only [mMax] at h1
  repeat' (first
    | exact True.intro
    | refine ev_seq ?_
    | ((first | refine vgd_go ?_ | refine ev_region hE hM (hS (by decide +kernel)) ?_ | refine ev_if ?_ | refine end_ret hE rfl rfl ?_ | refine end_norm hE rfl rfl ?_ | refine endG_ret [] hE rfl ?_ | refine endG_norm [] hE rfl ?_ | refine vcall_A ?_); simp (maxSteps := 2000000) only [go_sem, hP, ↓reduceIte, Nat.reduceAdd, Nat.reduceMul, Nat.reduceEqDiff, Nat.reduceSub, Nat.reduceLeDiff, reduceCtorEq])
    | refine ev_skip ?_ | refine ev_block ?_ | refine ev_blk ?_ | refine ev_ret ?_ | refine ev_exit ?_ | refine evx_code_ret ?_ | refine evx_blk_ret ?_ | refine evx_lp_ret ?_
    | refine evx_code_exit ?_ | refine evx_lp_exit ?_ | refine evx_blk_hit ?_ | refine evx_blk_pass (by decide) ?_
    | refine And.intro ?_ ?_ | intro _ | decide +kernel | omega)
  refine ev_loop (ι := Nat) (fun j => [(0, .c (sI (markedI k n))), (1, iT (k + j)), (5, iT j)]) (fun j => []) (fun _ => []) (fun j => j ≤ n) (fun j => n - j) 0 [] (by omega) (by simp only [go_sem, hP, ↓reduceIte, Nat.reduceAdd, Nat.reduceMul, Nat.reduceEqDiff, Nat.reduceSub, Nat.reduceLeDiff, reduceCtorEq]; simp) ?_
  intro j hj
  have hw : j < n → IntKind.i64.wrap (k + j + 1) = k + j + 1 := fun h => i64_in _ (by omega)
  have hg : j < n → (markedI k n).getD j default = k + j := fun h => markedI_getD h
  repeat' (first
    | exact True.intro
    | refine ev_seq ?_
    | ((first | refine vgd_go ?_ | refine ev_region hE hM (hS (by decide +kernel)) ?_ | refine ev_if ?_ | refine end_ret hE rfl rfl ?_ | refine end_norm hE rfl rfl ?_ | refine endG_ret [] hE rfl ?_ | refine endG_norm [] hE rfl ?_ | refine vcall_A ?_); simp (maxSteps := 2000000) only [go_sem, hP, ↓reduceIte, Nat.reduceAdd, Nat.reduceMul, Nat.reduceEqDiff, Nat.reduceSub, Nat.reduceLeDiff, reduceCtorEq, markedI_length])
    | refine ev_skip ?_ | refine ev_block ?_ | refine ev_blk ?_ | refine ev_ret ?_ | refine ev_exit ?_ | refine evx_code_ret ?_ | refine evx_blk_ret ?_ | refine evx_lp_ret ?_
    | refine evx_code_exit ?_ | refine evx_lp_exit ?_ | refine evx_blk_hit ?_ | refine evx_blk_pass (by decide) ?_
    | refine And.intro ?_ ?_ | intro _ | decide +kernel | omega)
  · rename_i h1 h2
    simp only [bne_iff_ne, ne_eq] at h2; exact absurd (hg (by omega)) h2
  · rename_i h1 h2
    exact ev_lp (j + 1) [] (by omega) (by omega) (by simp only [go_sem, hP, ↓reduceIte, Nat.reduceAdd, Nat.reduceMul, Nat.reduceEqDiff, Nat.reduceSub, Nat.reduceLeDiff, reduceCtorEq]; simp [hw (by omega)]; exact ⟨by omega, i64_in _ (by omega)⟩)
def markedR (k : Int) (r : Rect) : Rect := ⟨markedI k r.low.length, markedI (k + r.low.length) r.high.length⟩
theorem markedR_w (k : Int) (r : Rect) : wR (markedR k r) = wR r := by simp [markedR, wR]
@[go_sem] abbrev tR (a b : Nat) : T := .agg [.ref a, .ref b]
@[go_sem] abbrev gR (a b : Nat) (r : Rect) : List (Nat × Blk) := [gI a r.low, gI b r.high]
theorem s_l1Ints (xs : List Int) (hx : xs.length ≤ 1048576) : Sat Tryz.prog 79 [aL xs] true (rL xs) := by
  refine sat_walk (fn := Tryz.f79) rfl rfl rfl (Nat.le_of_ble_eq_true rfl) fun fr hP hN hbnd => ?_
  have hE : (envOf fr Tryz.prog).Ok := envOf_ok hP
  have hM := follows_of hP
  have hS : ∀ {draw ops}, statB Tryz.f79.ntmps draw ops = true → statB (envOf fr Tryz.prog).fr.N draw ops = true := fun h => by rw [envOf_fr, hN]; exact h
  have hlen := bndL hbnd
  repeat' (first
    | exact True.intro
    | refine ev_seq ?_
    | ((first | refine vgd_go ?_ | refine ev_region hE hM (hS (by decide +kernel)) ?_ | refine ev_if ?_ | refine end_ret hE rfl rfl ?_ | refine end_norm hE rfl rfl ?_ | refine endG_ret [] hE rfl ?_ | refine endG_norm [] hE rfl ?_ | refine vcall_A ?_); simp (maxSteps := 2000000) only [go_sem, hP, ↓reduceIte, Nat.reduceAdd, Nat.reduceMul, Nat.reduceEqDiff, Nat.reduceSub, Nat.reduceLeDiff, reduceCtorEq, Bool.and_self])
    | refine ev_skip ?_ | refine ev_block ?_ | refine ev_blk ?_ | refine ev_ret ?_ | refine ev_exit ?_ | refine evx_code_ret ?_ | refine evx_blk_ret ?_ | refine evx_lp_ret ?_
    | refine evx_code_exit ?_ | refine evx_lp_exit ?_ | refine evx_blk_hit ?_ | refine evx_blk_pass (by decide) ?_
    | refine And.intro ?_ ?_ | intro _ | decide +kernel | omega)
  all_goals (simp_all; done)
theorem s_l1Copy (r : Rect) (h1 : r.low.length ≤ 1048576) (h2 : r.high.length ≤ 1048576) : Sat Tryz.prog 95 [pR r] true (rR r) := by
  refine sat_walk (fn := Tryz.f95) rfl rfl rfl (Nat.le_of_ble_eq_true rfl) fun fr hP hN hbnd => ?_
  have hE : (envOf fr Tryz.prog).Ok := envOf_ok hP
  have hM := follows_of hP
  have hS : ∀ {draw ops}, statB Tryz.f95.ntmps draw ops = true → statB (envOf fr Tryz.prog).fr.N draw ops = true := fun h => by rw [envOf_fr, hN]; exact h
  repeat' (first
    | exact True.intro
    | refine ev_seq ?_
    | ((first | refine vgd_go ?_ | refine ev_region hE hM (hS (by decide +kernel)) ?_ | refine ev_if ?_ | refine end_ret hE rfl rfl ?_ | refine end_norm hE rfl rfl ?_ | refine endG_ret [] hE rfl ?_ | refine endG_norm [] hE rfl ?_ | refine vcallB_of hP (s_l1Ints _ h1) ?_ | refine vcallB_of hP (s_l1Ints _ h2) ?_ | refine vcall_A ?_); simp (maxSteps := 2000000) only [go_sem, hP, ↓reduceIte, Nat.reduceAdd, Nat.reduceMul, Nat.reduceEqDiff, Nat.reduceSub, Nat.reduceLeDiff, reduceCtorEq])
    | refine ev_skip ?_ | refine ev_block ?_ | refine ev_blk ?_ | refine ev_ret ?_ | refine ev_exit ?_ | refine evx_code_ret ?_ | refine evx_blk_ret ?_ | refine evx_lp_ret ?_
    | refine evx_code_exit ?_ | refine evx_lp_exit ?_ | refine evx_blk_hit ?_ | refine evx_blk_pass (by decide) ?_
    | refine And.intro ?_ ?_ | intro _ | decide +kernel | omega)
/-- How far the marks are, ahead of the j-th element; the first elements, marked. -/
def kS {α : Type} (w : α → Nat) (k : Int) (xs : List α) (j : Nat) : Int := k + sumW w (xs.take j)
def preS {α : Type} [Inhabited α] (f : Int → α → α) (w : α → Nat) (k : Int) (xs : List α) (j : Nat) : List α := (List.range j).map fun i => f (kS w k xs i) (xs.getD i default)
section
variable {α : Type} [Inhabited α] {f : Int → α → α} {w : α → Nat} {k : Int} {xs : List α} {j : Nat}
@[simp] theorem preS_length : (preS f w k xs j).length = j := by simp [preS]
theorem preS_zero : preS f w k xs 0 = [] := rfl
theorem preS_succ : preS f w k xs (j + 1) = preS f w k xs j ++ [f (kS w k xs j) (xs.getD j default)] := by simp [preS, List.range_succ]
theorem preS_getD {n : Nat} (h : j < n) : (preS f w k xs n).getD j default = f (kS w k xs j) (xs.getD j default) := by
  rw [getD_lt (by simpa using h)]; simp [preS]
theorem kS_zero : kS w k xs 0 = k := by simp [kS, sumW]
theorem kS_succ (h : j < xs.length) : kS w k xs (j + 1) = kS w k xs j + w (xs.getD j default) := by
  have := sumW_step (w := w) (d := default) h
  simp only [kS, this]; omega
theorem kS_le (j : Nat) : kS w k xs j ≤ k + sumW w xs := by
  have := sumW_le (w := w) (xs := xs) j
  simp only [kS]; omega
theorem kS_ge (j : Nat) : k ≤ kS w k xs j := by simp only [kS]; omega
theorem kS_done : kS w k xs xs.length = k + sumW w xs := by simp [kS]
theorem drop_map {β : Type} {g : α → β} (h : j < xs.length) : (xs.drop j).map g = g (xs.getD j default) :: (xs.drop (j + 1)).map g := by
  rw [List.drop_eq_getElem_cons h, getD_lt h]; rfl
end
def mwEntry (e : Entry) : Nat := wR e.rect + 2
def mkEntry (k : Int) (e : Entry) : Entry := ⟨markedR k e.rect, k + e.rect.low.length + e.rect.high.length, k + e.rect.low.length + e.rect.high.length + 1⟩
def markedEs (k : Int) (xs : List Entry) : List Entry := preS mkEntry mwEntry k xs xs.length
@[go_sem] abbrev gEs (κ : Nat) (xs : List Entry) : Nat × Blk := (κ, .arr true 112 4 (xs.map oEntry))
theorem s_markEntryS (xs : List Entry) (k : Int) (h0 : 0 ≤ k) (h1 : k + sumW mwEntry xs ≤ mMax) : SatG Tryz.prog 54 true [.ref 1, iT k] [gEs 1 xs] (iT (k + sumW mwEntry xs)) [gEs 1 (markedEs k xs)] := by
  refine satG_walk (fn := Tryz.f54) rfl rfl rfl (Nat.le_of_ble_eq_true rfl) (by simp) fun fr hP hN hdp hb1 hb2 => ?_
  have hE : (envOf fr Tryz.prog).Ok := envOf_ok hP
  have hM := follows_of hP
  have hS : ∀ {draw ops}, statB Tryz.f54.ntmps draw ops = true → statB (envOf fr Tryz.prog).fr.N draw ops = true := fun h => by rw [envOf_fr, hN]; exact h
  simp only [mMax] at h1
  have hY : ∀ b, (envOf fr Tryz.prog).fr.Y b → (envOf fr Tryz.prog).fr.X b := fun b hb => hdp rfl b hb
  have hlen : xs.length ≤ maxLen := by have := hb2.1.1; simpa using this
  repeat' (first
    | exact True.intro
    | refine ev_seq ?_
    | ((first | refine vgd_go ?_ | refine ev_region hE hM (hS (by decide +kernel)) ?_ | refine ev_if ?_ | refine end_ret hE rfl rfl ?_ | refine end_norm hE rfl rfl ?_ | refine endG_ret [] hE rfl ?_ | refine endG_norm [] hE rfl ?_ | refine vcall_A ?_); simp (maxSteps := 2000000) only [go_sem, hP, ↓reduceIte, Nat.reduceAdd, Nat.reduceMul, Nat.reduceEqDiff, Nat.reduceSub, Nat.reduceLeDiff, reduceCtorEq])
    | refine ev_skip ?_ | refine ev_block ?_ | refine ev_blk ?_ | refine ev_ret ?_ | refine ev_exit ?_ | refine evx_code_ret ?_ | refine evx_blk_ret ?_ | refine evx_lp_ret ?_
    | refine evx_code_exit ?_ | refine evx_lp_exit ?_ | refine evx_blk_hit ?_ | refine evx_blk_pass (by decide) ?_
    | refine And.intro ?_ ?_ | intro _ | decide +kernel | omega)
  refine ev_loop (ι := Nat) (fun j => [(0, .ref 1), (1, iT (kS mwEntry k xs j)), (5, iT j)]) (fun j => [(1, .arr true 112 4 ((preS mkEntry mwEntry k xs j).map oEntry ++ (xs.drop j).map oEntry))]) (fun _ => [(0, .ref 1)]) (fun j => j ≤ xs.length) (fun j => xs.length - j) 0 [] (by omega) (by simp only [go_sem, hP, ↓reduceIte, Nat.reduceAdd, Nat.reduceMul, Nat.reduceEqDiff, Nat.reduceSub, Nat.reduceLeDiff, reduceCtorEq]; simp [kS_zero, preS_zero]) ?_
  intro j hj
  have hrow : ((preS mkEntry mwEntry k xs j).map oEntry ++ (xs.drop j).map oEntry).length = xs.length := by simp; omega
  repeat' (first
    | exact True.intro
    | refine ev_seq ?_
    | ((first | refine ev_stop 4 ?_ | refine vgd_go ?_ | refine ev_region hE hM (hS (by decide +kernel)) ?_ | refine ev_if ?_ | refine end_ret hE rfl rfl ?_ | refine end_norm hE rfl rfl ?_ | refine endG_ret [] hE rfl ?_ | refine endG_norm [] hE rfl ?_ | refine vcall_A ?_); simp (maxSteps := 2000000) only [go_sem, hP, ↓reduceIte, Nat.reduceAdd, Nat.reduceMul, Nat.reduceEqDiff, Nat.reduceSub, Nat.reduceLeDiff, reduceCtorEq, hrow])
    | refine ev_skip ?_ | refine ev_block ?_ | refine ev_blk ?_ | refine ev_ret ?_ | refine ev_exit ?_ | refine evx_code_ret ?_ | refine evx_blk_ret ?_ | refine evx_lp_ret ?_
    | refine evx_code_exit ?_ | refine evx_lp_exit ?_ | refine evx_blk_hit ?_ | refine evx_blk_pass (by decide) ?_
    | refine And.intro ?_ ?_ | intro _ | decide +kernel | omega)
  · rename_i hlt
    have hlt' : j < xs.length := by omega
    have g1 := kS_le (w := mwEntry) (k := k) (xs := xs) (j + 1)
    have g2 := kS_succ (w := mwEntry) (k := k) hlt'
    have g3 := kS_ge (w := mwEntry) (k := k) (xs := xs) j
    have g4 : mwEntry (xs.getD j default) = (xs.getD j default).rect.low.length + (xs.getD j default).rect.high.length + 2 := rfl
    have g6 : kS mwEntry k xs (j + 1) = kS mwEntry k xs j + (xs.getD j default).rect.low.length + (xs.getD j default).rect.high.length + 1 + 1 := by omega
    have hw1 : IntKind.i64.wrap (kS mwEntry k xs j + (xs.getD j default).rect.low.length + (xs.getD j default).rect.high.length + 1) = kS mwEntry k xs j + (xs.getD j default).rect.low.length + (xs.getD j default).rect.high.length + 1 := i64_in _ (by omega)
    have hw2 : IntKind.i64.wrap (kS mwEntry k xs j + (xs.getD j default).rect.low.length + (xs.getD j default).rect.high.length + 1 + 1) = kS mwEntry k xs j + (xs.getD j default).rect.low.length + (xs.getD j default).rect.high.length + 1 + 1 := i64_in _ (by omega)
    have c1 := s_markInt64S (xs.getD j default).rect.low (kS mwEntry k xs j) (by omega) (by simp only [mMax]; omega)
    have c2 := s_markInt64S (xs.getD j default).rect.high (kS mwEntry k xs j + (xs.getD j default).rect.low.length) (by omega) (by simp only [mMax]; omega)
    first | refine Stop.mk ?_ | skip
    refine ev_cut [(0, .ref 1), (1, iT (kS mwEntry k xs j)), (5, iT j)] [(1, .arr true 112 4 ((preS mkEntry mwEntry k xs j).map oEntry ++ oEntry (xs.getD j default) :: (xs.drop (j + 1)).map oEntry))] [(0, .ref 1)] [] (by simp only [go_sem, hP, ↓reduceIte, Nat.reduceAdd, Nat.reduceMul, Nat.reduceEqDiff, Nat.reduceSub, Nat.reduceLeDiff, reduceCtorEq]; simp [drop_map hlt', oEntry_eq]) ?_
    refine ev_open 1 3 ((preS mkEntry mwEntry k xs j).map oEntry) ((xs.drop (j + 1)).map oEntry) (oEntry (xs.getD j default)) hY rfl (by simp only [go_sem, hP, ↓reduceIte, Nat.reduceAdd, Nat.reduceMul, Nat.reduceEqDiff, Nat.reduceSub, Nat.reduceLeDiff, reduceCtorEq] <;> simp) (by simp only [go_sem, hP, ↓reduceIte, Nat.reduceAdd, Nat.reduceMul, Nat.reduceEqDiff, Nat.reduceSub, Nat.reduceLeDiff, reduceCtorEq] <;> simp) ?_
    repeat' (first
      | exact True.intro
      | refine ev_seq ?_
      | ((first | refine vgd_go ?_ | refine ev_region hE hM (hS (by decide +kernel)) ?_ | refine ev_if ?_ | refine end_ret hE rfl rfl ?_ | refine end_norm hE rfl rfl ?_ | refine endG_ret [] hE rfl ?_ | refine endG_norm [] hE rfl ?_ | refine vcallG_of (args := [.ref 3, _]) [(1, 3)] [] hP c1 ?_ | refine vcallG_of (args := [.ref 1048579, _]) [(1, 1048579)] [] hP c2 ?_ | refine vcall_A ?_); simp (maxSteps := 2000000) only [go_sem, hP, ↓reduceIte, Nat.reduceAdd, Nat.reduceMul, Nat.reduceEqDiff, Nat.reduceSub, Nat.reduceLeDiff, reduceCtorEq, hw1, hw2, List.length_map, preS_length, List.length_drop])
      | refine ev_skip ?_ | refine ev_block ?_ | refine ev_blk ?_ | refine ev_ret ?_ | refine ev_exit ?_ | refine evx_code_ret ?_ | refine evx_blk_ret ?_ | refine evx_lp_ret ?_
      | refine evx_code_exit ?_ | refine evx_lp_exit ?_ | refine evx_blk_hit ?_ | refine evx_blk_pass (by decide) ?_
      | refine And.intro ?_ ?_ | intro _ | decide +kernel | omega)
    refine ev_cut [(0, .ref 1), (1, iT (kS mwEntry k xs (j + 1))), (5, iT (j + 1 : Nat))] [(1, .opn 112 4 ((preS mkEntry mwEntry k xs j).map oEntry) [.ref 3, .ref 1048579, iT (kS mwEntry k xs j + (xs.getD j default).rect.low.length + (xs.getD j default).rect.high.length), iT (kS mwEntry k xs j + (xs.getD j default).rect.low.length + (xs.getD j default).rect.high.length + 1)] ((xs.drop (j + 1)).map oEntry)), gI 3 (markedI (kS mwEntry k xs j) (xs.getD j default).rect.low.length), gI 1048579 (markedI (kS mwEntry k xs j + (xs.getD j default).rect.low.length) (xs.getD j default).rect.high.length)] [(0, .ref 1)] [] (by simp only [go_sem, hP, ↓reduceIte, Nat.reduceAdd, Nat.reduceMul, Nat.reduceEqDiff, Nat.reduceSub, Nat.reduceLeDiff, reduceCtorEq]; simp [g6, wrap_nat hlt' hlen]) ?_
    refine ev_close 1 [(0, 0), (0, 0), (0, 0), (0, 0)] (oEntry (mkEntry (kS mwEntry k xs j) (xs.getD j default))) [3, 1048579] rfl rfl (by decide) (by decide) ?_
    exact ev_lp (j + 1) [] (by omega) (by omega) (by simp only [go_sem, hP, ↓reduceIte, Nat.reduceAdd, Nat.reduceMul, Nat.reduceEqDiff, Nat.reduceSub, Nat.reduceLeDiff, reduceCtorEq]; simp [preS_succ, oEntry_eq])
  · obtain rfl : j = xs.length := by omega
    exact kS_done
  · obtain rfl : j = xs.length := by omega
    simp [markedEs]
theorem s_heldEntryS (xs : List Entry) (k : Int) (h0 : 0 ≤ k) (h1 : k + sumW mwEntry xs ≤ mMax) : Sat Tryz.prog 73 [aEntryS (markedEs k xs), aI k] true (rI (k + sumW mwEntry xs)) := by
  refine sat_walk (fn := Tryz.f73) rfl rfl rfl (Nat.le_of_ble_eq_true rfl) fun fr hP hN hbnd => ?_
  have hE : (envOf fr Tryz.prog).Ok := envOf_ok hP
  have hM := follows_of hP
  have hS : ∀ {draw ops}, statB Tryz.f73.ntmps draw ops = true → statB (envOf fr Tryz.prog).fr.N draw ops = true := fun h => by rw [envOf_fr, hN]; exact h
  simp only [mMax] at h1
  have hlen := bnd_EntryS hbnd
  have hl : (markedEs k xs).length = xs.length := by simp [markedEs]
  repeat' (first
    | exact True.intro
    | refine ev_seq ?_
    | ((first | refine vgd_go ?_ | refine ev_region hE hM (hS (by decide +kernel)) ?_ | refine ev_if ?_ | refine end_ret hE rfl rfl ?_ | refine end_norm hE rfl rfl ?_ | refine endG_ret [] hE rfl ?_ | refine endG_norm [] hE rfl ?_ | refine vcall_A ?_); simp (maxSteps := 2000000) only [go_sem, hP, ↓reduceIte, Nat.reduceAdd, Nat.reduceMul, Nat.reduceEqDiff, Nat.reduceSub, Nat.reduceLeDiff, reduceCtorEq])
    | refine ev_skip ?_ | refine ev_block ?_ | refine ev_blk ?_ | refine ev_ret ?_ | refine ev_exit ?_ | refine evx_code_ret ?_ | refine evx_blk_ret ?_ | refine evx_lp_ret ?_
    | refine evx_code_exit ?_ | refine evx_lp_exit ?_ | refine evx_blk_hit ?_ | refine evx_blk_pass (by decide) ?_
    | refine And.intro ?_ ?_ | intro _ | decide +kernel | omega)
  refine ev_loop (ι := Nat) (fun j => [(0, .c (sEntryS (markedEs k xs))), (1, iT (kS mwEntry k xs j)), (5, iT j)]) (fun j => []) (fun _ => []) (fun j => j ≤ xs.length) (fun j => xs.length - j) 0 [] (by omega) (by simp only [go_sem, hP, ↓reduceIte, Nat.reduceAdd, Nat.reduceMul, Nat.reduceEqDiff, Nat.reduceSub, Nat.reduceLeDiff, reduceCtorEq]; simp [kS_zero]) ?_
  intro j hj
  by_cases hlt' : j < xs.length
  · have g0 : (markedEs k xs).getD j default = mkEntry (kS mwEntry k xs j) (xs.getD j default) := preS_getD hlt'
    have g1 := kS_le (w := mwEntry) (k := k) (xs := xs) (j + 1)
    have g2 := kS_succ (w := mwEntry) (k := k) hlt'
    have g3 := kS_ge (w := mwEntry) (k := k) (xs := xs) j
    have g4 : mwEntry (xs.getD j default) = (xs.getD j default).rect.low.length + (xs.getD j default).rect.high.length + 2 := rfl
    have g6 : kS mwEntry k xs (j + 1) = kS mwEntry k xs j + (xs.getD j default).rect.low.length + (xs.getD j default).rect.high.length + 1 + 1 := by omega
    have g5 : wR (xs.getD j default).rect = (xs.getD j default).rect.low.length + (xs.getD j default).rect.high.length := rfl
    have hw1 : IntKind.i64.wrap (kS mwEntry k xs j + (xs.getD j default).rect.low.length + (xs.getD j default).rect.high.length + 1) = kS mwEntry k xs j + (xs.getD j default).rect.low.length + (xs.getD j default).rect.high.length + 1 := i64_in _ (by omega)
    have hw2 : IntKind.i64.wrap (kS mwEntry k xs j + (xs.getD j default).rect.low.length + (xs.getD j default).rect.high.length + 1 + 1) = kS mwEntry k xs j + (xs.getD j default).rect.low.length + (xs.getD j default).rect.high.length + 1 + 1 := i64_in _ (by omega)
    have c1 := s_heldInt64S (xs.getD j default).rect.low.length (kS mwEntry k xs j) (by omega) (by simp only [mMax]; omega)
    have c2 := s_heldInt64S (xs.getD j default).rect.high.length (kS mwEntry k xs j + (xs.getD j default).rect.low.length) (by omega) (by simp only [mMax]; omega)
    repeat' (first
      | exact True.intro
      | refine ev_seq ?_
      | ((first | refine vgd_go ?_ | refine ev_region hE hM (hS (by decide +kernel)) ?_ | refine ev_if ?_ | refine end_ret hE rfl rfl ?_ | refine end_norm hE rfl rfl ?_ | refine endG_ret [] hE rfl ?_ | refine endG_norm [] hE rfl ?_ | refine vcallB_of hP c1 ?_ | refine vcallB_of hP c2 ?_ | refine vcall_A ?_); simp (maxSteps := 2000000) only [go_sem, hP, ↓reduceIte, Nat.reduceAdd, Nat.reduceMul, Nat.reduceEqDiff, Nat.reduceSub, Nat.reduceLeDiff, reduceCtorEq, g0, mkEntry, markedI_length, markedR, hl, hw1, hw2])
      | refine ev_skip ?_ | refine ev_block ?_ | refine ev_blk ?_ | refine ev_ret ?_ | refine ev_exit ?_ | refine evx_code_ret ?_ | refine evx_blk_ret ?_ | refine evx_lp_ret ?_
      | refine evx_code_exit ?_ | refine evx_lp_exit ?_ | refine evx_blk_hit ?_ | refine evx_blk_pass (by decide) ?_
      | refine And.intro ?_ ?_ | intro _ | decide +kernel | omega)
    all_goals first
      | exact ev_lp (j + 1) [] (by omega) (by omega) (by simp only [go_sem, hP, ↓reduceIte, Nat.reduceAdd, Nat.reduceMul, Nat.reduceEqDiff, Nat.reduceSub, Nat.reduceLeDiff, reduceCtorEq]; simp [g6, wrap_nat hlt' (by omega : xs.length ≤ maxLen)])
      | (exfalso; simp_all [bne_iff_ne] <;> omega)
  · obtain rfl : j = xs.length := by omega
    repeat' (first
      | exact True.intro
      | refine ev_seq ?_
      | ((first | refine vgd_go ?_ | refine ev_region hE hM (hS (by decide +kernel)) ?_ | refine ev_if ?_ | refine end_ret hE rfl rfl ?_ | refine end_norm hE rfl rfl ?_ | refine endG_ret [] hE rfl ?_ | refine endG_norm [] hE rfl ?_ | refine vcall_A ?_); simp (maxSteps := 2000000) only [go_sem, hP, ↓reduceIte, Nat.reduceAdd, Nat.reduceMul, Nat.reduceEqDiff, Nat.reduceSub, Nat.reduceLeDiff, reduceCtorEq, hl])
      | refine ev_skip ?_ | refine ev_block ?_ | refine ev_blk ?_ | refine ev_ret ?_ | refine ev_exit ?_ | refine evx_code_ret ?_ | refine evx_blk_ret ?_ | refine evx_lp_ret ?_
      | refine evx_code_exit ?_ | refine evx_lp_exit ?_ | refine evx_blk_hit ?_ | refine evx_blk_pass (by decide) ?_
      | refine And.intro ?_ ?_ | intro _ | decide +kernel | omega)
    all_goals first
      | exact kS_done
      | (exfalso; omega)
def mwRetired (r : Retired) : Nat := r.watch.length + 1
def mkRetired (k : Int) (r : Retired) : Retired := ⟨k, markedI (k + 1) r.watch.length⟩
def markedRets (k : Int) (xs : List Retired) : List Retired := preS mkRetired mwRetired k xs xs.length
@[go_sem] abbrev gRets (κ : Nat) (xs : List Retired) : Nat × Blk := (κ, .arr true 93 2 (xs.map oRetired))
def mwNode (n : Node) : Nat := sumW mwEntry n.entries + 3
def mkNode (k : Int) (n : Node) : Node := ⟨k, k + 1, k + 1 + 1, markedEs (k + 1 + 1 + 1) n.entries⟩
def markedNs (k : Int) (xs : List Node) : List Node := preS mkNode mwNode k xs xs.length
@[go_sem] abbrev gNs (κ : Nat) (xs : List Node) : Nat × Blk := (κ, .arr true 30 4 (xs.map oNode))
theorem s_markRetiredS (xs : List Retired) (k : Int) (h0 : 0 ≤ k) (h1 : k + sumW mwRetired xs ≤ mMax) : SatG Tryz.prog 43 true [.ref 1, iT k] [gRets 1 xs] (iT (k + sumW mwRetired xs)) [gRets 1 (markedRets k xs)] := by
  refine satG_walk (fn := Tryz.f43) rfl rfl rfl (Nat.le_of_ble_eq_true rfl) (by simp) fun fr hP hN hdp hb1 hb2 => ?_
  have hE : (envOf fr Tryz.prog).Ok := envOf_ok hP
  have hM := follows_of hP
  have hS : ∀ {draw ops}, statB Tryz.f43.ntmps draw ops = true → statB (envOf fr Tryz.prog).fr.N draw ops = true := fun h => by rw [envOf_fr, hN]; exact h
  simp only [mMax] at h1
  have hY : ∀ b, (envOf fr Tryz.prog).fr.Y b → (envOf fr Tryz.prog).fr.X b := fun b hb => hdp rfl b hb
  have hlen : xs.length ≤ maxLen := by have := hb2.1.1; simpa using this
  repeat' (first
    | exact True.intro
    | refine ev_seq ?_
    | ((first | refine vgd_go ?_ | refine ev_region hE hM (hS (by decide +kernel)) ?_ | refine ev_if ?_ | refine end_ret hE rfl rfl ?_ | refine end_norm hE rfl rfl ?_ | refine endG_ret [] hE rfl ?_ | refine endG_norm [] hE rfl ?_ | refine vcall_A ?_); simp (maxSteps := 2000000) only [go_sem, hP, ↓reduceIte, Nat.reduceAdd, Nat.reduceMul, Nat.reduceEqDiff, Nat.reduceSub, Nat.reduceLeDiff, reduceCtorEq])
    | refine ev_skip ?_ | refine ev_block ?_ | refine ev_blk ?_ | refine ev_ret ?_ | refine ev_exit ?_ | refine evx_code_ret ?_ | refine evx_blk_ret ?_ | refine evx_lp_ret ?_
    | refine evx_code_exit ?_ | refine evx_lp_exit ?_ | refine evx_blk_hit ?_ | refine evx_blk_pass (by decide) ?_
    | refine And.intro ?_ ?_ | intro _ | decide +kernel | omega)
  refine ev_loop (ι := Nat) (fun j => [(0, .ref 1), (1, iT (kS mwRetired k xs j)), (5, iT j)]) (fun j => [(1, .arr true 93 2 ((preS mkRetired mwRetired k xs j).map oRetired ++ (xs.drop j).map oRetired))]) (fun _ => [(0, .ref 1)]) (fun j => j ≤ xs.length) (fun j => xs.length - j) 0 [] (by omega) (by simp only [go_sem, hP, ↓reduceIte, Nat.reduceAdd, Nat.reduceMul, Nat.reduceEqDiff, Nat.reduceSub, Nat.reduceLeDiff, reduceCtorEq]; simp [kS_zero, preS_zero]) ?_
  intro j hj
  have hrow : ((preS mkRetired mwRetired k xs j).map oRetired ++ (xs.drop j).map oRetired).length = xs.length := by simp; omega
  repeat' (first
    | exact True.intro
    | refine ev_seq ?_
    | ((first | refine ev_stop 4 ?_ | refine vgd_go ?_ | refine ev_region hE hM (hS (by decide +kernel)) ?_ | refine ev_if ?_ | refine end_ret hE rfl rfl ?_ | refine end_norm hE rfl rfl ?_ | refine endG_ret [] hE rfl ?_ | refine endG_norm [] hE rfl ?_ | refine vcall_A ?_); simp (maxSteps := 2000000) only [go_sem, hP, ↓reduceIte, Nat.reduceAdd, Nat.reduceMul, Nat.reduceEqDiff, Nat.reduceSub, Nat.reduceLeDiff, reduceCtorEq, hrow])
    | refine ev_skip ?_ | refine ev_block ?_ | refine ev_blk ?_ | refine ev_ret ?_ | refine ev_exit ?_ | refine evx_code_ret ?_ | refine evx_blk_ret ?_ | refine evx_lp_ret ?_
    | refine evx_code_exit ?_ | refine evx_lp_exit ?_ | refine evx_blk_hit ?_ | refine evx_blk_pass (by decide) ?_
    | refine And.intro ?_ ?_ | intro _ | decide +kernel | omega)
  · rename_i hlt
    have hlt' : j < xs.length := by omega
    have g1 := kS_le (w := mwRetired) (k := k) (xs := xs) (j + 1)
    have g2 := kS_succ (w := mwRetired) (k := k) hlt'
    have g3 := kS_ge (w := mwRetired) (k := k) (xs := xs) j
    have g4 : mwRetired (xs.getD j default) = (xs.getD j default).watch.length + 1 := rfl
    have g6 : kS mwRetired k xs (j + 1) = kS mwRetired k xs j + 1 + (xs.getD j default).watch.length := by omega
    have hw1 : IntKind.i64.wrap (kS mwRetired k xs j + 1) = kS mwRetired k xs j + 1 := i64_in _ (by omega)
    have c1 := s_markInt64S (xs.getD j default).watch (kS mwRetired k xs j + 1) (by omega) (by simp only [mMax]; omega)
    first | refine Stop.mk ?_ | skip
    refine ev_cut [(0, .ref 1), (1, iT (kS mwRetired k xs j)), (5, iT j)] [(1, .arr true 93 2 ((preS mkRetired mwRetired k xs j).map oRetired ++ oRetired (xs.getD j default) :: (xs.drop (j + 1)).map oRetired))] [(0, .ref 1)] [] (by simp only [go_sem, hP, ↓reduceIte, Nat.reduceAdd, Nat.reduceMul, Nat.reduceEqDiff, Nat.reduceSub, Nat.reduceLeDiff, reduceCtorEq]; simp [drop_map hlt', oRetired_eq]) ?_
    refine ev_open 1 3 ((preS mkRetired mwRetired k xs j).map oRetired) ((xs.drop (j + 1)).map oRetired) (oRetired (xs.getD j default)) hY rfl (by simp only [go_sem, hP, ↓reduceIte, Nat.reduceAdd, Nat.reduceMul, Nat.reduceEqDiff, Nat.reduceSub, Nat.reduceLeDiff, reduceCtorEq] <;> simp) (by simp only [go_sem, hP, ↓reduceIte, Nat.reduceAdd, Nat.reduceMul, Nat.reduceEqDiff, Nat.reduceSub, Nat.reduceLeDiff, reduceCtorEq] <;> simp) ?_
    repeat' (first
      | exact True.intro
      | refine ev_seq ?_
      | ((first | refine vgd_go ?_ | refine ev_region hE hM (hS (by decide +kernel)) ?_ | refine ev_if ?_ | refine end_ret hE rfl rfl ?_ | refine end_norm hE rfl rfl ?_ | refine endG_ret [] hE rfl ?_ | refine endG_norm [] hE rfl ?_ | refine vcallG_of (args := [.ref 1048579, _]) [(1, 1048579)] [] hP c1 ?_ | refine vcall_A ?_); simp (maxSteps := 2000000) only [go_sem, hP, ↓reduceIte, Nat.reduceAdd, Nat.reduceMul, Nat.reduceEqDiff, Nat.reduceSub, Nat.reduceLeDiff, reduceCtorEq, hw1, List.length_map, preS_length, List.length_drop])
      | refine ev_skip ?_ | refine ev_block ?_ | refine ev_blk ?_ | refine ev_ret ?_ | refine ev_exit ?_ | refine evx_code_ret ?_ | refine evx_blk_ret ?_ | refine evx_lp_ret ?_
      | refine evx_code_exit ?_ | refine evx_lp_exit ?_ | refine evx_blk_hit ?_ | refine evx_blk_pass (by decide) ?_
      | refine And.intro ?_ ?_ | intro _ | decide +kernel | omega)
    refine ev_cut [(0, .ref 1), (1, iT (kS mwRetired k xs (j + 1))), (5, iT (j + 1 : Nat))] [(1, .opn 93 2 ((preS mkRetired mwRetired k xs j).map oRetired) [iT (kS mwRetired k xs j), .ref 1048579] ((xs.drop (j + 1)).map oRetired)), gI 1048579 (markedI (kS mwRetired k xs j + 1) (xs.getD j default).watch.length)] [(0, .ref 1)] [] (by simp only [go_sem, hP, ↓reduceIte, Nat.reduceAdd, Nat.reduceMul, Nat.reduceEqDiff, Nat.reduceSub, Nat.reduceLeDiff, reduceCtorEq]; simp [g6, wrap_nat hlt' hlen]) ?_
    refine ev_close 1 [(0, 0), (0, 0)] (oRetired (mkRetired (kS mwRetired k xs j) (xs.getD j default))) [1048579] rfl rfl (by decide) (by decide) ?_
    exact ev_lp (j + 1) [] (by omega) (by omega) (by simp only [go_sem, hP, ↓reduceIte, Nat.reduceAdd, Nat.reduceMul, Nat.reduceEqDiff, Nat.reduceSub, Nat.reduceLeDiff, reduceCtorEq]; simp [preS_succ, oRetired_eq])
  · obtain rfl : j = xs.length := by omega
    exact kS_done
  · obtain rfl : j = xs.length := by omega
    simp [markedRets]
theorem s_markNodeS (xs : List Node) (k : Int) (h0 : 0 ≤ k) (h1 : k + sumW mwNode xs ≤ mMax) : SatG Tryz.prog 41 true [.ref 1, iT k] [gNs 1 xs] (iT (k + sumW mwNode xs)) [gNs 1 (markedNs k xs)] := by
  refine satG_walk (fn := Tryz.f41) rfl rfl rfl (Nat.le_of_ble_eq_true rfl) (by simp) fun fr hP hN hdp hb1 hb2 => ?_
  have hE : (envOf fr Tryz.prog).Ok := envOf_ok hP
  have hM := follows_of hP
  have hS : ∀ {draw ops}, statB Tryz.f41.ntmps draw ops = true → statB (envOf fr Tryz.prog).fr.N draw ops = true := fun h => by rw [envOf_fr, hN]; exact h
  simp only [mMax] at h1
  have hY : ∀ b, (envOf fr Tryz.prog).fr.Y b → (envOf fr Tryz.prog).fr.X b := fun b hb => hdp rfl b hb
  have hlen : xs.length ≤ maxLen := by have := hb2.1.1; simpa using this
  repeat' (first
    | exact True.intro
    | refine ev_seq ?_
    | ((first | refine vgd_go ?_ | refine ev_region hE hM (hS (by decide +kernel)) ?_ | refine ev_if ?_ | refine end_ret hE rfl rfl ?_ | refine end_norm hE rfl rfl ?_ | refine endG_ret [] hE rfl ?_ | refine endG_norm [] hE rfl ?_ | refine vcall_A ?_); simp (maxSteps := 2000000) only [go_sem, hP, ↓reduceIte, Nat.reduceAdd, Nat.reduceMul, Nat.reduceEqDiff, Nat.reduceSub, Nat.reduceLeDiff, reduceCtorEq])
    | refine ev_skip ?_ | refine ev_block ?_ | refine ev_blk ?_ | refine ev_ret ?_ | refine ev_exit ?_ | refine evx_code_ret ?_ | refine evx_blk_ret ?_ | refine evx_lp_ret ?_
    | refine evx_code_exit ?_ | refine evx_lp_exit ?_ | refine evx_blk_hit ?_ | refine evx_blk_pass (by decide) ?_
    | refine And.intro ?_ ?_ | intro _ | decide +kernel | omega)
  refine ev_loop (ι := Nat) (fun j => [(0, .ref 1), (1, iT (kS mwNode k xs j)), (5, iT j)]) (fun j => [(1, .arr true 30 4 ((preS mkNode mwNode k xs j).map oNode ++ (xs.drop j).map oNode))]) (fun _ => [(0, .ref 1)]) (fun j => j ≤ xs.length) (fun j => xs.length - j) 0 [] (by omega) (by simp only [go_sem, hP, ↓reduceIte, Nat.reduceAdd, Nat.reduceMul, Nat.reduceEqDiff, Nat.reduceSub, Nat.reduceLeDiff, reduceCtorEq]; simp [kS_zero, preS_zero]) ?_
  intro j hj
  have hrow : ((preS mkNode mwNode k xs j).map oNode ++ (xs.drop j).map oNode).length = xs.length := by simp; omega
  repeat' (first
    | exact True.intro
    | refine ev_seq ?_
    | ((first | refine ev_stop 4 ?_ | refine vgd_go ?_ | refine ev_region hE hM (hS (by decide +kernel)) ?_ | refine ev_if ?_ | refine end_ret hE rfl rfl ?_ | refine end_norm hE rfl rfl ?_ | refine endG_ret [] hE rfl ?_ | refine endG_norm [] hE rfl ?_ | refine vcall_A ?_); simp (maxSteps := 2000000) only [go_sem, hP, ↓reduceIte, Nat.reduceAdd, Nat.reduceMul, Nat.reduceEqDiff, Nat.reduceSub, Nat.reduceLeDiff, reduceCtorEq, hrow])
    | refine ev_skip ?_ | refine ev_block ?_ | refine ev_blk ?_ | refine ev_ret ?_ | refine ev_exit ?_ | refine evx_code_ret ?_ | refine evx_blk_ret ?_ | refine evx_lp_ret ?_
    | refine evx_code_exit ?_ | refine evx_lp_exit ?_ | refine evx_blk_hit ?_ | refine evx_blk_pass (by decide) ?_
    | refine And.intro ?_ ?_ | intro _ | decide +kernel | omega)
  · rename_i hlt
    have hlt' : j < xs.length := by omega
    have g1 := kS_le (w := mwNode) (k := k) (xs := xs) (j + 1)
    have g2 := kS_succ (w := mwNode) (k := k) hlt'
    have g3 := kS_ge (w := mwNode) (k := k) (xs := xs) j
    have g4 : mwNode (xs.getD j default) = sumW mwEntry (xs.getD j default).entries + 3 := rfl
    have g6 : kS mwNode k xs (j + 1) = kS mwNode k xs j + 1 + 1 + 1 + sumW mwEntry (xs.getD j default).entries := by omega
    have hw1 : IntKind.i64.wrap (kS mwNode k xs j + 1) = kS mwNode k xs j + 1 := i64_in _ (by omega)
    have hw2 : IntKind.i64.wrap (kS mwNode k xs j + 1 + 1) = kS mwNode k xs j + 1 + 1 := i64_in _ (by omega)
    have hw3 : IntKind.i64.wrap (kS mwNode k xs j + 1 + 1 + 1) = kS mwNode k xs j + 1 + 1 + 1 := i64_in _ (by omega)
    have c1 := s_markEntryS (xs.getD j default).entries (kS mwNode k xs j + 1 + 1 + 1) (by omega) (by simp only [mMax]; omega)
    first | refine Stop.mk ?_ | skip
    refine ev_cut [(0, .ref 1), (1, iT (kS mwNode k xs j)), (5, iT j)] [(1, .arr true 30 4 ((preS mkNode mwNode k xs j).map oNode ++ oNode (xs.getD j default) :: (xs.drop (j + 1)).map oNode))] [(0, .ref 1)] [] (by simp only [go_sem, hP, ↓reduceIte, Nat.reduceAdd, Nat.reduceMul, Nat.reduceEqDiff, Nat.reduceSub, Nat.reduceLeDiff, reduceCtorEq]; simp [drop_map hlt', oNode_eq]) ?_
    refine ev_open 1 3 ((preS mkNode mwNode k xs j).map oNode) ((xs.drop (j + 1)).map oNode) (oNode (xs.getD j default)) hY rfl (by simp only [go_sem, hP, ↓reduceIte, Nat.reduceAdd, Nat.reduceMul, Nat.reduceEqDiff, Nat.reduceSub, Nat.reduceLeDiff, reduceCtorEq] <;> simp) (by simp only [go_sem, hP, ↓reduceIte, Nat.reduceAdd, Nat.reduceMul, Nat.reduceEqDiff, Nat.reduceSub, Nat.reduceLeDiff, reduceCtorEq] <;> simp) ?_
    repeat' (first
      | exact True.intro
      | refine ev_seq ?_
      | ((first | refine ev_stop 10 ?_ | refine vgd_go ?_ | refine ev_region hE hM (hS (by decide +kernel)) ?_ | refine ev_if ?_ | refine end_ret hE rfl rfl ?_ | refine end_norm hE rfl rfl ?_ | refine endG_ret [] hE rfl ?_ | refine endG_norm [] hE rfl ?_ | refine vcall_A ?_); simp (maxSteps := 2000000) only [go_sem, hP, ↓reduceIte, Nat.reduceAdd, Nat.reduceMul, Nat.reduceEqDiff, Nat.reduceSub, Nat.reduceLeDiff, reduceCtorEq, hw1, hw2, hw3, List.length_map, preS_length, List.length_drop])
      | refine ev_skip ?_ | refine ev_block ?_ | refine ev_blk ?_ | refine ev_ret ?_ | refine ev_exit ?_ | refine evx_code_ret ?_ | refine evx_blk_ret ?_ | refine evx_lp_ret ?_
      | refine evx_code_exit ?_ | refine evx_lp_exit ?_ | refine evx_blk_hit ?_ | refine evx_blk_pass (by decide) ?_
      | refine And.intro ?_ ?_ | intro _ | decide +kernel | omega)
    first | refine Stop.mk ?_ | skip
    refine ev_cut [(0, .ref 1), (1, iT (kS mwNode k xs j + 1 + 1 + 1)), (5, iT j)] [(1, .opn 30 4 ((preS mkNode mwNode k xs j).map oNode) [iT (kS mwNode k xs j), iT (kS mwNode k xs j + 1), iT (kS mwNode k xs j + 1 + 1), .ref 3145731] ((xs.drop (j + 1)).map oNode)), gEs 3145731 (xs.getD j default).entries] [(0, .ref 1)] [] (by simp only [go_sem, hP, ↓reduceIte, Nat.reduceAdd, Nat.reduceMul, Nat.reduceEqDiff, Nat.reduceSub, Nat.reduceLeDiff, reduceCtorEq]) ?_
    repeat' (first
      | exact True.intro
      | refine ev_seq ?_
      | ((first | refine ev_regionC (pre := [_, _, _, _, _, _]) hE rfl (hS (by decide +kernel)) ?_ | refine vgd_go ?_ | refine ev_region hE hM (hS (by decide +kernel)) ?_ | refine ev_if ?_ | refine end_ret hE rfl rfl ?_ | refine end_norm hE rfl rfl ?_ | refine endG_ret [] hE rfl ?_ | refine endG_norm [] hE rfl ?_ | refine vcall_A ?_); simp (maxSteps := 2000000) only [go_sem, hP, ↓reduceIte, Nat.reduceAdd, Nat.reduceMul, Nat.reduceEqDiff, Nat.reduceSub, Nat.reduceLeDiff, reduceCtorEq, List.length_map, preS_length, List.length_drop])
      | refine ev_skip ?_ | refine ev_block ?_ | refine ev_blk ?_ | refine ev_ret ?_ | refine ev_exit ?_ | refine evx_code_ret ?_ | refine evx_blk_ret ?_ | refine evx_lp_ret ?_
      | refine evx_code_exit ?_ | refine evx_lp_exit ?_ | refine evx_blk_hit ?_ | refine evx_blk_pass (by decide) ?_
      | refine And.intro ?_ ?_ | intro _ | decide +kernel | omega)
    refine callM_of [(1, 3145731)] [] [(0, .ref 1), (5, iT j), (37, .ref 3145731), (38, iT (kS mwNode k xs j + 1 + 1 + 1))] [(1, .opn 30 4 ((preS mkNode mwNode k xs j).map oNode) [iT (kS mwNode k xs j), iT (kS mwNode k xs j + 1), iT (kS mwNode k xs j + 1 + 1), .ref 3145731] ((xs.drop (j + 1)).map oNode)), gEs 3145731 (xs.getD j default).entries] [(0, .ref 1)] hP c1 hY rfl rfl (by rw [envOf_fr, hN]; decide) (by simp only [go_sem, hP, ↓reduceIte, Nat.reduceAdd, Nat.reduceMul, Nat.reduceEqDiff, Nat.reduceSub, Nat.reduceLeDiff, reduceCtorEq]) rfl rfl (by simp only [go_sem, hP, ↓reduceIte, Nat.reduceAdd, Nat.reduceMul, Nat.reduceEqDiff, Nat.reduceSub, Nat.reduceLeDiff, reduceCtorEq] <;> simp) (by simp only [go_sem, hP, ↓reduceIte, Nat.reduceAdd, Nat.reduceMul, Nat.reduceEqDiff, Nat.reduceSub, Nat.reduceLeDiff, reduceCtorEq] <;> simp) ?_
    simp only [go_sem, hP, ↓reduceIte, Nat.reduceAdd, Nat.reduceMul, Nat.reduceEqDiff, Nat.reduceSub, Nat.reduceLeDiff, reduceCtorEq]
    repeat' (first
      | exact True.intro
      | refine ev_seq ?_
      | ((first | refine vgd_go ?_ | refine ev_region hE hM (hS (by decide +kernel)) ?_ | refine ev_if ?_ | refine end_ret hE rfl rfl ?_ | refine end_norm hE rfl rfl ?_ | refine endG_ret [] hE rfl ?_ | refine endG_norm [] hE rfl ?_ | refine vcall_A ?_); simp (maxSteps := 2000000) only [go_sem, hP, ↓reduceIte, Nat.reduceAdd, Nat.reduceMul, Nat.reduceEqDiff, Nat.reduceSub, Nat.reduceLeDiff, reduceCtorEq])
      | refine ev_skip ?_ | refine ev_block ?_ | refine ev_blk ?_ | refine ev_ret ?_ | refine ev_exit ?_ | refine evx_code_ret ?_ | refine evx_blk_ret ?_ | refine evx_lp_ret ?_
      | refine evx_code_exit ?_ | refine evx_lp_exit ?_ | refine evx_blk_hit ?_ | refine evx_blk_pass (by decide) ?_
      | refine And.intro ?_ ?_ | intro _ | decide +kernel | omega)
    refine ev_cut [(0, .ref 1), (1, iT (kS mwNode k xs (j + 1))), (5, iT (j + 1 : Nat))] [(1, .opn 30 4 ((preS mkNode mwNode k xs j).map oNode) [iT (kS mwNode k xs j), iT (kS mwNode k xs j + 1), iT (kS mwNode k xs j + 1 + 1), .ref 3145731] ((xs.drop (j + 1)).map oNode)), gEs 3145731 (markedEs (kS mwNode k xs j + 1 + 1 + 1) (xs.getD j default).entries)] [(0, .ref 1)] [] (by simp only [go_sem, hP, ↓reduceIte, Nat.reduceAdd, Nat.reduceMul, Nat.reduceEqDiff, Nat.reduceSub, Nat.reduceLeDiff, reduceCtorEq]; simp [g6, wrap_nat hlt' hlen]) ?_
    refine ev_close 1 [(0, 0), (0, 0), (0, 0), (0, 0)] (oNode (mkNode (kS mwNode k xs j) (xs.getD j default))) [3145731] rfl rfl (by decide) (by decide) ?_
    exact ev_lp (j + 1) [] (by omega) (by omega) (by simp only [go_sem, hP, ↓reduceIte, Nat.reduceAdd, Nat.reduceMul, Nat.reduceEqDiff, Nat.reduceSub, Nat.reduceLeDiff, reduceCtorEq]; simp [preS_succ, oNode_eq])
  · obtain rfl : j = xs.length := by omega
    exact kS_done
  · obtain rfl : j = xs.length := by omega
    simp [markedNs]
theorem s_heldRetiredS (xs : List Retired) (k : Int) (h0 : 0 ≤ k) (h1 : k + sumW mwRetired xs ≤ mMax) : Sat Tryz.prog 92 [aRetiredS (markedRets k xs), aI k] true (rI (k + sumW mwRetired xs)) := by
  refine sat_walk (fn := Tryz.f92) rfl rfl rfl (Nat.le_of_ble_eq_true rfl) fun fr hP hN hbnd => ?_
  have hE : (envOf fr Tryz.prog).Ok := envOf_ok hP
  have hM := follows_of hP
  have hS : ∀ {draw ops}, statB Tryz.f92.ntmps draw ops = true → statB (envOf fr Tryz.prog).fr.N draw ops = true := fun h => by rw [envOf_fr, hN]; exact h
  simp only [mMax] at h1
  have hlen := bnd_RetiredS hbnd
  have hl : (markedRets k xs).length = xs.length := by simp [markedRets]
  repeat' (first
    | exact True.intro
    | refine ev_seq ?_
    | ((first | refine vgd_go ?_ | refine ev_region hE hM (hS (by decide +kernel)) ?_ | refine ev_if ?_ | refine end_ret hE rfl rfl ?_ | refine end_norm hE rfl rfl ?_ | refine endG_ret [] hE rfl ?_ | refine endG_norm [] hE rfl ?_ | refine vcall_A ?_); simp (maxSteps := 2000000) only [go_sem, hP, ↓reduceIte, Nat.reduceAdd, Nat.reduceMul, Nat.reduceEqDiff, Nat.reduceSub, Nat.reduceLeDiff, reduceCtorEq])
    | refine ev_skip ?_ | refine ev_block ?_ | refine ev_blk ?_ | refine ev_ret ?_ | refine ev_exit ?_ | refine evx_code_ret ?_ | refine evx_blk_ret ?_ | refine evx_lp_ret ?_
    | refine evx_code_exit ?_ | refine evx_lp_exit ?_ | refine evx_blk_hit ?_ | refine evx_blk_pass (by decide) ?_
    | refine And.intro ?_ ?_ | intro _ | decide +kernel | omega)
  refine ev_loop (ι := Nat) (fun j => [(0, .c (sRetiredS (markedRets k xs))), (1, iT (kS mwRetired k xs j)), (5, iT j)]) (fun j => []) (fun _ => []) (fun j => j ≤ xs.length) (fun j => xs.length - j) 0 [] (by omega) (by simp only [go_sem, hP, ↓reduceIte, Nat.reduceAdd, Nat.reduceMul, Nat.reduceEqDiff, Nat.reduceSub, Nat.reduceLeDiff, reduceCtorEq]; simp [kS_zero]) ?_
  intro j hj
  by_cases hlt' : j < xs.length
  · have g0 : (markedRets k xs).getD j default = mkRetired (kS mwRetired k xs j) (xs.getD j default) := preS_getD hlt'
    have g1 := kS_le (w := mwRetired) (k := k) (xs := xs) (j + 1)
    have g2 := kS_succ (w := mwRetired) (k := k) hlt'
    have g3 := kS_ge (w := mwRetired) (k := k) (xs := xs) j
    have g4 : mwRetired (xs.getD j default) = (xs.getD j default).watch.length + 1 := rfl
    have g6 : kS mwRetired k xs (j + 1) = kS mwRetired k xs j + 1 + (xs.getD j default).watch.length := by omega
    have hw1 : IntKind.i64.wrap (kS mwRetired k xs j + 1) = kS mwRetired k xs j + 1 := i64_in _ (by omega)
    have c1 := s_heldInt64S (xs.getD j default).watch.length (kS mwRetired k xs j + 1) (by omega) (by simp only [mMax]; omega)
    repeat' (first
      | exact True.intro
      | refine ev_seq ?_
      | ((first | refine vgd_go ?_ | refine ev_region hE hM (hS (by decide +kernel)) ?_ | refine ev_if ?_ | refine end_ret hE rfl rfl ?_ | refine end_norm hE rfl rfl ?_ | refine endG_ret [] hE rfl ?_ | refine endG_norm [] hE rfl ?_ | refine vcallB_of hP c1 ?_ | refine vcall_A ?_); simp (maxSteps := 2000000) only [go_sem, hP, ↓reduceIte, Nat.reduceAdd, Nat.reduceMul, Nat.reduceEqDiff, Nat.reduceSub, Nat.reduceLeDiff, reduceCtorEq, g0, mkRetired, markedI_length, hl, hw1])
      | refine ev_skip ?_ | refine ev_block ?_ | refine ev_blk ?_ | refine ev_ret ?_ | refine ev_exit ?_ | refine evx_code_ret ?_ | refine evx_blk_ret ?_ | refine evx_lp_ret ?_
      | refine evx_code_exit ?_ | refine evx_lp_exit ?_ | refine evx_blk_hit ?_ | refine evx_blk_pass (by decide) ?_
      | refine And.intro ?_ ?_ | intro _ | decide +kernel | omega)
    all_goals first
      | exact ev_lp (j + 1) [] (by omega) (by omega) (by simp only [go_sem, hP, ↓reduceIte, Nat.reduceAdd, Nat.reduceMul, Nat.reduceEqDiff, Nat.reduceSub, Nat.reduceLeDiff, reduceCtorEq]; simp [g6, wrap_nat hlt' (by omega : xs.length ≤ maxLen)])
      | (exfalso; simp_all [bne_iff_ne] <;> omega)
  · obtain rfl : j = xs.length := by omega
    repeat' (first
      | exact True.intro
      | refine ev_seq ?_
      | ((first | refine vgd_go ?_ | refine ev_region hE hM (hS (by decide +kernel)) ?_ | refine ev_if ?_ | refine end_ret hE rfl rfl ?_ | refine end_norm hE rfl rfl ?_ | refine endG_ret [] hE rfl ?_ | refine endG_norm [] hE rfl ?_ | refine vcall_A ?_); simp (maxSteps := 2000000) only [go_sem, hP, ↓reduceIte, Nat.reduceAdd, Nat.reduceMul, Nat.reduceEqDiff, Nat.reduceSub, Nat.reduceLeDiff, reduceCtorEq, hl])
      | refine ev_skip ?_ | refine ev_block ?_ | refine ev_blk ?_ | refine ev_ret ?_ | refine ev_exit ?_ | refine evx_code_ret ?_ | refine evx_blk_ret ?_ | refine evx_lp_ret ?_
      | refine evx_code_exit ?_ | refine evx_lp_exit ?_ | refine evx_blk_hit ?_ | refine evx_blk_pass (by decide) ?_
      | refine And.intro ?_ ?_ | intro _ | decide +kernel | omega)
    all_goals first
      | exact kS_done
      | (exfalso; omega)
theorem s_heldNodeS (xs : List Node) (k : Int) (h0 : 0 ≤ k) (h1 : k + sumW mwNode xs ≤ mMax) : Sat Tryz.prog 90 [aNodeS (markedNs k xs), aI k] true (rI (k + sumW mwNode xs)) := by
  refine sat_walk (fn := Tryz.f90) rfl rfl rfl (Nat.le_of_ble_eq_true rfl) fun fr hP hN hbnd => ?_
  have hE : (envOf fr Tryz.prog).Ok := envOf_ok hP
  have hM := follows_of hP
  have hS : ∀ {draw ops}, statB Tryz.f90.ntmps draw ops = true → statB (envOf fr Tryz.prog).fr.N draw ops = true := fun h => by rw [envOf_fr, hN]; exact h
  simp only [mMax] at h1
  have hlen := bnd_NodeS hbnd
  have hl : (markedNs k xs).length = xs.length := by simp [markedNs]
  repeat' (first
    | exact True.intro
    | refine ev_seq ?_
    | ((first | refine vgd_go ?_ | refine ev_region hE hM (hS (by decide +kernel)) ?_ | refine ev_if ?_ | refine end_ret hE rfl rfl ?_ | refine end_norm hE rfl rfl ?_ | refine endG_ret [] hE rfl ?_ | refine endG_norm [] hE rfl ?_ | refine vcall_A ?_); simp (maxSteps := 2000000) only [go_sem, hP, ↓reduceIte, Nat.reduceAdd, Nat.reduceMul, Nat.reduceEqDiff, Nat.reduceSub, Nat.reduceLeDiff, reduceCtorEq])
    | refine ev_skip ?_ | refine ev_block ?_ | refine ev_blk ?_ | refine ev_ret ?_ | refine ev_exit ?_ | refine evx_code_ret ?_ | refine evx_blk_ret ?_ | refine evx_lp_ret ?_
    | refine evx_code_exit ?_ | refine evx_lp_exit ?_ | refine evx_blk_hit ?_ | refine evx_blk_pass (by decide) ?_
    | refine And.intro ?_ ?_ | intro _ | decide +kernel | omega)
  refine ev_loop (ι := Nat) (fun j => [(0, .c (sNodeS (markedNs k xs))), (1, iT (kS mwNode k xs j)), (5, iT j)]) (fun j => []) (fun _ => []) (fun j => j ≤ xs.length) (fun j => xs.length - j) 0 [] (by omega) (by simp only [go_sem, hP, ↓reduceIte, Nat.reduceAdd, Nat.reduceMul, Nat.reduceEqDiff, Nat.reduceSub, Nat.reduceLeDiff, reduceCtorEq]; simp [kS_zero]) ?_
  intro j hj
  by_cases hlt' : j < xs.length
  · have g0 : (markedNs k xs).getD j default = mkNode (kS mwNode k xs j) (xs.getD j default) := preS_getD hlt'
    have g1 := kS_le (w := mwNode) (k := k) (xs := xs) (j + 1)
    have g2 := kS_succ (w := mwNode) (k := k) hlt'
    have g3 := kS_ge (w := mwNode) (k := k) (xs := xs) j
    have g4 : mwNode (xs.getD j default) = sumW mwEntry (xs.getD j default).entries + 3 := rfl
    have g6 : kS mwNode k xs (j + 1) = kS mwNode k xs j + 1 + 1 + 1 + sumW mwEntry (xs.getD j default).entries := by omega
    have hw1 : IntKind.i64.wrap (kS mwNode k xs j + 1) = kS mwNode k xs j + 1 := i64_in _ (by omega)
    have hw2 : IntKind.i64.wrap (kS mwNode k xs j + 1 + 1) = kS mwNode k xs j + 1 + 1 := i64_in _ (by omega)
    have hw3 : IntKind.i64.wrap (kS mwNode k xs j + 1 + 1 + 1) = kS mwNode k xs j + 1 + 1 + 1 := i64_in _ (by omega)
    have c1 := s_heldEntryS (xs.getD j default).entries (kS mwNode k xs j + 1 + 1 + 1) (by omega) (by simp only [mMax]; omega)
    repeat' (first
      | exact True.intro
      | refine ev_seq ?_
      | ((first | refine vgd_go ?_ | refine ev_region hE hM (hS (by decide +kernel)) ?_ | refine ev_if ?_ | refine end_ret hE rfl rfl ?_ | refine end_norm hE rfl rfl ?_ | refine endG_ret [] hE rfl ?_ | refine endG_norm [] hE rfl ?_ | refine vcallB_of hP c1 ?_ | refine vcall_A ?_); simp (maxSteps := 2000000) only [go_sem, hP, ↓reduceIte, Nat.reduceAdd, Nat.reduceMul, Nat.reduceEqDiff, Nat.reduceSub, Nat.reduceLeDiff, reduceCtorEq, g0, mkNode, hl, hw1, hw2, hw3])
      | refine ev_skip ?_ | refine ev_block ?_ | refine ev_blk ?_ | refine ev_ret ?_ | refine ev_exit ?_ | refine evx_code_ret ?_ | refine evx_blk_ret ?_ | refine evx_lp_ret ?_
      | refine evx_code_exit ?_ | refine evx_lp_exit ?_ | refine evx_blk_hit ?_ | refine evx_blk_pass (by decide) ?_
      | refine And.intro ?_ ?_ | intro _ | decide +kernel | omega)
    all_goals first
      | exact ev_lp (j + 1) [] (by omega) (by omega) (by simp only [go_sem, hP, ↓reduceIte, Nat.reduceAdd, Nat.reduceMul, Nat.reduceEqDiff, Nat.reduceSub, Nat.reduceLeDiff, reduceCtorEq]; simp [g6, wrap_nat hlt' (by omega : xs.length ≤ maxLen)])
      | (exfalso; simp_all [bne_iff_ne] <;> omega)
  · obtain rfl : j = xs.length := by omega
    repeat' (first
      | exact True.intro
      | refine ev_seq ?_
      | ((first | refine vgd_go ?_ | refine ev_region hE hM (hS (by decide +kernel)) ?_ | refine ev_if ?_ | refine end_ret hE rfl rfl ?_ | refine end_norm hE rfl rfl ?_ | refine endG_ret [] hE rfl ?_ | refine endG_norm [] hE rfl ?_ | refine vcall_A ?_); simp (maxSteps := 2000000) only [go_sem, hP, ↓reduceIte, Nat.reduceAdd, Nat.reduceMul, Nat.reduceEqDiff, Nat.reduceSub, Nat.reduceLeDiff, reduceCtorEq, hl])
      | refine ev_skip ?_ | refine ev_block ?_ | refine ev_blk ?_ | refine ev_ret ?_ | refine ev_exit ?_ | refine evx_code_ret ?_ | refine evx_blk_ret ?_ | refine evx_lp_ret ?_
      | refine evx_code_exit ?_ | refine evx_lp_exit ?_ | refine evx_blk_hit ?_ | refine evx_blk_pass (by decide) ?_
      | refine And.intro ?_ ?_ | intro _ | decide +kernel | omega)
    all_goals first
      | exact kS_done
      | (exfalso; omega)
def naC (d r : Int) : Int := if inB d 2 3 = false then 3 else if inB r 4 40 = false then 2 else 0
def nodesN (n : Nat) : List Node := (List.range n).map fun _ => emptyNode
theorem nodesN_succ (n : Nat) : nodesN (n + 1) = nodesN n ++ [emptyNode] := by simp only [nodesN, List.range_succ, List.map_append, List.map_cons, List.map_nil]
@[simp] theorem nodesN_length (n : Nat) : (nodesN n).length = n := by simp [nodesN]
theorem inB_r {r : Int} (h : inB r 4 40 = true) : 0 ≤ r ∧ r ≤ 40 := by simp [inB] at h; omega
def freeN (n : Nat) : List Int := (List.range n).map fun (j : Nat) => (j : Int)
def naV (d r : Int) : Arena := if naC d r = 0 then ⟨d, nodesN r.toNat, freeN r.toNat, []⟩ else ⟨0, [], [], []⟩
theorem freeN_succ (n : Nat) : freeN (n + 1) = freeN n ++ [(n : Int)] := by simp [freeN, List.range_succ]
@[simp] theorem freeN_length (n : Nat) : (freeN n).length = n := by simp [freeN]
theorem naC_zero {d r : Int} (h : naC d r = 0) : 4 ≤ r ∧ r ≤ 40 := by
  unfold naC at h
  split at h
  · simp at h
  · split at h
    · simp at h
    · rename_i h1 h2; simp [inB] at h2; omega
@[go_sem] abbrev aAR (c : Int) (a : Arena) (i : Int) : Arg := .d (true, [.int .i64 c, .int .i64 a.dims, sNodeS a.nodes, sI a.free, sRetiredS a.retired, .int .i64 i])
@[go_sem] abbrev rAR (c : Int) (a : Arena) (i : Int) : List Dat := [(true, [.int .i64 c, .int .i64 a.dims, oNodeS a.nodes, oI a.free, oRetiredS a.retired, .int .i64 i])]
@[go_sem] abbrev tA (d : Int) (x y z : Nat) : T := .agg [iT d, .ref x, .ref y, .ref z]
@[go_sem] abbrev tAR (c d : Int) (x y z : Nat) (i : Int) : T := .agg [iT c, iT d, .ref x, .ref y, .ref z, iT i]
@[go_sem] abbrev gA (x y z : Nat) (a : Arena) : List (Nat × Blk) := [gNs x a.nodes, gI y a.free, gRets z a.retired]
def mwA (a : Arena) : Nat := sumW mwNode a.nodes + a.free.length + sumW mwRetired a.retired
def markedA (k : Int) (a : Arena) : Arena := ⟨a.dims, markedNs k a.nodes, markedI (k + sumW mwNode a.nodes) a.free.length, markedRets (k + sumW mwNode a.nodes + a.free.length) a.retired⟩
theorem s_eqArenaResult (c c' : Int) (a a' : Arena) (i i' : Int) : Sat Tryz.prog 19 [aAR c a i, aAR c' a' i'] true (rB (decide (c = c' ∧ a = a' ∧ i = i'))) := by
  refine sat_walk (fn := Tryz.f19) rfl rfl rfl (Nat.le_of_ble_eq_true rfl) fun fr hP hN hbnd => ?_
  have hE : (envOf fr Tryz.prog).Ok := envOf_ok hP
  have hM := follows_of hP
  have hS : ∀ {draw ops}, statB Tryz.f19.ntmps draw ops = true → statB (envOf fr Tryz.prog).fr.N draw ops = true := fun h => by rw [envOf_fr, hN]; exact h
  repeat' (first
    | exact True.intro
    | refine ev_seq ?_
    | ((first | refine vgd_go ?_ | refine ev_region hE hM (hS (by decide +kernel)) ?_ | refine ev_if ?_ | refine end_ret hE rfl rfl ?_ | refine end_norm hE rfl rfl ?_ | refine endG_ret [] hE rfl ?_ | refine endG_norm [] hE rfl ?_ | refine vcallB_of hP (s_eqArena a a') ?_ | refine vcall_A ?_); simp (maxSteps := 2000000) only [go_sem, hP, ↓reduceIte, Nat.reduceAdd, Nat.reduceMul, Nat.reduceEqDiff, Nat.reduceSub, Nat.reduceLeDiff, reduceCtorEq])
    | refine ev_skip ?_ | refine ev_block ?_ | refine ev_blk ?_ | refine ev_ret ?_ | refine ev_exit ?_ | refine evx_code_ret ?_ | refine evx_blk_ret ?_ | refine evx_lp_ret ?_
    | refine evx_code_exit ?_ | refine evx_lp_exit ?_ | refine evx_blk_hit ?_ | refine evx_blk_pass (by decide) ?_
    | refine And.intro ?_ ?_ | intro _ | decide +kernel | omega)
  all_goals simp_all
theorem s_markArena (a : Arena) (k : Int) (h0 : 0 ≤ k) (h1 : k + mwA a ≤ mMax) : SatG Tryz.prog 12 true [tA a.dims 1 2 3, iT k] (gA 1 2 3 a) (iT (k + sumW mwNode a.nodes + a.free.length + sumW mwRetired a.retired)) (gA 1 2 3 (markedA k a)) := by
  refine satG_walk (fn := Tryz.f12) rfl rfl rfl (Nat.le_of_ble_eq_true rfl) (by simp) fun fr hP hN hdp hb1 hb2 => ?_
  have hE : (envOf fr Tryz.prog).Ok := envOf_ok hP
  have hM := follows_of hP
  have hS : ∀ {draw ops}, statB Tryz.f12.ntmps draw ops = true → statB (envOf fr Tryz.prog).fr.N draw ops = true := fun h => by rw [envOf_fr, hN]; exact h
  simp only [mMax, mwA] at h1
  have hY : ∀ b, (envOf fr Tryz.prog).fr.Y b → (envOf fr Tryz.prog).fr.X b := fun b hb => hdp rfl b hb
  have c1 := s_markNodeS a.nodes k h0 (by simp only [mMax]; omega)
  have c2 := s_markInt64S a.free (k + sumW mwNode a.nodes) (by omega) (by simp only [mMax]; omega)
  have c3 := s_markRetiredS a.retired (k + sumW mwNode a.nodes + a.free.length) (by omega) (by simp only [mMax]; omega)
  repeat' (first
    | exact True.intro
    | refine ev_seq ?_
    | ((first | refine ev_stop 1 ?_ | refine vgd_go ?_ | refine ev_region hE hM (hS (by decide +kernel)) ?_ | refine ev_if ?_ | refine end_ret hE rfl rfl ?_ | refine end_norm hE rfl rfl ?_ | refine endG_ret [] hE rfl ?_ | refine endG_norm [] hE rfl ?_ | refine vcall_A ?_); simp (maxSteps := 2000000) only [go_sem, hP, ↓reduceIte, Nat.reduceAdd, Nat.reduceMul, Nat.reduceEqDiff, Nat.reduceSub, Nat.reduceLeDiff, reduceCtorEq])
    | refine ev_skip ?_ | refine ev_block ?_ | refine ev_blk ?_ | refine ev_ret ?_ | refine ev_exit ?_ | refine evx_code_ret ?_ | refine evx_blk_ret ?_ | refine evx_lp_ret ?_
    | refine evx_code_exit ?_ | refine evx_lp_exit ?_ | refine evx_blk_hit ?_ | refine evx_blk_pass (by decide) ?_
    | refine And.intro ?_ ?_ | intro _ | decide +kernel | omega)
  first | refine Stop.mk ?_ | skip
  refine ev_cut [(1, iT k), (2, .ptr 0 0)] ((0, .box [iT a.dims, .ref 1, .ref 2, .ref 3]) :: gA 1 2 3 a) [(0, .ref 1), (1, .ref 2), (2, .ref 3)] [] (by simp only [go_sem, hP, ↓reduceIte, Nat.reduceAdd, Nat.reduceMul, Nat.reduceEqDiff, Nat.reduceSub, Nat.reduceLeDiff, reduceCtorEq]) ?_
  repeat' (first
    | exact True.intro
    | refine ev_seq ?_
    | ((first | refine ev_regionC (id := 1) (pre := [_, _, _]) hE rfl (hS (by decide +kernel)) ?_ | refine vgd_go ?_ | refine ev_region hE hM (hS (by decide +kernel)) ?_ | refine ev_if ?_ | refine end_ret hE rfl rfl ?_ | refine end_norm hE rfl rfl ?_ | refine endG_ret [] hE rfl ?_ | refine endG_norm [] hE rfl ?_ | refine vcall_A ?_); simp (maxSteps := 2000000) only [go_sem, hP, ↓reduceIte, Nat.reduceAdd, Nat.reduceMul, Nat.reduceEqDiff, Nat.reduceSub, Nat.reduceLeDiff, reduceCtorEq])
    | refine ev_skip ?_ | refine ev_block ?_ | refine ev_blk ?_ | refine ev_ret ?_ | refine ev_exit ?_ | refine evx_code_ret ?_ | refine evx_blk_ret ?_ | refine evx_lp_ret ?_
    | refine evx_code_exit ?_ | refine evx_lp_exit ?_ | refine evx_blk_hit ?_ | refine evx_blk_pass (by decide) ?_
    | refine And.intro ?_ ?_ | intro _ | decide +kernel | omega)
  refine callM_of [(1, 1)] [] [(2, .ptr 0 0), (6, .ref 1), (7, iT k)] ((0, .box [iT a.dims, .ref 1, .ref 2, .ref 3]) :: gA 1 2 3 a) [(0, .ref 1), (1, .ref 2), (2, .ref 3)] hP c1 hY rfl rfl (by rw [envOf_fr, hN]; decide) (by simp only [go_sem, hP, ↓reduceIte, Nat.reduceAdd, Nat.reduceMul, Nat.reduceEqDiff, Nat.reduceSub, Nat.reduceLeDiff, reduceCtorEq]) rfl rfl (by simp only [go_sem, hP, ↓reduceIte, Nat.reduceAdd, Nat.reduceMul, Nat.reduceEqDiff, Nat.reduceSub, Nat.reduceLeDiff, reduceCtorEq] <;> simp) (by simp only [go_sem, hP, ↓reduceIte, Nat.reduceAdd, Nat.reduceMul, Nat.reduceEqDiff, Nat.reduceSub, Nat.reduceLeDiff, reduceCtorEq] <;> simp) ?_
  simp only [go_sem, hP, ↓reduceIte, Nat.reduceAdd, Nat.reduceMul, Nat.reduceEqDiff, Nat.reduceSub, Nat.reduceLeDiff, reduceCtorEq]
  repeat' (first
    | exact True.intro
    | refine ev_seq ?_
    | ((first | refine ev_stop 3 ?_ | refine vgd_go ?_ | refine ev_region hE hM (hS (by decide +kernel)) ?_ | refine ev_if ?_ | refine end_ret hE rfl rfl ?_ | refine end_norm hE rfl rfl ?_ | refine endG_ret [] hE rfl ?_ | refine endG_norm [] hE rfl ?_ | refine vcallG_of (args := [.ref 2, _]) [(1, 2)] [] hP c2 ?_ | refine vcall_A ?_); simp (maxSteps := 2000000) only [go_sem, hP, ↓reduceIte, Nat.reduceAdd, Nat.reduceMul, Nat.reduceEqDiff, Nat.reduceSub, Nat.reduceLeDiff, reduceCtorEq])
    | refine ev_skip ?_ | refine ev_block ?_ | refine ev_blk ?_ | refine ev_ret ?_ | refine ev_exit ?_ | refine evx_code_ret ?_ | refine evx_blk_ret ?_ | refine evx_lp_ret ?_
    | refine evx_code_exit ?_ | refine evx_lp_exit ?_ | refine evx_blk_hit ?_ | refine evx_blk_pass (by decide) ?_
    | refine And.intro ?_ ?_ | intro _ | decide +kernel | omega)
  first | refine Stop.mk ?_ | skip
  refine ev_cut [(1, iT (k + sumW mwNode a.nodes + a.free.length)), (2, .ptr 0 0)] [(0, .box [iT a.dims, .ref 1, .ref 2, .ref 3]), gNs 1 (markedNs k a.nodes), gI 2 (markedI (k + sumW mwNode a.nodes) a.free.length), gRets 3 a.retired] [(0, .ref 1), (1, .ref 2), (2, .ref 3)] [] (by simp only [go_sem, hP, ↓reduceIte, Nat.reduceAdd, Nat.reduceMul, Nat.reduceEqDiff, Nat.reduceSub, Nat.reduceLeDiff, reduceCtorEq]) ?_
  repeat' (first
    | exact True.intro
    | refine ev_seq ?_
    | ((first | refine ev_regionC (id := 3) (pre := [_, _, _]) hE rfl (hS (by decide +kernel)) ?_ | refine vgd_go ?_ | refine ev_region hE hM (hS (by decide +kernel)) ?_ | refine ev_if ?_ | refine end_ret hE rfl rfl ?_ | refine end_norm hE rfl rfl ?_ | refine endG_ret [] hE rfl ?_ | refine endG_norm [] hE rfl ?_ | refine vcall_A ?_); simp (maxSteps := 2000000) only [go_sem, hP, ↓reduceIte, Nat.reduceAdd, Nat.reduceMul, Nat.reduceEqDiff, Nat.reduceSub, Nat.reduceLeDiff, reduceCtorEq])
    | refine ev_skip ?_ | refine ev_block ?_ | refine ev_blk ?_ | refine ev_ret ?_ | refine ev_exit ?_ | refine evx_code_ret ?_ | refine evx_blk_ret ?_ | refine evx_lp_ret ?_
    | refine evx_code_exit ?_ | refine evx_lp_exit ?_ | refine evx_blk_hit ?_ | refine evx_blk_pass (by decide) ?_
    | refine And.intro ?_ ?_ | intro _ | decide +kernel | omega)
  refine callM_of [(1, 3)] [] [(2, .ptr 0 0), (14, .ref 3), (15, iT (k + sumW mwNode a.nodes + a.free.length))] [(0, .box [iT a.dims, .ref 1, .ref 2, .ref 3]), gNs 1 (markedNs k a.nodes), gI 2 (markedI (k + sumW mwNode a.nodes) a.free.length), gRets 3 a.retired] [(0, .ref 1), (1, .ref 2), (2, .ref 3)] hP c3 hY rfl rfl (by rw [envOf_fr, hN]; decide) (by simp only [go_sem, hP, ↓reduceIte, Nat.reduceAdd, Nat.reduceMul, Nat.reduceEqDiff, Nat.reduceSub, Nat.reduceLeDiff, reduceCtorEq]) rfl rfl (by simp only [go_sem, hP, ↓reduceIte, Nat.reduceAdd, Nat.reduceMul, Nat.reduceEqDiff, Nat.reduceSub, Nat.reduceLeDiff, reduceCtorEq] <;> simp) (by simp only [go_sem, hP, ↓reduceIte, Nat.reduceAdd, Nat.reduceMul, Nat.reduceEqDiff, Nat.reduceSub, Nat.reduceLeDiff, reduceCtorEq] <;> simp) ?_
  simp only [go_sem, hP, ↓reduceIte, Nat.reduceAdd, Nat.reduceMul, Nat.reduceEqDiff, Nat.reduceSub, Nat.reduceLeDiff, reduceCtorEq]
  repeat' (first
    | exact True.intro
    | refine ev_seq ?_
    | ((first | refine vgd_go ?_ | refine ev_region hE hM (hS (by decide +kernel)) ?_ | refine ev_if ?_ | refine end_ret hE rfl rfl ?_ | refine end_norm hE rfl rfl ?_ | refine endG_ret [] hE rfl ?_ | refine endG_norm [] hE rfl ?_ | refine vcall_A ?_); simp (maxSteps := 2000000) only [go_sem, hP, ↓reduceIte, Nat.reduceAdd, Nat.reduceMul, Nat.reduceEqDiff, Nat.reduceSub, Nat.reduceLeDiff, reduceCtorEq, markedA])
    | refine ev_skip ?_ | refine ev_block ?_ | refine ev_blk ?_ | refine ev_ret ?_ | refine ev_exit ?_ | refine evx_code_ret ?_ | refine evx_blk_ret ?_ | refine evx_lp_ret ?_
    | refine evx_code_exit ?_ | refine evx_lp_exit ?_ | refine evx_blk_hit ?_ | refine evx_blk_pass (by decide) ?_
    | refine And.intro ?_ ?_ | intro _ | decide +kernel | omega)
theorem s_heldArena (a : Arena) (k : Int) (h0 : 0 ≤ k) (h1 : k + mwA a ≤ mMax) : Sat Tryz.prog 55 [aArena (markedA k a), aI k] true (rI (k + sumW mwNode a.nodes + a.free.length + sumW mwRetired a.retired)) := by
  refine sat_walk (fn := Tryz.f55) rfl rfl rfl (Nat.le_of_ble_eq_true rfl) fun fr hP hN hbnd => ?_
  have hE : (envOf fr Tryz.prog).Ok := envOf_ok hP
  have hM := follows_of hP
  have hS : ∀ {draw ops}, statB Tryz.f55.ntmps draw ops = true → statB (envOf fr Tryz.prog).fr.N draw ops = true := fun h => by rw [envOf_fr, hN]; exact h
  simp only [mMax, mwA] at h1
  have c1 := s_heldNodeS a.nodes k h0 (by simp only [mMax]; omega)
  have c2 := s_heldInt64S a.free.length (k + sumW mwNode a.nodes) (by omega) (by simp only [mMax]; omega)
  have c3 := s_heldRetiredS a.retired (k + sumW mwNode a.nodes + a.free.length) (by omega) (by simp only [mMax]; omega)
  repeat' (first
    | exact True.intro
    | refine ev_seq ?_
    | ((first | refine vgd_go ?_ | refine ev_region hE hM (hS (by decide +kernel)) ?_ | refine ev_if ?_ | refine end_ret hE rfl rfl ?_ | refine end_norm hE rfl rfl ?_ | refine endG_ret [] hE rfl ?_ | refine endG_norm [] hE rfl ?_ | refine vcallB_of hP c1 ?_ | refine vcallB_of hP c2 ?_ | refine vcallB_of hP c3 ?_ | refine vcall_A ?_); simp (maxSteps := 2000000) only [go_sem, hP, ↓reduceIte, Nat.reduceAdd, Nat.reduceMul, Nat.reduceEqDiff, Nat.reduceSub, Nat.reduceLeDiff, reduceCtorEq, markedA])
    | refine ev_skip ?_ | refine ev_block ?_ | refine ev_blk ?_ | refine ev_ret ?_ | refine ev_exit ?_ | refine evx_code_ret ?_ | refine evx_blk_ret ?_ | refine evx_lp_ret ?_
    | refine evx_code_exit ?_ | refine evx_lp_exit ?_ | refine evx_blk_hit ?_ | refine evx_blk_pass (by decide) ?_
    | refine And.intro ?_ ?_ | intro _ | decide +kernel | omega)
  all_goals (exfalso; omega)
theorem s_markArenaResult (c : Int) (a : Arena) (i k : Int) (h0 : 0 ≤ k) (h1 : k + mwA a ≤ mMax) : SatG Tryz.prog 22 true [tAR c a.dims 1 2 3 i, iT k] (gA 1 2 3 a) (iT (k + sumW mwNode a.nodes + a.free.length + sumW mwRetired a.retired)) (gA 1 2 3 (markedA k a)) := by
  refine satG_walk (fn := Tryz.f22) rfl rfl rfl (Nat.le_of_ble_eq_true rfl) (by simp) fun fr hP hN hdp hb1 hb2 => ?_
  have hE : (envOf fr Tryz.prog).Ok := envOf_ok hP
  have hM := follows_of hP
  have hS : ∀ {draw ops}, statB Tryz.f22.ntmps draw ops = true → statB (envOf fr Tryz.prog).fr.N draw ops = true := fun h => by rw [envOf_fr, hN]; exact h
  have hY : ∀ b, (envOf fr Tryz.prog).fr.Y b → (envOf fr Tryz.prog).fr.X b := fun b hb => hdp rfl b hb
  have c1 := s_markArena a k h0 h1
  repeat' (first
    | exact True.intro
    | refine ev_seq ?_
    | ((first | refine ev_stop 1 ?_ | refine vgd_go ?_ | refine ev_region hE hM (hS (by decide +kernel)) ?_ | refine ev_if ?_ | refine end_ret hE rfl rfl ?_ | refine end_norm hE rfl rfl ?_ | refine endG_ret [] hE rfl ?_ | refine endG_norm [] hE rfl ?_ | refine vcall_A ?_); simp (maxSteps := 2000000) only [go_sem, hP, ↓reduceIte, Nat.reduceAdd, Nat.reduceMul, Nat.reduceEqDiff, Nat.reduceSub, Nat.reduceLeDiff, reduceCtorEq])
    | refine ev_skip ?_ | refine ev_block ?_ | refine ev_blk ?_ | refine ev_ret ?_ | refine ev_exit ?_ | refine evx_code_ret ?_ | refine evx_blk_ret ?_ | refine evx_lp_ret ?_
    | refine evx_code_exit ?_ | refine evx_lp_exit ?_ | refine evx_blk_hit ?_ | refine evx_blk_pass (by decide) ?_
    | refine And.intro ?_ ?_ | intro _ | decide +kernel | omega)
  first | refine Stop.mk ?_ | skip
  refine ev_cut [(1, iT k), (2, .ptr 0 0)] ((0, .box [iT c, iT a.dims, .ref 1, .ref 2, .ref 3, iT i]) :: gA 1 2 3 a) [(0, .ref 1), (1, .ref 2), (2, .ref 3)] [] (by simp only [go_sem, hP, ↓reduceIte, Nat.reduceAdd, Nat.reduceMul, Nat.reduceEqDiff, Nat.reduceSub, Nat.reduceLeDiff, reduceCtorEq]) ?_
  repeat' (first
    | exact True.intro
    | refine ev_seq ?_
    | ((first | refine ev_regionC (id := 1) (pre := [_, _, _]) hE rfl (hS (by decide +kernel)) ?_ | refine vgd_go ?_ | refine ev_region hE hM (hS (by decide +kernel)) ?_ | refine ev_if ?_ | refine end_ret hE rfl rfl ?_ | refine end_norm hE rfl rfl ?_ | refine endG_ret [] hE rfl ?_ | refine endG_norm [] hE rfl ?_ | refine vcall_A ?_); simp (maxSteps := 2000000) only [go_sem, hP, ↓reduceIte, Nat.reduceAdd, Nat.reduceMul, Nat.reduceEqDiff, Nat.reduceSub, Nat.reduceLeDiff, reduceCtorEq])
    | refine ev_skip ?_ | refine ev_block ?_ | refine ev_blk ?_ | refine ev_ret ?_ | refine ev_exit ?_ | refine evx_code_ret ?_ | refine evx_blk_ret ?_ | refine evx_lp_ret ?_
    | refine evx_code_exit ?_ | refine evx_lp_exit ?_ | refine evx_blk_hit ?_ | refine evx_blk_pass (by decide) ?_
    | refine And.intro ?_ ?_ | intro _ | decide +kernel | omega)
  refine callM_of [(1, 1), (2, 2), (3, 3)] [] [(2, .ptr 0 0), (6, tA a.dims 1 2 3), (7, iT k)] ((0, .box [iT c, iT a.dims, .ref 1, .ref 2, .ref 3, iT i]) :: gA 1 2 3 a) [(0, .ref 1), (1, .ref 2), (2, .ref 3)] hP c1 hY rfl rfl (by rw [envOf_fr, hN]; decide) (by simp only [go_sem, hP, ↓reduceIte, Nat.reduceAdd, Nat.reduceMul, Nat.reduceEqDiff, Nat.reduceSub, Nat.reduceLeDiff, reduceCtorEq]) rfl rfl (by simp only [go_sem, hP, ↓reduceIte, Nat.reduceAdd, Nat.reduceMul, Nat.reduceEqDiff, Nat.reduceSub, Nat.reduceLeDiff, reduceCtorEq] <;> simp) (by simp only [go_sem, hP, ↓reduceIte, Nat.reduceAdd, Nat.reduceMul, Nat.reduceEqDiff, Nat.reduceSub, Nat.reduceLeDiff, reduceCtorEq] <;> simp) ?_
  simp only [go_sem, hP, ↓reduceIte, Nat.reduceAdd, Nat.reduceMul, Nat.reduceEqDiff, Nat.reduceSub, Nat.reduceLeDiff, reduceCtorEq]
  repeat' (first
    | exact True.intro
    | refine ev_seq ?_
    | ((first | refine vgd_go ?_ | refine ev_region hE hM (hS (by decide +kernel)) ?_ | refine ev_if ?_ | refine end_ret hE rfl rfl ?_ | refine end_norm hE rfl rfl ?_ | refine endG_ret [] hE rfl ?_ | refine endG_norm [] hE rfl ?_ | refine vcall_A ?_); simp (maxSteps := 2000000) only [go_sem, hP, ↓reduceIte, Nat.reduceAdd, Nat.reduceMul, Nat.reduceEqDiff, Nat.reduceSub, Nat.reduceLeDiff, reduceCtorEq, markedA])
    | refine ev_skip ?_ | refine ev_block ?_ | refine ev_blk ?_ | refine ev_ret ?_ | refine ev_exit ?_ | refine evx_code_ret ?_ | refine evx_blk_ret ?_ | refine evx_lp_ret ?_
    | refine evx_code_exit ?_ | refine evx_lp_exit ?_ | refine evx_blk_hit ?_ | refine evx_blk_pass (by decide) ?_
    | refine And.intro ?_ ?_ | intro _ | decide +kernel | omega)
theorem s_heldArenaResult (c : Int) (a : Arena) (i k : Int) (h0 : 0 ≤ k) (h1 : k + mwA a ≤ mMax) : Sat Tryz.prog 23 [aAR c (markedA k a) i, aI k] true (rI (k + sumW mwNode a.nodes + a.free.length + sumW mwRetired a.retired)) := by
  refine sat_walk (fn := Tryz.f23) rfl rfl rfl (Nat.le_of_ble_eq_true rfl) fun fr hP hN hbnd => ?_
  have hE : (envOf fr Tryz.prog).Ok := envOf_ok hP
  have hM := follows_of hP
  have hS : ∀ {draw ops}, statB Tryz.f23.ntmps draw ops = true → statB (envOf fr Tryz.prog).fr.N draw ops = true := fun h => by rw [envOf_fr, hN]; exact h
  repeat' (first
    | exact True.intro
    | refine ev_seq ?_
    | ((first | refine vgd_go ?_ | refine ev_region hE hM (hS (by decide +kernel)) ?_ | refine ev_if ?_ | refine end_ret hE rfl rfl ?_ | refine end_norm hE rfl rfl ?_ | refine endG_ret [] hE rfl ?_ | refine endG_norm [] hE rfl ?_ | refine vcallB_of hP (s_heldArena a k h0 h1) ?_ | refine vcall_A ?_); simp (maxSteps := 2000000) only [go_sem, hP, ↓reduceIte, Nat.reduceAdd, Nat.reduceMul, Nat.reduceEqDiff, Nat.reduceSub, Nat.reduceLeDiff, reduceCtorEq, markedA])
    | refine ev_skip ?_ | refine ev_block ?_ | refine ev_blk ?_ | refine ev_ret ?_ | refine ev_exit ?_ | refine evx_code_ret ?_ | refine evx_blk_ret ?_ | refine evx_lp_ret ?_
    | refine evx_code_exit ?_ | refine evx_lp_exit ?_ | refine evx_blk_hit ?_ | refine evx_blk_pass (by decide) ?_
    | refine And.intro ?_ ?_ | intro _ | decide +kernel | omega)
  all_goals (exfalso; omega)
theorem wE_get {xs : List Entry} {i : Nat} (h : i < xs.length) (hw : wEntryS xs ≤ 1048576) : (xs.getD i default).rect.low.length ≤ 1048576 ∧ (xs.getD i default).rect.high.length ≤ 1048576 := by
  have := sumW_get (w := wEntry) (d := default) h
  have e : wEntry (xs.getD i default) = (xs.getD i default).rect.low.length + (xs.getD i default).rect.high.length := rfl
  unfold wEntryS at hw
  omega
theorem s_clonedEntries (xs : List Entry) (hw : wEntryS xs ≤ 1048576) : Sat Tryz.prog 71 [aEntryS xs] true (rEntryS xs) := by
  refine sat_walk (fn := Tryz.f71) rfl rfl rfl (Nat.le_of_ble_eq_true rfl) fun fr hP hN hbnd => ?_
  have hE : (envOf fr Tryz.prog).Ok := envOf_ok hP
  have hM := follows_of hP
  have hS : ∀ {draw ops}, statB Tryz.f71.ntmps draw ops = true → statB (envOf fr Tryz.prog).fr.N draw ops = true := fun h => by rw [envOf_fr, hN]; exact h
  have hlen : xs.length ≤ 1048576 := by unfold wEntryS at hw; omega
  repeat' (first
    | exact True.intro
    | refine ev_seq ?_
    | ((first | refine vgd_go ?_ | refine ev_region hE hM (hS (by decide +kernel)) ?_ | refine ev_if ?_ | refine end_ret hE rfl rfl ?_ | refine end_norm hE rfl rfl ?_ | refine endG_ret [] hE rfl ?_ | refine endG_norm [] hE rfl ?_ | refine vcall_A ?_); simp (maxSteps := 2000000) only [go_sem, hP, ↓reduceIte, Nat.reduceAdd, Nat.reduceMul, Nat.reduceEqDiff, Nat.reduceSub, Nat.reduceLeDiff, reduceCtorEq])
    | refine ev_skip ?_ | refine ev_block ?_ | refine ev_blk ?_ | refine ev_ret ?_ | refine ev_exit ?_ | refine evx_code_ret ?_ | refine evx_blk_ret ?_ | refine evx_lp_ret ?_
    | refine evx_code_exit ?_ | refine evx_lp_exit ?_ | refine evx_blk_hit ?_ | refine evx_blk_pass (by decide) ?_
    | refine And.intro ?_ ?_ | intro _ | decide +kernel | omega)
  refine ev_loop (ι := Nat) (fun k => [(3, .ref 100000), (7, .c (sEntryS xs)), (8, iT xs.length), (9, iT k)]) (fun k => [(100000, .arr true 112 4 ((xs.take k).map oEntry))]) (fun _ => []) (fun k => k ≤ xs.length) (fun k => xs.length - k) 0 [(100000, some 4096)] (by omega) (by simp only [go_sem, hP, ↓reduceIte, Nat.reduceAdd, Nat.reduceMul, Nat.reduceEqDiff, Nat.reduceSub, Nat.reduceLeDiff, reduceCtorEq]; simp) ?_
  intro k hk
  have hw1 : k < xs.length → IntKind.i64.wrap ((k : Int) + 1) = k + 1 := fun h => i64_in _ (by omega)
  have htl : ((xs.take k).map oEntry).length = k := by simp; omega
  by_cases hlt : k < xs.length
  · have hg := wE_get hlt hw
    repeat' (first
      | exact True.intro
      | refine ev_seq ?_
      | ((first | refine vgd_go ?_ | refine ev_region hE hM (hS (by decide +kernel)) ?_ | refine ev_if ?_ | refine end_ret hE rfl rfl ?_ | refine end_norm hE rfl rfl ?_ | refine endG_ret [] hE rfl ?_ | refine endG_norm [] hE rfl ?_ | refine vcallB_of hP (s_cloned (xs.getD k default).rect hg.1 hg.2) ?_ | refine vcall_A ?_); simp (maxSteps := 2000000) only [go_sem, hP, ↓reduceIte, Nat.reduceAdd, Nat.reduceMul, Nat.reduceEqDiff, Nat.reduceSub, Nat.reduceLeDiff, reduceCtorEq, htl, Bool.and_self])
      | refine ev_skip ?_ | refine ev_block ?_ | refine ev_blk ?_ | refine ev_ret ?_ | refine ev_exit ?_ | refine evx_code_ret ?_ | refine evx_blk_ret ?_ | refine evx_lp_ret ?_
      | refine evx_code_exit ?_ | refine evx_lp_exit ?_ | refine evx_blk_hit ?_ | refine evx_blk_pass (by decide) ?_
      | refine And.intro ?_ ?_ | intro _ | decide +kernel | omega)
    all_goals first
      | exact ev_lp (k + 1) [(100000, some 20560)] (by omega) (by omega) (by simp only [go_sem, hP, ↓reduceIte, Nat.reduceAdd, Nat.reduceMul, Nat.reduceEqDiff, Nat.reduceSub, Nat.reduceLeDiff, reduceCtorEq]; rw [take_step (d := default) hlt]; simp [hw1 hlt, oEntry_eq])
      | (exfalso; omega)
      | (simp_all; done)
  · obtain rfl : k = xs.length := by omega
    repeat' (first
      | exact True.intro
      | refine ev_seq ?_
      | ((first | refine vgd_go ?_ | refine ev_region hE hM (hS (by decide +kernel)) ?_ | refine ev_if ?_ | refine end_ret hE rfl rfl ?_ | refine end_norm hE rfl rfl ?_ | refine endG_ret [] hE rfl ?_ | refine endG_norm [] hE rfl ?_ | refine vcall_A ?_); simp (maxSteps := 2000000) only [go_sem, hP, ↓reduceIte, Nat.reduceAdd, Nat.reduceMul, Nat.reduceEqDiff, Nat.reduceSub, Nat.reduceLeDiff, reduceCtorEq, htl, List.take_length])
      | refine ev_skip ?_ | refine ev_block ?_ | refine ev_blk ?_ | refine ev_ret ?_ | refine ev_exit ?_ | refine evx_code_ret ?_ | refine evx_blk_ret ?_ | refine evx_lp_ret ?_
      | refine evx_code_exit ?_ | refine evx_lp_exit ?_ | refine evx_blk_hit ?_ | refine evx_blk_pass (by decide) ?_
      | refine And.intro ?_ ?_ | intro _ | decide +kernel | omega)
    all_goals first
      | (exfalso; omega)
      | (simp_all; done)
theorem s_clonedNode (n : Node) (hw : wEntryS n.entries ≤ 1048576) : Sat Tryz.prog 37 [aNode n] true (rNode n) := by
  refine sat_walk (fn := Tryz.f37) rfl rfl rfl (Nat.le_of_ble_eq_true rfl) fun fr hP hN hbnd => ?_
  have hE : (envOf fr Tryz.prog).Ok := envOf_ok hP
  have hM := follows_of hP
  have hS : ∀ {draw ops}, statB Tryz.f37.ntmps draw ops = true → statB (envOf fr Tryz.prog).fr.N draw ops = true := fun h => by rw [envOf_fr, hN]; exact h
  repeat' (first
    | exact True.intro
    | refine ev_seq ?_
    | ((first | refine vgd_go ?_ | refine ev_region hE hM (hS (by decide +kernel)) ?_ | refine ev_if ?_ | refine end_ret hE rfl rfl ?_ | refine end_norm hE rfl rfl ?_ | refine endG_ret [] hE rfl ?_ | refine endG_norm [] hE rfl ?_ | refine vcallB_of hP (s_clonedEntries n.entries hw) ?_ | refine vcall_A ?_); simp (maxSteps := 2000000) only [go_sem, hP, ↓reduceIte, Nat.reduceAdd, Nat.reduceMul, Nat.reduceEqDiff, Nat.reduceSub, Nat.reduceLeDiff, reduceCtorEq])
    | refine ev_skip ?_ | refine ev_block ?_ | refine ev_blk ?_ | refine ev_ret ?_ | refine ev_exit ?_ | refine evx_code_ret ?_ | refine evx_blk_ret ?_ | refine evx_lp_ret ?_
    | refine evx_code_exit ?_ | refine evx_lp_exit ?_ | refine evx_blk_hit ?_ | refine evx_blk_pass (by decide) ?_
    | refine And.intro ?_ ?_ | intro _ | decide +kernel | omega)
theorem s_l3Entries (xs : List Entry) (hw : wEntryS xs ≤ 1048576) : Sat Tryz.prog 62 [aEntryS xs] true (rEntryS xs) := by
  refine sat_walk (fn := Tryz.f62) rfl rfl rfl (Nat.le_of_ble_eq_true rfl) fun fr hP hN hbnd => ?_
  have hE : (envOf fr Tryz.prog).Ok := envOf_ok hP
  have hM := follows_of hP
  have hS : ∀ {draw ops}, statB Tryz.f62.ntmps draw ops = true → statB (envOf fr Tryz.prog).fr.N draw ops = true := fun h => by rw [envOf_fr, hN]; exact h
  have hlen : xs.length ≤ 1048576 := by unfold wEntryS at hw; omega
  repeat' (first
    | exact True.intro
    | refine ev_seq ?_
    | ((first | refine vgd_go ?_ | refine ev_region hE hM (hS (by decide +kernel)) ?_ | refine ev_if ?_ | refine end_ret hE rfl rfl ?_ | refine end_norm hE rfl rfl ?_ | refine endG_ret [] hE rfl ?_ | refine endG_norm [] hE rfl ?_ | refine vcall_A ?_); simp (maxSteps := 2000000) only [go_sem, hP, ↓reduceIte, Nat.reduceAdd, Nat.reduceMul, Nat.reduceEqDiff, Nat.reduceSub, Nat.reduceLeDiff, reduceCtorEq])
    | refine ev_skip ?_ | refine ev_block ?_ | refine ev_blk ?_ | refine ev_ret ?_ | refine ev_exit ?_ | refine evx_code_ret ?_ | refine evx_blk_ret ?_ | refine evx_lp_ret ?_
    | refine evx_code_exit ?_ | refine evx_lp_exit ?_ | refine evx_blk_hit ?_ | refine evx_blk_pass (by decide) ?_
    | refine And.intro ?_ ?_ | intro _ | decide +kernel | omega)
  refine ev_loop (ι := Nat) (fun k => [(0, .c (sEntryS xs)), (3, .ref 100000), (4, iT k)]) (fun k => [(100000, .arr true 112 4 ((xs.take k).map oEntry))]) (fun _ => []) (fun k => k ≤ xs.length) (fun k => xs.length - k) 0 [(100000, some 4096)] (by omega) (by simp only [go_sem, hP, ↓reduceIte, Nat.reduceAdd, Nat.reduceMul, Nat.reduceEqDiff, Nat.reduceSub, Nat.reduceLeDiff, reduceCtorEq]; simp) ?_
  intro k hk
  have hw1 : k < xs.length → IntKind.i64.wrap ((k : Int) + 1) = k + 1 := fun h => i64_in _ (by omega)
  have htl : ((xs.take k).map oEntry).length = k := by simp; omega
  by_cases hlt : k < xs.length
  · have hg := wE_get hlt hw
    repeat' (first
      | exact True.intro
      | refine ev_seq ?_
      | ((first | refine vgd_go ?_ | refine ev_region hE hM (hS (by decide +kernel)) ?_ | refine ev_if ?_ | refine end_ret hE rfl rfl ?_ | refine end_norm hE rfl rfl ?_ | refine endG_ret [] hE rfl ?_ | refine endG_norm [] hE rfl ?_ | refine vcallB_of hP (s_l1Copy (xs.getD k default).rect hg.1 hg.2) ?_ | refine vcall_A ?_); simp (maxSteps := 2000000) only [go_sem, hP, ↓reduceIte, Nat.reduceAdd, Nat.reduceMul, Nat.reduceEqDiff, Nat.reduceSub, Nat.reduceLeDiff, reduceCtorEq, htl, Bool.and_self])
      | refine ev_skip ?_ | refine ev_block ?_ | refine ev_blk ?_ | refine ev_ret ?_ | refine ev_exit ?_ | refine evx_code_ret ?_ | refine evx_blk_ret ?_ | refine evx_lp_ret ?_
      | refine evx_code_exit ?_ | refine evx_lp_exit ?_ | refine evx_blk_hit ?_ | refine evx_blk_pass (by decide) ?_
      | refine And.intro ?_ ?_ | intro _ | decide +kernel | omega)
    all_goals first
      | exact ev_lp (k + 1) [(100000, some 28696)] (by omega) (by omega) (by simp only [go_sem, hP, ↓reduceIte, Nat.reduceAdd, Nat.reduceMul, Nat.reduceEqDiff, Nat.reduceSub, Nat.reduceLeDiff, reduceCtorEq]; rw [take_step (d := default) hlt]; simp [hw1 hlt, oEntry_eq])
      | (exfalso; omega)
      | (simp_all; done)
  · obtain rfl : k = xs.length := by omega
    repeat' (first
      | exact True.intro
      | refine ev_seq ?_
      | ((first | refine vgd_go ?_ | refine ev_region hE hM (hS (by decide +kernel)) ?_ | refine ev_if ?_ | refine end_ret hE rfl rfl ?_ | refine end_norm hE rfl rfl ?_ | refine endG_ret [] hE rfl ?_ | refine endG_norm [] hE rfl ?_ | refine vcall_A ?_); simp (maxSteps := 2000000) only [go_sem, hP, ↓reduceIte, Nat.reduceAdd, Nat.reduceMul, Nat.reduceEqDiff, Nat.reduceSub, Nat.reduceLeDiff, reduceCtorEq, htl, List.take_length])
      | refine ev_skip ?_ | refine ev_block ?_ | refine ev_blk ?_ | refine ev_ret ?_ | refine ev_exit ?_ | refine evx_code_ret ?_ | refine evx_blk_ret ?_ | refine evx_lp_ret ?_
      | refine evx_code_exit ?_ | refine evx_lp_exit ?_ | refine evx_blk_hit ?_ | refine evx_blk_pass (by decide) ?_
      | refine And.intro ?_ ?_ | intro _ | decide +kernel | omega)
    all_goals first
      | (exfalso; omega)
      | (simp_all; done)
theorem s_l3Copy (n : Node) (hw : wEntryS n.entries ≤ 1048576) : Sat Tryz.prog 31 [pNode n] true (rNode n) := by
  refine sat_walk (fn := Tryz.f31) rfl rfl rfl (Nat.le_of_ble_eq_true rfl) fun fr hP hN hbnd => ?_
  have hE : (envOf fr Tryz.prog).Ok := envOf_ok hP
  have hM := follows_of hP
  have hS : ∀ {draw ops}, statB Tryz.f31.ntmps draw ops = true → statB (envOf fr Tryz.prog).fr.N draw ops = true := fun h => by rw [envOf_fr, hN]; exact h
  repeat' (first
    | exact True.intro
    | refine ev_seq ?_
    | ((first | refine vgd_go ?_ | refine ev_region hE hM (hS (by decide +kernel)) ?_ | refine ev_if ?_ | refine end_ret hE rfl rfl ?_ | refine end_norm hE rfl rfl ?_ | refine endG_ret [] hE rfl ?_ | refine endG_norm [] hE rfl ?_ | refine vcallB_of hP (s_l3Entries n.entries hw) ?_ | refine vcall_A ?_); simp (maxSteps := 2000000) only [go_sem, hP, ↓reduceIte, Nat.reduceAdd, Nat.reduceMul, Nat.reduceEqDiff, Nat.reduceSub, Nat.reduceLeDiff, reduceCtorEq])
    | refine ev_skip ?_ | refine ev_block ?_ | refine ev_blk ?_ | refine ev_ret ?_ | refine ev_exit ?_ | refine evx_code_ret ?_ | refine evx_blk_ret ?_ | refine evx_lp_ret ?_
    | refine evx_code_exit ?_ | refine evx_lp_exit ?_ | refine evx_blk_hit ?_ | refine evx_blk_pass (by decide) ?_
    | refine And.intro ?_ ?_ | intro _ | decide +kernel | omega)
/-- All boxes have as many numbers as n tells. -/
def Even (xs : List Entry) (n : Nat) : Prop := ∀ x ∈ xs, x.rect.low.length = n ∧ x.rect.high.length = n
theorem even_get {xs : List Entry} {n k : Nat} (h : Even xs n) (hk : k < xs.length) : (xs.getD k default).rect.low.length = n ∧ (xs.getD k default).rect.high.length = n := h _ (getD_mem hk)
theorem even_drop {xs : List Entry} {n k : Nat} (h : Even xs n) : Even (xs.drop k) n := fun x hx => h x (List.mem_of_mem_drop hx)
theorem even_take {xs : List Entry} {n k : Nat} (h : Even xs n) : Even (xs.take k) n := fun x hx => h x (List.mem_of_mem_take hx)
def boxTo (xs : List Entry) : Nat → Rect
  | 0 => (xs.getD 0 default).rect
  | k + 1 => un (boxTo xs k) (xs.getD (k + 1) default).rect
theorem boxTo_zero (xs : List Entry) : boxTo xs 0 = (xs.getD 0 default).rect := rfl
theorem boxTo_succ (xs : List Entry) (k : Nat) : boxTo xs (k + 1) = un (boxTo xs k) (xs.getD (k + 1) default).rect := rfl
def bx (xs : List Entry) : Rect := boxTo xs (xs.length - 1)
theorem un_size {a b : Rect} : (un a b).low.length = a.low.length ∧ (un a b).high.length = a.low.length := by simp [un]
theorem boxTo_size {xs : List Entry} {n : Nat} (h : Even xs n) : ∀ k, k < xs.length → (boxTo xs k).low.length = n ∧ (boxTo xs k).high.length = n
  | 0, hk => even_get h hk
  | k + 1, hk => by
    have := boxTo_size h k (by omega)
    rw [boxTo_succ]
    exact ⟨by rw [un_size.1]; exact this.1, by rw [un_size.2]; exact this.1⟩
theorem boxTo_lens {xs : List Entry} {n k : Nat} (h : Even xs n) (hk : k + 1 < xs.length) : Lens (boxTo xs k) (xs.getD (k + 1) default).rect := by
  have h1 := boxTo_size h k (by omega)
  have h2 := even_get h hk
  exact ⟨by omega, by omega, by omega⟩
theorem bx_size {xs : List Entry} {n : Nat} (h : Even xs n) (h0 : 0 < xs.length) : (bx xs).low.length = n ∧ (bx xs).high.length = n := boxTo_size h _ (by omega)
theorem nf_rf {n : Node} {d : Int} (h : nf n d = 0) : ∀ x ∈ n.entries, rf x.rect d = 0 := by
  unfold nf at h
  (repeat' split at h) <;> try omega
  all_goals first
    | (rename_i h1 h2 h3; exact fun x hx => ef_rf (firstF_zero (by simpa using ‹¬firstF (entryF d) n.entries ≠ 0›) x hx))
    | skip
theorem rf_even {xs : List Entry} {d : Int} (h : ∀ x ∈ xs, rf x.rect d = 0) : Even xs d.toNat := fun x hx => by
  have := rf_len (h x hx); omega
theorem rf_two {r : Rect} {d : Int} (h : rf r d = 0) : 2 ≤ d ∧ d ≤ 3 := by
  have h1 := rf_len h
  have h2 : pf r.low d = 0 := by unfold rf at h; split at h <;> simp_all
  have := pf_three h2
  unfold pf at h2; split at h2 <;> simp_all [inB]
end Go.Proofs.YtcephdpooijciaaGreat.W
