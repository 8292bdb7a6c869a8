/- Contracts of functions that FnPairs reaches: what each returns; it writes to nothing of old. No condition but those that each theorem states. -/
import Derived.Test.YtmpndkhnajogkaaQa0
open Go Go.Vm Go.Proofs Go.IntWalk Go.RowKit
set_option maxRecDepth 100000
set_option maxHeartbeats 4000000
set_option linter.unusedSimpArgs false
set_option linter.unusedVariables false
set_option linter.unusedSectionVars false
namespace Go.Proofs.Ytmpndkhnajogkaa.W
attribute [local irreducible] kJ ev evx vops vstep vgo vgd vget vcall vcallFn vcallA vcallB vts vres vcond vbin
theorem s_clonedPairs (xs : List Pair) (hw : wPs xs ≤ 1048576) : Sat Try.prog 261 [aPs xs] true (rPs xs) := by
  refine sat_walk (fn := Try.f261) rfl rfl rfl (Nat.le_of_ble_eq_true rfl) fun fr hP hN hbnd => ?_
  have hE : (envOf fr Try.prog).Ok := envOf_ok hP
  have hM := follows_of hP
  have hS : ∀ {draw ops}, statB Try.f261.ntmps draw ops = true → statB (envOf fr Try.prog).fr.N draw ops = true := fun h => by rw [envOf_fr, hN]; exact h
  have hlen : xs.length ≤ 1048576 := by unfold wPs at hw; omega
  repeat' (first
    | exact True.intro
    | refine ev_seq ?_
    | ((first | refine vgd_go ?_ | refine ev_region hE hM (hS (by decide +kernel)) ?_ | refine ev_if ?_ | refine end_ret hE rfl rfl ?_ | refine end_norm hE rfl rfl ?_ | refine endG_ret [] hE rfl ?_ | refine endG_norm [] hE rfl ?_ | refine vcall_A ?_); simp (maxSteps := 2000000) only [go_sem, hP, ↓reduceIte, Nat.reduceAdd, Nat.reduceMul, Nat.reduceEqDiff, Nat.reduceSub, Nat.reduceLeDiff, reduceCtorEq])
    | refine ev_skip ?_ | refine ev_block ?_ | refine ev_blk ?_ | refine ev_ret ?_ | refine ev_exit ?_ | refine evx_code_ret ?_ | refine evx_blk_ret ?_ | refine evx_lp_ret ?_
    | refine evx_code_exit ?_ | refine evx_lp_exit ?_ | refine evx_blk_hit ?_ | refine evx_blk_pass (by decide) ?_
    | refine And.intro ?_ ?_ | intro _ | decide +kernel | omega)
  refine ev_loop (ι := Nat) (fun k => [(3, .ref 100000), (7, .c (sP xs)), (8, iT xs.length), (9, iT k)]) (fun k => [(100000, .arr true 105 3 ((xs.take k).map oP))]) (fun _ => []) (fun k => k ≤ xs.length) (fun k => xs.length - k) 0 [(100000, some 4096)] (by omega) (by simp only [go_sem, hP, ↓reduceIte, Nat.reduceAdd, Nat.reduceMul, Nat.reduceEqDiff, Nat.reduceSub, Nat.reduceLeDiff, reduceCtorEq]; simp) ?_
  intro k hk
  have hw1 : k < xs.length → IntKind.i64.wrap ((k : Int) + 1) = k + 1 := fun h => i64_in _ (by omega)
  have htl : ((xs.take k).map oP).length = k := by simp; omega
  by_cases hlt : k < xs.length
  · have hg := wR_get hlt hw
    repeat' (first
      | exact True.intro
      | refine ev_seq ?_
      | ((first | refine vgd_go ?_ | refine ev_region hE hM (hS (by decide +kernel)) ?_ | refine ev_if ?_ | refine end_ret hE rfl rfl ?_ | refine end_norm hE rfl rfl ?_ | refine endG_ret [] hE rfl ?_ | refine endG_norm [] hE rfl ?_ | refine vcallB_of hP (s_cloned (xs.getD k default).rect hg.1 hg.2) ?_ | refine vcall_A ?_); simp (maxSteps := 2000000) only [go_sem, hP, ↓reduceIte, Nat.reduceAdd, Nat.reduceMul, Nat.reduceEqDiff, Nat.reduceSub, Nat.reduceLeDiff, reduceCtorEq, htl, Bool.and_self])
      | refine ev_skip ?_ | refine ev_block ?_ | refine ev_blk ?_ | refine ev_ret ?_ | refine ev_exit ?_ | refine evx_code_ret ?_ | refine evx_blk_ret ?_ | refine evx_lp_ret ?_
      | refine evx_code_exit ?_ | refine evx_lp_exit ?_ | refine evx_blk_hit ?_ | refine evx_blk_pass (by decide) ?_
      | refine And.intro ?_ ?_ | intro _ | decide +kernel | omega)
    all_goals first
      | exact ev_lp (k + 1) [(100000, some 20544)] (by omega) (by omega) (by simp only [go_sem, hP, ↓reduceIte, Nat.reduceAdd, Nat.reduceMul, Nat.reduceEqDiff, Nat.reduceSub, Nat.reduceLeDiff, reduceCtorEq]; rw [take_step (d := default) hlt]; simp [hw1 hlt, oP_eq])
      | (exfalso; omega)
      | (simp_all; done)
  · obtain rfl : k = xs.length := by omega
    repeat' (first
      | exact True.intro
      | refine ev_seq ?_
      | ((first | refine vgd_go ?_ | refine ev_region hE hM (hS (by decide +kernel)) ?_ | refine ev_if ?_ | refine end_ret hE rfl rfl ?_ | refine end_norm hE rfl rfl ?_ | refine endG_ret [] hE rfl ?_ | refine endG_norm [] hE rfl ?_ | refine vcall_A ?_); simp (maxSteps := 2000000) only [go_sem, hP, ↓reduceIte, Nat.reduceAdd, Nat.reduceMul, Nat.reduceEqDiff, Nat.reduceSub, Nat.reduceLeDiff, reduceCtorEq, htl, List.take_length])
      | refine ev_skip ?_ | refine ev_block ?_ | refine ev_blk ?_ | refine ev_ret ?_ | refine ev_exit ?_ | refine evx_code_ret ?_ | refine evx_blk_ret ?_ | refine evx_lp_ret ?_
      | refine evx_code_exit ?_ | refine evx_lp_exit ?_ | refine evx_blk_hit ?_ | refine evx_blk_pass (by decide) ?_
      | refine And.intro ?_ ?_ | intro _ | decide +kernel | omega)
    all_goals first
      | (exfalso; omega)
      | (simp_all; done)
theorem s_l2Copies (xs : List Pair) (hw : wPs xs ≤ 1048576) : Sat Try.prog 205 [aPs xs] true (rPs xs) := by
  refine sat_walk (fn := Try.f205) rfl rfl rfl (Nat.le_of_ble_eq_true rfl) fun fr hP hN hbnd => ?_
  have hE : (envOf fr Try.prog).Ok := envOf_ok hP
  have hM := follows_of hP
  have hS : ∀ {draw ops}, statB Try.f205.ntmps draw ops = true → statB (envOf fr Try.prog).fr.N draw ops = true := fun h => by rw [envOf_fr, hN]; exact h
  have hlen : xs.length ≤ 1048576 := by unfold wPs at hw; omega
  repeat' (first
    | exact True.intro
    | refine ev_seq ?_
    | ((first | refine vgd_go ?_ | refine ev_region hE hM (hS (by decide +kernel)) ?_ | refine ev_if ?_ | refine end_ret hE rfl rfl ?_ | refine end_norm hE rfl rfl ?_ | refine endG_ret [] hE rfl ?_ | refine endG_norm [] hE rfl ?_ | refine vcall_A ?_); simp (maxSteps := 2000000) only [go_sem, hP, ↓reduceIte, Nat.reduceAdd, Nat.reduceMul, Nat.reduceEqDiff, Nat.reduceSub, Nat.reduceLeDiff, reduceCtorEq])
    | refine ev_skip ?_ | refine ev_block ?_ | refine ev_blk ?_ | refine ev_ret ?_ | refine ev_exit ?_ | refine evx_code_ret ?_ | refine evx_blk_ret ?_ | refine evx_lp_ret ?_
    | refine evx_code_exit ?_ | refine evx_lp_exit ?_ | refine evx_blk_hit ?_ | refine evx_blk_pass (by decide) ?_
    | refine And.intro ?_ ?_ | intro _ | decide +kernel | omega)
  refine ev_loop (ι := Nat) (fun k => [(0, .c (sP xs)), (3, .ref 100000), (4, iT k)]) (fun k => [(100000, .arr true 105 3 ((xs.take k).map oP))]) (fun _ => []) (fun k => k ≤ xs.length) (fun k => xs.length - k) 0 [(100000, some 4096)] (by omega) (by simp only [go_sem, hP, ↓reduceIte, Nat.reduceAdd, Nat.reduceMul, Nat.reduceEqDiff, Nat.reduceSub, Nat.reduceLeDiff, reduceCtorEq]; simp) ?_
  intro k hk
  have hw1 : k < xs.length → IntKind.i64.wrap ((k : Int) + 1) = k + 1 := fun h => i64_in _ (by omega)
  have htl : ((xs.take k).map oP).length = k := by simp; omega
  by_cases hlt : k < xs.length
  · have hg := wR_get hlt hw
    repeat' (first
      | exact True.intro
      | refine ev_seq ?_
      | ((first | refine vgd_go ?_ | refine ev_region hE hM (hS (by decide +kernel)) ?_ | refine ev_if ?_ | refine end_ret hE rfl rfl ?_ | refine end_norm hE rfl rfl ?_ | refine endG_ret [] hE rfl ?_ | refine endG_norm [] hE rfl ?_ | refine vcallB_of hP (s_l2Copy (xs.getD k default) hg.1 hg.2) ?_ | refine vcall_A ?_); simp (maxSteps := 2000000) only [go_sem, hP, ↓reduceIte, Nat.reduceAdd, Nat.reduceMul, Nat.reduceEqDiff, Nat.reduceSub, Nat.reduceLeDiff, reduceCtorEq, htl, Bool.and_self])
      | refine ev_skip ?_ | refine ev_block ?_ | refine ev_blk ?_ | refine ev_ret ?_ | refine ev_exit ?_ | refine evx_code_ret ?_ | refine evx_blk_ret ?_ | refine evx_lp_ret ?_
      | refine evx_code_exit ?_ | refine evx_lp_exit ?_ | refine evx_blk_hit ?_ | refine evx_blk_pass (by decide) ?_
      | refine And.intro ?_ ?_ | intro _ | decide +kernel | omega)
    all_goals first
      | exact ev_lp (k + 1) [(100000, some 20528)] (by omega) (by omega) (by simp only [go_sem, hP, ↓reduceIte, Nat.reduceAdd, Nat.reduceMul, Nat.reduceEqDiff, Nat.reduceSub, Nat.reduceLeDiff, reduceCtorEq]; rw [take_step (d := default) hlt]; simp [hw1 hlt, oP_eq])
      | (exfalso; omega)
      | (simp_all; done)
  · obtain rfl : k = xs.length := by omega
    repeat' (first
      | exact True.intro
      | refine ev_seq ?_
      | ((first | refine vgd_go ?_ | refine ev_region hE hM (hS (by decide +kernel)) ?_ | refine ev_if ?_ | refine end_ret hE rfl rfl ?_ | refine end_norm hE rfl rfl ?_ | refine endG_ret [] hE rfl ?_ | refine endG_norm [] hE rfl ?_ | refine vcall_A ?_); simp (maxSteps := 2000000) only [go_sem, hP, ↓reduceIte, Nat.reduceAdd, Nat.reduceMul, Nat.reduceEqDiff, Nat.reduceSub, Nat.reduceLeDiff, reduceCtorEq, htl, List.take_length])
      | refine ev_skip ?_ | refine ev_block ?_ | refine ev_blk ?_ | refine ev_ret ?_ | refine ev_exit ?_ | refine evx_code_ret ?_ | refine evx_blk_ret ?_ | refine evx_lp_ret ?_
      | refine evx_code_exit ?_ | refine evx_lp_exit ?_ | refine evx_blk_hit ?_ | refine evx_blk_pass (by decide) ?_
      | refine And.intro ?_ ?_ | intro _ | decide +kernel | omega)
    all_goals first
      | (exfalso; omega)
      | (simp_all; done)
/-- Where a pair is put among others. -/
def addAt (xs : List Pair) (p : Pair) : Nat := if xs.any (fun q => decide (p.id < q.id)) then xs.findIdx (fun q => decide (p.id < q.id)) else xs.length
def addV (xs : List Pair) (p : Pair) : List Pair := xs.take (addAt xs p) ++ [p] ++ xs.drop (addAt xs p)
theorem addAt_le (xs : List Pair) (p : Pair) : addAt xs p ≤ xs.length := by
  unfold addAt; split
  · exact List.findIdx_le_length
  · exact Nat.le_refl _
theorem addAt_lt {xs : List Pair} {p : Pair} {k : Nat} (h : k < addAt xs p) : ¬ p.id < (xs.getD k default).id := by
  have hl := addAt_le xs p
  unfold addAt at h
  split at h
  · have := List.not_of_lt_findIdx h
    have hx := List.findIdx_le_length (p := fun q : Pair => decide (p.id < q.id)) (xs := xs)
    rw [getD_lt (by omega)]
    simpa using this
  · rename_i ha
    have ha : xs.any (fun q => decide (p.id < q.id)) = false := by simpa using ha
    have := List.any_eq_false.1 ha _ (getD_mem (d := default) h)
    simpa using this
theorem addAt_eq {xs : List Pair} {p : Pair} (h : addAt xs p < xs.length) : p.id < (xs.getD (addAt xs p) default).id := by
  unfold addAt at h ⊢
  split at h
  · rename_i ha
    rw [if_pos ha, getD_lt h]
    have := List.findIdx_getElem (w := h)
    simpa using this
  · omega
/-- The row while it is made. -/
def addK (xs : List Pair) (p : Pair) (k : Nat) : List Pair := if k ≤ addAt xs p then xs.take k else xs.take (addAt xs p) ++ p :: (xs.take k).drop (addAt xs p)
theorem addK_lo {xs : List Pair} {p : Pair} {k : Nat} (h : k < addAt xs p) : addK xs p (k + 1) = addK xs p k ++ [xs.getD k default] := by
  have := addAt_le xs p
  unfold addK
  rw [if_pos (by omega), if_pos (by omega), take_step (d := default) (by omega)]
theorem addK_at {xs : List Pair} {p : Pair} (h : addAt xs p < xs.length) : addK xs p (addAt xs p + 1) = addK xs p (addAt xs p) ++ [p] ++ [xs.getD (addAt xs p) default] := by
  unfold addK
  rw [if_neg (by omega), if_pos (Nat.le_refl _), take_step (d := default) h]
  have e : (xs.take (addAt xs p)).length = addAt xs p := by rw [List.length_take]; omega
  rw [List.drop_append, e, Nat.sub_self, List.drop_zero, List.drop_eq_nil_of_le (by omega)]
  simp
theorem addK_hi {xs : List Pair} {p : Pair} {k : Nat} (h : addAt xs p < k) (hk : k < xs.length) : addK xs p (k + 1) = addK xs p k ++ [xs.getD k default] := by
  unfold addK
  rw [if_neg (by omega), if_neg (by omega), take_step (d := default) hk]
  have e : (xs.take k).length = k := by rw [List.length_take]; omega
  rw [List.drop_append, e, show addAt xs p - k = 0 by omega, List.drop_zero]
  simp
theorem addK_done {xs : List Pair} {p : Pair} (h : addAt xs p < xs.length) : addK xs p xs.length = addV xs p := by
  unfold addK addV
  rw [if_neg (by omega), List.take_length]; simp
theorem addK_last {xs : List Pair} {p : Pair} (h : ¬ addAt xs p < xs.length) : addK xs p xs.length ++ [p] = addV xs p := by
  have := addAt_le xs p
  have e : addAt xs p = xs.length := by omega
  unfold addK addV
  rw [e, if_pos (Nat.le_refl _)]; simp
theorem addK_zero (xs : List Pair) (p : Pair) : addK xs p 0 = [] := by unfold addK; rw [if_pos (Nat.zero_le _)]; rfl
theorem addK_len {xs : List Pair} {p : Pair} (k : Nat) : (addK xs p k).length ≤ k + 1 := by
  unfold addK; split
  · rw [List.length_take]; omega
  · simp; omega
theorem wPs_append (xs ys : List Pair) : wPs (xs ++ ys) = wPs xs + wPs ys := by unfold wPs sumW; simp; omega
theorem wPs_split (xs : List Pair) (i : Nat) : wPs (xs.take i) + wPs (xs.drop i) = wPs xs := by rw [← wPs_append, List.take_append_drop]
theorem addV_w (xs : List Pair) (p : Pair) : wPs (addV xs p) = wPs xs + 1 + wR p.rect := by
  have := wPs_split xs (addAt xs p)
  have e : wPs [p] = 1 + wR p.rect := by simp [wPs, sumW]
  unfold addV
  rw [wPs_append, wPs_append, e]; omega
theorem s_added1 (q p : Pair) : Sat Try.prog 259 [aP q, .pv (eP p)] true (rB (decide (p.id < q.id))) := by
  refine sat_walk (fn := Try.f259) rfl rfl rfl (Nat.le_of_ble_eq_true rfl) fun fr hP hN hbnd => ?_
  have hE : (envOf fr Try.prog).Ok := envOf_ok hP
  have hM := follows_of hP
  have hS : ∀ {draw ops}, statB Try.f259.ntmps draw ops = true → statB (envOf fr Try.prog).fr.N draw ops = true := fun h => by rw [envOf_fr, hN]; exact h
  repeat' (first
    | exact True.intro
    | refine ev_seq ?_
    | ((first | refine vgd_go ?_ | refine ev_region hE hM (hS (by decide +kernel)) ?_ | refine ev_if ?_ | refine end_ret hE rfl rfl ?_ | refine end_norm hE rfl rfl ?_ | refine endG_ret [] hE rfl ?_ | refine endG_norm [] hE rfl ?_ | refine vcall_A ?_); simp (maxSteps := 2000000) only [go_sem, hP, ↓reduceIte, Nat.reduceAdd, Nat.reduceMul, Nat.reduceEqDiff, Nat.reduceSub, Nat.reduceLeDiff, reduceCtorEq])
    | refine ev_skip ?_ | refine ev_block ?_ | refine ev_blk ?_ | refine ev_ret ?_ | refine ev_exit ?_ | refine evx_code_ret ?_ | refine evx_blk_ret ?_ | refine evx_lp_ret ?_
    | refine evx_code_exit ?_ | refine evx_lp_exit ?_ | refine evx_blk_hit ?_ | refine evx_blk_pass (by decide) ?_
    | refine And.intro ?_ ?_ | intro _ | decide +kernel | omega)
theorem s_added (xs : List Pair) (p : Pair) (hw : wPs xs ≤ 1048576) (h1 : p.rect.low.length ≤ 1048576) (h2 : p.rect.high.length ≤ 1048576) : Sat Try.prog 201 [aPs xs, aP p] true (rPs (addV xs p)) := by
  refine sat_walk (fn := Try.f201) rfl rfl rfl (Nat.le_of_ble_eq_true rfl) fun fr hP hN hbnd => ?_
  have hE : (envOf fr Try.prog).Ok := envOf_ok hP
  have hM := follows_of hP
  have hS : ∀ {draw ops}, statB Try.f201.ntmps draw ops = true → statB (envOf fr Try.prog).fr.N draw ops = true := fun h => by rw [envOf_fr, hN]; exact h
  have hlen : xs.length ≤ 1048576 := by unfold wPs at hw; omega
  have hl := addAt_le xs p
  have c1 := s_IndexFuncPair xs (fun ds rs => Sat Try.prog 259 (ds.map .d ++ [.pv (eP p)]) true rs) (fun e => decide (p.id < e.id)) (fun x _ => s_added1 x p)
  have c2 := s_InsertPair xs p (addAt xs p) hl hlen
  by_cases ha : xs.any (fun q => decide (p.id < q.id)) = true
  · have e1 : addAt xs p = xs.findIdx (fun q => decide (p.id < q.id)) := if_pos ha
    rw [e1] at c2
    repeat' (first
      | exact True.intro
      | refine ev_seq ?_
      | ((first | refine vgd_go ?_ | refine ev_region hE hM (hS (by decide +kernel)) ?_ | refine ev_if ?_ | refine end_ret hE rfl rfl ?_ | refine end_norm hE rfl rfl ?_ | refine endG_ret [] hE rfl ?_ | refine endG_norm [] hE rfl ?_ | refine vcallB_of hP (s_IndexFuncPair xs _ (fun e => decide (p.id < e.id)) (fun x _ => s_added1 x p)) ?_ | refine vcallB_of hP (s_clonedPairs xs hw) ?_ | refine vcallB_of hP (s_cloned p.rect h1 h2) ?_ | refine vcallG_of (args := [_, _, _]) [(1, 16392), (2, 16456)] [] hP c2 ?_ | refine vcall_A ?_); simp (maxSteps := 2000000) only [go_sem, hP, ↓reduceIte, Nat.reduceAdd, Nat.reduceMul, Nat.reduceEqDiff, Nat.reduceSub, Nat.reduceLeDiff, reduceCtorEq, ha])
      | refine ev_skip ?_ | refine ev_block ?_ | refine ev_blk ?_ | refine ev_ret ?_ | refine ev_exit ?_ | refine evx_code_ret ?_ | refine evx_blk_ret ?_ | refine evx_lp_ret ?_
      | refine evx_code_exit ?_ | refine evx_lp_exit ?_ | refine evx_blk_hit ?_ | refine evx_blk_pass (by decide) ?_
      | refine And.intro ?_ ?_ | intro _ | decide +kernel | omega)
    all_goals first
      | (exfalso; omega)
      | (simp_all [addV]; done)
  · have e1 : addAt xs p = xs.length := if_neg ha
    have ha : xs.any (fun q => decide (p.id < q.id)) = false := by simpa using ha
    rw [e1] at c2
    repeat' (first
      | exact True.intro
      | refine ev_seq ?_
      | ((first | refine vgd_go ?_ | refine ev_region hE hM (hS (by decide +kernel)) ?_ | refine ev_if ?_ | refine end_ret hE rfl rfl ?_ | refine end_norm hE rfl rfl ?_ | refine endG_ret [] hE rfl ?_ | refine endG_norm [] hE rfl ?_ | refine vcallB_of hP (s_IndexFuncPair xs _ (fun e => decide (p.id < e.id)) (fun x _ => s_added1 x p)) ?_ | refine vcallB_of hP (s_clonedPairs xs hw) ?_ | refine vcallB_of hP (s_cloned p.rect h1 h2) ?_ | refine vcallG_of (args := [_, _, _]) [(1, 16392), (2, 16456)] [] hP c2 ?_ | refine vcall_A ?_); simp (maxSteps := 2000000) only [go_sem, hP, ↓reduceIte, Nat.reduceAdd, Nat.reduceMul, Nat.reduceEqDiff, Nat.reduceSub, Nat.reduceLeDiff, reduceCtorEq, ha])
      | refine ev_skip ?_ | refine ev_block ?_ | refine ev_blk ?_ | refine ev_ret ?_ | refine ev_exit ?_ | refine evx_code_ret ?_ | refine evx_blk_ret ?_ | refine evx_lp_ret ?_
      | refine evx_code_exit ?_ | refine evx_lp_exit ?_ | refine evx_blk_hit ?_ | refine evx_blk_pass (by decide) ?_
      | refine And.intro ?_ ?_ | intro _ | decide +kernel | omega)
    all_goals first
      | (exfalso; omega)
      | (simp_all [addV]; done)
def tpC (xs : List Pair) (d : Int) (p : Pair) : Int := if mf xs d ≠ 0 then mf xs d else if pairF d p ≠ 0 then pairF d p else if findId xs p.id < 0 ∨ ¬ (xs.getD (findId xs p.id).toNat default).rect = p.rect then 4 else 0
def tpV (xs : List Pair) (d : Int) (p : Pair) : List Pair := if tpC xs d p = 0 then xs.take (findId xs p.id).toNat ++ xs.drop ((findId xs p.id).toNat + 1) else []
def apC (xs : List Pair) (d : Int) (p : Pair) : Int := if mf xs d ≠ 0 then mf xs d else if pairF d p ≠ 0 then pairF d p else if 0 ≤ findId xs p.id then 6 else if (60 : Int) ≤ xs.length then 7 else 0
def apV (xs : List Pair) (d : Int) (p : Pair) : List Pair := if apC xs d p = 0 then addV xs p else []
def chC (xs : List Pair) (d : Int) (p : Pair) : Int := if mf xs d ≠ 0 then mf xs d else pairF d p
theorem mf_len {xs : List Pair} {d : Int} (h : mf xs d = 0) : xs.length ≤ 60 := by
  unfold mf at h; (repeat' split at h) <;> omega
theorem pairF_rf {p : Pair} {d : Int} (h : pairF d p = 0) : rf p.rect d = 0 := by
  unfold pairF at h; split at h <;> simp_all
theorem mf_rise {xs : List Pair} {d : Int} (h : mf xs d = 0) : ∀ i j, i < j → j < xs.length → (xs.getD i default).id < (xs.getD j default).id := by
  have h1 : allLt xs.length (risesAt xs) = true := by unfold mf at h; (repeat' split at h) <;> first | omega | assumption
  have h2 : ∀ j, j + 1 < xs.length → (xs.getD j default).id < (xs.getD (j + 1) default).id := fun j hj => by
    have := allLt_iff.mp h1 (j + 1) hj
    simpa [risesAt] using this
  intro i j hij
  induction j with
  | zero => omega
  | succ j ih =>
    intro hj
    by_cases e : i = j
    · subst e; exact h2 i hj
    · have := ih (by omega) (by omega); have := h2 j hj; omega
theorem rf_wR {r : Rect} {d : Int} (h : rf r d = 0) : wR r ≤ 6 := by
  have h1 := rf_len h
  have h2 := rf_two h
  unfold wR; omega
theorem mf_w {xs : List Pair} {d : Int} (h : mf xs d = 0) : wPs xs ≤ 7 * xs.length := by
  have h0 : firstF (pairF d) xs = 0 := by unfold mf at h; (repeat' split at h) <;> first | omega | simp_all
  have h1 := firstF_zero h0
  have : ∀ ys : List Pair, (∀ x ∈ ys, pairF d x = 0) → wPs ys ≤ 7 * ys.length := by
    intro ys
    induction ys with
    | nil => intro _; exact Nat.zero_le _
    | cons y ys ih =>
      intro hy
      have e : wPs (y :: ys) = 1 + wR y.rect + wPs ys := by unfold wPs sumW; simp; omega
      have h2 := rf_wR (pairF_rf (hy y (by simp)))
      have h3 := ih fun x hx => hy x (by simp [hx])
      rw [e, List.length_cons]; omega
  exact this xs h1
theorem s_changeFault (xs : List Pair) (d : Int) (p : Pair) : Sat Try.prog 199 [aPs xs, aI d, aP p] true (rI (chC xs d p)) := by
  refine sat_walk (fn := Try.f199) rfl rfl rfl (Nat.le_of_ble_eq_true rfl) fun fr hP hN hbnd => ?_
  have hE : (envOf fr Try.prog).Ok := envOf_ok hP
  have hM := follows_of hP
  have hS : ∀ {draw ops}, statB Try.f199.ntmps draw ops = true → statB (envOf fr Try.prog).fr.N draw ops = true := fun h => by rw [envOf_fr, hN]; exact h
  repeat' (first
    | exact True.intro
    | refine ev_seq ?_
    | ((first | refine vgd_go ?_ | refine ev_region hE hM (hS (by decide +kernel)) ?_ | refine ev_if ?_ | refine end_ret hE rfl rfl ?_ | refine end_norm hE rfl rfl ?_ | refine endG_ret [] hE rfl ?_ | refine endG_norm [] hE rfl ?_ | refine vcallB_of hP (s_implModelFault xs d) ?_ | refine vcallB_of hP (s_pairFault p d) ?_ | refine vcall_A ?_); simp (maxSteps := 2000000) only [go_sem, hP, ↓reduceIte, Nat.reduceAdd, Nat.reduceMul, Nat.reduceEqDiff, Nat.reduceSub, Nat.reduceLeDiff, reduceCtorEq])
    | refine ev_skip ?_ | refine ev_block ?_ | refine ev_blk ?_ | refine ev_ret ?_ | refine ev_exit ?_ | refine evx_code_ret ?_ | refine evx_blk_ret ?_ | refine evx_lp_ret ?_
    | refine evx_code_exit ?_ | refine evx_lp_exit ?_ | refine evx_blk_hit ?_ | refine evx_blk_pass (by decide) ?_
    | refine And.intro ?_ ?_ | intro _ | decide +kernel | omega)
  all_goals (simp_all [chC]; done)
theorem s_l2Ask (xs : List Pair) (d : Int) (p : Pair) : Sat Try.prog 203 [aPs xs, aI d, .pv (eP p)] true (rI (chC xs d p)) := by
  refine sat_walk (fn := Try.f203) rfl rfl rfl (Nat.le_of_ble_eq_true rfl) fun fr hP hN hbnd => ?_
  have hE : (envOf fr Try.prog).Ok := envOf_ok hP
  have hM := follows_of hP
  have hS : ∀ {draw ops}, statB Try.f203.ntmps draw ops = true → statB (envOf fr Try.prog).fr.N draw ops = true := fun h => by rw [envOf_fr, hN]; exact h
  repeat' (first
    | exact True.intro
    | refine ev_seq ?_
    | ((first | refine vgd_go ?_ | refine ev_region hE hM (hS (by decide +kernel)) ?_ | refine ev_if ?_ | refine end_ret hE rfl rfl ?_ | refine end_norm hE rfl rfl ?_ | refine endG_ret [] hE rfl ?_ | refine endG_norm [] hE rfl ?_ | refine vcallB_of hP (s_specModelFault xs d) ?_ | refine vcallB_of hP (s_l2Pair p d) ?_ | refine vcall_A ?_); simp (maxSteps := 2000000) only [go_sem, hP, ↓reduceIte, Nat.reduceAdd, Nat.reduceMul, Nat.reduceEqDiff, Nat.reduceSub, Nat.reduceLeDiff, reduceCtorEq])
    | refine ev_skip ?_ | refine ev_block ?_ | refine ev_blk ?_ | refine ev_ret ?_ | refine ev_exit ?_ | refine evx_code_ret ?_ | refine evx_blk_ret ?_ | refine evx_lp_ret ?_
    | refine evx_code_exit ?_ | refine evx_lp_exit ?_ | refine evx_blk_hit ?_ | refine evx_blk_pass (by decide) ?_
    | refine And.intro ?_ ?_ | intro _ | decide +kernel | omega)
  all_goals (simp_all [chC]; done)
theorem s_implAddPair (xs : List Pair) (d : Int) (p : Pair) (hw : wPs xs ≤ 1048576) : Sat Try.prog 87 [aPs xs, aI d, aP p] true (rPsR (apC xs d p) (apV xs d p)) := by
  refine sat_walk (fn := Try.f87) rfl rfl rfl (Nat.le_of_ble_eq_true rfl) fun fr hP hN hbnd => ?_
  have hE : (envOf fr Try.prog).Ok := envOf_ok hP
  have hM := follows_of hP
  have hS : ∀ {draw ops}, statB Try.f87.ntmps draw ops = true → statB (envOf fr Try.prog).fr.N draw ops = true := fun h => by rw [envOf_fr, hN]; exact h
  by_cases hc : chC xs d p = 0
  · have h1 : mf xs d = 0 := by unfold chC at hc; split at hc <;> simp_all
    have h2 : pairF d p = 0 := by unfold chC at hc; split at hc <;> simp_all
    have h3 := mf_len h1
    have h4 := pairF_rf h2
    have h5 := rf_len h4
    have h6 := rf_two h4
    have c := s_added xs p hw (by omega) (by omega)
    rcases Int.lt_or_le (findId xs p.id) 0 with h7 | h7
    · have h8 : ¬ 0 ≤ findId xs p.id := by omega
      by_cases h9 : xs.length = 60
      · have e1 : apC xs d p = 7 := by unfold apC; rw [if_neg (by simpa using h1), if_neg (by simpa using h2), if_neg h8, if_pos (by omega)]
        have e2 : apV xs d p = [] := by unfold apV; rw [e1]; rfl
        rw [e1, e2]
        repeat' (first
          | exact True.intro
          | refine ev_seq ?_
          | ((first | refine vgd_go ?_ | refine ev_region hE hM (hS (by decide +kernel)) ?_ | refine ev_if ?_ | refine end_ret hE rfl rfl ?_ | refine end_norm hE rfl rfl ?_ | refine endG_ret [] hE rfl ?_ | refine endG_norm [] hE rfl ?_ | refine vcallB_of hP (s_changeFault xs d p) ?_ | refine vcallB_of hP (s_indexOf xs p.id) ?_ | refine vcallB_of hP c ?_ | refine vcall_A ?_); simp (maxSteps := 2000000) only [go_sem, hP, ↓reduceIte, Nat.reduceAdd, Nat.reduceMul, Nat.reduceEqDiff, Nat.reduceSub, Nat.reduceLeDiff, reduceCtorEq, hc])
          | refine ev_skip ?_ | refine ev_block ?_ | refine ev_blk ?_ | refine ev_ret ?_ | refine ev_exit ?_ | refine evx_code_ret ?_ | refine evx_blk_ret ?_ | refine evx_lp_ret ?_
          | refine evx_code_exit ?_ | refine evx_lp_exit ?_ | refine evx_blk_hit ?_ | refine evx_blk_pass (by decide) ?_
          | refine And.intro ?_ ?_ | intro _ | decide +kernel | omega)
        all_goals first | (exfalso; omega) | (simp_all; done)
      · have e1 : apC xs d p = 0 := by unfold apC; rw [if_neg (by simpa using h1), if_neg (by simpa using h2), if_neg h8, if_neg (by omega)]
        have e2 : apV xs d p = addV xs p := by unfold apV; rw [e1]; rfl
        rw [e1, e2]
        have h10 : ((xs.length : Int) == 60) = false := by simp; omega
        repeat' (first
          | exact True.intro
          | refine ev_seq ?_
          | ((first | refine vgd_go ?_ | refine ev_region hE hM (hS (by decide +kernel)) ?_ | refine ev_if ?_ | refine end_ret hE rfl rfl ?_ | refine end_norm hE rfl rfl ?_ | refine endG_ret [] hE rfl ?_ | refine endG_norm [] hE rfl ?_ | refine vcallB_of hP (s_changeFault xs d p) ?_ | refine vcallB_of hP (s_indexOf xs p.id) ?_ | refine vcallB_of hP c ?_ | refine vcall_A ?_); simp (maxSteps := 2000000) only [go_sem, hP, ↓reduceIte, Nat.reduceAdd, Nat.reduceMul, Nat.reduceEqDiff, Nat.reduceSub, Nat.reduceLeDiff, reduceCtorEq, hc, h10])
          | refine ev_skip ?_ | refine ev_block ?_ | refine ev_blk ?_ | refine ev_ret ?_ | refine ev_exit ?_ | refine evx_code_ret ?_ | refine evx_blk_ret ?_ | refine evx_lp_ret ?_
          | refine evx_code_exit ?_ | refine evx_lp_exit ?_ | refine evx_blk_hit ?_ | refine evx_blk_pass (by decide) ?_
          | refine And.intro ?_ ?_ | intro _ | decide +kernel | omega)
        all_goals first | (exfalso; omega) | (simp_all; done)
    · have e1 : apC xs d p = 6 := by unfold apC; rw [if_neg (by simpa using h1), if_neg (by simpa using h2), if_pos h7]
      have e2 : apV xs d p = [] := by unfold apV; rw [e1]; rfl
      rw [e1, e2]
      repeat' (first
        | exact True.intro
        | refine ev_seq ?_
        | ((first | refine vgd_go ?_ | refine ev_region hE hM (hS (by decide +kernel)) ?_ | refine ev_if ?_ | refine end_ret hE rfl rfl ?_ | refine end_norm hE rfl rfl ?_ | refine endG_ret [] hE rfl ?_ | refine endG_norm [] hE rfl ?_ | refine vcallB_of hP (s_changeFault xs d p) ?_ | refine vcallB_of hP (s_indexOf xs p.id) ?_ | refine vcall_A ?_); simp (maxSteps := 2000000) only [go_sem, hP, ↓reduceIte, Nat.reduceAdd, Nat.reduceMul, Nat.reduceEqDiff, Nat.reduceSub, Nat.reduceLeDiff, reduceCtorEq, hc])
        | refine ev_skip ?_ | refine ev_block ?_ | refine ev_blk ?_ | refine ev_ret ?_ | refine ev_exit ?_ | refine evx_code_ret ?_ | refine evx_blk_ret ?_ | refine evx_lp_ret ?_
        | refine evx_code_exit ?_ | refine evx_lp_exit ?_ | refine evx_blk_hit ?_ | refine evx_blk_pass (by decide) ?_
        | refine And.intro ?_ ?_ | intro _ | decide +kernel | omega)
      all_goals first | (exfalso; omega) | (simp_all; done)
  · have e1 : apC xs d p = chC xs d p := by unfold apC chC at *; split <;> simp_all
    have e2 : apV xs d p = [] := by unfold apV; rw [if_neg (by rw [e1]; exact hc)]
    rw [e1, e2]
    repeat' (first
      | exact True.intro
      | refine ev_seq ?_
      | ((first | refine vgd_go ?_ | refine ev_region hE hM (hS (by decide +kernel)) ?_ | refine ev_if ?_ | refine end_ret hE rfl rfl ?_ | refine end_norm hE rfl rfl ?_ | refine endG_ret [] hE rfl ?_ | refine endG_norm [] hE rfl ?_ | refine vcallB_of hP (s_changeFault xs d p) ?_ | refine vcall_A ?_); simp (maxSteps := 2000000) only [go_sem, hP, ↓reduceIte, Nat.reduceAdd, Nat.reduceMul, Nat.reduceEqDiff, Nat.reduceSub, Nat.reduceLeDiff, reduceCtorEq])
      | refine ev_skip ?_ | refine ev_block ?_ | refine ev_blk ?_ | refine ev_ret ?_ | refine ev_exit ?_ | refine evx_code_ret ?_ | refine evx_blk_ret ?_ | refine evx_lp_ret ?_
      | refine evx_code_exit ?_ | refine evx_lp_exit ?_ | refine evx_blk_hit ?_ | refine evx_blk_pass (by decide) ?_
      | refine And.intro ?_ ?_ | intro _ | decide +kernel | omega)
    all_goals first | (exfalso; omega) | (simp_all; done)
theorem s_l2Add (xs : List Pair) (p : Pair) (hl : xs.length ≤ 1048576) : Sat Try.prog 206 [aPs xs, aP p] false [(false, [sP (addV xs p)])] := by
  refine sat_walk (fn := Try.f206) rfl rfl rfl (Nat.le_of_ble_eq_true rfl) fun fr hP hN hbnd => ?_
  have hE : (envOf fr Try.prog).Ok := envOf_ok hP
  have hM := follows_of hP
  have hS : ∀ {draw ops}, statB Try.f206.ntmps draw ops = true → statB (envOf fr Try.prog).fr.N draw ops = true := fun h => by rw [envOf_fr, hN]; exact h
  have ha := addAt_le xs p
  repeat' (first
    | exact True.intro
    | refine ev_seq ?_
    | ((first | refine vgd_go ?_ | refine ev_region hE hM (hS (by decide +kernel)) ?_ | refine ev_if ?_ | refine end_ret hE rfl rfl ?_ | refine end_norm hE rfl rfl ?_ | refine endG_ret [] hE rfl ?_ | refine endG_norm [] hE rfl ?_ | refine vcall_A ?_); simp (maxSteps := 2000000) only [go_sem, hP, ↓reduceIte, Nat.reduceAdd, Nat.reduceMul, Nat.reduceEqDiff, Nat.reduceSub, Nat.reduceLeDiff, reduceCtorEq])
    | refine ev_skip ?_ | refine ev_block ?_ | refine ev_blk ?_ | refine ev_ret ?_ | refine ev_exit ?_ | refine evx_code_ret ?_ | refine evx_blk_ret ?_ | refine evx_lp_ret ?_
    | refine evx_code_exit ?_ | refine evx_lp_exit ?_ | refine evx_blk_hit ?_ | refine evx_blk_pass (by decide) ?_
    | refine And.intro ?_ ?_ | intro _ | decide +kernel | omega)
  refine ev_loop (ι := Nat) (fun k => [(0, .c (sP xs)), (3, .ptr 0 0), (5, .ref 100000), (6, .c (.bool (decide (addAt xs p < k)))), (7, iT k)]) (fun k => [(0, .box [iT p.id, .c (sI p.rect.low), .c (sI p.rect.high)]), (100000, .arr (decide (k = 0)) 105 3 ((addK xs p k).map eP))]) (fun _ => []) (fun k => k ≤ xs.length) (fun k => xs.length - k) 0 [(100000, some 4096)] (by omega) (by simp only [go_sem, hP, ↓reduceIte, Nat.reduceAdd, Nat.reduceMul, Nat.reduceEqDiff, Nat.reduceSub, Nat.reduceLeDiff, reduceCtorEq]; simp [addK_zero]) ?_
  intro k hk
  have hw1 : k < xs.length → IntKind.i64.wrap ((k : Int) + 1) = k + 1 := fun h => i64_in _ (by omega)
  have hal := addK_len (xs := xs) (p := p) k
  by_cases hlt : k < xs.length
  · rcases Nat.lt_trichotomy k (addAt xs p) with h1 | h1 | h1
    · have h2 := addAt_lt h1
      have h3 : decide (addAt xs p < k) = false := by simp; omega
      have h4 : decide (addAt xs p < k + 1) = false := by simp; omega
      by_cases h0 : k = 0
      · subst h0
        repeat' (first
          | exact True.intro
          | refine ev_seq ?_
          | ((first | refine vgd_go ?_ | refine ev_region hE hM (hS (by decide +kernel)) ?_ | refine ev_if ?_ | refine end_ret hE rfl rfl ?_ | refine end_norm hE rfl rfl ?_ | refine endG_ret [] hE rfl ?_ | refine endG_norm [] hE rfl ?_ | refine vcall_A ?_); simp (maxSteps := 2000000) only [go_sem, hP, ↓reduceIte, Nat.reduceAdd, Nat.reduceMul, Nat.reduceEqDiff, Nat.reduceSub, Nat.reduceLeDiff, reduceCtorEq, h3, addK_zero, Bool.and_self, List.length_map])
          | refine ev_skip ?_ | refine ev_block ?_ | refine ev_blk ?_ | refine ev_ret ?_ | refine ev_exit ?_ | refine evx_code_ret ?_ | refine evx_blk_ret ?_ | refine evx_lp_ret ?_
          | refine evx_code_exit ?_ | refine evx_lp_exit ?_ | refine evx_blk_hit ?_ | refine evx_blk_pass (by decide) ?_
          | refine And.intro ?_ ?_ | intro _ | decide +kernel | omega)
        all_goals first
          | exact ev_lp 1 [(100000, some 36912)] (by omega) (by omega) (by simp only [go_sem, hP, ↓reduceIte, Nat.reduceAdd, Nat.reduceMul, Nat.reduceEqDiff, Nat.reduceSub, Nat.reduceLeDiff, reduceCtorEq]; have := addK_lo h1; simp only [Nat.zero_add] at this h4; rw [this, h4]; simp [addK_zero, eP_eq, Es.strip, show IntKind.i64.wrap 1 = 1 from rfl])
          | (exfalso; omega)
          | (simp [Es.strip]; done)
          | (simp [Es.strip]; omega)
          | (simp_all; done)
      · have h5 : decide (k = 0) = false := by simpa using h0
        repeat' (first
          | exact True.intro
          | refine ev_seq ?_
          | ((first | refine vgd_go ?_ | refine ev_region hE hM (hS (by decide +kernel)) ?_ | refine ev_if ?_ | refine end_ret hE rfl rfl ?_ | refine end_norm hE rfl rfl ?_ | refine endG_ret [] hE rfl ?_ | refine endG_norm [] hE rfl ?_ | refine vcall_A ?_); simp (maxSteps := 2000000) only [go_sem, hP, ↓reduceIte, Nat.reduceAdd, Nat.reduceMul, Nat.reduceEqDiff, Nat.reduceSub, Nat.reduceLeDiff, reduceCtorEq, h3, h5, Bool.and_self, List.length_map])
          | refine ev_skip ?_ | refine ev_block ?_ | refine ev_blk ?_ | refine ev_ret ?_ | refine ev_exit ?_ | refine evx_code_ret ?_ | refine evx_blk_ret ?_ | refine evx_lp_ret ?_
          | refine evx_code_exit ?_ | refine evx_lp_exit ?_ | refine evx_blk_hit ?_ | refine evx_blk_pass (by decide) ?_
          | refine And.intro ?_ ?_ | intro _ | decide +kernel | omega)
        all_goals first
          | exact ev_lp (k + 1) [(100000, some 36912)] (by omega) (by omega) (by simp only [go_sem, hP, ↓reduceIte, Nat.reduceAdd, Nat.reduceMul, Nat.reduceEqDiff, Nat.reduceSub, Nat.reduceLeDiff, reduceCtorEq]; rw [addK_lo h1, h4]; simp [hw1 hlt, eP_eq])
          | (exfalso; omega)
          | (simp [Es.strip]; done)
          | (simp [Es.strip]; omega)
          | (simp_all; done)
    · have h2 := addAt_eq (xs := xs) (p := p) (by omega)
      have h3 : decide (addAt xs p < k) = false := by simp; omega
      have h4 : decide (addAt xs p < k + 1) = true := by simp; omega
      have h6 := addK_at (xs := xs) (p := p) (by omega)
      rw [← h1] at h2 h6
      by_cases h0 : k = 0
      · subst h0
        repeat' (first
          | exact True.intro
          | refine ev_seq ?_
          | ((first | refine vgd_go ?_ | refine ev_region hE hM (hS (by decide +kernel)) ?_ | refine ev_if ?_ | refine end_ret hE rfl rfl ?_ | refine end_norm hE rfl rfl ?_ | refine endG_ret [] hE rfl ?_ | refine endG_norm [] hE rfl ?_ | refine vcall_A ?_); simp (maxSteps := 2000000) only [go_sem, hP, ↓reduceIte, Nat.reduceAdd, Nat.reduceMul, Nat.reduceEqDiff, Nat.reduceSub, Nat.reduceLeDiff, reduceCtorEq, h3, addK_zero, Bool.and_self, List.length_map])
          | refine ev_skip ?_ | refine ev_block ?_ | refine ev_blk ?_ | refine ev_ret ?_ | refine ev_exit ?_ | refine evx_code_ret ?_ | refine evx_blk_ret ?_ | refine evx_lp_ret ?_
          | refine evx_code_exit ?_ | refine evx_lp_exit ?_ | refine evx_blk_hit ?_ | refine evx_blk_pass (by decide) ?_
          | refine And.intro ?_ ?_ | intro _ | decide +kernel | omega)
        all_goals first
          | exact ev_lp 1 [(100000, some 36912)] (by omega) (by omega) (by simp only [go_sem, hP, ↓reduceIte, Nat.reduceAdd, Nat.reduceMul, Nat.reduceEqDiff, Nat.reduceSub, Nat.reduceLeDiff, reduceCtorEq]; simp only [Nat.zero_add] at h6 h4; rw [h6, h4]; simp [addK_zero, eP_eq, Es.strip, show IntKind.i64.wrap 1 = 1 from rfl])
          | (exfalso; omega)
          | (simp [Es.strip]; done)
          | (simp [Es.strip]; omega)
          | (simp_all; done)
      · have h5 : decide (k = 0) = false := by simpa using h0
        repeat' (first
          | exact True.intro
          | refine ev_seq ?_
          | ((first | refine vgd_go ?_ | refine ev_region hE hM (hS (by decide +kernel)) ?_ | refine ev_if ?_ | refine end_ret hE rfl rfl ?_ | refine end_norm hE rfl rfl ?_ | refine endG_ret [] hE rfl ?_ | refine endG_norm [] hE rfl ?_ | refine vcall_A ?_); simp (maxSteps := 2000000) only [go_sem, hP, ↓reduceIte, Nat.reduceAdd, Nat.reduceMul, Nat.reduceEqDiff, Nat.reduceSub, Nat.reduceLeDiff, reduceCtorEq, h3, h5, Bool.and_self, List.length_map])
          | refine ev_skip ?_ | refine ev_block ?_ | refine ev_blk ?_ | refine ev_ret ?_ | refine ev_exit ?_ | refine evx_code_ret ?_ | refine evx_blk_ret ?_ | refine evx_lp_ret ?_
          | refine evx_code_exit ?_ | refine evx_lp_exit ?_ | refine evx_blk_hit ?_ | refine evx_blk_pass (by decide) ?_
          | refine And.intro ?_ ?_ | intro _ | decide +kernel | omega)
        all_goals first
          | exact ev_lp (k + 1) [(100000, some 36912)] (by omega) (by omega) (by simp only [go_sem, hP, ↓reduceIte, Nat.reduceAdd, Nat.reduceMul, Nat.reduceEqDiff, Nat.reduceSub, Nat.reduceLeDiff, reduceCtorEq]; rw [h6, h4]; simp [hw1 hlt, eP_eq])
          | (exfalso; omega)
          | (simp [Es.strip]; done)
          | (simp [Es.strip]; omega)
          | omega
          | (simp_all; done)
    · have h3 : decide (addAt xs p < k) = true := by simp; omega
      have h4 : decide (addAt xs p < k + 1) = true := by simp; omega
      have h5 : decide (k = 0) = false := by simp; omega
      repeat' (first
        | exact True.intro
        | refine ev_seq ?_
        | ((first | refine vgd_go ?_ | refine ev_region hE hM (hS (by decide +kernel)) ?_ | refine ev_if ?_ | refine end_ret hE rfl rfl ?_ | refine end_norm hE rfl rfl ?_ | refine endG_ret [] hE rfl ?_ | refine endG_norm [] hE rfl ?_ | refine vcall_A ?_); simp (maxSteps := 2000000) only [go_sem, hP, ↓reduceIte, Nat.reduceAdd, Nat.reduceMul, Nat.reduceEqDiff, Nat.reduceSub, Nat.reduceLeDiff, reduceCtorEq, h3, h5, Bool.and_self, List.length_map])
        | refine ev_skip ?_ | refine ev_block ?_ | refine ev_blk ?_ | refine ev_ret ?_ | refine ev_exit ?_ | refine evx_code_ret ?_ | refine evx_blk_ret ?_ | refine evx_lp_ret ?_
        | refine evx_code_exit ?_ | refine evx_lp_exit ?_ | refine evx_blk_hit ?_ | refine evx_blk_pass (by decide) ?_
        | refine And.intro ?_ ?_ | intro _ | decide +kernel | omega)
      all_goals first
        | exact ev_lp (k + 1) [(100000, some 36912)] (by omega) (by omega) (by simp only [go_sem, hP, ↓reduceIte, Nat.reduceAdd, Nat.reduceMul, Nat.reduceEqDiff, Nat.reduceSub, Nat.reduceLeDiff, reduceCtorEq]; rw [addK_hi h1 hlt, h4]; simp [hw1 hlt, eP_eq])
        | (exfalso; omega)
        | omega
        | (simp_all; done)
  · have hke : k = xs.length := by omega
    subst hke
    by_cases hd : addAt xs p < xs.length
    · have h3 : decide (addAt xs p < xs.length) = true := by simpa using hd
      have h5 : decide (xs.length = 0) = false := by simp; rintro rfl; simp at hd
      repeat' (first
        | exact True.intro
        | refine ev_seq ?_
        | ((first | refine vgd_go ?_ | refine ev_region hE hM (hS (by decide +kernel)) ?_ | refine ev_if ?_ | refine end_ret hE rfl rfl ?_ | refine end_norm hE rfl rfl ?_ | refine endG_ret [] hE rfl ?_ | refine endG_norm [] hE rfl ?_ | refine vcall_A ?_); simp (maxSteps := 2000000) only [go_sem, hP, ↓reduceIte, Nat.reduceAdd, Nat.reduceMul, Nat.reduceEqDiff, Nat.reduceSub, Nat.reduceLeDiff, reduceCtorEq, h3, h5, addK_done hd])
        | refine ev_skip ?_ | refine ev_block ?_ | refine ev_blk ?_ | refine ev_ret ?_ | refine ev_exit ?_ | refine evx_code_ret ?_ | refine evx_blk_ret ?_ | refine evx_lp_ret ?_
        | refine evx_code_exit ?_ | refine evx_lp_exit ?_ | refine evx_blk_hit ?_ | refine evx_blk_pass (by decide) ?_
        | refine And.intro ?_ ?_ | intro _ | decide +kernel | omega)
      all_goals first
        | (exfalso; omega)
        | (simp_all; done)
    · have h3 : decide (addAt xs p < xs.length) = false := by simpa using hd
      have h6 := addK_last hd
      rw [← h6]
      clear h6
      by_cases h0 : xs.length = 0
      · have hx : xs = [] := List.eq_nil_of_length_eq_zero h0
        subst hx
        repeat' (first
          | exact True.intro
          | refine ev_seq ?_
          | ((first | refine vgd_go ?_ | refine ev_region hE hM (hS (by decide +kernel)) ?_ | refine ev_if ?_ | refine end_ret hE rfl rfl ?_ | refine end_norm hE rfl rfl ?_ | refine endG_ret [] hE rfl ?_ | refine endG_norm [] hE rfl ?_ | refine vcall_A ?_); simp (maxSteps := 2000000) only [go_sem, hP, ↓reduceIte, Nat.reduceAdd, Nat.reduceMul, Nat.reduceEqDiff, Nat.reduceSub, Nat.reduceLeDiff, reduceCtorEq, h3, addK_zero, List.length_nil])
          | refine ev_skip ?_ | refine ev_block ?_ | refine ev_blk ?_ | refine ev_ret ?_ | refine ev_exit ?_ | refine evx_code_ret ?_ | refine evx_blk_ret ?_ | refine evx_lp_ret ?_
          | refine evx_code_exit ?_ | refine evx_lp_exit ?_ | refine evx_blk_hit ?_ | refine evx_blk_pass (by decide) ?_
          | refine And.intro ?_ ?_ | intro _ | decide +kernel | omega)
        all_goals first
          | (exfalso; omega)
          | (simp [Es.strip]; done)
          | (simp [Es.strip]; omega)
          | (simp_all [addK_zero, Es.strip]; done)
      · have h5 : decide (xs.length = 0) = false := by simpa using h0
        repeat' (first
          | exact True.intro
          | refine ev_seq ?_
          | ((first | refine vgd_go ?_ | refine ev_region hE hM (hS (by decide +kernel)) ?_ | refine ev_if ?_ | refine end_ret hE rfl rfl ?_ | refine end_norm hE rfl rfl ?_ | refine endG_ret [] hE rfl ?_ | refine endG_norm [] hE rfl ?_ | refine vcall_A ?_); simp (maxSteps := 2000000) only [go_sem, hP, ↓reduceIte, Nat.reduceAdd, Nat.reduceMul, Nat.reduceEqDiff, Nat.reduceSub, Nat.reduceLeDiff, reduceCtorEq, h3, h5, List.length_map])
          | refine ev_skip ?_ | refine ev_block ?_ | refine ev_blk ?_ | refine ev_ret ?_ | refine ev_exit ?_ | refine evx_code_ret ?_ | refine evx_blk_ret ?_ | refine evx_lp_ret ?_
          | refine evx_code_exit ?_ | refine evx_lp_exit ?_ | refine evx_blk_hit ?_ | refine evx_blk_pass (by decide) ?_
          | refine And.intro ?_ ?_ | intro _ | decide +kernel | omega)
        all_goals first
          | (exfalso; omega)
          | (simp only [Es.strip, List.length_nil]; omega)
          | omega
          | (simp_all [eP_eq]; done)
theorem s_l2Take (xs : List Pair) (r : Int) (hl : xs.length ≤ 1048576) : Sat Try.prog 208 [aPs xs, aI r] false [(false, [sP (xs.filter (fun p => decide (p.id ≠ r)))])] := by
  refine sat_walk (fn := Try.f208) rfl rfl rfl (Nat.le_of_ble_eq_true rfl) fun fr hP hN hbnd => ?_
  have hE : (envOf fr Try.prog).Ok := envOf_ok hP
  have hM := follows_of hP
  have hS : ∀ {draw ops}, statB Try.f208.ntmps draw ops = true → statB (envOf fr Try.prog).fr.N draw ops = true := fun h => by rw [envOf_fr, hN]; exact h
  repeat' (first
    | exact True.intro
    | refine ev_seq ?_
    | ((first | refine vgd_go ?_ | refine ev_region hE hM (hS (by decide +kernel)) ?_ | refine ev_if ?_ | refine end_ret hE rfl rfl ?_ | refine end_norm hE rfl rfl ?_ | refine endG_ret [] hE rfl ?_ | refine endG_norm [] hE rfl ?_ | refine vcall_A ?_); simp (maxSteps := 2000000) only [go_sem, hP, ↓reduceIte, Nat.reduceAdd, Nat.reduceMul, Nat.reduceEqDiff, Nat.reduceSub, Nat.reduceLeDiff, reduceCtorEq])
    | refine ev_skip ?_ | refine ev_block ?_ | refine ev_blk ?_ | refine ev_ret ?_ | refine ev_exit ?_ | refine evx_code_ret ?_ | refine evx_blk_ret ?_ | refine evx_lp_ret ?_
    | refine evx_code_exit ?_ | refine evx_lp_exit ?_ | refine evx_blk_hit ?_ | refine evx_blk_pass (by decide) ?_
    | refine And.intro ?_ ?_ | intro _ | decide +kernel | omega)
  refine ev_loop (ι := Nat) (fun k => [(0, .c (sP xs)), (1, iT r), (5, .ref 100000), (6, iT k)]) (fun k => [(100000, .arr ((xs.take k).filter (fun p => decide (p.id ≠ r))).isEmpty 105 3 (((xs.take k).filter (fun p => decide (p.id ≠ r))).map eP))]) (fun _ => []) (fun k => k ≤ xs.length) (fun k => xs.length - k) 0 [(100000, some 4096)] (by omega) (by simp only [go_sem, hP, ↓reduceIte, Nat.reduceAdd, Nat.reduceMul, Nat.reduceEqDiff, Nat.reduceSub, Nat.reduceLeDiff, reduceCtorEq]; simp) ?_
  intro k hk
  have hw1 : k < xs.length → IntKind.i64.wrap ((k : Int) + 1) = k + 1 := fun h => i64_in _ (by omega)
  have hfl : ((xs.take k).filter (fun p => decide (p.id ≠ r))).length ≤ k := Nat.le_trans (List.length_filter_le _ _) (by rw [List.length_take]; omega)
  generalize hys : (xs.take k).filter (fun p => decide (p.id ≠ r)) = ys at hfl
  have hfl' := hfl
  by_cases hlt : k < xs.length
  · have hst : (xs.take (k + 1)).filter (fun p => decide (p.id ≠ r)) = if (xs.getD k default).id ≠ r then ys ++ [xs.getD k default] else ys := by
      rw [take_step (d := default) hlt, List.filter_append, hys]
      generalize xs.getD k default = x
      by_cases he : x.id = r <;> simp [he]
    cases ys with
    | nil =>
      repeat' (first
        | exact True.intro
        | refine ev_seq ?_
        | ((first | refine vgd_go ?_ | refine ev_region hE hM (hS (by decide +kernel)) ?_ | refine ev_if ?_ | refine end_ret hE rfl rfl ?_ | refine end_norm hE rfl rfl ?_ | refine endG_ret [] hE rfl ?_ | refine endG_norm [] hE rfl ?_ | refine vcall_A ?_); simp (maxSteps := 2000000) only [go_sem, hP, ↓reduceIte, Nat.reduceAdd, Nat.reduceMul, Nat.reduceEqDiff, Nat.reduceSub, Nat.reduceLeDiff, reduceCtorEq, hys, Bool.and_self, List.length_map, List.isEmpty_nil, List.map_nil])
        | refine ev_skip ?_ | refine ev_block ?_ | refine ev_blk ?_ | refine ev_ret ?_ | refine ev_exit ?_ | refine evx_code_ret ?_ | refine evx_blk_ret ?_ | refine evx_lp_ret ?_
        | refine evx_code_exit ?_ | refine evx_lp_exit ?_ | refine evx_blk_hit ?_ | refine evx_blk_pass (by decide) ?_
        | refine And.intro ?_ ?_ | intro _ | decide +kernel | omega)
      all_goals first
        | exact ev_lp (k + 1) [(100000, some 24624)] (by omega) (by omega) (by simp only [go_sem, hP, ↓reduceIte, Nat.reduceAdd, Nat.reduceMul, Nat.reduceEqDiff, Nat.reduceSub, Nat.reduceLeDiff, reduceCtorEq]; rw [hst, if_pos (by simp_all)]; simp [hw1 hlt, eP_eq, Es.strip])
        | exact ev_lp (k + 1) [(100000, some 100000)] (by omega) (by omega) (by simp only [go_sem, hP, ↓reduceIte, Nat.reduceAdd, Nat.reduceMul, Nat.reduceEqDiff, Nat.reduceSub, Nat.reduceLeDiff, reduceCtorEq]; rw [hst, if_neg (by simp_all)]; simp [hw1 hlt, eP_eq, Es.strip])
        | (exfalso; omega)
        | (simp_all; done)
    | cons y ys =>
      simp only [List.length_cons] at hfl'
      repeat' (first
        | exact True.intro
        | refine ev_seq ?_
        | ((first | refine vgd_go ?_ | refine ev_region hE hM (hS (by decide +kernel)) ?_ | refine ev_if ?_ | refine end_ret hE rfl rfl ?_ | refine end_norm hE rfl rfl ?_ | refine endG_ret [] hE rfl ?_ | refine endG_norm [] hE rfl ?_ | refine vcall_A ?_); simp (maxSteps := 2000000) only [go_sem, hP, ↓reduceIte, Nat.reduceAdd, Nat.reduceMul, Nat.reduceEqDiff, Nat.reduceSub, Nat.reduceLeDiff, reduceCtorEq, hys, Bool.and_self, List.length_map, List.isEmpty_cons])
        | refine ev_skip ?_ | refine ev_block ?_ | refine ev_blk ?_ | refine ev_ret ?_ | refine ev_exit ?_ | refine evx_code_ret ?_ | refine evx_blk_ret ?_ | refine evx_lp_ret ?_
        | refine evx_code_exit ?_ | refine evx_lp_exit ?_ | refine evx_blk_hit ?_ | refine evx_blk_pass (by decide) ?_
        | refine And.intro ?_ ?_ | intro _ | decide +kernel | omega)
      all_goals first
        | exact ev_lp (k + 1) [(100000, some 24624)] (by omega) (by omega) (by simp only [go_sem, hP, ↓reduceIte, Nat.reduceAdd, Nat.reduceMul, Nat.reduceEqDiff, Nat.reduceSub, Nat.reduceLeDiff, reduceCtorEq]; rw [hst, if_pos (by simp_all)]; simp [hw1 hlt, eP_eq, Es.strip])
        | exact ev_lp (k + 1) [(100000, some 100000)] (by omega) (by omega) (by simp only [go_sem, hP, ↓reduceIte, Nat.reduceAdd, Nat.reduceMul, Nat.reduceEqDiff, Nat.reduceSub, Nat.reduceLeDiff, reduceCtorEq]; rw [hst, if_neg (by simp_all)]; simp [hw1 hlt, eP_eq, Es.strip])
        | (exfalso; omega)
        | omega
        | (simp_all; done)
  · have hke : k = xs.length := by omega
    subst hke
    rw [List.take_length] at hys
    rw [hys]
    cases ys with
    | nil =>
      repeat' (first
        | exact True.intro
        | refine ev_seq ?_
        | ((first | refine vgd_go ?_ | refine ev_region hE hM (hS (by decide +kernel)) ?_ | refine ev_if ?_ | refine end_ret hE rfl rfl ?_ | refine end_norm hE rfl rfl ?_ | refine endG_ret [] hE rfl ?_ | refine endG_norm [] hE rfl ?_ | refine vcall_A ?_); simp (maxSteps := 2000000) only [go_sem, hP, ↓reduceIte, Nat.reduceAdd, Nat.reduceMul, Nat.reduceEqDiff, Nat.reduceSub, Nat.reduceLeDiff, reduceCtorEq, hys, List.take_length, List.isEmpty_nil, List.map_nil])
        | refine ev_skip ?_ | refine ev_block ?_ | refine ev_blk ?_ | refine ev_ret ?_ | refine ev_exit ?_ | refine evx_code_ret ?_ | refine evx_blk_ret ?_ | refine evx_lp_ret ?_
        | refine evx_code_exit ?_ | refine evx_lp_exit ?_ | refine evx_blk_hit ?_ | refine evx_blk_pass (by decide) ?_
        | refine And.intro ?_ ?_ | intro _ | decide +kernel | omega)
      all_goals first
        | (exfalso; omega)
        | (simp_all; done)
    | cons y ys =>
      repeat' (first
        | exact True.intro
        | refine ev_seq ?_
        | ((first | refine vgd_go ?_ | refine ev_region hE hM (hS (by decide +kernel)) ?_ | refine ev_if ?_ | refine end_ret hE rfl rfl ?_ | refine end_norm hE rfl rfl ?_ | refine endG_ret [] hE rfl ?_ | refine endG_norm [] hE rfl ?_ | refine vcall_A ?_); simp (maxSteps := 2000000) only [go_sem, hP, ↓reduceIte, Nat.reduceAdd, Nat.reduceMul, Nat.reduceEqDiff, Nat.reduceSub, Nat.reduceLeDiff, reduceCtorEq, hys, List.take_length, List.isEmpty_cons])
        | refine ev_skip ?_ | refine ev_block ?_ | refine ev_blk ?_ | refine ev_ret ?_ | refine ev_exit ?_ | refine evx_code_ret ?_ | refine evx_blk_ret ?_ | refine evx_lp_ret ?_
        | refine evx_code_exit ?_ | refine evx_lp_exit ?_ | refine evx_blk_hit ?_ | refine evx_blk_pass (by decide) ?_
        | refine And.intro ?_ ?_ | intro _ | decide +kernel | omega)
      all_goals first
        | (exfalso; omega)
        | (simp_all; done)
theorem filter_one {xs : List Pair} {d r : Int} {i : Nat} (h : mf xs d = 0) (hi : i < xs.length) (hr : (xs.getD i default).id = r) : xs.filter (fun p => decide (p.id ≠ r)) = xs.take i ++ xs.drop (i + 1) := by
  have hm := mf_rise h
  conv => lhs; rw [← List.take_append_drop i xs, List.drop_eq_getElem_cons hi]
  rw [List.filter_append, List.filter_cons]
  have e0 : xs[i] = xs.getD i default := (getD_lt hi).symm
  have e1 : (xs.take i).filter (fun p => decide (p.id ≠ r)) = xs.take i := by
    rw [List.filter_eq_self]
    intro p hp
    obtain ⟨k, hk, rfl⟩ := List.mem_iff_getElem.1 hp
    rw [List.length_take] at hk
    have := hm k i (by omega) hi
    rw [getD_lt (show k < xs.length by omega), hr] at this
    rw [List.getElem_take]
    simp; omega
  have e2 : (xs.drop (i + 1)).filter (fun p => decide (p.id ≠ r)) = xs.drop (i + 1) := by
    rw [List.filter_eq_self]
    intro p hp
    obtain ⟨k, hk, rfl⟩ := List.mem_iff_getElem.1 hp
    rw [List.length_drop] at hk
    have := hm i (i + 1 + k) (by omega) (by omega)
    rw [getD_lt (show i + 1 + k < xs.length by omega), hr] at this
    rw [List.getElem_drop]
    simp; omega
  have e3 : decide (xs[i].id ≠ r) = false := by rw [e0, hr]; simp
  rw [e1, e2, e3]; rfl
theorem drop_w (xs : List Pair) (i : Nat) : wPs (xs.take i ++ xs.drop (i + 1)) ≤ wPs xs := by
  rw [wPs_append]
  have h1 := wPs_split xs i
  have h2 := wPs_split (xs.drop i) 1
  rw [List.drop_drop] at h2
  omega
theorem apV_w (xs : List Pair) (d : Int) (p : Pair) : wPs (apV xs d p) ≤ wPs xs + 1 + wR p.rect := by
  unfold apV; split
  · rw [addV_w]; exact Nat.le_refl _
  · exact Nat.zero_le _
theorem tpV_w (xs : List Pair) (d : Int) (p : Pair) : wPs (tpV xs d p) ≤ wPs xs := by
  unfold tpV; split
  · exact drop_w _ _
  · exact Nat.zero_le _
theorem tpC_zero {xs : List Pair} {d : Int} {p : Pair} (h : tpC xs d p = 0) : mf xs d = 0 ∧ pairF d p = 0 ∧ 0 ≤ findId xs p.id ∧ (xs.getD (findId xs p.id).toNat default).rect = p.rect := by
  unfold tpC at h
  (repeat' split at h) <;> try omega
  rename_i h1 h2 h3
  refine ⟨by simpa using h1, by simpa using h2, ?_, ?_⟩
  · rcases Int.lt_or_le (findId xs p.id) 0 with h4 | h4
    · exact absurd (.inl h4) h3
    · exact h4
  · exact Classical.byContradiction fun h4 => h3 (.inr h4)
theorem s_taken (xs : List Pair) (p : Pair) (hw : wPs xs ≤ 1048576) (i : Nat) (h1 : findId xs p.id = i) (h2 : i < xs.length) (h3 : (xs.getD i default).rect = p.rect) : Sat Try.prog 202 [aPs xs, aP p] true [(false, [oPs (xs.take i ++ xs.drop (i + 1))]), (false, [.bool true])] := by
  refine sat_walk (fn := Try.f202) rfl rfl rfl (Nat.le_of_ble_eq_true rfl) fun fr hP hN hbnd => ?_
  have hE : (envOf fr Try.prog).Ok := envOf_ok hP
  have hM := follows_of hP
  have hS : ∀ {draw ops}, statB Try.f202.ntmps draw ops = true → statB (envOf fr Try.prog).fr.N draw ops = true := fun h => by rw [envOf_fr, hN]; exact h
  have hlen : xs.length ≤ 1048576 := by unfold wPs at hw; omega
  have hw1 : IntKind.i64.wrap ((i : Int) + 1) = (i + 1 : Nat) := by rw [i64_in _ (by omega)]; omega
  have c2 := s_DeletePair xs i (i + 1) rfl h2
  repeat' (first
    | exact True.intro
    | refine ev_seq ?_
    | ((first | refine vgd_go ?_ | refine ev_region hE hM (hS (by decide +kernel)) ?_ | refine ev_if ?_ | refine end_ret hE rfl rfl ?_ | refine end_norm hE rfl rfl ?_ | refine endG_ret [] hE rfl ?_ | refine endG_norm [] hE rfl ?_ | refine vcallB_of hP (s_indexOf xs p.id) ?_ | refine vcallB_of hP (s_implSameRects (xs.getD i default).rect p.rect) ?_ | refine vcallB_of hP (s_clonedPairs xs hw) ?_ | refine vcallG_of (args := [_, _, _]) [(1, 16392)] [] hP c2 ?_ | refine vcall_A ?_); simp (maxSteps := 2000000) only [go_sem, hP, ↓reduceIte, Nat.reduceAdd, Nat.reduceMul, Nat.reduceEqDiff, Nat.reduceSub, Nat.reduceLeDiff, reduceCtorEq, h1, Int.toNat_natCast, hw1])
    | refine ev_skip ?_ | refine ev_block ?_ | refine ev_blk ?_ | refine ev_ret ?_ | refine ev_exit ?_ | refine evx_code_ret ?_ | refine evx_blk_ret ?_ | refine evx_lp_ret ?_
    | refine evx_code_exit ?_ | refine evx_lp_exit ?_ | refine evx_blk_hit ?_ | refine evx_blk_pass (by decide) ?_
    | refine And.intro ?_ ?_ | intro _ | decide +kernel | omega)
  all_goals first
    | (exfalso; omega)
    | (simp_all; done)
theorem s_takenNo (xs : List Pair) (p : Pair) (h : findId xs p.id < 0 ∨ ¬ (xs.getD (findId xs p.id).toNat default).rect = p.rect) : Sat Try.prog 202 [aPs xs, aP p] true [(false, [oPs []]), (false, [.bool false])] := by
  refine sat_walk (fn := Try.f202) rfl rfl rfl (Nat.le_of_ble_eq_true rfl) fun fr hP hN hbnd => ?_
  have hE : (envOf fr Try.prog).Ok := envOf_ok hP
  have hM := follows_of hP
  have hS : ∀ {draw ops}, statB Try.f202.ntmps draw ops = true → statB (envOf fr Try.prog).fr.N draw ops = true := fun h => by rw [envOf_fr, hN]; exact h
  rcases Int.lt_or_le (findId xs p.id) 0 with h1 | h1
  · repeat' (first
      | exact True.intro
      | refine ev_seq ?_
      | ((first | refine vgd_go ?_ | refine ev_region hE hM (hS (by decide +kernel)) ?_ | refine ev_if ?_ | refine end_ret hE rfl rfl ?_ | refine end_norm hE rfl rfl ?_ | refine endG_ret [] hE rfl ?_ | refine endG_norm [] hE rfl ?_ | refine vcallB_of hP (s_indexOf xs p.id) ?_ | refine vcall_A ?_); simp (maxSteps := 2000000) only [go_sem, hP, ↓reduceIte, Nat.reduceAdd, Nat.reduceMul, Nat.reduceEqDiff, Nat.reduceSub, Nat.reduceLeDiff, reduceCtorEq])
      | refine ev_skip ?_ | refine ev_block ?_ | refine ev_blk ?_ | refine ev_ret ?_ | refine ev_exit ?_ | refine evx_code_ret ?_ | refine evx_blk_ret ?_ | refine evx_lp_ret ?_
      | refine evx_code_exit ?_ | refine evx_lp_exit ?_ | refine evx_blk_hit ?_ | refine evx_blk_pass (by decide) ?_
      | refine And.intro ?_ ?_ | intro _ | decide +kernel | omega)
    all_goals first
      | (exfalso; omega)
      | (simp_all; done)
  · obtain ⟨i, e, h2, _⟩ := findId_get h1
    have h3 : ¬ (xs.getD i default).rect = p.rect := by
      rcases h with h | h
      · omega
      · rw [e, Int.toNat_natCast] at h; exact h
    repeat' (first
      | exact True.intro
      | refine ev_seq ?_
      | ((first | refine vgd_go ?_ | refine ev_region hE hM (hS (by decide +kernel)) ?_ | refine ev_if ?_ | refine end_ret hE rfl rfl ?_ | refine end_norm hE rfl rfl ?_ | refine endG_ret [] hE rfl ?_ | refine endG_norm [] hE rfl ?_ | refine vcallB_of hP (s_indexOf xs p.id) ?_ | refine vcallB_of hP (s_implSameRects (xs.getD i default).rect p.rect) ?_ | refine vcall_A ?_); simp (maxSteps := 2000000) only [go_sem, hP, ↓reduceIte, Nat.reduceAdd, Nat.reduceMul, Nat.reduceEqDiff, Nat.reduceSub, Nat.reduceLeDiff, reduceCtorEq, e, Int.toNat_natCast])
      | refine ev_skip ?_ | refine ev_block ?_ | refine ev_blk ?_ | refine ev_ret ?_ | refine ev_exit ?_ | refine evx_code_ret ?_ | refine evx_blk_ret ?_ | refine evx_lp_ret ?_
      | refine evx_code_exit ?_ | refine evx_lp_exit ?_ | refine evx_blk_hit ?_ | refine evx_blk_pass (by decide) ?_
      | refine And.intro ?_ ?_ | intro _ | decide +kernel | omega)
    all_goals first
      | (exfalso; omega)
      | (simp_all; done)
theorem s_implTakePair (xs : List Pair) (d : Int) (p : Pair) (hw : wPs xs ≤ 1048576) : Sat Try.prog 89 [aPs xs, aI d, aP p] true (rPsR (tpC xs d p) (tpV xs d p)) := by
  refine sat_walk (fn := Try.f89) rfl rfl rfl (Nat.le_of_ble_eq_true rfl) fun fr hP hN hbnd => ?_
  have hE : (envOf fr Try.prog).Ok := envOf_ok hP
  have hM := follows_of hP
  have hS : ∀ {draw ops}, statB Try.f89.ntmps draw ops = true → statB (envOf fr Try.prog).fr.N draw ops = true := fun h => by rw [envOf_fr, hN]; exact h
  by_cases hc : chC xs d p = 0
  · have h1 : mf xs d = 0 := by unfold chC at hc; split at hc <;> simp_all
    have h2 : pairF d p = 0 := by unfold chC at hc; split at hc <;> simp_all
    by_cases h3 : findId xs p.id < 0 ∨ ¬ (xs.getD (findId xs p.id).toNat default).rect = p.rect
    · have e1 : tpC xs d p = 4 := by unfold tpC; rw [if_neg (by simpa using h1), if_neg (by simpa using h2), if_pos h3]
      have e2 : tpV xs d p = [] := by unfold tpV; rw [e1]; rfl
      rw [e1, e2]
      repeat' (first
        | exact True.intro
        | refine ev_seq ?_
        | ((first | refine vgd_go ?_ | refine ev_region hE hM (hS (by decide +kernel)) ?_ | refine ev_if ?_ | refine end_ret hE rfl rfl ?_ | refine end_norm hE rfl rfl ?_ | refine endG_ret [] hE rfl ?_ | refine endG_norm [] hE rfl ?_ | refine vcallB_of hP (s_changeFault xs d p) ?_ | refine vcallB_of hP (s_takenNo xs p h3) ?_ | refine vcall_A ?_); simp (maxSteps := 2000000) only [go_sem, hP, ↓reduceIte, Nat.reduceAdd, Nat.reduceMul, Nat.reduceEqDiff, Nat.reduceSub, Nat.reduceLeDiff, reduceCtorEq, hc])
        | refine ev_skip ?_ | refine ev_block ?_ | refine ev_blk ?_ | refine ev_ret ?_ | refine ev_exit ?_ | refine evx_code_ret ?_ | refine evx_blk_ret ?_ | refine evx_lp_ret ?_
        | refine evx_code_exit ?_ | refine evx_lp_exit ?_ | refine evx_blk_hit ?_ | refine evx_blk_pass (by decide) ?_
        | refine And.intro ?_ ?_ | intro _ | decide +kernel | omega)
      all_goals first | (exfalso; omega) | (simp_all; done)
    · have e1 : tpC xs d p = 0 := by unfold tpC; rw [if_neg (by simpa using h1), if_neg (by simpa using h2), if_neg h3]
      obtain ⟨_, _, h4, h5⟩ := tpC_zero e1
      obtain ⟨i, e, h6, _⟩ := findId_get h4
      have e2 : tpV xs d p = xs.take i ++ xs.drop (i + 1) := by unfold tpV; rw [if_pos e1, e]; rfl
      rw [e, Int.toNat_natCast] at h5
      rw [e1, e2]
      repeat' (first
        | exact True.intro
        | refine ev_seq ?_
        | ((first | refine vgd_go ?_ | refine ev_region hE hM (hS (by decide +kernel)) ?_ | refine ev_if ?_ | refine end_ret hE rfl rfl ?_ | refine end_norm hE rfl rfl ?_ | refine endG_ret [] hE rfl ?_ | refine endG_norm [] hE rfl ?_ | refine vcallB_of hP (s_changeFault xs d p) ?_ | refine vcallB_of hP (s_taken xs p hw i e h6 h5) ?_ | refine vcall_A ?_); simp (maxSteps := 2000000) only [go_sem, hP, ↓reduceIte, Nat.reduceAdd, Nat.reduceMul, Nat.reduceEqDiff, Nat.reduceSub, Nat.reduceLeDiff, reduceCtorEq, hc])
        | refine ev_skip ?_ | refine ev_block ?_ | refine ev_blk ?_ | refine ev_ret ?_ | refine ev_exit ?_ | refine evx_code_ret ?_ | refine evx_blk_ret ?_ | refine evx_lp_ret ?_
        | refine evx_code_exit ?_ | refine evx_lp_exit ?_ | refine evx_blk_hit ?_ | refine evx_blk_pass (by decide) ?_
        | refine And.intro ?_ ?_ | intro _ | decide +kernel | omega)
      all_goals first | (exfalso; omega) | (simp_all; done)
  · have e1 : tpC xs d p = chC xs d p := by unfold tpC chC at *; split <;> simp_all
    have e2 : tpV xs d p = [] := by unfold tpV; rw [if_neg (by rw [e1]; exact hc)]
    rw [e1, e2]
    repeat' (first
      | exact True.intro
      | refine ev_seq ?_
      | ((first | refine vgd_go ?_ | refine ev_region hE hM (hS (by decide +kernel)) ?_ | refine ev_if ?_ | refine end_ret hE rfl rfl ?_ | refine end_norm hE rfl rfl ?_ | refine endG_ret [] hE rfl ?_ | refine endG_norm [] hE rfl ?_ | refine vcallB_of hP (s_changeFault xs d p) ?_ | refine vcall_A ?_); simp (maxSteps := 2000000) only [go_sem, hP, ↓reduceIte, Nat.reduceAdd, Nat.reduceMul, Nat.reduceEqDiff, Nat.reduceSub, Nat.reduceLeDiff, reduceCtorEq])
      | refine ev_skip ?_ | refine ev_block ?_ | refine ev_blk ?_ | refine ev_ret ?_ | refine ev_exit ?_ | refine evx_code_ret ?_ | refine evx_blk_ret ?_ | refine evx_lp_ret ?_
      | refine evx_code_exit ?_ | refine evx_lp_exit ?_ | refine evx_blk_hit ?_ | refine evx_blk_pass (by decide) ?_
      | refine And.intro ?_ ?_ | intro _ | decide +kernel | omega)
    all_goals first | (exfalso; omega) | (simp_all; done)
theorem s_specTakePair (xs : List Pair) (d : Int) (p : Pair) (hw : wPs xs ≤ 1048576) : Sat Try.prog 91 [aPs xs, aI d, aP p] true (rPsR (tpC xs d p) (tpV xs d p)) := by
  refine sat_walk (fn := Try.f91) rfl rfl rfl (Nat.le_of_ble_eq_true rfl) fun fr hP hN hbnd => ?_
  have hE : (envOf fr Try.prog).Ok := envOf_ok hP
  have hM := follows_of hP
  have hS : ∀ {draw ops}, statB Try.f91.ntmps draw ops = true → statB (envOf fr Try.prog).fr.N draw ops = true := fun h => by rw [envOf_fr, hN]; exact h
  by_cases hc : chC xs d p = 0
  · have h1 : mf xs d = 0 := by unfold chC at hc; split at hc <;> simp_all
    have h2 : pairF d p = 0 := by unfold chC at hc; split at hc <;> simp_all
    have hl := mf_len h1
    rcases Int.lt_or_le (findId xs p.id) 0 with h3 | h3
    · have e1 : tpC xs d p = 4 := by unfold tpC; rw [if_neg (by simpa using h1), if_neg (by simpa using h2), if_pos (.inl h3)]
      have e2 : tpV xs d p = [] := by unfold tpV; rw [e1]; rfl
      rw [e1, e2]
      repeat' (first
        | exact True.intro
        | refine ev_seq ?_
        | ((first | refine vgd_go ?_ | refine ev_region hE hM (hS (by decide +kernel)) ?_ | refine ev_if ?_ | refine end_ret hE rfl rfl ?_ | refine end_norm hE rfl rfl ?_ | refine endG_ret [] hE rfl ?_ | refine endG_norm [] hE rfl ?_ | refine vcallB_of hP (s_l2Ask xs d p) ?_ | refine vcallB_of hP (s_l2At xs p.id) ?_ | refine vcall_A ?_); simp (maxSteps := 2000000) only [go_sem, hP, ↓reduceIte, Nat.reduceAdd, Nat.reduceMul, Nat.reduceEqDiff, Nat.reduceSub, Nat.reduceLeDiff, reduceCtorEq, hc])
        | refine ev_skip ?_ | refine ev_block ?_ | refine ev_blk ?_ | refine ev_ret ?_ | refine ev_exit ?_ | refine evx_code_ret ?_ | refine evx_blk_ret ?_ | refine evx_lp_ret ?_
        | refine evx_code_exit ?_ | refine evx_lp_exit ?_ | refine evx_blk_hit ?_ | refine evx_blk_pass (by decide) ?_
        | refine And.intro ?_ ?_ | intro _ | decide +kernel | omega)
      all_goals first | (exfalso; omega) | (simp_all; done)
    · obtain ⟨i, e, h6, h7⟩ := findId_get h3
      by_cases h5 : (xs.getD i default).rect = p.rect
      · have e1 : tpC xs d p = 0 := by
          unfold tpC; rw [if_neg (by simpa using h1), if_neg (by simpa using h2), if_neg]
          rintro (h | h)
          · omega
          · rw [e, Int.toNat_natCast] at h; exact h h5
        have e2 : tpV xs d p = xs.take i ++ xs.drop (i + 1) := by unfold tpV; rw [if_pos e1, e]; rfl
        have e3 := filter_one h1 h6 h7
        have c1 := s_l2Take xs p.id (by omega)
        rw [e3] at c1
        rw [e1, e2]
        repeat' (first
          | exact True.intro
          | refine ev_seq ?_
          | ((first | refine vgd_go ?_ | refine ev_region hE hM (hS (by decide +kernel)) ?_ | refine ev_if ?_ | refine end_ret hE rfl rfl ?_ | refine end_norm hE rfl rfl ?_ | refine endG_ret [] hE rfl ?_ | refine endG_norm [] hE rfl ?_ | refine vcallB_of hP (s_l2Ask xs d p) ?_ | refine vcallB_of hP (s_l2At xs p.id) ?_ | refine vcallB_of hP (s_specSameRects (xs.getD i default).rect p.rect) ?_ | refine vcallB_of hP c1 ?_ | refine vcallB_of hP (s_l2Copies _ (Nat.le_trans (drop_w xs i) hw)) ?_ | refine vcall_A ?_); simp (maxSteps := 2000000) only [go_sem, hP, ↓reduceIte, Nat.reduceAdd, Nat.reduceMul, Nat.reduceEqDiff, Nat.reduceSub, Nat.reduceLeDiff, reduceCtorEq, hc, e, Int.toNat_natCast])
          | refine ev_skip ?_ | refine ev_block ?_ | refine ev_blk ?_ | refine ev_ret ?_ | refine ev_exit ?_ | refine evx_code_ret ?_ | refine evx_blk_ret ?_ | refine evx_lp_ret ?_
          | refine evx_code_exit ?_ | refine evx_lp_exit ?_ | refine evx_blk_hit ?_ | refine evx_blk_pass (by decide) ?_
          | refine And.intro ?_ ?_ | intro _ | decide +kernel | omega)
        all_goals first | (exfalso; omega) | (simp_all; done)
      · have e1 : tpC xs d p = 4 := by unfold tpC; rw [if_neg (by simpa using h1), if_neg (by simpa using h2), if_pos (.inr (by rw [e, Int.toNat_natCast]; exact h5))]
        have e2 : tpV xs d p = [] := by unfold tpV; rw [e1]; rfl
        rw [e1, e2]
        repeat' (first
          | exact True.intro
          | refine ev_seq ?_
          | ((first | refine vgd_go ?_ | refine ev_region hE hM (hS (by decide +kernel)) ?_ | refine ev_if ?_ | refine end_ret hE rfl rfl ?_ | refine end_norm hE rfl rfl ?_ | refine endG_ret [] hE rfl ?_ | refine endG_norm [] hE rfl ?_ | refine vcallB_of hP (s_l2Ask xs d p) ?_ | refine vcallB_of hP (s_l2At xs p.id) ?_ | refine vcallB_of hP (s_specSameRects (xs.getD i default).rect p.rect) ?_ | refine vcall_A ?_); simp (maxSteps := 2000000) only [go_sem, hP, ↓reduceIte, Nat.reduceAdd, Nat.reduceMul, Nat.reduceEqDiff, Nat.reduceSub, Nat.reduceLeDiff, reduceCtorEq, hc, e, Int.toNat_natCast])
          | refine ev_skip ?_ | refine ev_block ?_ | refine ev_blk ?_ | refine ev_ret ?_ | refine ev_exit ?_ | refine evx_code_ret ?_ | refine evx_blk_ret ?_ | refine evx_lp_ret ?_
          | refine evx_code_exit ?_ | refine evx_lp_exit ?_ | refine evx_blk_hit ?_ | refine evx_blk_pass (by decide) ?_
          | refine And.intro ?_ ?_ | intro _ | decide +kernel | omega)
        all_goals first | (exfalso; omega) | (simp_all; done)
  · have e1 : tpC xs d p = chC xs d p := by unfold tpC chC at *; split <;> simp_all
    have e2 : tpV xs d p = [] := by unfold tpV; rw [if_neg (by rw [e1]; exact hc)]
    rw [e1, e2]
    repeat' (first
      | exact True.intro
      | refine ev_seq ?_
      | ((first | refine vgd_go ?_ | refine ev_region hE hM (hS (by decide +kernel)) ?_ | refine ev_if ?_ | refine end_ret hE rfl rfl ?_ | refine end_norm hE rfl rfl ?_ | refine endG_ret [] hE rfl ?_ | refine endG_norm [] hE rfl ?_ | refine vcallB_of hP (s_l2Ask xs d p) ?_ | refine vcall_A ?_); simp (maxSteps := 2000000) only [go_sem, hP, ↓reduceIte, Nat.reduceAdd, Nat.reduceMul, Nat.reduceEqDiff, Nat.reduceSub, Nat.reduceLeDiff, reduceCtorEq])
      | refine ev_skip ?_ | refine ev_block ?_ | refine ev_blk ?_ | refine ev_ret ?_ | refine ev_exit ?_ | refine evx_code_ret ?_ | refine evx_blk_ret ?_ | refine evx_lp_ret ?_
      | refine evx_code_exit ?_ | refine evx_lp_exit ?_ | refine evx_blk_hit ?_ | refine evx_blk_pass (by decide) ?_
      | refine And.intro ?_ ?_ | intro _ | decide +kernel | omega)
    all_goals first | (exfalso; omega) | (simp_all; done)
theorem s_specAddPair (xs : List Pair) (d : Int) (p : Pair) : Sat Try.prog 90 [aPs xs, aI d, aP p] true (rPsR (apC xs d p) (apV xs d p)) := by
  refine sat_walk (fn := Try.f90) rfl rfl rfl (Nat.le_of_ble_eq_true rfl) fun fr hP hN hbnd => ?_
  have hE : (envOf fr Try.prog).Ok := envOf_ok hP
  have hM := follows_of hP
  have hS : ∀ {draw ops}, statB Try.f90.ntmps draw ops = true → statB (envOf fr Try.prog).fr.N draw ops = true := fun h => by rw [envOf_fr, hN]; exact h
  by_cases hc : chC xs d p = 0
  · have h1 : mf xs d = 0 := by unfold chC at hc; split at hc <;> simp_all
    have h2 : pairF d p = 0 := by unfold chC at hc; split at hc <;> simp_all
    have h3 := mf_len h1
    rcases Int.lt_or_le (findId xs p.id) 0 with h7 | h7
    · have h8 : ¬ 0 ≤ findId xs p.id := by omega
      by_cases h9 : xs.length = 60
      · have e1 : apC xs d p = 7 := by unfold apC; rw [if_neg (by simpa using h1), if_neg (by simpa using h2), if_neg h8, if_pos (by omega)]
        have e2 : apV xs d p = [] := by unfold apV; rw [e1]; rfl
        rw [e1, e2]
        repeat' (first
          | exact True.intro
          | refine ev_seq ?_
          | ((first | refine vgd_go ?_ | refine ev_region hE hM (hS (by decide +kernel)) ?_ | refine ev_if ?_ | refine end_ret hE rfl rfl ?_ | refine end_norm hE rfl rfl ?_ | refine endG_ret [] hE rfl ?_ | refine endG_norm [] hE rfl ?_ | refine vcallB_of hP (s_l2Ask xs d p) ?_ | refine vcallB_of hP (s_l2At xs p.id) ?_ | refine vcall_A ?_); simp (maxSteps := 2000000) only [go_sem, hP, ↓reduceIte, Nat.reduceAdd, Nat.reduceMul, Nat.reduceEqDiff, Nat.reduceSub, Nat.reduceLeDiff, reduceCtorEq, hc])
          | refine ev_skip ?_ | refine ev_block ?_ | refine ev_blk ?_ | refine ev_ret ?_ | refine ev_exit ?_ | refine evx_code_ret ?_ | refine evx_blk_ret ?_ | refine evx_lp_ret ?_
          | refine evx_code_exit ?_ | refine evx_lp_exit ?_ | refine evx_blk_hit ?_ | refine evx_blk_pass (by decide) ?_
          | refine And.intro ?_ ?_ | intro _ | decide +kernel | omega)
        all_goals first | (exfalso; omega) | (simp_all; done)
      · have e1 : apC xs d p = 0 := by unfold apC; rw [if_neg (by simpa using h1), if_neg (by simpa using h2), if_neg h8, if_neg (by omega)]
        have e2 : apV xs d p = addV xs p := by unfold apV; rw [e1]; rfl
        rw [e1, e2]
        repeat' (first
          | exact True.intro
          | refine ev_seq ?_
          | ((first | refine vgd_go ?_ | refine ev_region hE hM (hS (by decide +kernel)) ?_ | refine ev_if ?_ | refine end_ret hE rfl rfl ?_ | refine end_norm hE rfl rfl ?_ | refine endG_ret [] hE rfl ?_ | refine endG_norm [] hE rfl ?_ | refine vcallB_of hP (s_l2Ask xs d p) ?_ | refine vcallB_of hP (s_l2At xs p.id) ?_ | refine vcallB_of hP (s_l2Add xs p (by omega)) ?_ | refine vcallB_of hP (s_l2Copies (addV xs p) (by rw [addV_w]; have := mf_w h1; have := rf_wR (pairF_rf h2); omega)) ?_ | refine vcall_A ?_); simp (maxSteps := 2000000) only [go_sem, hP, ↓reduceIte, Nat.reduceAdd, Nat.reduceMul, Nat.reduceEqDiff, Nat.reduceSub, Nat.reduceLeDiff, reduceCtorEq, hc])
          | refine ev_skip ?_ | refine ev_block ?_ | refine ev_blk ?_ | refine ev_ret ?_ | refine ev_exit ?_ | refine evx_code_ret ?_ | refine evx_blk_ret ?_ | refine evx_lp_ret ?_
          | refine evx_code_exit ?_ | refine evx_lp_exit ?_ | refine evx_blk_hit ?_ | refine evx_blk_pass (by decide) ?_
          | refine And.intro ?_ ?_ | intro _ | decide +kernel | omega)
        all_goals first | (exfalso; omega) | (simp_all; done)
    · have e1 : apC xs d p = 6 := by unfold apC; rw [if_neg (by simpa using h1), if_neg (by simpa using h2), if_pos h7]
      have e2 : apV xs d p = [] := by unfold apV; rw [e1]; rfl
      rw [e1, e2]
      repeat' (first
        | exact True.intro
        | refine ev_seq ?_
        | ((first | refine vgd_go ?_ | refine ev_region hE hM (hS (by decide +kernel)) ?_ | refine ev_if ?_ | refine end_ret hE rfl rfl ?_ | refine end_norm hE rfl rfl ?_ | refine endG_ret [] hE rfl ?_ | refine endG_norm [] hE rfl ?_ | refine vcallB_of hP (s_l2Ask xs d p) ?_ | refine vcallB_of hP (s_l2At xs p.id) ?_ | refine vcall_A ?_); simp (maxSteps := 2000000) only [go_sem, hP, ↓reduceIte, Nat.reduceAdd, Nat.reduceMul, Nat.reduceEqDiff, Nat.reduceSub, Nat.reduceLeDiff, reduceCtorEq, hc])
        | refine ev_skip ?_ | refine ev_block ?_ | refine ev_blk ?_ | refine ev_ret ?_ | refine ev_exit ?_ | refine evx_code_ret ?_ | refine evx_blk_ret ?_ | refine evx_lp_ret ?_
        | refine evx_code_exit ?_ | refine evx_lp_exit ?_ | refine evx_blk_hit ?_ | refine evx_blk_pass (by decide) ?_
        | refine And.intro ?_ ?_ | intro _ | decide +kernel | omega)
      all_goals first | (exfalso; omega) | (simp_all; done)
  · have e1 : apC xs d p = chC xs d p := by unfold apC chC at *; split <;> simp_all
    have e2 : apV xs d p = [] := by unfold apV; rw [if_neg (by rw [e1]; exact hc)]
    rw [e1, e2]
    repeat' (first
      | exact True.intro
      | refine ev_seq ?_
      | ((first | refine vgd_go ?_ | refine ev_region hE hM (hS (by decide +kernel)) ?_ | refine ev_if ?_ | refine end_ret hE rfl rfl ?_ | refine end_norm hE rfl rfl ?_ | refine endG_ret [] hE rfl ?_ | refine endG_norm [] hE rfl ?_ | refine vcallB_of hP (s_l2Ask xs d p) ?_ | refine vcall_A ?_); simp (maxSteps := 2000000) only [go_sem, hP, ↓reduceIte, Nat.reduceAdd, Nat.reduceMul, Nat.reduceEqDiff, Nat.reduceSub, Nat.reduceLeDiff, reduceCtorEq])
      | refine ev_skip ?_ | refine ev_block ?_ | refine ev_blk ?_ | refine ev_ret ?_ | refine ev_exit ?_ | refine evx_code_ret ?_ | refine evx_blk_ret ?_ | refine evx_lp_ret ?_
      | refine evx_code_exit ?_ | refine evx_lp_exit ?_ | refine evx_blk_hit ?_ | refine evx_blk_pass (by decide) ?_
      | refine And.intro ?_ ?_ | intro _ | decide +kernel | omega)
    all_goals first | (exfalso; omega) | (simp_all; done)
def woV (n : Node) (d r : Int) : Node := if efcode n d r = 0 then ⟨n.level, n.nsn, n.right, n.entries.take (findRef n.entries r).toNat ++ n.entries.drop ((findRef n.entries r).toNat + 1)⟩ else ⟨0, 0, 0, []⟩
theorem ef_zero {n : Node} {d r : Int} (h : efcode n d r = 0) : nf n d = 0 ∧ 0 ≤ findRef n.entries r := by
  unfold efcode at h
  (repeat' split at h) <;> omega
theorem nf_dup {n : Node} {d : Int} (h : nf n d = 0) : noDup n.entries = true := by
  unfold nf at h; (repeat' split at h) <;> first | omega | assumption
theorem wES_append (xs ys : List Entry) : wEntryS (xs ++ ys) = wEntryS xs + wEntryS ys := by unfold wEntryS sumW; simp; omega
theorem dropE_w (xs : List Entry) (i : Nat) : wEntryS (xs.take i ++ xs.drop (i + 1)) ≤ wEntryS xs := by
  have h1 : wEntryS (xs.take i) + wEntryS (xs.drop i) = wEntryS xs := by rw [← wES_append, List.take_append_drop]
  have h2 : wEntryS ((xs.drop i).take 1) + wEntryS ((xs.drop i).drop 1) = wEntryS (xs.drop i) := by rw [← wES_append, List.take_append_drop]
  rw [List.drop_drop] at h2
  rw [wES_append]; omega
theorem woV_w (n : Node) (d r : Int) : wEntryS (woV n d r).entries ≤ 50 := by
  unfold woV; split
  · rename_i h
    have h1 := nf_w (ef_zero h).1
    have h2 := dropE_w n.entries (findRef n.entries r).toNat
    exact Nat.le_trans h2 (by omega)
  · exact Nat.zero_le _
theorem filterE_one {xs : List Entry} {r : Int} {i : Nat} (h : noDup xs = true) (hi : i < xs.length) (hr : (xs.getD i default).ref = r) : xs.filter (fun p => decide (p.ref ≠ r)) = xs.take i ++ xs.drop (i + 1) := by
  have hd : ∀ a b, a < b → b < xs.length → (xs.getD a default).ref ≠ (xs.getD b default).ref := fun a b hab hb he => by
    have h1 := allLt_iff.mp h b hb
    have h2 : dupAt xs b = true := by
      unfold dupAt
      rw [List.any_eq_true]
      have hl : a < (xs.take b).length := by rw [List.length_take]; omega
      refine ⟨(xs.take b)[a], List.getElem_mem hl, ?_⟩
      rw [List.getElem_take, ← getD_lt (show a < xs.length by omega)]
      simpa using he
    rw [h2] at h1; cases h1
  conv => lhs; rw [← List.take_append_drop i xs, List.drop_eq_getElem_cons hi]
  rw [List.filter_append, List.filter_cons]
  have e0 : xs[i] = xs.getD i default := (getD_lt hi).symm
  have e1 : (xs.take i).filter (fun p => decide (p.ref ≠ r)) = xs.take i := by
    rw [List.filter_eq_self]
    intro p hp
    obtain ⟨k, hk, rfl⟩ := List.mem_iff_getElem.1 hp
    rw [List.length_take] at hk
    have := hd k i (by omega) hi
    rw [getD_lt (show k < xs.length by omega), hr] at this
    rw [List.getElem_take]
    simpa using this
  have e2 : (xs.drop (i + 1)).filter (fun p => decide (p.ref ≠ r)) = xs.drop (i + 1) := by
    rw [List.filter_eq_self]
    intro p hp
    obtain ⟨k, hk, rfl⟩ := List.mem_iff_getElem.1 hp
    rw [List.length_drop] at hk
    have := hd i (i + 1 + k) (by omega) (by omega)
    rw [getD_lt (show i + 1 + k < xs.length by omega), hr] at this
    rw [List.getElem_drop]
    simpa using Ne.symm this
  have e3 : decide (xs[i].ref ≠ r) = false := by rw [e0, hr]; simp
  rw [e1, e2, e3]; rfl
@[go_sem] abbrev eY (b : Int) : List C := [.int .u8 b]
@[go_sem] abbrev sY (xs : List Int) : C := .sl none 1 (xs.map eY)
@[go_sem] abbrev aY (xs : List Int) : Arg := .d (false, [sY xs])
/-- The source of a code's bytes. -/
@[go_sem] abbrev bSrc (c : List Int) (a : Int) : Blk := .box [.c (sY c), iT a]
def codeOk (c : List Int) : Prop := c.length ≤ 1048576 ∧ ∀ b ∈ c, 0 ≤ b ∧ b < 256
def nv (c : List Int) (a n : Int) : Int :=
  if n > 200 then (c.getD (a % c.length).toNat default + a / c.length * 37) * 251 + c.getD ((a + 1) % c.length).toNat default * 13 + a
  else c.getD (a % c.length).toNat default + a / c.length * 37
def nx (c : List Int) (a n : Int) : Int := if c.length = 0 then (a * 7) % n else nv c a n % n
theorem byte_get {c : List Int} (hc : codeOk c) (i : Nat) : 0 ≤ c.getD i default ∧ c.getD i default < 256 := by
  rw [List.getD_eq_getElem?_getD]
  rcases h : c[i]? with _ | x
  · exact ⟨by decide, by decide⟩
  · exact hc.2 x (List.mem_of_getElem? h)
theorem nx_in {c : List Int} {a n : Int} (hn : 1 ≤ n) : 0 ≤ nx c a n ∧ nx c a n < n := by
  unfold nx
  split <;> exact ⟨Int.emod_nonneg _ (by omega), Int.emod_lt_of_pos _ (by omega)⟩
theorem tmod_pos {a b : Int} (h : 0 ≤ a) : a.tmod b = a % b := Int.tmod_eq_emod_of_nonneg h
theorem tdiv_pos {a b : Int} (h : 0 ≤ a) : a.tdiv b = a / b := Int.tdiv_eq_ediv_of_nonneg h
section
variable {c : Cx} {i : Nat} {dst : Option Nat} {rest : List Oper} {acc : List (List Nat × List Nat)} {st : St} {f κ : Nat} {P : Program}
theorem vcallG_at {caps args ts : List T} {ats : List Nat} {hc' : List (Nat × Blk)} {rt : T} {b : Blk} (K : Nat) (ks : List Nat) (hst : st.h K = some b) (hP : c.E.fr.P = P) (hs : SatG P f false ts [(1, b)] rt hc') (h : vcallG c i dst rest acc st caps args ts [(1, b)] rt hc' P (rhoOf [(1, K)] κ) ks) :
    vcall c i dst rest acc st f caps args ats κ := vcallG_of [(1, K)] ks hP hs h
end
theorem s_l1Next (c : List Int) (a n : Int) (hc : codeOk c) (h0 : 0 ≤ a) (h1 : a ≤ 1073741824) (h2 : 1 ≤ n) (h3 : n ≤ 60000) : SatG Try.prog 184 false [.ptr 1 0, iT n] [(1, bSrc c a)] (iT (nx c a n)) [(1, bSrc c (a + 1))] := by
  refine satG_walk (fn := Try.f184) rfl rfl rfl (Nat.le_of_ble_eq_true rfl) (by simp) fun fr hP hN hdp hb1 hb2 => ?_
  have hE : (envOf fr Try.prog).Ok := envOf_ok hP
  have hM := follows_of hP
  have hS : ∀ {draw ops}, statB Try.f184.ntmps draw ops = true → statB (envOf fr Try.prog).fr.N draw ops = true := fun h => by rw [envOf_fr, hN]; exact h
  have w1 : IntKind.i64.wrap (a + 1) = a + 1 := i64_in _ (by omega)
  have w2 : IntKind.i64.wrap (a + 1 - 1) = a := by rw [i64_in _ (by omega)]; omega
  have n0 : (n = 0) = False := eq_false (by omega)
  have n1 : decide (n < 1) = false := by simp; omega
  have n6 : decide (60000 < n) = false := by simp; omega
  by_cases hz : c.length = 0
  · have w3 : IntKind.i64.wrap (a * 7) = a * 7 := i64_in _ (by omega)
    have e : nx c a n = (a * 7).tmod n := by unfold nx; rw [if_pos hz, tmod_pos (by omega)]
    rw [e]
    repeat' (first
      | exact True.intro
      | refine ev_seq ?_
      | ((first | refine vgd_go ?_ | refine ev_region hE hM (hS (by decide +kernel)) ?_ | refine ev_if ?_ | refine end_ret hE rfl rfl ?_ | refine end_norm hE rfl rfl ?_ | refine endG_ret [] hE rfl ?_ | refine endG_norm [] hE rfl ?_ | refine vcall_A ?_); simp (maxSteps := 2000000) only [go_sem, hP, ↓reduceIte, Nat.reduceAdd, Nat.reduceMul, Nat.reduceEqDiff, Nat.reduceSub, Nat.reduceLeDiff, reduceCtorEq, w1, w2, w3, hz, n0, n1])
      | refine ev_skip ?_ | refine ev_block ?_ | refine ev_blk ?_ | refine ev_ret ?_ | refine ev_exit ?_ | refine evx_code_ret ?_ | refine evx_blk_ret ?_ | refine evx_lp_ret ?_
      | refine evx_code_exit ?_ | refine evx_lp_exit ?_ | refine evx_blk_hit ?_ | refine evx_blk_pass (by decide) ?_
      | refine And.intro ?_ ?_ | intro _ | decide +kernel | omega)
    all_goals first | (exfalso; omega) | (simp_all; done)
  · have k0 : ((c.length : Int) = 0) = False := eq_false (by omega)
    have k1 : ((c.length : Int) == 0) = false := beq_eq_false_iff_ne.2 (by omega)
    have hk := hc.1
    have e1 := tmod_pos (b := c.length) h0
    have e2 := tdiv_pos (b := c.length) h0
    have e3 := tmod_pos (a := a + 1) (b := c.length) (by omega)
    have m1 := Int.emod_nonneg a (b := c.length) (by omega)
    have m2 := Int.emod_lt_of_pos a (b := c.length) (by omega)
    have m3 := Int.emod_nonneg (a + 1) (b := c.length) (by omega)
    have m4 := Int.emod_lt_of_pos (a + 1) (b := c.length) (by omega)
    have d1 : 0 ≤ a / c.length := Int.ediv_nonneg h0 (by omega)
    have d2 : a / c.length ≤ a := Int.ediv_le_self _ h0
    obtain ⟨b1, b2⟩ := byte_get hc (a % c.length).toNat
    obtain ⟨b3, b4⟩ := byte_get hc ((a + 1) % c.length).toNat
    have ev : nx c a n = (nv c a n).tmod n := by unfold nx; rw [if_neg hz, tmod_pos]; unfold nv; split <;> omega
    rw [ev]
    unfold nv
    generalize hx : c.getD (a % c.length).toNat default = x at *
    generalize hy : c.getD ((a + 1) % c.length).toNat default = y at *
    generalize hq : a / c.length = q at *
    generalize hr : a % c.length = r at *
    generalize hs : (a + 1) % c.length = s at *
    have w3 : IntKind.i64.wrap q = q := i64_in _ (by omega)
    have w4 : IntKind.i64.wrap (q * 37) = q * 37 := i64_in _ (by omega)
    have w5 : IntKind.i64.wrap x = x := i64_in _ (by omega)
    have w6 : IntKind.i64.wrap (x + q * 37) = x + q * 37 := i64_in _ (by omega)
    have w7 : IntKind.i64.wrap ((x + q * 37) * 251) = (x + q * 37) * 251 := i64_in _ (by omega)
    have w8 : IntKind.i64.wrap y = y := i64_in _ (by omega)
    have w9 : IntKind.i64.wrap (y * 13) = y * 13 := i64_in _ (by omega)
    have wa : IntKind.i64.wrap ((x + q * 37) * 251 + y * 13) = (x + q * 37) * 251 + y * 13 := i64_in _ (by omega)
    have wb : IntKind.i64.wrap ((x + q * 37) * 251 + y * 13 + a) = (x + q * 37) * 251 + y * 13 + a := i64_in _ (by omega)
    by_cases h2 : n > 200
    · rw [if_pos h2]
      have n2 : decide (200 < n) = true := by simp; omega
      repeat' (first
        | exact True.intro
        | refine ev_seq ?_
        | ((first | refine vgd_go ?_ | refine ev_region hE hM (hS (by decide +kernel)) ?_ | refine ev_if ?_ | refine end_ret hE rfl rfl ?_ | refine end_norm hE rfl rfl ?_ | refine endG_ret [] hE rfl ?_ | refine endG_norm [] hE rfl ?_ | refine vcall_A ?_); simp (maxSteps := 2000000) only [go_sem, hP, ↓reduceIte, Nat.reduceAdd, Nat.reduceMul, Nat.reduceEqDiff, Nat.reduceSub, Nat.reduceLeDiff, reduceCtorEq, w1, w2, w3, w4, w5, w6, w7, w8, w9, wa, wb, e1, e2, e3, hx, hy, hq, hr, hs, k0, k1, n0, n1, n2, n6])
        | refine ev_skip ?_ | refine ev_block ?_ | refine ev_blk ?_ | refine ev_ret ?_ | refine ev_exit ?_ | refine evx_code_ret ?_ | refine evx_blk_ret ?_ | refine evx_lp_ret ?_
        | refine evx_code_exit ?_ | refine evx_lp_exit ?_ | refine evx_blk_hit ?_ | refine evx_blk_pass (by decide) ?_
        | refine And.intro ?_ ?_ | intro _ | decide +kernel | omega)
      all_goals first | (exfalso; omega) | omega | (simp_all; done)
    · rw [if_neg h2]
      have n2 : decide (200 < n) = false := by simp; omega
      repeat' (first
        | exact True.intro
        | refine ev_seq ?_
        | ((first | refine vgd_go ?_ | refine ev_region hE hM (hS (by decide +kernel)) ?_ | refine ev_if ?_ | refine end_ret hE rfl rfl ?_ | refine end_norm hE rfl rfl ?_ | refine endG_ret [] hE rfl ?_ | refine endG_norm [] hE rfl ?_ | refine vcall_A ?_); simp (maxSteps := 2000000) only [go_sem, hP, ↓reduceIte, Nat.reduceAdd, Nat.reduceMul, Nat.reduceEqDiff, Nat.reduceSub, Nat.reduceLeDiff, reduceCtorEq, w1, w2, w3, w4, w5, w6, e1, e2, hx, hq, hr, k0, k1, n0, n1, n2, n6])
        | refine ev_skip ?_ | refine ev_block ?_ | refine ev_blk ?_ | refine ev_ret ?_ | refine ev_exit ?_ | refine evx_code_ret ?_ | refine evx_blk_ret ?_ | refine evx_lp_ret ?_
        | refine evx_code_exit ?_ | refine evx_lp_exit ?_ | refine evx_blk_hit ?_ | refine evx_blk_pass (by decide) ?_
        | refine And.intro ?_ ?_ | intro _ | decide +kernel | omega)
      all_goals first | (exfalso; omega) | omega | (simp_all; done)
def pk (c : List Int) (a : Int) (xs : List Int) : Int := xs.getD (nx c a xs.length).toNat default
def coord (c : List Int) (a : Int) : Int := pk c (a + 4) [nx c a 20, nx c (a + 1) 20, nx c (a + 2) 20 - 10, nx c (a + 3) 300 * 3 - 400, 1000, -1000]
theorem pk_mem {c : List Int} {a : Int} {xs : List Int} (h : xs ≠ []) : pk c a xs ∈ xs := by
  have hl : 1 ≤ xs.length := List.length_pos_iff.2 h
  obtain ⟨p1, p2⟩ := nx_in (c := c) (a := a) (n := xs.length) (by omega)
  unfold pk
  rw [List.getD_eq_getElem?_getD, List.getElem?_eq_getElem (by omega)]
  exact List.getElem_mem _
theorem coord_in (c : List Int) (a : Int) : -1000 ≤ coord c a ∧ coord c a ≤ 1000 := by
  have h := pk_mem (c := c) (a := a + 4) (xs := [nx c a 20, nx c (a + 1) 20, nx c (a + 2) 20 - 10, nx c (a + 3) 300 * 3 - 400, 1000, -1000]) (by simp)
  have e0 := nx_in (c := c) (a := a) (n := 20) (by omega)
  have e1 := nx_in (c := c) (a := a + 1) (n := 20) (by omega)
  have e2 := nx_in (c := c) (a := a + 2) (n := 20) (by omega)
  have e3 := nx_in (c := c) (a := a + 3) (n := 300) (by omega)
  simp only [List.mem_cons, List.not_mem_nil, or_false] at h
  unfold coord
  rcases h with h | h | h | h | h | h <;> rw [h] <;> omega
def pointV (c : List Int) (a : Int) (d : Nat) : List Int := (List.range d).map fun (i : Nat) => coord c (a + 5 * i)
def rectLo (c : List Int) (a : Int) (d : Nat) : List Int := (List.range d).map fun (i : Nat) => coord c (a + 6 * i)
def rectHi (c : List Int) (a : Int) (d : Nat) : List Int := (List.range d).map fun (i : Nat) => min (coord c (a + 6 * i) + pk c (a + 6 * i + 5) [0, 1, 3, 8, 30]) 1000
def rectV (c : List Int) (a : Int) (d : Nat) : Rect := ⟨rectLo c a d, rectHi c a d⟩
theorem pk5_in (c : List Int) (a : Int) : 0 ≤ pk c a [0, 1, 3, 8, 30] ∧ pk c a [0, 1, 3, 8, 30] ≤ 30 := by
  have h := pk_mem (c := c) (a := a) (xs := [0, 1, 3, 8, 30]) (by simp)
  simp only [List.mem_cons, List.not_mem_nil, or_false] at h
  omega
theorem dims_in (c : List Int) (a : Int) : pk c a [2, 2, 3] = 2 ∨ pk c a [2, 2, 3] = 3 := by
  have h := pk_mem (c := c) (a := a) (xs := [2, 2, 3]) (by simp)
  simp only [List.mem_cons, List.not_mem_nil, or_false] at h
  omega
theorem rectV_hi (c : List Int) (a : Int) (d i : Nat) (h : i < d) : -1000 ≤ (rectHi c a d).getD i default ∧ (rectHi c a d).getD i default ≤ 1000 := by
  unfold rectHi
  rw [getD_lt (by simpa using h)]
  simp only [List.getElem_map, List.getElem_range]
  have h1 := coord_in c (a + 6 * i)
  have h2 := pk5_in c (a + 6 * i + 5)
  omega
def bentV (c : List Int) (a : Int) (d : Nat) : Rect :=
  if nx c (a + 6 * d) 14 = 0 then ⟨(rectLo c a d).set 0 (pk c (a + 6 * d + 1) [(rectHi c a d).getD 0 default + 1, -1001, 1001]), rectHi c a d⟩
  else if nx c (a + 6 * d) 14 = 1 then ⟨rectLo c a d, (rectHi c a d).drop 1⟩
  else if nx c (a + 6 * d) 14 = 2 then ⟨rectLo c a d ++ [0], rectHi c a d⟩
  else if nx c (a + 6 * d) 14 = 3 then ⟨rectLo c a d, (rectHi c a d).set 1 (pk c (a + 6 * d + 1) [1000, 1001, -1000])⟩
  else rectV c a d
def bentA (c : List Int) (a : Int) (d : Nat) : Int := if nx c (a + 6 * d) 14 = 0 ∨ nx c (a + 6 * d) 14 = 3 then a + 6 * d + 2 else a + 6 * d + 1
theorem bentA_in (c : List Int) (a : Int) (d : Nat) : a ≤ bentA c a d ∧ bentA c a d ≤ a + 6 * d + 2 := by unfold bentA; split <;> omega
theorem s_l1Chance (c : List Int) (a n : Int) (hc : codeOk c) (h0 : 0 ≤ a) (h1 : a ≤ 1073741824) (h2 : 1 ≤ n) (h3 : n ≤ 60000) : SatG Try.prog 139 false [.ptr 1 0, iT n] [(1, bSrc c a)] (.c (.bool (nx c a n == 0))) [(1, bSrc c (a + 1))] := by
  refine satG_walk (fn := Try.f139) rfl rfl rfl (Nat.le_of_ble_eq_true rfl) (by simp) fun fr hP hN hdp hb1 hb2 => ?_
  have hE : (envOf fr Try.prog).Ok := envOf_ok hP
  have hM := follows_of hP
  have hS : ∀ {draw ops}, statB Try.f139.ntmps draw ops = true → statB (envOf fr Try.prog).fr.N draw ops = true := fun h => by rw [envOf_fr, hN]; exact h
  repeat' (first
    | exact True.intro
    | refine ev_seq ?_
    | ((first | refine vgd_go ?_ | refine ev_region hE hM (hS (by decide +kernel)) ?_ | refine ev_if ?_ | refine end_ret hE rfl rfl ?_ | refine end_norm hE rfl rfl ?_ | refine endG_ret [] hE rfl ?_ | refine endG_norm [] hE rfl ?_ | refine vcallG_at (args := [.ptr 1 0, iT n]) 1 [] rfl hP (s_l1Next c _ n hc (by omega) (by omega) (by omega) (by omega)) ?_ | refine vcall_A ?_); simp (maxSteps := 2000000) only [go_sem, hP, ↓reduceIte, Nat.reduceAdd, Nat.reduceMul, Nat.reduceEqDiff, Nat.reduceSub, Nat.reduceLeDiff, reduceCtorEq])
    | refine ev_skip ?_ | refine ev_block ?_ | refine ev_blk ?_ | refine ev_ret ?_ | refine ev_exit ?_ | refine evx_code_ret ?_ | refine evx_blk_ret ?_ | refine evx_lp_ret ?_
    | refine evx_code_exit ?_ | refine evx_lp_exit ?_ | refine evx_blk_hit ?_ | refine evx_blk_pass (by decide) ?_
    | refine And.intro ?_ ?_ | intro _ | decide +kernel | omega)
theorem s_l1Pick (c : List Int) (a : Int) (xs : List Int) (hc : codeOk c) (h0 : 0 ≤ a) (h1 : a ≤ 1073741824) (h2 : 1 ≤ xs.length) (h3 : xs.length ≤ 60000) : SatG Try.prog 135 false [.ptr 1 0, .c (.sl none 1 (xs.map eI))] [(1, bSrc c a)] (iT (pk c a xs)) [(1, bSrc c (a + 1))] := by
  refine satG_walk (fn := Try.f135) rfl rfl rfl (Nat.le_of_ble_eq_true rfl) (by simp) fun fr hP hN hdp hb1 hb2 => ?_
  have hE : (envOf fr Try.prog).Ok := envOf_ok hP
  have hM := follows_of hP
  have hS : ∀ {draw ops}, statB Try.f135.ntmps draw ops = true → statB (envOf fr Try.prog).fr.N draw ops = true := fun h => by rw [envOf_fr, hN]; exact h
  obtain ⟨p1, p2⟩ := nx_in (c := c) (a := a) (n := xs.length) (by omega)
  unfold pk
  repeat' (first
    | exact True.intro
    | refine ev_seq ?_
    | ((first | refine vgd_go ?_ | refine ev_region hE hM (hS (by decide +kernel)) ?_ | refine ev_if ?_ | refine end_ret hE rfl rfl ?_ | refine end_norm hE rfl rfl ?_ | refine endG_ret [] hE rfl ?_ | refine endG_norm [] hE rfl ?_ | refine vcallG_at (args := [.ptr 1 0, iT xs.length]) 1 [] rfl hP (s_l1Next c _ xs.length hc (by omega) (by omega) (by omega) (by omega)) ?_ | refine vcall_A ?_); simp (maxSteps := 2000000) only [go_sem, hP, ↓reduceIte, Nat.reduceAdd, Nat.reduceMul, Nat.reduceEqDiff, Nat.reduceSub, Nat.reduceLeDiff, reduceCtorEq, List.length_map])
    | refine ev_skip ?_ | refine ev_block ?_ | refine ev_blk ?_ | refine ev_ret ?_ | refine ev_exit ?_ | refine evx_code_ret ?_ | refine evx_blk_ret ?_ | refine evx_lp_ret ?_
    | refine evx_code_exit ?_ | refine evx_lp_exit ?_ | refine evx_blk_hit ?_ | refine evx_blk_pass (by decide) ?_
    | refine And.intro ?_ ?_ | intro _ | decide +kernel | omega)
theorem s_l1Coord (c : List Int) (a : Int) (hc : codeOk c) (h0 : 0 ≤ a) (h1 : a ≤ 1073741800) : SatG Try.prog 244 false [.ptr 1 0] [(1, bSrc c a)] (iT (coord c a)) [(1, bSrc c (a + 5))] := by
  refine satG_walk (fn := Try.f244) rfl rfl rfl (Nat.le_of_ble_eq_true rfl) (by simp) fun fr hP hN hdp hb1 hb2 => ?_
  have hE : (envOf fr Try.prog).Ok := envOf_ok hP
  have hM := follows_of hP
  have hS : ∀ {draw ops}, statB Try.f244.ntmps draw ops = true → statB (envOf fr Try.prog).fr.N draw ops = true := fun h => by rw [envOf_fr, hN]; exact h
  obtain ⟨p1, p2⟩ := nx_in (c := c) (a := a + 2) (n := 20) (by omega)
  obtain ⟨p3, p4⟩ := nx_in (c := c) (a := a + 3) (n := 300) (by omega)
  have w1 : IntKind.i64.wrap (nx c (a + 2) 20 - 10) = nx c (a + 2) 20 - 10 := i64_in _ (by omega)
  have w2 : IntKind.i64.wrap (nx c (a + 3) 300 * 3) = nx c (a + 3) 300 * 3 := i64_in _ (by omega)
  have w3 : IntKind.i64.wrap (nx c (a + 3) 300 * 3 - 400) = nx c (a + 3) 300 * 3 - 400 := i64_in _ (by omega)
  unfold coord
  repeat' (first
    | exact True.intro
    | refine ev_seq ?_
    | ((first | refine vgd_go ?_ | refine ev_region hE hM (hS (by decide +kernel)) ?_ | refine ev_if ?_ | refine end_ret hE rfl rfl ?_ | refine end_norm hE rfl rfl ?_ | refine endG_ret [] hE rfl ?_ | refine endG_norm [] hE rfl ?_ | refine vcallG_at (args := [.ptr 1 0, iT 20]) 1 [] rfl hP (s_l1Next c _ 20 hc (by omega) (by omega) (by omega) (by omega)) ?_ | refine vcallG_at (args := [.ptr 1 0, iT 300]) 1 [] rfl hP (s_l1Next c _ 300 hc (by omega) (by omega) (by omega) (by omega)) ?_ | refine vcallG_at (args := [.ptr 1 0, .ref 4192]) 1 [4192] rfl hP (s_l1Pick c _ [nx c a 20, nx c (a + 1) 20, nx c (a + 2) 20 - 10, nx c (a + 3) 300 * 3 - 400, 1000, -1000] hc (by omega) (by omega) (by simp) (by simp)) ?_ | refine vcall_A ?_); simp (maxSteps := 2000000) only [go_sem, hP, ↓reduceIte, Nat.reduceAdd, Nat.reduceMul, Nat.reduceEqDiff, Nat.reduceSub, Nat.reduceLeDiff, reduceCtorEq, Int.add_assoc, Int.reduceAdd, w1, w2, w3])
    | refine ev_skip ?_ | refine ev_block ?_ | refine ev_blk ?_ | refine ev_ret ?_ | refine ev_exit ?_ | refine evx_code_ret ?_ | refine evx_blk_ret ?_ | refine evx_lp_ret ?_
    | refine evx_code_exit ?_ | refine evx_lp_exit ?_ | refine evx_blk_hit ?_ | refine evx_blk_pass (by decide) ?_
    | refine And.intro ?_ ?_ | intro _ | decide +kernel | omega)
  all_goals first | rfl | simp
theorem s_l1Dims (c : List Int) (a : Int) (hc : codeOk c) (h0 : 0 ≤ a) (h1 : a ≤ 1073741800) : SatG Try.prog 149 false [.ptr 1 0] [(1, bSrc c a)] (iT (pk c a [2, 2, 3])) [(1, bSrc c (a + 1))] := by
  refine satG_walk (fn := Try.f149) rfl rfl rfl (Nat.le_of_ble_eq_true rfl) (by simp) fun fr hP hN hdp hb1 hb2 => ?_
  have hE : (envOf fr Try.prog).Ok := envOf_ok hP
  have hM := follows_of hP
  have hS : ∀ {draw ops}, statB Try.f149.ntmps draw ops = true → statB (envOf fr Try.prog).fr.N draw ops = true := fun h => by rw [envOf_fr, hN]; exact h
  repeat' (first
    | exact True.intro
    | refine ev_seq ?_
    | ((first | refine vgd_go ?_ | refine ev_region hE hM (hS (by decide +kernel)) ?_ | refine ev_if ?_ | refine end_ret hE rfl rfl ?_ | refine end_norm hE rfl rfl ?_ | refine endG_ret [] hE rfl ?_ | refine endG_norm [] hE rfl ?_ | refine vcallG_at (args := [.ptr 1 0, .ref 4104]) 1 [4104] rfl hP (s_l1Pick c _ [2, 2, 3] hc (by omega) (by omega) (by simp) (by simp)) ?_ | refine vcall_A ?_); simp (maxSteps := 2000000) only [go_sem, hP, ↓reduceIte, Nat.reduceAdd, Nat.reduceMul, Nat.reduceEqDiff, Nat.reduceSub, Nat.reduceLeDiff, reduceCtorEq])
    | refine ev_skip ?_ | refine ev_block ?_ | refine ev_blk ?_ | refine ev_ret ?_ | refine ev_exit ?_ | refine evx_code_ret ?_ | refine evx_blk_ret ?_ | refine evx_lp_ret ?_
    | refine evx_code_exit ?_ | refine evx_lp_exit ?_ | refine evx_blk_hit ?_ | refine evx_blk_pass (by decide) ?_
    | refine And.intro ?_ ?_ | intro _ | decide +kernel | omega)
  all_goals rfl
theorem s_l1Source (c : List Int) : SatG Try.prog 148 false [.c (sY c)] [] (.ptr 1 0) [(1, bSrc c 0)] := by
  refine satG_walk (fn := Try.f148) rfl rfl rfl (Nat.le_of_ble_eq_true rfl) (by simp) fun fr hP hN hdp hb1 hb2 => ?_
  have hE : (envOf fr Try.prog).Ok := envOf_ok hP
  have hM := follows_of hP
  have hS : ∀ {draw ops}, statB Try.f148.ntmps draw ops = true → statB (envOf fr Try.prog).fr.N draw ops = true := fun h => by rw [envOf_fr, hN]; exact h
  repeat' (first
    | exact True.intro
    | refine ev_seq ?_
    | ((first | refine endG_ret [(1, some 4112)] hE rfl ?_ | refine vgd_go ?_ | refine ev_region hE hM (hS (by decide +kernel)) ?_ | refine ev_if ?_ | refine end_ret hE rfl rfl ?_ | refine end_norm hE rfl rfl ?_ | refine endG_ret [] hE rfl ?_ | refine endG_norm [] hE rfl ?_ | refine vcall_A ?_); simp (maxSteps := 2000000) only [go_sem, hP, ↓reduceIte, Nat.reduceAdd, Nat.reduceMul, Nat.reduceEqDiff, Nat.reduceSub, Nat.reduceLeDiff, reduceCtorEq])
    | refine ev_skip ?_ | refine ev_block ?_ | refine ev_blk ?_ | refine ev_ret ?_ | refine ev_exit ?_ | refine evx_code_ret ?_ | refine evx_blk_ret ?_ | refine evx_lp_ret ?_
    | refine evx_code_exit ?_ | refine evx_lp_exit ?_ | refine evx_blk_hit ?_ | refine evx_blk_pass (by decide) ?_
    | refine And.intro ?_ ?_ | intro _ | decide +kernel | omega)
theorem s_l1RectR (c : List Int) (a : Int) (d : Nat) (hc : codeOk c) (h0 : 0 ≤ a) (h1 : a ≤ 1073000000) (hd0 : 0 < d) (hd : d ≤ 100) : SatG Try.prog 246 false [.ptr 1 0, iT d] [(1, bSrc c a)] (.agg [.ref 2, .ref 3]) [(1, bSrc c (a + 6 * d)), (2, .arr true 2 1 ((rectLo c a d).map eI)), (3, .arr true 2 1 ((rectHi c a d).map eI))] := by
  refine satG_walk (fn := Try.f246) rfl rfl rfl (Nat.le_of_ble_eq_true rfl) (by simp) fun fr hP hN hdp hb1 hb2 => ?_
  have hE : (envOf fr Try.prog).Ok := envOf_ok hP
  have hM := follows_of hP
  have hS : ∀ {draw ops}, statB Try.f246.ntmps draw ops = true → statB (envOf fr Try.prog).fr.N draw ops = true := fun h => by rw [envOf_fr, hN]; exact h
  repeat' (first
    | exact True.intro
    | refine ev_seq ?_
    | ((first | refine vgd_go ?_ | refine ev_region hE hM (hS (by decide +kernel)) ?_ | refine ev_if ?_ | refine end_ret hE rfl rfl ?_ | refine end_norm hE rfl rfl ?_ | refine endG_ret [] hE rfl ?_ | refine endG_norm [] hE rfl ?_ | refine vcall_A ?_); simp (maxSteps := 2000000) only [go_sem, hP, ↓reduceIte, Nat.reduceAdd, Nat.reduceMul, Nat.reduceEqDiff, Nat.reduceSub, Nat.reduceLeDiff, reduceCtorEq])
    | refine ev_skip ?_ | refine ev_block ?_ | refine ev_blk ?_ | refine ev_ret ?_ | refine ev_exit ?_ | refine evx_code_ret ?_ | refine evx_blk_ret ?_ | refine evx_lp_ret ?_
    | refine evx_code_exit ?_ | refine evx_lp_exit ?_ | refine evx_blk_hit ?_ | refine evx_blk_pass (by decide) ?_
    | refine And.intro ?_ ?_ | intro _ | decide +kernel | omega)
  refine ev_loop (ι := Nat) (fun k => [(0, .ptr 1 0), (1, iT d), (4, .ptr 0 0), (5, .ptr 4104 0), (6, iT k)]) (fun k => [(1, bSrc c (a + 6 * k)), (0, .box [.nilS, .nilS]), (4104, .box [.ref 100000, .ref 100001]), (100000, .arr true 2 1 ((rectLo c a k).map eI)), (100001, .arr true 2 1 ((rectHi c a k).map eI))]) (fun _ => [(0, .ref 1)]) (fun k => k ≤ d) (fun k => d - k) 0 [(100000, none), (100001, none)] (by omega) (by simp only [go_sem, hP, ↓reduceIte, Nat.reduceAdd, Nat.reduceMul, Nat.reduceEqDiff, Nat.reduceSub, Nat.reduceLeDiff, reduceCtorEq]; simp [rectLo, rectHi]) ?_
  intro k hk
  have hw1 : k < d → IntKind.i64.wrap ((k : Int) + 1) = k + 1 := fun h => i64_in _ (by omega)
  have hl1 : (rectLo c a k).length = k := by simp [rectLo]
  have hl2 : (rectHi c a k).length = k := by simp [rectHi]
  have q1 := coord_in c (a + 6 * k)
  have q2 := pk5_in c (a + 6 * k + 5)
  have hw2 : IntKind.i64.wrap (coord c (a + 6 * k) + pk c (a + 6 * k + 5) [0, 1, 3, 8, 30]) = coord c (a + 6 * k) + pk c (a + 6 * k + 5) [0, 1, 3, 8, 30] := i64_in _ (by omega)
  by_cases hlt : k < d
  · repeat' (first
      | exact True.intro
      | refine ev_seq ?_
      | ((first | refine vgd_go ?_ | refine ev_region hE hM (hS (by decide +kernel)) ?_ | refine ev_if ?_ | refine end_ret hE rfl rfl ?_ | refine end_norm hE rfl rfl ?_ | refine endG_ret [] hE rfl ?_ | refine endG_norm [] hE rfl ?_ | refine vcallG_at (args := [.ptr 1 0]) 1 [] rfl hP (s_l1Coord c _ hc (by omega) (by omega)) ?_ | refine vcallG_at (args := [.ptr 1 0, .ref 24592]) 1 [24592] rfl hP (s_l1Pick c _ [0, 1, 3, 8, 30] hc (by omega) (by omega) (by simp) (by simp)) ?_ | refine vcallB_of hP (s_l1Min _ _) ?_ | refine vcall_A ?_); simp (maxSteps := 2000000) only [go_sem, hP, ↓reduceIte, Nat.reduceAdd, Nat.reduceMul, Nat.reduceEqDiff, Nat.reduceSub, Nat.reduceLeDiff, reduceCtorEq, Bool.and_self, List.length_map, hl1, hl2, hw2])
      | refine ev_skip ?_ | refine ev_block ?_ | refine ev_blk ?_ | refine ev_ret ?_ | refine ev_exit ?_ | refine evx_code_ret ?_ | refine evx_blk_ret ?_ | refine evx_lp_ret ?_
      | refine evx_code_exit ?_ | refine evx_lp_exit ?_ | refine evx_blk_hit ?_ | refine evx_blk_pass (by decide) ?_
      | refine And.intro ?_ ?_ | intro _ | decide +kernel | omega)
    all_goals first
      | exact ev_lp (k + 1) [(100000, some 28704), (100001, some 32800)] (by omega) (by omega) (by simp only [go_sem, hP, ↓reduceIte, Nat.reduceAdd, Nat.reduceMul, Nat.reduceEqDiff, Nat.reduceSub, Nat.reduceLeDiff, reduceCtorEq]; simp [hw1 hlt, rectLo, rectHi, List.range_succ]; exact ⟨by omega, rfl, rfl⟩)
      | (exfalso; omega)
      | rfl
      | omega
      | (simp_all; done)
  · have hke : k = d := by omega
    subst hke
    repeat' (first
      | exact True.intro
      | refine ev_seq ?_
      | ((first | refine endG_ret [(2, some 100000), (3, some 100001)] hE rfl ?_ | refine vgd_go ?_ | refine ev_region hE hM (hS (by decide +kernel)) ?_ | refine ev_if ?_ | refine end_ret hE rfl rfl ?_ | refine end_norm hE rfl rfl ?_ | refine endG_ret [] hE rfl ?_ | refine endG_norm [] hE rfl ?_ | refine vcall_A ?_); simp (maxSteps := 2000000) only [go_sem, hP, ↓reduceIte, Nat.reduceAdd, Nat.reduceMul, Nat.reduceEqDiff, Nat.reduceSub, Nat.reduceLeDiff, reduceCtorEq])
      | refine ev_skip ?_ | refine ev_block ?_ | refine ev_blk ?_ | refine ev_ret ?_ | refine ev_exit ?_ | refine evx_code_ret ?_ | refine evx_blk_ret ?_ | refine evx_lp_ret ?_
      | refine evx_code_exit ?_ | refine evx_lp_exit ?_ | refine evx_blk_hit ?_ | refine evx_blk_pass (by decide) ?_
      | refine And.intro ?_ ?_ | intro _ | decide +kernel | omega)
    all_goals first
      | (exfalso; omega)
      | (simp_all; done)
theorem s_l1Rect (c : List Int) (a : Int) (d : Nat) (hc : codeOk c) (h0 : 0 ≤ a) (h1 : a ≤ 1073000000) (hd0 : 0 < d) (hd : d ≤ 100) : SatG Try.prog 246 false [.ptr 1 0, iT d] [(1, bSrc c a)] (.agg [.c (sI (rectLo c a d)), .c (sI (rectHi c a d))]) [(1, bSrc c (a + 6 * d))] := by
  have h := satG_weak (rt' := .agg [.ref 2, .ref 3]) (hl2 := [(1, bSrc c (a + 6 * d)), (2, .fro 1 ((rectLo c a d).map eI)), (3, .fro 1 ((rectHi c a d).map eI))]) [] (s_l1RectR c a d hc h0 h1 hd0 hd) (by simp only [go_sem, ↓reduceIte, reduceCtorEq]; simp [strip_eI]) (by simp only [go_sem, ↓reduceIte, reduceCtorEq]; simp) (fun κ _ => rfl)
  exact satG_data (fz := [(2, .fro 1 ((rectLo c a d).map eI)), (3, .fro 1 ((rectHi c a d).map eI))]) (fun κ h => by simp only [lk] at h; split at h <;> simp_all) trivial rfl h
theorem s_l1Bent0 (c : List Int) (a : Int) (d : Nat) (hc : codeOk c) (h0 : 0 ≤ a) (h1 : a ≤ 1073000000 - 100000) (hd0 : 2 ≤ d) (hd : d ≤ 100) (hv : nx c (a + 6 * d) 14 = 0) : SatG Try.prog 150 false [.ptr 1 0, iT d] [(1, bSrc c a)] (.agg [.c (sI (bentV c a d).low), .c (sI (bentV c a d).high)]) [(1, bSrc c (bentA c a d))] := by
  have ev : bentV c a d = ⟨(rectLo c a d).set 0 (pk c (a + 6 * d + 1) [(rectHi c a d).getD 0 default + 1, -1001, 1001]), rectHi c a d⟩ := by unfold bentV; simp [hv, rectV]
  have ea : bentA c a d = a + 6 * d + 2 := by unfold bentA; simp [hv]
  rw [ev, ea]
  have h : SatG Try.prog 150 false [.ptr 1 0, iT d] [(1, bSrc c a)] (.agg [.ref 2, .ref 3]) ((1, bSrc c (a + 6 * d + 2)) :: [(2, .fro 1 (((rectLo c a d).set 0 (pk c (a + 6 * d + 1) [(rectHi c a d).getD 0 default + 1, -1001, 1001])).map eI)), (3, .fro 1 ((rectHi c a d).map eI))]) := by
    refine satG_walk (fn := Try.f150) rfl rfl rfl (Nat.le_of_ble_eq_true rfl) (by simp) fun fr hP hN hdp hb1 hb2 => ?_
    have hE : (envOf fr Try.prog).Ok := envOf_ok hP
    have hM := follows_of hP
    have hS : ∀ {draw ops}, statB Try.f150.ntmps draw ops = true → statB (envOf fr Try.prog).fr.N draw ops = true := fun h => by rw [envOf_fr, hN]; exact h
    have q0 := rectV_hi c a d 0 (by omega)
    have q1 := rectV_hi c a d 1 (by omega)
    have hl1 : (rectLo c a d).length = d := by simp [rectLo]
    have hl2 : (rectHi c a d).length = d := by simp [rectHi]
    have hw0 : IntKind.i64.wrap ((rectHi c a d).getD 0 default + 1) = (rectHi c a d).getD 0 default + 1 := i64_in _ (by omega)
    have hp : a + 6 * (d : Int) + 1 + 1 = a + 6 * d + 2 := by omega
    have t0 : Int.toNat 0 = 0 := rfl
    have t1 : Int.toNat 1 = 1 := rfl
    repeat' (first
      | exact True.intro
      | refine ev_seq ?_
      | ((first | refine endG_ret [(2, some 2101264), (3, some 3149840)] hE rfl ?_ | refine vgd_go ?_ | refine ev_region hE hM (hS (by decide +kernel)) ?_ | refine ev_if ?_ | refine end_ret hE rfl rfl ?_ | refine end_norm hE rfl rfl ?_ | refine endG_ret [] hE rfl ?_ | refine endG_norm [] hE rfl ?_ | refine vcallG_at (args := [.ptr 1 0, iT d]) 1 [] rfl hP (s_l1RectR c _ d hc (by omega) (by omega) (by omega) hd) ?_ | refine vcallG_at (args := [.ptr 1 0, iT 14]) 1 [] rfl hP (s_l1Next c _ 14 hc (by omega) (by omega) (by omega) (by omega)) ?_ | refine vcallG_at (args := [.ptr 1 0, .ref 16448]) 1 [16448] rfl hP (s_l1Pick c (a + 6 * d + 1) [(rectHi c a d).getD 0 default + 1, -1001, 1001] hc (by omega) (by omega) (by simp) (by simp)) ?_ | refine vcall_A ?_); simp (maxSteps := 2000000) only [go_sem, hP, ↓reduceIte, Nat.reduceAdd, Nat.reduceMul, Nat.reduceEqDiff, Nat.reduceSub, Nat.reduceLeDiff, reduceCtorEq, hp, List.length_map, List.length_set, hl1, hl2, hw0, t0, t1, Int.reduceBEq, hv])
      | refine ev_skip ?_ | refine ev_block ?_ | refine ev_blk ?_ | refine ev_ret ?_ | refine ev_exit ?_ | refine evx_code_ret ?_ | refine evx_blk_ret ?_ | refine evx_lp_ret ?_
      | refine evx_code_exit ?_ | refine evx_lp_exit ?_ | refine evx_blk_hit ?_ | refine evx_blk_pass (by decide) ?_
      | refine And.intro ?_ ?_ | intro _ | decide +kernel | omega)
    all_goals first
      | (exfalso; omega)
      | rfl
      | omega
      | (simp [List.map_set, List.map_drop, Es.strip_map]; done)
      | (simp [Es.strip_map]; exact ⟨fun _ _ => rfl, rfl⟩)
      | (rw [← strip_eI, List.map_set]; rfl)
      | (rw [List.take_of_length_le (by simp [hl2]), List.map_drop])
      | (rename_i h; exact h.symm)
      | trace_state
  exact satG_data (fz := [(2, .fro 1 (((rectLo c a d).set 0 (pk c (a + 6 * d + 1) [(rectHi c a d).getD 0 default + 1, -1001, 1001])).map eI)), (3, .fro 1 ((rectHi c a d).map eI))]) (fun κ h => by simp only [lk] at h; split at h <;> simp_all) trivial rfl h
theorem s_l1Bent1 (c : List Int) (a : Int) (d : Nat) (hc : codeOk c) (h0 : 0 ≤ a) (h1 : a ≤ 1073000000 - 100000) (hd0 : 2 ≤ d) (hd : d ≤ 100) (hv : nx c (a + 6 * d) 14 = 1) : SatG Try.prog 150 false [.ptr 1 0, iT d] [(1, bSrc c a)] (.agg [.c (sI (bentV c a d).low), .c (sI (bentV c a d).high)]) [(1, bSrc c (bentA c a d))] := by
  have ev : bentV c a d = ⟨rectLo c a d, (rectHi c a d).drop 1⟩ := by unfold bentV; simp [hv, rectV]
  have ea : bentA c a d = a + 6 * d + 1 := by unfold bentA; simp [hv]
  rw [ev, ea]
  have h : SatG Try.prog 150 false [.ptr 1 0, iT d] [(1, bSrc c a)] (.agg [.ref 2, .c (sI ((rectHi c a d).drop 1))]) ((1, bSrc c (a + 6 * d + 1)) :: [(2, .fro 1 ((rectLo c a d).map eI))]) := by
    refine satG_walk (fn := Try.f150) rfl rfl rfl (Nat.le_of_ble_eq_true rfl) (by simp) fun fr hP hN hdp hb1 hb2 => ?_
    have hE : (envOf fr Try.prog).Ok := envOf_ok hP
    have hM := follows_of hP
    have hS : ∀ {draw ops}, statB Try.f150.ntmps draw ops = true → statB (envOf fr Try.prog).fr.N draw ops = true := fun h => by rw [envOf_fr, hN]; exact h
    have q0 := rectV_hi c a d 0 (by omega)
    have q1 := rectV_hi c a d 1 (by omega)
    have hl1 : (rectLo c a d).length = d := by simp [rectLo]
    have hl2 : (rectHi c a d).length = d := by simp [rectHi]
    have hw0 : IntKind.i64.wrap ((rectHi c a d).getD 0 default + 1) = (rectHi c a d).getD 0 default + 1 := i64_in _ (by omega)
    have hp : a + 6 * (d : Int) + 1 + 1 = a + 6 * d + 2 := by omega
    have t0 : Int.toNat 0 = 0 := rfl
    have t1 : Int.toNat 1 = 1 := rfl
    repeat' (first
      | exact True.intro
      | refine ev_seq ?_
      | ((first | refine endG_ret [(2, some 2101264)] hE rfl ?_ | refine vgd_go ?_ | refine ev_region hE hM (hS (by decide +kernel)) ?_ | refine ev_if ?_ | refine end_ret hE rfl rfl ?_ | refine end_norm hE rfl rfl ?_ | refine endG_ret [] hE rfl ?_ | refine endG_norm [] hE rfl ?_ | refine vcallG_at (args := [.ptr 1 0, iT d]) 1 [] rfl hP (s_l1RectR c _ d hc (by omega) (by omega) (by omega) hd) ?_ | refine vcallG_at (args := [.ptr 1 0, iT 14]) 1 [] rfl hP (s_l1Next c _ 14 hc (by omega) (by omega) (by omega) (by omega)) ?_ | refine vcall_A ?_); simp (maxSteps := 2000000) only [go_sem, hP, ↓reduceIte, Nat.reduceAdd, Nat.reduceMul, Nat.reduceEqDiff, Nat.reduceSub, Nat.reduceLeDiff, reduceCtorEq, hp, List.length_map, List.length_set, hl1, hl2, hw0, t0, t1, Int.reduceBEq, hv])
      | refine ev_skip ?_ | refine ev_block ?_ | refine ev_blk ?_ | refine ev_ret ?_ | refine ev_exit ?_ | refine evx_code_ret ?_ | refine evx_blk_ret ?_ | refine evx_lp_ret ?_
      | refine evx_code_exit ?_ | refine evx_lp_exit ?_ | refine evx_blk_hit ?_ | refine evx_blk_pass (by decide) ?_
      | refine And.intro ?_ ?_ | intro _ | decide +kernel | omega)
    all_goals first
      | (exfalso; omega)
      | rfl
      | omega
      | (simp [List.map_set, List.map_drop, Es.strip_map]; done)
      | (simp [Es.strip_map]; exact ⟨fun _ _ => rfl, rfl⟩)
      | (rw [← strip_eI, List.map_set]; rfl)
      | (rw [List.take_of_length_le (by simp [hl2]), List.map_drop])
      | (rename_i h; exact h.symm)
      | trace_state
  exact satG_data (fz := [(2, .fro 1 ((rectLo c a d).map eI))]) (fun κ h => by simp only [lk] at h; split at h <;> simp_all) trivial rfl h
theorem s_l1Bent2 (c : List Int) (a : Int) (d : Nat) (hc : codeOk c) (h0 : 0 ≤ a) (h1 : a ≤ 1073000000 - 100000) (hd0 : 2 ≤ d) (hd : d ≤ 100) (hv : nx c (a + 6 * d) 14 = 2) : SatG Try.prog 150 false [.ptr 1 0, iT d] [(1, bSrc c a)] (.agg [.c (sI (bentV c a d).low), .c (sI (bentV c a d).high)]) [(1, bSrc c (bentA c a d))] := by
  have ev : bentV c a d = ⟨rectLo c a d ++ [0], rectHi c a d⟩ := by unfold bentV; simp [hv, rectV]
  have ea : bentA c a d = a + 6 * d + 1 := by unfold bentA; simp [hv]
  rw [ev, ea]
  have h : SatG Try.prog 150 false [.ptr 1 0, iT d] [(1, bSrc c a)] (.agg [.ref 2, .ref 3]) ((1, bSrc c (a + 6 * d + 1)) :: [(2, .fro 1 ((rectLo c a d ++ [0]).map eI)), (3, .fro 1 ((rectHi c a d).map eI))]) := by
    refine satG_walk (fn := Try.f150) rfl rfl rfl (Nat.le_of_ble_eq_true rfl) (by simp) fun fr hP hN hdp hb1 hb2 => ?_
    have hE : (envOf fr Try.prog).Ok := envOf_ok hP
    have hM := follows_of hP
    have hS : ∀ {draw ops}, statB Try.f150.ntmps draw ops = true → statB (envOf fr Try.prog).fr.N draw ops = true := fun h => by rw [envOf_fr, hN]; exact h
    have q0 := rectV_hi c a d 0 (by omega)
    have q1 := rectV_hi c a d 1 (by omega)
    have hl1 : (rectLo c a d).length = d := by simp [rectLo]
    have hl2 : (rectHi c a d).length = d := by simp [rectHi]
    have hw0 : IntKind.i64.wrap ((rectHi c a d).getD 0 default + 1) = (rectHi c a d).getD 0 default + 1 := i64_in _ (by omega)
    have hp : a + 6 * (d : Int) + 1 + 1 = a + 6 * d + 2 := by omega
    have t0 : Int.toNat 0 = 0 := rfl
    have t1 : Int.toNat 1 = 1 := rfl
    repeat' (first
      | exact True.intro
      | refine ev_seq ?_
      | ((first | refine endG_ret [(2, some 32792), (3, some 3149840)] hE rfl ?_ | refine vgd_go ?_ | refine ev_region hE hM (hS (by decide +kernel)) ?_ | refine ev_if ?_ | refine end_ret hE rfl rfl ?_ | refine end_norm hE rfl rfl ?_ | refine endG_ret [] hE rfl ?_ | refine endG_norm [] hE rfl ?_ | refine vcallG_at (args := [.ptr 1 0, iT d]) 1 [] rfl hP (s_l1RectR c _ d hc (by omega) (by omega) (by omega) hd) ?_ | refine vcallG_at (args := [.ptr 1 0, iT 14]) 1 [] rfl hP (s_l1Next c _ 14 hc (by omega) (by omega) (by omega) (by omega)) ?_ | refine vcall_A ?_); simp (maxSteps := 2000000) only [go_sem, hP, ↓reduceIte, Nat.reduceAdd, Nat.reduceMul, Nat.reduceEqDiff, Nat.reduceSub, Nat.reduceLeDiff, reduceCtorEq, hp, List.length_map, List.length_set, hl1, hl2, hw0, t0, t1, Int.reduceBEq, hv])
      | refine ev_skip ?_ | refine ev_block ?_ | refine ev_blk ?_ | refine ev_ret ?_ | refine ev_exit ?_ | refine evx_code_ret ?_ | refine evx_blk_ret ?_ | refine evx_lp_ret ?_
      | refine evx_code_exit ?_ | refine evx_lp_exit ?_ | refine evx_blk_hit ?_ | refine evx_blk_pass (by decide) ?_
      | refine And.intro ?_ ?_ | intro _ | decide +kernel | omega)
    all_goals first
      | (exfalso; omega)
      | rfl
      | omega
      | (simp [List.map_set, List.map_drop, Es.strip_map]; done)
      | (simp [Es.strip_map]; exact ⟨fun _ _ => rfl, rfl⟩)
      | (rw [← strip_eI, List.map_set]; rfl)
      | (rw [List.take_of_length_le (by simp [hl2]), List.map_drop])
      | (rename_i h; exact h.symm)
      | trace_state
  exact satG_data (fz := [(2, .fro 1 ((rectLo c a d ++ [0]).map eI)), (3, .fro 1 ((rectHi c a d).map eI))]) (fun κ h => by simp only [lk] at h; split at h <;> simp_all) trivial rfl h
theorem s_l1Bent3 (c : List Int) (a : Int) (d : Nat) (hc : codeOk c) (h0 : 0 ≤ a) (h1 : a ≤ 1073000000 - 100000) (hd0 : 2 ≤ d) (hd : d ≤ 100) (hv : nx c (a + 6 * d) 14 = 3) : SatG Try.prog 150 false [.ptr 1 0, iT d] [(1, bSrc c a)] (.agg [.c (sI (bentV c a d).low), .c (sI (bentV c a d).high)]) [(1, bSrc c (bentA c a d))] := by
  have ev : bentV c a d = ⟨rectLo c a d, (rectHi c a d).set 1 (pk c (a + 6 * d + 1) [1000, 1001, -1000])⟩ := by unfold bentV; simp [hv, rectV]
  have ea : bentA c a d = a + 6 * d + 2 := by unfold bentA; simp [hv]
  rw [ev, ea]
  have h : SatG Try.prog 150 false [.ptr 1 0, iT d] [(1, bSrc c a)] (.agg [.ref 2, .ref 3]) ((1, bSrc c (a + 6 * d + 2)) :: [(2, .fro 1 ((rectLo c a d).map eI)), (3, .fro 1 (((rectHi c a d).set 1 (pk c (a + 6 * d + 1) [1000, 1001, -1000])).map eI))]) := by
    refine satG_walk (fn := Try.f150) rfl rfl rfl (Nat.le_of_ble_eq_true rfl) (by simp) fun fr hP hN hdp hb1 hb2 => ?_
    have hE : (envOf fr Try.prog).Ok := envOf_ok hP
    have hM := follows_of hP
    have hS : ∀ {draw ops}, statB Try.f150.ntmps draw ops = true → statB (envOf fr Try.prog).fr.N draw ops = true := fun h => by rw [envOf_fr, hN]; exact h
    have q0 := rectV_hi c a d 0 (by omega)
    have q1 := rectV_hi c a d 1 (by omega)
    have hl1 : (rectLo c a d).length = d := by simp [rectLo]
    have hl2 : (rectHi c a d).length = d := by simp [rectHi]
    have hw0 : IntKind.i64.wrap ((rectHi c a d).getD 0 default + 1) = (rectHi c a d).getD 0 default + 1 := i64_in _ (by omega)
    have hp : a + 6 * (d : Int) + 1 + 1 = a + 6 * d + 2 := by omega
    have t0 : Int.toNat 0 = 0 := rfl
    have t1 : Int.toNat 1 = 1 := rfl
    repeat' (first
      | exact True.intro
      | refine ev_seq ?_
      | ((first | refine endG_ret [(2, some 2101264), (3, some 3149840)] hE rfl ?_ | refine vgd_go ?_ | refine ev_region hE hM (hS (by decide +kernel)) ?_ | refine ev_if ?_ | refine end_ret hE rfl rfl ?_ | refine end_norm hE rfl rfl ?_ | refine endG_ret [] hE rfl ?_ | refine endG_norm [] hE rfl ?_ | refine vcallG_at (args := [.ptr 1 0, iT d]) 1 [] rfl hP (s_l1RectR c _ d hc (by omega) (by omega) (by omega) hd) ?_ | refine vcallG_at (args := [.ptr 1 0, iT 14]) 1 [] rfl hP (s_l1Next c _ 14 hc (by omega) (by omega) (by omega) (by omega)) ?_ | refine vcallG_at (args := [.ptr 1 0, .ref 40984]) 1 [40984] rfl hP (s_l1Pick c (a + 6 * d + 1) [1000, 1001, -1000] hc (by omega) (by omega) (by simp) (by simp)) ?_ | refine vcall_A ?_); simp (maxSteps := 2000000) only [go_sem, hP, ↓reduceIte, Nat.reduceAdd, Nat.reduceMul, Nat.reduceEqDiff, Nat.reduceSub, Nat.reduceLeDiff, reduceCtorEq, hp, List.length_map, List.length_set, hl1, hl2, hw0, t0, t1, Int.reduceBEq, hv])
      | refine ev_skip ?_ | refine ev_block ?_ | refine ev_blk ?_ | refine ev_ret ?_ | refine ev_exit ?_ | refine evx_code_ret ?_ | refine evx_blk_ret ?_ | refine evx_lp_ret ?_
      | refine evx_code_exit ?_ | refine evx_lp_exit ?_ | refine evx_blk_hit ?_ | refine evx_blk_pass (by decide) ?_
      | refine And.intro ?_ ?_ | intro _ | decide +kernel | omega)
    all_goals first
      | (exfalso; omega)
      | rfl
      | omega
      | (simp [List.map_set, List.map_drop, Es.strip_map]; done)
      | (simp [Es.strip_map]; exact ⟨fun _ _ => rfl, rfl⟩)
      | (rw [← strip_eI, List.map_set]; rfl)
      | (rw [List.take_of_length_le (by simp [hl2]), List.map_drop])
      | (rename_i h; exact h.symm)
      | trace_state
  exact satG_data (fz := [(2, .fro 1 ((rectLo c a d).map eI)), (3, .fro 1 (((rectHi c a d).set 1 (pk c (a + 6 * d + 1) [1000, 1001, -1000])).map eI))]) (fun κ h => by simp only [lk] at h; split at h <;> simp_all) trivial rfl h
end Go.Proofs.Ytmpndkhnajogkaa.W
