/- Contracts of functions that FnExactAddPair reaches: what each returns; it writes to nothing of old. No condition but those that each theorem states. -/
import Derived.Test.YtcephdpooijciaaPb
open Go Go.Vm Go.Proofs Go.IntWalk Go.RowKit
set_option maxRecDepth 100000
set_option maxHeartbeats 4000000
set_option linter.unusedSimpArgs false
set_option linter.unusedVariables false
set_option linter.unusedSectionVars false
namespace Go.Proofs.Ytcephdpooijciaa.W
attribute [local irreducible] kJ ev evx vops vstep vgo vgd vget vcall vcallFn vcallA vcallB vts vres vcond vbin
theorem s_InsertPair (xs : List Pair) (p : Pair) (i : Nat) (hi : i ≤ xs.length) (hb : xs.length ≤ 1048576) : SatG Try.prog 172 false [.ref 1, iT i, .ref 2] [gPs 1 xs, gPs 2 [p]] (.ref 3) [(1, .dead), (2, .dead), gPs 3 (xs.take i ++ [p] ++ xs.drop i)] := by
  have h := satG_insert (P := Try.prog) (f := 172) (ty := 94) (sz := 3) (es := xs.map oP) (e := oP p) (i := i) ⟨_, rfl, rfl, rfl⟩ (by simpa using hi) (by rw [List.length_map]; exact k_insertPair _ _ hi hb)
  have e : (xs.take i ++ [p] ++ xs.drop i).map oP = (xs.map oP).take i ++ [oP p] ++ (xs.map oP).drop i := by simp [List.map_take, List.map_drop]
  show SatG _ _ _ _ _ _ [(1, .dead), (2, .dead), (3, .arr true _ 3 ((xs.take i ++ [p] ++ xs.drop i).map oP))]
  rw [e]; exact h
theorem s_added1 (q p : Pair) : Sat Try.prog 171 [aP q, .pv (eP p)] true (rB (decide (p.id < q.id))) := by
  refine sat_walk (fn := Try.f171) rfl rfl rfl (Nat.le_of_ble_eq_true rfl) fun fr hP hN hbnd => ?_
  have hE : (envOf fr Try.prog).Ok := envOf_ok hP
  have hM := follows_of hP
  have hS : ∀ {draw ops}, statB Try.f171.ntmps draw ops = true → statB (envOf fr Try.prog).fr.N draw ops = true := fun h => by rw [envOf_fr, hN]; exact h
  repeat' (first
    | exact True.intro
    | refine ev_seq ?_
    | ((first | refine vgd_go ?_ | refine ev_region hE hM (hS (by decide +kernel)) ?_ | refine ev_if ?_ | refine end_ret hE rfl rfl ?_ | refine end_norm hE rfl rfl ?_ | refine endG_ret [] hE rfl ?_ | refine endG_norm [] hE rfl ?_ | refine vcall_A ?_); simp (maxSteps := 2000000) only [go_sem, hP, ↓reduceIte, Nat.reduceAdd, Nat.reduceMul, Nat.reduceEqDiff, Nat.reduceSub, Nat.reduceLeDiff, reduceCtorEq])
    | refine ev_skip ?_ | refine ev_block ?_ | refine ev_blk ?_ | refine ev_ret ?_ | refine ev_exit ?_ | refine evx_code_ret ?_ | refine evx_blk_ret ?_ | refine evx_lp_ret ?_
    | refine evx_code_exit ?_ | refine evx_lp_exit ?_ | refine evx_blk_hit ?_ | refine evx_blk_pass (by decide) ?_
    | refine And.intro ?_ ?_ | intro _ | decide +kernel | omega)
theorem s_added (xs : List Pair) (p : Pair) (hw : wPs xs ≤ 1048576) (h1 : p.rect.low.length ≤ 1048576) (h2 : p.rect.high.length ≤ 1048576) : Sat Try.prog 117 [aPs xs, aP p] true (rPs (addV xs p)) := by
  refine sat_walk (fn := Try.f117) rfl rfl rfl (Nat.le_of_ble_eq_true rfl) fun fr hP hN hbnd => ?_
  have hE : (envOf fr Try.prog).Ok := envOf_ok hP
  have hM := follows_of hP
  have hS : ∀ {draw ops}, statB Try.f117.ntmps draw ops = true → statB (envOf fr Try.prog).fr.N draw ops = true := fun h => by rw [envOf_fr, hN]; exact h
  have hlen : xs.length ≤ 1048576 := by unfold wPs at hw; omega
  have hl := addAt_le xs p
  have c1 := s_IndexFuncPair xs (fun ds rs => Sat Try.prog 171 (ds.map .d ++ [.pv (eP p)]) true rs) (fun e => decide (p.id < e.id)) (fun x _ => s_added1 x p)
  have c2 := s_InsertPair xs p (addAt xs p) hl hlen
  by_cases ha : xs.any (fun q => decide (p.id < q.id)) = true
  · have e1 : addAt xs p = xs.findIdx (fun q => decide (p.id < q.id)) := if_pos ha
    rw [e1] at c2
    repeat' (first
      | exact True.intro
      | refine ev_seq ?_
      | ((first | refine vgd_go ?_ | refine ev_region hE hM (hS (by decide +kernel)) ?_ | refine ev_if ?_ | refine end_ret hE rfl rfl ?_ | refine end_norm hE rfl rfl ?_ | refine endG_ret [] hE rfl ?_ | refine endG_norm [] hE rfl ?_ | refine vcallB_of hP (s_IndexFuncPair xs _ (fun e => decide (p.id < e.id)) (fun x _ => s_added1 x p)) ?_ | refine vcallB_of hP (s_clonedPairs xs hw) ?_ | refine vcallB_of hP (s_cloned p.rect h1 h2) ?_ | refine vcallG_of (args := [_, _, _]) [(1, 16392), (2, 16456)] [] hP c2 ?_ | refine vcall_A ?_); simp (maxSteps := 2000000) only [go_sem, hP, ↓reduceIte, Nat.reduceAdd, Nat.reduceMul, Nat.reduceEqDiff, Nat.reduceSub, Nat.reduceLeDiff, reduceCtorEq, ha])
      | refine ev_skip ?_ | refine ev_block ?_ | refine ev_blk ?_ | refine ev_ret ?_ | refine ev_exit ?_ | refine evx_code_ret ?_ | refine evx_blk_ret ?_ | refine evx_lp_ret ?_
      | refine evx_code_exit ?_ | refine evx_lp_exit ?_ | refine evx_blk_hit ?_ | refine evx_blk_pass (by decide) ?_
      | refine And.intro ?_ ?_ | intro _ | decide +kernel | omega)
    all_goals first
      | (exfalso; omega)
      | (simp_all [addV]; done)
  · have e1 : addAt xs p = xs.length := if_neg ha
    have ha : xs.any (fun q => decide (p.id < q.id)) = false := by simpa using ha
    rw [e1] at c2
    repeat' (first
      | exact True.intro
      | refine ev_seq ?_
      | ((first | refine vgd_go ?_ | refine ev_region hE hM (hS (by decide +kernel)) ?_ | refine ev_if ?_ | refine end_ret hE rfl rfl ?_ | refine end_norm hE rfl rfl ?_ | refine endG_ret [] hE rfl ?_ | refine endG_norm [] hE rfl ?_ | refine vcallB_of hP (s_IndexFuncPair xs _ (fun e => decide (p.id < e.id)) (fun x _ => s_added1 x p)) ?_ | refine vcallB_of hP (s_clonedPairs xs hw) ?_ | refine vcallB_of hP (s_cloned p.rect h1 h2) ?_ | refine vcallG_of (args := [_, _, _]) [(1, 16392), (2, 16456)] [] hP c2 ?_ | refine vcall_A ?_); simp (maxSteps := 2000000) only [go_sem, hP, ↓reduceIte, Nat.reduceAdd, Nat.reduceMul, Nat.reduceEqDiff, Nat.reduceSub, Nat.reduceLeDiff, reduceCtorEq, ha])
      | refine ev_skip ?_ | refine ev_block ?_ | refine ev_blk ?_ | refine ev_ret ?_ | refine ev_exit ?_ | refine evx_code_ret ?_ | refine evx_blk_ret ?_ | refine evx_lp_ret ?_
      | refine evx_code_exit ?_ | refine evx_lp_exit ?_ | refine evx_blk_hit ?_ | refine evx_blk_pass (by decide) ?_
      | refine And.intro ?_ ?_ | intro _ | decide +kernel | omega)
    all_goals first
      | (exfalso; omega)
      | (simp_all [addV]; done)
theorem s_implAddPair (xs : List Pair) (d : Int) (p : Pair) (hw : wPs xs ≤ 1048576) : Sat Try.prog 55 [aPs xs, aI d, aP p] true (rPsR (apC xs d p) (apV xs d p)) := by
  refine sat_walk (fn := Try.f55) rfl rfl rfl (Nat.le_of_ble_eq_true rfl) fun fr hP hN hbnd => ?_
  have hE : (envOf fr Try.prog).Ok := envOf_ok hP
  have hM := follows_of hP
  have hS : ∀ {draw ops}, statB Try.f55.ntmps draw ops = true → statB (envOf fr Try.prog).fr.N draw ops = true := fun h => by rw [envOf_fr, hN]; exact h
  by_cases hc : chC xs d p = 0
  · have h1 : mf xs d = 0 := by unfold chC at hc; split at hc <;> simp_all
    have h2 : pairF d p = 0 := by unfold chC at hc; split at hc <;> simp_all
    have h3 := mf_len h1
    have h4 := pairF_rf h2
    have h5 := rf_len h4
    have h6 := rf_two h4
    have c := s_added xs p hw (by omega) (by omega)
    rcases Int.lt_or_le (findId xs p.id) 0 with h7 | h7
    · have h8 : ¬ 0 ≤ findId xs p.id := by omega
      by_cases h9 : xs.length = 60
      · have e1 : apC xs d p = 7 := by unfold apC; rw [if_neg (by simpa using h1), if_neg (by simpa using h2), if_neg h8, if_pos (by omega)]
        have e2 : apV xs d p = [] := by unfold apV; rw [e1]; rfl
        rw [e1, e2]
        repeat' (first
          | exact True.intro
          | refine ev_seq ?_
          | ((first | refine vgd_go ?_ | refine ev_region hE hM (hS (by decide +kernel)) ?_ | refine ev_if ?_ | refine end_ret hE rfl rfl ?_ | refine end_norm hE rfl rfl ?_ | refine endG_ret [] hE rfl ?_ | refine endG_norm [] hE rfl ?_ | refine vcallB_of hP (s_changeFault xs d p) ?_ | refine vcallB_of hP (s_indexOf xs p.id) ?_ | refine vcallB_of hP c ?_ | refine vcall_A ?_); simp (maxSteps := 2000000) only [go_sem, hP, ↓reduceIte, Nat.reduceAdd, Nat.reduceMul, Nat.reduceEqDiff, Nat.reduceSub, Nat.reduceLeDiff, reduceCtorEq, hc])
          | refine ev_skip ?_ | refine ev_block ?_ | refine ev_blk ?_ | refine ev_ret ?_ | refine ev_exit ?_ | refine evx_code_ret ?_ | refine evx_blk_ret ?_ | refine evx_lp_ret ?_
          | refine evx_code_exit ?_ | refine evx_lp_exit ?_ | refine evx_blk_hit ?_ | refine evx_blk_pass (by decide) ?_
          | refine And.intro ?_ ?_ | intro _ | decide +kernel | omega)
        all_goals first | (exfalso; omega) | (simp_all; done)
      · have e1 : apC xs d p = 0 := by unfold apC; rw [if_neg (by simpa using h1), if_neg (by simpa using h2), if_neg h8, if_neg (by omega)]
        have e2 : apV xs d p = addV xs p := by unfold apV; rw [e1]; rfl
        rw [e1, e2]
        have h10 : ((xs.length : Int) == 60) = false := by simp; omega
        repeat' (first
          | exact True.intro
          | refine ev_seq ?_
          | ((first | refine vgd_go ?_ | refine ev_region hE hM (hS (by decide +kernel)) ?_ | refine ev_if ?_ | refine end_ret hE rfl rfl ?_ | refine end_norm hE rfl rfl ?_ | refine endG_ret [] hE rfl ?_ | refine endG_norm [] hE rfl ?_ | refine vcallB_of hP (s_changeFault xs d p) ?_ | refine vcallB_of hP (s_indexOf xs p.id) ?_ | refine vcallB_of hP c ?_ | refine vcall_A ?_); simp (maxSteps := 2000000) only [go_sem, hP, ↓reduceIte, Nat.reduceAdd, Nat.reduceMul, Nat.reduceEqDiff, Nat.reduceSub, Nat.reduceLeDiff, reduceCtorEq, hc, h10])
          | refine ev_skip ?_ | refine ev_block ?_ | refine ev_blk ?_ | refine ev_ret ?_ | refine ev_exit ?_ | refine evx_code_ret ?_ | refine evx_blk_ret ?_ | refine evx_lp_ret ?_
          | refine evx_code_exit ?_ | refine evx_lp_exit ?_ | refine evx_blk_hit ?_ | refine evx_blk_pass (by decide) ?_
          | refine And.intro ?_ ?_ | intro _ | decide +kernel | omega)
        all_goals first | (exfalso; omega) | (simp_all; done)
    · have e1 : apC xs d p = 6 := by unfold apC; rw [if_neg (by simpa using h1), if_neg (by simpa using h2), if_pos h7]
      have e2 : apV xs d p = [] := by unfold apV; rw [e1]; rfl
      rw [e1, e2]
      repeat' (first
        | exact True.intro
        | refine ev_seq ?_
        | ((first | refine vgd_go ?_ | refine ev_region hE hM (hS (by decide +kernel)) ?_ | refine ev_if ?_ | refine end_ret hE rfl rfl ?_ | refine end_norm hE rfl rfl ?_ | refine endG_ret [] hE rfl ?_ | refine endG_norm [] hE rfl ?_ | refine vcallB_of hP (s_changeFault xs d p) ?_ | refine vcallB_of hP (s_indexOf xs p.id) ?_ | refine vcall_A ?_); simp (maxSteps := 2000000) only [go_sem, hP, ↓reduceIte, Nat.reduceAdd, Nat.reduceMul, Nat.reduceEqDiff, Nat.reduceSub, Nat.reduceLeDiff, reduceCtorEq, hc])
        | refine ev_skip ?_ | refine ev_block ?_ | refine ev_blk ?_ | refine ev_ret ?_ | refine ev_exit ?_ | refine evx_code_ret ?_ | refine evx_blk_ret ?_ | refine evx_lp_ret ?_
        | refine evx_code_exit ?_ | refine evx_lp_exit ?_ | refine evx_blk_hit ?_ | refine evx_blk_pass (by decide) ?_
        | refine And.intro ?_ ?_ | intro _ | decide +kernel | omega)
      all_goals first | (exfalso; omega) | (simp_all; done)
  · have e1 : apC xs d p = chC xs d p := by unfold apC chC at *; split <;> simp_all
    have e2 : apV xs d p = [] := by unfold apV; rw [if_neg (by rw [e1]; exact hc)]
    rw [e1, e2]
    repeat' (first
      | exact True.intro
      | refine ev_seq ?_
      | ((first | refine vgd_go ?_ | refine ev_region hE hM (hS (by decide +kernel)) ?_ | refine ev_if ?_ | refine end_ret hE rfl rfl ?_ | refine end_norm hE rfl rfl ?_ | refine endG_ret [] hE rfl ?_ | refine endG_norm [] hE rfl ?_ | refine vcallB_of hP (s_changeFault xs d p) ?_ | refine vcall_A ?_); simp (maxSteps := 2000000) only [go_sem, hP, ↓reduceIte, Nat.reduceAdd, Nat.reduceMul, Nat.reduceEqDiff, Nat.reduceSub, Nat.reduceLeDiff, reduceCtorEq])
      | refine ev_skip ?_ | refine ev_block ?_ | refine ev_blk ?_ | refine ev_ret ?_ | refine ev_exit ?_ | refine evx_code_ret ?_ | refine evx_blk_ret ?_ | refine evx_lp_ret ?_
      | refine evx_code_exit ?_ | refine evx_lp_exit ?_ | refine evx_blk_hit ?_ | refine evx_blk_pass (by decide) ?_
      | refine And.intro ?_ ?_ | intro _ | decide +kernel | omega)
    all_goals first | (exfalso; omega) | (simp_all; done)
theorem s_l2Add (xs : List Pair) (p : Pair) (hl : xs.length ≤ 1048576) : Sat Try.prog 115 [aPs xs, aP p] false [(false, [sP (addV xs p)])] := by
  refine sat_walk (fn := Try.f115) rfl rfl rfl (Nat.le_of_ble_eq_true rfl) fun fr hP hN hbnd => ?_
  have hE : (envOf fr Try.prog).Ok := envOf_ok hP
  have hM := follows_of hP
  have hS : ∀ {draw ops}, statB Try.f115.ntmps draw ops = true → statB (envOf fr Try.prog).fr.N draw ops = true := fun h => by rw [envOf_fr, hN]; exact h
  have ha := addAt_le xs p
  repeat' (first
    | exact True.intro
    | refine ev_seq ?_
    | ((first | refine vgd_go ?_ | refine ev_region hE hM (hS (by decide +kernel)) ?_ | refine ev_if ?_ | refine end_ret hE rfl rfl ?_ | refine end_norm hE rfl rfl ?_ | refine endG_ret [] hE rfl ?_ | refine endG_norm [] hE rfl ?_ | refine vcall_A ?_); simp (maxSteps := 2000000) only [go_sem, hP, ↓reduceIte, Nat.reduceAdd, Nat.reduceMul, Nat.reduceEqDiff, Nat.reduceSub, Nat.reduceLeDiff, reduceCtorEq])
    | refine ev_skip ?_ | refine ev_block ?_ | refine ev_blk ?_ | refine ev_ret ?_ | refine ev_exit ?_ | refine evx_code_ret ?_ | refine evx_blk_ret ?_ | refine evx_lp_ret ?_
    | refine evx_code_exit ?_ | refine evx_lp_exit ?_ | refine evx_blk_hit ?_ | refine evx_blk_pass (by decide) ?_
    | refine And.intro ?_ ?_ | intro _ | decide +kernel | omega)
  refine ev_loop (ι := Nat) (fun k => [(0, .c (sP xs)), (3, .ptr 0 0), (5, .ref 100000), (6, .c (.bool (decide (addAt xs p < k)))), (7, iT k)]) (fun k => [(0, .box [iT p.id, .c (sI p.rect.low), .c (sI p.rect.high)]), (100000, .arr (decide (k = 0)) 94 3 ((addK xs p k).map eP))]) (fun _ => []) (fun k => k ≤ xs.length) (fun k => xs.length - k) 0 [(100000, some 4096)] (by omega) (by simp only [go_sem, hP, ↓reduceIte, Nat.reduceAdd, Nat.reduceMul, Nat.reduceEqDiff, Nat.reduceSub, Nat.reduceLeDiff, reduceCtorEq]; simp [addK_zero]) ?_
  intro k hk
  have hw1 : k < xs.length → IntKind.i64.wrap ((k : Int) + 1) = k + 1 := fun h => i64_in _ (by omega)
  have hal := addK_len (xs := xs) (p := p) k
  by_cases hlt : k < xs.length
  · rcases Nat.lt_trichotomy k (addAt xs p) with h1 | h1 | h1
    · have h2 := addAt_lt h1
      have h3 : decide (addAt xs p < k) = false := by simp; omega
      have h4 : decide (addAt xs p < k + 1) = false := by simp; omega
      by_cases h0 : k = 0
      · subst h0
        repeat' (first
          | exact True.intro
          | refine ev_seq ?_
          | ((first | refine vgd_go ?_ | refine ev_region hE hM (hS (by decide +kernel)) ?_ | refine ev_if ?_ | refine end_ret hE rfl rfl ?_ | refine end_norm hE rfl rfl ?_ | refine endG_ret [] hE rfl ?_ | refine endG_norm [] hE rfl ?_ | refine vcall_A ?_); simp (maxSteps := 2000000) only [go_sem, hP, ↓reduceIte, Nat.reduceAdd, Nat.reduceMul, Nat.reduceEqDiff, Nat.reduceSub, Nat.reduceLeDiff, reduceCtorEq, h3, addK_zero, Bool.and_self, List.length_map])
          | refine ev_skip ?_ | refine ev_block ?_ | refine ev_blk ?_ | refine ev_ret ?_ | refine ev_exit ?_ | refine evx_code_ret ?_ | refine evx_blk_ret ?_ | refine evx_lp_ret ?_
          | refine evx_code_exit ?_ | refine evx_lp_exit ?_ | refine evx_blk_hit ?_ | refine evx_blk_pass (by decide) ?_
          | refine And.intro ?_ ?_ | intro _ | decide +kernel | omega)
        all_goals first
          | exact ev_lp 1 [(100000, some 36912)] (by omega) (by omega) (by simp only [go_sem, hP, ↓reduceIte, Nat.reduceAdd, Nat.reduceMul, Nat.reduceEqDiff, Nat.reduceSub, Nat.reduceLeDiff, reduceCtorEq]; have := addK_lo h1; simp only [Nat.zero_add] at this h4; rw [this, h4]; simp [addK_zero, eP_eq, Es.strip, show IntKind.i64.wrap 1 = 1 from rfl])
          | (exfalso; omega)
          | (simp [Es.strip]; done)
          | (simp [Es.strip]; omega)
          | (simp_all; done)
      · have h5 : decide (k = 0) = false := by simpa using h0
        repeat' (first
          | exact True.intro
          | refine ev_seq ?_
          | ((first | refine vgd_go ?_ | refine ev_region hE hM (hS (by decide +kernel)) ?_ | refine ev_if ?_ | refine end_ret hE rfl rfl ?_ | refine end_norm hE rfl rfl ?_ | refine endG_ret [] hE rfl ?_ | refine endG_norm [] hE rfl ?_ | refine vcall_A ?_); simp (maxSteps := 2000000) only [go_sem, hP, ↓reduceIte, Nat.reduceAdd, Nat.reduceMul, Nat.reduceEqDiff, Nat.reduceSub, Nat.reduceLeDiff, reduceCtorEq, h3, h5, Bool.and_self, List.length_map])
          | refine ev_skip ?_ | refine ev_block ?_ | refine ev_blk ?_ | refine ev_ret ?_ | refine ev_exit ?_ | refine evx_code_ret ?_ | refine evx_blk_ret ?_ | refine evx_lp_ret ?_
          | refine evx_code_exit ?_ | refine evx_lp_exit ?_ | refine evx_blk_hit ?_ | refine evx_blk_pass (by decide) ?_
          | refine And.intro ?_ ?_ | intro _ | decide +kernel | omega)
        all_goals first
          | exact ev_lp (k + 1) [(100000, some 36912)] (by omega) (by omega) (by simp only [go_sem, hP, ↓reduceIte, Nat.reduceAdd, Nat.reduceMul, Nat.reduceEqDiff, Nat.reduceSub, Nat.reduceLeDiff, reduceCtorEq]; rw [addK_lo h1, h4]; simp [hw1 hlt, eP_eq])
          | (exfalso; omega)
          | (simp [Es.strip]; done)
          | (simp [Es.strip]; omega)
          | (simp_all; done)
    · have h2 := addAt_eq (xs := xs) (p := p) (by omega)
      have h3 : decide (addAt xs p < k) = false := by simp; omega
      have h4 : decide (addAt xs p < k + 1) = true := by simp; omega
      have h6 := addK_at (xs := xs) (p := p) (by omega)
      rw [← h1] at h2 h6
      by_cases h0 : k = 0
      · subst h0
        repeat' (first
          | exact True.intro
          | refine ev_seq ?_
          | ((first | refine vgd_go ?_ | refine ev_region hE hM (hS (by decide +kernel)) ?_ | refine ev_if ?_ | refine end_ret hE rfl rfl ?_ | refine end_norm hE rfl rfl ?_ | refine endG_ret [] hE rfl ?_ | refine endG_norm [] hE rfl ?_ | refine vcall_A ?_); simp (maxSteps := 2000000) only [go_sem, hP, ↓reduceIte, Nat.reduceAdd, Nat.reduceMul, Nat.reduceEqDiff, Nat.reduceSub, Nat.reduceLeDiff, reduceCtorEq, h3, addK_zero, Bool.and_self, List.length_map])
          | refine ev_skip ?_ | refine ev_block ?_ | refine ev_blk ?_ | refine ev_ret ?_ | refine ev_exit ?_ | refine evx_code_ret ?_ | refine evx_blk_ret ?_ | refine evx_lp_ret ?_
          | refine evx_code_exit ?_ | refine evx_lp_exit ?_ | refine evx_blk_hit ?_ | refine evx_blk_pass (by decide) ?_
          | refine And.intro ?_ ?_ | intro _ | decide +kernel | omega)
        all_goals first
          | exact ev_lp 1 [(100000, some 36912)] (by omega) (by omega) (by simp only [go_sem, hP, ↓reduceIte, Nat.reduceAdd, Nat.reduceMul, Nat.reduceEqDiff, Nat.reduceSub, Nat.reduceLeDiff, reduceCtorEq]; simp only [Nat.zero_add] at h6 h4; rw [h6, h4]; simp [addK_zero, eP_eq, Es.strip, show IntKind.i64.wrap 1 = 1 from rfl])
          | (exfalso; omega)
          | (simp [Es.strip]; done)
          | (simp [Es.strip]; omega)
          | (simp_all; done)
      · have h5 : decide (k = 0) = false := by simpa using h0
        repeat' (first
          | exact True.intro
          | refine ev_seq ?_
          | ((first | refine vgd_go ?_ | refine ev_region hE hM (hS (by decide +kernel)) ?_ | refine ev_if ?_ | refine end_ret hE rfl rfl ?_ | refine end_norm hE rfl rfl ?_ | refine endG_ret [] hE rfl ?_ | refine endG_norm [] hE rfl ?_ | refine vcall_A ?_); simp (maxSteps := 2000000) only [go_sem, hP, ↓reduceIte, Nat.reduceAdd, Nat.reduceMul, Nat.reduceEqDiff, Nat.reduceSub, Nat.reduceLeDiff, reduceCtorEq, h3, h5, Bool.and_self, List.length_map])
          | refine ev_skip ?_ | refine ev_block ?_ | refine ev_blk ?_ | refine ev_ret ?_ | refine ev_exit ?_ | refine evx_code_ret ?_ | refine evx_blk_ret ?_ | refine evx_lp_ret ?_
          | refine evx_code_exit ?_ | refine evx_lp_exit ?_ | refine evx_blk_hit ?_ | refine evx_blk_pass (by decide) ?_
          | refine And.intro ?_ ?_ | intro _ | decide +kernel | omega)
        all_goals first
          | exact ev_lp (k + 1) [(100000, some 36912)] (by omega) (by omega) (by simp only [go_sem, hP, ↓reduceIte, Nat.reduceAdd, Nat.reduceMul, Nat.reduceEqDiff, Nat.reduceSub, Nat.reduceLeDiff, reduceCtorEq]; rw [h6, h4]; simp [hw1 hlt, eP_eq])
          | (exfalso; omega)
          | (simp [Es.strip]; done)
          | (simp [Es.strip]; omega)
          | omega
          | (simp_all; done)
    · have h3 : decide (addAt xs p < k) = true := by simp; omega
      have h4 : decide (addAt xs p < k + 1) = true := by simp; omega
      have h5 : decide (k = 0) = false := by simp; omega
      repeat' (first
        | exact True.intro
        | refine ev_seq ?_
        | ((first | refine vgd_go ?_ | refine ev_region hE hM (hS (by decide +kernel)) ?_ | refine ev_if ?_ | refine end_ret hE rfl rfl ?_ | refine end_norm hE rfl rfl ?_ | refine endG_ret [] hE rfl ?_ | refine endG_norm [] hE rfl ?_ | refine vcall_A ?_); simp (maxSteps := 2000000) only [go_sem, hP, ↓reduceIte, Nat.reduceAdd, Nat.reduceMul, Nat.reduceEqDiff, Nat.reduceSub, Nat.reduceLeDiff, reduceCtorEq, h3, h5, Bool.and_self, List.length_map])
        | refine ev_skip ?_ | refine ev_block ?_ | refine ev_blk ?_ | refine ev_ret ?_ | refine ev_exit ?_ | refine evx_code_ret ?_ | refine evx_blk_ret ?_ | refine evx_lp_ret ?_
        | refine evx_code_exit ?_ | refine evx_lp_exit ?_ | refine evx_blk_hit ?_ | refine evx_blk_pass (by decide) ?_
        | refine And.intro ?_ ?_ | intro _ | decide +kernel | omega)
      all_goals first
        | exact ev_lp (k + 1) [(100000, some 36912)] (by omega) (by omega) (by simp only [go_sem, hP, ↓reduceIte, Nat.reduceAdd, Nat.reduceMul, Nat.reduceEqDiff, Nat.reduceSub, Nat.reduceLeDiff, reduceCtorEq]; rw [addK_hi h1 hlt, h4]; simp [hw1 hlt, eP_eq])
        | (exfalso; omega)
        | omega
        | (simp_all; done)
  · have hke : k = xs.length := by omega
    subst hke
    by_cases hd : addAt xs p < xs.length
    · have h3 : decide (addAt xs p < xs.length) = true := by simpa using hd
      have h5 : decide (xs.length = 0) = false := by simp; rintro rfl; simp at hd
      repeat' (first
        | exact True.intro
        | refine ev_seq ?_
        | ((first | refine vgd_go ?_ | refine ev_region hE hM (hS (by decide +kernel)) ?_ | refine ev_if ?_ | refine end_ret hE rfl rfl ?_ | refine end_norm hE rfl rfl ?_ | refine endG_ret [] hE rfl ?_ | refine endG_norm [] hE rfl ?_ | refine vcall_A ?_); simp (maxSteps := 2000000) only [go_sem, hP, ↓reduceIte, Nat.reduceAdd, Nat.reduceMul, Nat.reduceEqDiff, Nat.reduceSub, Nat.reduceLeDiff, reduceCtorEq, h3, h5, addK_done hd])
        | refine ev_skip ?_ | refine ev_block ?_ | refine ev_blk ?_ | refine ev_ret ?_ | refine ev_exit ?_ | refine evx_code_ret ?_ | refine evx_blk_ret ?_ | refine evx_lp_ret ?_
        | refine evx_code_exit ?_ | refine evx_lp_exit ?_ | refine evx_blk_hit ?_ | refine evx_blk_pass (by decide) ?_
        | refine And.intro ?_ ?_ | intro _ | decide +kernel | omega)
      all_goals first
        | (exfalso; omega)
        | (simp_all; done)
    · have h3 : decide (addAt xs p < xs.length) = false := by simpa using hd
      have h6 := addK_last hd
      rw [← h6]
      clear h6
      by_cases h0 : xs.length = 0
      · have hx : xs = [] := List.eq_nil_of_length_eq_zero h0
        subst hx
        repeat' (first
          | exact True.intro
          | refine ev_seq ?_
          | ((first | refine vgd_go ?_ | refine ev_region hE hM (hS (by decide +kernel)) ?_ | refine ev_if ?_ | refine end_ret hE rfl rfl ?_ | refine end_norm hE rfl rfl ?_ | refine endG_ret [] hE rfl ?_ | refine endG_norm [] hE rfl ?_ | refine vcall_A ?_); simp (maxSteps := 2000000) only [go_sem, hP, ↓reduceIte, Nat.reduceAdd, Nat.reduceMul, Nat.reduceEqDiff, Nat.reduceSub, Nat.reduceLeDiff, reduceCtorEq, h3, addK_zero, List.length_nil])
          | refine ev_skip ?_ | refine ev_block ?_ | refine ev_blk ?_ | refine ev_ret ?_ | refine ev_exit ?_ | refine evx_code_ret ?_ | refine evx_blk_ret ?_ | refine evx_lp_ret ?_
          | refine evx_code_exit ?_ | refine evx_lp_exit ?_ | refine evx_blk_hit ?_ | refine evx_blk_pass (by decide) ?_
          | refine And.intro ?_ ?_ | intro _ | decide +kernel | omega)
        all_goals first
          | (exfalso; omega)
          | (simp [Es.strip]; done)
          | (simp [Es.strip]; omega)
          | (simp_all [addK_zero, Es.strip]; done)
      · have h5 : decide (xs.length = 0) = false := by simpa using h0
        repeat' (first
          | exact True.intro
          | refine ev_seq ?_
          | ((first | refine vgd_go ?_ | refine ev_region hE hM (hS (by decide +kernel)) ?_ | refine ev_if ?_ | refine end_ret hE rfl rfl ?_ | refine end_norm hE rfl rfl ?_ | refine endG_ret [] hE rfl ?_ | refine endG_norm [] hE rfl ?_ | refine vcall_A ?_); simp (maxSteps := 2000000) only [go_sem, hP, ↓reduceIte, Nat.reduceAdd, Nat.reduceMul, Nat.reduceEqDiff, Nat.reduceSub, Nat.reduceLeDiff, reduceCtorEq, h3, h5, List.length_map])
          | refine ev_skip ?_ | refine ev_block ?_ | refine ev_blk ?_ | refine ev_ret ?_ | refine ev_exit ?_ | refine evx_code_ret ?_ | refine evx_blk_ret ?_ | refine evx_lp_ret ?_
          | refine evx_code_exit ?_ | refine evx_lp_exit ?_ | refine evx_blk_hit ?_ | refine evx_blk_pass (by decide) ?_
          | refine And.intro ?_ ?_ | intro _ | decide +kernel | omega)
        all_goals first
          | (exfalso; omega)
          | (simp only [Es.strip, List.length_nil]; omega)
          | omega
          | (simp_all [eP_eq]; done)
theorem s_specAddPair (xs : List Pair) (d : Int) (p : Pair) : Sat Try.prog 54 [aPs xs, aI d, aP p] true (rPsR (apC xs d p) (apV xs d p)) := by
  refine sat_walk (fn := Try.f54) rfl rfl rfl (Nat.le_of_ble_eq_true rfl) fun fr hP hN hbnd => ?_
  have hE : (envOf fr Try.prog).Ok := envOf_ok hP
  have hM := follows_of hP
  have hS : ∀ {draw ops}, statB Try.f54.ntmps draw ops = true → statB (envOf fr Try.prog).fr.N draw ops = true := fun h => by rw [envOf_fr, hN]; exact h
  by_cases hc : chC xs d p = 0
  · have h1 : mf xs d = 0 := by unfold chC at hc; split at hc <;> simp_all
    have h2 : pairF d p = 0 := by unfold chC at hc; split at hc <;> simp_all
    have h3 := mf_len h1
    rcases Int.lt_or_le (findId xs p.id) 0 with h7 | h7
    · have h8 : ¬ 0 ≤ findId xs p.id := by omega
      by_cases h9 : xs.length = 60
      · have e1 : apC xs d p = 7 := by unfold apC; rw [if_neg (by simpa using h1), if_neg (by simpa using h2), if_neg h8, if_pos (by omega)]
        have e2 : apV xs d p = [] := by unfold apV; rw [e1]; rfl
        rw [e1, e2]
        repeat' (first
          | exact True.intro
          | refine ev_seq ?_
          | ((first | refine vgd_go ?_ | refine ev_region hE hM (hS (by decide +kernel)) ?_ | refine ev_if ?_ | refine end_ret hE rfl rfl ?_ | refine end_norm hE rfl rfl ?_ | refine endG_ret [] hE rfl ?_ | refine endG_norm [] hE rfl ?_ | refine vcallB_of hP (s_l2Ask xs d p) ?_ | refine vcallB_of hP (s_l2At xs p.id) ?_ | refine vcall_A ?_); simp (maxSteps := 2000000) only [go_sem, hP, ↓reduceIte, Nat.reduceAdd, Nat.reduceMul, Nat.reduceEqDiff, Nat.reduceSub, Nat.reduceLeDiff, reduceCtorEq, hc])
          | refine ev_skip ?_ | refine ev_block ?_ | refine ev_blk ?_ | refine ev_ret ?_ | refine ev_exit ?_ | refine evx_code_ret ?_ | refine evx_blk_ret ?_ | refine evx_lp_ret ?_
          | refine evx_code_exit ?_ | refine evx_lp_exit ?_ | refine evx_blk_hit ?_ | refine evx_blk_pass (by decide) ?_
          | refine And.intro ?_ ?_ | intro _ | decide +kernel | omega)
        all_goals first | (exfalso; omega) | (simp_all; done)
      · have e1 : apC xs d p = 0 := by unfold apC; rw [if_neg (by simpa using h1), if_neg (by simpa using h2), if_neg h8, if_neg (by omega)]
        have e2 : apV xs d p = addV xs p := by unfold apV; rw [e1]; rfl
        rw [e1, e2]
        repeat' (first
          | exact True.intro
          | refine ev_seq ?_
          | ((first | refine vgd_go ?_ | refine ev_region hE hM (hS (by decide +kernel)) ?_ | refine ev_if ?_ | refine end_ret hE rfl rfl ?_ | refine end_norm hE rfl rfl ?_ | refine endG_ret [] hE rfl ?_ | refine endG_norm [] hE rfl ?_ | refine vcallB_of hP (s_l2Ask xs d p) ?_ | refine vcallB_of hP (s_l2At xs p.id) ?_ | refine vcallB_of hP (s_l2Add xs p (by omega)) ?_ | refine vcallB_of hP (s_l2Copies (addV xs p) (by rw [addV_w]; have := mf_w h1; have := rf_wR (pairF_rf h2); omega)) ?_ | refine vcall_A ?_); simp (maxSteps := 2000000) only [go_sem, hP, ↓reduceIte, Nat.reduceAdd, Nat.reduceMul, Nat.reduceEqDiff, Nat.reduceSub, Nat.reduceLeDiff, reduceCtorEq, hc])
          | refine ev_skip ?_ | refine ev_block ?_ | refine ev_blk ?_ | refine ev_ret ?_ | refine ev_exit ?_ | refine evx_code_ret ?_ | refine evx_blk_ret ?_ | refine evx_lp_ret ?_
          | refine evx_code_exit ?_ | refine evx_lp_exit ?_ | refine evx_blk_hit ?_ | refine evx_blk_pass (by decide) ?_
          | refine And.intro ?_ ?_ | intro _ | decide +kernel | omega)
        all_goals first | (exfalso; omega) | (simp_all; done)
    · have e1 : apC xs d p = 6 := by unfold apC; rw [if_neg (by simpa using h1), if_neg (by simpa using h2), if_pos h7]
      have e2 : apV xs d p = [] := by unfold apV; rw [e1]; rfl
      rw [e1, e2]
      repeat' (first
        | exact True.intro
        | refine ev_seq ?_
        | ((first | refine vgd_go ?_ | refine ev_region hE hM (hS (by decide +kernel)) ?_ | refine ev_if ?_ | refine end_ret hE rfl rfl ?_ | refine end_norm hE rfl rfl ?_ | refine endG_ret [] hE rfl ?_ | refine endG_norm [] hE rfl ?_ | refine vcallB_of hP (s_l2Ask xs d p) ?_ | refine vcallB_of hP (s_l2At xs p.id) ?_ | refine vcall_A ?_); simp (maxSteps := 2000000) only [go_sem, hP, ↓reduceIte, Nat.reduceAdd, Nat.reduceMul, Nat.reduceEqDiff, Nat.reduceSub, Nat.reduceLeDiff, reduceCtorEq, hc])
        | refine ev_skip ?_ | refine ev_block ?_ | refine ev_blk ?_ | refine ev_ret ?_ | refine ev_exit ?_ | refine evx_code_ret ?_ | refine evx_blk_ret ?_ | refine evx_lp_ret ?_
        | refine evx_code_exit ?_ | refine evx_lp_exit ?_ | refine evx_blk_hit ?_ | refine evx_blk_pass (by decide) ?_
        | refine And.intro ?_ ?_ | intro _ | decide +kernel | omega)
      all_goals first | (exfalso; omega) | (simp_all; done)
  · have e1 : apC xs d p = chC xs d p := by unfold apC chC at *; split <;> simp_all
    have e2 : apV xs d p = [] := by unfold apV; rw [if_neg (by rw [e1]; exact hc)]
    rw [e1, e2]
    repeat' (first
      | exact True.intro
      | refine ev_seq ?_
      | ((first | refine vgd_go ?_ | refine ev_region hE hM (hS (by decide +kernel)) ?_ | refine ev_if ?_ | refine end_ret hE rfl rfl ?_ | refine end_norm hE rfl rfl ?_ | refine endG_ret [] hE rfl ?_ | refine endG_norm [] hE rfl ?_ | refine vcallB_of hP (s_l2Ask xs d p) ?_ | refine vcall_A ?_); simp (maxSteps := 2000000) only [go_sem, hP, ↓reduceIte, Nat.reduceAdd, Nat.reduceMul, Nat.reduceEqDiff, Nat.reduceSub, Nat.reduceLeDiff, reduceCtorEq])
      | refine ev_skip ?_ | refine ev_block ?_ | refine ev_blk ?_ | refine ev_ret ?_ | refine ev_exit ?_ | refine evx_code_ret ?_ | refine evx_blk_ret ?_ | refine evx_lp_ret ?_
      | refine evx_code_exit ?_ | refine evx_lp_exit ?_ | refine evx_blk_hit ?_ | refine evx_blk_pass (by decide) ?_
      | refine And.intro ?_ ?_ | intro _ | decide +kernel | omega)
    all_goals first | (exfalso; omega) | (simp_all; done)
theorem l_AddPair (a : List Pair) (b : Int) (c : Pair) : Sat Try.prog 8 [aPs a, aI b, aP c] true (rB true) := by
  refine sat_walkB (fn := Try.f8) rfl rfl rfl (Nat.le_of_ble_eq_true rfl) fun fr hP hN hYX hbnd => ?_
  have hE : (envOf fr Try.prog).Ok := envOf_ok hP
  have hM := follows_of hP
  have hS : ∀ {draw ops}, statB Try.f8.ntmps draw ops = true → statB (envOf fr Try.prog).fr.N draw ops = true := fun h => by rw [envOf_fr, hN]; exact h
  repeat' (first
    | exact True.intro
    | refine ev_seq ?_
    | ((first | refine ev_stop 19 ?_ | refine vgd_go ?_ | refine ev_region hE hM (hS (by decide +kernel)) ?_ | refine ev_if ?_ | refine end_ret hE rfl rfl ?_ | refine end_norm hE rfl rfl ?_ | refine endG_ret [] hE rfl ?_ | refine endG_norm [] hE rfl ?_ | refine vcallB_of hP (s_szPairS a _ (by omega) (by omega)) ?_ | refine vcallB_of hP (s_szPair c _ (by simp only [lessN] at *; omega) (by simp only [lessN] at *; omega)) ?_ | refine vcallB_of hP (s_toPairS a (by simp only [lessN] at *; omega)) ?_ | refine vcallB_of hP (s_toPair c (by simp only [lessN] at *; omega)) ?_ | refine vcallB_of hP (s_specAddPair a b c) ?_ | refine vcallB_of hP (s_implAddPair a b c (by simp only [lessN] at *; omega)) ?_ | refine vcallB_of hP (s_eqPairS a a) ?_ | refine vcallB_of hP (s_eqPair c c) ?_ | refine vcallB_of hP (s_eqPairsResult _ _ _ _) ?_ | refine vcall_A ?_); simp (maxSteps := 2000000) only [go_sem, hP, ↓reduceIte, Nat.reduceAdd, Nat.reduceMul, Nat.reduceEqDiff, Nat.reduceSub, Nat.reduceLeDiff, reduceCtorEq])
    | refine ev_skip ?_ | refine ev_block ?_ | refine ev_blk ?_ | refine ev_ret ?_ | refine ev_exit ?_ | refine evx_code_ret ?_ | refine evx_blk_ret ?_ | refine evx_lp_ret ?_
    | refine evx_code_exit ?_ | refine evx_lp_exit ?_ | refine evx_blk_hit ?_ | refine evx_blk_pass (by decide) ?_
    | refine And.intro ?_ ?_ | intro _ | decide +kernel | omega)
  all_goals first | (exfalso; simp_all; done) | skip
  first | refine Stop.mk ?_ | skip
  have hw0 : wPs a ≤ 1048576 := by simp only [lessN] at *; omega
  have hw1 : wR c.rect ≤ 1048576 := by simp only [lessN] at *; omega
  have hv := apV_w a b c
  have hwc : wPs a + wR c.rect ≤ 1048576 := by simp only [lessN] at *; omega
  have x0 := s_markPairS a 1 (by omega) (by simp only [mMax]; omega)
  have x1 := s_markPair c.id c.rect (1 + wPs a) (by omega) (by simp only [mMax]; omega)
  have r1 := s_markPairsResult (apC a b c) (apV a b c) 1 (by omega) (by simp only [mMax]; omega)
  have r2 := s_heldPairsResult (apC a b c) (apV a b c) 1 (by omega) (by simp only [mMax]; omega)
  refine ev_cut [(0, .ca (sP a)), (1, iT b), (5, .ptr 0 0), (6, .c (.bool false)), (8, .ptr 32816 0), (9, .ref 36872), (10, .ptr 40976 0), (11, .ptr 45088 0), (12, iT 1)] [(0, .box [iT c.id, .ca (sI c.rect.low), .ca (sI c.rect.high)]), (32816, .box [iT (apC a b c), .ref 1081384]), gPs 1081384 (apV a b c), gPs 36872 a, (40976, .box [iT c.id, .ref 1089544, .ref 2138120]), gI 1089544 c.rect.low, gI 2138120 c.rect.high, (45088, .box [iT (apC a b c), .ref 1093656]), gPs 1093656 (apV a b c)] [] [] (by simp only [go_sem, hP, ↓reduceIte, Nat.reduceAdd, Nat.reduceMul, Nat.reduceEqDiff, Nat.reduceSub, Nat.reduceLeDiff, reduceCtorEq, List.cons_append, List.nil_append]) ?_
  repeat' (first
    | exact True.intro
    | refine ev_seq ?_
    | ((first | refine ev_regionC (id := 19) (pre := [_, _]) hE rfl (hS (by decide +kernel)) ?_ | refine vgd_go ?_ | refine ev_region hE hM (hS (by decide +kernel)) ?_ | refine ev_if ?_ | refine end_ret hE rfl rfl ?_ | refine end_norm hE rfl rfl ?_ | refine endG_ret [] hE rfl ?_ | refine endG_norm [] hE rfl ?_ | refine vcall_A ?_); simp (maxSteps := 2000000) only [go_sem, hP, ↓reduceIte, Nat.reduceAdd, Nat.reduceMul, Nat.reduceEqDiff, Nat.reduceSub, Nat.reduceLeDiff, reduceCtorEq, List.cons_append, List.nil_append])
    | refine ev_skip ?_ | refine ev_block ?_ | refine ev_blk ?_ | refine ev_ret ?_ | refine ev_exit ?_ | refine evx_code_ret ?_ | refine evx_blk_ret ?_ | refine evx_lp_ret ?_
    | refine evx_code_exit ?_ | refine evx_lp_exit ?_ | refine evx_blk_hit ?_ | refine evx_blk_pass (by decide) ?_
    | refine And.intro ?_ ?_ | intro _ | decide +kernel | omega)
  refine callM_of [(1, 36872)] [] [(0, .ca (sP a)), (1, iT b), (5, .ptr 0 0), (6, .c (.bool false)), (8, .ptr 32816 0), (9, .ref 36872), (10, .ptr 40976 0), (11, .ptr 45088 0), (54, .ref 36872), (55, iT 1)] [(0, .box [iT c.id, .ca (sI c.rect.low), .ca (sI c.rect.high)]), (32816, .box [iT (apC a b c), .ref 1081384]), gPs 1081384 (apV a b c), gPs 36872 a, (40976, .box [iT c.id, .ref 1089544, .ref 2138120]), gI 1089544 c.rect.low, gI 2138120 c.rect.high, (45088, .box [iT (apC a b c), .ref 1093656]), gPs 1093656 (apV a b c)] [] hP x0 hYX rfl rfl (by rw [envOf_fr, hN]; decide) (by simp only [go_sem, hP, ↓reduceIte, Nat.reduceAdd, Nat.reduceMul, Nat.reduceEqDiff, Nat.reduceSub, Nat.reduceLeDiff, reduceCtorEq, List.cons_append, List.nil_append]) rfl rfl (by simp only [go_sem, hP, ↓reduceIte, Nat.reduceAdd, Nat.reduceMul, Nat.reduceEqDiff, Nat.reduceSub, Nat.reduceLeDiff, reduceCtorEq, List.cons_append, List.nil_append] <;> simp) (by simp only [go_sem, hP, ↓reduceIte, Nat.reduceAdd, Nat.reduceMul, Nat.reduceEqDiff, Nat.reduceSub, Nat.reduceLeDiff, reduceCtorEq] <;> simp) ?_
  simp only [go_sem, hP, ↓reduceIte, Nat.reduceAdd, Nat.reduceMul, Nat.reduceEqDiff, Nat.reduceSub, Nat.reduceLeDiff, reduceCtorEq, List.cons_append, List.nil_append]
  repeat' (first
    | exact True.intro
    | refine ev_seq ?_
    | ((first | refine ev_stop 24 ?_ | refine vgd_go ?_ | refine ev_region hE hM (hS (by decide +kernel)) ?_ | refine ev_if ?_ | refine end_ret hE rfl rfl ?_ | refine end_norm hE rfl rfl ?_ | refine endG_ret [] hE rfl ?_ | refine endG_norm [] hE rfl ?_ | refine vcallB_of hP (s_toPairS a (by simp only [lessN] at *; omega)) ?_ | refine vcallB_of hP (s_toPair c (by simp only [lessN] at *; omega)) ?_ | refine vcallB_of hP (s_implAddPair a b c (by simp only [lessN] at *; omega)) ?_ | refine vcallB_of hP (s_eqPairsResult _ _ _ _) ?_ | refine vcallG_of (args := [.agg [iT c.id, .ref 1089544, .ref 2138120], _]) [(1, 1089544), (2, 2138120)] [] hP x1 ?_ | refine vcall_A ?_); simp (maxSteps := 2000000) only [go_sem, hP, ↓reduceIte, Nat.reduceAdd, Nat.reduceMul, Nat.reduceEqDiff, Nat.reduceSub, Nat.reduceLeDiff, reduceCtorEq, List.cons_append, List.nil_append, markedA])
    | refine ev_skip ?_ | refine ev_block ?_ | refine ev_blk ?_ | refine ev_ret ?_ | refine ev_exit ?_ | refine evx_code_ret ?_ | refine evx_blk_ret ?_ | refine evx_lp_ret ?_
    | refine evx_code_exit ?_ | refine evx_lp_exit ?_ | refine evx_blk_hit ?_ | refine evx_blk_pass (by decide) ?_
    | refine And.intro ?_ ?_ | intro _ | decide +kernel | omega)
  all_goals first | (exfalso; simp_all; done) | skip
  first | refine Stop.mk ?_ | skip
  refine ev_cut [(0, .ca (sP a)), (1, iT b), (5, .ptr 0 0), (6, .c (.bool false)), (8, .ptr 32816 0), (11, .ptr 45088 0), (13, iT 1)] [(0, .box [iT c.id, .ca (sI c.rect.low), .ca (sI c.rect.high)]), (32816, .box [iT (apC a b c), .ref 1081384]), gPs 1081384 (apV a b c), (45088, .box [iT (apC a b c), .ref 1093656]), gPs 1093656 (apV a b c)] [] [] (by simp only [go_sem, hP, ↓reduceIte, Nat.reduceAdd, Nat.reduceMul, Nat.reduceEqDiff, Nat.reduceSub, Nat.reduceLeDiff, reduceCtorEq, List.cons_append, List.nil_append]) ?_
  repeat' (first
    | exact True.intro
    | refine ev_seq ?_
    | ((first | refine ev_regionC (id := 24) (pre := [_, _]) hE rfl (hS (by decide +kernel)) ?_ | refine vgd_go ?_ | refine ev_region hE hM (hS (by decide +kernel)) ?_ | refine ev_if ?_ | refine end_ret hE rfl rfl ?_ | refine end_norm hE rfl rfl ?_ | refine endG_ret [] hE rfl ?_ | refine endG_norm [] hE rfl ?_ | refine vcall_A ?_); simp (maxSteps := 2000000) only [go_sem, hP, ↓reduceIte, Nat.reduceAdd, Nat.reduceMul, Nat.reduceEqDiff, Nat.reduceSub, Nat.reduceLeDiff, reduceCtorEq, List.cons_append, List.nil_append])
    | refine ev_skip ?_ | refine ev_block ?_ | refine ev_blk ?_ | refine ev_ret ?_ | refine ev_exit ?_ | refine evx_code_ret ?_ | refine evx_blk_ret ?_ | refine evx_lp_ret ?_
    | refine evx_code_exit ?_ | refine evx_lp_exit ?_ | refine evx_blk_hit ?_ | refine evx_blk_pass (by decide) ?_
    | refine And.intro ?_ ?_ | intro _ | decide +kernel | omega)
  refine callM_of [(1, 1093656)] [] [(0, .ca (sP a)), (1, iT b), (5, .ptr 0 0), (6, .c (.bool false)), (8, .ptr 32816 0), (11, .ptr 45088 0), (68, .agg [iT (apC a b c), .ref 1093656]), (69, iT 1)] [(0, .box [iT c.id, .ca (sI c.rect.low), .ca (sI c.rect.high)]), (32816, .box [iT (apC a b c), .ref 1081384]), gPs 1081384 (apV a b c), (45088, .box [iT (apC a b c), .ref 1093656]), gPs 1093656 (apV a b c)] [] hP r1 hYX rfl rfl (by rw [envOf_fr, hN]; decide) (by simp only [go_sem, hP, ↓reduceIte, Nat.reduceAdd, Nat.reduceMul, Nat.reduceEqDiff, Nat.reduceSub, Nat.reduceLeDiff, reduceCtorEq, List.cons_append, List.nil_append]) rfl rfl (by simp only [go_sem, hP, ↓reduceIte, Nat.reduceAdd, Nat.reduceMul, Nat.reduceEqDiff, Nat.reduceSub, Nat.reduceLeDiff, reduceCtorEq, List.cons_append, List.nil_append] <;> simp) (by simp only [go_sem, hP, ↓reduceIte, Nat.reduceAdd, Nat.reduceMul, Nat.reduceEqDiff, Nat.reduceSub, Nat.reduceLeDiff, reduceCtorEq] <;> simp) ?_
  simp only [go_sem, hP, ↓reduceIte, Nat.reduceAdd, Nat.reduceMul, Nat.reduceEqDiff, Nat.reduceSub, Nat.reduceLeDiff, reduceCtorEq, List.cons_append, List.nil_append]
  repeat' (first
    | exact True.intro
    | refine ev_seq ?_
    | ((first | refine vgd_go ?_ | refine ev_region hE hM (hS (by decide +kernel)) ?_ | refine ev_if ?_ | refine end_ret hE rfl rfl ?_ | refine end_norm hE rfl rfl ?_ | refine endG_ret [] hE rfl ?_ | refine endG_norm [] hE rfl ?_ | refine vcallB_of hP (s_toPairS a (by simp only [lessN] at *; omega)) ?_ | refine vcallB_of hP (s_toPair c (by simp only [lessN] at *; omega)) ?_ | refine vcallB_of hP (s_implAddPair a b c (by simp only [lessN] at *; omega)) ?_ | refine vcallB_of hP (s_eqPairsResult _ _ _ _) ?_ | refine vcallG_of (args := [.agg [iT c.id, .ref 1089544, .ref 2138120], _]) [(1, 1089544), (2, 2138120)] [] hP x1 ?_ | refine vcallB_of hP r2 ?_ | refine vcall_A ?_); simp (maxSteps := 2000000) only [go_sem, hP, ↓reduceIte, Nat.reduceAdd, Nat.reduceMul, Nat.reduceEqDiff, Nat.reduceSub, Nat.reduceLeDiff, reduceCtorEq, List.cons_append, List.nil_append, markedA])
    | refine ev_skip ?_ | refine ev_block ?_ | refine ev_blk ?_ | refine ev_ret ?_ | refine ev_exit ?_ | refine evx_code_ret ?_ | refine evx_blk_ret ?_ | refine evx_lp_ret ?_
    | refine evx_code_exit ?_ | refine evx_lp_exit ?_ | refine evx_blk_hit ?_ | refine evx_blk_pass (by decide) ?_
    | refine And.intro ?_ ?_ | intro _ | decide +kernel | omega)
  all_goals (simp_all; done)
theorem all_AddPair (gs : List Arg) (h : shpA Try.prog 12 [69, 2, 86] gs) : Sat Try.prog 8 gs true (rB true) := by
  obtain ⟨x0, gs, rfl, h0, x1, gs, rfl, h1, x2, gs, rfl, h2, rfl⟩ := h
  obtain ⟨a, rfl⟩ := shp_Ps (n := 6) rfl h0
  obtain ⟨b, rfl, _⟩ := shp_i64 (n := 11) rfl h1
  obtain ⟨c, rfl⟩ := shp_P (n := 7) rfl h2
  exact l_AddPair a b c
end Go.Proofs.Ytcephdpooijciaa.W
