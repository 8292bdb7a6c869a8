/- Contracts of functions that FnNodes reaches: what each returns; it writes to nothing of old. No condition but those that each theorem states. -/
import Derived.Test.YtmpndkhnajogkaaQa1
open Go Go.Vm Go.Proofs Go.IntWalk Go.RowKit
set_option maxRecDepth 100000
set_option maxHeartbeats 4000000
set_option linter.unusedSimpArgs false
set_option linter.unusedVariables false
set_option linter.unusedSectionVars false
namespace Go.Proofs.Ytmpndkhnajogkaa.W
attribute [local irreducible] kJ ev evx vops vstep vgo vgd vget vcall vcallFn vcallA vcallB vts vres vcond vbin
theorem s_l1RectR (c : List Int) (a : Int) (d : Nat) (hc : codeOk c) (h0 : 0 ≤ a) (h1 : a ≤ 1073000000) (hd0 : 0 < d) (hd : d ≤ 100) : SatG Try.prog 246 false [.ptr 1 0, iT d] [(1, bSrc c a)] (.agg [.ref 2, .ref 3]) [(1, bSrc c (a + 6 * d)), (2, .arr true 2 1 ((rectLo c a d).map eI)), (3, .arr true 2 1 ((rectHi c a d).map eI))] := by
  refine satG_walk (fn := Try.f246) rfl rfl rfl (Nat.le_of_ble_eq_true rfl) (by simp) fun fr hP hN hdp hb1 hb2 => ?_
  have hE : (envOf fr Try.prog).Ok := envOf_ok hP
  have hM := follows_of hP
  have hS : ∀ {draw ops}, statB Try.f246.ntmps draw ops = true → statB (envOf fr Try.prog).fr.N draw ops = true := fun h => by rw [envOf_fr, hN]; exact h
  repeat' (first
    | exact True.intro
    | refine ev_seq ?_
    | ((first | refine vgd_go ?_ | refine ev_region hE hM (hS (by decide +kernel)) ?_ | refine ev_if ?_ | refine end_ret hE rfl rfl ?_ | refine end_norm hE rfl rfl ?_ | refine endG_ret [] hE rfl ?_ | refine endG_norm [] hE rfl ?_ | refine vcall_A ?_); simp (maxSteps := 2000000) only [go_sem, hP, ↓reduceIte, Nat.reduceAdd, Nat.reduceMul, Nat.reduceEqDiff, Nat.reduceSub, Nat.reduceLeDiff, reduceCtorEq])
    | refine ev_skip ?_ | refine ev_block ?_ | refine ev_blk ?_ | refine ev_ret ?_ | refine ev_exit ?_ | refine evx_code_ret ?_ | refine evx_blk_ret ?_ | refine evx_lp_ret ?_
    | refine evx_code_exit ?_ | refine evx_lp_exit ?_ | refine evx_blk_hit ?_ | refine evx_blk_pass (by decide) ?_
    | refine And.intro ?_ ?_ | intro _ | decide +kernel | omega)
  refine ev_loop (ι := Nat) (fun k => [(0, .ptr 1 0), (1, iT d), (4, .ptr 0 0), (5, .ptr 4104 0), (6, iT k)]) (fun k => [(1, bSrc c (a + 6 * k)), (0, .box [.nilS, .nilS]), (4104, .box [.ref 100000, .ref 100001]), (100000, .arr true 2 1 ((rectLo c a k).map eI)), (100001, .arr true 2 1 ((rectHi c a k).map eI))]) (fun _ => [(0, .ref 1)]) (fun k => k ≤ d) (fun k => d - k) 0 [(100000, none), (100001, none)] (by omega) (by simp only [go_sem, hP, ↓reduceIte, Nat.reduceAdd, Nat.reduceMul, Nat.reduceEqDiff, Nat.reduceSub, Nat.reduceLeDiff, reduceCtorEq]; simp [rectLo, rectHi]) ?_
  intro k hk
  have hw1 : k < d → IntKind.i64.wrap ((k : Int) + 1) = k + 1 := fun h => i64_in _ (by omega)
  have hl1 : (rectLo c a k).length = k := by simp [rectLo]
  have hl2 : (rectHi c a k).length = k := by simp [rectHi]
  have q1 := coord_in c (a + 6 * k)
  have q2 := pk5_in c (a + 6 * k + 5)
  have hw2 : IntKind.i64.wrap (coord c (a + 6 * k) + pk c (a + 6 * k + 5) [0, 1, 3, 8, 30]) = coord c (a + 6 * k) + pk c (a + 6 * k + 5) [0, 1, 3, 8, 30] := i64_in _ (by omega)
  by_cases hlt : k < d
  · repeat' (first
      | exact True.intro
      | refine ev_seq ?_
      | ((first | refine vgd_go ?_ | refine ev_region hE hM (hS (by decide +kernel)) ?_ | refine ev_if ?_ | refine end_ret hE rfl rfl ?_ | refine end_norm hE rfl rfl ?_ | refine endG_ret [] hE rfl ?_ | refine endG_norm [] hE rfl ?_ | refine vcallG_at (args := [.ptr 1 0]) 1 [] rfl hP (s_l1Coord c _ hc (by omega) (by omega)) ?_ | refine vcallG_at (args := [.ptr 1 0, .ref 24592]) 1 [24592] rfl hP (s_l1Pick c _ [0, 1, 3, 8, 30] hc (by omega) (by omega) (by simp) (by simp)) ?_ | refine vcallB_of hP (s_l1Min _ _) ?_ | refine vcall_A ?_); simp (maxSteps := 2000000) only [go_sem, hP, ↓reduceIte, Nat.reduceAdd, Nat.reduceMul, Nat.reduceEqDiff, Nat.reduceSub, Nat.reduceLeDiff, reduceCtorEq, Bool.and_self, List.length_map, hl1, hl2, hw2])
      | refine ev_skip ?_ | refine ev_block ?_ | refine ev_blk ?_ | refine ev_ret ?_ | refine ev_exit ?_ | refine evx_code_ret ?_ | refine evx_blk_ret ?_ | refine evx_lp_ret ?_
      | refine evx_code_exit ?_ | refine evx_lp_exit ?_ | refine evx_blk_hit ?_ | refine evx_blk_pass (by decide) ?_
      | refine And.intro ?_ ?_ | intro _ | decide +kernel | omega)
    all_goals first
      | exact ev_lp (k + 1) [(100000, some 28704), (100001, some 32800)] (by omega) (by omega) (by simp only [go_sem, hP, ↓reduceIte, Nat.reduceAdd, Nat.reduceMul, Nat.reduceEqDiff, Nat.reduceSub, Nat.reduceLeDiff, reduceCtorEq]; simp [hw1 hlt, rectLo, rectHi, List.range_succ]; exact ⟨by omega, rfl, rfl⟩)
      | (exfalso; omega)
      | rfl
      | omega
      | (simp_all; done)
  · have hke : k = d := by omega
    subst hke
    repeat' (first
      | exact True.intro
      | refine ev_seq ?_
      | ((first | refine endG_ret [(2, some 100000), (3, some 100001)] hE rfl ?_ | refine vgd_go ?_ | refine ev_region hE hM (hS (by decide +kernel)) ?_ | refine ev_if ?_ | refine end_ret hE rfl rfl ?_ | refine end_norm hE rfl rfl ?_ | refine endG_ret [] hE rfl ?_ | refine endG_norm [] hE rfl ?_ | refine vcall_A ?_); simp (maxSteps := 2000000) only [go_sem, hP, ↓reduceIte, Nat.reduceAdd, Nat.reduceMul, Nat.reduceEqDiff, Nat.reduceSub, Nat.reduceLeDiff, reduceCtorEq])
      | refine ev_skip ?_ | refine ev_block ?_ | refine ev_blk ?_ | refine ev_ret ?_ | refine ev_exit ?_ | refine evx_code_ret ?_ | refine evx_blk_ret ?_ | refine evx_lp_ret ?_
      | refine evx_code_exit ?_ | refine evx_lp_exit ?_ | refine evx_blk_hit ?_ | refine evx_blk_pass (by decide) ?_
      | refine And.intro ?_ ?_ | intro _ | decide +kernel | omega)
    all_goals first
      | (exfalso; omega)
      | (simp_all; done)
theorem s_l1Bent0 (c : List Int) (a : Int) (d : Nat) (hc : codeOk c) (h0 : 0 ≤ a) (h1 : a ≤ 1073000000 - 100000) (hd0 : 2 ≤ d) (hd : d ≤ 100) (hv : nx c (a + 6 * d) 14 = 0) : SatG Try.prog 150 false [.ptr 1 0, iT d] [(1, bSrc c a)] (.agg [.c (sI (bentV c a d).low), .c (sI (bentV c a d).high)]) [(1, bSrc c (bentA c a d))] := by
  have ev : bentV c a d = ⟨(rectLo c a d).set 0 (pk c (a + 6 * d + 1) [(rectHi c a d).getD 0 default + 1, -1001, 1001]), rectHi c a d⟩ := by unfold bentV; simp [hv, rectV]
  have ea : bentA c a d = a + 6 * d + 2 := by unfold bentA; simp [hv]
  rw [ev, ea]
  have h : SatG Try.prog 150 false [.ptr 1 0, iT d] [(1, bSrc c a)] (.agg [.ref 2, .ref 3]) ((1, bSrc c (a + 6 * d + 2)) :: [(2, .fro 1 (((rectLo c a d).set 0 (pk c (a + 6 * d + 1) [(rectHi c a d).getD 0 default + 1, -1001, 1001])).map eI)), (3, .fro 1 ((rectHi c a d).map eI))]) := by
    refine satG_walk (fn := Try.f150) rfl rfl rfl (Nat.le_of_ble_eq_true rfl) (by simp) fun fr hP hN hdp hb1 hb2 => ?_
    have hE : (envOf fr Try.prog).Ok := envOf_ok hP
    have hM := follows_of hP
    have hS : ∀ {draw ops}, statB Try.f150.ntmps draw ops = true → statB (envOf fr Try.prog).fr.N draw ops = true := fun h => by rw [envOf_fr, hN]; exact h
    have q0 := rectV_hi c a d 0 (by omega)
    have q1 := rectV_hi c a d 1 (by omega)
    have hl1 : (rectLo c a d).length = d := by simp [rectLo]
    have hl2 : (rectHi c a d).length = d := by simp [rectHi]
    have hw0 : IntKind.i64.wrap ((rectHi c a d).getD 0 default + 1) = (rectHi c a d).getD 0 default + 1 := i64_in _ (by omega)
    have hp : a + 6 * (d : Int) + 1 + 1 = a + 6 * d + 2 := by omega
    have t0 : Int.toNat 0 = 0 := rfl
    have t1 : Int.toNat 1 = 1 := rfl
    repeat' (first
      | exact True.intro
      | refine ev_seq ?_
      | ((first | refine endG_ret [(2, some 2101264), (3, some 3149840)] hE rfl ?_ | refine vgd_go ?_ | refine ev_region hE hM (hS (by decide +kernel)) ?_ | refine ev_if ?_ | refine end_ret hE rfl rfl ?_ | refine end_norm hE rfl rfl ?_ | refine endG_ret [] hE rfl ?_ | refine endG_norm [] hE rfl ?_ | refine vcallG_at (args := [.ptr 1 0, iT d]) 1 [] rfl hP (s_l1RectR c _ d hc (by omega) (by omega) (by omega) hd) ?_ | refine vcallG_at (args := [.ptr 1 0, iT 14]) 1 [] rfl hP (s_l1Next c _ 14 hc (by omega) (by omega) (by omega) (by omega)) ?_ | refine vcallG_at (args := [.ptr 1 0, .ref 16448]) 1 [16448] rfl hP (s_l1Pick c (a + 6 * d + 1) [(rectHi c a d).getD 0 default + 1, -1001, 1001] hc (by omega) (by omega) (by simp) (by simp)) ?_ | refine vcall_A ?_); simp (maxSteps := 2000000) only [go_sem, hP, ↓reduceIte, Nat.reduceAdd, Nat.reduceMul, Nat.reduceEqDiff, Nat.reduceSub, Nat.reduceLeDiff, reduceCtorEq, hp, List.length_map, List.length_set, hl1, hl2, hw0, t0, t1, Int.reduceBEq, hv])
      | refine ev_skip ?_ | refine ev_block ?_ | refine ev_blk ?_ | refine ev_ret ?_ | refine ev_exit ?_ | refine evx_code_ret ?_ | refine evx_blk_ret ?_ | refine evx_lp_ret ?_
      | refine evx_code_exit ?_ | refine evx_lp_exit ?_ | refine evx_blk_hit ?_ | refine evx_blk_pass (by decide) ?_
      | refine And.intro ?_ ?_ | intro _ | decide +kernel | omega)
    all_goals first
      | (exfalso; omega)
      | rfl
      | omega
      | (simp [List.map_set, List.map_drop, Es.strip_map]; done)
      | (simp [Es.strip_map]; exact ⟨fun _ _ => rfl, rfl⟩)
      | (rw [← strip_eI, List.map_set]; rfl)
      | (rw [List.take_of_length_le (by simp [hl2]), List.map_drop])
      | (rename_i h; exact h.symm)
      | trace_state
  exact satG_data (fz := [(2, .fro 1 (((rectLo c a d).set 0 (pk c (a + 6 * d + 1) [(rectHi c a d).getD 0 default + 1, -1001, 1001])).map eI)), (3, .fro 1 ((rectHi c a d).map eI))]) (fun κ h => by simp only [lk] at h; split at h <;> simp_all) trivial rfl h
theorem s_l1Bent1 (c : List Int) (a : Int) (d : Nat) (hc : codeOk c) (h0 : 0 ≤ a) (h1 : a ≤ 1073000000 - 100000) (hd0 : 2 ≤ d) (hd : d ≤ 100) (hv : nx c (a + 6 * d) 14 = 1) : SatG Try.prog 150 false [.ptr 1 0, iT d] [(1, bSrc c a)] (.agg [.c (sI (bentV c a d).low), .c (sI (bentV c a d).high)]) [(1, bSrc c (bentA c a d))] := by
  have ev : bentV c a d = ⟨rectLo c a d, (rectHi c a d).drop 1⟩ := by unfold bentV; simp [hv, rectV]
  have ea : bentA c a d = a + 6 * d + 1 := by unfold bentA; simp [hv]
  rw [ev, ea]
  have h : SatG Try.prog 150 false [.ptr 1 0, iT d] [(1, bSrc c a)] (.agg [.ref 2, .c (sI ((rectHi c a d).drop 1))]) ((1, bSrc c (a + 6 * d + 1)) :: [(2, .fro 1 ((rectLo c a d).map eI))]) := by
    refine satG_walk (fn := Try.f150) rfl rfl rfl (Nat.le_of_ble_eq_true rfl) (by simp) fun fr hP hN hdp hb1 hb2 => ?_
    have hE : (envOf fr Try.prog).Ok := envOf_ok hP
    have hM := follows_of hP
    have hS : ∀ {draw ops}, statB Try.f150.ntmps draw ops = true → statB (envOf fr Try.prog).fr.N draw ops = true := fun h => by rw [envOf_fr, hN]; exact h
    have q0 := rectV_hi c a d 0 (by omega)
    have q1 := rectV_hi c a d 1 (by omega)
    have hl1 : (rectLo c a d).length = d := by simp [rectLo]
    have hl2 : (rectHi c a d).length = d := by simp [rectHi]
    have hw0 : IntKind.i64.wrap ((rectHi c a d).getD 0 default + 1) = (rectHi c a d).getD 0 default + 1 := i64_in _ (by omega)
    have hp : a + 6 * (d : Int) + 1 + 1 = a + 6 * d + 2 := by omega
    have t0 : Int.toNat 0 = 0 := rfl
    have t1 : Int.toNat 1 = 1 := rfl
    repeat' (first
      | exact True.intro
      | refine ev_seq ?_
      | ((first | refine endG_ret [(2, some 2101264)] hE rfl ?_ | refine vgd_go ?_ | refine ev_region hE hM (hS (by decide +kernel)) ?_ | refine ev_if ?_ | refine end_ret hE rfl rfl ?_ | refine end_norm hE rfl rfl ?_ | refine endG_ret [] hE rfl ?_ | refine endG_norm [] hE rfl ?_ | refine vcallG_at (args := [.ptr 1 0, iT d]) 1 [] rfl hP (s_l1RectR c _ d hc (by omega) (by omega) (by omega) hd) ?_ | refine vcallG_at (args := [.ptr 1 0, iT 14]) 1 [] rfl hP (s_l1Next c _ 14 hc (by omega) (by omega) (by omega) (by omega)) ?_ | refine vcall_A ?_); simp (maxSteps := 2000000) only [go_sem, hP, ↓reduceIte, Nat.reduceAdd, Nat.reduceMul, Nat.reduceEqDiff, Nat.reduceSub, Nat.reduceLeDiff, reduceCtorEq, hp, List.length_map, List.length_set, hl1, hl2, hw0, t0, t1, Int.reduceBEq, hv])
      | refine ev_skip ?_ | refine ev_block ?_ | refine ev_blk ?_ | refine ev_ret ?_ | refine ev_exit ?_ | refine evx_code_ret ?_ | refine evx_blk_ret ?_ | refine evx_lp_ret ?_
      | refine evx_code_exit ?_ | refine evx_lp_exit ?_ | refine evx_blk_hit ?_ | refine evx_blk_pass (by decide) ?_
      | refine And.intro ?_ ?_ | intro _ | decide +kernel | omega)
    all_goals first
      | (exfalso; omega)
      | rfl
      | omega
      | (simp [List.map_set, List.map_drop, Es.strip_map]; done)
      | (simp [Es.strip_map]; exact ⟨fun _ _ => rfl, rfl⟩)
      | (rw [← strip_eI, List.map_set]; rfl)
      | (rw [List.take_of_length_le (by simp [hl2]), List.map_drop])
      | (rename_i h; exact h.symm)
      | trace_state
  exact satG_data (fz := [(2, .fro 1 ((rectLo c a d).map eI))]) (fun κ h => by simp only [lk] at h; split at h <;> simp_all) trivial rfl h
theorem s_l1Bent2 (c : List Int) (a : Int) (d : Nat) (hc : codeOk c) (h0 : 0 ≤ a) (h1 : a ≤ 1073000000 - 100000) (hd0 : 2 ≤ d) (hd : d ≤ 100) (hv : nx c (a + 6 * d) 14 = 2) : SatG Try.prog 150 false [.ptr 1 0, iT d] [(1, bSrc c a)] (.agg [.c (sI (bentV c a d).low), .c (sI (bentV c a d).high)]) [(1, bSrc c (bentA c a d))] := by
  have ev : bentV c a d = ⟨rectLo c a d ++ [0], rectHi c a d⟩ := by unfold bentV; simp [hv, rectV]
  have ea : bentA c a d = a + 6 * d + 1 := by unfold bentA; simp [hv]
  rw [ev, ea]
  have h : SatG Try.prog 150 false [.ptr 1 0, iT d] [(1, bSrc c a)] (.agg [.ref 2, .ref 3]) ((1, bSrc c (a + 6 * d + 1)) :: [(2, .fro 1 ((rectLo c a d ++ [0]).map eI)), (3, .fro 1 ((rectHi c a d).map eI))]) := by
    refine satG_walk (fn := Try.f150) rfl rfl rfl (Nat.le_of_ble_eq_true rfl) (by simp) fun fr hP hN hdp hb1 hb2 => ?_
    have hE : (envOf fr Try.prog).Ok := envOf_ok hP
    have hM := follows_of hP
    have hS : ∀ {draw ops}, statB Try.f150.ntmps draw ops = true → statB (envOf fr Try.prog).fr.N draw ops = true := fun h => by rw [envOf_fr, hN]; exact h
    have q0 := rectV_hi c a d 0 (by omega)
    have q1 := rectV_hi c a d 1 (by omega)
    have hl1 : (rectLo c a d).length = d := by simp [rectLo]
    have hl2 : (rectHi c a d).length = d := by simp [rectHi]
    have hw0 : IntKind.i64.wrap ((rectHi c a d).getD 0 default + 1) = (rectHi c a d).getD 0 default + 1 := i64_in _ (by omega)
    have hp : a + 6 * (d : Int) + 1 + 1 = a + 6 * d + 2 := by omega
    have t0 : Int.toNat 0 = 0 := rfl
    have t1 : Int.toNat 1 = 1 := rfl
    repeat' (first
      | exact True.intro
      | refine ev_seq ?_
      | ((first | refine endG_ret [(2, some 32792), (3, some 3149840)] hE rfl ?_ | refine vgd_go ?_ | refine ev_region hE hM (hS (by decide +kernel)) ?_ | refine ev_if ?_ | refine end_ret hE rfl rfl ?_ | refine end_norm hE rfl rfl ?_ | refine endG_ret [] hE rfl ?_ | refine endG_norm [] hE rfl ?_ | refine vcallG_at (args := [.ptr 1 0, iT d]) 1 [] rfl hP (s_l1RectR c _ d hc (by omega) (by omega) (by omega) hd) ?_ | refine vcallG_at (args := [.ptr 1 0, iT 14]) 1 [] rfl hP (s_l1Next c _ 14 hc (by omega) (by omega) (by omega) (by omega)) ?_ | refine vcall_A ?_); simp (maxSteps := 2000000) only [go_sem, hP, ↓reduceIte, Nat.reduceAdd, Nat.reduceMul, Nat.reduceEqDiff, Nat.reduceSub, Nat.reduceLeDiff, reduceCtorEq, hp, List.length_map, List.length_set, hl1, hl2, hw0, t0, t1, Int.reduceBEq, hv])
      | refine ev_skip ?_ | refine ev_block ?_ | refine ev_blk ?_ | refine ev_ret ?_ | refine ev_exit ?_ | refine evx_code_ret ?_ | refine evx_blk_ret ?_ | refine evx_lp_ret ?_
      | refine evx_code_exit ?_ | refine evx_lp_exit ?_ | refine evx_blk_hit ?_ | refine evx_blk_pass (by decide) ?_
      | refine And.intro ?_ ?_ | intro _ | decide +kernel | omega)
    all_goals first
      | (exfalso; omega)
      | rfl
      | omega
      | (simp [List.map_set, List.map_drop, Es.strip_map]; done)
      | (simp [Es.strip_map]; exact ⟨fun _ _ => rfl, rfl⟩)
      | (rw [← strip_eI, List.map_set]; rfl)
      | (rw [List.take_of_length_le (by simp [hl2]), List.map_drop])
      | (rename_i h; exact h.symm)
      | trace_state
  exact satG_data (fz := [(2, .fro 1 ((rectLo c a d ++ [0]).map eI)), (3, .fro 1 ((rectHi c a d).map eI))]) (fun κ h => by simp only [lk] at h; split at h <;> simp_all) trivial rfl h
theorem s_l1Bent3 (c : List Int) (a : Int) (d : Nat) (hc : codeOk c) (h0 : 0 ≤ a) (h1 : a ≤ 1073000000 - 100000) (hd0 : 2 ≤ d) (hd : d ≤ 100) (hv : nx c (a + 6 * d) 14 = 3) : SatG Try.prog 150 false [.ptr 1 0, iT d] [(1, bSrc c a)] (.agg [.c (sI (bentV c a d).low), .c (sI (bentV c a d).high)]) [(1, bSrc c (bentA c a d))] := by
  have ev : bentV c a d = ⟨rectLo c a d, (rectHi c a d).set 1 (pk c (a + 6 * d + 1) [1000, 1001, -1000])⟩ := by unfold bentV; simp [hv, rectV]
  have ea : bentA c a d = a + 6 * d + 2 := by unfold bentA; simp [hv]
  rw [ev, ea]
  have h : SatG Try.prog 150 false [.ptr 1 0, iT d] [(1, bSrc c a)] (.agg [.ref 2, .ref 3]) ((1, bSrc c (a + 6 * d + 2)) :: [(2, .fro 1 ((rectLo c a d).map eI)), (3, .fro 1 (((rectHi c a d).set 1 (pk c (a + 6 * d + 1) [1000, 1001, -1000])).map eI))]) := by
    refine satG_walk (fn := Try.f150) rfl rfl rfl (Nat.le_of_ble_eq_true rfl) (by simp) fun fr hP hN hdp hb1 hb2 => ?_
    have hE : (envOf fr Try.prog).Ok := envOf_ok hP
    have hM := follows_of hP
    have hS : ∀ {draw ops}, statB Try.f150.ntmps draw ops = true → statB (envOf fr Try.prog).fr.N draw ops = true := fun h => by rw [envOf_fr, hN]; exact h
    have q0 := rectV_hi c a d 0 (by omega)
    have q1 := rectV_hi c a d 1 (by omega)
    have hl1 : (rectLo c a d).length = d := by simp [rectLo]
    have hl2 : (rectHi c a d).length = d := by simp [rectHi]
    have hw0 : IntKind.i64.wrap ((rectHi c a d).getD 0 default + 1) = (rectHi c a d).getD 0 default + 1 := i64_in _ (by omega)
    have hp : a + 6 * (d : Int) + 1 + 1 = a + 6 * d + 2 := by omega
    have t0 : Int.toNat 0 = 0 := rfl
    have t1 : Int.toNat 1 = 1 := rfl
    repeat' (first
      | exact True.intro
      | refine ev_seq ?_
      | ((first | refine endG_ret [(2, some 2101264), (3, some 3149840)] hE rfl ?_ | refine vgd_go ?_ | refine ev_region hE hM (hS (by decide +kernel)) ?_ | refine ev_if ?_ | refine end_ret hE rfl rfl ?_ | refine end_norm hE rfl rfl ?_ | refine endG_ret [] hE rfl ?_ | refine endG_norm [] hE rfl ?_ | refine vcallG_at (args := [.ptr 1 0, iT d]) 1 [] rfl hP (s_l1RectR c _ d hc (by omega) (by omega) (by omega) hd) ?_ | refine vcallG_at (args := [.ptr 1 0, iT 14]) 1 [] rfl hP (s_l1Next c _ 14 hc (by omega) (by omega) (by omega) (by omega)) ?_ | refine vcallG_at (args := [.ptr 1 0, .ref 40984]) 1 [40984] rfl hP (s_l1Pick c (a + 6 * d + 1) [1000, 1001, -1000] hc (by omega) (by omega) (by simp) (by simp)) ?_ | refine vcall_A ?_); simp (maxSteps := 2000000) only [go_sem, hP, ↓reduceIte, Nat.reduceAdd, Nat.reduceMul, Nat.reduceEqDiff, Nat.reduceSub, Nat.reduceLeDiff, reduceCtorEq, hp, List.length_map, List.length_set, hl1, hl2, hw0, t0, t1, Int.reduceBEq, hv])
      | refine ev_skip ?_ | refine ev_block ?_ | refine ev_blk ?_ | refine ev_ret ?_ | refine ev_exit ?_ | refine evx_code_ret ?_ | refine evx_blk_ret ?_ | refine evx_lp_ret ?_
      | refine evx_code_exit ?_ | refine evx_lp_exit ?_ | refine evx_blk_hit ?_ | refine evx_blk_pass (by decide) ?_
      | refine And.intro ?_ ?_ | intro _ | decide +kernel | omega)
    all_goals first
      | (exfalso; omega)
      | rfl
      | omega
      | (simp [List.map_set, List.map_drop, Es.strip_map]; done)
      | (simp [Es.strip_map]; exact ⟨fun _ _ => rfl, rfl⟩)
      | (rw [← strip_eI, List.map_set]; rfl)
      | (rw [List.take_of_length_le (by simp [hl2]), List.map_drop])
      | (rename_i h; exact h.symm)
      | trace_state
  exact satG_data (fz := [(2, .fro 1 ((rectLo c a d).map eI)), (3, .fro 1 (((rectHi c a d).set 1 (pk c (a + 6 * d + 1) [1000, 1001, -1000])).map eI))]) (fun κ h => by simp only [lk] at h; split at h <;> simp_all) trivial rfl h
theorem s_l1Bent4 (c : List Int) (a : Int) (d : Nat) (hc : codeOk c) (h0 : 0 ≤ a) (h1 : a ≤ 1073000000 - 100000) (hd0 : 2 ≤ d) (hd : d ≤ 100) (g0 : nx c (a + 6 * d) 14 ≠ 0) (g1 : nx c (a + 6 * d) 14 ≠ 1) (g2 : nx c (a + 6 * d) 14 ≠ 2) (g3 : nx c (a + 6 * d) 14 ≠ 3) : SatG Try.prog 150 false [.ptr 1 0, iT d] [(1, bSrc c a)] (.agg [.c (sI (bentV c a d).low), .c (sI (bentV c a d).high)]) [(1, bSrc c (bentA c a d))] := by
  have ev : bentV c a d = ⟨rectLo c a d, rectHi c a d⟩ := by unfold bentV; simp [g0, g1, g2, g3, rectV]
  have ea : bentA c a d = a + 6 * d + 1 := by unfold bentA; simp [g0, g3]
  rw [ev, ea]
  have h : SatG Try.prog 150 false [.ptr 1 0, iT d] [(1, bSrc c a)] (.agg [.ref 2, .ref 3]) ((1, bSrc c (a + 6 * d + 1)) :: [(2, .fro 1 ((rectLo c a d).map eI)), (3, .fro 1 ((rectHi c a d).map eI))]) := by
    refine satG_walk (fn := Try.f150) rfl rfl rfl (Nat.le_of_ble_eq_true rfl) (by simp) fun fr hP hN hdp hb1 hb2 => ?_
    have hE : (envOf fr Try.prog).Ok := envOf_ok hP
    have hM := follows_of hP
    have hS : ∀ {draw ops}, statB Try.f150.ntmps draw ops = true → statB (envOf fr Try.prog).fr.N draw ops = true := fun h => by rw [envOf_fr, hN]; exact h
    have q0 := rectV_hi c a d 0 (by omega)
    have q1 := rectV_hi c a d 1 (by omega)
    have hl1 : (rectLo c a d).length = d := by simp [rectLo]
    have hl2 : (rectHi c a d).length = d := by simp [rectHi]
    have hw0 : IntKind.i64.wrap ((rectHi c a d).getD 0 default + 1) = (rectHi c a d).getD 0 default + 1 := i64_in _ (by omega)
    have hp : a + 6 * (d : Int) + 1 + 1 = a + 6 * d + 2 := by omega
    have t0 : Int.toNat 0 = 0 := rfl
    have t1 : Int.toNat 1 = 1 := rfl
    have b0 : (nx c (a + 6 * d) 14 == 0) = false := beq_eq_false_iff_ne.2 g0
    have b1 : (nx c (a + 6 * d) 14 == 1) = false := beq_eq_false_iff_ne.2 g1
    have b2 : (nx c (a + 6 * d) 14 == 2) = false := beq_eq_false_iff_ne.2 g2
    have b3 : (nx c (a + 6 * d) 14 == 3) = false := beq_eq_false_iff_ne.2 g3
    repeat' (first
      | exact True.intro
      | refine ev_seq ?_
      | ((first | refine endG_ret [(2, some 2101264), (3, some 3149840)] hE rfl ?_ | refine vgd_go ?_ | refine ev_region hE hM (hS (by decide +kernel)) ?_ | refine ev_if ?_ | refine end_ret hE rfl rfl ?_ | refine end_norm hE rfl rfl ?_ | refine endG_ret [] hE rfl ?_ | refine endG_norm [] hE rfl ?_ | refine vcallG_at (args := [.ptr 1 0, iT d]) 1 [] rfl hP (s_l1RectR c _ d hc (by omega) (by omega) (by omega) hd) ?_ | refine vcallG_at (args := [.ptr 1 0, iT 14]) 1 [] rfl hP (s_l1Next c _ 14 hc (by omega) (by omega) (by omega) (by omega)) ?_ | refine vcall_A ?_); simp (maxSteps := 2000000) only [go_sem, hP, ↓reduceIte, Nat.reduceAdd, Nat.reduceMul, Nat.reduceEqDiff, Nat.reduceSub, Nat.reduceLeDiff, reduceCtorEq, hp, List.length_map, List.length_set, hl1, hl2, hw0, t0, t1, Int.reduceBEq, b0, b1, b2, b3])
      | refine ev_skip ?_ | refine ev_block ?_ | refine ev_blk ?_ | refine ev_ret ?_ | refine ev_exit ?_ | refine evx_code_ret ?_ | refine evx_blk_ret ?_ | refine evx_lp_ret ?_
      | refine evx_code_exit ?_ | refine evx_lp_exit ?_ | refine evx_blk_hit ?_ | refine evx_blk_pass (by decide) ?_
      | refine And.intro ?_ ?_ | intro _ | decide +kernel | omega)
    all_goals first
      | (exfalso; omega)
      | rfl
      | omega
      | (simp [List.map_set, List.map_drop, Es.strip_map]; done)
      | (simp [Es.strip_map]; exact ⟨fun _ _ => rfl, rfl⟩)
      | (rw [← strip_eI, List.map_set]; rfl)
      | (rw [List.take_of_length_le (by simp [hl2]), List.map_drop])
      | (rename_i h; exact h.symm)
      | trace_state
  exact satG_data (fz := [(2, .fro 1 ((rectLo c a d).map eI)), (3, .fro 1 ((rectHi c a d).map eI))]) (fun κ h => by simp only [lk] at h; split at h <;> simp_all) trivial rfl h
theorem s_l1Bent (c : List Int) (a : Int) (d : Nat) (hc : codeOk c) (h0 : 0 ≤ a) (h1 : a ≤ 1073000000 - 100000) (hd0 : 2 ≤ d) (hd : d ≤ 100) : SatG Try.prog 150 false [.ptr 1 0, iT d] [(1, bSrc c a)] (.agg [.c (sI (bentV c a d).low), .c (sI (bentV c a d).high)]) [(1, bSrc c (bentA c a d))] := by
  by_cases g0 : nx c (a + 6 * d) 14 = 0
  · exact s_l1Bent0 c a d hc h0 h1 hd0 hd g0
  · by_cases g1 : nx c (a + 6 * d) 14 = 1
    · exact s_l1Bent1 c a d hc h0 h1 hd0 hd g1
    · by_cases g2 : nx c (a + 6 * d) 14 = 2
      · exact s_l1Bent2 c a d hc h0 h1 hd0 hd g2
      · by_cases g3 : nx c (a + 6 * d) 14 = 3
        · exact s_l1Bent3 c a d hc h0 h1 hd0 hd g3
        · exact s_l1Bent4 c a d hc h0 h1 hd0 hd g0 g1 g2 g3
def d0 (c : List Int) : Nat := (pk c 0 [2, 2, 3]).toNat
theorem d0_in (c : List Int) : d0 c = 2 ∨ d0 c = 3 := by
  have := dims_in c 0
  unfold d0; omega
theorem d0_eq (c : List Int) : pk c 0 [2, 2, 3] = (d0 c : Int) := by
  have := dims_in c 0
  unfold d0; omega
def unA (c : List Int) : Rect := bentV c 1 (d0 c)
def unP (c : List Int) : Int := bentA c 1 (d0 c)
theorem unP_in (c : List Int) : 0 ≤ unP c ∧ unP c ≤ 100 := by
  have h1 := bentA_in c 1 (d0 c)
  have h2 := d0_in c
  unfold unP; omega
def unQ (c : List Int) : List Int := [(d0 c : Int), d0 c, d0 c, d0 c, d0 c, 2]
def d1 (c : List Int) : Nat := (pk c (unP c + 1) (unQ c)).toNat
theorem d1_mem (c : List Int) : pk c (unP c + 1) (unQ c) = d0 c ∨ pk c (unP c + 1) (unQ c) = 2 := by
  have h := pk_mem (c := c) (a := unP c + 1) (xs := unQ c) (by simp [unQ])
  simp only [unQ, List.mem_cons, List.not_mem_nil, or_false] at h
  rcases h with h | h | h | h | h | h <;> simp [unQ, h]
theorem d1_in (c : List Int) : d1 c = 2 ∨ d1 c = 3 := by
  have := d1_mem c
  have := d0_in c
  unfold d1; omega
theorem d1_eq (c : List Int) : pk c (unP c + 1) (unQ c) = (d1 c : Int) := by
  have := d1_mem c
  have := d0_in c
  unfold d1; omega
def unB (c : List Int) : Rect :=
  if nx c (unP c) 4 = 0 ∧ rf (unA c) (d0 c) = 0 then ⟨(unA c).low, (unA c).high.set 0 (min ((unA c).high.getD 0 default + pk c (unP c + 1) [0, 1, 5]) 1000)⟩
  else bentV c (unP c + 2) (d1 c)
def dsN (c : List Int) : List Int := [((unA c).low.length : Int), (unA c).low.length, (unA c).low.length, 2]
def d2 (c : List Int) : Nat := (pk c 12 (dsN c)).toNat
theorem unA_low (c : List Int) : (unA c).low.length = d0 c ∨ (unA c).low.length = d0 c + 1 := by
  unfold unA bentV rectV
  (repeat' split) <;> simp [rectLo]
theorem d2_mem (c : List Int) : pk c 12 (dsN c) = (unA c).low.length ∨ pk c 12 (dsN c) = 2 := by
  have h := pk_mem (c := c) (a := 12) (xs := dsN c) (by simp [dsN])
  simp only [dsN, List.mem_cons, List.not_mem_nil, or_false] at h
  rcases h with h | h | h | h <;> simp [dsN, h]
theorem d2_eq (c : List Int) : pk c 12 (dsN c) = (d2 c : Int) := by
  have := d2_mem c
  unfold d2; omega
theorem d2_in (c : List Int) : 2 ≤ d2 c ∧ d2 c ≤ 4 := by
  have h1 := d2_mem c
  have h2 := unA_low c
  have h3 := d0_in c
  unfold d2; omega
def dsP (c : List Int) : List Int := pointV c 13 (d2 c)
theorem pf_iff {xs : List Int} {d : Int} : pf xs d = 0 ↔ 2 ≤ d ∧ d ≤ 3 ∧ (xs.length : Int) = d ∧ ∀ k, k < xs.length → -1000 ≤ xs.getD k default ∧ xs.getD k default ≤ 1000 := by
  constructor
  · intro h
    have h1 := pf_len h
    have h2 : inB d 2 3 = true := by unfold pf at h; (repeat' split at h) <;> simp_all
    simp [inB] at h2
    exact ⟨by omega, by omega, h1, fun k hk => pf_at h k hk⟩
  · rintro ⟨h1, h2, h3, h4⟩
    have ha : xs.all (inB · (-1000) 1000) = true := by
      rw [List.all_eq_true]
      intro x hx
      obtain ⟨k, hk, rfl⟩ := List.mem_iff_getElem.1 hx
      have := h4 k hk
      rw [getD_lt hk] at this
      simpa [inB] using this
    have hb : inB d 2 3 = true := by simp [inB]; omega
    unfold pf
    simp [ha, hb, h3]
theorem rf_iff {r : Rect} {d : Int} : rf r d = 0 ↔ 2 ≤ d ∧ d ≤ 3 ∧ (r.low.length : Int) = d ∧ (r.high.length : Int) = d ∧ ∀ k, k < r.low.length → -1000 ≤ r.low.getD k default ∧ r.low.getD k default ≤ r.high.getD k default ∧ r.high.getD k default ≤ 1000 := by
  constructor
  · intro h
    have h1 := rf_len h
    have h2 : pf r.low d = 0 := by unfold rf at h; split at h <;> simp_all
    have h3 := pf_iff.1 h2
    exact ⟨h3.1, h3.2.1, h1.1, h1.2, fun k hk => rf_at h k hk⟩
  · rintro ⟨h1, h2, h3, h4, h5⟩
    have e1 : pf r.low d = 0 := pf_iff.2 ⟨h1, h2, h3, fun k hk => by have := h5 k hk; omega⟩
    have e2 : pf r.high d = 0 := pf_iff.2 ⟨h1, h2, h4, fun k hk => by have := h5 k (by omega); omega⟩
    have e3 : lowHigh r = true := allLt_iff.2 fun k hk => by have := h5 k hk; simpa using this.2.1
    unfold rf
    rw [if_neg (by simpa using e1), if_neg (by simpa using e2), if_pos e3]
theorem two_iff {a b : Rect} : two a b = 0 ↔ rf a a.low.length = 0 ∧ rf b a.low.length = 0 := by
  unfold two
  split <;> simp_all
theorem un_at {a b : Rect} {k : Nat} (hk : k < a.low.length) : (un a b).low.getD k default = min (a.low.getD k default) (b.low.getD k default) ∧ (un a b).high.getD k default = max (a.high.getD k default) (b.high.getD k default) := by
  have h1 : k < (un a b).low.length := by simp [un]; exact hk
  have h2 : k < (un a b).high.length := by simp [un]; exact hk
  rw [getD_lt h1, getD_lt h2]
  simp [un]
theorem covers_iff {a b : Rect} : covers a b = true ↔ ∀ k, k < a.low.length → a.low.getD k default ≤ b.low.getD k default ∧ b.high.getD k default ≤ a.high.getD k default := by
  unfold covers
  rw [allLt_iff]
  refine forall_congr' fun k => forall_congr' fun _ => ?_
  simp [coversAt]
theorem meets_iff {a b : Rect} : meets a b = true ↔ ∀ k, k < a.low.length → a.low.getD k default ≤ b.high.getD k default ∧ b.low.getD k default ≤ a.high.getD k default := by
  unfold meets
  rw [allLt_iff]
  refine forall_congr' fun k => forall_congr' fun _ => ?_
  simp [meetsAt]
theorem un_low_len (a b : Rect) : (un a b).low.length = a.low.length := by simp [un]
theorem rf_un {a b : Rect} (h : two a b = 0) : rf (un a b) a.low.length = 0 := by
  obtain ⟨h1, h2⟩ := two_iff.1 h
  obtain ⟨a1, a2, a3, a4, a5⟩ := rf_iff.1 h1
  obtain ⟨b1, b2, b3, b4, b5⟩ := rf_iff.1 h2
  refine rf_iff.2 ⟨a1, a2, by rw [un_low_len], by rw [un_len, un_low_len], fun k hk => ?_⟩
  rw [un_low_len] at hk
  have e := un_at (b := b) hk
  have := a5 k hk
  have := b5 k (by omega)
  omega
theorem two_un_left {a b : Rect} (h : two a b = 0) : two (un a b) a = 0 ∧ covers (un a b) a = true := by
  obtain ⟨h1, h2⟩ := two_iff.1 h
  refine ⟨two_iff.2 ⟨by rw [un_low_len]; exact rf_un h, by rw [un_low_len]; exact h1⟩, covers_iff.2 fun k hk => ?_⟩
  rw [un_low_len] at hk
  have e := un_at (b := b) hk
  omega
theorem two_un_right {a b : Rect} (h : two a b = 0) : two (un a b) b = 0 ∧ covers (un a b) b = true := by
  obtain ⟨h1, h2⟩ := two_iff.1 h
  refine ⟨two_iff.2 ⟨by rw [un_low_len]; exact rf_un h, by rw [un_low_len]; exact h2⟩, covers_iff.2 fun k hk => ?_⟩
  rw [un_low_len] at hk
  have e := un_at (b := b) hk
  omega
theorem two_symm {a b : Rect} (h : two a b = 0) : two b a = 0 := by
  obtain ⟨h1, h2⟩ := two_iff.1 h
  have := rf_len h2
  exact two_iff.2 ⟨by rw [this.1]; exact h2, by rw [this.1]; exact h1⟩
theorem list_getD_ext {xs ys : List Int} (hl : xs.length = ys.length) (h : ∀ k, k < xs.length → xs.getD k default = ys.getD k default) : xs = ys := by
  refine List.ext_getElem hl fun k h1 h2 => ?_
  have := h k h1
  rwa [getD_lt h1, getD_lt h2] at this
theorem rect_ext {a b : Rect} (h1 : a.low.length = b.low.length) (h2 : a.high.length = b.high.length) (h3 : a.high.length = a.low.length) (h : ∀ k, k < a.low.length → a.low.getD k default = b.low.getD k default ∧ a.high.getD k default = b.high.getD k default) : a = b := by
  have e1 := list_getD_ext h1 fun k hk => (h k hk).1
  have e2 := list_getD_ext h2 fun k hk => (h k (by omega)).2
  cases a; cases b; simp_all
theorem un_symm {a b : Rect} (h : two a b = 0) : un b a = un a b := by
  have l := two_lens h
  refine rect_ext (by rw [un_low_len, un_low_len]; exact l.h2) (by rw [un_len, un_len, un_low_len, un_low_len]; exact l.h2) (by rw [un_len]) fun k hk => ?_
  rw [un_low_len] at hk
  have e1 := un_at (a := b) (b := a) hk
  have e2 := un_at (a := a) (b := b) (k := k) (by have := l.h2; omega)
  omega
theorem meets_symm {a b : Rect} (h : two a b = 0) : meets b a = meets a b := by
  have l := two_lens h
  rw [Bool.eq_iff_iff, meets_iff, meets_iff, l.h2]
  exact forall_congr' fun k => forall_congr' fun _ => ⟨fun h => ⟨h.2, h.1⟩, fun h => ⟨h.2, h.1⟩⟩
theorem covers_meets {a b : Rect} (h : two a b = 0) (hc : covers a b = true) : meets a b = true ∧ un a b = a := by
  have f := two_fit h
  have l := f.l
  have c := covers_iff.1 hc
  refine ⟨meets_iff.2 fun k hk => ?_, rect_ext (un_low_len a b) (by rw [un_len, un_low_len]; exact l.h1.symm) (un_len a b) fun k hk => ?_⟩
  · have := c k hk
    have := f.b1 k hk
    omega
  · rw [un_low_len] at hk
    have e := un_at (b := b) hk
    have := c k hk
    omega
theorem wf_u8 {n : Int} (h : (Lit.int .u8 n).wf = true) : 0 ≤ n ∧ n < 256 := by
  simp [Lit.wf, IntKind.has, IntKind.min, IntKind.max, IntKind.signed, IntKind.bits] at h
  omega
theorem shp_Y {n t : Nat} {cs : List C} (ht : Try.prog.underlying t = some (.slice 5)) (h : shp Try.prog (n + 2) t cs) : ∃ xs : List Int, cs = [sY xs] ∧ ∀ b ∈ xs, 0 ≤ b ∧ b < 256 := by
  obtain ⟨xs, rfl, _, h2⟩ := shp_rows (f := eY) (q := fun b => 0 ≤ b ∧ b < 256) (sz := 1) ht rfl (fun x hx => by
    simp only [shp] at hx
    obtain ⟨m, hm, hw⟩ := hx
    exact ⟨m, hm, wf_u8 hw⟩) h
  exact ⟨xs, rfl, h2⟩
theorem s_lwBig (c : List Int) : Sat Try.prog 39 [aY c] true (rB (decide (1048576 < c.length))) := by
  refine sat_walk (fn := Try.f39) rfl rfl rfl (Nat.le_of_ble_eq_true rfl) fun fr hP hN hbnd => ?_
  have hE : (envOf fr Try.prog).Ok := envOf_ok hP
  have hM := follows_of hP
  have hS : ∀ {draw ops}, statB Try.f39.ntmps draw ops = true → statB (envOf fr Try.prog).fr.N draw ops = true := fun h => by rw [envOf_fr, hN]; exact h
  have e : decide ((1048576 : Int) < (c.length : Int)) = decide (1048576 < c.length) := by simp; omega
  repeat' (first
    | exact True.intro
    | refine ev_seq ?_
    | ((first | refine vgd_go ?_ | refine ev_region hE hM (hS (by decide +kernel)) ?_ | refine ev_if ?_ | refine end_ret hE rfl rfl ?_ | refine end_norm hE rfl rfl ?_ | refine endG_ret [] hE rfl ?_ | refine endG_norm [] hE rfl ?_ | refine vcall_A ?_); simp (maxSteps := 2000000) only [go_sem, hP, ↓reduceIte, Nat.reduceAdd, Nat.reduceMul, Nat.reduceEqDiff, Nat.reduceSub, Nat.reduceLeDiff, reduceCtorEq, List.length_map, e])
    | refine ev_skip ?_ | refine ev_block ?_ | refine ev_blk ?_ | refine ev_ret ?_ | refine ev_exit ?_ | refine evx_code_ret ?_ | refine evx_blk_ret ?_ | refine evx_lp_ret ?_
    | refine evx_code_exit ?_ | refine evx_lp_exit ?_ | refine evx_blk_hit ?_ | refine evx_blk_pass (by decide) ?_
    | refine And.intro ?_ ?_ | intro _ | decide +kernel | omega)
theorem eqInts_self (ns : List Int) : eqInts ns ns = true := by
  induction ns with
  | nil => rfl
  | cons n ns ih => simp [eqInts, ih]
section
variable {c : Cx} {i : Nat} {dst : Option Nat} {rest : List Oper} {acc : List (List Nat × List Nat)} {st : St} {P : Program} {t : Nat} {x y : T}
theorem vbin_ne (ns : List Int) (hP : c.E.fr.P = P) (ht : intsTy P t ns.length = true) (hx : x = .agg (ns.map fun n => .c (.int .i64 n))) (hy : y = .agg (ns.map fun n => .c (.int .i64 n)))
    (h : vops c (i + 1) rest (([], keysE ⟨.c (.bool false), [], []⟩) :: acc) (app st dst ⟨.c (.bool false), [], []⟩)) : vbin c i dst rest acc st .neq t x y := vbin_of ns ns false hP ht hx hy rfl (by rw [eqInts_self]; rfl) h
theorem vbin_eq (ns : List Int) (hP : c.E.fr.P = P) (ht : intsTy P t ns.length = true) (hx : x = .agg (ns.map fun n => .c (.int .i64 n))) (hy : y = .agg (ns.map fun n => .c (.int .i64 n)))
    (h : vops c (i + 1) rest (([], keysE ⟨.c (.bool true), [], []⟩) :: acc) (app st dst ⟨.c (.bool true), [], []⟩)) : vbin c i dst rest acc st .eql t x y := vbin_of ns ns true hP ht hx hy rfl (by rw [eqInts_self]; rfl) h
end
/-- How many numbers an entry takes. -/
def lw (d : Nat) (leaf : Bool) : Int := if leaf then 6 * d + 1 else 6 * d + 2
def entV (c : List Int) (p : Int) (d : Nat) (leaf : Bool) : Entry := ⟨rectV c p d, nx c (p + 6 * d) 30, if leaf then 0 else nx c (p + 6 * d + 1) 9⟩
def listV (c : List Int) (a : Int) (d : Nat) (leaf : Bool) : Nat → List Entry
  | 0 => []
  | k + 1 => if findRef (listV c a d leaf k) (entV c (a + lw d leaf * k) d leaf).ref < 0 then listV c a d leaf k ++ [entV c (a + lw d leaf * k) d leaf] else listV c a d leaf k
theorem listV_len (c : List Int) (a : Int) (d : Nat) (leaf : Bool) : ∀ k, (listV c a d leaf k).length ≤ k
  | 0 => Nat.le_refl 0
  | k + 1 => by
    have := listV_len c a d leaf k
    simp only [listV]
    split
    · simp; omega
    · omega
theorem s_l3ListT (c : List Int) (a : Int) (d n : Nat) (hc : codeOk c) (h0 : 0 ≤ a) (h1 : a ≤ 1072000000) (hd0 : 0 < d) (hd : d ≤ 100) (hn : n ≤ 100) : SatG Try.prog 248 false [.ptr 1 0, iT d, iT n, .c (.bool true)] [(1, bSrc c a)] (.ref 2) [(1, bSrc c (a + (6 * d + 1) * n)), (2, .arr true 85 4 ((listV c a d true n).map oEntry))] := by
  refine satG_walk (fn := Try.f248) rfl rfl rfl (Nat.le_of_ble_eq_true rfl) (by simp) fun fr hP hN hdp hb1 hb2 => ?_
  have hE : (envOf fr Try.prog).Ok := envOf_ok hP
  have hM := follows_of hP
  have hS : ∀ {draw ops}, statB Try.f248.ntmps draw ops = true → statB (envOf fr Try.prog).fr.N draw ops = true := fun h => by rw [envOf_fr, hN]; exact h
  repeat' (first
    | exact True.intro
    | refine ev_seq ?_
    | ((first | refine vgd_go ?_ | refine ev_region hE hM (hS (by decide +kernel)) ?_ | refine ev_if ?_ | refine end_ret hE rfl rfl ?_ | refine end_norm hE rfl rfl ?_ | refine endG_ret [] hE rfl ?_ | refine endG_norm [] hE rfl ?_ | refine vcall_A ?_); simp (maxSteps := 2000000) only [go_sem, hP, ↓reduceIte, Nat.reduceAdd, Nat.reduceMul, Nat.reduceEqDiff, Nat.reduceSub, Nat.reduceLeDiff, reduceCtorEq])
    | refine ev_skip ?_ | refine ev_block ?_ | refine ev_blk ?_ | refine ev_ret ?_ | refine ev_exit ?_ | refine evx_code_ret ?_ | refine evx_blk_ret ?_ | refine evx_lp_ret ?_
    | refine evx_code_exit ?_ | refine evx_lp_exit ?_ | refine evx_blk_hit ?_ | refine evx_blk_pass (by decide) ?_
    | refine And.intro ?_ ?_ | intro _ | decide +kernel | omega)
  refine ev_loop (ι := Nat) (fun k => [(0, .ptr 1 0), (1, iT d), (2, iT ((n - k : Nat) : Int)), (3, .c (.bool true)), (9, .ref 100000)]) (fun k => [(1, bSrc c (a + (6 * d + 1) * k)), (100000, .arr true 85 4 ((listV c a d true k).map oEntry))]) (fun _ => [(0, .ref 1)]) (fun k => k ≤ n) (fun k => n - k) 0 [(100000, some 4096)] (by omega) (by simp only [go_sem, hP, ↓reduceIte, Nat.reduceAdd, Nat.reduceMul, Nat.reduceEqDiff, Nat.reduceSub, Nat.reduceLeDiff, reduceCtorEq]; simp [listV]) ?_
  intro k hk
  have hl := listV_len c a d true k
  have hp : (6 * (d : Int) + 1) * k ≤ 601 * 100 := Int.mul_le_mul (by omega) (by omega) (by omega) (by omega)
  have hp0 : 0 ≤ (6 * (d : Int) + 1) * k := Int.mul_nonneg (by omega) (by omega)
  have hnx : a + (6 * (d : Int) + 1) * k + 6 * d + 1 = a + (6 * d + 1) * (k + 1) := by rw [Int.mul_add]; omega
  have hlw : lw d true = 6 * d + 1 := rfl
  by_cases hlt : k < n
  · have hw1 : IntKind.i64.wrap (((n - k : Nat) : Int) - 1) = ((n - (k + 1) : Nat) : Int) := by rw [i64_in _ (by omega)]; omega
    have hg : decide ((0 : Int) < ((n - k : Nat) : Int)) = true := by simp; omega
    generalize hpp : a + (6 * (d : Int) + 1) * k = p at *
    have he : entV c (a + lw d true * k) d true = ⟨rectV c p d, nx c (p + 6 * d) 30, 0⟩ := by rw [hlw, hpp]; rfl
    by_cases hf : findRef (listV c a d true k) (nx c (p + 6 * d) 30) < 0
    · have hf' : decide (findRef (listV c a d true k) (nx c (p + 6 * d) 30) < 0) = true := by simpa using hf
      have hst : listV c a d true (k + 1) = listV c a d true k ++ [⟨rectV c p d, nx c (p + 6 * d) 30, 0⟩] := by simp only [listV]; rw [he, if_pos hf]
      generalize listV c a d true k = ys at *
      repeat' (first
        | exact True.intro
        | refine ev_seq ?_
        | ((first | refine vgd_go ?_ | refine ev_region hE hM (hS (by decide +kernel)) ?_ | refine ev_if ?_ | refine end_ret hE rfl rfl ?_ | refine end_norm hE rfl rfl ?_ | refine endG_ret [] hE rfl ?_ | refine endG_norm [] hE rfl ?_ | refine vcallG_at (args := [.ptr 1 0, iT d]) 1 [] rfl hP (s_l1RectR c p d hc (by omega) (by omega) hd0 hd) ?_ | refine vcallG_at (args := [.ptr 1 0, iT 30]) 1 [] rfl hP (s_l1Next c _ 30 hc (by omega) (by omega) (by omega) (by omega)) ?_ | refine vcallB_of hP (s_l3Find ys (nx c (p + 6 * d) 30)) ?_ | refine vcall_A ?_); simp (maxSteps := 2000000) only [go_sem, hP, ↓reduceIte, Nat.reduceAdd, Nat.reduceMul, Nat.reduceEqDiff, Nat.reduceSub, Nat.reduceLeDiff, reduceCtorEq, hg, hf', Bool.and_self, List.length_map])
        | refine ev_skip ?_ | refine ev_block ?_ | refine ev_blk ?_ | refine ev_ret ?_ | refine ev_exit ?_ | refine evx_code_ret ?_ | refine evx_blk_ret ?_ | refine evx_lp_ret ?_
        | refine evx_code_exit ?_ | refine evx_lp_exit ?_ | refine evx_blk_hit ?_ | refine evx_blk_pass (by decide) ?_
        | refine And.intro ?_ ?_ | intro _ | decide +kernel | omega)
      all_goals first
        | exact ev_lp (k + 1) [(100000, some 32792)] (by omega) (by omega) (by simp only [go_sem, hP, ↓reduceIte, Nat.reduceAdd, Nat.reduceMul, Nat.reduceEqDiff, Nat.reduceSub, Nat.reduceLeDiff, reduceCtorEq]; rw [hst]; simp [hw1, hnx, oEntry_eq, rectV])
        | (exfalso; omega)
        | omega
        | (simp_all; done)
    · have hf' : decide (findRef (listV c a d true k) (nx c (p + 6 * d) 30) < 0) = false := by simpa using hf
      have hst : listV c a d true (k + 1) = listV c a d true k := by simp only [listV]; rw [he, if_neg hf]
      generalize listV c a d true k = ys at *
      repeat' (first
        | exact True.intro
        | refine ev_seq ?_
        | ((first | refine vgd_go ?_ | refine ev_region hE hM (hS (by decide +kernel)) ?_ | refine ev_if ?_ | refine end_ret hE rfl rfl ?_ | refine end_norm hE rfl rfl ?_ | refine endG_ret [] hE rfl ?_ | refine endG_norm [] hE rfl ?_ | refine vcallG_at (args := [.ptr 1 0, iT d]) 1 [] rfl hP (s_l1RectR c p d hc (by omega) (by omega) hd0 hd) ?_ | refine vcallG_at (args := [.ptr 1 0, iT 30]) 1 [] rfl hP (s_l1Next c _ 30 hc (by omega) (by omega) (by omega) (by omega)) ?_ | refine vcallB_of hP (s_l3Find ys (nx c (p + 6 * d) 30)) ?_ | refine vcall_A ?_); simp (maxSteps := 2000000) only [go_sem, hP, ↓reduceIte, Nat.reduceAdd, Nat.reduceMul, Nat.reduceEqDiff, Nat.reduceSub, Nat.reduceLeDiff, reduceCtorEq, hg, hf', Bool.and_self, List.length_map])
        | refine ev_skip ?_ | refine ev_block ?_ | refine ev_blk ?_ | refine ev_ret ?_ | refine ev_exit ?_ | refine evx_code_ret ?_ | refine evx_blk_ret ?_ | refine evx_lp_ret ?_
        | refine evx_code_exit ?_ | refine evx_lp_exit ?_ | refine evx_blk_hit ?_ | refine evx_blk_pass (by decide) ?_
        | refine And.intro ?_ ?_ | intro _ | decide +kernel | omega)
      all_goals first
        | exact ev_lp (k + 1) [(100000, some 100000)] (by omega) (by omega) (by simp only [go_sem, hP, ↓reduceIte, Nat.reduceAdd, Nat.reduceMul, Nat.reduceEqDiff, Nat.reduceSub, Nat.reduceLeDiff, reduceCtorEq]; rw [hst]; simp [hw1, hnx])
        | (exfalso; omega)
        | omega
        | (simp_all; done)
  · have hke : k = n := by omega
    subst hke
    have hg : decide ((0 : Int) < ((k - k : Nat) : Int)) = false := by simp
    repeat' (first
      | exact True.intro
      | refine ev_seq ?_
      | ((first | refine endG_ret [(2, some 100000)] hE rfl ?_ | refine vgd_go ?_ | refine ev_region hE hM (hS (by decide +kernel)) ?_ | refine ev_if ?_ | refine end_ret hE rfl rfl ?_ | refine end_norm hE rfl rfl ?_ | refine endG_ret [] hE rfl ?_ | refine endG_norm [] hE rfl ?_ | refine vcall_A ?_); simp (maxSteps := 2000000) only [go_sem, hP, ↓reduceIte, Nat.reduceAdd, Nat.reduceMul, Nat.reduceEqDiff, Nat.reduceSub, Nat.reduceLeDiff, reduceCtorEq, hg])
      | refine ev_skip ?_ | refine ev_block ?_ | refine ev_blk ?_ | refine ev_ret ?_ | refine ev_exit ?_ | refine evx_code_ret ?_ | refine evx_blk_ret ?_ | refine evx_lp_ret ?_
      | refine evx_code_exit ?_ | refine evx_lp_exit ?_ | refine evx_blk_hit ?_ | refine evx_blk_pass (by decide) ?_
      | refine And.intro ?_ ?_ | intro _ | decide +kernel | omega)
    all_goals first
      | (exfalso; omega)
      | (simp_all; done)
theorem s_l3ListF (c : List Int) (a : Int) (d n : Nat) (hc : codeOk c) (h0 : 0 ≤ a) (h1 : a ≤ 1072000000) (hd0 : 0 < d) (hd : d ≤ 100) (hn : n ≤ 100) : SatG Try.prog 248 false [.ptr 1 0, iT d, iT n, .c (.bool false)] [(1, bSrc c a)] (.ref 2) [(1, bSrc c (a + (6 * d + 2) * n)), (2, .arr true 85 4 ((listV c a d false n).map oEntry))] := by
  refine satG_walk (fn := Try.f248) rfl rfl rfl (Nat.le_of_ble_eq_true rfl) (by simp) fun fr hP hN hdp hb1 hb2 => ?_
  have hE : (envOf fr Try.prog).Ok := envOf_ok hP
  have hM := follows_of hP
  have hS : ∀ {draw ops}, statB Try.f248.ntmps draw ops = true → statB (envOf fr Try.prog).fr.N draw ops = true := fun h => by rw [envOf_fr, hN]; exact h
  repeat' (first
    | exact True.intro
    | refine ev_seq ?_
    | ((first | refine vgd_go ?_ | refine ev_region hE hM (hS (by decide +kernel)) ?_ | refine ev_if ?_ | refine end_ret hE rfl rfl ?_ | refine end_norm hE rfl rfl ?_ | refine endG_ret [] hE rfl ?_ | refine endG_norm [] hE rfl ?_ | refine vcall_A ?_); simp (maxSteps := 2000000) only [go_sem, hP, ↓reduceIte, Nat.reduceAdd, Nat.reduceMul, Nat.reduceEqDiff, Nat.reduceSub, Nat.reduceLeDiff, reduceCtorEq])
    | refine ev_skip ?_ | refine ev_block ?_ | refine ev_blk ?_ | refine ev_ret ?_ | refine ev_exit ?_ | refine evx_code_ret ?_ | refine evx_blk_ret ?_ | refine evx_lp_ret ?_
    | refine evx_code_exit ?_ | refine evx_lp_exit ?_ | refine evx_blk_hit ?_ | refine evx_blk_pass (by decide) ?_
    | refine And.intro ?_ ?_ | intro _ | decide +kernel | omega)
  refine ev_loop (ι := Nat) (fun k => [(0, .ptr 1 0), (1, iT d), (2, iT ((n - k : Nat) : Int)), (3, .c (.bool false)), (9, .ref 100000)]) (fun k => [(1, bSrc c (a + (6 * d + 2) * k)), (100000, .arr true 85 4 ((listV c a d false k).map oEntry))]) (fun _ => [(0, .ref 1)]) (fun k => k ≤ n) (fun k => n - k) 0 [(100000, some 4096)] (by omega) (by simp only [go_sem, hP, ↓reduceIte, Nat.reduceAdd, Nat.reduceMul, Nat.reduceEqDiff, Nat.reduceSub, Nat.reduceLeDiff, reduceCtorEq]; simp [listV]) ?_
  intro k hk
  have hl := listV_len c a d false k
  have hp : (6 * (d : Int) + 2) * k ≤ 602 * 100 := Int.mul_le_mul (by omega) (by omega) (by omega) (by omega)
  have hp0 : 0 ≤ (6 * (d : Int) + 2) * k := Int.mul_nonneg (by omega) (by omega)
  have hnx : a + (6 * (d : Int) + 2) * k + 6 * d + 1 + 1 = a + (6 * d + 2) * (k + 1) := by rw [Int.mul_add]; omega
  have hlw : lw d false = 6 * d + 2 := rfl
  by_cases hlt : k < n
  · have hw1 : IntKind.i64.wrap (((n - k : Nat) : Int) - 1) = ((n - (k + 1) : Nat) : Int) := by rw [i64_in _ (by omega)]; omega
    have hg : decide ((0 : Int) < ((n - k : Nat) : Int)) = true := by simp; omega
    generalize hpp : a + (6 * (d : Int) + 2) * k = p at *
    have he : entV c (a + lw d false * k) d false = ⟨rectV c p d, nx c (p + 6 * d) 30, nx c (p + 6 * d + 1) 9⟩ := by rw [hlw, hpp]; rfl
    by_cases hf : findRef (listV c a d false k) (nx c (p + 6 * d) 30) < 0
    · have hf' : decide (findRef (listV c a d false k) (nx c (p + 6 * d) 30) < 0) = true := by simpa using hf
      have hst : listV c a d false (k + 1) = listV c a d false k ++ [⟨rectV c p d, nx c (p + 6 * d) 30, nx c (p + 6 * d + 1) 9⟩] := by simp only [listV]; rw [he, if_pos hf]
      generalize listV c a d false k = ys at *
      repeat' (first
        | exact True.intro
        | refine ev_seq ?_
        | ((first | refine vgd_go ?_ | refine ev_region hE hM (hS (by decide +kernel)) ?_ | refine ev_if ?_ | refine end_ret hE rfl rfl ?_ | refine end_norm hE rfl rfl ?_ | refine endG_ret [] hE rfl ?_ | refine endG_norm [] hE rfl ?_ | refine vcallG_at (args := [.ptr 1 0, iT d]) 1 [] rfl hP (s_l1RectR c p d hc (by omega) (by omega) hd0 hd) ?_ | refine vcallG_at (args := [.ptr 1 0, iT 30]) 1 [] rfl hP (s_l1Next c _ 30 hc (by omega) (by omega) (by omega) (by omega)) ?_ | refine vcallG_at (args := [.ptr 1 0, iT 9]) 1 [] rfl hP (s_l1Next c _ 9 hc (by omega) (by omega) (by omega) (by omega)) ?_ | refine vcallB_of hP (s_l3Find ys (nx c (p + 6 * d) 30)) ?_ | refine vcall_A ?_); simp (maxSteps := 2000000) only [go_sem, hP, ↓reduceIte, Nat.reduceAdd, Nat.reduceMul, Nat.reduceEqDiff, Nat.reduceSub, Nat.reduceLeDiff, reduceCtorEq, hg, hf', Bool.and_self, List.length_map])
        | refine ev_skip ?_ | refine ev_block ?_ | refine ev_blk ?_ | refine ev_ret ?_ | refine ev_exit ?_ | refine evx_code_ret ?_ | refine evx_blk_ret ?_ | refine evx_lp_ret ?_
        | refine evx_code_exit ?_ | refine evx_lp_exit ?_ | refine evx_blk_hit ?_ | refine evx_blk_pass (by decide) ?_
        | refine And.intro ?_ ?_ | intro _ | decide +kernel | omega)
      all_goals first
        | exact ev_lp (k + 1) [(100000, some 32792)] (by omega) (by omega) (by simp only [go_sem, hP, ↓reduceIte, Nat.reduceAdd, Nat.reduceMul, Nat.reduceEqDiff, Nat.reduceSub, Nat.reduceLeDiff, reduceCtorEq]; rw [hst]; simp [hw1, hnx, oEntry_eq, rectV])
        | (exfalso; omega)
        | omega
        | (simp_all; done)
    · have hf' : decide (findRef (listV c a d false k) (nx c (p + 6 * d) 30) < 0) = false := by simpa using hf
      have hst : listV c a d false (k + 1) = listV c a d false k := by simp only [listV]; rw [he, if_neg hf]
      generalize listV c a d false k = ys at *
      repeat' (first
        | exact True.intro
        | refine ev_seq ?_
        | ((first | refine vgd_go ?_ | refine ev_region hE hM (hS (by decide +kernel)) ?_ | refine ev_if ?_ | refine end_ret hE rfl rfl ?_ | refine end_norm hE rfl rfl ?_ | refine endG_ret [] hE rfl ?_ | refine endG_norm [] hE rfl ?_ | refine vcallG_at (args := [.ptr 1 0, iT d]) 1 [] rfl hP (s_l1RectR c p d hc (by omega) (by omega) hd0 hd) ?_ | refine vcallG_at (args := [.ptr 1 0, iT 30]) 1 [] rfl hP (s_l1Next c _ 30 hc (by omega) (by omega) (by omega) (by omega)) ?_ | refine vcallG_at (args := [.ptr 1 0, iT 9]) 1 [] rfl hP (s_l1Next c _ 9 hc (by omega) (by omega) (by omega) (by omega)) ?_ | refine vcallB_of hP (s_l3Find ys (nx c (p + 6 * d) 30)) ?_ | refine vcall_A ?_); simp (maxSteps := 2000000) only [go_sem, hP, ↓reduceIte, Nat.reduceAdd, Nat.reduceMul, Nat.reduceEqDiff, Nat.reduceSub, Nat.reduceLeDiff, reduceCtorEq, hg, hf', Bool.and_self, List.length_map])
        | refine ev_skip ?_ | refine ev_block ?_ | refine ev_blk ?_ | refine ev_ret ?_ | refine ev_exit ?_ | refine evx_code_ret ?_ | refine evx_blk_ret ?_ | refine evx_lp_ret ?_
        | refine evx_code_exit ?_ | refine evx_lp_exit ?_ | refine evx_blk_hit ?_ | refine evx_blk_pass (by decide) ?_
        | refine And.intro ?_ ?_ | intro _ | decide +kernel | omega)
      all_goals first
        | exact ev_lp (k + 1) [(100000, some 100000)] (by omega) (by omega) (by simp only [go_sem, hP, ↓reduceIte, Nat.reduceAdd, Nat.reduceMul, Nat.reduceEqDiff, Nat.reduceSub, Nat.reduceLeDiff, reduceCtorEq]; rw [hst]; simp [hw1, hnx])
        | (exfalso; omega)
        | omega
        | (simp_all; done)
  · have hke : k = n := by omega
    subst hke
    have hg : decide ((0 : Int) < ((k - k : Nat) : Int)) = false := by simp
    repeat' (first
      | exact True.intro
      | refine ev_seq ?_
      | ((first | refine endG_ret [(2, some 100000)] hE rfl ?_ | refine vgd_go ?_ | refine ev_region hE hM (hS (by decide +kernel)) ?_ | refine ev_if ?_ | refine end_ret hE rfl rfl ?_ | refine end_norm hE rfl rfl ?_ | refine endG_ret [] hE rfl ?_ | refine endG_norm [] hE rfl ?_ | refine vcall_A ?_); simp (maxSteps := 2000000) only [go_sem, hP, ↓reduceIte, Nat.reduceAdd, Nat.reduceMul, Nat.reduceEqDiff, Nat.reduceSub, Nat.reduceLeDiff, reduceCtorEq, hg])
      | refine ev_skip ?_ | refine ev_block ?_ | refine ev_blk ?_ | refine ev_ret ?_ | refine ev_exit ?_ | refine evx_code_ret ?_ | refine evx_blk_ret ?_ | refine evx_lp_ret ?_
      | refine evx_code_exit ?_ | refine evx_lp_exit ?_ | refine evx_blk_hit ?_ | refine evx_blk_pass (by decide) ?_
      | refine And.intro ?_ ?_ | intro _ | decide +kernel | omega)
    all_goals first
      | (exfalso; omega)
      | (simp_all; done)
theorem s_l3List (c : List Int) (a : Int) (d n : Nat) (leaf : Bool) (hc : codeOk c) (h0 : 0 ≤ a) (h1 : a ≤ 1072000000) (hd0 : 0 < d) (hd : d ≤ 100) (hn : n ≤ 100) : SatG Try.prog 248 false [.ptr 1 0, iT d, iT n, .c (.bool leaf)] [(1, bSrc c a)] (.ref 2) [(1, bSrc c (a + lw d leaf * n)), (2, .arr true 85 4 ((listV c a d leaf n).map oEntry))] := by
  cases leaf with
  | true => exact s_l3ListT c a d n hc h0 h1 hd0 hd hn
  | false => exact s_l3ListF c a d n hc h0 h1 hd0 hd hn
theorem lw_in (d n : Nat) (leaf : Bool) (hd : d ≤ 100) (hn : n ≤ 100) : 0 ≤ lw d leaf * n ∧ lw d leaf * n ≤ 60200 := by
  have h1 : 0 ≤ lw d leaf ∧ lw d leaf ≤ 602 := by unfold lw; split <;> omega
  have h2 : lw d leaf * n ≤ 602 * 100 := Int.mul_le_mul h1.2 (by omega) (by omega) (by omega)
  exact ⟨Int.mul_nonneg h1.1 (by omega), by omega⟩
def dnL (c : List Int) (a : Int) : Int := pk c a [0, 0, 1, 2]
def dnC (c : List Int) (a : Int) : Nat := (pk c (a + 3) [0, 1, 2, 3, 4, 5]).toNat
theorem dnC_in (c : List Int) (a : Int) : pk c (a + 3) [0, 1, 2, 3, 4, 5] = (dnC c a : Int) ∧ dnC c a ≤ 5 := by
  have h := pk_mem (c := c) (a := a + 3) (xs := [0, 1, 2, 3, 4, 5]) (by simp)
  simp only [List.mem_cons, List.not_mem_nil, or_false] at h
  unfold dnC; omega
def dnE (c : List Int) (a : Int) (d : Nat) : List Entry := listV c (a + 4) d (dnL c a == 0) (dnC c a)
def dnA (c : List Int) (a : Int) (d : Nat) : Int := a + 4 + lw d (dnL c a == 0) * dnC c a
theorem dnA_in (c : List Int) (a : Int) (d : Nat) (hd : d ≤ 100) : a ≤ dnA c a d ∧ dnA c a d ≤ a + 60300 := by
  have h1 := (dnC_in c a).2
  have := lw_in d (dnC c a) (dnL c a == 0) hd (by omega)
  unfold dnA; omega
theorem dnE_len (c : List Int) (a : Int) (d : Nat) : (dnE c a d).length ≤ 5 := Nat.le_trans (listV_len _ _ _ _ _) (dnC_in c a).2
theorem s_l3Draw (c : List Int) (a : Int) (d : Nat) (hc : codeOk c) (h0 : 0 ≤ a) (h1 : a ≤ 1071000000) (hd0 : 0 < d) (hd : d ≤ 100) : SatG Try.prog 252 false [.ptr 1 0, iT d] [(1, bSrc c a)] (.agg [iT (dnL c a), iT (nx c (a + 1) 9), iT (pk c (a + 2) [-1, -1, 3]), .ref 2]) [(1, bSrc c (dnA c a d)), (2, .arr true 85 4 ((dnE c a d).map oEntry))] := by
  refine satG_walk (fn := Try.f252) rfl rfl rfl (Nat.le_of_ble_eq_true rfl) (by simp) fun fr hP hN hdp hb1 hb2 => ?_
  have hE : (envOf fr Try.prog).Ok := envOf_ok hP
  have hM := follows_of hP
  have hS : ∀ {draw ops}, statB Try.f252.ntmps draw ops = true → statB (envOf fr Try.prog).fr.N draw ops = true := fun h => by rw [envOf_fr, hN]; exact h
  obtain ⟨n1, n2⟩ := dnC_in c a
  have k1 := s_l1Pick c (a + 3) [0, 1, 2, 3, 4, 5] hc (by omega) (by omega) (by simp) (by simp)
  rw [n1, show a + 3 + 1 = a + 4 by omega] at k1
  have k2 := s_l3List c (a + 4) d (dnC c a) (dnL c a == 0) hc (by omega) (by omega) hd0 hd (by omega)
  have k3 := s_l1Pick c a [0, 0, 1, 2] hc (by omega) (by omega) (by simp) (by simp)
  have k4 := s_l1Pick c (a + 2) [-1, -1, 3] hc (by omega) (by omega) (by simp) (by simp)
  rw [show a + 2 + 1 = a + 3 by omega] at k4
  have k5 := s_l1Next c (a + 1) 9 hc (by omega) (by omega) (by omega) (by omega)
  rw [show a + 1 + 1 = a + 2 by omega] at k5
  rw [show pk c a [0, 0, 1, 2] = dnL c a from rfl] at k3
  repeat' (first
    | exact True.intro
    | refine ev_seq ?_
    | ((first | refine endG_ret [(2, some 2105408)] hE rfl ?_ | refine vgd_go ?_ | refine ev_region hE hM (hS (by decide +kernel)) ?_ | refine ev_if ?_ | refine end_ret hE rfl rfl ?_ | refine end_norm hE rfl rfl ?_ | refine endG_ret [] hE rfl ?_ | refine endG_norm [] hE rfl ?_ | refine vcallG_at (args := [.ptr 1 0, .ref 4104]) 1 [4104] rfl hP (k3) ?_ | refine vcallG_at (args := [.ptr 1 0, iT 9]) 1 [] rfl hP (k5) ?_ | refine vcallG_at (args := [.ptr 1 0, .ref 4144]) 1 [4144] rfl hP (k4) ?_ | refine vcallG_at (args := [.ptr 1 0, .ref 8216]) 1 [8216] rfl hP (k1) ?_ | refine vcallG_at (args := [.ptr 1 0, iT d, iT (dnC c a), .c (.bool (dnL c a == 0))]) 1 [] rfl hP (k2) ?_ | refine vcall_A ?_); simp (maxSteps := 2000000) only [go_sem, hP, ↓reduceIte, Nat.reduceAdd, Nat.reduceMul, Nat.reduceEqDiff, Nat.reduceSub, Nat.reduceLeDiff, reduceCtorEq])
    | refine ev_skip ?_ | refine ev_block ?_ | refine ev_blk ?_ | refine ev_ret ?_ | refine ev_exit ?_ | refine evx_code_ret ?_ | refine evx_blk_ret ?_ | refine evx_lp_ret ?_
    | refine evx_code_exit ?_ | refine evx_lp_exit ?_ | refine evx_blk_hit ?_ | refine evx_blk_pass (by decide) ?_
    | refine And.intro ?_ ?_ | intro _ | decide +kernel | omega)
  all_goals first
    | rfl
    | (exfalso; omega)
    | (simp_all; done)
    | trace_state
/-- A node that may be wrong, the number of its dimensions, and where the code is read on. -/
structure BN where
  n : Node
  d : Int
  p : Int
def b3d (c : List Int) (a : Int) : Nat := (pk c a [2, 2, 3]).toNat
theorem b3d_in (c : List Int) (a : Int) : pk c a [2, 2, 3] = (b3d c a : Int) ∧ (b3d c a = 2 ∨ b3d c a = 3) := by
  have := dims_in c a
  unfold b3d; omega
def b3n (c : List Int) (a : Int) : Node := ⟨dnL c (a + 1), nx c (a + 2) 9, pk c (a + 3) [-1, -1, 3], dnE c (a + 1) (b3d c a)⟩
def b3q (c : List Int) (a : Int) : Int := dnA c (a + 1) (b3d c a) + 1
def b3v (c : List Int) (a : Int) : Int := nx c (dnA c (a + 1) (b3d c a)) 20
theorem b3q_in (c : List Int) (a : Int) : a ≤ b3q c a ∧ b3q c a ≤ a + 60400 := by
  have h1 := (b3d_in c a).2
  have := dnA_in c (a + 1) (b3d c a) (by omega)
  unfold b3q; omega
def bn (c : List Int) (a : Int) : BN :=
  if b3v c a = 0 then ⟨{ b3n c a with level := pk c (b3q c a) [-1, 6, 7] }, b3d c a, b3q c a + 1⟩
  else if b3v c a = 1 then ⟨{ b3n c a with nsn := pk c (b3q c a) [-1, 100000, 100001] }, b3d c a, b3q c a + 1⟩
  else if b3v c a = 2 then ⟨{ b3n c a with right := pk c (b3q c a) [-2, 39, 40] }, b3d c a, b3q c a + 1⟩
  else if b3v c a = 3 then ⟨{ b3n c a with entries := listV c (b3q c a) (b3d c a) true 9 }, b3d c a, b3q c a + lw (b3d c a) true * 9⟩
  else if b3v c a = 4 then ⟨{ b3n c a with entries := (b3n c a).entries ++ [(⟨bentV c (b3q c a) (b3d c a), pk c (bentA c (b3q c a) (b3d c a)) [50, -1, 1000], pk c (bentA c (b3q c a) (b3d c a) + 1) [0, 1]⟩ : Entry)] }, b3d c a, bentA c (b3q c a) (b3d c a) + 2⟩
  else if b3v c a = 5 then ⟨{ b3n c a with entries := if (b3n c a).entries.length = 0 then [] else (b3n c a).entries ++ [(b3n c a).entries.getD 0 default] }, b3d c a, b3q c a⟩
  else if b3v c a = 6 then ⟨b3n c a, pk c (b3q c a) [1, 2, 3, 4], b3q c a + 1⟩
  else ⟨b3n c a, b3d c a, b3q c a⟩
theorem s_l3Bent0 (c : List Int) (a : Int) (hc : codeOk c) (h0 : 0 ≤ a) (h1 : a ≤ 1070000000) (hv : b3v c a = 0) : SatG Try.prog 183 false [.ptr 1 0] [(1, bSrc c a)] (.tup [.agg [iT (bn c a).n.level, iT (bn c a).n.nsn, iT (bn c a).n.right, .c (sEntryS (bn c a).n.entries)], iT (bn c a).d]) [(1, bSrc c (bn c a).p)] := by
  have ev : bn c a = ⟨⟨pk c (b3q c a) [-1, 6, 7], nx c (a + 2) 9, pk c (a + 3) [-1, -1, 3], dnE c (a + 1) (b3d c a)⟩, (b3d c a : Int), b3q c a + 1⟩ := by unfold bn; simp [hv, b3n]
  rw [ev]
  have h : SatG Try.prog 183 false [.ptr 1 0] [(1, bSrc c a)] (.tup [.agg [iT (pk c (b3q c a) [-1, 6, 7]), iT (nx c (a + 2) 9), iT (pk c (a + 3) [-1, -1, 3]), .ref 2], iT ((b3d c a : Int))]) ((1, bSrc c (b3q c a + 1)) :: [(2, .fro 4 ((dnE c (a + 1) (b3d c a)).map eEntry))]) := by
    refine satG_walk (fn := Try.f183) rfl rfl rfl (Nat.le_of_ble_eq_true rfl) (by simp) fun fr hP hN hdp hb1 hb2 => ?_
    have hE : (envOf fr Try.prog).Ok := envOf_ok hP
    have hM := follows_of hP
    have hS : ∀ {draw ops}, statB Try.f183.ntmps draw ops = true → statB (envOf fr Try.prog).fr.N draw ops = true := fun h => by rw [envOf_fr, hN]; exact h
    obtain ⟨d1, d2⟩ := b3d_in c a
    have q := b3q_in c a
    have le := dnE_len c (a + 1) (b3d c a)
    have k1 := s_l1Dims c a hc (by omega) (by omega)
    rw [d1] at k1
    have k2 := s_l3Draw c (a + 1) (b3d c a) hc (by omega) (by omega) (by omega) (by omega)
    rw [show a + 1 + 1 = a + 2 by omega, show a + 1 + 2 = a + 3 by omega] at k2
    have dq := dnA_in c (a + 1) (b3d c a) (by omega)
    have t0 : Int.toNat 0 = 0 := rfl
    have k3 := s_l1Next c (dnA c (a + 1) (b3d c a)) 20 hc (by omega) (by omega) (by omega) (by omega)
    rw [show nx c (dnA c (a + 1) (b3d c a)) 20 = b3v c a from rfl, show dnA c (a + 1) (b3d c a) + 1 = b3q c a from rfl] at k3
    have k4 := s_l1Pick c (b3q c a) [-1, 6, 7] hc (by omega) (by omega) (by simp) (by simp)
    repeat' (first
      | exact True.intro
      | refine ev_seq ?_
      | ((first | refine endG_ret [(2, some 2105360)] hE rfl ?_ | refine vgd_go ?_ | refine ev_region hE hM (hS (by decide +kernel)) ?_ | refine ev_if ?_ | refine end_ret hE rfl rfl ?_ | refine end_norm hE rfl rfl ?_ | refine endG_ret [] hE rfl ?_ | refine endG_norm [] hE rfl ?_ | refine vcallG_at (args := [.ptr 1 0]) 1 [] rfl hP (k1) ?_ | refine vcallG_at (args := [.ptr 1 0, iT (b3d c a)]) 1 [] rfl hP (k2) ?_ | refine vcallG_at (args := [.ptr 1 0, iT 20]) 1 [] rfl hP (k3) ?_ | refine vcallG_at (args := [.ptr 1 0, .ref 20488]) 1 [20488] rfl hP (k4) ?_ | refine vcall_A ?_); simp (maxSteps := 2000000) only [go_sem, hP, ↓reduceIte, Nat.reduceAdd, Nat.reduceMul, Nat.reduceEqDiff, Nat.reduceSub, Nat.reduceLeDiff, reduceCtorEq, List.length_map, Bool.and_self, Int.reduceBEq, hv])
      | refine ev_skip ?_ | refine ev_block ?_ | refine ev_blk ?_ | refine ev_ret ?_ | refine ev_exit ?_ | refine evx_code_ret ?_ | refine evx_blk_ret ?_ | refine evx_lp_ret ?_
      | refine evx_code_exit ?_ | refine evx_lp_exit ?_ | refine evx_blk_hit ?_ | refine evx_blk_pass (by decide) ?_
      | refine And.intro ?_ ?_ | intro _ | decide +kernel | omega)
    all_goals first
      | rfl
      | (exfalso; omega)
      | omega
      | (rename_i h; exact h.symm)
      | (simp [strip_oEntry]; done)
      | (simp [eEntry_eq]; done)
      | (simp_all; done)
      | trace_state
  exact satG_data (fz := [(2, .fro 4 ((dnE c (a + 1) (b3d c a)).map eEntry))]) (fun κ h => by simp only [lk] at h; split at h <;> simp_all) trivial rfl h
theorem s_l3Bent1 (c : List Int) (a : Int) (hc : codeOk c) (h0 : 0 ≤ a) (h1 : a ≤ 1070000000) (hv : b3v c a = 1) : SatG Try.prog 183 false [.ptr 1 0] [(1, bSrc c a)] (.tup [.agg [iT (bn c a).n.level, iT (bn c a).n.nsn, iT (bn c a).n.right, .c (sEntryS (bn c a).n.entries)], iT (bn c a).d]) [(1, bSrc c (bn c a).p)] := by
  have ev : bn c a = ⟨⟨dnL c (a + 1), pk c (b3q c a) [-1, 100000, 100001], pk c (a + 3) [-1, -1, 3], dnE c (a + 1) (b3d c a)⟩, (b3d c a : Int), b3q c a + 1⟩ := by unfold bn; simp [hv, b3n]
  rw [ev]
  have h : SatG Try.prog 183 false [.ptr 1 0] [(1, bSrc c a)] (.tup [.agg [iT (dnL c (a + 1)), iT (pk c (b3q c a) [-1, 100000, 100001]), iT (pk c (a + 3) [-1, -1, 3]), .ref 2], iT ((b3d c a : Int))]) ((1, bSrc c (b3q c a + 1)) :: [(2, .fro 4 ((dnE c (a + 1) (b3d c a)).map eEntry))]) := by
    refine satG_walk (fn := Try.f183) rfl rfl rfl (Nat.le_of_ble_eq_true rfl) (by simp) fun fr hP hN hdp hb1 hb2 => ?_
    have hE : (envOf fr Try.prog).Ok := envOf_ok hP
    have hM := follows_of hP
    have hS : ∀ {draw ops}, statB Try.f183.ntmps draw ops = true → statB (envOf fr Try.prog).fr.N draw ops = true := fun h => by rw [envOf_fr, hN]; exact h
    obtain ⟨d1, d2⟩ := b3d_in c a
    have q := b3q_in c a
    have le := dnE_len c (a + 1) (b3d c a)
    have k1 := s_l1Dims c a hc (by omega) (by omega)
    rw [d1] at k1
    have k2 := s_l3Draw c (a + 1) (b3d c a) hc (by omega) (by omega) (by omega) (by omega)
    rw [show a + 1 + 1 = a + 2 by omega, show a + 1 + 2 = a + 3 by omega] at k2
    have dq := dnA_in c (a + 1) (b3d c a) (by omega)
    have t0 : Int.toNat 0 = 0 := rfl
    have k3 := s_l1Next c (dnA c (a + 1) (b3d c a)) 20 hc (by omega) (by omega) (by omega) (by omega)
    rw [show nx c (dnA c (a + 1) (b3d c a)) 20 = b3v c a from rfl, show dnA c (a + 1) (b3d c a) + 1 = b3q c a from rfl] at k3
    have k4 := s_l1Pick c (b3q c a) [-1, 100000, 100001] hc (by omega) (by omega) (by simp) (by simp)
    repeat' (first
      | exact True.intro
      | refine ev_seq ?_
      | ((first | refine endG_ret [(2, some 2105360)] hE rfl ?_ | refine vgd_go ?_ | refine ev_region hE hM (hS (by decide +kernel)) ?_ | refine ev_if ?_ | refine end_ret hE rfl rfl ?_ | refine end_norm hE rfl rfl ?_ | refine endG_ret [] hE rfl ?_ | refine endG_norm [] hE rfl ?_ | refine vcallG_at (args := [.ptr 1 0]) 1 [] rfl hP (k1) ?_ | refine vcallG_at (args := [.ptr 1 0, iT (b3d c a)]) 1 [] rfl hP (k2) ?_ | refine vcallG_at (args := [.ptr 1 0, iT 20]) 1 [] rfl hP (k3) ?_ | refine vcallG_at (args := [.ptr 1 0, .ref 28680]) 1 [28680] rfl hP (k4) ?_ | refine vcall_A ?_); simp (maxSteps := 2000000) only [go_sem, hP, ↓reduceIte, Nat.reduceAdd, Nat.reduceMul, Nat.reduceEqDiff, Nat.reduceSub, Nat.reduceLeDiff, reduceCtorEq, List.length_map, Bool.and_self, Int.reduceBEq, hv])
      | refine ev_skip ?_ | refine ev_block ?_ | refine ev_blk ?_ | refine ev_ret ?_ | refine ev_exit ?_ | refine evx_code_ret ?_ | refine evx_blk_ret ?_ | refine evx_lp_ret ?_
      | refine evx_code_exit ?_ | refine evx_lp_exit ?_ | refine evx_blk_hit ?_ | refine evx_blk_pass (by decide) ?_
      | refine And.intro ?_ ?_ | intro _ | decide +kernel | omega)
    all_goals first
      | rfl
      | (exfalso; omega)
      | omega
      | (rename_i h; exact h.symm)
      | (simp [strip_oEntry]; done)
      | (simp [eEntry_eq]; done)
      | (simp_all; done)
      | trace_state
  exact satG_data (fz := [(2, .fro 4 ((dnE c (a + 1) (b3d c a)).map eEntry))]) (fun κ h => by simp only [lk] at h; split at h <;> simp_all) trivial rfl h
theorem s_l3Bent2 (c : List Int) (a : Int) (hc : codeOk c) (h0 : 0 ≤ a) (h1 : a ≤ 1070000000) (hv : b3v c a = 2) : SatG Try.prog 183 false [.ptr 1 0] [(1, bSrc c a)] (.tup [.agg [iT (bn c a).n.level, iT (bn c a).n.nsn, iT (bn c a).n.right, .c (sEntryS (bn c a).n.entries)], iT (bn c a).d]) [(1, bSrc c (bn c a).p)] := by
  have ev : bn c a = ⟨⟨dnL c (a + 1), nx c (a + 2) 9, pk c (b3q c a) [-2, 39, 40], dnE c (a + 1) (b3d c a)⟩, (b3d c a : Int), b3q c a + 1⟩ := by unfold bn; simp [hv, b3n]
  rw [ev]
  have h : SatG Try.prog 183 false [.ptr 1 0] [(1, bSrc c a)] (.tup [.agg [iT (dnL c (a + 1)), iT (nx c (a + 2) 9), iT (pk c (b3q c a) [-2, 39, 40]), .ref 2], iT ((b3d c a : Int))]) ((1, bSrc c (b3q c a + 1)) :: [(2, .fro 4 ((dnE c (a + 1) (b3d c a)).map eEntry))]) := by
    refine satG_walk (fn := Try.f183) rfl rfl rfl (Nat.le_of_ble_eq_true rfl) (by simp) fun fr hP hN hdp hb1 hb2 => ?_
    have hE : (envOf fr Try.prog).Ok := envOf_ok hP
    have hM := follows_of hP
    have hS : ∀ {draw ops}, statB Try.f183.ntmps draw ops = true → statB (envOf fr Try.prog).fr.N draw ops = true := fun h => by rw [envOf_fr, hN]; exact h
    obtain ⟨d1, d2⟩ := b3d_in c a
    have q := b3q_in c a
    have le := dnE_len c (a + 1) (b3d c a)
    have k1 := s_l1Dims c a hc (by omega) (by omega)
    rw [d1] at k1
    have k2 := s_l3Draw c (a + 1) (b3d c a) hc (by omega) (by omega) (by omega) (by omega)
    rw [show a + 1 + 1 = a + 2 by omega, show a + 1 + 2 = a + 3 by omega] at k2
    have dq := dnA_in c (a + 1) (b3d c a) (by omega)
    have t0 : Int.toNat 0 = 0 := rfl
    have k3 := s_l1Next c (dnA c (a + 1) (b3d c a)) 20 hc (by omega) (by omega) (by omega) (by omega)
    rw [show nx c (dnA c (a + 1) (b3d c a)) 20 = b3v c a from rfl, show dnA c (a + 1) (b3d c a) + 1 = b3q c a from rfl] at k3
    have k4 := s_l1Pick c (b3q c a) [-2, 39, 40] hc (by omega) (by omega) (by simp) (by simp)
    repeat' (first
      | exact True.intro
      | refine ev_seq ?_
      | ((first | refine endG_ret [(2, some 2105360)] hE rfl ?_ | refine vgd_go ?_ | refine ev_region hE hM (hS (by decide +kernel)) ?_ | refine ev_if ?_ | refine end_ret hE rfl rfl ?_ | refine end_norm hE rfl rfl ?_ | refine endG_ret [] hE rfl ?_ | refine endG_norm [] hE rfl ?_ | refine vcallG_at (args := [.ptr 1 0]) 1 [] rfl hP (k1) ?_ | refine vcallG_at (args := [.ptr 1 0, iT (b3d c a)]) 1 [] rfl hP (k2) ?_ | refine vcallG_at (args := [.ptr 1 0, iT 20]) 1 [] rfl hP (k3) ?_ | refine vcallG_at (args := [.ptr 1 0, .ref 36872]) 1 [36872] rfl hP (k4) ?_ | refine vcall_A ?_); simp (maxSteps := 2000000) only [go_sem, hP, ↓reduceIte, Nat.reduceAdd, Nat.reduceMul, Nat.reduceEqDiff, Nat.reduceSub, Nat.reduceLeDiff, reduceCtorEq, List.length_map, Bool.and_self, Int.reduceBEq, hv])
      | refine ev_skip ?_ | refine ev_block ?_ | refine ev_blk ?_ | refine ev_ret ?_ | refine ev_exit ?_ | refine evx_code_ret ?_ | refine evx_blk_ret ?_ | refine evx_lp_ret ?_
      | refine evx_code_exit ?_ | refine evx_lp_exit ?_ | refine evx_blk_hit ?_ | refine evx_blk_pass (by decide) ?_
      | refine And.intro ?_ ?_ | intro _ | decide +kernel | omega)
    all_goals first
      | rfl
      | (exfalso; omega)
      | omega
      | (rename_i h; exact h.symm)
      | (simp [strip_oEntry]; done)
      | (simp [eEntry_eq]; done)
      | (simp_all; done)
      | trace_state
  exact satG_data (fz := [(2, .fro 4 ((dnE c (a + 1) (b3d c a)).map eEntry))]) (fun κ h => by simp only [lk] at h; split at h <;> simp_all) trivial rfl h
theorem s_l3Bent3 (c : List Int) (a : Int) (hc : codeOk c) (h0 : 0 ≤ a) (h1 : a ≤ 1070000000) (hv : b3v c a = 3) : SatG Try.prog 183 false [.ptr 1 0] [(1, bSrc c a)] (.tup [.agg [iT (bn c a).n.level, iT (bn c a).n.nsn, iT (bn c a).n.right, .c (sEntryS (bn c a).n.entries)], iT (bn c a).d]) [(1, bSrc c (bn c a).p)] := by
  have ev : bn c a = ⟨⟨dnL c (a + 1), nx c (a + 2) 9, pk c (a + 3) [-1, -1, 3], listV c (b3q c a) (b3d c a) true 9⟩, (b3d c a : Int), b3q c a + lw (b3d c a) true * 9⟩ := by unfold bn; simp [hv, b3n]
  rw [ev]
  have h : SatG Try.prog 183 false [.ptr 1 0] [(1, bSrc c a)] (.tup [.agg [iT (dnL c (a + 1)), iT (nx c (a + 2) 9), iT (pk c (a + 3) [-1, -1, 3]), .ref 2], iT ((b3d c a : Int))]) ((1, bSrc c (b3q c a + lw (b3d c a) true * 9)) :: [(2, .fro 4 ((listV c (b3q c a) (b3d c a) true 9).map eEntry))]) := by
    refine satG_walk (fn := Try.f183) rfl rfl rfl (Nat.le_of_ble_eq_true rfl) (by simp) fun fr hP hN hdp hb1 hb2 => ?_
    have hE : (envOf fr Try.prog).Ok := envOf_ok hP
    have hM := follows_of hP
    have hS : ∀ {draw ops}, statB Try.f183.ntmps draw ops = true → statB (envOf fr Try.prog).fr.N draw ops = true := fun h => by rw [envOf_fr, hN]; exact h
    obtain ⟨d1, d2⟩ := b3d_in c a
    have q := b3q_in c a
    have le := dnE_len c (a + 1) (b3d c a)
    have k1 := s_l1Dims c a hc (by omega) (by omega)
    rw [d1] at k1
    have k2 := s_l3Draw c (a + 1) (b3d c a) hc (by omega) (by omega) (by omega) (by omega)
    rw [show a + 1 + 1 = a + 2 by omega, show a + 1 + 2 = a + 3 by omega] at k2
    have dq := dnA_in c (a + 1) (b3d c a) (by omega)
    have t0 : Int.toNat 0 = 0 := rfl
    have k3 := s_l1Next c (dnA c (a + 1) (b3d c a)) 20 hc (by omega) (by omega) (by omega) (by omega)
    rw [show nx c (dnA c (a + 1) (b3d c a)) 20 = b3v c a from rfl, show dnA c (a + 1) (b3d c a) + 1 = b3q c a from rfl] at k3
    have k4 := s_l3List c (b3q c a) (b3d c a) 9 true hc (by omega) (by omega) (by omega) (by omega) (by omega)
    repeat' (first
      | exact True.intro
      | refine ev_seq ?_
      | ((first | refine endG_ret [(2, some 2142224)] hE rfl ?_ | refine vgd_go ?_ | refine ev_region hE hM (hS (by decide +kernel)) ?_ | refine ev_if ?_ | refine end_ret hE rfl rfl ?_ | refine end_norm hE rfl rfl ?_ | refine endG_ret [] hE rfl ?_ | refine endG_norm [] hE rfl ?_ | refine vcallG_at (args := [.ptr 1 0]) 1 [] rfl hP (k1) ?_ | refine vcallG_at (args := [.ptr 1 0, iT (b3d c a)]) 1 [] rfl hP (k2) ?_ | refine vcallG_at (args := [.ptr 1 0, iT 20]) 1 [] rfl hP (k3) ?_ | refine vcallG_at (args := [.ptr 1 0, iT (b3d c a), iT 9, .c (.bool true)]) 1 [] rfl hP (k4) ?_ | refine vcall_A ?_); simp (maxSteps := 2000000) only [go_sem, hP, ↓reduceIte, Nat.reduceAdd, Nat.reduceMul, Nat.reduceEqDiff, Nat.reduceSub, Nat.reduceLeDiff, reduceCtorEq, List.length_map, Bool.and_self, Int.reduceBEq, hv])
      | refine ev_skip ?_ | refine ev_block ?_ | refine ev_blk ?_ | refine ev_ret ?_ | refine ev_exit ?_ | refine evx_code_ret ?_ | refine evx_blk_ret ?_ | refine evx_lp_ret ?_
      | refine evx_code_exit ?_ | refine evx_lp_exit ?_ | refine evx_blk_hit ?_ | refine evx_blk_pass (by decide) ?_
      | refine And.intro ?_ ?_ | intro _ | decide +kernel | omega)
    all_goals first
      | rfl
      | (exfalso; omega)
      | omega
      | (rename_i h; exact h.symm)
      | (simp [strip_oEntry]; done)
      | (simp [eEntry_eq]; done)
      | (simp_all; done)
      | trace_state
  exact satG_data (fz := [(2, .fro 4 ((listV c (b3q c a) (b3d c a) true 9).map eEntry))]) (fun κ h => by simp only [lk] at h; split at h <;> simp_all) trivial rfl h
theorem s_l3Bent4 (c : List Int) (a : Int) (hc : codeOk c) (h0 : 0 ≤ a) (h1 : a ≤ 1070000000) (hv : b3v c a = 4) : SatG Try.prog 183 false [.ptr 1 0] [(1, bSrc c a)] (.tup [.agg [iT (bn c a).n.level, iT (bn c a).n.nsn, iT (bn c a).n.right, .c (sEntryS (bn c a).n.entries)], iT (bn c a).d]) [(1, bSrc c (bn c a).p)] := by
  have ev : bn c a = ⟨⟨dnL c (a + 1), nx c (a + 2) 9, pk c (a + 3) [-1, -1, 3], dnE c (a + 1) (b3d c a) ++ [(⟨bentV c (b3q c a) (b3d c a), pk c (bentA c (b3q c a) (b3d c a)) [50, -1, 1000], pk c (bentA c (b3q c a) (b3d c a) + 1) [0, 1]⟩ : Entry)]⟩, (b3d c a : Int), bentA c (b3q c a) (b3d c a) + 2⟩ := by unfold bn; simp [hv, b3n]
  rw [ev]
  have h : SatG Try.prog 183 false [.ptr 1 0] [(1, bSrc c a)] (.tup [.agg [iT (dnL c (a + 1)), iT (nx c (a + 2) 9), iT (pk c (a + 3) [-1, -1, 3]), .ref 2], iT ((b3d c a : Int))]) ((1, bSrc c (bentA c (b3q c a) (b3d c a) + 2)) :: [(2, .fro 4 ((dnE c (a + 1) (b3d c a) ++ [(⟨bentV c (b3q c a) (b3d c a), pk c (bentA c (b3q c a) (b3d c a)) [50, -1, 1000], pk c (bentA c (b3q c a) (b3d c a) + 1) [0, 1]⟩ : Entry)]).map eEntry))]) := by
    refine satG_walk (fn := Try.f183) rfl rfl rfl (Nat.le_of_ble_eq_true rfl) (by simp) fun fr hP hN hdp hb1 hb2 => ?_
    have hE : (envOf fr Try.prog).Ok := envOf_ok hP
    have hM := follows_of hP
    have hS : ∀ {draw ops}, statB Try.f183.ntmps draw ops = true → statB (envOf fr Try.prog).fr.N draw ops = true := fun h => by rw [envOf_fr, hN]; exact h
    obtain ⟨d1, d2⟩ := b3d_in c a
    have q := b3q_in c a
    have le := dnE_len c (a + 1) (b3d c a)
    have k1 := s_l1Dims c a hc (by omega) (by omega)
    rw [d1] at k1
    have k2 := s_l3Draw c (a + 1) (b3d c a) hc (by omega) (by omega) (by omega) (by omega)
    rw [show a + 1 + 1 = a + 2 by omega, show a + 1 + 2 = a + 3 by omega] at k2
    have dq := dnA_in c (a + 1) (b3d c a) (by omega)
    have t0 : Int.toNat 0 = 0 := rfl
    have k3 := s_l1Next c (dnA c (a + 1) (b3d c a)) 20 hc (by omega) (by omega) (by omega) (by omega)
    rw [show nx c (dnA c (a + 1) (b3d c a)) 20 = b3v c a from rfl, show dnA c (a + 1) (b3d c a) + 1 = b3q c a from rfl] at k3
    have qb := bentA_in c (b3q c a) (b3d c a)
    have k4 := s_l1Bent c (b3q c a) (b3d c a) hc (by omega) (by omega) (by omega) (by omega)
    have k5 := s_l1Pick c (bentA c (b3q c a) (b3d c a)) [50, -1, 1000] hc (by omega) (by omega) (by simp) (by simp)
    have k6 := s_l1Pick c (bentA c (b3q c a) (b3d c a) + 1) [0, 1] hc (by omega) (by omega) (by simp) (by simp)
    rw [show bentA c (b3q c a) (b3d c a) + 1 + 1 = bentA c (b3q c a) (b3d c a) + 2 by omega] at k6
    repeat' (first
      | exact True.intro
      | refine ev_seq ?_
      | ((first | refine endG_ret [(2, some 53352)] hE rfl ?_ | refine vgd_go ?_ | refine ev_region hE hM (hS (by decide +kernel)) ?_ | refine ev_if ?_ | refine end_ret hE rfl rfl ?_ | refine end_norm hE rfl rfl ?_ | refine endG_ret [] hE rfl ?_ | refine endG_norm [] hE rfl ?_ | refine vcallG_at (args := [.ptr 1 0]) 1 [] rfl hP (k1) ?_ | refine vcallG_at (args := [.ptr 1 0, iT (b3d c a)]) 1 [] rfl hP (k2) ?_ | refine vcallG_at (args := [.ptr 1 0, iT 20]) 1 [] rfl hP (k3) ?_ | refine vcallG_at (f := 150) (args := [.ptr 1 0, iT (b3d c a)]) 1 [] rfl hP (k4) ?_ | refine vcallG_at (args := [.ptr 1 0, .ref 53296]) 1 [53296] rfl hP (k5) ?_ | refine vcallG_at (args := [.ptr 1 0, .ref 53320]) 1 [53320] rfl hP (k6) ?_ | refine vcall_A ?_); simp (maxSteps := 2000000) only [go_sem, hP, ↓reduceIte, Nat.reduceAdd, Nat.reduceMul, Nat.reduceEqDiff, Nat.reduceSub, Nat.reduceLeDiff, reduceCtorEq, List.length_map, Bool.and_self, Int.reduceBEq, hv, strip_oEntry, eEntry_eq, t0, Cs.strip, C.strip])
      | refine ev_skip ?_ | refine ev_block ?_ | refine ev_blk ?_ | refine ev_ret ?_ | refine ev_exit ?_ | refine evx_code_ret ?_ | refine evx_blk_ret ?_ | refine evx_lp_ret ?_
      | refine evx_code_exit ?_ | refine evx_lp_exit ?_ | refine evx_blk_hit ?_ | refine evx_blk_pass (by decide) ?_
      | refine And.intro ?_ ?_ | intro _ | decide +kernel | omega)
    all_goals first
      | rfl
      | (exfalso; omega)
      | omega
      | (rename_i h; exact h.symm)
      | (simp [strip_oEntry]; done)
      | (simp [eEntry_eq]; done)
      | (simp_all; done)
      | trace_state
  exact satG_data (fz := [(2, .fro 4 ((dnE c (a + 1) (b3d c a) ++ [(⟨bentV c (b3q c a) (b3d c a), pk c (bentA c (b3q c a) (b3d c a)) [50, -1, 1000], pk c (bentA c (b3q c a) (b3d c a) + 1) [0, 1]⟩ : Entry)]).map eEntry))]) (fun κ h => by simp only [lk] at h; split at h <;> simp_all) trivial rfl h
theorem s_l3Bent5 (c : List Int) (a : Int) (hc : codeOk c) (h0 : 0 ≤ a) (h1 : a ≤ 1070000000) (hv : b3v c a = 5) (he : (dnE c (a + 1) (b3d c a)).length ≠ 0) : SatG Try.prog 183 false [.ptr 1 0] [(1, bSrc c a)] (.tup [.agg [iT (bn c a).n.level, iT (bn c a).n.nsn, iT (bn c a).n.right, .c (sEntryS (bn c a).n.entries)], iT (bn c a).d]) [(1, bSrc c (bn c a).p)] := by
  have ev : bn c a = ⟨⟨dnL c (a + 1), nx c (a + 2) 9, pk c (a + 3) [-1, -1, 3], dnE c (a + 1) (b3d c a) ++ [(dnE c (a + 1) (b3d c a)).getD 0 default]⟩, (b3d c a : Int), b3q c a⟩ := by unfold bn; simp [hv, he, b3n]
  rw [ev]
  have h : SatG Try.prog 183 false [.ptr 1 0] [(1, bSrc c a)] (.tup [.agg [iT (dnL c (a + 1)), iT (nx c (a + 2) 9), iT (pk c (a + 3) [-1, -1, 3]), .ref 2], iT ((b3d c a : Int))]) ((1, bSrc c (b3q c a)) :: [(2, .fro 4 ((dnE c (a + 1) (b3d c a) ++ [(dnE c (a + 1) (b3d c a)).getD 0 default]).map eEntry))]) := by
    refine satG_walk (fn := Try.f183) rfl rfl rfl (Nat.le_of_ble_eq_true rfl) (by simp) fun fr hP hN hdp hb1 hb2 => ?_
    have hE : (envOf fr Try.prog).Ok := envOf_ok hP
    have hM := follows_of hP
    have hS : ∀ {draw ops}, statB Try.f183.ntmps draw ops = true → statB (envOf fr Try.prog).fr.N draw ops = true := fun h => by rw [envOf_fr, hN]; exact h
    obtain ⟨d1, d2⟩ := b3d_in c a
    have q := b3q_in c a
    have le := dnE_len c (a + 1) (b3d c a)
    have k1 := s_l1Dims c a hc (by omega) (by omega)
    rw [d1] at k1
    have k2 := s_l3Draw c (a + 1) (b3d c a) hc (by omega) (by omega) (by omega) (by omega)
    rw [show a + 1 + 1 = a + 2 by omega, show a + 1 + 2 = a + 3 by omega] at k2
    have dq := dnA_in c (a + 1) (b3d c a) (by omega)
    have t0 : Int.toNat 0 = 0 := rfl
    have k3 := s_l1Next c (dnA c (a + 1) (b3d c a)) 20 hc (by omega) (by omega) (by omega) (by omega)
    rw [show nx c (dnA c (a + 1) (b3d c a)) 20 = b3v c a from rfl, show dnA c (a + 1) (b3d c a) + 1 = b3q c a from rfl] at k3
    have he' : decide ((0 : Int) < ((dnE c (a + 1) (b3d c a)).length : Int)) = true := by simp only [decide_eq_true_eq]; omega
    repeat' (first
      | exact True.intro
      | refine ev_seq ?_
      | ((first | refine endG_ret [(2, some 65592)] hE rfl ?_ | refine vgd_go ?_ | refine ev_region hE hM (hS (by decide +kernel)) ?_ | refine ev_if ?_ | refine end_ret hE rfl rfl ?_ | refine end_norm hE rfl rfl ?_ | refine endG_ret [] hE rfl ?_ | refine endG_norm [] hE rfl ?_ | refine vcallG_at (args := [.ptr 1 0]) 1 [] rfl hP (k1) ?_ | refine vcallG_at (args := [.ptr 1 0, iT (b3d c a)]) 1 [] rfl hP (k2) ?_ | refine vcallG_at (args := [.ptr 1 0, iT 20]) 1 [] rfl hP (k3) ?_ | refine vcall_A ?_); simp (maxSteps := 2000000) only [go_sem, hP, ↓reduceIte, Nat.reduceAdd, Nat.reduceMul, Nat.reduceEqDiff, Nat.reduceSub, Nat.reduceLeDiff, reduceCtorEq, List.length_map, Bool.and_self, Int.reduceBEq, hv, he', strip_oEntry, eEntry_eq, t0, Cs.strip, C.strip])
      | refine ev_skip ?_ | refine ev_block ?_ | refine ev_blk ?_ | refine ev_ret ?_ | refine ev_exit ?_ | refine evx_code_ret ?_ | refine evx_blk_ret ?_ | refine evx_lp_ret ?_
      | refine evx_code_exit ?_ | refine evx_lp_exit ?_ | refine evx_blk_hit ?_ | refine evx_blk_pass (by decide) ?_
      | refine And.intro ?_ ?_ | intro _ | decide +kernel | omega)
    all_goals first
      | rfl
      | (exfalso; omega)
      | omega
      | (rename_i h; exact h.symm)
      | (simp [strip_oEntry]; done)
      | (simp [eEntry_eq]; done)
      | (simp_all; done)
      | trace_state
  exact satG_data (fz := [(2, .fro 4 ((dnE c (a + 1) (b3d c a) ++ [(dnE c (a + 1) (b3d c a)).getD 0 default]).map eEntry))]) (fun κ h => by simp only [lk] at h; split at h <;> simp_all) trivial rfl h
theorem s_l3Bent5n (c : List Int) (a : Int) (hc : codeOk c) (h0 : 0 ≤ a) (h1 : a ≤ 1070000000) (hv : b3v c a = 5) (he : (dnE c (a + 1) (b3d c a)).length = 0) : SatG Try.prog 183 false [.ptr 1 0] [(1, bSrc c a)] (.tup [.agg [iT (bn c a).n.level, iT (bn c a).n.nsn, iT (bn c a).n.right, .c (sEntryS (bn c a).n.entries)], iT (bn c a).d]) [(1, bSrc c (bn c a).p)] := by
  have ev : bn c a = ⟨⟨dnL c (a + 1), nx c (a + 2) 9, pk c (a + 3) [-1, -1, 3], []⟩, (b3d c a : Int), b3q c a⟩ := by unfold bn; simp [hv, he, b3n]
  rw [ev]
  have h : SatG Try.prog 183 false [.ptr 1 0] [(1, bSrc c a)] (.tup [.agg [iT (dnL c (a + 1)), iT (nx c (a + 2) 9), iT (pk c (a + 3) [-1, -1, 3]), .ref 2], iT ((b3d c a : Int))]) ((1, bSrc c (b3q c a)) :: [(2, .fro 4 (([]).map eEntry))]) := by
    refine satG_walk (fn := Try.f183) rfl rfl rfl (Nat.le_of_ble_eq_true rfl) (by simp) fun fr hP hN hdp hb1 hb2 => ?_
    have hE : (envOf fr Try.prog).Ok := envOf_ok hP
    have hM := follows_of hP
    have hS : ∀ {draw ops}, statB Try.f183.ntmps draw ops = true → statB (envOf fr Try.prog).fr.N draw ops = true := fun h => by rw [envOf_fr, hN]; exact h
    obtain ⟨d1, d2⟩ := b3d_in c a
    have q := b3q_in c a
    have le := dnE_len c (a + 1) (b3d c a)
    have k1 := s_l1Dims c a hc (by omega) (by omega)
    rw [d1] at k1
    have k2 := s_l3Draw c (a + 1) (b3d c a) hc (by omega) (by omega) (by omega) (by omega)
    rw [show a + 1 + 1 = a + 2 by omega, show a + 1 + 2 = a + 3 by omega] at k2
    have dq := dnA_in c (a + 1) (b3d c a) (by omega)
    have t0 : Int.toNat 0 = 0 := rfl
    have k3 := s_l1Next c (dnA c (a + 1) (b3d c a)) 20 hc (by omega) (by omega) (by omega) (by omega)
    rw [show nx c (dnA c (a + 1) (b3d c a)) 20 = b3v c a from rfl, show dnA c (a + 1) (b3d c a) + 1 = b3q c a from rfl] at k3
    have he' : decide ((0 : Int) < ((dnE c (a + 1) (b3d c a)).length : Int)) = false := by simp only [decide_eq_false_iff_not]; omega
    have e0 := List.eq_nil_of_length_eq_zero he
    rw [e0] at k2
    rw [e0] at he'
    repeat' (first
      | exact True.intro
      | refine ev_seq ?_
      | ((first | refine endG_ret [(2, some 2105360)] hE rfl ?_ | refine vgd_go ?_ | refine ev_region hE hM (hS (by decide +kernel)) ?_ | refine ev_if ?_ | refine end_ret hE rfl rfl ?_ | refine end_norm hE rfl rfl ?_ | refine endG_ret [] hE rfl ?_ | refine endG_norm [] hE rfl ?_ | refine vcallG_at (args := [.ptr 1 0]) 1 [] rfl hP (k1) ?_ | refine vcallG_at (args := [.ptr 1 0, iT (b3d c a)]) 1 [] rfl hP (k2) ?_ | refine vcallG_at (args := [.ptr 1 0, iT 20]) 1 [] rfl hP (k3) ?_ | refine vcall_A ?_); simp (maxSteps := 2000000) only [go_sem, hP, ↓reduceIte, Nat.reduceAdd, Nat.reduceMul, Nat.reduceEqDiff, Nat.reduceSub, Nat.reduceLeDiff, reduceCtorEq, List.length_map, Bool.and_self, Int.reduceBEq, hv, he'])
      | refine ev_skip ?_ | refine ev_block ?_ | refine ev_blk ?_ | refine ev_ret ?_ | refine ev_exit ?_ | refine evx_code_ret ?_ | refine evx_blk_ret ?_ | refine evx_lp_ret ?_
      | refine evx_code_exit ?_ | refine evx_lp_exit ?_ | refine evx_blk_hit ?_ | refine evx_blk_pass (by decide) ?_
      | refine And.intro ?_ ?_ | intro _ | decide +kernel | omega)
    all_goals first
      | rfl
      | (exfalso; omega)
      | omega
      | (rename_i h; exact h.symm)
      | (simp [strip_oEntry]; done)
      | (simp [eEntry_eq]; done)
      | (simp_all; done)
      | trace_state
  exact satG_data (fz := [(2, .fro 4 (([]).map eEntry))]) (fun κ h => by simp only [lk] at h; split at h <;> simp_all) trivial rfl h
theorem s_l3Bent6 (c : List Int) (a : Int) (hc : codeOk c) (h0 : 0 ≤ a) (h1 : a ≤ 1070000000) (hv : b3v c a = 6) : SatG Try.prog 183 false [.ptr 1 0] [(1, bSrc c a)] (.tup [.agg [iT (bn c a).n.level, iT (bn c a).n.nsn, iT (bn c a).n.right, .c (sEntryS (bn c a).n.entries)], iT (bn c a).d]) [(1, bSrc c (bn c a).p)] := by
  have ev : bn c a = ⟨⟨dnL c (a + 1), nx c (a + 2) 9, pk c (a + 3) [-1, -1, 3], dnE c (a + 1) (b3d c a)⟩, pk c (b3q c a) [1, 2, 3, 4], b3q c a + 1⟩ := by unfold bn; simp [hv, b3n]
  rw [ev]
  have h : SatG Try.prog 183 false [.ptr 1 0] [(1, bSrc c a)] (.tup [.agg [iT (dnL c (a + 1)), iT (nx c (a + 2) 9), iT (pk c (a + 3) [-1, -1, 3]), .ref 2], iT (pk c (b3q c a) [1, 2, 3, 4])]) ((1, bSrc c (b3q c a + 1)) :: [(2, .fro 4 ((dnE c (a + 1) (b3d c a)).map eEntry))]) := by
    refine satG_walk (fn := Try.f183) rfl rfl rfl (Nat.le_of_ble_eq_true rfl) (by simp) fun fr hP hN hdp hb1 hb2 => ?_
    have hE : (envOf fr Try.prog).Ok := envOf_ok hP
    have hM := follows_of hP
    have hS : ∀ {draw ops}, statB Try.f183.ntmps draw ops = true → statB (envOf fr Try.prog).fr.N draw ops = true := fun h => by rw [envOf_fr, hN]; exact h
    obtain ⟨d1, d2⟩ := b3d_in c a
    have q := b3q_in c a
    have le := dnE_len c (a + 1) (b3d c a)
    have k1 := s_l1Dims c a hc (by omega) (by omega)
    rw [d1] at k1
    have k2 := s_l3Draw c (a + 1) (b3d c a) hc (by omega) (by omega) (by omega) (by omega)
    rw [show a + 1 + 1 = a + 2 by omega, show a + 1 + 2 = a + 3 by omega] at k2
    have dq := dnA_in c (a + 1) (b3d c a) (by omega)
    have t0 : Int.toNat 0 = 0 := rfl
    have k3 := s_l1Next c (dnA c (a + 1) (b3d c a)) 20 hc (by omega) (by omega) (by omega) (by omega)
    rw [show nx c (dnA c (a + 1) (b3d c a)) 20 = b3v c a from rfl, show dnA c (a + 1) (b3d c a) + 1 = b3q c a from rfl] at k3
    have k4 := s_l1Pick c (b3q c a) [1, 2, 3, 4] hc (by omega) (by omega) (by simp) (by simp)
    repeat' (first
      | exact True.intro
      | refine ev_seq ?_
      | ((first | refine endG_ret [(2, some 2105360)] hE rfl ?_ | refine vgd_go ?_ | refine ev_region hE hM (hS (by decide +kernel)) ?_ | refine ev_if ?_ | refine end_ret hE rfl rfl ?_ | refine end_norm hE rfl rfl ?_ | refine endG_ret [] hE rfl ?_ | refine endG_norm [] hE rfl ?_ | refine vcallG_at (args := [.ptr 1 0]) 1 [] rfl hP (k1) ?_ | refine vcallG_at (args := [.ptr 1 0, iT (b3d c a)]) 1 [] rfl hP (k2) ?_ | refine vcallG_at (args := [.ptr 1 0, iT 20]) 1 [] rfl hP (k3) ?_ | refine vcallG_at (args := [.ptr 1 0, .ref 73736]) 1 [73736] rfl hP (k4) ?_ | refine vcall_A ?_); simp (maxSteps := 2000000) only [go_sem, hP, ↓reduceIte, Nat.reduceAdd, Nat.reduceMul, Nat.reduceEqDiff, Nat.reduceSub, Nat.reduceLeDiff, reduceCtorEq, List.length_map, Bool.and_self, Int.reduceBEq, hv])
      | refine ev_skip ?_ | refine ev_block ?_ | refine ev_blk ?_ | refine ev_ret ?_ | refine ev_exit ?_ | refine evx_code_ret ?_ | refine evx_blk_ret ?_ | refine evx_lp_ret ?_
      | refine evx_code_exit ?_ | refine evx_lp_exit ?_ | refine evx_blk_hit ?_ | refine evx_blk_pass (by decide) ?_
      | refine And.intro ?_ ?_ | intro _ | decide +kernel | omega)
    all_goals first
      | rfl
      | (exfalso; omega)
      | omega
      | (rename_i h; exact h.symm)
      | (simp [strip_oEntry]; done)
      | (simp [eEntry_eq]; done)
      | (simp_all; done)
      | trace_state
  exact satG_data (fz := [(2, .fro 4 ((dnE c (a + 1) (b3d c a)).map eEntry))]) (fun κ h => by simp only [lk] at h; split at h <;> simp_all) trivial rfl h
theorem s_l3Bent7 (c : List Int) (a : Int) (hc : codeOk c) (h0 : 0 ≤ a) (h1 : a ≤ 1070000000) (g0 : b3v c a ≠ 0) (g1 : b3v c a ≠ 1) (g2 : b3v c a ≠ 2) (g3 : b3v c a ≠ 3) (g4 : b3v c a ≠ 4) (g5 : b3v c a ≠ 5) (g6 : b3v c a ≠ 6) : SatG Try.prog 183 false [.ptr 1 0] [(1, bSrc c a)] (.tup [.agg [iT (bn c a).n.level, iT (bn c a).n.nsn, iT (bn c a).n.right, .c (sEntryS (bn c a).n.entries)], iT (bn c a).d]) [(1, bSrc c (bn c a).p)] := by
  have ev : bn c a = ⟨⟨dnL c (a + 1), nx c (a + 2) 9, pk c (a + 3) [-1, -1, 3], dnE c (a + 1) (b3d c a)⟩, (b3d c a : Int), b3q c a⟩ := by unfold bn; simp [g0, g1, g2, g3, g4, g5, g6, b3n]
  rw [ev]
  have h : SatG Try.prog 183 false [.ptr 1 0] [(1, bSrc c a)] (.tup [.agg [iT (dnL c (a + 1)), iT (nx c (a + 2) 9), iT (pk c (a + 3) [-1, -1, 3]), .ref 2], iT ((b3d c a : Int))]) ((1, bSrc c (b3q c a)) :: [(2, .fro 4 ((dnE c (a + 1) (b3d c a)).map eEntry))]) := by
    refine satG_walk (fn := Try.f183) rfl rfl rfl (Nat.le_of_ble_eq_true rfl) (by simp) fun fr hP hN hdp hb1 hb2 => ?_
    have hE : (envOf fr Try.prog).Ok := envOf_ok hP
    have hM := follows_of hP
    have hS : ∀ {draw ops}, statB Try.f183.ntmps draw ops = true → statB (envOf fr Try.prog).fr.N draw ops = true := fun h => by rw [envOf_fr, hN]; exact h
    obtain ⟨d1, d2⟩ := b3d_in c a
    have q := b3q_in c a
    have le := dnE_len c (a + 1) (b3d c a)
    have k1 := s_l1Dims c a hc (by omega) (by omega)
    rw [d1] at k1
    have k2 := s_l3Draw c (a + 1) (b3d c a) hc (by omega) (by omega) (by omega) (by omega)
    rw [show a + 1 + 1 = a + 2 by omega, show a + 1 + 2 = a + 3 by omega] at k2
    have dq := dnA_in c (a + 1) (b3d c a) (by omega)
    have t0 : Int.toNat 0 = 0 := rfl
    have k3 := s_l1Next c (dnA c (a + 1) (b3d c a)) 20 hc (by omega) (by omega) (by omega) (by omega)
    rw [show nx c (dnA c (a + 1) (b3d c a)) 20 = b3v c a from rfl, show dnA c (a + 1) (b3d c a) + 1 = b3q c a from rfl] at k3
    have b0 : (b3v c a == 0) = false := beq_eq_false_iff_ne.2 g0
    have b1 : (b3v c a == 1) = false := beq_eq_false_iff_ne.2 g1
    have b2 : (b3v c a == 2) = false := beq_eq_false_iff_ne.2 g2
    have b3 : (b3v c a == 3) = false := beq_eq_false_iff_ne.2 g3
    have b4 : (b3v c a == 4) = false := beq_eq_false_iff_ne.2 g4
    have b5 : (b3v c a == 5) = false := beq_eq_false_iff_ne.2 g5
    have b6 : (b3v c a == 6) = false := beq_eq_false_iff_ne.2 g6
    repeat' (first
      | exact True.intro
      | refine ev_seq ?_
      | ((first | refine endG_ret [(2, some 2105360)] hE rfl ?_ | refine vgd_go ?_ | refine ev_region hE hM (hS (by decide +kernel)) ?_ | refine ev_if ?_ | refine end_ret hE rfl rfl ?_ | refine end_norm hE rfl rfl ?_ | refine endG_ret [] hE rfl ?_ | refine endG_norm [] hE rfl ?_ | refine vcallG_at (args := [.ptr 1 0]) 1 [] rfl hP (k1) ?_ | refine vcallG_at (args := [.ptr 1 0, iT (b3d c a)]) 1 [] rfl hP (k2) ?_ | refine vcallG_at (args := [.ptr 1 0, iT 20]) 1 [] rfl hP (k3) ?_ | refine vcall_A ?_); simp (maxSteps := 2000000) only [go_sem, hP, ↓reduceIte, Nat.reduceAdd, Nat.reduceMul, Nat.reduceEqDiff, Nat.reduceSub, Nat.reduceLeDiff, reduceCtorEq, List.length_map, Bool.and_self, Int.reduceBEq, b0, b1, b2, b3, b4, b5, b6])
      | refine ev_skip ?_ | refine ev_block ?_ | refine ev_blk ?_ | refine ev_ret ?_ | refine ev_exit ?_ | refine evx_code_ret ?_ | refine evx_blk_ret ?_ | refine evx_lp_ret ?_
      | refine evx_code_exit ?_ | refine evx_lp_exit ?_ | refine evx_blk_hit ?_ | refine evx_blk_pass (by decide) ?_
      | refine And.intro ?_ ?_ | intro _ | decide +kernel | omega)
    all_goals first
      | rfl
      | (exfalso; omega)
      | omega
      | (rename_i h; exact h.symm)
      | (simp [strip_oEntry]; done)
      | (simp [eEntry_eq]; done)
      | (simp_all; done)
      | trace_state
  exact satG_data (fz := [(2, .fro 4 ((dnE c (a + 1) (b3d c a)).map eEntry))]) (fun κ h => by simp only [lk] at h; split at h <;> simp_all) trivial rfl h
theorem s_l3Bent (c : List Int) (a : Int) (hc : codeOk c) (h0 : 0 ≤ a) (h1 : a ≤ 1070000000) : SatG Try.prog 183 false [.ptr 1 0] [(1, bSrc c a)] (.tup [.agg [iT (bn c a).n.level, iT (bn c a).n.nsn, iT (bn c a).n.right, .c (sEntryS (bn c a).n.entries)], iT (bn c a).d]) [(1, bSrc c (bn c a).p)] := by
  by_cases g0 : b3v c a = 0
  · exact s_l3Bent0 c a hc h0 h1 g0
  by_cases g1 : b3v c a = 1
  · exact s_l3Bent1 c a hc h0 h1 g1
  by_cases g2 : b3v c a = 2
  · exact s_l3Bent2 c a hc h0 h1 g2
  by_cases g3 : b3v c a = 3
  · exact s_l3Bent3 c a hc h0 h1 g3
  by_cases g4 : b3v c a = 4
  · exact s_l3Bent4 c a hc h0 h1 g4
  by_cases g5 : b3v c a = 5
  · by_cases he : (dnE c (a + 1) (b3d c a)).length = 0
    · exact s_l3Bent5n c a hc h0 h1 g5 he
    · exact s_l3Bent5 c a hc h0 h1 g5 he
  by_cases g6 : b3v c a = 6
  · exact s_l3Bent6 c a hc h0 h1 g6
  exact s_l3Bent7 c a hc h0 h1 g0 g1 g2 g3 g4 g5 g6
def refV (c : List Int) (p : Int) (n : Node) : Int :=
  if n.entries.length = 0 then pk c p [31, -1, 5]
  else if nx c p 4 = 0 then pk c (p + 1) [31, -1, 5]
  else (n.entries.getD (nx c (p + 1) n.entries.length).toNat default).ref
def refA (c : List Int) (p : Int) (n : Node) : Int := if n.entries.length = 0 then p + 1 else p + 2
theorem s_l3Ref (c : List Int) (p : Int) (n : Node) (hc : codeOk c) (h0 : 0 ≤ p) (h1 : p ≤ 1071000000) (hl : n.entries.length ≤ 60000) : SatG Try.prog 187 false [.ptr 1 0, .pv [.int .i64 n.level, .int .i64 n.nsn, .int .i64 n.right, sEntryS n.entries]] [(1, bSrc c p)] (iT (refV c p n)) [(1, bSrc c (refA c p n))] := by
  refine satG_walk (fn := Try.f187) rfl rfl rfl (Nat.le_of_ble_eq_true rfl) (by simp) fun fr hP hN hdp hb1 hb2 => ?_
  have hE : (envOf fr Try.prog).Ok := envOf_ok hP
  have hM := follows_of hP
  have hS : ∀ {draw ops}, statB Try.f187.ntmps draw ops = true → statB (envOf fr Try.prog).fr.N draw ops = true := fun h => by rw [envOf_fr, hN]; exact h
  by_cases he : n.entries.length = 0
  · have hg : decide ((0 : Int) < (n.entries.length : Int)) = false := by simp only [decide_eq_false_iff_not]; omega
    rw [show refV c p n = pk c p [31, -1, 5] from if_pos he, show refA c p n = p + 1 from if_pos he]
    repeat' (first
      | exact True.intro
      | refine ev_seq ?_
      | ((first | refine vgd_go ?_ | refine ev_region hE hM (hS (by decide +kernel)) ?_ | refine ev_if ?_ | refine end_ret hE rfl rfl ?_ | refine end_norm hE rfl rfl ?_ | refine endG_ret [] hE rfl ?_ | refine endG_norm [] hE rfl ?_ | refine vcallG_at (args := [.ptr 1 0, .ref 16392]) 1 [16392] rfl hP (s_l1Pick c p [31, -1, 5] hc (by omega) (by omega) (by simp) (by simp)) ?_ | refine vcall_A ?_); simp (maxSteps := 2000000) only [go_sem, hP, ↓reduceIte, Nat.reduceAdd, Nat.reduceMul, Nat.reduceEqDiff, Nat.reduceSub, Nat.reduceLeDiff, reduceCtorEq, hg, List.length_map])
      | refine ev_skip ?_ | refine ev_block ?_ | refine ev_blk ?_ | refine ev_ret ?_ | refine ev_exit ?_ | refine evx_code_ret ?_ | refine evx_blk_ret ?_ | refine evx_lp_ret ?_
      | refine evx_code_exit ?_ | refine evx_lp_exit ?_ | refine evx_blk_hit ?_ | refine evx_blk_pass (by decide) ?_
      | refine And.intro ?_ ?_ | intro _ | decide +kernel | omega)
    all_goals first
      | rfl
      | (exfalso; omega)
      | (simp_all; done)
      | trace_state
  · have hg : decide ((0 : Int) < (n.entries.length : Int)) = true := by simp only [decide_eq_true_eq]; omega
    by_cases hv : nx c p 4 = 0
    · have hb : (nx c p 4 == 0) = true := by simpa using hv
      have e2 : p + 1 + 1 = p + 2 := by omega
      rw [show refV c p n = pk c (p + 1) [31, -1, 5] by unfold refV; rw [if_neg he, if_pos hv], show refA c p n = p + 2 from if_neg he]
      repeat' (first
        | exact True.intro
        | refine ev_seq ?_
        | ((first | refine vgd_go ?_ | refine ev_region hE hM (hS (by decide +kernel)) ?_ | refine ev_if ?_ | refine end_ret hE rfl rfl ?_ | refine end_norm hE rfl rfl ?_ | refine endG_ret [] hE rfl ?_ | refine endG_norm [] hE rfl ?_ | refine vcallG_at (args := [.ptr 1 0, iT 4]) 1 [] rfl hP (s_l1Chance c p 4 hc (by omega) (by omega) (by omega) (by omega)) ?_ | refine vcallG_at (args := [.ptr 1 0, .ref 16392]) 1 [16392] rfl hP (s_l1Pick c (p + 1) [31, -1, 5] hc (by omega) (by omega) (by simp) (by simp)) ?_ | refine vcall_A ?_); simp (maxSteps := 2000000) only [go_sem, hP, ↓reduceIte, Nat.reduceAdd, Nat.reduceMul, Nat.reduceEqDiff, Nat.reduceSub, Nat.reduceLeDiff, reduceCtorEq, hg, hb, e2, List.length_map])
        | refine ev_skip ?_ | refine ev_block ?_ | refine ev_blk ?_ | refine ev_ret ?_ | refine ev_exit ?_ | refine evx_code_ret ?_ | refine evx_blk_ret ?_ | refine evx_lp_ret ?_
        | refine evx_code_exit ?_ | refine evx_lp_exit ?_ | refine evx_blk_hit ?_ | refine evx_blk_pass (by decide) ?_
        | refine And.intro ?_ ?_ | intro _ | decide +kernel | omega)
      all_goals first
        | rfl
        | (exfalso; omega)
        | (simp_all; done)
        | trace_state
    · have hb : (nx c p 4 == 0) = false := by simpa using hv
      have e2 : p + 1 + 1 = p + 2 := by omega
      obtain ⟨p1, p2⟩ := nx_in (c := c) (a := p + 1) (n := n.entries.length) (by omega)
      rw [show refV c p n = (n.entries.getD (nx c (p + 1) n.entries.length).toNat default).ref by unfold refV; rw [if_neg he, if_neg hv], show refA c p n = p + 2 from if_neg he]
      repeat' (first
        | exact True.intro
        | refine ev_seq ?_
        | ((first | refine vgd_go ?_ | refine ev_region hE hM (hS (by decide +kernel)) ?_ | refine ev_if ?_ | refine end_ret hE rfl rfl ?_ | refine end_norm hE rfl rfl ?_ | refine endG_ret [] hE rfl ?_ | refine endG_norm [] hE rfl ?_ | refine vcallG_at (args := [.ptr 1 0, iT 4]) 1 [] rfl hP (s_l1Chance c p 4 hc (by omega) (by omega) (by omega) (by omega)) ?_ | refine vcallG_at (args := [.ptr 1 0, iT n.entries.length]) 1 [] rfl hP (s_l1Next c (p + 1) n.entries.length hc (by omega) (by omega) (by omega) (by omega)) ?_ | refine vcall_A ?_); simp (maxSteps := 2000000) only [go_sem, hP, ↓reduceIte, Nat.reduceAdd, Nat.reduceMul, Nat.reduceEqDiff, Nat.reduceSub, Nat.reduceLeDiff, reduceCtorEq, hg, hb, e2, List.length_map])
        | refine ev_skip ?_ | refine ev_block ?_ | refine ev_blk ?_ | refine ev_ret ?_ | refine ev_exit ?_ | refine evx_code_ret ?_ | refine evx_blk_ret ?_ | refine evx_lp_ret ?_
        | refine evx_code_exit ?_ | refine evx_lp_exit ?_ | refine evx_blk_hit ?_ | refine evx_blk_pass (by decide) ?_
        | refine And.intro ?_ ?_ | intro _ | decide +kernel | omega)
      all_goals first
        | rfl
        | (exfalso; omega)
        | omega
        | (simp_all; done)
        | trace_state
/-- Entries that may be wrong, the number of their dimensions, and where the code is read on. -/
structure BL where
  l : List Entry
  d : Int
  p : Int
def b5c (c : List Int) (a : Int) : Nat := (pk c (a + 1) [5, 5, 6, 8, 4, 3, 0]).toNat
theorem b5c_in (c : List Int) (a : Int) : pk c (a + 1) [5, 5, 6, 8, 4, 3, 0] = (b5c c a : Int) ∧ b5c c a ≤ 8 := by
  have h := pk_mem (c := c) (a := a + 1) (xs := [5, 5, 6, 8, 4, 3, 0]) (by simp)
  simp only [List.mem_cons, List.not_mem_nil, or_false] at h
  unfold b5c; omega
def b5f (c : List Int) (a : Int) : Bool := nx c (a + 2) 2 == 0
def b5e (c : List Int) (a : Int) : List Entry := listV c (a + 3) (b3d c a) (b5f c a) (b5c c a)
theorem b5e_len (c : List Int) (a : Int) : (b5e c a).length ≤ 8 := Nat.le_trans (listV_len _ _ _ _ _) (b5c_in c a).2
def b5p (c : List Int) (a : Int) : Int := a + 3 + lw (b3d c a) (b5f c a) * b5c c a
def b5v (c : List Int) (a : Int) : Int := nx c (b5p c a) 18
theorem b5p_in (c : List Int) (a : Int) : a ≤ b5p c a ∧ b5p c a ≤ a + 60300 := by
  have h1 := (b5c_in c a).2
  have h2 := (b3d_in c a).2
  have := lw_in (b3d c a) (b5c c a) (b5f c a) (by omega) (by omega)
  unfold b5p; omega
def sixV (c : List Int) (q : Int) (d k : Nat) : List Entry := (List.range k).map fun (i : Nat) => ⟨rectV c (q + 6 * d * i) d, 100 + i, 0⟩
def bl (c : List Int) (a : Int) : BL :=
  if b5v c a = 0 then ⟨b5e c a ++ [⟨bentV c (b5p c a + 1) (b3d c a), pk c (bentA c (b5p c a + 1) (b3d c a)) [40, 1000, -1], 0⟩], b3d c a, bentA c (b5p c a + 1) (b3d c a) + 1⟩
  else if b5v c a = 1 then ⟨if (b5e c a).length = 0 then [] else b5e c a ++ [(b5e c a).getD 0 default], b3d c a, b5p c a + 1⟩
  else if b5v c a = 2 then ⟨b5e c a ++ sixV c (b5p c a + 1) (b3d c a) 6, b3d c a, b5p c a + 1 + 6 * b3d c a * 6⟩
  else if b5v c a = 3 then ⟨b5e c a, pk c (b5p c a + 1) [1, 2, 3, 4], b5p c a + 2⟩
  else ⟨b5e c a, b3d c a, b5p c a + 1⟩
theorem bl_p (c : List Int) (a : Int) : a ≤ (bl c a).p ∧ (bl c a).p ≤ a + 61000 := by
  have h1 := b5p_in c a
  have h2 := (b3d_in c a).2
  have h3 := bentA_in c (b5p c a + 1) (b3d c a)
  unfold bl
  (repeat' split) <;> simp only <;> omega
def clD (d : Int) : Nat := (min (max d 2) 3).toNat
theorem clD_in (d : Int) : clD d = 2 ∨ clD d = 3 := by unfold clD; omega
theorem clD_eq (d : Int) : min (max d 2) 3 = (clD d : Int) := by unfold clD; omega
def ceR (c : List Int) : Rect := bentV c (bl c 0).p (clD (bl c 0).d)
def efN (c : List Int) : Node := (bn c 0).n
def efD (c : List Int) : Int := (bn c 0).d
def efP (c : List Int) : Int := (bn c 0).p
def efR (c : List Int) : Int := refV c (efP c) (efN c)
def wiR (c : List Int) : Rect := bentV c 26 (clD (efD c))
theorem bn_in (c : List Int) (a : Int) : a ≤ (bn c a).p ∧ (bn c a).p ≤ a + 130000 ∧ (bn c a).n.entries.length ≤ 20 := by
  have h1 := b3q_in c a
  have h2 := (b3d_in c a).2
  have h3 := bentA_in c (b3q c a) (b3d c a)
  have h4 := lw_in (b3d c a) 9 true (by omega) (by omega)
  have h5 := dnE_len c (a + 1) (b3d c a)
  have h6 := listV_len c (b3q c a) (b3d c a) true 9
  have h7 : lw (b3d c a) true = 6 * b3d c a + 1 := rfl
  have h8 : (b3n c a).entries = dnE c (a + 1) (b3d c a) := rfl
  have e1 : ∀ x : Entry, ((b3n c a).entries ++ [x]).length ≤ 6 := fun x => by rw [List.length_append, h8]; simp; omega
  unfold bn
  (repeat' split) <;> refine ⟨?_, ?_, ?_⟩ <;> first
    | (simp only; omega)
    | (simp only [h8]; omega)
    | (refine Nat.le_trans (e1 _) ?_; omega)
    | (simp; done)
theorem s_DrawEntryFor (c : List Int) (hc : codeOk c) : Sat Try.prog 76 [aY c] false [(true, [.int .i64 (efN c).level, .int .i64 (efN c).nsn, .int .i64 (efN c).right, sEntryS (efN c).entries]), (false, [.int .i64 (efD c)]), (false, [.int .i64 (efR c)])] := by
  refine sat_walk (fn := Try.f76) rfl rfl rfl (Nat.le_of_ble_eq_true rfl) fun fr hP hN hbnd => ?_
  have hE : (envOf fr Try.prog).Ok := envOf_ok hP
  have hM := follows_of hP
  have hS : ∀ {draw ops}, statB Try.f76.ntmps draw ops = true → statB (envOf fr Try.prog).fr.N draw ops = true := fun h => by rw [envOf_fr, hN]; exact h
  obtain ⟨q1, q2, q3⟩ := bn_in c 0
  have k1 := s_l3Bent c 0 hc (by omega) (by omega)
  have k2 := s_l3Ref c (efP c) (efN c) hc q1 (by unfold efP; omega) (by unfold efN; omega)
  rw [show refV c (efP c) (efN c) = efR c from rfl] at k2
  rw [show (bn c 0).n = efN c from rfl, show (bn c 0).d = efD c from rfl, show (bn c 0).p = efP c from rfl] at k1
  repeat' (first
    | exact True.intro
    | refine ev_seq ?_
    | ((first | refine ev_stop 3 ?_ | refine vgd_go ?_ | refine ev_region hE hM (hS (by decide +kernel)) ?_ | refine ev_if ?_ | refine end_ret hE rfl rfl ?_ | refine end_norm hE rfl rfl ?_ | refine endG_ret [] hE rfl ?_ | refine endG_norm [] hE rfl ?_ | refine vcallG_of (args := [.c (sY c)]) [] [] hP (s_l1Source c) ?_ | refine vcallG_at (args := [.ptr 1052680 0]) 1052680 [] rfl hP (k1) ?_ | refine vcall_A ?_); simp (maxSteps := 2000000) only [go_sem, hP, ↓reduceIte, Nat.reduceAdd, Nat.reduceMul, Nat.reduceEqDiff, Nat.reduceSub, Nat.reduceLeDiff, reduceCtorEq])
    | refine ev_skip ?_ | refine ev_block ?_ | refine ev_blk ?_ | refine ev_ret ?_ | refine ev_exit ?_ | refine evx_code_ret ?_ | refine evx_blk_ret ?_ | refine evx_lp_ret ?_
    | refine evx_code_exit ?_ | refine evx_lp_exit ?_ | refine evx_blk_hit ?_ | refine evx_blk_pass (by decide) ?_
    | refine And.intro ?_ ?_ | intro _ | decide +kernel | omega)
  first | refine Stop.mk ?_ | skip
  refine ev_cut [(2, .ptr 0 0), (5, .ptr 1052680 0), (6, .ptr 8232 0), (7, iT (efD c))] [(0, .box [iT 0, iT 0, iT 0, .nilS]), (1052680, bSrc c (efP c)), (8232, .box [iT (efN c).level, iT (efN c).nsn, iT (efN c).right, .c (sEntryS (efN c).entries)])] [] [] (by simp only [go_sem, hP, ↓reduceIte, Nat.reduceAdd, Nat.reduceMul, Nat.reduceEqDiff, Nat.reduceSub, Nat.reduceLeDiff, reduceCtorEq]; simp) ?_
  refine ev_pv 8232 [.int .i64 (efN c).level, .int .i64 (efN c).nsn, .int .i64 (efN c).right, sEntryS (efN c).entries] rfl ?_
  simp only [pvS, pvH, pvT, pvB, pvTs, Nat.reduceEqDiff, ↓reduceIte, List.drop_zero, reduceCtorEq]
  repeat' (first
    | exact True.intro
    | refine ev_seq ?_
    | ((first | refine vgd_go ?_ | refine ev_region hE hM (hS (by decide +kernel)) ?_ | refine ev_if ?_ | refine end_ret hE rfl rfl ?_ | refine end_norm hE rfl rfl ?_ | refine endG_ret [] hE rfl ?_ | refine endG_norm [] hE rfl ?_ | refine vcallG_of (args := [.ptr 1052680 0, .pv [.int .i64 (efN c).level, .int .i64 (efN c).nsn, .int .i64 (efN c).right, sEntryS (efN c).entries]]) [(1, 1052680)] [] hP k2 ?_ | refine vcall_A ?_); simp (maxSteps := 2000000) only [go_sem, hP, ↓reduceIte, Nat.reduceAdd, Nat.reduceMul, Nat.reduceEqDiff, Nat.reduceSub, Nat.reduceLeDiff, reduceCtorEq])
    | refine ev_skip ?_ | refine ev_block ?_ | refine ev_blk ?_ | refine ev_ret ?_ | refine ev_exit ?_ | refine evx_code_ret ?_ | refine evx_blk_ret ?_ | refine evx_lp_ret ?_
    | refine evx_code_exit ?_ | refine evx_lp_exit ?_ | refine evx_blk_hit ?_ | refine evx_blk_pass (by decide) ?_
    | refine And.intro ?_ ?_ | intro _ | decide +kernel | omega)
  all_goals first
    | rfl
    | (simp_all; done)
    | trace_state
def weP (c : List Int) : Int := bentA c (efP c) (clD (efD c))
def weE (c : List Int) : Entry := ⟨bentV c (efP c) (clD (efD c)), pk c (weP c + 3) [nx c (weP c) 60, nx c (weP c + 1) 60, nx c (weP c + 2) 60, 999, 1000, -1], pk c (weP c + 4) [0, 0, 0, 1, 100001]⟩
theorem s_DrawWithEntry (c : List Int) (hc : codeOk c) : Sat Try.prog 74 [aY c] false [(true, [.int .i64 (efN c).level, .int .i64 (efN c).nsn, .int .i64 (efN c).right, sEntryS (efN c).entries]), (false, [.int .i64 (efD c)]), (true, eEntry (weE c))] := by
  refine sat_walk (fn := Try.f74) rfl rfl rfl (Nat.le_of_ble_eq_true rfl) fun fr hP hN hbnd => ?_
  have hE : (envOf fr Try.prog).Ok := envOf_ok hP
  have hM := follows_of hP
  have hS : ∀ {draw ops}, statB Try.f74.ntmps draw ops = true → statB (envOf fr Try.prog).fr.N draw ops = true := fun h => by rw [envOf_fr, hN]; exact h
  obtain ⟨q1, q2, q3⟩ := bn_in c 0
  have e := clD_in (efD c)
  have q1 : 0 ≤ efP c := q1
  have q2 : efP c ≤ 0 + 130000 := q2
  have qb := bentA_in c (efP c) (clD (efD c))
  have qc : efP c ≤ weP c ∧ weP c ≤ efP c + 100 := by unfold weP; omega
  have k1 := s_l3Bent c 0 hc (by omega) (by omega)
  rw [show (bn c 0).n = efN c from rfl, show (bn c 0).d = efD c from rfl, show (bn c 0).p = efP c from rfl] at k1
  have k2 := s_l1Bent c (efP c) (clD (efD c)) hc (by omega) (by omega) (by omega) (by omega)
  rw [show bentA c (efP c) (clD (efD c)) = weP c from rfl] at k2
  have k3 := s_l1Min (max (efD c) 2) 3
  rw [clD_eq] at k3
  have k4 := s_l1Pick c (weP c + 3) [nx c (weP c) 60, nx c (weP c + 1) 60, nx c (weP c + 2) 60, 999, 1000, -1] hc (by omega) (by omega) (by simp) (by simp)
  have k5 := s_l1Pick c (weP c + 4) [0, 0, 0, 1, 100001] hc (by omega) (by omega) (by simp) (by simp)
  have e1 : weP c + 1 + 1 = weP c + 2 := by omega
  have e2 : weP c + 2 + 1 = weP c + 3 := by omega
  have e3 : weP c + 3 + 1 = weP c + 4 := by omega
  repeat' (first
    | exact True.intro
    | refine ev_seq ?_
    | ((first | refine vgd_go ?_ | refine ev_region hE hM (hS (by decide +kernel)) ?_ | refine ev_if ?_ | refine end_ret hE rfl rfl ?_ | refine end_norm hE rfl rfl ?_ | refine endG_ret [] hE rfl ?_ | refine endG_norm [] hE rfl ?_ | refine vcallG_of (args := [.c (sY c)]) [] [] hP (s_l1Source c) ?_ | refine vcallG_at (args := [.ptr 1052680 0]) 1052680 [] rfl hP (k1) ?_ | refine vcallG_at (args := [.ptr 1052680 0, iT (clD (efD c))]) 1052680 [] rfl hP (k2) ?_ | refine vcallG_at (args := [.ptr 1052680 0, iT 60]) 1052680 [] rfl hP (s_l1Next c _ 60 hc (by omega) (by omega) (by omega) (by omega)) ?_ | refine vcallB_of hP (s_l1Max (efD c) 2) ?_ | refine vcallB_of hP k3 ?_ | refine vcallG_at (args := [.ptr 1052680 0, .ref 12400]) 1052680 [12400] rfl hP (k4) ?_ | refine vcallG_at (args := [.ptr 1052680 0, .ref 12424]) 1052680 [12424] rfl hP (k5) ?_ | refine vcall_A ?_); simp (maxSteps := 2000000) only [go_sem, hP, ↓reduceIte, Nat.reduceAdd, Nat.reduceMul, Nat.reduceEqDiff, Nat.reduceSub, Nat.reduceLeDiff, reduceCtorEq, e1, e2, e3])
    | refine ev_skip ?_ | refine ev_block ?_ | refine ev_blk ?_ | refine ev_ret ?_ | refine ev_exit ?_ | refine evx_code_ret ?_ | refine evx_blk_ret ?_ | refine evx_lp_ret ?_
    | refine evx_code_exit ?_ | refine evx_lp_exit ?_ | refine evx_blk_hit ?_ | refine evx_blk_pass (by decide) ?_
    | refine And.intro ?_ ?_ | intro _ | decide +kernel | omega)
  all_goals first
    | rfl
    | (exfalso; omega)
    | (simp_all [eEntry_eq, weE]; done)
    | trace_state
theorem better_no {xs : List Entry} {r : Rect} {i j : Nat} (h : ¬ better xs r i j = true) : growth (xs.getD j default).rect r ≤ growth (xs.getD i default).rect r := by
  unfold better at h
  simp only [Bool.or_eq_true, Bool.and_eq_true, decide_eq_true_eq] at h
  omega
theorem better_yes {xs : List Entry} {r : Rect} {i j : Nat} (h : better xs r i j = true) : growth (xs.getD i default).rect r ≤ growth (xs.getD j default).rect r := by
  unfold better at h
  simp only [Bool.or_eq_true, Bool.and_eq_true, decide_eq_true_eq] at h
  omega
theorem choose_least (xs : List Entry) (r : Rect) : ∀ k j, j < k → growth (xs.getD (chooseTo xs r k) default).rect r ≤ growth (xs.getD j default).rect r
  | 0, j, h => by omega
  | k + 1, j, h => by
    by_cases hb : better xs r k (chooseTo xs r k) = true
    · rw [chooseTo_yes hb]
      rcases Nat.lt_or_ge j k with hlt | hge
      · exact Int.le_trans (better_yes hb) (choose_least xs r k j hlt)
      · obtain rfl : j = k := by omega
        exact Int.le_refl _
    · rw [chooseTo_no hb]
      rcases Nat.lt_or_ge j k with hlt | hge
      · exact choose_least xs r k j hlt
      · obtain rfl : j = k := by omega
        exact better_no hb
theorem chcode_zero {xs : List Entry} {d : Int} {r : Rect} (h : chcode xs d r = 0) : esf xs d = 0 ∧ rf r d = 0 ∧ 0 < xs.length := by
  unfold chcode at h
  (repeat' split at h) <;> omega
theorem two_of {a b : Rect} {d : Int} (h1 : rf a d = 0) (h2 : rf b d = 0) : two a b = 0 := by
  have := rf_len h1
  exact two_iff.2 ⟨by rw [this.1]; exact h1, by rw [this.1]; exact h2⟩
theorem firstF_all {α : Type} {f : α → Int} : ∀ {xs : List α}, (∀ x ∈ xs, f x = 0) → firstF f xs = 0
  | [], _ => rfl
  | x :: xs, h => by
    unfold firstF
    rw [if_pos (h x (by simp))]
    exact firstF_all fun y hy => h y (by simp [hy])
theorem dupAt_iff {xs : List Entry} {b : Nat} (hb : b < xs.length) : dupAt xs b = true ↔ ∃ a, a < b ∧ (xs.getD a default).ref = (xs.getD b default).ref := by
  unfold dupAt
  rw [List.any_eq_true]
  constructor
  · rintro ⟨x, hx, he⟩
    obtain ⟨a, ha, rfl⟩ := List.mem_iff_getElem.1 hx
    rw [List.length_take] at ha
    refine ⟨a, by omega, ?_⟩
    rw [getD_lt (show a < xs.length by omega)]
    simpa using he
  · rintro ⟨a, ha, he⟩
    have hl : a < (xs.take b).length := by rw [List.length_take]; omega
    refine ⟨(xs.take b)[a], List.getElem_mem hl, ?_⟩
    rw [List.getElem_take, ← getD_lt (show a < xs.length by omega)]
    simpa using he
theorem noDup_iff {xs : List Entry} : noDup xs = true ↔ ∀ a b, a < b → b < xs.length → (xs.getD a default).ref ≠ (xs.getD b default).ref := by
  unfold noDup
  rw [allLt_iff]
  constructor
  · intro h a b hab hb he
    have h1 := h b hb
    have h2 := (dupAt_iff hb).2 ⟨a, hab, he⟩
    rw [h2] at h1; cases h1
  · intro h b hb
    cases hq : dupAt xs b with
    | false => rfl
    | true =>
      obtain ⟨a, hab, he⟩ := (dupAt_iff hb).1 hq
      exact absurd he (h a b hab hb)
theorem noDup_nodup {xs : List Entry} : noDup xs = true ↔ (xs.map (·.ref)).Nodup := by
  rw [noDup_iff, List.nodup_iff_pairwise_ne, List.pairwise_iff_getElem]
  constructor
  · intro h i j hi hj hij
    rw [List.length_map] at hi hj
    have := h i j hij hj
    rw [getD_lt hi, getD_lt hj] at this
    simpa using this
  · intro h a b hab hb
    have := h a b (by rw [List.length_map]; omega) (by rw [List.length_map]; omega) hab
    rw [getD_lt (show a < xs.length by omega), getD_lt hb]
    simpa using this
theorem nf_iff {n : Node} {d : Int} : nf n d = 0 ↔ (inB d 2 3 && inB n.level 0 6 && inB n.nsn 0 100000 && inB n.right (-1) 39) = true ∧ n.entries.length ≤ 5 ∧ (∀ x ∈ n.entries, entryF d x = 0) ∧ (∀ x ∈ n.entries, fits n.level x = true) ∧ noDup n.entries = true := by
  constructor
  · intro h
    unfold nf at h
    split at h
    · omega
    rename_i h1
    split at h
    · omega
    rename_i h2
    split at h
    · rename_i h3; exact absurd h h3
    rename_i h3
    split at h
    · omega
    rename_i h4
    split at h
    · rename_i h5
      exact ⟨by rw [Bool.not_eq_false] at h1; exact h1, by omega, firstF_zero (by simpa using h3), by simpa using h4, h5⟩
    · omega
  · rintro ⟨h1, h2, h3, h4, h5⟩
    unfold nf
    rw [if_neg (by rw [h1]; simp), if_neg (by omega), if_neg (by rw [firstF_all h3]; simp), if_neg (by rw [List.all_eq_true.2 h4]; simp), if_pos h5]
theorem findRef_none {xs : List Entry} {r : Int} : findRef xs r < 0 ↔ ∀ x ∈ xs, x.ref ≠ r := by
  unfold findRef
  split
  · rename_i h
    obtain ⟨x, hx, he⟩ := List.any_eq_true.1 h
    constructor
    · intro h; omega
    · intro h; exact absurd (by simpa using he) (h x hx)
  · rename_i h
    constructor
    · intro _ x hx he
      exact h (List.any_eq_true.2 ⟨x, hx, by simpa using he⟩)
    · intro _; omega
theorem findRef_here {xs : List Entry} {i : Nat} {r : Int} (h : noDup xs = true) (hi : i < xs.length) (hr : (xs.getD i default).ref = r) : findRef xs r = i := by
  subst hr
  rw [findRef_self hi]
  cases hq : dupAt xs i with
  | false => rfl
  | true =>
    obtain ⟨a, ha, he⟩ := (dupAt_iff hi).1 hq
    exact absurd he (noDup_iff.1 h a i ha hi)
theorem weC_zero {n : Node} {d : Int} {e : Entry} (h : weC n d e = 0) : nf n d = 0 ∧ entryF d e = 0 ∧ fits n.level e = true ∧ findRef n.entries e.ref < 0 ∧ n.entries.length ≤ 4 := by
  unfold weC at h
  split at h
  · rename_i h1; exact absurd h h1
  rename_i h1
  split at h
  · rename_i h2; exact absurd h h2
  rename_i h2
  (repeat' split at h) <;> first | omega | skip
  rename_i h3 h4 h5
  exact ⟨by simpa using h1, by simpa using h2, by simpa using h3, by omega, by omega⟩
theorem nf_with {n : Node} {d : Int} {e : Entry} (h : weC n d e = 0) : nf ⟨n.level, n.nsn, n.right, n.entries ++ [e]⟩ d = 0 := by
  obtain ⟨h1, h2, h3, h4, h5⟩ := weC_zero h
  obtain ⟨g1, g2, g3, g4, g5⟩ := nf_iff.1 h1
  refine nf_iff.2 ⟨g1, by simp; omega, fun x hx => ?_, fun x hx => ?_, ?_⟩
  · rcases List.mem_append.1 hx with hx | hx
    · exact g3 x hx
    · rw [List.mem_singleton.1 hx]; exact h2
  · rcases List.mem_append.1 hx with hx | hx
    · exact g4 x hx
    · rw [List.mem_singleton.1 hx]; exact h3
  · rw [noDup_nodup] at g5 ⊢
    simp only [List.map_append, List.map_cons, List.map_nil]
    rw [List.nodup_append]
    refine ⟨g5, by simp, fun a ha b hb => ?_⟩
    obtain ⟨x, hx, rfl⟩ := List.mem_map.1 ha
    simp only [List.mem_cons, List.not_mem_nil, or_false] at hb
    subst hb
    exact findRef_none.1 h4 x hx
theorem without_sub (xs : List Entry) (i : Nat) : (xs.take i ++ xs.drop (i + 1)).Sublist xs := by
  conv => rhs; rw [← List.take_append_drop i xs]
  refine List.Sublist.append (List.Sublist.refl _) ?_
  have : xs.drop (i + 1) = (xs.drop i).drop 1 := by rw [List.drop_drop]
  rw [this]; exact List.drop_sublist _ _
theorem nf_without {n : Node} {d : Int} (i : Nat) (h : nf n d = 0) : nf ⟨n.level, n.nsn, n.right, n.entries.take i ++ n.entries.drop (i + 1)⟩ d = 0 := by
  obtain ⟨g1, g2, g3, g4, g5⟩ := nf_iff.1 h
  have hs := without_sub n.entries i
  exact nf_iff.2 ⟨g1, Nat.le_trans hs.length_le g2, fun x hx => g3 x (hs.subset hx), fun x hx => g4 x (hs.subset hx), noDup_nodup.2 ((hs.map _).nodup (noDup_nodup.1 g5))⟩
theorem without_gone {xs : List Entry} {i : Nat} {r : Int} (h : noDup xs = true) (hi : i < xs.length) (hr : (xs.getD i default).ref = r) : findRef (xs.take i ++ xs.drop (i + 1)) r < 0 := by
  rw [← filterE_one h hi hr, findRef_none]
  intro x hx
  simpa using (List.mem_filter.1 hx).2
theorem without_len {xs : List Entry} {i : Nat} (hi : i < xs.length) : (xs.take i ++ xs.drop (i + 1)).length = xs.length - 1 := by
  simp; omega
end Go.Proofs.Ytmpndkhnajogkaa.W
