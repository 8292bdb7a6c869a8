/- Contracts of functions that the statements of this seat reach: what each returns; it writes to nothing of old. No condition but those that each theorem states. -/
import Derived.Test.YtmpndkhnajogkaaPa
open Go Go.Vm Go.Proofs Go.IntWalk Go.RowKit
set_option maxRecDepth 100000
set_option maxHeartbeats 4000000
set_option linter.unusedSimpArgs false
set_option linter.unusedVariables false
set_option linter.unusedSectionVars false
namespace Go.Proofs.Ytmpndkhnajogkaa.W
attribute [local irreducible] kJ ev evx vops vstep vgo vgd vget vcall vcallFn vcallA vcallB vts vres vcond vbin
theorem s_l1Bent2 (c : List Int) (a : Int) (d : Nat) (hc : codeOk c) (h0 : 0 ≤ a) (h1 : a ≤ 1073000000 - 100000) (hd0 : 2 ≤ d) (hd : d ≤ 100) (hv : nx c (a + 6 * d) 14 = 2) : SatG Try.prog 150 false [.ptr 1 0, iT d] [(1, bSrc c a)] (.agg [.c (sI (bentV c a d).low), .c (sI (bentV c a d).high)]) [(1, bSrc c (bentA c a d))] := by
  have ev : bentV c a d = ⟨rectLo c a d ++ [0], rectHi c a d⟩ := by unfold bentV; simp [hv, rectV]
  have ea : bentA c a d = a + 6 * d + 1 := by unfold bentA; simp [hv]
  rw [ev, ea]
  have h : SatG Try.prog 150 false [.ptr 1 0, iT d] [(1, bSrc c a)] (.agg [.ref 2, .ref 3]) ((1, bSrc c (a + 6 * d + 1)) :: [(2, .fro 1 ((rectLo c a d ++ [0]).map eI)), (3, .fro 1 ((rectHi c a d).map eI))]) := by
    refine satG_walk (fn := Try.f150) rfl rfl rfl (Nat.le_of_ble_eq_true rfl) (by simp) fun fr hP hN hdp hb1 hb2 => ?_
    have hE : (envOf fr Try.prog).Ok := envOf_ok hP
    have hM := follows_of hP
    have hS : ∀ {draw ops}, statB Try.f150.ntmps draw ops = true → statB (envOf fr Try.prog).fr.N draw ops = true := fun h => by rw [envOf_fr, hN]; exact h
    have q0 := rectV_hi c a d 0 (by omega)
    have q1 := rectV_hi c a d 1 (by omega)
    have hl1 : (rectLo c a d).length = d := by simp [rectLo]
    have hl2 : (rectHi c a d).length = d := by simp [rectHi]
    have hw0 : IntKind.i64.wrap ((rectHi c a d).getD 0 default + 1) = (rectHi c a d).getD 0 default + 1 := i64_in _ (by omega)
    have hp : a + 6 * (d : Int) + 1 + 1 = a + 6 * d + 2 := by omega
    have t0 : Int.toNat 0 = 0 := rfl
    have t1 : Int.toNat 1 = 1 := rfl
    repeat' (first
      | exact True.intro
      | refine ev_seq ?_
      | ((first | refine endG_ret [(2, some 32792), (3, some 3149840)] hE rfl ?_ | refine vgd_go ?_ | refine ev_region hE hM (hS (by decide +kernel)) ?_ | refine ev_if ?_ | refine end_ret hE rfl rfl ?_ | refine end_norm hE rfl rfl ?_ | refine endG_ret [] hE rfl ?_ | refine endG_norm [] hE rfl ?_ | refine vcallG_at (args := [.ptr 1 0, iT d]) 1 [] rfl hP (s_l1RectR c _ d hc (by omega) (by omega) (by omega) hd) ?_ | refine vcallG_at (args := [.ptr 1 0, iT 14]) 1 [] rfl hP (s_l1Next c _ 14 hc (by omega) (by omega) (by omega) (by omega)) ?_ | refine vcall_A ?_); simp (maxSteps := 2000000) only [go_sem, hP, ↓reduceIte, Nat.reduceAdd, Nat.reduceMul, Nat.reduceEqDiff, Nat.reduceSub, Nat.reduceLeDiff, reduceCtorEq, hp, List.length_map, List.length_set, hl1, hl2, hw0, t0, t1, Int.reduceBEq, hv])
      | refine ev_skip ?_ | refine ev_block ?_ | refine ev_blk ?_ | refine ev_ret ?_ | refine ev_exit ?_ | refine evx_code_ret ?_ | refine evx_blk_ret ?_ | refine evx_lp_ret ?_
      | refine evx_code_exit ?_ | refine evx_lp_exit ?_ | refine evx_blk_hit ?_ | refine evx_blk_pass (by decide) ?_
      | refine And.intro ?_ ?_ | intro _ | decide +kernel | omega)
    all_goals first
      | (exfalso; omega)
      | rfl
      | omega
      | (simp [List.map_set, List.map_drop, Es.strip_map]; done)
      | (simp [Es.strip_map]; exact ⟨fun _ _ => rfl, rfl⟩)
      | (rw [← strip_eI, List.map_set]; rfl)
      | (rw [List.take_of_length_le (by simp [hl2]), List.map_drop])
      | (rename_i h; exact h.symm)
      | trace_state
  exact satG_data (fz := [(2, .fro 1 ((rectLo c a d ++ [0]).map eI)), (3, .fro 1 ((rectHi c a d).map eI))]) (fun κ h => by simp only [lk] at h; split at h <;> simp_all) trivial rfl h
theorem s_l1Bent3 (c : List Int) (a : Int) (d : Nat) (hc : codeOk c) (h0 : 0 ≤ a) (h1 : a ≤ 1073000000 - 100000) (hd0 : 2 ≤ d) (hd : d ≤ 100) (hv : nx c (a + 6 * d) 14 = 3) : SatG Try.prog 150 false [.ptr 1 0, iT d] [(1, bSrc c a)] (.agg [.c (sI (bentV c a d).low), .c (sI (bentV c a d).high)]) [(1, bSrc c (bentA c a d))] := by
  have ev : bentV c a d = ⟨rectLo c a d, (rectHi c a d).set 1 (pk c (a + 6 * d + 1) [1000, 1001, -1000])⟩ := by unfold bentV; simp [hv, rectV]
  have ea : bentA c a d = a + 6 * d + 2 := by unfold bentA; simp [hv]
  rw [ev, ea]
  have h : SatG Try.prog 150 false [.ptr 1 0, iT d] [(1, bSrc c a)] (.agg [.ref 2, .ref 3]) ((1, bSrc c (a + 6 * d + 2)) :: [(2, .fro 1 ((rectLo c a d).map eI)), (3, .fro 1 (((rectHi c a d).set 1 (pk c (a + 6 * d + 1) [1000, 1001, -1000])).map eI))]) := by
    refine satG_walk (fn := Try.f150) rfl rfl rfl (Nat.le_of_ble_eq_true rfl) (by simp) fun fr hP hN hdp hb1 hb2 => ?_
    have hE : (envOf fr Try.prog).Ok := envOf_ok hP
    have hM := follows_of hP
    have hS : ∀ {draw ops}, statB Try.f150.ntmps draw ops = true → statB (envOf fr Try.prog).fr.N draw ops = true := fun h => by rw [envOf_fr, hN]; exact h
    have q0 := rectV_hi c a d 0 (by omega)
    have q1 := rectV_hi c a d 1 (by omega)
    have hl1 : (rectLo c a d).length = d := by simp [rectLo]
    have hl2 : (rectHi c a d).length = d := by simp [rectHi]
    have hw0 : IntKind.i64.wrap ((rectHi c a d).getD 0 default + 1) = (rectHi c a d).getD 0 default + 1 := i64_in _ (by omega)
    have hp : a + 6 * (d : Int) + 1 + 1 = a + 6 * d + 2 := by omega
    have t0 : Int.toNat 0 = 0 := rfl
    have t1 : Int.toNat 1 = 1 := rfl
    repeat' (first
      | exact True.intro
      | refine ev_seq ?_
      | ((first | refine endG_ret [(2, some 2101264), (3, some 3149840)] hE rfl ?_ | refine vgd_go ?_ | refine ev_region hE hM (hS (by decide +kernel)) ?_ | refine ev_if ?_ | refine end_ret hE rfl rfl ?_ | refine end_norm hE rfl rfl ?_ | refine endG_ret [] hE rfl ?_ | refine endG_norm [] hE rfl ?_ | refine vcallG_at (args := [.ptr 1 0, iT d]) 1 [] rfl hP (s_l1RectR c _ d hc (by omega) (by omega) (by omega) hd) ?_ | refine vcallG_at (args := [.ptr 1 0, iT 14]) 1 [] rfl hP (s_l1Next c _ 14 hc (by omega) (by omega) (by omega) (by omega)) ?_ | refine vcallG_at (args := [.ptr 1 0, .ref 40984]) 1 [40984] rfl hP (s_l1Pick c (a + 6 * d + 1) [1000, 1001, -1000] hc (by omega) (by omega) (by simp) (by simp)) ?_ | refine vcall_A ?_); simp (maxSteps := 2000000) only [go_sem, hP, ↓reduceIte, Nat.reduceAdd, Nat.reduceMul, Nat.reduceEqDiff, Nat.reduceSub, Nat.reduceLeDiff, reduceCtorEq, hp, List.length_map, List.length_set, hl1, hl2, hw0, t0, t1, Int.reduceBEq, hv])
      | refine ev_skip ?_ | refine ev_block ?_ | refine ev_blk ?_ | refine ev_ret ?_ | refine ev_exit ?_ | refine evx_code_ret ?_ | refine evx_blk_ret ?_ | refine evx_lp_ret ?_
      | refine evx_code_exit ?_ | refine evx_lp_exit ?_ | refine evx_blk_hit ?_ | refine evx_blk_pass (by decide) ?_
      | refine And.intro ?_ ?_ | intro _ | decide +kernel | omega)
    all_goals first
      | (exfalso; omega)
      | rfl
      | omega
      | (simp [List.map_set, List.map_drop, Es.strip_map]; done)
      | (simp [Es.strip_map]; exact ⟨fun _ _ => rfl, rfl⟩)
      | (rw [← strip_eI, List.map_set]; rfl)
      | (rw [List.take_of_length_le (by simp [hl2]), List.map_drop])
      | (rename_i h; exact h.symm)
      | trace_state
  exact satG_data (fz := [(2, .fro 1 ((rectLo c a d).map eI)), (3, .fro 1 (((rectHi c a d).set 1 (pk c (a + 6 * d + 1) [1000, 1001, -1000])).map eI))]) (fun κ h => by simp only [lk] at h; split at h <;> simp_all) trivial rfl h
theorem s_l1Bent4 (c : List Int) (a : Int) (d : Nat) (hc : codeOk c) (h0 : 0 ≤ a) (h1 : a ≤ 1073000000 - 100000) (hd0 : 2 ≤ d) (hd : d ≤ 100) (g0 : nx c (a + 6 * d) 14 ≠ 0) (g1 : nx c (a + 6 * d) 14 ≠ 1) (g2 : nx c (a + 6 * d) 14 ≠ 2) (g3 : nx c (a + 6 * d) 14 ≠ 3) : SatG Try.prog 150 false [.ptr 1 0, iT d] [(1, bSrc c a)] (.agg [.c (sI (bentV c a d).low), .c (sI (bentV c a d).high)]) [(1, bSrc c (bentA c a d))] := by
  have ev : bentV c a d = ⟨rectLo c a d, rectHi c a d⟩ := by unfold bentV; simp [g0, g1, g2, g3, rectV]
  have ea : bentA c a d = a + 6 * d + 1 := by unfold bentA; simp [g0, g3]
  rw [ev, ea]
  have h : SatG Try.prog 150 false [.ptr 1 0, iT d] [(1, bSrc c a)] (.agg [.ref 2, .ref 3]) ((1, bSrc c (a + 6 * d + 1)) :: [(2, .fro 1 ((rectLo c a d).map eI)), (3, .fro 1 ((rectHi c a d).map eI))]) := by
    refine satG_walk (fn := Try.f150) rfl rfl rfl (Nat.le_of_ble_eq_true rfl) (by simp) fun fr hP hN hdp hb1 hb2 => ?_
    have hE : (envOf fr Try.prog).Ok := envOf_ok hP
    have hM := follows_of hP
    have hS : ∀ {draw ops}, statB Try.f150.ntmps draw ops = true → statB (envOf fr Try.prog).fr.N draw ops = true := fun h => by rw [envOf_fr, hN]; exact h
    have q0 := rectV_hi c a d 0 (by omega)
    have q1 := rectV_hi c a d 1 (by omega)
    have hl1 : (rectLo c a d).length = d := by simp [rectLo]
    have hl2 : (rectHi c a d).length = d := by simp [rectHi]
    have hw0 : IntKind.i64.wrap ((rectHi c a d).getD 0 default + 1) = (rectHi c a d).getD 0 default + 1 := i64_in _ (by omega)
    have hp : a + 6 * (d : Int) + 1 + 1 = a + 6 * d + 2 := by omega
    have t0 : Int.toNat 0 = 0 := rfl
    have t1 : Int.toNat 1 = 1 := rfl
    have b0 : (nx c (a + 6 * d) 14 == 0) = false := beq_eq_false_iff_ne.2 g0
    have b1 : (nx c (a + 6 * d) 14 == 1) = false := beq_eq_false_iff_ne.2 g1
    have b2 : (nx c (a + 6 * d) 14 == 2) = false := beq_eq_false_iff_ne.2 g2
    have b3 : (nx c (a + 6 * d) 14 == 3) = false := beq_eq_false_iff_ne.2 g3
    repeat' (first
      | exact True.intro
      | refine ev_seq ?_
      | ((first | refine endG_ret [(2, some 2101264), (3, some 3149840)] hE rfl ?_ | refine vgd_go ?_ | refine ev_region hE hM (hS (by decide +kernel)) ?_ | refine ev_if ?_ | refine end_ret hE rfl rfl ?_ | refine end_norm hE rfl rfl ?_ | refine endG_ret [] hE rfl ?_ | refine endG_norm [] hE rfl ?_ | refine vcallG_at (args := [.ptr 1 0, iT d]) 1 [] rfl hP (s_l1RectR c _ d hc (by omega) (by omega) (by omega) hd) ?_ | refine vcallG_at (args := [.ptr 1 0, iT 14]) 1 [] rfl hP (s_l1Next c _ 14 hc (by omega) (by omega) (by omega) (by omega)) ?_ | refine vcall_A ?_); simp (maxSteps := 2000000) only [go_sem, hP, ↓reduceIte, Nat.reduceAdd, Nat.reduceMul, Nat.reduceEqDiff, Nat.reduceSub, Nat.reduceLeDiff, reduceCtorEq, hp, List.length_map, List.length_set, hl1, hl2, hw0, t0, t1, Int.reduceBEq, b0, b1, b2, b3])
      | refine ev_skip ?_ | refine ev_block ?_ | refine ev_blk ?_ | refine ev_ret ?_ | refine ev_exit ?_ | refine evx_code_ret ?_ | refine evx_blk_ret ?_ | refine evx_lp_ret ?_
      | refine evx_code_exit ?_ | refine evx_lp_exit ?_ | refine evx_blk_hit ?_ | refine evx_blk_pass (by decide) ?_
      | refine And.intro ?_ ?_ | intro _ | decide +kernel | omega)
    all_goals first
      | (exfalso; omega)
      | rfl
      | omega
      | (simp [List.map_set, List.map_drop, Es.strip_map]; done)
      | (simp [Es.strip_map]; exact ⟨fun _ _ => rfl, rfl⟩)
      | (rw [← strip_eI, List.map_set]; rfl)
      | (rw [List.take_of_length_le (by simp [hl2]), List.map_drop])
      | (rename_i h; exact h.symm)
      | trace_state
  exact satG_data (fz := [(2, .fro 1 ((rectLo c a d).map eI)), (3, .fro 1 ((rectHi c a d).map eI))]) (fun κ h => by simp only [lk] at h; split at h <;> simp_all) trivial rfl h
theorem s_l1Bent (c : List Int) (a : Int) (d : Nat) (hc : codeOk c) (h0 : 0 ≤ a) (h1 : a ≤ 1073000000 - 100000) (hd0 : 2 ≤ d) (hd : d ≤ 100) : SatG Try.prog 150 false [.ptr 1 0, iT d] [(1, bSrc c a)] (.agg [.c (sI (bentV c a d).low), .c (sI (bentV c a d).high)]) [(1, bSrc c (bentA c a d))] := by
  by_cases g0 : nx c (a + 6 * d) 14 = 0
  · exact s_l1Bent0 c a d hc h0 h1 hd0 hd g0
  · by_cases g1 : nx c (a + 6 * d) 14 = 1
    · exact s_l1Bent1 c a d hc h0 h1 hd0 hd g1
    · by_cases g2 : nx c (a + 6 * d) 14 = 2
      · exact s_l1Bent2 c a d hc h0 h1 hd0 hd g2
      · by_cases g3 : nx c (a + 6 * d) 14 = 3
        · exact s_l1Bent3 c a d hc h0 h1 hd0 hd g3
        · exact s_l1Bent4 c a d hc h0 h1 hd0 hd g0 g1 g2 g3
def d0 (c : List Int) : Nat := (pk c 0 [2, 2, 3]).toNat
theorem d0_in (c : List Int) : d0 c = 2 ∨ d0 c = 3 := by
  have := dims_in c 0
  unfold d0; omega
theorem d0_eq (c : List Int) : pk c 0 [2, 2, 3] = (d0 c : Int) := by
  have := dims_in c 0
  unfold d0; omega
def unA (c : List Int) : Rect := bentV c 1 (d0 c)
def unP (c : List Int) : Int := bentA c 1 (d0 c)
theorem unP_in (c : List Int) : 0 ≤ unP c ∧ unP c ≤ 100 := by
  have h1 := bentA_in c 1 (d0 c)
  have h2 := d0_in c
  unfold unP; omega
def unQ (c : List Int) : List Int := [(d0 c : Int), d0 c, d0 c, d0 c, d0 c, 2]
def d1 (c : List Int) : Nat := (pk c (unP c + 1) (unQ c)).toNat
theorem d1_mem (c : List Int) : pk c (unP c + 1) (unQ c) = d0 c ∨ pk c (unP c + 1) (unQ c) = 2 := by
  have h := pk_mem (c := c) (a := unP c + 1) (xs := unQ c) (by simp [unQ])
  simp only [unQ, List.mem_cons, List.not_mem_nil, or_false] at h
  rcases h with h | h | h | h | h | h <;> simp [unQ, h]
theorem d1_in (c : List Int) : d1 c = 2 ∨ d1 c = 3 := by
  have := d1_mem c
  have := d0_in c
  unfold d1; omega
theorem d1_eq (c : List Int) : pk c (unP c + 1) (unQ c) = (d1 c : Int) := by
  have := d1_mem c
  have := d0_in c
  unfold d1; omega
def unB (c : List Int) : Rect :=
  if nx c (unP c) 4 = 0 ∧ rf (unA c) (d0 c) = 0 then ⟨(unA c).low, (unA c).high.set 0 (min ((unA c).high.getD 0 default + pk c (unP c + 1) [0, 1, 5]) 1000)⟩
  else bentV c (unP c + 2) (d1 c)
theorem s_DrawUnionOf (c : List Int) (hc : codeOk c) : Sat Try.prog 48 [aY c] false [(true, cR (unA c)), (true, cR (unB c))] := by
  refine sat_walk (fn := Try.f48) rfl rfl rfl (Nat.le_of_ble_eq_true rfl) fun fr hP hN hbnd => ?_
  have hE : (envOf fr Try.prog).Ok := envOf_ok hP
  have hM := follows_of hP
  have hS : ∀ {draw ops}, statB Try.f48.ntmps draw ops = true → statB (envOf fr Try.prog).fr.N draw ops = true := fun h => by rw [envOf_fr, hN]; exact h
  have k1 := s_l1Dims c 0 hc (by omega) (by omega)
  rw [d0_eq] at k1
  have hd := d0_in c
  have he := d1_in c
  have k2 := s_l1Bent c 1 (d0 c) hc (by omega) (by omega) (by omega) (by omega)
  have hp := unP_in c
  rw [show bentV c 1 (d0 c) = unA c from rfl, show bentA c 1 (d0 c) = unP c from rfl] at k2
  have k3 := s_l1Bent c (unP c + 2) (d1 c) hc (by omega) (by omega) (by omega) (by omega)
  have k4 := s_l1Pick c (unP c + 1) (unQ c) hc (by omega) (by omega) (by simp [unQ]) (by simp [unQ])
  rw [d1_eq] at k4
  have k5 := s_l1Chance c (unP c) 4 hc (by omega) (by omega) (by omega) (by omega)
  have k6 := s_l1Pick c (unP c + 1) [0, 1, 5] hc (by omega) (by omega) (by simp) (by simp)
  have ep : unP c + 1 + 1 = unP c + 2 := by omega
  have eq : unQ c = [(d0 c : Int), d0 c, d0 c, d0 c, d0 c, 2] := rfl
  by_cases h0 : nx c (unP c) 4 = 0
  · have b0 : (nx c (unP c) 4 == 0) = true := by simp [h0]
    by_cases h1 : rf (unA c) (d0 c) = 0
    · have b1 : (rf (unA c) (d0 c) == 0) = true := by simp [h1]
      have ev : unB c = ⟨(unA c).low, (unA c).high.set 0 (min ((unA c).high.getD 0 default + pk c (unP c + 1) [0, 1, 5]) 1000)⟩ := by unfold unB; rw [if_pos ⟨h0, h1⟩]
      obtain ⟨n1, n2⟩ := rf_len h1
      have hh : -1000 ≤ (unA c).high.getD 0 default ∧ (unA c).high.getD 0 default ≤ 1000 := by have := rf_at h1 0 (by omega); omega
      have h5 := pk_mem (c := c) (a := unP c + 1) (xs := [0, 1, 5]) (by simp)
      simp only [List.mem_cons, List.not_mem_nil, or_false] at h5
      have hw : IntKind.i64.wrap ((unA c).high.getD 0 default + pk c (unP c + 1) [0, 1, 5]) = (unA c).high.getD 0 default + pk c (unP c + 1) [0, 1, 5] := i64_in _ (by omega)
      have t0 : Int.toNat 0 = 0 := rfl
      rw [ev]
      repeat' (first
        | exact True.intro
        | refine ev_seq ?_
        | ((first | refine vgd_go ?_ | refine ev_region hE hM (hS (by decide +kernel)) ?_ | refine ev_if ?_ | refine end_ret hE rfl rfl ?_ | refine end_norm hE rfl rfl ?_ | refine endG_ret [] hE rfl ?_ | refine endG_norm [] hE rfl ?_ | refine vcallG_of (args := [.c (sY c)]) [] [] hP (s_l1Source c) ?_ | refine vcallG_at (args := [.ptr 1052680 0]) 1052680 [] rfl hP (k1) ?_ | refine vcallG_at (args := [.ptr 1052680 0, iT (d0 c)]) 1052680 [] rfl hP (k2) ?_ | refine vcallG_at (args := [.ptr 1052680 0, iT 4]) 1052680 [] rfl hP (k5) ?_ | refine vcallB_of hP (s_specRectFault (unA c) (d0 c)) ?_ | refine vcallB_of hP (s_l1Copy (unA c) (by omega) (by omega)) ?_ | refine vcallG_at (args := [.ptr 1052680 0, .ref 24632]) 1052680 [24632] rfl hP (k6) ?_ | refine vcallB_of hP (s_l1Min _ _) ?_ | refine vcall_A ?_); simp (maxSteps := 2000000) only [go_sem, hP, ↓reduceIte, Nat.reduceAdd, Nat.reduceMul, Nat.reduceEqDiff, Nat.reduceSub, Nat.reduceLeDiff, reduceCtorEq, b0, b1, hw, t0])
        | refine ev_skip ?_ | refine ev_block ?_ | refine ev_blk ?_ | refine ev_ret ?_ | refine ev_exit ?_ | refine evx_code_ret ?_ | refine evx_blk_ret ?_ | refine evx_lp_ret ?_
        | refine evx_code_exit ?_ | refine evx_lp_exit ?_ | refine evx_blk_hit ?_ | refine evx_blk_pass (by decide) ?_
        | refine And.intro ?_ ?_ | intro _ | decide +kernel | omega)
      all_goals first
        | (exfalso; omega)
        | omega
        | rfl
        | (symm; rw [← strip_eI, List.map_set]; rfl)
        | trace_state
    · have b1 : (rf (unA c) (d0 c) == 0) = false := by simp [h1]
      have ev : unB c = bentV c (unP c + 2) (d1 c) := by unfold unB; rw [if_neg (fun h => h1 h.2)]
      rw [ev]
      repeat' (first
        | exact True.intro
        | refine ev_seq ?_
        | ((first | refine vgd_go ?_ | refine ev_region hE hM (hS (by decide +kernel)) ?_ | refine ev_if ?_ | refine end_ret hE rfl rfl ?_ | refine end_norm hE rfl rfl ?_ | refine endG_ret [] hE rfl ?_ | refine endG_norm [] hE rfl ?_ | refine vcallG_of (args := [.c (sY c)]) [] [] hP (s_l1Source c) ?_ | refine vcallG_at (args := [.ptr 1052680 0]) 1052680 [] rfl hP (k1) ?_ | refine vcallG_at (args := [.ptr 1052680 0, iT 4]) 1052680 [] rfl hP (k5) ?_ | refine vcallG_at (args := [.ptr 1052680 0, iT (d0 c)]) 1052680 [] rfl hP (k2) ?_ | refine vcallG_at (args := [.ptr 1052680 0, iT (d1 c)]) 1052680 [] rfl hP (k3) ?_ | refine vcallB_of hP (s_specRectFault (unA c) (d0 c)) ?_ | refine vcallG_at (args := [.ptr 1052680 0, .ref 32832]) 1052680 [32832] rfl hP (k4) ?_ | refine vcall_A ?_); simp (maxSteps := 2000000) only [go_sem, hP, ↓reduceIte, Nat.reduceAdd, Nat.reduceMul, Nat.reduceEqDiff, Nat.reduceSub, Nat.reduceLeDiff, reduceCtorEq, b0, b1, ep, eq])
        | refine ev_skip ?_ | refine ev_block ?_ | refine ev_blk ?_ | refine ev_ret ?_ | refine ev_exit ?_ | refine evx_code_ret ?_ | refine evx_blk_ret ?_ | refine evx_lp_ret ?_
        | refine evx_code_exit ?_ | refine evx_lp_exit ?_ | refine evx_blk_hit ?_ | refine evx_blk_pass (by decide) ?_
        | refine And.intro ?_ ?_ | intro _ | decide +kernel | omega)
      all_goals first
        | (exfalso; omega)
        | omega
        | rfl
        | trace_state
  · have b0 : (nx c (unP c) 4 == 0) = false := by simp [h0]
    have ev : unB c = bentV c (unP c + 2) (d1 c) := by unfold unB; rw [if_neg (fun h => h0 h.1)]
    rw [ev]
    repeat' (first
      | exact True.intro
      | refine ev_seq ?_
      | ((first | refine vgd_go ?_ | refine ev_region hE hM (hS (by decide +kernel)) ?_ | refine ev_if ?_ | refine end_ret hE rfl rfl ?_ | refine end_norm hE rfl rfl ?_ | refine endG_ret [] hE rfl ?_ | refine endG_norm [] hE rfl ?_ | refine vcallG_of (args := [.c (sY c)]) [] [] hP (s_l1Source c) ?_ | refine vcallG_at (args := [.ptr 1052680 0]) 1052680 [] rfl hP (k1) ?_ | refine vcallG_at (args := [.ptr 1052680 0, iT 4]) 1052680 [] rfl hP (k5) ?_ | refine vcallG_at (args := [.ptr 1052680 0, iT (d0 c)]) 1052680 [] rfl hP (k2) ?_ | refine vcallG_at (args := [.ptr 1052680 0, iT (d1 c)]) 1052680 [] rfl hP (k3) ?_ | refine vcallG_at (args := [.ptr 1052680 0, .ref 32832]) 1052680 [32832] rfl hP (k4) ?_ | refine vcall_A ?_); simp (maxSteps := 2000000) only [go_sem, hP, ↓reduceIte, Nat.reduceAdd, Nat.reduceMul, Nat.reduceEqDiff, Nat.reduceSub, Nat.reduceLeDiff, reduceCtorEq, b0, ep, eq])
      | refine ev_skip ?_ | refine ev_block ?_ | refine ev_blk ?_ | refine ev_ret ?_ | refine ev_exit ?_ | refine evx_code_ret ?_ | refine evx_blk_ret ?_ | refine evx_lp_ret ?_
      | refine evx_code_exit ?_ | refine evx_lp_exit ?_ | refine evx_blk_hit ?_ | refine evx_blk_pass (by decide) ?_
      | refine And.intro ?_ ?_ | intro _ | decide +kernel | omega)
    all_goals first
      | (exfalso; omega)
      | omega
      | rfl
      | trace_state
def dsN (c : List Int) : List Int := [((unA c).low.length : Int), (unA c).low.length, (unA c).low.length, 2]
def d2 (c : List Int) : Nat := (pk c 12 (dsN c)).toNat
theorem unA_low (c : List Int) : (unA c).low.length = d0 c ∨ (unA c).low.length = d0 c + 1 := by
  unfold unA bentV rectV
  (repeat' split) <;> simp [rectLo]
theorem d2_mem (c : List Int) : pk c 12 (dsN c) = (unA c).low.length ∨ pk c 12 (dsN c) = 2 := by
  have h := pk_mem (c := c) (a := 12) (xs := dsN c) (by simp [dsN])
  simp only [dsN, List.mem_cons, List.not_mem_nil, or_false] at h
  rcases h with h | h | h | h <;> simp [dsN, h]
theorem d2_eq (c : List Int) : pk c 12 (dsN c) = (d2 c : Int) := by
  have := d2_mem c
  unfold d2; omega
theorem d2_in (c : List Int) : 2 ≤ d2 c ∧ d2 c ≤ 4 := by
  have h1 := d2_mem c
  have h2 := unA_low c
  have h3 := d0_in c
  unfold d2; omega
def dsP (c : List Int) : List Int := pointV c 13 (d2 c)
theorem pf_iff {xs : List Int} {d : Int} : pf xs d = 0 ↔ 2 ≤ d ∧ d ≤ 3 ∧ (xs.length : Int) = d ∧ ∀ k, k < xs.length → -1000 ≤ xs.getD k default ∧ xs.getD k default ≤ 1000 := by
  constructor
  · intro h
    have h1 := pf_len h
    have h2 : inB d 2 3 = true := by unfold pf at h; (repeat' split at h) <;> simp_all
    simp [inB] at h2
    exact ⟨by omega, by omega, h1, fun k hk => pf_at h k hk⟩
  · rintro ⟨h1, h2, h3, h4⟩
    have ha : xs.all (inB · (-1000) 1000) = true := by
      rw [List.all_eq_true]
      intro x hx
      obtain ⟨k, hk, rfl⟩ := List.mem_iff_getElem.1 hx
      have := h4 k hk
      rw [getD_lt hk] at this
      simpa [inB] using this
    have hb : inB d 2 3 = true := by simp [inB]; omega
    unfold pf
    simp [ha, hb, h3]
theorem rf_iff {r : Rect} {d : Int} : rf r d = 0 ↔ 2 ≤ d ∧ d ≤ 3 ∧ (r.low.length : Int) = d ∧ (r.high.length : Int) = d ∧ ∀ k, k < r.low.length → -1000 ≤ r.low.getD k default ∧ r.low.getD k default ≤ r.high.getD k default ∧ r.high.getD k default ≤ 1000 := by
  constructor
  · intro h
    have h1 := rf_len h
    have h2 : pf r.low d = 0 := by unfold rf at h; split at h <;> simp_all
    have h3 := pf_iff.1 h2
    exact ⟨h3.1, h3.2.1, h1.1, h1.2, fun k hk => rf_at h k hk⟩
  · rintro ⟨h1, h2, h3, h4, h5⟩
    have e1 : pf r.low d = 0 := pf_iff.2 ⟨h1, h2, h3, fun k hk => by have := h5 k hk; omega⟩
    have e2 : pf r.high d = 0 := pf_iff.2 ⟨h1, h2, h4, fun k hk => by have := h5 k (by omega); omega⟩
    have e3 : lowHigh r = true := allLt_iff.2 fun k hk => by have := h5 k hk; simpa using this.2.1
    unfold rf
    rw [if_neg (by simpa using e1), if_neg (by simpa using e2), if_pos e3]
theorem two_iff {a b : Rect} : two a b = 0 ↔ rf a a.low.length = 0 ∧ rf b a.low.length = 0 := by
  unfold two
  split <;> simp_all
theorem un_at {a b : Rect} {k : Nat} (hk : k < a.low.length) : (un a b).low.getD k default = min (a.low.getD k default) (b.low.getD k default) ∧ (un a b).high.getD k default = max (a.high.getD k default) (b.high.getD k default) := by
  have h1 : k < (un a b).low.length := by simp [un]; exact hk
  have h2 : k < (un a b).high.length := by simp [un]; exact hk
  rw [getD_lt h1, getD_lt h2]
  simp [un]
theorem covers_iff {a b : Rect} : covers a b = true ↔ ∀ k, k < a.low.length → a.low.getD k default ≤ b.low.getD k default ∧ b.high.getD k default ≤ a.high.getD k default := by
  unfold covers
  rw [allLt_iff]
  refine forall_congr' fun k => forall_congr' fun _ => ?_
  simp [coversAt]
theorem meets_iff {a b : Rect} : meets a b = true ↔ ∀ k, k < a.low.length → a.low.getD k default ≤ b.high.getD k default ∧ b.low.getD k default ≤ a.high.getD k default := by
  unfold meets
  rw [allLt_iff]
  refine forall_congr' fun k => forall_congr' fun _ => ?_
  simp [meetsAt]
theorem un_low_len (a b : Rect) : (un a b).low.length = a.low.length := by simp [un]
theorem rf_un {a b : Rect} (h : two a b = 0) : rf (un a b) a.low.length = 0 := by
  obtain ⟨h1, h2⟩ := two_iff.1 h
  obtain ⟨a1, a2, a3, a4, a5⟩ := rf_iff.1 h1
  obtain ⟨b1, b2, b3, b4, b5⟩ := rf_iff.1 h2
  refine rf_iff.2 ⟨a1, a2, by rw [un_low_len], by rw [un_len, un_low_len], fun k hk => ?_⟩
  rw [un_low_len] at hk
  have e := un_at (b := b) hk
  have := a5 k hk
  have := b5 k (by omega)
  omega
theorem two_un_left {a b : Rect} (h : two a b = 0) : two (un a b) a = 0 ∧ covers (un a b) a = true := by
  obtain ⟨h1, h2⟩ := two_iff.1 h
  refine ⟨two_iff.2 ⟨by rw [un_low_len]; exact rf_un h, by rw [un_low_len]; exact h1⟩, covers_iff.2 fun k hk => ?_⟩
  rw [un_low_len] at hk
  have e := un_at (b := b) hk
  omega
theorem two_un_right {a b : Rect} (h : two a b = 0) : two (un a b) b = 0 ∧ covers (un a b) b = true := by
  obtain ⟨h1, h2⟩ := two_iff.1 h
  refine ⟨two_iff.2 ⟨by rw [un_low_len]; exact rf_un h, by rw [un_low_len]; exact h2⟩, covers_iff.2 fun k hk => ?_⟩
  rw [un_low_len] at hk
  have e := un_at (b := b) hk
  omega
theorem two_symm {a b : Rect} (h : two a b = 0) : two b a = 0 := by
  obtain ⟨h1, h2⟩ := two_iff.1 h
  have := rf_len h2
  exact two_iff.2 ⟨by rw [this.1]; exact h2, by rw [this.1]; exact h1⟩
theorem list_getD_ext {xs ys : List Int} (hl : xs.length = ys.length) (h : ∀ k, k < xs.length → xs.getD k default = ys.getD k default) : xs = ys := by
  refine List.ext_getElem hl fun k h1 h2 => ?_
  have := h k h1
  rwa [getD_lt h1, getD_lt h2] at this
theorem rect_ext {a b : Rect} (h1 : a.low.length = b.low.length) (h2 : a.high.length = b.high.length) (h3 : a.high.length = a.low.length) (h : ∀ k, k < a.low.length → a.low.getD k default = b.low.getD k default ∧ a.high.getD k default = b.high.getD k default) : a = b := by
  have e1 := list_getD_ext h1 fun k hk => (h k hk).1
  have e2 := list_getD_ext h2 fun k hk => (h k (by omega)).2
  cases a; cases b; simp_all
theorem un_symm {a b : Rect} (h : two a b = 0) : un b a = un a b := by
  have l := two_lens h
  refine rect_ext (by rw [un_low_len, un_low_len]; exact l.h2) (by rw [un_len, un_len, un_low_len, un_low_len]; exact l.h2) (by rw [un_len]) fun k hk => ?_
  rw [un_low_len] at hk
  have e1 := un_at (a := b) (b := a) hk
  have e2 := un_at (a := a) (b := b) (k := k) (by have := l.h2; omega)
  omega
theorem meets_symm {a b : Rect} (h : two a b = 0) : meets b a = meets a b := by
  have l := two_lens h
  rw [Bool.eq_iff_iff, meets_iff, meets_iff, l.h2]
  exact forall_congr' fun k => forall_congr' fun _ => ⟨fun h => ⟨h.2, h.1⟩, fun h => ⟨h.2, h.1⟩⟩
theorem covers_meets {a b : Rect} (h : two a b = 0) (hc : covers a b = true) : meets a b = true ∧ un a b = a := by
  have f := two_fit h
  have l := f.l
  have c := covers_iff.1 hc
  refine ⟨meets_iff.2 fun k hk => ?_, rect_ext (un_low_len a b) (by rw [un_len, un_low_len]; exact l.h1.symm) (un_len a b) fun k hk => ?_⟩
  · have := c k hk
    have := f.b1 k hk
    omega
  · rw [un_low_len] at hk
    have e := un_at (b := b) hk
    have := c k hk
    omega
theorem wf_u8 {n : Int} (h : (Lit.int .u8 n).wf = true) : 0 ≤ n ∧ n < 256 := by
  simp [Lit.wf, IntKind.has, IntKind.min, IntKind.max, IntKind.signed, IntKind.bits] at h
  omega
theorem shp_Y {n t : Nat} {cs : List C} (ht : Try.prog.underlying t = some (.slice 5)) (h : shp Try.prog (n + 2) t cs) : ∃ xs : List Int, cs = [sY xs] ∧ ∀ b ∈ xs, 0 ≤ b ∧ b < 256 := by
  obtain ⟨xs, rfl, _, h2⟩ := shp_rows (f := eY) (q := fun b => 0 ≤ b ∧ b < 256) (sz := 1) ht rfl (fun x hx => by
    simp only [shp] at hx
    obtain ⟨m, hm, hw⟩ := hx
    exact ⟨m, hm, wf_u8 hw⟩) h
  exact ⟨xs, rfl, h2⟩
theorem s_lwBig (c : List Int) : Sat Try.prog 39 [aY c] true (rB (decide (1048576 < c.length))) := by
  refine sat_walk (fn := Try.f39) rfl rfl rfl (Nat.le_of_ble_eq_true rfl) fun fr hP hN hbnd => ?_
  have hE : (envOf fr Try.prog).Ok := envOf_ok hP
  have hM := follows_of hP
  have hS : ∀ {draw ops}, statB Try.f39.ntmps draw ops = true → statB (envOf fr Try.prog).fr.N draw ops = true := fun h => by rw [envOf_fr, hN]; exact h
  have e : decide ((1048576 : Int) < (c.length : Int)) = decide (1048576 < c.length) := by simp; omega
  repeat' (first
    | exact True.intro
    | refine ev_seq ?_
    | ((first | refine vgd_go ?_ | refine ev_region hE hM (hS (by decide +kernel)) ?_ | refine ev_if ?_ | refine end_ret hE rfl rfl ?_ | refine end_norm hE rfl rfl ?_ | refine endG_ret [] hE rfl ?_ | refine endG_norm [] hE rfl ?_ | refine vcall_A ?_); simp (maxSteps := 2000000) only [go_sem, hP, ↓reduceIte, Nat.reduceAdd, Nat.reduceMul, Nat.reduceEqDiff, Nat.reduceSub, Nat.reduceLeDiff, reduceCtorEq, List.length_map, e])
    | refine ev_skip ?_ | refine ev_block ?_ | refine ev_blk ?_ | refine ev_ret ?_ | refine ev_exit ?_ | refine evx_code_ret ?_ | refine evx_blk_ret ?_ | refine evx_lp_ret ?_
    | refine evx_code_exit ?_ | refine evx_lp_exit ?_ | refine evx_blk_hit ?_ | refine evx_blk_pass (by decide) ?_
    | refine And.intro ?_ ?_ | intro _ | decide +kernel | omega)
end Go.Proofs.Ytmpndkhnajogkaa.W
