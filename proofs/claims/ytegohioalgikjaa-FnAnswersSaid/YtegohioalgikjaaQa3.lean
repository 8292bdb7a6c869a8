/- Contracts of functions that FnAnswers reaches: what each returns; it writes to nothing of old. No condition but those that each theorem states. -/
import Derived.Test.YtegohioalgikjaaQa2
open Go Go.Vm Go.Proofs Go.IntWalk Go.RowKit
set_option maxRecDepth 100000
set_option maxHeartbeats 4000000
set_option linter.unusedSimpArgs false
set_option linter.unusedVariables false
set_option linter.unusedSectionVars false
namespace Go.Proofs.Ytegohioalgikjaa.W
attribute [local irreducible] kJ ev evx vops vstep vgo vgd vget vcall vcallFn vcallA vcallB vts vres vcond vbin
theorem s_l2QueryR (c : List Int) (p : Int) (d : Nat) (hc : codeOk c) (h0 : 0 ≤ p) (h1 : p ≤ 1071000000) (hd0 : 0 < d) (hd : d ≤ 100) (hv : nx c p 5 = 0 ∨ nx c p 5 = 1) : SatG Try.prog 90 false [.ptr 1 0, iT d] [(1, bSrc c p)] (tQr (lq c p d).q) [(1, bSrc c (lq c p d).p)] := by
  have ev : lq c p d = ⟨⟨pk c (p + 1 + 7 * d) [1, 2], ⟨rectLo c (p + 1) d, hiQ c (p + 1) d d⟩, [], 0⟩, p + 2 + 7 * d⟩ := by unfold lq; rw [if_pos hv]
  rw [ev]
  have h0' : SatG Try.prog 90 false [.ptr 1 0, iT d] [(1, bSrc c p)] (.agg [iT (pk c (p + 1 + 7 * d) [1, 2]), .ref 2, .ref 3, .ref 4, iT 0]) [(1, bSrc c (p + 2 + 7 * d)), (2, .arr true 2 1 ((rectLo c (p + 1) d).map eI)), (3, .arr true 2 1 ((hiQ c (p + 1) d d).map eI)), (4, .arr true 2 1 (([] : List Int).map eI))] := by
    refine satG_walk (fn := Try.f90) rfl rfl rfl (Nat.le_of_ble_eq_true rfl) (by simp) fun fr hP hN hdp hb1 hb2 => ?_
    have hE : (envOf fr Try.prog).Ok := envOf_ok hP
    have hM := follows_of hP
    have hS : ∀ {draw ops}, statB Try.f90.ntmps draw ops = true → statB (envOf fr Try.prog).fr.N draw ops = true := fun h => by rw [envOf_fr, hN]; exact h
    have k1 := s_l1Next c p 5 hc (by omega) (by omega) (by omega) (by omega)
    have hlo : (rectLo c (p + 1) d).length = d := by simp [rectLo]
    have hhi : (rectHi c (p + 1) d).length = d := by simp [rectHi]
    have k3 := s_l1Pick c (p + 1 + 7 * d) [1, 2] hc (by omega) (by omega) (by simp) (by simp)
    rw [show p + 1 + 7 * (d : Int) + 1 = p + 2 + 7 * d by omega] at k3
    have b2 : (nx c p 5 == 0) = true ∨ (nx c p 5 == 0) = false ∧ (nx c p 5 == 1) = true := by
      rcases hv with h | h
      · exact Or.inl (by simp [h])
      · exact Or.inr ⟨by simp [h], by simp [h]⟩
    rcases b2 with b0 | ⟨b0, b1⟩
    · repeat' (first
        | exact True.intro
        | refine ev_seq ?_
        | ((first | refine vgd_go ?_ | refine ev_region hE hM (hS (by decide +kernel)) ?_ | refine ev_if ?_ | refine end_ret hE rfl rfl ?_ | refine end_norm hE rfl rfl ?_ | refine endG_ret [] hE rfl ?_ | refine endG_norm [] hE rfl ?_ | refine vcallG_at (args := [.ptr 1 0, iT 5]) 1 [] rfl hP (k1) ?_ | refine vcallG_at (args := [.ptr 1 0, iT d]) 1 [] rfl hP (s_l1RectR c (p + 1) d hc (by omega) (by omega) hd0 hd) ?_ | refine vcall_A ?_); simp (maxSteps := 2000000) only [go_sem, hP, ↓reduceIte, Nat.reduceAdd, Nat.reduceMul, Nat.reduceEqDiff, Nat.reduceSub, Nat.reduceLeDiff, reduceCtorEq, b0, hhi, List.length_map])
        | refine ev_skip ?_ | refine ev_block ?_ | refine ev_blk ?_ | refine ev_ret ?_ | refine ev_exit ?_ | refine evx_code_ret ?_ | refine evx_blk_ret ?_ | refine evx_lp_ret ?_
        | refine evx_code_exit ?_ | refine evx_lp_exit ?_ | refine evx_blk_hit ?_ | refine evx_blk_pass (by decide) ?_
        | refine And.intro ?_ ?_ | intro _ | decide +kernel | omega)
      refine ev_loop (ι := Nat) (fun k => [(0, .ptr 1 0), (1, iT d), (4, .ptr 0 0), (5, .ptr 16408 0), (17, iT d), (18, iT k)]) (fun k => [(1, bSrc c (p + 1 + 6 * d + k)), (0, .box [iT 0, .nilS, .nilS, .nilS, iT 0]), (16408, .box [.ref 2113552, .ref 3162128]), (2113552, .arr true 2 1 ((rectLo c (p + 1) d).map eI)), (3162128, .arr true 2 1 ((hiQ c (p + 1) d k).map eI))]) (fun _ => [(0, .ref 1)]) (fun k => k ≤ d) (fun k => d - k) 0 [] (by omega) (by simp only [go_sem, hP, ↓reduceIte, Nat.reduceAdd, Nat.reduceMul, Nat.reduceEqDiff, Nat.reduceSub, Nat.reduceLeDiff, reduceCtorEq]; simp [hiQ]) ?_
      intro k hk
      have hql := hiQ_len c (p + 1) d k
      by_cases hlt : k < d
      · have hw1 : IntKind.i64.wrap ((k : Int) + 1) = k + 1 := i64_in _ (by omega)
        have dl : decide ((k : Int) < (d : Int)) = true := decide_eq_true (by omega)
        have hin := hiQ_in c (p + 1) d k k hlt
        have hpk := pkq_in c (p + 1 + 6 * d + k)
        have kp := s_l1Pick c (p + 1 + 6 * d + k) [0, 5, 20] hc (by omega) (by omega) (by simp) (by simp)
        have hw2 : IntKind.i64.wrap ((hiQ c (p + 1) d k).getD k default + pk c (p + 1 + 6 * d + k) [0, 5, 20]) = (hiQ c (p + 1) d k).getD k default + pk c (p + 1 + 6 * d + k) [0, 5, 20] := i64_in _ (by omega)
        have hst : hiQ c (p + 1) d (k + 1) = (hiQ c (p + 1) d k).set k (min ((hiQ c (p + 1) d k).getD k default + pk c (p + 1 + 6 * d + k) [0, 5, 20]) 1000) := rfl
        have km := s_l1Min ((hiQ c (p + 1) d k).getD k default + pk c (p + 1 + 6 * d + k) [0, 5, 20]) 1000
        have hn : p + 1 + 6 * (d : Int) + k + 1 = p + 1 + 6 * d + (k + 1 : Nat) := by omega
        have hlt2 : k < (hiQ c (p + 1) d k).length := by omega
        generalize hiQ c (p + 1) d k = hs at *
        repeat' (first
          | exact True.intro
          | refine ev_seq ?_
          | ((first | refine vgd_go ?_ | refine ev_region hE hM (hS (by decide +kernel)) ?_ | refine ev_if ?_ | refine end_ret hE rfl rfl ?_ | refine end_norm hE rfl rfl ?_ | refine endG_ret [] hE rfl ?_ | refine endG_norm [] hE rfl ?_ | refine vcallG_at (args := [.ptr 1 0, .ref 32840]) 1 [32840] rfl hP (kp) ?_ | refine vcallB_of hP km ?_ | refine vcall_A ?_); simp (maxSteps := 2000000) only [go_sem, hP, ↓reduceIte, Nat.reduceAdd, Nat.reduceMul, Nat.reduceEqDiff, Nat.reduceSub, Nat.reduceLeDiff, reduceCtorEq, dl, hw2, hql, List.length_map, Cs.strip, C.strip, Es.strip])
          | refine ev_skip ?_ | refine ev_block ?_ | refine ev_blk ?_ | refine ev_ret ?_ | refine ev_exit ?_ | refine evx_code_ret ?_ | refine evx_blk_ret ?_ | refine evx_lp_ret ?_
          | refine evx_code_exit ?_ | refine evx_lp_exit ?_ | refine evx_blk_hit ?_ | refine evx_blk_pass (by decide) ?_
          | refine And.intro ?_ ?_ | intro _ | decide +kernel | omega)
        all_goals first
          | exact ev_lp (k + 1) [] (by omega) (by omega) (by simp only [go_sem, hP, ↓reduceIte, Nat.reduceAdd, Nat.reduceMul, Nat.reduceEqDiff, Nat.reduceSub, Nat.reduceLeDiff, reduceCtorEq]; rw [hst]; simp [hw1, List.map_set, Vm.eI]; first | (exact hn) | omega | trace_state)
          | (exfalso; omega)
          | omega
          | (simp_all; done)
          | trace_state
      · obtain rfl : k = d := by omega
        have dl : decide ((k : Int) < (k : Int)) = false := by simp
        have hn : p + 1 + 6 * (k : Int) + k = p + 1 + 7 * k := by omega
        rw [hn]
        repeat' (first
          | exact True.intro
          | refine ev_seq ?_
          | ((first | refine endG_ret [(2, some 2113552), (3, some 3162128), (4, none)] hE rfl ?_ | refine vgd_go ?_ | refine ev_region hE hM (hS (by decide +kernel)) ?_ | refine ev_if ?_ | refine end_ret hE rfl rfl ?_ | refine end_norm hE rfl rfl ?_ | refine endG_ret [] hE rfl ?_ | refine endG_norm [] hE rfl ?_ | refine vcallG_at (args := [.ptr 1 0, .ref 40968]) 1 [40968] rfl hP (k3) ?_ | refine vcall_A ?_); simp (maxSteps := 2000000) only [go_sem, hP, ↓reduceIte, Nat.reduceAdd, Nat.reduceMul, Nat.reduceEqDiff, Nat.reduceSub, Nat.reduceLeDiff, reduceCtorEq, dl, List.length_map])
          | refine ev_skip ?_ | refine ev_block ?_ | refine ev_blk ?_ | refine ev_ret ?_ | refine ev_exit ?_ | refine evx_code_ret ?_ | refine evx_blk_ret ?_ | refine evx_lp_ret ?_
          | refine evx_code_exit ?_ | refine evx_lp_exit ?_ | refine evx_blk_hit ?_ | refine evx_blk_pass (by decide) ?_
          | refine And.intro ?_ ?_ | intro _ | decide +kernel | omega)
        all_goals first
          | rfl
          | (exfalso; omega)
          | (rename_i h; exact h.symm)
          | (simp_all; done)
          | trace_state
    · repeat' (first
        | exact True.intro
        | refine ev_seq ?_
        | ((first | refine vgd_go ?_ | refine ev_region hE hM (hS (by decide +kernel)) ?_ | refine ev_if ?_ | refine end_ret hE rfl rfl ?_ | refine end_norm hE rfl rfl ?_ | refine endG_ret [] hE rfl ?_ | refine endG_norm [] hE rfl ?_ | refine vcallG_at (args := [.ptr 1 0, iT 5]) 1 [] rfl hP (k1) ?_ | refine vcallG_at (args := [.ptr 1 0, iT d]) 1 [] rfl hP (s_l1RectR c (p + 1) d hc (by omega) (by omega) hd0 hd) ?_ | refine vcall_A ?_); simp (maxSteps := 2000000) only [go_sem, hP, ↓reduceIte, Nat.reduceAdd, Nat.reduceMul, Nat.reduceEqDiff, Nat.reduceSub, Nat.reduceLeDiff, reduceCtorEq, b0, b1, hhi, List.length_map])
        | refine ev_skip ?_ | refine ev_block ?_ | refine ev_blk ?_ | refine ev_ret ?_ | refine ev_exit ?_ | refine evx_code_ret ?_ | refine evx_blk_ret ?_ | refine evx_lp_ret ?_
        | refine evx_code_exit ?_ | refine evx_lp_exit ?_ | refine evx_blk_hit ?_ | refine evx_blk_pass (by decide) ?_
        | refine And.intro ?_ ?_ | intro _ | decide +kernel | omega)
      refine ev_loop (ι := Nat) (fun k => [(0, .ptr 1 0), (1, iT d), (4, .ptr 0 0), (5, .ptr 16408 0), (17, iT d), (18, iT k)]) (fun k => [(1, bSrc c (p + 1 + 6 * d + k)), (0, .box [iT 0, .nilS, .nilS, .nilS, iT 0]), (16408, .box [.ref 2113552, .ref 3162128]), (2113552, .arr true 2 1 ((rectLo c (p + 1) d).map eI)), (3162128, .arr true 2 1 ((hiQ c (p + 1) d k).map eI))]) (fun _ => [(0, .ref 1)]) (fun k => k ≤ d) (fun k => d - k) 0 [] (by omega) (by simp only [go_sem, hP, ↓reduceIte, Nat.reduceAdd, Nat.reduceMul, Nat.reduceEqDiff, Nat.reduceSub, Nat.reduceLeDiff, reduceCtorEq]; simp [hiQ]) ?_
      intro k hk
      have hql := hiQ_len c (p + 1) d k
      by_cases hlt : k < d
      · have hw1 : IntKind.i64.wrap ((k : Int) + 1) = k + 1 := i64_in _ (by omega)
        have dl : decide ((k : Int) < (d : Int)) = true := decide_eq_true (by omega)
        have hin := hiQ_in c (p + 1) d k k hlt
        have hpk := pkq_in c (p + 1 + 6 * d + k)
        have kp := s_l1Pick c (p + 1 + 6 * d + k) [0, 5, 20] hc (by omega) (by omega) (by simp) (by simp)
        have hw2 : IntKind.i64.wrap ((hiQ c (p + 1) d k).getD k default + pk c (p + 1 + 6 * d + k) [0, 5, 20]) = (hiQ c (p + 1) d k).getD k default + pk c (p + 1 + 6 * d + k) [0, 5, 20] := i64_in _ (by omega)
        have hst : hiQ c (p + 1) d (k + 1) = (hiQ c (p + 1) d k).set k (min ((hiQ c (p + 1) d k).getD k default + pk c (p + 1 + 6 * d + k) [0, 5, 20]) 1000) := rfl
        have km := s_l1Min ((hiQ c (p + 1) d k).getD k default + pk c (p + 1 + 6 * d + k) [0, 5, 20]) 1000
        have hn : p + 1 + 6 * (d : Int) + k + 1 = p + 1 + 6 * d + (k + 1 : Nat) := by omega
        have hlt2 : k < (hiQ c (p + 1) d k).length := by omega
        generalize hiQ c (p + 1) d k = hs at *
        repeat' (first
          | exact True.intro
          | refine ev_seq ?_
          | ((first | refine vgd_go ?_ | refine ev_region hE hM (hS (by decide +kernel)) ?_ | refine ev_if ?_ | refine end_ret hE rfl rfl ?_ | refine end_norm hE rfl rfl ?_ | refine endG_ret [] hE rfl ?_ | refine endG_norm [] hE rfl ?_ | refine vcallG_at (args := [.ptr 1 0, .ref 32840]) 1 [32840] rfl hP (kp) ?_ | refine vcallB_of hP km ?_ | refine vcall_A ?_); simp (maxSteps := 2000000) only [go_sem, hP, ↓reduceIte, Nat.reduceAdd, Nat.reduceMul, Nat.reduceEqDiff, Nat.reduceSub, Nat.reduceLeDiff, reduceCtorEq, dl, hw2, hql, List.length_map, Cs.strip, C.strip, Es.strip])
          | refine ev_skip ?_ | refine ev_block ?_ | refine ev_blk ?_ | refine ev_ret ?_ | refine ev_exit ?_ | refine evx_code_ret ?_ | refine evx_blk_ret ?_ | refine evx_lp_ret ?_
          | refine evx_code_exit ?_ | refine evx_lp_exit ?_ | refine evx_blk_hit ?_ | refine evx_blk_pass (by decide) ?_
          | refine And.intro ?_ ?_ | intro _ | decide +kernel | omega)
        all_goals first
          | exact ev_lp (k + 1) [] (by omega) (by omega) (by simp only [go_sem, hP, ↓reduceIte, Nat.reduceAdd, Nat.reduceMul, Nat.reduceEqDiff, Nat.reduceSub, Nat.reduceLeDiff, reduceCtorEq]; rw [hst]; simp [hw1, List.map_set, Vm.eI]; first | (exact hn) | omega | trace_state)
          | (exfalso; omega)
          | omega
          | (simp_all; done)
          | trace_state
      · obtain rfl : k = d := by omega
        have dl : decide ((k : Int) < (k : Int)) = false := by simp
        have hn : p + 1 + 6 * (k : Int) + k = p + 1 + 7 * k := by omega
        rw [hn]
        repeat' (first
          | exact True.intro
          | refine ev_seq ?_
          | ((first | refine endG_ret [(2, some 2113552), (3, some 3162128), (4, none)] hE rfl ?_ | refine vgd_go ?_ | refine ev_region hE hM (hS (by decide +kernel)) ?_ | refine ev_if ?_ | refine end_ret hE rfl rfl ?_ | refine end_norm hE rfl rfl ?_ | refine endG_ret [] hE rfl ?_ | refine endG_norm [] hE rfl ?_ | refine vcallG_at (args := [.ptr 1 0, .ref 40968]) 1 [40968] rfl hP (k3) ?_ | refine vcall_A ?_); simp (maxSteps := 2000000) only [go_sem, hP, ↓reduceIte, Nat.reduceAdd, Nat.reduceMul, Nat.reduceEqDiff, Nat.reduceSub, Nat.reduceLeDiff, reduceCtorEq, dl, List.length_map])
          | refine ev_skip ?_ | refine ev_block ?_ | refine ev_blk ?_ | refine ev_ret ?_ | refine ev_exit ?_ | refine evx_code_ret ?_ | refine evx_blk_ret ?_ | refine evx_lp_ret ?_
          | refine evx_code_exit ?_ | refine evx_lp_exit ?_ | refine evx_blk_hit ?_ | refine evx_blk_pass (by decide) ?_
          | refine And.intro ?_ ?_ | intro _ | decide +kernel | omega)
        all_goals first
          | rfl
          | (exfalso; omega)
          | (rename_i h; exact h.symm)
          | (simp_all; done)
          | trace_state
  have h := satG_weak (rt' := .agg [iT (pk c (p + 1 + 7 * d) [1, 2]), .ref 2, .ref 3, .ref 4, iT 0]) (hl2 := (1, bSrc c (p + 2 + 7 * d)) :: [(2, .fro 1 ((rectLo c (p + 1) d).map eI)), (3, .fro 1 ((hiQ c (p + 1) d d).map eI)), (4, .fro 1 (([] : List Int).map eI))]) [] h0' (by simp only [go_sem, ↓reduceIte, reduceCtorEq]; simp [strip_eI, Es.strip]) (by simp only [go_sem, ↓reduceIte, reduceCtorEq]; simp) (fun κ hk => rfl)
  exact satG_data (fz := [(2, .fro 1 ((rectLo c (p + 1) d).map eI)), (3, .fro 1 ((hiQ c (p + 1) d d).map eI)), (4, .fro 1 (([] : List Int).map eI))]) (fun κ h => by simp only [lk] at h; split at h <;> simp_all) trivial rfl h
theorem s_l2Query (c : List Int) (p : Int) (d : Nat) (hc : codeOk c) (h0 : 0 ≤ p) (h1 : p ≤ 1071000000) (hd0 : 0 < d) (hd : d ≤ 100) : SatG Try.prog 90 false [.ptr 1 0, iT d] [(1, bSrc c p)] (tQr (lq c p d).q) [(1, bSrc c (lq c p d).p)] := by
  by_cases g0 : nx c p 5 = 0
  · exact s_l2QueryR c p d hc h0 h1 hd0 hd (Or.inl g0)
  by_cases g1 : nx c p 5 = 1
  · exact s_l2QueryR c p d hc h0 h1 hd0 hd (Or.inr g1)
  by_cases g2 : nx c p 5 = 2
  · exact s_l2Query2 c p d hc h0 h1 hd0 hd g2
  exact s_l2QueryN c p d hc h0 h1 hd0 hd g0 g1 g2
def bqq (c : List Int) (p : Int) (d : Nat) : Query :=
  if nx c (lq c p d).p 14 = 0 then { (lq c p d).q with kind := pk c ((lq c p d).p + 1) [0, 5, 1, 3, 4] }
  else if nx c (lq c p d).p 14 = 1 then { (lq c p d).q with k := pk c ((lq c p d).p + 1) [0, 1, 21] }
  else if nx c (lq c p d).p 14 = 2 then { (lq c p d).q with point := pointV c ((lq c p d).p + 1) 2 }
  else if nx c (lq c p d).p 14 = 3 then { (lq c p d).q with rect := bentV c ((lq c p d).p + 1) 2 }
  else (lq c p d).q
def daQ (c : List Int) : Query := bqq c (bq c 0).p (clD (bq c 0).d)
def bqp (c : List Int) (p : Int) (d : Nat) : Int :=
  if nx c (lq c p d).p 14 = 0 ∨ nx c (lq c p d).p 14 = 1 then (lq c p d).p + 2
  else if nx c (lq c p d).p 14 = 2 then (lq c p d).p + 1 + 5 * 2
  else if nx c (lq c p d).p 14 = 3 then bentA c ((lq c p d).p + 1) 2
  else (lq c p d).p + 1
theorem s_l2BentQ0 (c : List Int) (p D : Int) (hc : codeOk c) (h0 : 0 ≤ p) (h1 : p ≤ 1070000000) (hv : nx c (lq c p (clD D)).p 14 = 0) : SatG Try.prog 52 false [.ptr 1 0, iT D] [(1, bSrc c p)] (tQr (bqq c p (clD D))) [(1, bSrc c (bqp c p (clD D)))] := by
  have e := clD_in D
  have hp := lq_p c p (clD D) (by omega)
  have ev : bqq c p (clD D) = { (lq c p (clD D)).q with kind := pk c ((lq c p (clD D)).p + 1) [0, 5, 1, 3, 4] } := by unfold bqq; simp [hv]
  have ep : bqp c p (clD D) = (lq c p (clD D)).p + 2 := by unfold bqp; simp [hv]
  rw [ev, ep]
  have k1 := s_l2Query c p (clD D) hc (by omega) (by omega) (by omega) (by omega)
  generalize lq c p (clD D) = r at *
  refine satG_walk (fn := Try.f52) rfl rfl rfl (Nat.le_of_ble_eq_true rfl) (by simp) fun fr hP hN hdp hb1 hb2 => ?_
  have hE : (envOf fr Try.prog).Ok := envOf_ok hP
  have hM := follows_of hP
  have hS : ∀ {draw ops}, statB Try.f52.ntmps draw ops = true → statB (envOf fr Try.prog).fr.N draw ops = true := fun h => by rw [envOf_fr, hN]; exact h
  have k3 := s_l1Min (max D 2) 3
  rw [clD_eq] at k3
  have k2 := s_l1Next c r.p 14 hc (by omega) (by omega) (by omega) (by omega)
  rw [hv] at k2
  have k4 := s_l1Pick c (r.p + 1) [0, 5, 1, 3, 4] hc (by omega) (by omega) (by simp) (by simp)
  rw [show r.p + 1 + 1 = r.p + 2 by omega] at k4
  repeat' (first
    | exact True.intro
    | refine ev_seq ?_
    | ((first | refine vgd_go ?_ | refine ev_region hE hM (hS (by decide +kernel)) ?_ | refine ev_if ?_ | refine end_ret hE rfl rfl ?_ | refine end_norm hE rfl rfl ?_ | refine endG_ret [] hE rfl ?_ | refine endG_norm [] hE rfl ?_ | refine vcallG_at (args := [.ptr 1 0, iT (clD D)]) 1 [] rfl hP (k1) ?_ | refine vcallG_at (args := [.ptr 1 0, iT 14]) 1 [] rfl hP (k2) ?_ | refine vcallB_of hP (s_l1Max D 2) ?_ | refine vcallB_of hP k3 ?_ | refine vcallG_at (args := [.ptr 1 0, .ref 16392]) 1 [16392] rfl hP (k4) ?_ | refine vcall_A ?_); simp (maxSteps := 2000000) only [go_sem, hP, ↓reduceIte, Nat.reduceAdd, Nat.reduceMul, Nat.reduceEqDiff, Nat.reduceSub, Nat.reduceLeDiff, reduceCtorEq, Int.reduceBEq])
    | refine ev_skip ?_ | refine ev_block ?_ | refine ev_blk ?_ | refine ev_ret ?_ | refine ev_exit ?_ | refine evx_code_ret ?_ | refine evx_blk_ret ?_ | refine evx_lp_ret ?_
    | refine evx_code_exit ?_ | refine evx_lp_exit ?_ | refine evx_blk_hit ?_ | refine evx_blk_pass (by decide) ?_
    | refine And.intro ?_ ?_ | intro _ | decide +kernel | omega)
  all_goals first
    | rfl
    | (exfalso; omega)
    | (rename_i h; exact h.symm)
    | (simp_all; done)
    | trace_state
theorem s_l2BentQ1 (c : List Int) (p D : Int) (hc : codeOk c) (h0 : 0 ≤ p) (h1 : p ≤ 1070000000) (hv : nx c (lq c p (clD D)).p 14 = 1) : SatG Try.prog 52 false [.ptr 1 0, iT D] [(1, bSrc c p)] (tQr (bqq c p (clD D))) [(1, bSrc c (bqp c p (clD D)))] := by
  have e := clD_in D
  have hp := lq_p c p (clD D) (by omega)
  have ev : bqq c p (clD D) = { (lq c p (clD D)).q with k := pk c ((lq c p (clD D)).p + 1) [0, 1, 21] } := by unfold bqq; simp [hv]
  have ep : bqp c p (clD D) = (lq c p (clD D)).p + 2 := by unfold bqp; simp [hv]
  rw [ev, ep]
  have k1 := s_l2Query c p (clD D) hc (by omega) (by omega) (by omega) (by omega)
  generalize lq c p (clD D) = r at *
  refine satG_walk (fn := Try.f52) rfl rfl rfl (Nat.le_of_ble_eq_true rfl) (by simp) fun fr hP hN hdp hb1 hb2 => ?_
  have hE : (envOf fr Try.prog).Ok := envOf_ok hP
  have hM := follows_of hP
  have hS : ∀ {draw ops}, statB Try.f52.ntmps draw ops = true → statB (envOf fr Try.prog).fr.N draw ops = true := fun h => by rw [envOf_fr, hN]; exact h
  have k3 := s_l1Min (max D 2) 3
  rw [clD_eq] at k3
  have k2 := s_l1Next c r.p 14 hc (by omega) (by omega) (by omega) (by omega)
  rw [hv] at k2
  have k4 := s_l1Pick c (r.p + 1) [0, 1, 21] hc (by omega) (by omega) (by simp) (by simp)
  rw [show r.p + 1 + 1 = r.p + 2 by omega] at k4
  repeat' (first
    | exact True.intro
    | refine ev_seq ?_
    | ((first | refine vgd_go ?_ | refine ev_region hE hM (hS (by decide +kernel)) ?_ | refine ev_if ?_ | refine end_ret hE rfl rfl ?_ | refine end_norm hE rfl rfl ?_ | refine endG_ret [] hE rfl ?_ | refine endG_norm [] hE rfl ?_ | refine vcallG_at (args := [.ptr 1 0, iT (clD D)]) 1 [] rfl hP (k1) ?_ | refine vcallG_at (args := [.ptr 1 0, iT 14]) 1 [] rfl hP (k2) ?_ | refine vcallB_of hP (s_l1Max D 2) ?_ | refine vcallB_of hP k3 ?_ | refine vcallG_at (args := [.ptr 1 0, .ref 24584]) 1 [24584] rfl hP (k4) ?_ | refine vcall_A ?_); simp (maxSteps := 2000000) only [go_sem, hP, ↓reduceIte, Nat.reduceAdd, Nat.reduceMul, Nat.reduceEqDiff, Nat.reduceSub, Nat.reduceLeDiff, reduceCtorEq, Int.reduceBEq])
    | refine ev_skip ?_ | refine ev_block ?_ | refine ev_blk ?_ | refine ev_ret ?_ | refine ev_exit ?_ | refine evx_code_ret ?_ | refine evx_blk_ret ?_ | refine evx_lp_ret ?_
    | refine evx_code_exit ?_ | refine evx_lp_exit ?_ | refine evx_blk_hit ?_ | refine evx_blk_pass (by decide) ?_
    | refine And.intro ?_ ?_ | intro _ | decide +kernel | omega)
  all_goals first
    | rfl
    | (exfalso; omega)
    | (rename_i h; exact h.symm)
    | (simp_all; done)
    | trace_state
theorem s_l2BentQ2 (c : List Int) (p D : Int) (hc : codeOk c) (h0 : 0 ≤ p) (h1 : p ≤ 1070000000) (hv : nx c (lq c p (clD D)).p 14 = 2) : SatG Try.prog 52 false [.ptr 1 0, iT D] [(1, bSrc c p)] (tQr (bqq c p (clD D))) [(1, bSrc c (bqp c p (clD D)))] := by
  have e := clD_in D
  have hp := lq_p c p (clD D) (by omega)
  have ev : bqq c p (clD D) = { (lq c p (clD D)).q with point := pointV c ((lq c p (clD D)).p + 1) 2 } := by unfold bqq; simp [hv]
  have ep : bqp c p (clD D) = (lq c p (clD D)).p + 1 + 5 * 2 := by unfold bqp; simp [hv]
  rw [ev, ep]
  have k1 := s_l2Query c p (clD D) hc (by omega) (by omega) (by omega) (by omega)
  generalize lq c p (clD D) = r at *
  refine satG_walk (fn := Try.f52) rfl rfl rfl (Nat.le_of_ble_eq_true rfl) (by simp) fun fr hP hN hdp hb1 hb2 => ?_
  have hE : (envOf fr Try.prog).Ok := envOf_ok hP
  have hM := follows_of hP
  have hS : ∀ {draw ops}, statB Try.f52.ntmps draw ops = true → statB (envOf fr Try.prog).fr.N draw ops = true := fun h => by rw [envOf_fr, hN]; exact h
  have k3 := s_l1Min (max D 2) 3
  rw [clD_eq] at k3
  have k2 := s_l1Next c r.p 14 hc (by omega) (by omega) (by omega) (by omega)
  rw [hv] at k2
  have k4 := s_l1Point c (r.p + 1) 2 hc (by omega) (by omega) (by omega)
  repeat' (first
    | exact True.intro
    | refine ev_seq ?_
    | ((first | refine vgd_go ?_ | refine ev_region hE hM (hS (by decide +kernel)) ?_ | refine ev_if ?_ | refine end_ret hE rfl rfl ?_ | refine end_norm hE rfl rfl ?_ | refine endG_ret [] hE rfl ?_ | refine endG_norm [] hE rfl ?_ | refine vcallG_at (args := [.ptr 1 0, iT (clD D)]) 1 [] rfl hP (k1) ?_ | refine vcallG_at (args := [.ptr 1 0, iT 14]) 1 [] rfl hP (k2) ?_ | refine vcallB_of hP (s_l1Max D 2) ?_ | refine vcallB_of hP k3 ?_ | refine vcallG_at (args := [.ptr 1 0, iT 2]) 1 [] rfl hP (k4) ?_ | refine vcall_A ?_); simp (maxSteps := 2000000) only [go_sem, hP, ↓reduceIte, Nat.reduceAdd, Nat.reduceMul, Nat.reduceEqDiff, Nat.reduceSub, Nat.reduceLeDiff, reduceCtorEq, Int.reduceBEq])
    | refine ev_skip ?_ | refine ev_block ?_ | refine ev_blk ?_ | refine ev_ret ?_ | refine ev_exit ?_ | refine evx_code_ret ?_ | refine evx_blk_ret ?_ | refine evx_lp_ret ?_
    | refine evx_code_exit ?_ | refine evx_lp_exit ?_ | refine evx_blk_hit ?_ | refine evx_blk_pass (by decide) ?_
    | refine And.intro ?_ ?_ | intro _ | decide +kernel | omega)
  all_goals first
    | rfl
    | (exfalso; omega)
    | (rename_i h; exact h.symm)
    | (simp_all; done)
    | trace_state
theorem s_l2BentQ3 (c : List Int) (p D : Int) (hc : codeOk c) (h0 : 0 ≤ p) (h1 : p ≤ 1070000000) (hv : nx c (lq c p (clD D)).p 14 = 3) : SatG Try.prog 52 false [.ptr 1 0, iT D] [(1, bSrc c p)] (tQr (bqq c p (clD D))) [(1, bSrc c (bqp c p (clD D)))] := by
  have e := clD_in D
  have hp := lq_p c p (clD D) (by omega)
  have ev : bqq c p (clD D) = { (lq c p (clD D)).q with rect := bentV c ((lq c p (clD D)).p + 1) 2 } := by unfold bqq; simp [hv]
  have ep : bqp c p (clD D) = bentA c ((lq c p (clD D)).p + 1) 2 := by unfold bqp; simp [hv]
  rw [ev, ep]
  have k1 := s_l2Query c p (clD D) hc (by omega) (by omega) (by omega) (by omega)
  generalize lq c p (clD D) = r at *
  refine satG_walk (fn := Try.f52) rfl rfl rfl (Nat.le_of_ble_eq_true rfl) (by simp) fun fr hP hN hdp hb1 hb2 => ?_
  have hE : (envOf fr Try.prog).Ok := envOf_ok hP
  have hM := follows_of hP
  have hS : ∀ {draw ops}, statB Try.f52.ntmps draw ops = true → statB (envOf fr Try.prog).fr.N draw ops = true := fun h => by rw [envOf_fr, hN]; exact h
  have k3 := s_l1Min (max D 2) 3
  rw [clD_eq] at k3
  have k2 := s_l1Next c r.p 14 hc (by omega) (by omega) (by omega) (by omega)
  rw [hv] at k2
  have k4 := s_l1Bent c (r.p + 1) 2 hc (by omega) (by omega) (by omega) (by omega)
  repeat' (first
    | exact True.intro
    | refine ev_seq ?_
    | ((first | refine vgd_go ?_ | refine ev_region hE hM (hS (by decide +kernel)) ?_ | refine ev_if ?_ | refine end_ret hE rfl rfl ?_ | refine end_norm hE rfl rfl ?_ | refine endG_ret [] hE rfl ?_ | refine endG_norm [] hE rfl ?_ | refine vcallG_at (args := [.ptr 1 0, iT (clD D)]) 1 [] rfl hP (k1) ?_ | refine vcallG_at (args := [.ptr 1 0, iT 14]) 1 [] rfl hP (k2) ?_ | refine vcallB_of hP (s_l1Max D 2) ?_ | refine vcallB_of hP k3 ?_ | refine vcallG_at (args := [.ptr 1 0, iT 2]) 1 [] rfl hP (k4) ?_ | refine vcall_A ?_); simp (maxSteps := 2000000) only [go_sem, hP, ↓reduceIte, Nat.reduceAdd, Nat.reduceMul, Nat.reduceEqDiff, Nat.reduceSub, Nat.reduceLeDiff, reduceCtorEq, Int.reduceBEq])
    | refine ev_skip ?_ | refine ev_block ?_ | refine ev_blk ?_ | refine ev_ret ?_ | refine ev_exit ?_ | refine evx_code_ret ?_ | refine evx_blk_ret ?_ | refine evx_lp_ret ?_
    | refine evx_code_exit ?_ | refine evx_lp_exit ?_ | refine evx_blk_hit ?_ | refine evx_blk_pass (by decide) ?_
    | refine And.intro ?_ ?_ | intro _ | decide +kernel | omega)
  all_goals first
    | rfl
    | (exfalso; omega)
    | (rename_i h; exact h.symm)
    | (simp_all; done)
    | trace_state
theorem s_l2BentQ4 (c : List Int) (p D : Int) (hc : codeOk c) (h0 : 0 ≤ p) (h1 : p ≤ 1070000000) (g0 : nx c (lq c p (clD D)).p 14 ≠ 0) (g1 : nx c (lq c p (clD D)).p 14 ≠ 1) (g2 : nx c (lq c p (clD D)).p 14 ≠ 2) (g3 : nx c (lq c p (clD D)).p 14 ≠ 3) : SatG Try.prog 52 false [.ptr 1 0, iT D] [(1, bSrc c p)] (tQr (bqq c p (clD D))) [(1, bSrc c (bqp c p (clD D)))] := by
  have e := clD_in D
  have hp := lq_p c p (clD D) (by omega)
  have ev : bqq c p (clD D) = (lq c p (clD D)).q := by unfold bqq; simp [g0, g1, g2, g3]
  have ep : bqp c p (clD D) = (lq c p (clD D)).p + 1 := by unfold bqp; simp [g0, g1, g2, g3]
  rw [ev, ep]
  have k1 := s_l2Query c p (clD D) hc (by omega) (by omega) (by omega) (by omega)
  generalize lq c p (clD D) = r at *
  refine satG_walk (fn := Try.f52) rfl rfl rfl (Nat.le_of_ble_eq_true rfl) (by simp) fun fr hP hN hdp hb1 hb2 => ?_
  have hE : (envOf fr Try.prog).Ok := envOf_ok hP
  have hM := follows_of hP
  have hS : ∀ {draw ops}, statB Try.f52.ntmps draw ops = true → statB (envOf fr Try.prog).fr.N draw ops = true := fun h => by rw [envOf_fr, hN]; exact h
  have k3 := s_l1Min (max D 2) 3
  rw [clD_eq] at k3
  have k2 := s_l1Next c r.p 14 hc (by omega) (by omega) (by omega) (by omega)
  have b0 : (nx c r.p 14 == 0) = false := beq_eq_false_iff_ne.2 g0
  have b1 : (nx c r.p 14 == 1) = false := beq_eq_false_iff_ne.2 g1
  have b2 : (nx c r.p 14 == 2) = false := beq_eq_false_iff_ne.2 g2
  have b3 : (nx c r.p 14 == 3) = false := beq_eq_false_iff_ne.2 g3
  repeat' (first
    | exact True.intro
    | refine ev_seq ?_
    | ((first | refine vgd_go ?_ | refine ev_region hE hM (hS (by decide +kernel)) ?_ | refine ev_if ?_ | refine end_ret hE rfl rfl ?_ | refine end_norm hE rfl rfl ?_ | refine endG_ret [] hE rfl ?_ | refine endG_norm [] hE rfl ?_ | refine vcallG_at (args := [.ptr 1 0, iT (clD D)]) 1 [] rfl hP (k1) ?_ | refine vcallG_at (args := [.ptr 1 0, iT 14]) 1 [] rfl hP (k2) ?_ | refine vcallB_of hP (s_l1Max D 2) ?_ | refine vcallB_of hP k3 ?_ | refine vcall_A ?_); simp (maxSteps := 2000000) only [go_sem, hP, ↓reduceIte, Nat.reduceAdd, Nat.reduceMul, Nat.reduceEqDiff, Nat.reduceSub, Nat.reduceLeDiff, reduceCtorEq, b0, b1, b2, b3])
    | refine ev_skip ?_ | refine ev_block ?_ | refine ev_blk ?_ | refine ev_ret ?_ | refine ev_exit ?_ | refine evx_code_ret ?_ | refine evx_blk_ret ?_ | refine evx_lp_ret ?_
    | refine evx_code_exit ?_ | refine evx_lp_exit ?_ | refine evx_blk_hit ?_ | refine evx_blk_pass (by decide) ?_
    | refine And.intro ?_ ?_ | intro _ | decide +kernel | omega)
  all_goals first
    | rfl
    | (exfalso; omega)
    | (rename_i h; exact h.symm)
    | (simp_all; done)
    | trace_state
theorem s_l2BentQuery (c : List Int) (p D : Int) (hc : codeOk c) (h0 : 0 ≤ p) (h1 : p ≤ 1070000000) : SatG Try.prog 52 false [.ptr 1 0, iT D] [(1, bSrc c p)] (tQr (bqq c p (clD D))) [(1, bSrc c (bqp c p (clD D)))] := by
  by_cases g0 : nx c (lq c p (clD D)).p 14 = 0
  · exact s_l2BentQ0 c p D hc h0 h1 g0
  by_cases g1 : nx c (lq c p (clD D)).p 14 = 1
  · exact s_l2BentQ1 c p D hc h0 h1 g1
  by_cases g2 : nx c (lq c p (clD D)).p 14 = 2
  · exact s_l2BentQ2 c p D hc h0 h1 g2
  by_cases g3 : nx c (lq c p (clD D)).p 14 = 3
  · exact s_l2BentQ3 c p D hc h0 h1 g3
  exact s_l2BentQ4 c p D hc h0 h1 g0 g1 g2 g3
theorem s_DrawAnswerOf (c : List Int) (hc : codeOk c) : Sat Try.prog 16 [aY c] false [(false, [sP (bq c 0).l]), (false, [.int .i64 (bq c 0).d]), (true, eQuery (daQ c))] := by
  refine sat_walk (fn := Try.f16) rfl rfl rfl (Nat.le_of_ble_eq_true rfl) fun fr hP hN hbnd => ?_
  have hE : (envOf fr Try.prog).Ok := envOf_ok hP
  have hM := follows_of hP
  have hS : ∀ {draw ops}, statB Try.f16.ntmps draw ops = true → statB (envOf fr Try.prog).fr.N draw ops = true := fun h => by rw [envOf_fr, hN]; exact h
  have q := bq_p c 0
  have hd : daQ c = bqq c (bq c 0).p (clD (bq c 0).d) := rfl
  have k1 := s_l2Bent c 0 hc (by omega) (by omega)
  have k2 := s_l2BentQuery c (bq c 0).p (bq c 0).d hc (by omega) (by omega)
  rw [← hd] at k2
  generalize daQ c = z at *
  generalize bqp c (bq c 0).p (clD (bq c 0).d) = y at *
  generalize bq c 0 = x at *
  repeat' (first
    | exact True.intro
    | refine ev_seq ?_
    | ((first | refine vgd_go ?_ | refine ev_region hE hM (hS (by decide +kernel)) ?_ | refine ev_if ?_ | refine end_ret hE rfl rfl ?_ | refine end_norm hE rfl rfl ?_ | refine endG_ret [] hE rfl ?_ | refine endG_norm [] hE rfl ?_ | refine vcallG_of (args := [.c (sY c)]) [] [] hP (s_l1Source c) ?_ | refine vcallG_at (args := [.ptr 1052680 0]) 1052680 [] rfl hP (k1) ?_ | refine vcallG_at (args := [.ptr 1052680 0, iT x.d]) 1052680 [] rfl hP (k2) ?_ | refine vcall_A ?_); simp (maxSteps := 2000000) only [go_sem, hP, ↓reduceIte, Nat.reduceAdd, Nat.reduceMul, Nat.reduceEqDiff, Nat.reduceSub, Nat.reduceLeDiff, reduceCtorEq])
    | refine ev_skip ?_ | refine ev_block ?_ | refine ev_blk ?_ | refine ev_ret ?_ | refine ev_exit ?_ | refine evx_code_ret ?_ | refine evx_blk_ret ?_ | refine evx_lp_ret ?_
    | refine evx_code_exit ?_ | refine evx_lp_exit ?_ | refine evx_blk_hit ?_ | refine evx_blk_pass (by decide) ?_
    | refine And.intro ?_ ?_ | intro _ | decide +kernel | omega)
  all_goals first
    | rfl
    | (exfalso; omega)
    | (simp_all [eQuery_eq]; done)
    | trace_state
theorem s_clonedPairsF (xs : List Pair) (hw : wPs xs ≤ 1048576) : Sat Try.prog 95 [aPs xs] false [(false, [sP xs])] := by
  refine sat_walk (fn := Try.f95) rfl rfl rfl (Nat.le_of_ble_eq_true rfl) fun fr hP hN hbnd => ?_
  have hE : (envOf fr Try.prog).Ok := envOf_ok hP
  have hM := follows_of hP
  have hS : ∀ {draw ops}, statB Try.f95.ntmps draw ops = true → statB (envOf fr Try.prog).fr.N draw ops = true := fun h => by rw [envOf_fr, hN]; exact h
  have hlen : xs.length ≤ 1048576 := by unfold wPs at hw; omega
  repeat' (first
    | exact True.intro
    | refine ev_seq ?_
    | ((first | refine vgd_go ?_ | refine ev_region hE hM (hS (by decide +kernel)) ?_ | refine ev_if ?_ | refine end_ret hE rfl rfl ?_ | refine end_norm hE rfl rfl ?_ | refine endG_ret [] hE rfl ?_ | refine endG_norm [] hE rfl ?_ | refine vcall_A ?_); simp (maxSteps := 2000000) only [go_sem, hP, ↓reduceIte, Nat.reduceAdd, Nat.reduceMul, Nat.reduceEqDiff, Nat.reduceSub, Nat.reduceLeDiff, reduceCtorEq])
    | refine ev_skip ?_ | refine ev_block ?_ | refine ev_blk ?_ | refine ev_ret ?_ | refine ev_exit ?_ | refine evx_code_ret ?_ | refine evx_blk_ret ?_ | refine evx_lp_ret ?_
    | refine evx_code_exit ?_ | refine evx_lp_exit ?_ | refine evx_blk_hit ?_ | refine evx_blk_pass (by decide) ?_
    | refine And.intro ?_ ?_ | intro _ | decide +kernel | omega)
  refine ev_loop (ι := Nat) (fun k => [(3, .ref 100000), (7, .c (sP xs)), (8, iT xs.length), (9, iT k)]) (fun k => [(100000, .arr true 55 3 ((xs.take k).map oP))]) (fun _ => []) (fun k => k ≤ xs.length) (fun k => xs.length - k) 0 [(100000, some 4096)] (by omega) (by simp only [go_sem, hP, ↓reduceIte, Nat.reduceAdd, Nat.reduceMul, Nat.reduceEqDiff, Nat.reduceSub, Nat.reduceLeDiff, reduceCtorEq]; simp) ?_
  intro k hk
  have hw1 : k < xs.length → IntKind.i64.wrap ((k : Int) + 1) = k + 1 := fun h => i64_in _ (by omega)
  have htl : ((xs.take k).map oP).length = k := by simp; omega
  by_cases hlt : k < xs.length
  · have hg := wR_get hlt hw
    repeat' (first
      | exact True.intro
      | refine ev_seq ?_
      | ((first | refine vgd_go ?_ | refine ev_region hE hM (hS (by decide +kernel)) ?_ | refine ev_if ?_ | refine end_ret hE rfl rfl ?_ | refine end_norm hE rfl rfl ?_ | refine endG_ret [] hE rfl ?_ | refine endG_norm [] hE rfl ?_ | refine vcallB_of hP (s_cloned (xs.getD k default).rect hg.1 hg.2) ?_ | refine vcall_A ?_); simp (maxSteps := 2000000) only [go_sem, hP, ↓reduceIte, Nat.reduceAdd, Nat.reduceMul, Nat.reduceEqDiff, Nat.reduceSub, Nat.reduceLeDiff, reduceCtorEq, htl, Bool.and_self])
      | refine ev_skip ?_ | refine ev_block ?_ | refine ev_blk ?_ | refine ev_ret ?_ | refine ev_exit ?_ | refine evx_code_ret ?_ | refine evx_blk_ret ?_ | refine evx_lp_ret ?_
      | refine evx_code_exit ?_ | refine evx_lp_exit ?_ | refine evx_blk_hit ?_ | refine evx_blk_pass (by decide) ?_
      | refine And.intro ?_ ?_ | intro _ | decide +kernel | omega)
    all_goals first
      | exact ev_lp (k + 1) [(100000, some 20544)] (by omega) (by omega) (by simp only [go_sem, hP, ↓reduceIte, Nat.reduceAdd, Nat.reduceMul, Nat.reduceEqDiff, Nat.reduceSub, Nat.reduceLeDiff, reduceCtorEq]; rw [take_step (d := default) hlt]; simp [hw1 hlt, oP_eq])
      | (exfalso; omega)
      | (simp_all; done)
  · obtain rfl : k = xs.length := by omega
    repeat' (first
      | exact True.intro
      | refine ev_seq ?_
      | ((first | refine vgd_go ?_ | refine ev_region hE hM (hS (by decide +kernel)) ?_ | refine ev_if ?_ | refine end_ret hE rfl rfl ?_ | refine end_norm hE rfl rfl ?_ | refine endG_ret [] hE rfl ?_ | refine endG_norm [] hE rfl ?_ | refine vcall_A ?_); simp (maxSteps := 2000000) only [go_sem, hP, ↓reduceIte, Nat.reduceAdd, Nat.reduceMul, Nat.reduceEqDiff, Nat.reduceSub, Nat.reduceLeDiff, reduceCtorEq, htl, List.take_length])
      | refine ev_skip ?_ | refine ev_block ?_ | refine ev_blk ?_ | refine ev_ret ?_ | refine ev_exit ?_ | refine evx_code_ret ?_ | refine evx_blk_ret ?_ | refine evx_lp_ret ?_
      | refine evx_code_exit ?_ | refine evx_lp_exit ?_ | refine evx_blk_hit ?_ | refine evx_blk_pass (by decide) ?_
      | refine And.intro ?_ ?_ | intro _ | decide +kernel | omega)
    all_goals first
      | (exfalso; omega)
      | (simp_all; done)
theorem s_SortPairF (xs : List Pair) (p : List Int) (hi : Ids xs) (hb : xs.length ≤ 1048576) (hne : xs.length ≠ 0) : SatG Try.prog 96 false [.ref 1, .fn (semP p xs)] [(1, .arr false 55 3 (xs.map eP))] (.tup []) [(1, .arr false 55 3 ((sortP p xs).map eP))] := by
  by_cases hn : xs.length = 0
  · obtain rfl := List.eq_nil_of_length_eq_zero hn
    exact absurd rfl hne
  · haveI : Inhabited (Fin xs.length) := ⟨⟨0, by omega⟩⟩
    have key := k_sortPairF (ty := 55) (n := xs.length) hb (es := xs.map eP) (sem := semP p xs) (by simp) (fun i j => cmpP p (xs.getD i.val default) (xs.getD j.val default)) (cmpP_swo p fun i : Fin xs.length => xs.getD i.val default) (fun x y h1 h2 => by
      have h1 : decide (cmpP p (xs.getD x.val default) (xs.getD y.val default) < 0) = false := h1
      have h2 : decide (cmpP p (xs.getD y.val default) (xs.getD x.val default) < 0) = false := h2
      rw [cmpP_neg] at h1 h2
      have e := leP_id (show leP p (xs.getD x.val default) (xs.getD y.val default) = true by simpa using h2) (by simpa using h1)
      rcases Nat.lt_trichotomy x.val y.val with h | h | h
      · exact absurd e (hi _ _ h y.isLt)
      · exact Fin.ext h
      · exact absurd e.symm (hi _ _ h x.isLt)) (fun i j => by
      have e : ∀ i : Fin xs.length, Cs.strip ((xs.map eP).getD i.val []) = eP (xs.getD i.val default) := fun i => by
        rw [List.getD_eq_getElem?_getD, List.getElem?_map, List.getElem?_eq_getElem i.isLt, getD_lt i.isLt]
        simp [stripC_eP]
      refine ⟨xs.getD i.val default, getD_mem i.isLt, xs.getD j.val default, getD_mem j.isLt, ?_, rfl⟩
      rw [e, e])
    have e1 := sortL_map (le := leP p) (le' := fun a b : Fin xs.length => !ltOf (fun i j : Fin xs.length => cmpP p (xs.getD i.val default) (xs.getD j.val default)) b a) (fun i : Fin xs.length => xs.getD i.val default) (fun a b => by
      show (!decide (cmpP p (xs.getD b.val default) (xs.getD a.val default) < 0)) = _
      rw [cmpP_neg]; simp) (Array.ofFn (fun i : Fin xs.length => i)).toList
    have e2 : (Array.ofFn (fun i : Fin xs.length => i)).toList.map (fun i : Fin xs.length => xs.getD i.val default) = xs := by
      refine List.ext_getElem (by simp) fun i h1 h2 => ?_
      simp only [List.getElem_map]
      rw [getD_lt (by simpa using h2)]
      simp
    rw [e2] at e1
    have e3 : (sortP p xs).map eP = ((sortL (fun a b : Fin xs.length => !ltOf (fun i j : Fin xs.length => cmpP p (xs.getD i.val default) (xs.getD j.val default)) b a) (Array.ofFn (fun i : Fin xs.length => i)).toList).map (fun i => i.val)).map fun i => (xs.map eP).getD i [] := by
      unfold sortP
      rw [← e1, List.map_map, List.map_map]
      refine List.map_congr_left fun i _ => ?_
      simp only [Function.comp]
      rw [List.getD_eq_getElem?_getD (l := xs.map eP), List.getElem?_map, List.getElem?_eq_getElem i.isLt, getD_lt i.isLt]; rfl
    show SatG _ _ _ _ _ _ [(1, .arr false _ 3 ((sortP p xs).map eP))]
    rw [e3]; exact key
theorem s_SortPair0 (sem : List Dat → List Dat → Prop) : SatG Try.prog 96 false [.ref 1, .fn sem] [(1, .arr true 55 3 [])] (.tup []) [(1, .arr true 55 3 [])] :=
  satG_sort0 ⟨_, rfl, rfl, rfl⟩ (fun A cap u W => AnyF.slices_SortFunc_none laysSortPair A cap u W)
def ansF (q : Query) (xs : List Pair) : List Pair := xs.filter fun p => qm q p.rect
def ansV (q : Query) (xs : List Pair) : List Pair := if q.kind = 4 then (sortP q.point (ansF q xs)).take q.k.toNat else ansF q xs
theorem ansF_step {q : Query} {xs : List Pair} {k : Nat} (h : k < xs.length) : ansF q (xs.take (k + 1)) = ansF q (xs.take k) ++ (if qm q (xs.getD k default).rect then [xs.getD k default] else []) := by
  rw [take_step (d := default) h]
  unfold ansF
  rw [List.filter_append, List.filter_cons, List.filter_nil]
theorem ansF_len (q : Query) (xs : List Pair) : (ansF q xs).length ≤ xs.length := List.length_filter_le _ _
theorem ansF_mem {q : Query} {xs : List Pair} : ∀ x ∈ ansF q xs, x ∈ xs := fun x hx => (List.mem_filter.1 hx).1
theorem ris_ids {xs : List Pair} (h : Ris xs) : Ids xs := fun i j hij hj => by
  have := List.pairwise_iff_getElem.1 h i j (by omega) hj hij
  rw [getD_lt (by omega), getD_lt hj]; omega
theorem ansF_ids {q : Query} {xs : List Pair} (h : Ris xs) : Ids (ansF q xs) := ris_ids (List.Pairwise.filter _ h)
theorem s_ClonePairF (xs : List Pair) (hx : xs.length ≤ 1048576) : Sat Try.prog 98 [aPs xs] false [(false, [sP xs])] := by
  refine sat_walk (fn := Try.f98) rfl rfl rfl (Nat.le_of_ble_eq_true rfl) fun fr hP hN hbnd => ?_
  have hE : (envOf fr Try.prog).Ok := envOf_ok hP
  have hM := follows_of hP
  have hS : ∀ {draw ops}, statB Try.f98.ntmps draw ops = true → statB (envOf fr Try.prog).fr.N draw ops = true := fun h => by rw [envOf_fr, hN]; exact h
  have hlen := (bndPs hbnd).1
  refine ev_nil (j := 0) (sz := 3) (es := xs.map eP) rfl (fun he => ?_) ?_
  · obtain rfl : xs = [] := by simpa using he
    repeat' (first
      | exact True.intro
      | refine ev_seq ?_
      | ((first | refine vgd_go ?_ | refine ev_region hE hM (hS (by decide +kernel)) ?_ | refine ev_if ?_ | refine end_ret hE rfl rfl ?_ | refine end_norm hE rfl rfl ?_ | refine endG_ret [] hE rfl ?_ | refine endG_norm [] hE rfl ?_ | refine vcall_A ?_); simp (maxSteps := 2000000) only [go_sem, hP, ↓reduceIte, Nat.reduceAdd, Nat.reduceMul, Nat.reduceEqDiff, Nat.reduceSub, Nat.reduceLeDiff, reduceCtorEq])
      | refine ev_skip ?_ | refine ev_block ?_ | refine ev_blk ?_ | refine ev_ret ?_ | refine ev_exit ?_ | refine evx_code_ret ?_ | refine evx_blk_ret ?_ | refine evx_lp_ret ?_
      | refine evx_code_exit ?_ | refine evx_lp_exit ?_ | refine evx_blk_hit ?_ | refine evx_blk_pass (by decide) ?_
      | refine And.intro ?_ ?_ | intro _ | decide +kernel | omega)
    all_goals first | rfl | (simp_all; done) | trace_state
  · repeat' (first
      | exact True.intro
      | refine ev_seq ?_
      | ((first | refine vgd_go ?_ | refine ev_region hE hM (hS (by decide +kernel)) ?_ | refine ev_if ?_ | refine end_ret hE rfl rfl ?_ | refine end_norm hE rfl rfl ?_ | refine endG_ret [] hE rfl ?_ | refine endG_norm [] hE rfl ?_ | refine vcall_A ?_); simp (maxSteps := 2000000) only [go_sem, hP, ↓reduceIte, Nat.reduceAdd, Nat.reduceMul, Nat.reduceEqDiff, Nat.reduceSub, Nat.reduceLeDiff, reduceCtorEq, Bool.and_self, List.length_map, Es.strip])
      | refine ev_skip ?_ | refine ev_block ?_ | refine ev_blk ?_ | refine ev_ret ?_ | refine ev_exit ?_ | refine evx_code_ret ?_ | refine evx_blk_ret ?_ | refine evx_lp_ret ?_
      | refine evx_code_exit ?_ | refine evx_lp_exit ?_ | refine evx_blk_hit ?_ | refine evx_blk_pass (by decide) ?_
      | refine And.intro ?_ ?_ | intro _ | decide +kernel | omega)
    all_goals first | (simp_all; done) | (simp; omega) | trace_state
theorem s_answered (xs : List Pair) (q : Query) (d : Int) (hm : mf xs d = 0) (hq : qf q d = 0) : Sat Try.prog 54 [aPs xs, aQuery q] false [(false, [sP (ansV q xs)])] := by
  refine sat_walk (fn := Try.f54) rfl rfl rfl (Nat.le_of_ble_eq_true rfl) fun fr hP hN hbnd => ?_
  have hE : (envOf fr Try.prog).Ok := envOf_ok hP
  have hM := follows_of hP
  have hS : ∀ {draw ops}, statB Try.f54.ntmps draw ops = true → statB (envOf fr Try.prog).fr.N draw ops = true := fun h => by rw [envOf_fr, hN]; exact h
  obtain ⟨m1, m2, m3, m4⟩ := mf_iff.1 hm
  have hw := mf_w hm
  have hrf : ∀ x ∈ xs, rf x.rect d = 0 := fun x hx => pairF_rf (m3 x hx)
  have c1 := s_clonedPairsF xs (by omega)
  repeat' (first
    | exact True.intro
    | refine ev_seq ?_
    | ((first | refine vgd_go ?_ | refine ev_region hE hM (hS (by decide +kernel)) ?_ | refine ev_if ?_ | refine end_ret hE rfl rfl ?_ | refine end_norm hE rfl rfl ?_ | refine endG_ret [] hE rfl ?_ | refine endG_norm [] hE rfl ?_ | refine vcallB_of hP c1 ?_ | refine vcall_A ?_); simp (maxSteps := 2000000) only [go_sem, hP, ↓reduceIte, Nat.reduceAdd, Nat.reduceMul, Nat.reduceEqDiff, Nat.reduceSub, Nat.reduceLeDiff, reduceCtorEq, List.length_map])
    | refine ev_skip ?_ | refine ev_block ?_ | refine ev_blk ?_ | refine ev_ret ?_ | refine ev_exit ?_ | refine evx_code_ret ?_ | refine evx_blk_ret ?_ | refine evx_lp_ret ?_
    | refine evx_code_exit ?_ | refine evx_lp_exit ?_ | refine evx_blk_hit ?_ | refine evx_blk_pass (by decide) ?_
    | refine And.intro ?_ ?_ | intro _ | decide +kernel | omega)
  refine ev_loop (ι := Nat) (fun k => [(3, .ptr 0 0), (5, .ref 100000), (10, .c (sP xs)), (11, iT xs.length), (12, iT k)]) (fun k => [(0, .box ((eQuery q).map .c)), (100000, .arr (ansF q (xs.take k)).isEmpty 55 3 ((ansF q (xs.take k)).map eP))]) (fun _ => []) (fun k => k ≤ xs.length) (fun k => xs.length - k) 0 [(100000, some 4096)] (by omega) (by simp only [go_sem, hP, ↓reduceIte, Nat.reduceAdd, Nat.reduceMul, Nat.reduceEqDiff, Nat.reduceSub, Nat.reduceLeDiff, reduceCtorEq]; simp [ansF, eQuery]) ?_
  intro k hk
  have hlen : (ansF q (xs.take k)).length ≤ k := Nat.le_trans (ansF_len _ _) (by rw [List.length_take]; omega)
  by_cases hlt : k < xs.length
  · have hw1 : IntKind.i64.wrap ((k : Int) + 1) = k + 1 := i64_in _ (by omega)
    have dl : decide ((k : Int) < (xs.length : Int)) = true := decide_eq_true (by omega)
    have hst := ansF_step (q := q) hlt
    have c2 := s_implMatchesQ q (xs.getD k default).rect d hq (hrf _ (getD_mem hlt))
    generalize ansF q (xs.take k) = ys at *
    by_cases hqm : qm q (xs.getD k default).rect = true
    · rw [hqm] at c2
      rw [if_pos hqm] at hst
      cases ys with
      | nil =>
        repeat' (first
          | exact True.intro
          | refine ev_seq ?_
          | ((first | refine vgd_go ?_ | refine ev_region hE hM (hS (by decide +kernel)) ?_ | refine ev_if ?_ | refine end_ret hE rfl rfl ?_ | refine end_norm hE rfl rfl ?_ | refine endG_ret [] hE rfl ?_ | refine endG_norm [] hE rfl ?_ | refine vcallB_of hP c2 ?_ | refine vcall_A ?_); simp (maxSteps := 2000000) only [go_sem, hP, ↓reduceIte, Nat.reduceAdd, Nat.reduceMul, Nat.reduceEqDiff, Nat.reduceSub, Nat.reduceLeDiff, reduceCtorEq, dl, Bool.and_self, List.length_map, List.isEmpty_nil, List.map_nil, Cs.strip, C.strip, Es.strip, strip_eI])
          | refine ev_skip ?_ | refine ev_block ?_ | refine ev_blk ?_ | refine ev_ret ?_ | refine ev_exit ?_ | refine evx_code_ret ?_ | refine evx_blk_ret ?_ | refine evx_lp_ret ?_
          | refine evx_code_exit ?_ | refine evx_lp_exit ?_ | refine evx_blk_hit ?_ | refine evx_blk_pass (by decide) ?_
          | refine And.intro ?_ ?_ | intro _ | decide +kernel | omega)
        all_goals first
          | exact ev_lp (k + 1) [(100000, some 24600)] (by omega) (by omega) (by simp only [go_sem, hP, ↓reduceIte, Nat.reduceAdd, Nat.reduceMul, Nat.reduceEqDiff, Nat.reduceSub, Nat.reduceLeDiff, reduceCtorEq]; rw [hst]; simp [hw1, eP_eq, Es.strip, Bool.and_self, eQuery])
          | (exfalso; omega)
          | omega
          | (simp_all; done)
          | trace_state
      | cons y ys =>
        simp only [List.length_cons] at hlen
        repeat' (first
          | exact True.intro
          | refine ev_seq ?_
          | ((first | refine vgd_go ?_ | refine ev_region hE hM (hS (by decide +kernel)) ?_ | refine ev_if ?_ | refine end_ret hE rfl rfl ?_ | refine end_norm hE rfl rfl ?_ | refine endG_ret [] hE rfl ?_ | refine endG_norm [] hE rfl ?_ | refine vcallB_of hP c2 ?_ | refine vcall_A ?_); simp (maxSteps := 2000000) only [go_sem, hP, ↓reduceIte, Nat.reduceAdd, Nat.reduceMul, Nat.reduceEqDiff, Nat.reduceSub, Nat.reduceLeDiff, reduceCtorEq, dl, Bool.and_self, List.length_map, List.isEmpty_cons, Cs.strip, C.strip, Es.strip, strip_eI])
          | refine ev_skip ?_ | refine ev_block ?_ | refine ev_blk ?_ | refine ev_ret ?_ | refine ev_exit ?_ | refine evx_code_ret ?_ | refine evx_blk_ret ?_ | refine evx_lp_ret ?_
          | refine evx_code_exit ?_ | refine evx_lp_exit ?_ | refine evx_blk_hit ?_ | refine evx_blk_pass (by decide) ?_
          | refine And.intro ?_ ?_ | intro _ | decide +kernel | omega)
        all_goals first
          | exact ev_lp (k + 1) [(100000, some 24600)] (by omega) (by omega) (by simp only [go_sem, hP, ↓reduceIte, Nat.reduceAdd, Nat.reduceMul, Nat.reduceEqDiff, Nat.reduceSub, Nat.reduceLeDiff, reduceCtorEq]; rw [hst]; simp [hw1, eP_eq, Es.strip, Bool.and_self, eQuery])
          | (exfalso; omega)
          | omega
          | (simp_all; done)
          | trace_state
    · have hqf : qm q (xs.getD k default).rect = false := by simpa using hqm
      rw [hqf] at c2
      rw [if_neg hqm, List.append_nil] at hst
      repeat' (first
        | exact True.intro
        | refine ev_seq ?_
        | ((first | refine vgd_go ?_ | refine ev_region hE hM (hS (by decide +kernel)) ?_ | refine ev_if ?_ | refine end_ret hE rfl rfl ?_ | refine end_norm hE rfl rfl ?_ | refine endG_ret [] hE rfl ?_ | refine endG_norm [] hE rfl ?_ | refine vcallB_of hP c2 ?_ | refine vcall_A ?_); simp (maxSteps := 2000000) only [go_sem, hP, ↓reduceIte, Nat.reduceAdd, Nat.reduceMul, Nat.reduceEqDiff, Nat.reduceSub, Nat.reduceLeDiff, reduceCtorEq, dl, List.length_map, Cs.strip, C.strip, Es.strip, strip_eI])
        | refine ev_skip ?_ | refine ev_block ?_ | refine ev_blk ?_ | refine ev_ret ?_ | refine ev_exit ?_ | refine evx_code_ret ?_ | refine evx_blk_ret ?_ | refine evx_lp_ret ?_
        | refine evx_code_exit ?_ | refine evx_lp_exit ?_ | refine evx_blk_hit ?_ | refine evx_blk_pass (by decide) ?_
        | refine And.intro ?_ ?_ | intro _ | decide +kernel | omega)
      all_goals first
        | exact ev_lp (k + 1) [(100000, some 100000)] (by omega) (by omega) (by simp only [go_sem, hP, ↓reduceIte, Nat.reduceAdd, Nat.reduceMul, Nat.reduceEqDiff, Nat.reduceSub, Nat.reduceLeDiff, reduceCtorEq]; rw [hst]; simp [hw1, eQuery])
        | (exfalso; omega)
        | omega
        | (simp_all; done)
        | trace_state
  · obtain rfl : k = xs.length := by omega
    have dl : decide ((xs.length : Int) < (xs.length : Int)) = false := by simp
    rw [List.take_length] at hlen ⊢
    have hids := ansF_ids (q := q) m4
    have hmem := ansF_mem (q := q) (xs := xs)
    have hv : ansV q xs = if q.kind = 4 then (sortP q.point (ansF q xs)).take q.k.toNat else ansF q xs := rfl
    generalize ansV q xs = vs at *
    generalize ansF q xs = ys at *
    by_cases hk4 : q.kind = 4
    · have d4 : (q.kind == 4) = true := beq_iff_eq.2 hk4
      rw [if_pos hk4] at hv
      have hK := qf_k hq hk4
      have hgo : ∀ x ∈ ys, Good x.rect q.point := fun x hx => good_of (hrf x (hmem x hx)) (qf_point hq (Or.inr hk4))
      cases ys with
      | nil =>
        have e0 : vs = [] := by rw [hv]; simp [sortP, sortL]
        subst e0
        have c3 := s_SortPair0 (semP q.point [])
        have kF : ∀ ds rs, semP q.point [] ds rs → Sat Try.prog 122 (ds.map .d ++ [.pv [sI q.point]]) true rs := by
          rintro ds rs ⟨a, ha, b, hb, rfl, rfl⟩
          cases ha
        repeat' (first
          | exact True.intro
          | exact kF
          | refine ev_seq ?_
          | ((first | refine ev_stop 10 ?_ | refine vgd_go ?_ | refine ev_region hE hM (hS (by decide +kernel)) ?_ | refine ev_if ?_ | refine end_ret hE rfl rfl ?_ | refine end_norm hE rfl rfl ?_ | refine endG_ret [] hE rfl ?_ | refine endG_norm [] hE rfl ?_ | refine vcallG_of (args := [.c (sI q.point)]) [] [] hP (s_nearFirst q.point) ?_ | refine vcallG_of (args := [.ref 100000, _]) [(1, 100000)] [] hP c3 ?_ | refine vcall_A ?_); simp (maxSteps := 2000000) only [go_sem, hP, ↓reduceIte, Nat.reduceAdd, Nat.reduceMul, Nat.reduceEqDiff, Nat.reduceSub, Nat.reduceLeDiff, reduceCtorEq, dl, d4, List.isEmpty_nil, List.map_nil, List.length_map])
          | refine ev_skip ?_ | refine ev_block ?_ | refine ev_blk ?_ | refine ev_ret ?_ | refine ev_exit ?_ | refine evx_code_ret ?_ | refine evx_blk_ret ?_ | refine evx_lp_ret ?_
          | refine evx_code_exit ?_ | refine evx_lp_exit ?_ | refine evx_blk_hit ?_ | refine evx_blk_pass (by decide) ?_
          | refine And.intro ?_ ?_ | intro _ | decide +kernel | omega)
        first | refine Stop.mk ?_ | skip
        refine ev_cut [(3, .ptr 0 0), (5, .ref 100000)] [(0, .box ((eQuery q).map .c)), (100000, .fro 3 (([] : List Pair).map eP))] [] [] (by simp only [go_sem, hP, ↓reduceIte, Nat.reduceAdd, Nat.reduceMul, Nat.reduceEqDiff, Nat.reduceSub, Nat.reduceLeDiff, reduceCtorEq]; simp [Es.strip]) ?_
        have w1 : IntKind.i64.wrap q.k = q.k := i64_in _ (by omega)
        have tm : min q.k 0 = 0 := by omega
        have cc := s_ClonePairF [] (by simp)
        repeat' (first
          | exact True.intro
          | refine ev_seq ?_
          | ((first | refine vgd_go ?_ | refine ev_region hE hM (hS (by decide +kernel)) ?_ | refine ev_if ?_ | refine end_ret hE rfl rfl ?_ | refine end_norm hE rfl rfl ?_ | refine endG_ret [] hE rfl ?_ | refine endG_norm [] hE rfl ?_ | refine vcallB_of hP cc ?_ | refine vcall_A ?_); simp (maxSteps := 2000000) only [go_sem, hP, ↓reduceIte, Nat.reduceAdd, Nat.reduceMul, Nat.reduceEqDiff, Nat.reduceSub, Nat.reduceLeDiff, reduceCtorEq, w1, tm, List.length_map, List.map_nil, List.take_nil, List.drop_nil])
          | refine ev_skip ?_ | refine ev_block ?_ | refine ev_blk ?_ | refine ev_ret ?_ | refine ev_exit ?_ | refine evx_code_ret ?_ | refine evx_blk_ret ?_ | refine evx_lp_ret ?_
          | refine evx_code_exit ?_ | refine evx_lp_exit ?_ | refine evx_blk_hit ?_ | refine evx_blk_pass (by decide) ?_
          | refine And.intro ?_ ?_ | intro _ | decide +kernel | omega)
        all_goals first | rfl | (exfalso; omega) | omega | (simp; done) | trace_state
      | cons y ys =>
        have hne : (y :: ys).length ≠ 0 := by simp
        have hEm : (y :: ys).isEmpty = false := rfl
        have c3 := s_SortPairF (y :: ys) q.point hids (by omega) hne
        rw [hEm]
        generalize y :: ys = zs at *
        have kF : ∀ ds rs, semP q.point zs ds rs → Sat Try.prog 122 (ds.map .d ++ [.pv [sI q.point]]) true rs := by
          rintro ds rs ⟨a, ha, b, hb, rfl, rfl⟩
          exact s_nearFirst1 a b _ (hgo a ha) (hgo b hb)
        repeat' (first
          | exact True.intro
          | exact kF
          | refine ev_seq ?_
          | ((first | refine ev_stop 10 ?_ | refine vgd_go ?_ | refine ev_region hE hM (hS (by decide +kernel)) ?_ | refine ev_if ?_ | refine end_ret hE rfl rfl ?_ | refine end_norm hE rfl rfl ?_ | refine endG_ret [] hE rfl ?_ | refine endG_norm [] hE rfl ?_ | refine vcallG_of (args := [.c (sI q.point)]) [] [] hP (s_nearFirst q.point) ?_ | refine vcallG_of (args := [.ref 100000, _]) [(1, 100000)] [] hP c3 ?_ | refine vcall_A ?_); simp (maxSteps := 2000000) only [go_sem, hP, ↓reduceIte, Nat.reduceAdd, Nat.reduceMul, Nat.reduceEqDiff, Nat.reduceSub, Nat.reduceLeDiff, reduceCtorEq, dl, d4, List.length_map])
          | refine ev_skip ?_ | refine ev_block ?_ | refine ev_blk ?_ | refine ev_ret ?_ | refine ev_exit ?_ | refine evx_code_ret ?_ | refine evx_blk_ret ?_ | refine evx_lp_ret ?_
          | refine evx_code_exit ?_ | refine evx_lp_exit ?_ | refine evx_blk_hit ?_ | refine evx_blk_pass (by decide) ?_
          | refine And.intro ?_ ?_ | intro _ | decide +kernel | omega)
        first | refine Stop.mk ?_ | skip
        refine ev_cut [(3, .ptr 0 0), (5, .ref 100000)] [(0, .box ((eQuery q).map .c)), (100000, .fro 3 ((sortP q.point zs).map eP))] [] [] (by simp only [go_sem, hP, ↓reduceIte, Nat.reduceAdd, Nat.reduceMul, Nat.reduceEqDiff, Nat.reduceSub, Nat.reduceLeDiff, reduceCtorEq]) ?_
        have hsl := sortP_len q.point zs
        have w1 : IntKind.i64.wrap q.k = q.k := i64_in _ (by omega)
        have tm : (min q.k (zs.length : Int)).toNat ≤ zs.length := by omega
        have tt : vs = (sortP q.point zs).take (min q.k (zs.length : Int)).toNat := by
          rw [hv]
          rcases Int.le_total q.k zs.length with h | h
          · rw [Int.min_eq_left h]
          · rw [Int.min_eq_right h, List.take_of_length_le (by omega), List.take_of_length_le (by omega)]
        have t1 : ∀ n : Nat, List.take (n - Int.toNat 0) (List.drop (Int.toNat 0) ((sortP q.point zs).map eP)) = ((sortP q.point zs).take n).map eP := fun n => by rw [show Int.toNat 0 = 0 from rfl, Nat.sub_zero, List.drop_zero, List.map_take]
        have hvl : vs.length ≤ 60 := by rw [tt, List.length_take]; omega
        have cc := s_ClonePairF vs (by omega)
        rw [tt] at cc ⊢
        repeat' (first
          | exact True.intro
          | refine ev_seq ?_
          | ((first | refine vgd_go ?_ | refine ev_region hE hM (hS (by decide +kernel)) ?_ | refine ev_if ?_ | refine end_ret hE rfl rfl ?_ | refine end_norm hE rfl rfl ?_ | refine endG_ret [] hE rfl ?_ | refine endG_norm [] hE rfl ?_ | refine vcallB_of hP cc ?_ | refine vcall_A ?_); simp (maxSteps := 2000000) only [go_sem, hP, ↓reduceIte, Nat.reduceAdd, Nat.reduceMul, Nat.reduceEqDiff, Nat.reduceSub, Nat.reduceLeDiff, reduceCtorEq, hsl, w1, t1, List.length_map])
          | refine ev_skip ?_ | refine ev_block ?_ | refine ev_blk ?_ | refine ev_ret ?_ | refine ev_exit ?_ | refine evx_code_ret ?_ | refine evx_blk_ret ?_ | refine evx_lp_ret ?_
          | refine evx_code_exit ?_ | refine evx_lp_exit ?_ | refine evx_blk_hit ?_ | refine evx_blk_pass (by decide) ?_
          | refine And.intro ?_ ?_ | intro _ | decide +kernel | omega)
        all_goals first | rfl | (exfalso; omega) | omega | (simp_all [List.map_take]; done) | trace_state
    · have d4 : (q.kind == 4) = false := beq_eq_false_iff_ne.2 hk4
      rw [if_neg hk4] at hv
      subst hv
      repeat' (first
        | exact True.intro
        | refine ev_seq ?_
        | ((first | refine vgd_go ?_ | refine ev_region hE hM (hS (by decide +kernel)) ?_ | refine ev_if ?_ | refine end_ret hE rfl rfl ?_ | refine end_norm hE rfl rfl ?_ | refine endG_ret [] hE rfl ?_ | refine endG_norm [] hE rfl ?_ | refine vcall_A ?_); simp (maxSteps := 2000000) only [go_sem, hP, ↓reduceIte, Nat.reduceAdd, Nat.reduceMul, Nat.reduceEqDiff, Nat.reduceSub, Nat.reduceLeDiff, reduceCtorEq, dl, d4, List.length_map])
        | refine ev_skip ?_ | refine ev_block ?_ | refine ev_blk ?_ | refine ev_ret ?_ | refine ev_exit ?_ | refine evx_code_ret ?_ | refine evx_blk_ret ?_ | refine evx_lp_ret ?_
        | refine evx_code_exit ?_ | refine evx_lp_exit ?_ | refine evx_blk_hit ?_ | refine evx_blk_pass (by decide) ?_
        | refine And.intro ?_ ?_ | intro _ | decide +kernel | omega)
      all_goals first | (cases vs <;> rfl) | (simp_all; done) | trace_state
theorem s_l2NearG (xs : List Pair) (pt : List Int) (hg : ∀ x ∈ xs, Good x.rect pt) (hi : Ids xs) (hl : xs.length ≤ 1000) : SatG Try.prog 101 false [.ref 1, .c (sI pt)] [(1, .arr xs.isEmpty 55 3 (xs.map eP))] (.ref 2) [(1, .arr xs.isEmpty 55 3 (xs.map eP)), (2, .arr xs.isEmpty 55 3 ((sortP pt xs).map eP))] := by
  refine satG_walk (fn := Try.f101) rfl rfl rfl (Nat.le_of_ble_eq_true rfl) (by simp) fun fr hP hN hdp hb1 hb2 => ?_
  have hE : (envOf fr Try.prog).Ok := envOf_ok hP
  have hM := follows_of hP
  have hS : ∀ {draw ops}, statB Try.f101.ntmps draw ops = true → statB (envOf fr Try.prog).fr.N draw ops = true := fun h => by rw [envOf_fr, hN]; exact h
  repeat' (first
    | exact True.intro
    | refine ev_seq ?_
    | ((first | refine vgd_go ?_ | refine ev_region hE hM (hS (by decide +kernel)) ?_ | refine ev_if ?_ | refine end_ret hE rfl rfl ?_ | refine end_norm hE rfl rfl ?_ | refine endG_ret [] hE rfl ?_ | refine endG_norm [] hE rfl ?_ | refine vcall_A ?_); simp (maxSteps := 2000000) only [go_sem, hP, ↓reduceIte, Nat.reduceAdd, Nat.reduceMul, Nat.reduceEqDiff, Nat.reduceSub, Nat.reduceLeDiff, reduceCtorEq])
    | refine ev_skip ?_ | refine ev_block ?_ | refine ev_blk ?_ | refine ev_ret ?_ | refine ev_exit ?_ | refine evx_code_ret ?_ | refine evx_blk_ret ?_ | refine evx_lp_ret ?_
    | refine evx_code_exit ?_ | refine evx_lp_exit ?_ | refine evx_blk_hit ?_ | refine evx_blk_pass (by decide) ?_
    | refine And.intro ?_ ?_ | intro _ | decide +kernel | omega)
  refine ev_loop (ι := Nat) (fun k => [(0, .ref 1), (1, .c (sI pt)), (5, .ref 100000), (6, iT k)]) (fun k => [(1, .arr xs.isEmpty 55 3 (xs.map eP)), (100000, .arr (decide (k = 0)) 55 3 ((sortP pt (xs.take k)).map eP))]) (fun _ => [(0, .ref 1)]) (fun k => k ≤ xs.length) (fun k => xs.length - k) 0 [(100000, some 4096)] (by omega) (by simp only [go_sem, hP, ↓reduceIte, Nat.reduceAdd, Nat.reduceMul, Nat.reduceEqDiff, Nat.reduceSub, Nat.reduceLeDiff, reduceCtorEq]; simp [sortP, sortL]) ?_
  intro k hk
  have hw1 : k < xs.length → IntKind.i64.wrap ((k : Int) + 1) = k + 1 := fun h => i64_in _ (by omega)
  have hyl : (sortP pt (xs.take k)).length = k := by rw [sortP_len, List.length_take]; omega
  have hym : ∀ y ∈ sortP pt (xs.take k), y ∈ xs := fun y hy => List.mem_of_mem_take ((sortP_perm pt _).mem_iff.1 hy)
  by_cases hlt : k < xs.length
  · have hEm : xs.isEmpty = false := by cases xs with
      | nil => simp at hlt
      | cons _ _ => rfl
    have hmx : (xs.map eP).getD k [] = eP (xs.getD k default) := by rw [List.getD_eq_getElem?_getD, List.getElem?_map, List.getElem?_eq_getElem hlt, getD_lt hlt]; rfl
    rw [hEm]
    have hst := sortP_step pt hlt
    rw [insL_at] at hst
    have hid := idsN (p := pt) hi hlt
    have gx := hg _ (getD_mem (d := default) hlt)
    generalize sortP pt (xs.take k) = ys at *
    have hpl : ys.findIdx (fun y => !leP pt y (xs.getD k default)) ≤ ys.length := List.findIdx_le_length
    have hpy : ∀ j, j < ys.findIdx (fun y => !leP pt y (xs.getD k default)) → leP pt (ys.getD j default) (xs.getD k default) = true := fun j hj => by
      have := List.not_of_lt_findIdx hj
      rw [getD_lt (by omega)]
      simpa using this
    have hpn : ∀ j, j = ys.findIdx (fun y => !leP pt y (xs.getD k default)) → j < ys.length → leP pt (ys.getD j default) (xs.getD k default) = false := fun j hj hjl => by
      subst hj
      have := List.findIdx_getElem (w := hjl)
      rw [getD_lt hjl]
      simpa using this
    generalize ys.findIdx (fun y => !leP pt y (xs.getD k default)) = p at *
    have dl : decide ((k : Int) < (xs.length : Int)) = true := by simp only [decide_eq_true_eq]; omega
    repeat' (first
      | exact True.intro
      | refine ev_seq ?_
      | ((first | refine vgd_go ?_ | refine ev_region hE hM (hS (by decide +kernel)) ?_ | refine ev_if ?_ | refine end_ret hE rfl rfl ?_ | refine end_norm hE rfl rfl ?_ | refine endG_ret [] hE rfl ?_ | refine endG_norm [] hE rfl ?_ | refine vcall_A ?_); simp (maxSteps := 2000000) only [go_sem, hP, ↓reduceIte, Nat.reduceAdd, Nat.reduceMul, Nat.reduceEqDiff, Nat.reduceSub, Nat.reduceLeDiff, reduceCtorEq, dl, List.length_map])
      | refine ev_skip ?_ | refine ev_block ?_ | refine ev_blk ?_ | refine ev_ret ?_ | refine ev_exit ?_ | refine evx_code_ret ?_ | refine evx_blk_ret ?_ | refine evx_lp_ret ?_
      | refine evx_code_exit ?_ | refine evx_lp_exit ?_ | refine evx_blk_hit ?_ | refine evx_blk_pass (by decide) ?_
      | refine And.intro ?_ ?_ | intro _ | decide +kernel | omega)
    refine ev_loop (ι := Nat) (fun j => [(0, .ref 1), (1, .c (sI pt)), (5, .ref 100000), (6, iT k), (7, iT j)]) (fun j => [(1, .arr false 55 3 (xs.map eP)), (100000, .arr (decide (k = 0)) 55 3 (ys.map eP))]) (fun _ => [(0, .ref 1)]) (fun j => j ≤ p) (fun j => p - j) 0 [] (by omega) (by simp only [go_sem, hP, ↓reduceIte, Nat.reduceAdd, Nat.reduceMul, Nat.reduceEqDiff, Nat.reduceSub, Nat.reduceLeDiff, reduceCtorEq]; simp) ?_
    intro j hj
    have hw2 : IntKind.i64.wrap ((j : Int) + 1) = j + 1 := i64_in _ (by omega)
    have tj : Int.toNat (j : Int) = j := by simp
    have ht1 : List.take (ys.length - j) (List.drop j (ys.map eP)) = List.drop j (ys.map eP) := List.take_of_length_le (by simp)
    have ht2 : List.take ys.length (ys.map eP) = ys.map eP := List.take_of_length_le (by simp)
    by_cases hjl : j < ys.length
    · have d0 : decide ((j : Int) < (ys.length : Int)) = true := by simp only [decide_eq_true_eq]; omega
      have hjm := getD_mem (d := default) hjl
      have hm1 : (ys.map eP).getD j [] = eP (ys.getD j default) := by rw [List.getD_eq_getElem?_getD, List.getElem?_map, List.getElem?_eq_getElem hjl, getD_lt hjl]; rfl
      have cn := s_l2Nearer (ys.getD j default) (xs.getD k default) pt (hg _ (hym _ hjm)) gx (hid _ hjm)
      by_cases hj1 : j < p
      · have hle := hpy j hj1
        rw [hle] at cn
        repeat' (first
          | exact True.intro
          | refine ev_seq ?_
          | ((first | refine vgd_go ?_ | refine ev_region hE hM (hS (by decide +kernel)) ?_ | refine ev_if ?_ | refine end_ret hE rfl rfl ?_ | refine end_norm hE rfl rfl ?_ | refine endG_ret [] hE rfl ?_ | refine endG_norm [] hE rfl ?_ | refine vcallB_of hP cn ?_ | refine vcall_A ?_); simp (maxSteps := 2000000) only [go_sem, hP, ↓reduceIte, Nat.reduceAdd, Nat.reduceMul, Nat.reduceEqDiff, Nat.reduceSub, Nat.reduceLeDiff, reduceCtorEq, List.append_eq, List.cons_append, List.nil_append, Cs.strip, C.strip, Es.strip, strip_eI, Bool.and_false, Bool.and_self, Bool.false_and, Bool.false_eq_true, List.length_append, List.length_take, List.length_drop, List.length_cons, List.length_nil, Int.toNat_zero, ite_self, hlt, hmx, hjl, hm1, d0, ht1, ht2, List.length_map])
          | refine ev_skip ?_ | refine ev_block ?_ | refine ev_blk ?_ | refine ev_ret ?_ | refine ev_exit ?_ | refine evx_code_ret ?_ | refine evx_blk_ret ?_ | refine evx_lp_ret ?_
          | refine evx_code_exit ?_ | refine evx_lp_exit ?_ | refine evx_blk_hit ?_ | refine evx_blk_pass (by decide) ?_
          | refine And.intro ?_ ?_ | intro _ | decide +kernel | omega)
        all_goals first
          | exact ev_lp (j + 1) [] (by omega) (by omega) (by simp only [go_sem, hP, ↓reduceIte, Nat.reduceAdd, Nat.reduceMul, Nat.reduceEqDiff, Nat.reduceSub, Nat.reduceLeDiff, reduceCtorEq]; simp [hw2])
          | (exfalso; omega)
          | omega
          | (simp only [Nat.min_def]; split <;> omega)
          | (simp_all; done)
          | trace_state
      · obtain rfl : j = p := by omega
        have hle := hpn j rfl hjl
        rw [hle] at cn
        repeat' (first
          | exact True.intro
          | refine ev_seq ?_
          | ((first | refine vgd_go ?_ | refine ev_region hE hM (hS (by decide +kernel)) ?_ | refine ev_if ?_ | refine end_ret hE rfl rfl ?_ | refine end_norm hE rfl rfl ?_ | refine endG_ret [] hE rfl ?_ | refine endG_norm [] hE rfl ?_ | refine vcallB_of hP cn ?_ | refine vcall_A ?_); simp (maxSteps := 2000000) only [go_sem, hP, ↓reduceIte, Nat.reduceAdd, Nat.reduceMul, Nat.reduceEqDiff, Nat.reduceSub, Nat.reduceLeDiff, reduceCtorEq, List.append_eq, List.cons_append, List.nil_append, Cs.strip, C.strip, Es.strip, strip_eI, Bool.and_false, Bool.and_self, Bool.false_and, Bool.false_eq_true, List.length_append, List.length_take, List.length_drop, List.length_cons, List.length_nil, Int.toNat_zero, ite_self, hlt, hmx, hjl, hm1, d0, ht1, ht2, tj, List.length_map])
          | refine ev_skip ?_ | refine ev_block ?_ | refine ev_blk ?_ | refine ev_ret ?_ | refine ev_exit ?_ | refine evx_code_ret ?_ | refine evx_blk_ret ?_ | refine evx_lp_ret ?_
          | refine evx_code_exit ?_ | refine evx_lp_exit ?_ | refine evx_blk_hit ?_ | refine evx_blk_pass (by decide) ?_
          | refine And.intro ?_ ?_ | intro _ | decide +kernel | omega)
        all_goals first
          | exact ev_lp (k + 1) [(100000, some 40992)] (by omega) (by omega) (by simp only [go_sem, hP, ↓reduceIte, Nat.reduceAdd, Nat.reduceMul, Nat.reduceEqDiff, Nat.reduceSub, Nat.reduceLeDiff, reduceCtorEq]; rw [hst]; simp [hw1 hlt, hEm, Es.strip, eP_eq, show IntKind.i64.wrap 1 = 1 from rfl, List.map_take, List.map_drop, ht1, ht2])
          | (exfalso; omega)
          | omega
          | (simp only [Nat.min_def]; split <;> omega)
          | (simp_all; done)
          | trace_state
    · obtain rfl : j = p := by omega
      obtain rfl : j = ys.length := by omega
      have d0 : decide ((ys.length : Int) < (ys.length : Int)) = false := by simp
      by_cases h0 : k = 0
      · subst h0
        repeat' (first
          | exact True.intro
          | refine ev_seq ?_
          | ((first | refine vgd_go ?_ | refine ev_region hE hM (hS (by decide +kernel)) ?_ | refine ev_if ?_ | refine end_ret hE rfl rfl ?_ | refine end_norm hE rfl rfl ?_ | refine endG_ret [] hE rfl ?_ | refine endG_norm [] hE rfl ?_ | refine vcall_A ?_); simp (maxSteps := 2000000) only [go_sem, hP, ↓reduceIte, Nat.reduceAdd, Nat.reduceMul, Nat.reduceEqDiff, Nat.reduceSub, Nat.reduceLeDiff, reduceCtorEq, List.append_eq, List.cons_append, List.nil_append, Cs.strip, C.strip, Es.strip, strip_eI, Bool.and_false, Bool.and_self, Bool.false_and, Bool.false_eq_true, List.length_append, List.length_take, List.length_drop, List.length_cons, List.length_nil, Int.toNat_zero, ite_self, d0, ht1, ht2, tj, List.length_map])
          | refine ev_skip ?_ | refine ev_block ?_ | refine ev_blk ?_ | refine ev_ret ?_ | refine ev_exit ?_ | refine evx_code_ret ?_ | refine evx_blk_ret ?_ | refine evx_lp_ret ?_
          | refine evx_code_exit ?_ | refine evx_lp_exit ?_ | refine evx_blk_hit ?_ | refine evx_blk_pass (by decide) ?_
          | refine And.intro ?_ ?_ | intro _ | decide +kernel | omega)
        all_goals first
          | exact ev_lp 1 [(100000, some 40992)] (by omega) (by omega) (by simp only [go_sem, hP, ↓reduceIte, Nat.reduceAdd, Nat.reduceMul, Nat.reduceEqDiff, Nat.reduceSub, Nat.reduceLeDiff, reduceCtorEq]; rw [hst]; simp [hw1 hlt, hEm, Es.strip, eP_eq, show IntKind.i64.wrap 1 = 1 from rfl, List.map_take, List.map_drop, ht1, ht2])
          | (exfalso; omega)
          | omega
          | (simp_all; done)
          | trace_state
      · repeat' (first
          | exact True.intro
          | refine ev_seq ?_
          | ((first | refine vgd_go ?_ | refine ev_region hE hM (hS (by decide +kernel)) ?_ | refine ev_if ?_ | refine end_ret hE rfl rfl ?_ | refine end_norm hE rfl rfl ?_ | refine endG_ret [] hE rfl ?_ | refine endG_norm [] hE rfl ?_ | refine vcall_A ?_); simp (maxSteps := 2000000) only [go_sem, hP, ↓reduceIte, Nat.reduceAdd, Nat.reduceMul, Nat.reduceEqDiff, Nat.reduceSub, Nat.reduceLeDiff, reduceCtorEq, List.append_eq, List.cons_append, List.nil_append, Cs.strip, C.strip, Es.strip, strip_eI, Bool.and_false, Bool.and_self, Bool.false_and, Bool.false_eq_true, List.length_append, List.length_take, List.length_drop, List.length_cons, List.length_nil, Int.toNat_zero, ite_self, d0, ht1, ht2, tj, List.length_map])
          | refine ev_skip ?_ | refine ev_block ?_ | refine ev_blk ?_ | refine ev_ret ?_ | refine ev_exit ?_ | refine evx_code_ret ?_ | refine evx_blk_ret ?_ | refine evx_lp_ret ?_
          | refine evx_code_exit ?_ | refine evx_lp_exit ?_ | refine evx_blk_hit ?_ | refine evx_blk_pass (by decide) ?_
          | refine And.intro ?_ ?_ | intro _ | decide +kernel | omega)
        all_goals first
          | exact ev_lp (k + 1) [(100000, some 40992)] (by omega) (by omega) (by simp only [go_sem, hP, ↓reduceIte, Nat.reduceAdd, Nat.reduceMul, Nat.reduceEqDiff, Nat.reduceSub, Nat.reduceLeDiff, reduceCtorEq]; rw [hst]; simp [hw1 hlt, hEm, Es.strip, eP_eq, show IntKind.i64.wrap 1 = 1 from rfl, List.map_take, List.map_drop, ht1, ht2])
          | (exfalso; omega)
          | omega
          | (simp_all; done)
          | trace_state
  · have hke : k = xs.length := by omega
    subst hke
    have dl : decide ((xs.length : Int) < (xs.length : Int)) = false := by simp
    repeat' (first
      | exact True.intro
      | refine ev_seq ?_
      | ((first | refine endG_ret [(2, some 100000)] hE rfl ?_ | refine vgd_go ?_ | refine ev_region hE hM (hS (by decide +kernel)) ?_ | refine ev_if ?_ | refine end_ret hE rfl rfl ?_ | refine end_norm hE rfl rfl ?_ | refine endG_ret [] hE rfl ?_ | refine endG_norm [] hE rfl ?_ | refine vcall_A ?_); simp (maxSteps := 2000000) only [go_sem, hP, ↓reduceIte, Nat.reduceAdd, Nat.reduceMul, Nat.reduceEqDiff, Nat.reduceSub, Nat.reduceLeDiff, reduceCtorEq, dl, List.take_length, List.length_map])
      | refine ev_skip ?_ | refine ev_block ?_ | refine ev_blk ?_ | refine ev_ret ?_ | refine ev_exit ?_ | refine evx_code_ret ?_ | refine evx_blk_ret ?_ | refine evx_lp_ret ?_
      | refine evx_code_exit ?_ | refine evx_lp_exit ?_ | refine evx_blk_hit ?_ | refine evx_blk_pass (by decide) ?_
      | refine And.intro ?_ ?_ | intro _ | decide +kernel | omega)
    all_goals first | (cases xs <;> simp; done) | (simp_all; done) | trace_state
theorem s_l2Answer (xs : List Pair) (q : Query) (d : Int) (hm : mf xs d = 0) (hq : qf q d = 0) : Sat Try.prog 56 [aPs xs, pQuery q] true (rPs (ansV q xs)) := by
  refine sat_walk (fn := Try.f56) rfl rfl rfl (Nat.le_of_ble_eq_true rfl) fun fr hP hN hbnd => ?_
  have hE : (envOf fr Try.prog).Ok := envOf_ok hP
  have hM := follows_of hP
  have hS : ∀ {draw ops}, statB Try.f56.ntmps draw ops = true → statB (envOf fr Try.prog).fr.N draw ops = true := fun h => by rw [envOf_fr, hN]; exact h
  obtain ⟨m1, m2, m3, m4⟩ := mf_iff.1 hm
  have hw := mf_w hm
  have hrf : ∀ x ∈ xs, rf x.rect d = 0 := fun x hx => pairF_rf (m3 x hx)
  have hvw : wPs (ansV q xs) ≤ 7 * 60 := by
    have hl : (ansV q xs).length ≤ 60 := by
      have := ansF_len q xs
      unfold ansV; split
      · rw [List.length_take, sortP_len]; omega
      · omega
    have hr : ∀ x ∈ ansV q xs, rf x.rect d = 0 := fun x hx => by
      unfold ansV at hx
      split at hx
      · exact hrf x (ansF_mem x ((sortP_perm _ _).mem_iff.1 (List.mem_of_mem_take hx)))
      · exact hrf x (ansF_mem x hx)
    have := pairs_w hr m1.2
    omega
  repeat' (first
    | exact True.intro
    | refine ev_seq ?_
    | ((first | refine vgd_go ?_ | refine ev_region hE hM (hS (by decide +kernel)) ?_ | refine ev_if ?_ | refine end_ret hE rfl rfl ?_ | refine end_norm hE rfl rfl ?_ | refine endG_ret [] hE rfl ?_ | refine endG_norm [] hE rfl ?_ | refine vcall_A ?_); simp (maxSteps := 2000000) only [go_sem, hP, ↓reduceIte, Nat.reduceAdd, Nat.reduceMul, Nat.reduceEqDiff, Nat.reduceSub, Nat.reduceLeDiff, reduceCtorEq, List.length_map])
    | refine ev_skip ?_ | refine ev_block ?_ | refine ev_blk ?_ | refine ev_ret ?_ | refine ev_exit ?_ | refine evx_code_ret ?_ | refine evx_blk_ret ?_ | refine evx_lp_ret ?_
    | refine evx_code_exit ?_ | refine evx_lp_exit ?_ | refine evx_blk_hit ?_ | refine evx_blk_pass (by decide) ?_
    | refine And.intro ?_ ?_ | intro _ | decide +kernel | omega)
  refine ev_loop (ι := Nat) (fun k => [(0, .c (sP xs)), (1, .pv (eQuery q)), (5, .ref 100000), (6, iT k)]) (fun k => [(100000, .arr (ansF q (xs.take k)).isEmpty 55 3 ((ansF q (xs.take k)).map eP))]) (fun _ => []) (fun k => k ≤ xs.length) (fun k => xs.length - k) 0 [(100000, some 4096)] (by omega) (by simp only [go_sem, hP, ↓reduceIte, Nat.reduceAdd, Nat.reduceMul, Nat.reduceEqDiff, Nat.reduceSub, Nat.reduceLeDiff, reduceCtorEq]; simp [ansF, eQuery]) ?_
  intro k hk
  have hlen : (ansF q (xs.take k)).length ≤ k := Nat.le_trans (ansF_len _ _) (by rw [List.length_take]; omega)
  by_cases hlt : k < xs.length
  · have hw1 : IntKind.i64.wrap ((k : Int) + 1) = k + 1 := i64_in _ (by omega)
    have dl : decide ((k : Int) < (xs.length : Int)) = true := decide_eq_true (by omega)
    have hst := ansF_step (q := q) hlt
    have c2 := s_l2Matches q (xs.getD k default).rect d hq (hrf _ (getD_mem hlt))
    generalize ansF q (xs.take k) = ys at *
    by_cases hqm : qm q (xs.getD k default).rect = true
    · rw [hqm] at c2
      rw [if_pos hqm] at hst
      cases ys with
      | nil =>
        repeat' (first
          | exact True.intro
          | refine ev_seq ?_
          | ((first | refine vgd_go ?_ | refine ev_region hE hM (hS (by decide +kernel)) ?_ | refine ev_if ?_ | refine end_ret hE rfl rfl ?_ | refine end_norm hE rfl rfl ?_ | refine endG_ret [] hE rfl ?_ | refine endG_norm [] hE rfl ?_ | refine vcallB_of hP c2 ?_ | refine vcall_A ?_); simp (maxSteps := 2000000) only [go_sem, hP, ↓reduceIte, Nat.reduceAdd, Nat.reduceMul, Nat.reduceEqDiff, Nat.reduceSub, Nat.reduceLeDiff, reduceCtorEq, dl, Bool.and_self, List.length_map, List.isEmpty_nil, List.map_nil, Cs.strip, C.strip, Es.strip, strip_eI])
          | refine ev_skip ?_ | refine ev_block ?_ | refine ev_blk ?_ | refine ev_ret ?_ | refine ev_exit ?_ | refine evx_code_ret ?_ | refine evx_blk_ret ?_ | refine evx_lp_ret ?_
          | refine evx_code_exit ?_ | refine evx_lp_exit ?_ | refine evx_blk_hit ?_ | refine evx_blk_pass (by decide) ?_
          | refine And.intro ?_ ?_ | intro _ | decide +kernel | omega)
        all_goals first
          | exact ev_lp (k + 1) [(100000, some 24624)] (by omega) (by omega) (by simp only [go_sem, hP, ↓reduceIte, Nat.reduceAdd, Nat.reduceMul, Nat.reduceEqDiff, Nat.reduceSub, Nat.reduceLeDiff, reduceCtorEq]; rw [hst]; simp [hw1, eP_eq, Es.strip, Bool.and_self, eQuery])
          | (exfalso; omega)
          | omega
          | (simp_all; done)
          | trace_state
      | cons y ys =>
        simp only [List.length_cons] at hlen
        repeat' (first
          | exact True.intro
          | refine ev_seq ?_
          | ((first | refine vgd_go ?_ | refine ev_region hE hM (hS (by decide +kernel)) ?_ | refine ev_if ?_ | refine end_ret hE rfl rfl ?_ | refine end_norm hE rfl rfl ?_ | refine endG_ret [] hE rfl ?_ | refine endG_norm [] hE rfl ?_ | refine vcallB_of hP c2 ?_ | refine vcall_A ?_); simp (maxSteps := 2000000) only [go_sem, hP, ↓reduceIte, Nat.reduceAdd, Nat.reduceMul, Nat.reduceEqDiff, Nat.reduceSub, Nat.reduceLeDiff, reduceCtorEq, dl, Bool.and_self, List.length_map, List.isEmpty_cons, Cs.strip, C.strip, Es.strip, strip_eI])
          | refine ev_skip ?_ | refine ev_block ?_ | refine ev_blk ?_ | refine ev_ret ?_ | refine ev_exit ?_ | refine evx_code_ret ?_ | refine evx_blk_ret ?_ | refine evx_lp_ret ?_
          | refine evx_code_exit ?_ | refine evx_lp_exit ?_ | refine evx_blk_hit ?_ | refine evx_blk_pass (by decide) ?_
          | refine And.intro ?_ ?_ | intro _ | decide +kernel | omega)
        all_goals first
          | exact ev_lp (k + 1) [(100000, some 24624)] (by omega) (by omega) (by simp only [go_sem, hP, ↓reduceIte, Nat.reduceAdd, Nat.reduceMul, Nat.reduceEqDiff, Nat.reduceSub, Nat.reduceLeDiff, reduceCtorEq]; rw [hst]; simp [hw1, eP_eq, Es.strip, Bool.and_self, eQuery])
          | (exfalso; omega)
          | omega
          | (simp_all; done)
          | trace_state
    · have hqf : qm q (xs.getD k default).rect = false := by simpa using hqm
      rw [hqf] at c2
      rw [if_neg hqm, List.append_nil] at hst
      repeat' (first
        | exact True.intro
        | refine ev_seq ?_
        | ((first | refine vgd_go ?_ | refine ev_region hE hM (hS (by decide +kernel)) ?_ | refine ev_if ?_ | refine end_ret hE rfl rfl ?_ | refine end_norm hE rfl rfl ?_ | refine endG_ret [] hE rfl ?_ | refine endG_norm [] hE rfl ?_ | refine vcallB_of hP c2 ?_ | refine vcall_A ?_); simp (maxSteps := 2000000) only [go_sem, hP, ↓reduceIte, Nat.reduceAdd, Nat.reduceMul, Nat.reduceEqDiff, Nat.reduceSub, Nat.reduceLeDiff, reduceCtorEq, dl, List.length_map, Cs.strip, C.strip, Es.strip, strip_eI])
        | refine ev_skip ?_ | refine ev_block ?_ | refine ev_blk ?_ | refine ev_ret ?_ | refine ev_exit ?_ | refine evx_code_ret ?_ | refine evx_blk_ret ?_ | refine evx_lp_ret ?_
        | refine evx_code_exit ?_ | refine evx_lp_exit ?_ | refine evx_blk_hit ?_ | refine evx_blk_pass (by decide) ?_
        | refine And.intro ?_ ?_ | intro _ | decide +kernel | omega)
      all_goals first
        | exact ev_lp (k + 1) [(100000, some 100000)] (by omega) (by omega) (by simp only [go_sem, hP, ↓reduceIte, Nat.reduceAdd, Nat.reduceMul, Nat.reduceEqDiff, Nat.reduceSub, Nat.reduceLeDiff, reduceCtorEq]; rw [hst]; simp [hw1, eQuery])
        | (exfalso; omega)
        | omega
        | (simp_all; done)
        | trace_state
  · obtain rfl : k = xs.length := by omega
    have dl : decide ((xs.length : Int) < (xs.length : Int)) = false := by simp
    rw [List.take_length] at hlen ⊢
    have hids := ansF_ids (q := q) m4
    have hmem := ansF_mem (q := q) (xs := xs)
    have hv : ansV q xs = if q.kind = 4 then (sortP q.point (ansF q xs)).take q.k.toNat else ansF q xs := rfl
    generalize ansV q xs = vs at *
    generalize ansF q xs = ys at *
    have cc := s_l2Copies vs (by omega)
    by_cases hk4 : q.kind = 4
    · have d4 : (q.kind == 4) = true := beq_iff_eq.2 hk4
      rw [if_pos hk4] at hv
      have hK := qf_k hq hk4
      have hgo : ∀ x ∈ ys, Good x.rect q.point := fun x hx => good_of (hrf x (hmem x hx)) (qf_point hq (Or.inr hk4))
      have c3 := s_l2NearG ys q.point hgo hids (by omega)
      repeat' (first
        | exact True.intro
        | refine ev_seq ?_
        | ((first | refine ev_stop 9 ?_ | refine vgd_go ?_ | refine ev_region hE hM (hS (by decide +kernel)) ?_ | refine ev_if ?_ | refine end_ret hE rfl rfl ?_ | refine end_norm hE rfl rfl ?_ | refine endG_ret [] hE rfl ?_ | refine endG_norm [] hE rfl ?_ | refine vcallG_of (args := [.ref 100000, .c (sI q.point)]) [(1, 100000)] [] hP c3 ?_ | refine vcall_A ?_); simp (maxSteps := 2000000) only [go_sem, hP, ↓reduceIte, Nat.reduceAdd, Nat.reduceMul, Nat.reduceEqDiff, Nat.reduceSub, Nat.reduceLeDiff, reduceCtorEq, dl, d4, List.length_map])
        | refine ev_skip ?_ | refine ev_block ?_ | refine ev_blk ?_ | refine ev_ret ?_ | refine ev_exit ?_ | refine evx_code_ret ?_ | refine evx_blk_ret ?_ | refine evx_lp_ret ?_
        | refine evx_code_exit ?_ | refine evx_lp_exit ?_ | refine evx_blk_hit ?_ | refine evx_blk_pass (by decide) ?_
        | refine And.intro ?_ ?_ | intro _ | decide +kernel | omega)
      first | refine Stop.mk ?_ | skip
      refine ev_cut [(1, .pv (eQuery q)), (5, .ref 2129960)] [(2129960, .fro 3 ((sortP q.point ys).map eP))] [] [] (by simp only [go_sem, hP, ↓reduceIte, Nat.reduceAdd, Nat.reduceMul, Nat.reduceEqDiff, Nat.reduceSub, Nat.reduceLeDiff, reduceCtorEq]; simp [eQuery]) ?_
      have hsl := sortP_len q.point ys
      have t1 : ∀ n : Nat, List.take (n - Int.toNat 0) (List.drop (Int.toNat 0) ((sortP q.point ys).map eP)) = ((sortP q.point ys).take n).map eP := fun n => by rw [show Int.toNat 0 = 0 from rfl, Nat.sub_zero, List.drop_zero, List.map_take]
      by_cases h : q.k < (ys.length : Int)
      · have d5 := decide_eq_true h
        subst hv
        repeat' (first
          | exact True.intro
          | refine ev_seq ?_
          | ((first | refine vgd_go ?_ | refine ev_region hE hM (hS (by decide +kernel)) ?_ | refine ev_if ?_ | refine end_ret hE rfl rfl ?_ | refine end_norm hE rfl rfl ?_ | refine endG_ret [] hE rfl ?_ | refine endG_norm [] hE rfl ?_ | refine vcallB_of hP cc ?_ | refine vcall_A ?_); simp (maxSteps := 2000000) only [go_sem, hP, ↓reduceIte, Nat.reduceAdd, Nat.reduceMul, Nat.reduceEqDiff, Nat.reduceSub, Nat.reduceLeDiff, reduceCtorEq, d5, hsl, t1, List.length_map])
          | refine ev_skip ?_ | refine ev_block ?_ | refine ev_blk ?_ | refine ev_ret ?_ | refine ev_exit ?_ | refine evx_code_ret ?_ | refine evx_blk_ret ?_ | refine evx_lp_ret ?_
          | refine evx_code_exit ?_ | refine evx_lp_exit ?_ | refine evx_blk_hit ?_ | refine evx_blk_pass (by decide) ?_
          | refine And.intro ?_ ?_ | intro _ | decide +kernel | omega)
        all_goals first | rfl | (exfalso; omega) | omega | (simp_all [List.map_take]; done) | trace_state
      · have d5 := decide_eq_false h
        rw [List.take_of_length_le (by omega)] at hv
        subst hv
        repeat' (first
          | exact True.intro
          | refine ev_seq ?_
          | ((first | refine vgd_go ?_ | refine ev_region hE hM (hS (by decide +kernel)) ?_ | refine ev_if ?_ | refine end_ret hE rfl rfl ?_ | refine end_norm hE rfl rfl ?_ | refine endG_ret [] hE rfl ?_ | refine endG_norm [] hE rfl ?_ | refine vcallB_of hP cc ?_ | refine vcall_A ?_); simp (maxSteps := 2000000) only [go_sem, hP, ↓reduceIte, Nat.reduceAdd, Nat.reduceMul, Nat.reduceEqDiff, Nat.reduceSub, Nat.reduceLeDiff, reduceCtorEq, d5, hsl, List.length_map])
          | refine ev_skip ?_ | refine ev_block ?_ | refine ev_blk ?_ | refine ev_ret ?_ | refine ev_exit ?_ | refine evx_code_ret ?_ | refine evx_blk_ret ?_ | refine evx_lp_ret ?_
          | refine evx_code_exit ?_ | refine evx_lp_exit ?_ | refine evx_blk_hit ?_ | refine evx_blk_pass (by decide) ?_
          | refine And.intro ?_ ?_ | intro _ | decide +kernel | omega)
        all_goals first | rfl | (exfalso; omega) | omega | (simp_all; done) | trace_state
    · have d4 : (q.kind == 4) = false := beq_eq_false_iff_ne.2 hk4
      rw [if_neg hk4] at hv
      subst hv
      cases vs with
      | nil =>
        repeat' (first
          | exact True.intro
          | refine ev_seq ?_
          | ((first | refine vgd_go ?_ | refine ev_region hE hM (hS (by decide +kernel)) ?_ | refine ev_if ?_ | refine end_ret hE rfl rfl ?_ | refine end_norm hE rfl rfl ?_ | refine endG_ret [] hE rfl ?_ | refine endG_norm [] hE rfl ?_ | refine vcallB_of hP cc ?_ | refine vcall_A ?_); simp (maxSteps := 2000000) only [go_sem, hP, ↓reduceIte, Nat.reduceAdd, Nat.reduceMul, Nat.reduceEqDiff, Nat.reduceSub, Nat.reduceLeDiff, reduceCtorEq, dl, d4, List.isEmpty_nil, List.map_nil, List.length_map])
          | refine ev_skip ?_ | refine ev_block ?_ | refine ev_blk ?_ | refine ev_ret ?_ | refine ev_exit ?_ | refine evx_code_ret ?_ | refine evx_blk_ret ?_ | refine evx_lp_ret ?_
          | refine evx_code_exit ?_ | refine evx_lp_exit ?_ | refine evx_blk_hit ?_ | refine evx_blk_pass (by decide) ?_
          | refine And.intro ?_ ?_ | intro _ | decide +kernel | omega)
        all_goals first | rfl | trace_state
      | cons y ys =>
        have hEm : (y :: ys).isEmpty = false := rfl
        rw [hEm]
        generalize y :: ys = vs at *
        repeat' (first
          | exact True.intro
          | refine ev_seq ?_
          | ((first | refine vgd_go ?_ | refine ev_region hE hM (hS (by decide +kernel)) ?_ | refine ev_if ?_ | refine end_ret hE rfl rfl ?_ | refine end_norm hE rfl rfl ?_ | refine endG_ret [] hE rfl ?_ | refine endG_norm [] hE rfl ?_ | refine vcallB_of hP cc ?_ | refine vcall_A ?_); simp (maxSteps := 2000000) only [go_sem, hP, ↓reduceIte, Nat.reduceAdd, Nat.reduceMul, Nat.reduceEqDiff, Nat.reduceSub, Nat.reduceLeDiff, reduceCtorEq, dl, d4, List.length_map])
          | refine ev_skip ?_ | refine ev_block ?_ | refine ev_blk ?_ | refine ev_ret ?_ | refine ev_exit ?_ | refine evx_code_ret ?_ | refine evx_blk_ret ?_ | refine evx_lp_ret ?_
          | refine evx_code_exit ?_ | refine evx_lp_exit ?_ | refine evx_blk_hit ?_ | refine evx_blk_pass (by decide) ?_
          | refine And.intro ?_ ?_ | intro _ | decide +kernel | omega)
        all_goals first | rfl | trace_state
def anC (xs : List Pair) (d : Int) (q : Query) : Int := if mf xs d ≠ 0 then mf xs d else qf q d
def anV (xs : List Pair) (d : Int) (q : Query) : List Pair := if anC xs d q = 0 then ansV q xs else []
theorem anC_zero {xs : List Pair} {d : Int} {q : Query} (h : anC xs d q = 0) : mf xs d = 0 ∧ qf q d = 0 := by
  unfold anC at h
  split at h
  · omega
  · exact ⟨by omega, h⟩
theorem s_implAnswerOf (xs : List Pair) (d : Int) (q : Query) : Sat Try.prog 17 [aPs xs, aI d, aQuery q] false [(true, [.int .i64 (anC xs d q), sP (anV xs d q)])] := by
  refine sat_walk (fn := Try.f17) rfl rfl rfl (Nat.le_of_ble_eq_true rfl) fun fr hP hN hbnd => ?_
  have hE : (envOf fr Try.prog).Ok := envOf_ok hP
  have hM := follows_of hP
  have hS : ∀ {draw ops}, statB Try.f17.ntmps draw ops = true → statB (envOf fr Try.prog).fr.N draw ops = true := fun h => by rw [envOf_fr, hN]; exact h
  have k1 := s_implModelFault xs d
  have k2 := s_implQueryFault q d
  by_cases hm : mf xs d = 0
  · have b0 : (mf xs d == 0) = true := by simp [hm]
    by_cases hq : qf q d = 0
    · have b1 : (qf q d != 0) = false := by simp [hq]
      have hc : anC xs d q = 0 := by unfold anC; rw [if_neg (by omega)]; exact hq
      have hv : anV xs d q = ansV q xs := if_pos hc
      have k3 := s_answered xs q d hm hq
      rw [hc, hv]
      repeat' (first
        | exact True.intro
        | refine ev_seq ?_
        | ((first | refine vgd_go ?_ | refine ev_region hE hM (hS (by decide +kernel)) ?_ | refine ev_if ?_ | refine end_ret hE rfl rfl ?_ | refine end_norm hE rfl rfl ?_ | refine endG_ret [] hE rfl ?_ | refine endG_norm [] hE rfl ?_ | refine vcallB_of hP k1 ?_ | refine vcallB_of hP k2 ?_ | refine vcallB_of hP k3 ?_ | refine vcall_A ?_); simp (maxSteps := 2000000) only [go_sem, hP, ↓reduceIte, Nat.reduceAdd, Nat.reduceMul, Nat.reduceEqDiff, Nat.reduceSub, Nat.reduceLeDiff, reduceCtorEq, b0, b1])
        | refine ev_skip ?_ | refine ev_block ?_ | refine ev_blk ?_ | refine ev_ret ?_ | refine ev_exit ?_ | refine evx_code_ret ?_ | refine evx_blk_ret ?_ | refine evx_lp_ret ?_
        | refine evx_code_exit ?_ | refine evx_lp_exit ?_ | refine evx_blk_hit ?_ | refine evx_blk_pass (by decide) ?_
        | refine And.intro ?_ ?_ | intro _ | decide +kernel | omega)
      all_goals first | rfl | (exfalso; simp_all; done) | (simp_all; done) | trace_state
    · have b1 : (qf q d != 0) = true := by simp [hq]
      have hc : anC xs d q = qf q d := by unfold anC; rw [if_neg (by omega)]
      have hv : anV xs d q = [] := if_neg (by rw [hc]; exact hq)
      rw [hv, hc]
      repeat' (first
        | exact True.intro
        | refine ev_seq ?_
        | ((first | refine vgd_go ?_ | refine ev_region hE hM (hS (by decide +kernel)) ?_ | refine ev_if ?_ | refine end_ret hE rfl rfl ?_ | refine end_norm hE rfl rfl ?_ | refine endG_ret [] hE rfl ?_ | refine endG_norm [] hE rfl ?_ | refine vcallB_of hP k1 ?_ | refine vcallB_of hP k2 ?_ | refine vcall_A ?_); simp (maxSteps := 2000000) only [go_sem, hP, ↓reduceIte, Nat.reduceAdd, Nat.reduceMul, Nat.reduceEqDiff, Nat.reduceSub, Nat.reduceLeDiff, reduceCtorEq, b0, b1])
        | refine ev_skip ?_ | refine ev_block ?_ | refine ev_blk ?_ | refine ev_ret ?_ | refine ev_exit ?_ | refine evx_code_ret ?_ | refine evx_blk_ret ?_ | refine evx_lp_ret ?_
        | refine evx_code_exit ?_ | refine evx_lp_exit ?_ | refine evx_blk_hit ?_ | refine evx_blk_pass (by decide) ?_
        | refine And.intro ?_ ?_ | intro _ | decide +kernel | omega)
      all_goals first | rfl | (exfalso; simp_all; done) | (simp_all; done) | trace_state
  · have b0 : (mf xs d == 0) = false := by simp [hm]
    have b1 : (mf xs d != 0) = true := by simp [hm]
    have hc : anC xs d q = mf xs d := by unfold anC; rw [if_pos hm]
    have hv : anV xs d q = [] := if_neg (by rw [hc]; exact hm)
    rw [hv, hc]
    repeat' (first
      | exact True.intro
      | refine ev_seq ?_
      | ((first | refine vgd_go ?_ | refine ev_region hE hM (hS (by decide +kernel)) ?_ | refine ev_if ?_ | refine end_ret hE rfl rfl ?_ | refine end_norm hE rfl rfl ?_ | refine endG_ret [] hE rfl ?_ | refine endG_norm [] hE rfl ?_ | refine vcallB_of hP k1 ?_ | refine vcallB_of hP k2 ?_ | refine vcall_A ?_); simp (maxSteps := 2000000) only [go_sem, hP, ↓reduceIte, Nat.reduceAdd, Nat.reduceMul, Nat.reduceEqDiff, Nat.reduceSub, Nat.reduceLeDiff, reduceCtorEq, b0, b1])
      | refine ev_skip ?_ | refine ev_block ?_ | refine ev_blk ?_ | refine ev_ret ?_ | refine ev_exit ?_ | refine evx_code_ret ?_ | refine evx_blk_ret ?_ | refine evx_lp_ret ?_
      | refine evx_code_exit ?_ | refine evx_lp_exit ?_ | refine evx_blk_hit ?_ | refine evx_blk_pass (by decide) ?_
      | refine And.intro ?_ ?_ | intro _ | decide +kernel | omega)
    all_goals first | rfl | (exfalso; simp_all; done) | (simp_all; done) | trace_state
theorem s_specAnswerOf (xs : List Pair) (d : Int) (q : Query) (hw : wQuery q ≤ 1048576) : Sat Try.prog 18 [aPs xs, aI d, aQuery q] true (rPsR (anC xs d q) (anV xs d q)) := by
  refine sat_walk (fn := Try.f18) rfl rfl rfl (Nat.le_of_ble_eq_true rfl) fun fr hP hN hbnd => ?_
  have hE : (envOf fr Try.prog).Ok := envOf_ok hP
  have hM := follows_of hP
  have hS : ∀ {draw ops}, statB Try.f18.ntmps draw ops = true → statB (envOf fr Try.prog).fr.N draw ops = true := fun h => by rw [envOf_fr, hN]; exact h
  have k1 := s_specModelFault xs d
  have k2 := s_specQueryFault q d hw
  by_cases hm : mf xs d = 0
  · have b0 : (mf xs d != 0) = false := by simp [hm]
    by_cases hq : qf q d = 0
    · have b1 : (qf q d != 0) = false := by simp [hq]
      have hc : anC xs d q = 0 := by unfold anC; rw [if_neg (by omega)]; exact hq
      have hv : anV xs d q = ansV q xs := if_pos hc
      have k3 := s_l2Answer xs q d hm hq
      rw [hc, hv]
      repeat' (first
        | exact True.intro
        | refine ev_seq ?_
        | ((first | refine vgd_go ?_ | refine ev_region hE hM (hS (by decide +kernel)) ?_ | refine ev_if ?_ | refine end_ret hE rfl rfl ?_ | refine end_norm hE rfl rfl ?_ | refine endG_ret [] hE rfl ?_ | refine endG_norm [] hE rfl ?_ | refine vcallB_of hP k1 ?_ | refine vcallB_of hP k2 ?_ | refine vcallB_of hP k3 ?_ | refine vcall_A ?_); simp (maxSteps := 2000000) only [go_sem, hP, ↓reduceIte, Nat.reduceAdd, Nat.reduceMul, Nat.reduceEqDiff, Nat.reduceSub, Nat.reduceLeDiff, reduceCtorEq, b0, b1])
        | refine ev_skip ?_ | refine ev_block ?_ | refine ev_blk ?_ | refine ev_ret ?_ | refine ev_exit ?_ | refine evx_code_ret ?_ | refine evx_blk_ret ?_ | refine evx_lp_ret ?_
        | refine evx_code_exit ?_ | refine evx_lp_exit ?_ | refine evx_blk_hit ?_ | refine evx_blk_pass (by decide) ?_
        | refine And.intro ?_ ?_ | intro _ | decide +kernel | omega)
      all_goals first | rfl | (exfalso; simp_all; done) | (simp_all; done) | trace_state
    · have b1 : (qf q d != 0) = true := by simp [hq]
      have hc : anC xs d q = qf q d := by unfold anC; rw [if_neg (by omega)]
      have hv : anV xs d q = [] := if_neg (by rw [hc]; exact hq)
      rw [hv, hc]
      repeat' (first
        | exact True.intro
        | refine ev_seq ?_
        | ((first | refine vgd_go ?_ | refine ev_region hE hM (hS (by decide +kernel)) ?_ | refine ev_if ?_ | refine end_ret hE rfl rfl ?_ | refine end_norm hE rfl rfl ?_ | refine endG_ret [] hE rfl ?_ | refine endG_norm [] hE rfl ?_ | refine vcallB_of hP k1 ?_ | refine vcallB_of hP k2 ?_ | refine vcall_A ?_); simp (maxSteps := 2000000) only [go_sem, hP, ↓reduceIte, Nat.reduceAdd, Nat.reduceMul, Nat.reduceEqDiff, Nat.reduceSub, Nat.reduceLeDiff, reduceCtorEq, b0, b1])
        | refine ev_skip ?_ | refine ev_block ?_ | refine ev_blk ?_ | refine ev_ret ?_ | refine ev_exit ?_ | refine evx_code_ret ?_ | refine evx_blk_ret ?_ | refine evx_lp_ret ?_
        | refine evx_code_exit ?_ | refine evx_lp_exit ?_ | refine evx_blk_hit ?_ | refine evx_blk_pass (by decide) ?_
        | refine And.intro ?_ ?_ | intro _ | decide +kernel | omega)
      all_goals first | rfl | (exfalso; simp_all; done) | (simp_all; done) | trace_state
  · have b1 : (mf xs d != 0) = true := by simp [hm]
    have hc : anC xs d q = mf xs d := by unfold anC; rw [if_pos hm]
    have hv : anV xs d q = [] := if_neg (by rw [hc]; exact hm)
    rw [hv, hc]
    repeat' (first
      | exact True.intro
      | refine ev_seq ?_
      | ((first | refine vgd_go ?_ | refine ev_region hE hM (hS (by decide +kernel)) ?_ | refine ev_if ?_ | refine end_ret hE rfl rfl ?_ | refine end_norm hE rfl rfl ?_ | refine endG_ret [] hE rfl ?_ | refine endG_norm [] hE rfl ?_ | refine vcallB_of hP k1 ?_ | refine vcallB_of hP k2 ?_ | refine vcall_A ?_); simp (maxSteps := 2000000) only [go_sem, hP, ↓reduceIte, Nat.reduceAdd, Nat.reduceMul, Nat.reduceEqDiff, Nat.reduceSub, Nat.reduceLeDiff, reduceCtorEq, b1])
      | refine ev_skip ?_ | refine ev_block ?_ | refine ev_blk ?_ | refine ev_ret ?_ | refine ev_exit ?_ | refine evx_code_ret ?_ | refine evx_blk_ret ?_ | refine evx_lp_ret ?_
      | refine evx_code_exit ?_ | refine evx_lp_exit ?_ | refine evx_blk_hit ?_ | refine evx_blk_pass (by decide) ?_
      | refine And.intro ?_ ?_ | intro _ | decide +kernel | omega)
    all_goals first | rfl | (exfalso; simp_all; done) | (simp_all; done) | trace_state
def hasP (xs : List Pair) (p : Pair) : Bool := xs.any fun x => decide (x = p)
theorem hasP_iff {xs : List Pair} {p : Pair} : hasP xs p = true ↔ p ∈ xs := by
  unfold hasP
  rw [List.any_eq_true]
  constructor
  · rintro ⟨x, hx, h⟩
    have : x = p := by simpa using h
    rw [← this]; exact hx
  · exact fun h => ⟨p, h, by simp⟩
theorem s_lwHas (xs : List Pair) (p : Pair) (hl : xs.length ≤ 1048576) : Sat Try.prog 21 [aPs xs, aP p] true (rB (hasP xs p)) := by
  refine sat_walk (fn := Try.f21) rfl rfl rfl (Nat.le_of_ble_eq_true rfl) fun fr hP hN hbnd => ?_
  have hE : (envOf fr Try.prog).Ok := envOf_ok hP
  have hM := follows_of hP
  have hS : ∀ {draw ops}, statB Try.f21.ntmps draw ops = true → statB (envOf fr Try.prog).fr.N draw ops = true := fun h => by rw [envOf_fr, hN]; exact h
  unfold hasP
  repeat' (first
    | exact True.intro
    | refine ev_seq ?_
    | ((first | refine vgd_go ?_ | refine ev_region hE hM (hS (by decide +kernel)) ?_ | refine ev_if ?_ | refine end_ret hE rfl rfl ?_ | refine end_norm hE rfl rfl ?_ | refine endG_ret [] hE rfl ?_ | refine endG_norm [] hE rfl ?_ | refine vcall_A ?_); simp (maxSteps := 2000000) only [go_sem, hP, ↓reduceIte, Nat.reduceAdd, Nat.reduceMul, Nat.reduceEqDiff, Nat.reduceSub, Nat.reduceLeDiff, reduceCtorEq])
    | refine ev_skip ?_ | refine ev_block ?_ | refine ev_blk ?_ | refine ev_ret ?_ | refine ev_exit ?_ | refine evx_code_ret ?_ | refine evx_blk_ret ?_ | refine evx_lp_ret ?_
    | refine evx_code_exit ?_ | refine evx_lp_exit ?_ | refine evx_blk_hit ?_ | refine evx_blk_pass (by decide) ?_
    | refine And.intro ?_ ?_ | intro _ | decide +kernel | omega)
  refine ev_loop (ι := Nat) (fun k => [(0, .c (sP xs)), (3, .ptr 0 0), (5, iT k)]) (fun _ => [(0, .box [iT p.id, .c (sI p.rect.low), .c (sI p.rect.high)])]) (fun _ => []) (fun k => k ≤ xs.length ∧ (xs.take k).any (fun x => decide (x = p)) = false) (fun k => xs.length - k) 0 [] (by simp) (by simp only [go_sem, hP, ↓reduceIte, Nat.reduceAdd, Nat.reduceMul, Nat.reduceEqDiff, Nat.reduceSub, Nat.reduceLeDiff, reduceCtorEq]; simp) ?_
  intro k hk
  by_cases hlt : k < xs.length
  · have hw1 : IntKind.i64.wrap ((k : Int) + 1) = k + 1 := i64_in _ (by omega)
    have d3 : decide ((k : Int) < (xs.length : Int)) = true := decide_eq_true (by omega)
    have ks := s_implSameRects (xs.getD k default).rect p.rect
    by_cases e1 : (xs.getD k default).id = p.id
    · have f1 : ((xs.getD k default).id == p.id) = true := beq_iff_eq.2 e1
      by_cases e2 : (xs.getD k default).rect = p.rect
      · have f2 : decide ((xs.getD k default).rect = p.rect) = true := decide_eq_true e2
        have ha : (xs.any fun x => decide (x = p)) = true := any_yes (d := default) hlt (decide_eq_true (pair_ext e1 e2))
        rw [ha]
        repeat' (first
          | exact True.intro
          | refine ev_seq ?_
          | ((first | refine vgd_go ?_ | refine ev_region hE hM (hS (by decide +kernel)) ?_ | refine ev_if ?_ | refine end_ret hE rfl rfl ?_ | refine end_norm hE rfl rfl ?_ | refine endG_ret [] hE rfl ?_ | refine endG_norm [] hE rfl ?_ | refine vcallB_of hP ks ?_ | refine vcall_A ?_); simp (maxSteps := 2000000) only [go_sem, hP, ↓reduceIte, Nat.reduceAdd, Nat.reduceMul, Nat.reduceEqDiff, Nat.reduceSub, Nat.reduceLeDiff, reduceCtorEq, d3, f1, f2, List.length_map])
          | refine ev_skip ?_ | refine ev_block ?_ | refine ev_blk ?_ | refine ev_ret ?_ | refine ev_exit ?_ | refine evx_code_ret ?_ | refine evx_blk_ret ?_ | refine evx_lp_ret ?_
          | refine evx_code_exit ?_ | refine evx_lp_exit ?_ | refine evx_blk_hit ?_ | refine evx_blk_pass (by decide) ?_
          | refine And.intro ?_ ?_ | intro _ | decide +kernel | omega)
        all_goals first | rfl | (exfalso; omega) | omega | (simp_all; done) | trace_state
      · have f2 : decide ((xs.getD k default).rect = p.rect) = false := decide_eq_false e2
        repeat' (first
          | exact True.intro
          | refine ev_seq ?_
          | ((first | refine vgd_go ?_ | refine ev_region hE hM (hS (by decide +kernel)) ?_ | refine ev_if ?_ | refine end_ret hE rfl rfl ?_ | refine end_norm hE rfl rfl ?_ | refine endG_ret [] hE rfl ?_ | refine endG_norm [] hE rfl ?_ | refine vcallB_of hP ks ?_ | refine vcall_A ?_); simp (maxSteps := 2000000) only [go_sem, hP, ↓reduceIte, Nat.reduceAdd, Nat.reduceMul, Nat.reduceEqDiff, Nat.reduceSub, Nat.reduceLeDiff, reduceCtorEq, d3, f1, f2, List.length_map])
          | refine ev_skip ?_ | refine ev_block ?_ | refine ev_blk ?_ | refine ev_ret ?_ | refine ev_exit ?_ | refine evx_code_ret ?_ | refine evx_blk_ret ?_ | refine evx_lp_ret ?_
          | refine evx_code_exit ?_ | refine evx_lp_exit ?_ | refine evx_blk_hit ?_ | refine evx_blk_pass (by decide) ?_
          | refine And.intro ?_ ?_ | intro _ | decide +kernel | omega)
        all_goals first
          | exact ev_lp (k + 1) [] ⟨by omega, any_step (d := default) hlt hk.2 (decide_eq_false (fun h => e2 (by rw [h])))⟩ (by omega) (by simp only [go_sem, hP, ↓reduceIte, Nat.reduceAdd, Nat.reduceMul, Nat.reduceEqDiff, Nat.reduceSub, Nat.reduceLeDiff, reduceCtorEq]; simp [hw1])
          | (exfalso; omega)
          | omega
          | (simp_all; done)
          | trace_state
    · have f1 : ((xs.getD k default).id == p.id) = false := beq_eq_false_iff_ne.2 e1
      repeat' (first
        | exact True.intro
        | refine ev_seq ?_
        | ((first | refine vgd_go ?_ | refine ev_region hE hM (hS (by decide +kernel)) ?_ | refine ev_if ?_ | refine end_ret hE rfl rfl ?_ | refine end_norm hE rfl rfl ?_ | refine endG_ret [] hE rfl ?_ | refine endG_norm [] hE rfl ?_ | refine vcall_A ?_); simp (maxSteps := 2000000) only [go_sem, hP, ↓reduceIte, Nat.reduceAdd, Nat.reduceMul, Nat.reduceEqDiff, Nat.reduceSub, Nat.reduceLeDiff, reduceCtorEq, d3, f1, List.length_map])
        | refine ev_skip ?_ | refine ev_block ?_ | refine ev_blk ?_ | refine ev_ret ?_ | refine ev_exit ?_ | refine evx_code_ret ?_ | refine evx_blk_ret ?_ | refine evx_lp_ret ?_
        | refine evx_code_exit ?_ | refine evx_lp_exit ?_ | refine evx_blk_hit ?_ | refine evx_blk_pass (by decide) ?_
        | refine And.intro ?_ ?_ | intro _ | decide +kernel | omega)
      all_goals first
        | exact ev_lp (k + 1) [] ⟨by omega, any_step (d := default) hlt hk.2 (decide_eq_false (fun h => e1 (by rw [h])))⟩ (by omega) (by simp only [go_sem, hP, ↓reduceIte, Nat.reduceAdd, Nat.reduceMul, Nat.reduceEqDiff, Nat.reduceSub, Nat.reduceLeDiff, reduceCtorEq]; simp [hw1])
        | (exfalso; omega)
        | omega
        | (simp_all; done)
        | trace_state
  · have d3 : decide ((k : Int) < (xs.length : Int)) = false := decide_eq_false (by omega)
    have ha := any_done (by omega) hk.2
    rw [ha]
    repeat' (first
      | exact True.intro
      | refine ev_seq ?_
      | ((first | refine vgd_go ?_ | refine ev_region hE hM (hS (by decide +kernel)) ?_ | refine ev_if ?_ | refine end_ret hE rfl rfl ?_ | refine end_norm hE rfl rfl ?_ | refine endG_ret [] hE rfl ?_ | refine endG_norm [] hE rfl ?_ | refine vcall_A ?_); simp (maxSteps := 2000000) only [go_sem, hP, ↓reduceIte, Nat.reduceAdd, Nat.reduceMul, Nat.reduceEqDiff, Nat.reduceSub, Nat.reduceLeDiff, reduceCtorEq, d3, List.length_map])
      | refine ev_skip ?_ | refine ev_block ?_ | refine ev_blk ?_ | refine ev_ret ?_ | refine ev_exit ?_ | refine evx_code_ret ?_ | refine evx_blk_ret ?_ | refine evx_lp_ret ?_
      | refine evx_code_exit ?_ | refine evx_lp_exit ?_ | refine evx_blk_hit ?_ | refine evx_blk_pass (by decide) ?_
      | refine And.intro ?_ ?_ | intro _ | decide +kernel | omega)
    all_goals first | rfl | (exfalso; omega) | omega | (simp_all; done) | trace_state
theorem pointV_len (c : List Int) (a : Int) (d : Nat) : (pointV c a d).length = d := by simp [pointV]
theorem lq_w (c : List Int) (p : Int) (d : Nat) (hd : d ≤ 3) : wR (lq c p d).q.rect ≤ 7 ∧ (lq c p d).q.point.length ≤ 3 := by
  have e : ∀ r : Rect, wR r = r.low.length + r.high.length := fun _ => rfl
  unfold lq
  (repeat' split) <;> simp only [e, hiQ_len, pointV_len] <;> simp [rectLo] <;> omega
theorem daQ_w (c : List Int) : wQuery (daQ c) ≤ 1048576 := by
  have hd := clD_in (bq c 0).d
  have h := lq_w c (bq c 0).p (clD (bq c 0).d) (by omega)
  have hb := bentV_w c ((lq c (bq c 0).p (clD (bq c 0).d)).p + 1) 2
  have hp := pointV_len c ((lq c (bq c 0).p (clD (bq c 0).d)).p + 1) 2
  have e : ∀ q : Query, wQuery q = wR q.rect + q.point.length := fun _ => rfl
  unfold daQ bqq
  (repeat' split) <;> rw [e] <;> first | omega | (simp only; omega)
theorem all_in {xs : List Pair} {d : Int} {q : Query} (h : anC xs d q = 0) : ∀ x ∈ anV xs d q, x ∈ xs ∧ matchesAll q d x.rect = true := fun x hx => by
  obtain ⟨h1, h2⟩ := anC_zero h
  obtain ⟨m1, m2, m3, m4⟩ := mf_iff.1 h1
  have hv : anV xs d q = ansV q xs := if_pos h
  rw [hv] at hx
  have hf : x ∈ ansF q xs := by
    unfold ansV at hx
    split at hx
    · exact (sortP_perm _ _).mem_iff.1 (List.mem_of_mem_take hx)
    · exact hx
  have hm := List.mem_filter.1 hf
  refine ⟨hm.1, ?_⟩
  have hr := pairF_rf (m3 x hm.1)
  unfold matchesAll
  rw [decide_eq_true h2, decide_eq_true hr]
  simpa using hm.2
theorem far_in {xs : List Pair} {d : Int} {q : Query} (h : anC xs d q = 0) (hk : q.kind ≠ 4) : ∀ x ∈ xs, hasP (anV xs d q) x = matchesAll q d x.rect := fun x hx => by
  obtain ⟨h1, h2⟩ := anC_zero h
  obtain ⟨m1, m2, m3, m4⟩ := mf_iff.1 h1
  have hv : anV xs d q = ansF q xs := by rw [show anV xs d q = ansV q xs from if_pos h]; exact if_neg hk
  have hr := pairF_rf (m3 x hx)
  have hm : matchesAll q d x.rect = qm q x.rect := by unfold matchesAll; rw [decide_eq_true h2, decide_eq_true hr]; simp
  rw [hm, hv, Bool.eq_iff_iff, hasP_iff]
  exact ⟨fun hf => (List.mem_filter.1 hf).2, fun hq => List.mem_filter.2 ⟨hx, hq⟩⟩
structure NearOk (xs : List Pair) (d : Int) (q : Query) (v : List Pair) : Prop where
  k : 1 ≤ q.k ∧ q.k ≤ 20
  len : (v.length : Int) = min q.k xs.length
  good : ∀ x ∈ v, distCode x.rect q.point = 0
  srt : ∀ i, i + 1 < v.length → dist (v.getD i default).rect q.point ≤ dist (v.getD (i + 1) default).rect q.point
  one : anC xs d { q with k := 1 } = 0 ∧ anV xs d { q with k := 1 } = v.take 1
theorem near_ok {xs : List Pair} {d : Int} {q : Query} (h : anC xs d q = 0) (hk : q.kind = 4) : NearOk xs d q (anV xs d q) := by
  obtain ⟨h1, h2⟩ := anC_zero h
  obtain ⟨m1, m2, m3, m4⟩ := mf_iff.1 h1
  have hK := qf_k h2 hk
  have hp := qf_point h2 (Or.inr hk)
  have hF : ∀ q' : Query, q'.kind = 4 → ansF q' xs = xs := fun q' hk' => by
    unfold ansF
    refine List.filter_eq_self.2 fun x _ => ?_
    unfold qm
    rw [if_neg (by omega), if_neg (by omega), if_neg (by omega)]
  have hv : anV xs d q = (sortP q.point xs).take q.k.toNat := by
    rw [show anV xs d q = ansV q xs from if_pos h]
    unfold ansV; rw [if_pos hk, hF q hk]
  have hq1 : qf { q with k := 1 } d = 0 := by
    have hb : boxed q.kind = false := by unfold boxed; simp [hk]
    have h3 := h2
    unfold qf at h3 ⊢
    have hfm : qForm { q with k := 1 } = qForm q ∨ True := Or.inr trivial
    split at h3
    · omega
    · rename_i g1
      rw [if_neg g1]
      split at h3
      · omega
      · rename_i g2
        rw [if_neg (by simpa [qForm, hk] using g2)]
        simp only [hb, Bool.false_eq_true, if_false] at h3 ⊢
        rw [if_neg (by omega)]
        simp [inB]
  have hc1 : anC xs d { q with k := 1 } = 0 := by unfold anC; rw [if_neg (by omega)]; exact hq1
  have hv1 : anV xs d { q with k := 1 } = (sortP q.point xs).take 1 := by
    rw [show anV xs d { q with k := 1 } = ansV { q with k := 1 } xs from if_pos hc1]
    unfold ansV; rw [if_pos hk, hF { q with k := 1 } hk]; rfl
  have hl := sortP_len q.point xs
  rw [hv]
  refine ⟨hK, ?_, fun x hx => ?_, fun i hi => ?_, hc1, ?_⟩
  · rw [List.length_take]; omega
  · have hx2 := (sortP_perm _ _).mem_iff.1 (List.mem_of_mem_take hx)
    have hr := pairF_rf (m3 x hx2)
    have e := rf_len hr
    unfold distCode
    rw [e.1, if_neg (by omega)]; exact hp
  · rw [List.length_take] at hi
    have hs := List.pairwise_iff_getElem.1 (sortL_sorted (leP_tr q.point) (leP_tot q.point) xs) i (i + 1) (by unfold sortP at hl hi; omega) (by unfold sortP at hl hi; omega) (by omega)
    unfold leP at hs
    simp only [Bool.or_eq_true, Bool.and_eq_true, decide_eq_true_eq] at hs
    rw [getD_lt (by rw [List.length_take]; omega), getD_lt (by rw [List.length_take]; omega), List.getElem_take, List.getElem_take]
    exact hs.elim (fun h => Int.le_of_lt h) (fun h => Int.le_of_eq h.1)
  · rw [hv1, List.take_take, Nat.min_eq_left (by omega)]
end Go.Proofs.Ytegohioalgikjaa.W
