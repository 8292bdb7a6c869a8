/- Contracts of functions that FnNodes reaches: what each returns; it writes to nothing of old. No condition but those that each theorem states. -/
import Derived.Test.YtmpndkhnajogkaaQa2
open Go Go.Vm Go.Proofs Go.IntWalk Go.RowKit
set_option maxRecDepth 100000
set_option maxHeartbeats 4000000
set_option linter.unusedSimpArgs false
set_option linter.unusedVariables false
set_option linter.unusedSectionVars false
namespace Go.Proofs.Ytmpndkhnajogkaa.W
attribute [local irreducible] kJ ev evx vops vstep vgo vgd vget vcall vcallFn vcallA vcallB vts vres vcond vbin
theorem boxTo_rf {xs : List Entry} {d : Int} (h : ∀ x ∈ xs, rf x.rect d = 0) : ∀ k, k < xs.length → rf (boxTo xs k) d = 0 ∧ (∀ i, i ≤ k → covers (boxTo xs k) (xs.getD i default).rect = true)
  | 0, hk => ⟨h _ (getD_mem hk), fun i hi => by
      obtain rfl : i = 0 := by omega
      exact covers_iff.2 fun j _ => ⟨Int.le_refl _, Int.le_refl _⟩⟩
  | k + 1, hk => by
    obtain ⟨h1, h2⟩ := boxTo_rf h k (by omega)
    have h3 := h _ (getD_mem (d := default) hk)
    have ht := two_of h1 h3
    have hl := rf_len h1
    refine ⟨by rw [boxTo_succ]; have := rf_un ht; rw [hl.1] at this; exact this, fun i hi => covers_iff.2 fun j hj => ?_⟩
    rw [boxTo_succ, un_low_len] at hj
    have e := un_at (a := boxTo xs k) (b := (xs.getD (k + 1) default).rect) hj
    rw [boxTo_succ]
    rcases Nat.lt_or_ge i (k + 1) with hlt | hge
    · have := covers_iff.1 (h2 i (by omega)) j hj
      omega
    · obtain rfl : i = k + 1 := by omega
      omega
theorem boxTo_least {xs : List Entry} {d : Int} {r : Rect} (h : ∀ x ∈ xs, rf x.rect d = 0) (hr : r.low.length = d.toNat) : ∀ k, k < xs.length → (∀ i, i ≤ k → covers r (xs.getD i default).rect = true) → covers r (boxTo xs k) = true
  | 0, hk, hc => hc 0 (Nat.le_refl _)
  | k + 1, hk, hc => by
    have ih := boxTo_least h hr k (by omega) fun i hi => hc i (by omega)
    have hl := rf_len (boxTo_rf h k (by omega)).1
    refine covers_iff.2 fun j hj => ?_
    have e := un_at (a := boxTo xs k) (b := (xs.getD (k + 1) default).rect) (k := j) (by omega)
    have a1 := covers_iff.1 ih j hj
    have a2 := covers_iff.1 (hc (k + 1) (Nat.le_refl _)) j hj
    rw [boxTo_succ]
    omega
theorem bx_rf {xs : List Entry} {d : Int} (h : ∀ x ∈ xs, rf x.rect d = 0) (h0 : 0 < xs.length) : rf (bx xs) d = 0 := (boxTo_rf h _ (by omega)).1
theorem bx_covers {xs : List Entry} {d : Int} (h : ∀ x ∈ xs, rf x.rect d = 0) {i : Nat} (hi : i < xs.length) : covers (bx xs) (xs.getD i default).rect = true := (boxTo_rf h (xs.length - 1) (by omega)).2 i (by omega)
theorem bx_least {xs : List Entry} {d : Int} {r : Rect} (h : ∀ x ∈ xs, rf x.rect d = 0) (hr : r.low.length = d.toNat) (h0 : 0 < xs.length) (hc : ∀ i, i < xs.length → covers r (xs.getD i default).rect = true) : covers r (bx xs) = true :=
  boxTo_least h hr _ (by omega) fun i hi => hc i (by omega)
theorem covers_trans {a b c : Rect} (hl : b.low.length = a.low.length) (h1 : covers a b = true) (h2 : covers b c = true) : covers a c = true := by
  refine covers_iff.2 fun k hk => ?_
  have := covers_iff.1 h1 k hk
  have := covers_iff.1 h2 k (by omega)
  omega
theorem nf_wider {n : Node} {d : Int} {b : Rect} {i : Nat} (h : nf n d = 0) (hb : rf b d = 0) (hi : i < n.entries.length) : nf ⟨n.level, n.nsn, n.right, n.entries.set i (wider (n.entries.getD i default) b)⟩ d = 0 := by
  obtain ⟨g1, g2, g3, g4, g5⟩ := nf_iff.1 h
  have hm := getD_mem (d := default) hi
  have hr := ef_rf (g3 _ hm)
  have hu : rf (un (n.entries.getD i default).rect b) d = 0 := by
    have h1 := rf_un (two_of hr hb)
    have h2 := rf_len hr
    rw [h2.1] at h1; exact h1
  refine nf_iff.2 ⟨g1, by simpa using g2, fun x hx => ?_, fun x hx => ?_, ?_⟩
  · rcases List.mem_or_eq_of_mem_set hx with hx | rfl
    · exact g3 x hx
    · have h1 := g3 _ hm
      unfold entryF at h1 ⊢
      rw [if_neg (by simpa using hr)] at h1
      rw [if_neg (by simpa [wider] using hu)]
      exact h1
  · rcases List.mem_or_eq_of_mem_set hx with hx | rfl
    · exact g4 x hx
    · exact (show fits n.level (n.entries.getD i default) = true from g4 _ hm)
  · rw [noDup_nodup] at g5 ⊢
    have e : (n.entries.set i (wider (n.entries.getD i default) b)).map (·.ref) = n.entries.map (·.ref) := by
      rw [List.map_set]
      refine List.ext_getElem (by simp) fun j h1 h2 => ?_
      rw [List.getElem_set]
      split
      · rename_i e; subst e
        rw [getD_lt hi]; simp [wider]
      · rfl
    rw [e]; exact g5
theorem l_FnNodes (c : List Int) (hb : ∀ b ∈ c, 0 ≤ b ∧ b < 256) : Sat Try.prog 13 [aY c] true (rB true) := by
  refine sat_walk (fn := Try.f13) rfl rfl rfl (Nat.le_of_ble_eq_true rfl) fun fr hP hN hbnd => ?_
  have hE : (envOf fr Try.prog).Ok := envOf_ok hP
  have hM := follows_of hP
  have hS : ∀ {draw ops}, statB Try.f13.ntmps draw ops = true → statB (envOf fr Try.prog).fr.N draw ops = true := fun h => by rw [envOf_fr, hN]; exact h
  by_cases hbig : 1048576 < c.length
  · have hz : decide (1048576 < c.length) = true := by simpa using hbig
    have k0 := s_lwBig c
    rw [hz] at k0
    repeat' (first
      | exact True.intro
      | refine ev_seq ?_
      | ((first | refine vgd_go ?_ | refine ev_region hE hM (hS (by decide +kernel)) ?_ | refine ev_if ?_ | refine end_ret hE rfl rfl ?_ | refine end_norm hE rfl rfl ?_ | refine endG_ret [] hE rfl ?_ | refine endG_norm [] hE rfl ?_ | refine vcallB_of hP k0 ?_ | refine vcall_A ?_); simp (maxSteps := 2000000) only [go_sem, hP, ↓reduceIte, Nat.reduceAdd, Nat.reduceMul, Nat.reduceEqDiff, Nat.reduceSub, Nat.reduceLeDiff, reduceCtorEq])
      | refine ev_skip ?_ | refine ev_block ?_ | refine ev_blk ?_ | refine ev_ret ?_ | refine ev_exit ?_ | refine evx_code_ret ?_ | refine evx_blk_ret ?_ | refine evx_lp_ret ?_
      | refine evx_code_exit ?_ | refine evx_lp_exit ?_ | refine evx_blk_hit ?_ | refine evx_blk_pass (by decide) ?_
      | refine And.intro ?_ ?_ | intro _ | decide +kernel | omega)
  have hz : decide (1048576 < c.length) = false := by simpa using hbig
  have k0 := s_lwBig c
  rw [hz] at k0
  have hc : codeOk c := ⟨by omega, hb⟩
  have k1 := s_DrawWithEntry c hc
  have k2 := s_DrawEntryFor c hc
  generalize efN c = n at k1 k2
  generalize efD c = d at k1 k2
  generalize weE c = e at k1
  generalize efR c = r at k2
  have k3 := s_implWithEntry n d e
  have k4 := s_specWithEntry n d e
  have k5 := s_implWithoutEntry n d r
  have k6 := s_specWithoutEntry n d r
  have k7 := s_implEntryFor n d r
  have k8 := s_specEntryFor n d r
  have k9 := s_implNodeFault n d
  have ka := s_specNodeFault n d
  have m0 : (0 != (0 : Int)) = false := rfl
  have m1 : (0 == (0 : Int)) = true := rfl
  have m4 : (4 != (4 : Int)) = false := rfl
  have bn : ∀ x : Int, (x != x) = false := fun x => by simp
  -- what was taken out
  have hO : ∃ o : Node, woV n d r = o ∧ (efcode n d r = 0 → (o.entries.length : Int) = n.entries.length - 1 ∧ 0 < n.entries.length ∧ n.entries.length ≤ 5 ∧ efcode o d r = 4) := by
    refine ⟨_, rfl, fun h => ?_⟩
    obtain ⟨g1, g2⟩ := ef_zero h
    obtain ⟨i, e1, e2, e3⟩ := findRef_get g2
    have hv : woV n d r = ⟨n.level, n.nsn, n.right, n.entries.take i ++ n.entries.drop (i + 1)⟩ := by unfold woV; rw [if_pos h, e1]; rfl
    obtain ⟨_, q2, _, _, q5⟩ := nf_iff.1 g1
    rw [hv]
    refine ⟨?_, by omega, q2, ?_⟩
    · simp only [without_len e2]; omega
    · unfold efcode
      rw [if_neg (by rw [nf_without i g1]; simp), if_pos (without_gone q5 e2 e3)]
  obtain ⟨o, ho, hO⟩ := hO
  rw [ho] at k5 k6
  have kb := s_implEntryFor o d r
  have wl : efcode n d r = 0 → IntKind.i64.wrap ((n.entries.length : Int) - 1) = n.entries.length - 1 := fun h => i64_in _ (by have := hO h; omega)
  by_cases hW : weC n d e = 0
  · obtain ⟨w1, w2, w3, w4, w5⟩ := weC_zero hW
    have hv : weV n d e = ⟨n.level, n.nsn, n.right, n.entries ++ [e]⟩ := by unfold weV; rw [if_pos hW]
    have hn := nf_with hW
    have hl : (n.entries ++ [e]).getD n.entries.length default = e := by simp
    have hq : n.entries.length < (n.entries ++ [e]).length := by simp
    obtain ⟨_, q2, q3, _, q5⟩ := nf_iff.1 hn
    simp only at q2 q3 q5
    have hrf : ∀ x ∈ n.entries ++ [e], rf x.rect d = 0 := fun x hx => ef_rf (q3 x hx)
    have hfind : findRef (n.entries ++ [e]) e.ref = n.entries.length := findRef_here q5 hq (by rw [hl])
    have hef : efcode (⟨n.level, n.nsn, n.right, n.entries ++ [e]⟩ : Node) d e.ref = 0 := by
      unfold efcode; rw [if_neg (by rw [hn]; simp), if_neg (by simp only [hfind]; omega)]
    have hwo : woV (⟨n.level, n.nsn, n.right, n.entries ++ [e]⟩ : Node) d e.ref = n := by
      unfold woV; rw [if_pos hef]
      simp only [hfind, Int.toNat_natCast]
      rw [List.take_left, List.drop_eq_nil_of_le (by simp), List.append_nil]
    have hbx : bxC (⟨n.level, n.nsn, n.right, n.entries ++ [e]⟩ : Node) d = 0 := by
      unfold bxC; rw [if_neg (by rw [hn]; simp), if_neg (by simp)]
    have hbv : bxV (⟨n.level, n.nsn, n.right, n.entries ++ [e]⟩ : Node) d = bx (n.entries ++ [e]) := by unfold bxV; rw [if_pos hbx]
    have hcov : covers (bx (n.entries ++ [e])) e.rect = true := by
      have := bx_covers hrf hq
      rwa [hl] at this
    have htwo : two (bx (n.entries ++ [e])) e.rect = 0 := two_of (bx_rf hrf (by omega)) (ef_rf w2)
    rw [hW, hv] at k3 k4
    have kc := s_implBoxOf ⟨n.level, n.nsn, n.right, n.entries ++ [e]⟩ d
    rw [hbx, hbv] at kc
    have kd := s_implWithoutEntry ⟨n.level, n.nsn, n.right, n.entries ++ [e]⟩ d e.ref
    rw [hef, hwo] at kd
    have ke := s_implNodeFault ⟨n.level, n.nsn, n.right, n.entries ++ [e]⟩ d
    rw [hn] at ke
    have kf := s_implCovers (bx (n.entries ++ [e])) e.rect
    rw [hcov, htwo] at kf
    have kg := s_implEntryFor ⟨n.level, n.nsn, n.right, n.entries ++ [e]⟩ d e.ref
    rw [hef] at kg
    simp only [hfind, val, ↓reduceIte] at kg
    have kh := s_implSameNodes [n] [n]
    have ki := s_specSameNodes [n] [n]
    rw [show decide ([n] = [n]) = true by simp] at kh ki
    simp only [beq_self_eq_true, Bool.and_self] at kf
    generalize bx (n.entries ++ [e]) = bb at *
    by_cases hEF : efcode n d r = 0
    · obtain ⟨o1, o2, o3, o4⟩ := hO hEF
      have wl' := wl hEF
      rw [hEF] at k5 k6 k7 k8
      rw [o4] at kb
      simp only [val, ↓reduceIte] at k7 k8
      generalize findRef n.entries r = f at *
      have o5 : ((o.entries.length : Int) != (n.entries.length : Int) - 1) = false := by rw [o1]; simp
      repeat' (first
        | exact True.intro
        | refine ev_seq ?_
        | ((first | refine ev_stop 15 ?_ | refine vgd_go ?_ | refine ev_region hE hM (hS (by decide +kernel)) ?_ | refine ev_if ?_ | refine end_ret hE rfl rfl ?_ | refine end_norm hE rfl rfl ?_ | refine endG_ret [] hE rfl ?_ | refine endG_norm [] hE rfl ?_ | refine vcallB_of hP k0 ?_ | refine vcallB_of hP k1 ?_ | refine vcallB_of hP k2 ?_ | refine vcallB_of hP k3 ?_ | refine vcallB_of hP k4 ?_ | refine vcallB_of hP k5 ?_ | refine vcallB_of hP k6 ?_ | refine vcallB_of hP k7 ?_ | refine vcallB_of hP k8 ?_ | refine vcallB_of hP k9 ?_ | refine vcallB_of hP ka ?_ | refine vcallB_of hP kb ?_ | refine vcallB_of hP kc ?_ | refine vcallB_of hP kd ?_ | refine vcallB_of hP ke ?_ | refine vcallB_of hP kf ?_ | refine vcallB_of hP kg ?_ | refine vcallB_of hP kh ?_ | refine vcallB_of hP ki ?_ | refine vbin_ne [0, f] hP (by kernel_rfl) rfl rfl ?_ | refine vbin_eq [0, (n.entries.length : Int)] hP (by kernel_rfl) rfl rfl ?_ | refine vcall_A ?_); simp (maxSteps := 2000000) only [go_sem, hP, ↓reduceIte, Nat.reduceAdd, Nat.reduceMul, Nat.reduceEqDiff, Nat.reduceSub, Nat.reduceLeDiff, reduceCtorEq, m0, m1, m4, bn, wl', o5, List.length_map, Es.strip, Cs.strip, C.strip, strip_oEntry])
        | refine ev_skip ?_ | refine ev_block ?_ | refine ev_blk ?_ | refine ev_ret ?_ | refine ev_exit ?_ | refine evx_code_ret ?_ | refine evx_blk_ret ?_ | refine evx_lp_ret ?_
        | refine evx_code_exit ?_ | refine evx_lp_exit ?_ | refine evx_blk_hit ?_ | refine evx_blk_pass (by decide) ?_
        | refine And.intro ?_ ?_ | intro _ | decide +kernel | omega)
      all_goals first | (exfalso; simp_all; done) | skip
      all_goals first | refine Stop.mk ?_ | skip
      refine ev_cut [(3, .ptr 12336 0), (4, iT d), (5, .ptr 12344 0), (6, .ptr 16416 0), (11, .ptr 53280 0), (12, .ptr 57392 0)] [(12336, .box [iT n.level, iT n.nsn, iT n.right, .c (sEntryS n.entries)]), (12344, .box [.c (sI e.rect.low), .c (sI e.rect.high), iT e.ref, iT e.nsn]), (16416, .box [iT 0, iT n.level, iT n.nsn, iT n.right, .ref 4210712]), gEs 4210712 (n.entries ++ [e]), (53280, .box [iT 0, .ref 1101848, .ref 2150424]), gI 1101848 bb.low, gI 2150424 bb.high, (57392, .box [iT 0, iT n.level, iT n.nsn, iT n.right, .ref 4251688]), (4251688, .fro 4 (n.entries.map eEntry))] [] [] (by simp only [go_sem, hP, ↓reduceIte, Nat.reduceAdd, Nat.reduceMul, Nat.reduceEqDiff, Nat.reduceSub, Nat.reduceLeDiff, reduceCtorEq, List.cons_append, List.nil_append]) ?_
      repeat' (first
        | exact True.intro
        | refine ev_seq ?_
        | ((first | refine vgd_go ?_ | refine ev_region hE hM (hS (by decide +kernel)) ?_ | refine ev_if ?_ | refine end_ret hE rfl rfl ?_ | refine end_norm hE rfl rfl ?_ | refine endG_ret [] hE rfl ?_ | refine endG_norm [] hE rfl ?_ | refine vcallB_of hP k0 ?_ | refine vcallB_of hP k1 ?_ | refine vcallB_of hP k2 ?_ | refine vcallB_of hP k3 ?_ | refine vcallB_of hP k4 ?_ | refine vcallB_of hP k5 ?_ | refine vcallB_of hP k6 ?_ | refine vcallB_of hP k7 ?_ | refine vcallB_of hP k8 ?_ | refine vcallB_of hP k9 ?_ | refine vcallB_of hP ka ?_ | refine vcallB_of hP kb ?_ | refine vcallB_of hP kc ?_ | refine vcallB_of hP kd ?_ | refine vcallB_of hP ke ?_ | refine vcallB_of hP kf ?_ | refine vcallB_of hP kg ?_ | refine vcallB_of hP kh ?_ | refine vcallB_of hP ki ?_ | refine vbin_ne [0, f] hP (by kernel_rfl) rfl rfl ?_ | refine vbin_eq [0, (n.entries.length : Int)] hP (by kernel_rfl) rfl rfl ?_ | refine vcall_A ?_); simp (maxSteps := 2000000) only [go_sem, hP, ↓reduceIte, Nat.reduceAdd, Nat.reduceMul, Nat.reduceEqDiff, Nat.reduceSub, Nat.reduceLeDiff, reduceCtorEq, m0, m1, m4, bn, wl', o5, List.length_map, Es.strip, Cs.strip, C.strip, strip_oEntry])
        | refine ev_skip ?_ | refine ev_block ?_ | refine ev_blk ?_ | refine ev_ret ?_ | refine ev_exit ?_ | refine evx_code_ret ?_ | refine evx_blk_ret ?_ | refine evx_lp_ret ?_
        | refine evx_code_exit ?_ | refine evx_lp_exit ?_ | refine evx_blk_hit ?_ | refine evx_blk_pass (by decide) ?_
        | refine And.intro ?_ ?_ | intro _ | decide +kernel | omega)
      all_goals first | (simp_all; done) | trace_state
    · have hEF' : (efcode n d r == 0) = false := by simpa using hEF
      generalize val (efcode n d r) (findRef n.entries r) = f at *
      generalize efcode n d r = t at *
      repeat' (first
        | exact True.intro
        | refine ev_seq ?_
        | ((first | refine ev_stop 15 ?_ | refine vgd_go ?_ | refine ev_region hE hM (hS (by decide +kernel)) ?_ | refine ev_if ?_ | refine end_ret hE rfl rfl ?_ | refine end_norm hE rfl rfl ?_ | refine endG_ret [] hE rfl ?_ | refine endG_norm [] hE rfl ?_ | refine vcallB_of hP k0 ?_ | refine vcallB_of hP k1 ?_ | refine vcallB_of hP k2 ?_ | refine vcallB_of hP k3 ?_ | refine vcallB_of hP k4 ?_ | refine vcallB_of hP k5 ?_ | refine vcallB_of hP k6 ?_ | refine vcallB_of hP k7 ?_ | refine vcallB_of hP k8 ?_ | refine vcallB_of hP k9 ?_ | refine vcallB_of hP ka ?_ | refine vcallB_of hP kc ?_ | refine vcallB_of hP kd ?_ | refine vcallB_of hP ke ?_ | refine vcallB_of hP kf ?_ | refine vcallB_of hP kg ?_ | refine vcallB_of hP kh ?_ | refine vcallB_of hP ki ?_ | refine vbin_ne [t, f] hP (by kernel_rfl) rfl rfl ?_ | refine vbin_eq [0, (n.entries.length : Int)] hP (by kernel_rfl) rfl rfl ?_ | refine vcall_A ?_); simp (maxSteps := 2000000) only [go_sem, hP, ↓reduceIte, Nat.reduceAdd, Nat.reduceMul, Nat.reduceEqDiff, Nat.reduceSub, Nat.reduceLeDiff, reduceCtorEq, m0, m1, bn, hEF', List.length_map, Es.strip, Cs.strip, C.strip, strip_oEntry])
        | refine ev_skip ?_ | refine ev_block ?_ | refine ev_blk ?_ | refine ev_ret ?_ | refine ev_exit ?_ | refine evx_code_ret ?_ | refine evx_blk_ret ?_ | refine evx_lp_ret ?_
        | refine evx_code_exit ?_ | refine evx_lp_exit ?_ | refine evx_blk_hit ?_ | refine evx_blk_pass (by decide) ?_
        | refine And.intro ?_ ?_ | intro _ | decide +kernel | omega)
      all_goals first | (exfalso; simp_all; done) | skip
      all_goals first | refine Stop.mk ?_ | skip
      refine ev_cut [(3, .ptr 12336 0), (4, iT d), (5, .ptr 12344 0), (6, .ptr 16416 0), (11, .ptr 53280 0), (12, .ptr 57392 0)] [(12336, .box [iT n.level, iT n.nsn, iT n.right, .c (sEntryS n.entries)]), (12344, .box [.c (sI e.rect.low), .c (sI e.rect.high), iT e.ref, iT e.nsn]), (16416, .box [iT 0, iT n.level, iT n.nsn, iT n.right, .ref 4210712]), gEs 4210712 (n.entries ++ [e]), (53280, .box [iT 0, .ref 1101848, .ref 2150424]), gI 1101848 bb.low, gI 2150424 bb.high, (57392, .box [iT 0, iT n.level, iT n.nsn, iT n.right, .ref 4251688]), (4251688, .fro 4 (n.entries.map eEntry))] [] [] (by simp only [go_sem, hP, ↓reduceIte, Nat.reduceAdd, Nat.reduceMul, Nat.reduceEqDiff, Nat.reduceSub, Nat.reduceLeDiff, reduceCtorEq, List.cons_append, List.nil_append]) ?_
      repeat' (first
        | exact True.intro
        | refine ev_seq ?_
        | ((first | refine vgd_go ?_ | refine ev_region hE hM (hS (by decide +kernel)) ?_ | refine ev_if ?_ | refine end_ret hE rfl rfl ?_ | refine end_norm hE rfl rfl ?_ | refine endG_ret [] hE rfl ?_ | refine endG_norm [] hE rfl ?_ | refine vcallB_of hP k0 ?_ | refine vcallB_of hP k1 ?_ | refine vcallB_of hP k2 ?_ | refine vcallB_of hP k3 ?_ | refine vcallB_of hP k4 ?_ | refine vcallB_of hP k5 ?_ | refine vcallB_of hP k6 ?_ | refine vcallB_of hP k7 ?_ | refine vcallB_of hP k8 ?_ | refine vcallB_of hP k9 ?_ | refine vcallB_of hP ka ?_ | refine vcallB_of hP kc ?_ | refine vcallB_of hP kd ?_ | refine vcallB_of hP ke ?_ | refine vcallB_of hP kf ?_ | refine vcallB_of hP kg ?_ | refine vcallB_of hP kh ?_ | refine vcallB_of hP ki ?_ | refine vbin_ne [t, f] hP (by kernel_rfl) rfl rfl ?_ | refine vbin_eq [0, (n.entries.length : Int)] hP (by kernel_rfl) rfl rfl ?_ | refine vcall_A ?_); simp (maxSteps := 2000000) only [go_sem, hP, ↓reduceIte, Nat.reduceAdd, Nat.reduceMul, Nat.reduceEqDiff, Nat.reduceSub, Nat.reduceLeDiff, reduceCtorEq, m0, m1, bn, hEF', List.length_map, Es.strip, Cs.strip, C.strip, strip_oEntry])
        | refine ev_skip ?_ | refine ev_block ?_ | refine ev_blk ?_ | refine ev_ret ?_ | refine ev_exit ?_ | refine evx_code_ret ?_ | refine evx_blk_ret ?_ | refine evx_lp_ret ?_
        | refine evx_code_exit ?_ | refine evx_lp_exit ?_ | refine evx_blk_hit ?_ | refine evx_blk_pass (by decide) ?_
        | refine And.intro ?_ ?_ | intro _ | decide +kernel | omega)
      all_goals first | (simp_all; done) | trace_state
  · have hW' : (weC n d e != 0) = true := by simpa using hW
    generalize weV n d e = w at *
    generalize weC n d e = t at *
    by_cases hEF : efcode n d r = 0
    · obtain ⟨o1, o2, o3, o4⟩ := hO hEF
      have wl' := wl hEF
      rw [hEF] at k5 k6 k7 k8
      rw [o4] at kb
      simp only [val, ↓reduceIte] at k7 k8
      generalize findRef n.entries r = f at *
      have o5 : ((o.entries.length : Int) != (n.entries.length : Int) - 1) = false := by rw [o1]; simp
      repeat' (first
        | exact True.intro
        | refine ev_seq ?_
        | ((first | refine vgd_go ?_ | refine ev_region hE hM (hS (by decide +kernel)) ?_ | refine ev_if ?_ | refine end_ret hE rfl rfl ?_ | refine end_norm hE rfl rfl ?_ | refine endG_ret [] hE rfl ?_ | refine endG_norm [] hE rfl ?_ | refine vcallB_of hP k0 ?_ | refine vcallB_of hP k1 ?_ | refine vcallB_of hP k2 ?_ | refine vcallB_of hP k3 ?_ | refine vcallB_of hP k4 ?_ | refine vcallB_of hP k5 ?_ | refine vcallB_of hP k6 ?_ | refine vcallB_of hP k7 ?_ | refine vcallB_of hP k8 ?_ | refine vcallB_of hP k9 ?_ | refine vcallB_of hP ka ?_ | refine vcallB_of hP kb ?_ | refine vbin_ne [0, f] hP (by kernel_rfl) rfl rfl ?_ | refine vcall_A ?_); simp (maxSteps := 2000000) only [go_sem, hP, ↓reduceIte, Nat.reduceAdd, Nat.reduceMul, Nat.reduceEqDiff, Nat.reduceSub, Nat.reduceLeDiff, reduceCtorEq, m0, m1, m4, bn, wl', o5, hW', List.length_map])
        | refine ev_skip ?_ | refine ev_block ?_ | refine ev_blk ?_ | refine ev_ret ?_ | refine ev_exit ?_ | refine evx_code_ret ?_ | refine evx_blk_ret ?_ | refine evx_lp_ret ?_
        | refine evx_code_exit ?_ | refine evx_lp_exit ?_ | refine evx_blk_hit ?_ | refine evx_blk_pass (by decide) ?_
        | refine And.intro ?_ ?_ | intro _ | decide +kernel | omega)
      all_goals first | (simp_all; done) | trace_state
    · have hEF' : (efcode n d r == 0) = false := by simpa using hEF
      generalize val (efcode n d r) (findRef n.entries r) = f at *
      generalize efcode n d r = u at *
      repeat' (first
        | exact True.intro
        | refine ev_seq ?_
        | ((first | refine vgd_go ?_ | refine ev_region hE hM (hS (by decide +kernel)) ?_ | refine ev_if ?_ | refine end_ret hE rfl rfl ?_ | refine end_norm hE rfl rfl ?_ | refine endG_ret [] hE rfl ?_ | refine endG_norm [] hE rfl ?_ | refine vcallB_of hP k0 ?_ | refine vcallB_of hP k1 ?_ | refine vcallB_of hP k2 ?_ | refine vcallB_of hP k3 ?_ | refine vcallB_of hP k4 ?_ | refine vcallB_of hP k5 ?_ | refine vcallB_of hP k6 ?_ | refine vcallB_of hP k7 ?_ | refine vcallB_of hP k8 ?_ | refine vcallB_of hP k9 ?_ | refine vcallB_of hP ka ?_ | refine vbin_ne [u, f] hP (by kernel_rfl) rfl rfl ?_ | refine vcall_A ?_); simp (maxSteps := 2000000) only [go_sem, hP, ↓reduceIte, Nat.reduceAdd, Nat.reduceMul, Nat.reduceEqDiff, Nat.reduceSub, Nat.reduceLeDiff, reduceCtorEq, m0, m1, bn, hEF', hW', List.length_map])
        | refine ev_skip ?_ | refine ev_block ?_ | refine ev_blk ?_ | refine ev_ret ?_ | refine ev_exit ?_ | refine evx_code_ret ?_ | refine evx_blk_ret ?_ | refine evx_lp_ret ?_
        | refine evx_code_exit ?_ | refine evx_lp_exit ?_ | refine evx_blk_hit ?_ | refine evx_blk_pass (by decide) ?_
        | refine And.intro ?_ ?_ | intro _ | decide +kernel | omega)
      all_goals first | (simp_all; done) | trace_state
theorem all_FnNodes (gs : List Arg) (h : shpA Try.prog 12 [65] gs) : Sat Try.prog 13 gs true (rB true) := by
  obtain ⟨x0, gs, rfl, h0, rfl⟩ := h
  obtain ⟨c, rfl, hb⟩ := shp_Y (n := 10) rfl h0
  exact l_FnNodes c hb
end Go.Proofs.Ytmpndkhnajogkaa.W
