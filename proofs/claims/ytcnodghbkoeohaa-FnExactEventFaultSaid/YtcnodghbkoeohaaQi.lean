/- FnExactEventFault holds: for all arguments the law returns true and changes nothing. No condition. -/
import Derived.Test.YtcnodghbkoeohaaPd
open Go Go.Vm Go.Proofs Go.IntWalk Go.RowKit
set_option maxRecDepth 100000
set_option maxHeartbeats 4000000
set_option linter.unusedSimpArgs false
set_option linter.unusedVariables false
set_option linter.unusedSectionVars false
namespace Go.Proofs.Ytcnodghbkoeohaa.W
attribute [local irreducible] kJ ev evx vops vstep vgo vgd vget vcall vcallFn vcallA vcallB vts vres vcond
theorem s_toEvent (x : Event) (h : wEvent x ≤ 1048576) : Sat Try.prog 70 [aEvent x] true (rEvent x) := by
  refine sat_walk (fn := Try.f70) rfl rfl rfl (Nat.le_of_ble_eq_true rfl) fun fr hP hN hbnd => ?_
  have hE : (envOf fr Try.prog).Ok := envOf_ok hP
  have hM := follows_of hP
  have hS : ∀ {draw ops}, statB Try.f70.ntmps draw ops = true → statB (envOf fr Try.prog).fr.N draw ops = true := fun h => by rw [envOf_fr, hN]; exact h
  simp only [wEvent] at h
  repeat' (first
    | exact True.intro
    | refine ev_seq ?_
    | ((first | refine vgd_go ?_ | refine ev_region hE hM (hS (by decide +kernel)) ?_ | refine ev_if ?_ | refine end_ret hE rfl rfl ?_ | refine end_norm hE rfl rfl ?_ | refine vcall_A ?_ | refine vcallB_of hP (s_toOp x.op (by omega)) ?_); simp (maxSteps := 2000000) only [go_sem, hP, ↓reduceIte, Nat.reduceAdd, Nat.reduceMul, Nat.reduceEqDiff, Nat.reduceSub, Nat.reduceLeDiff, reduceCtorEq])
    | refine ev_skip ?_ | refine ev_block ?_ | refine ev_blk ?_ | refine ev_ret ?_ | refine ev_exit ?_ | refine evx_code_ret ?_ | refine evx_blk_ret ?_ | refine evx_lp_ret ?_
    | refine evx_code_exit ?_ | refine evx_lp_exit ?_ | refine evx_blk_hit ?_ | refine evx_blk_pass (by decide) ?_
    | refine And.intro ?_ ?_ | intro _ | decide +kernel | omega)
theorem s_szEvent (x : Event) (left : Int) (h0 : 0 ≤ left) (h1 : left ≤ 1048576) : Sat Try.prog 68 [aEvent x, aI left] true (rI (lessN (wEvent x) left)) := by
  refine sat_walk (fn := Try.f68) rfl rfl rfl (Nat.le_of_ble_eq_true rfl) fun fr hP hN hbnd => ?_
  have hE : (envOf fr Try.prog).Ok := envOf_ok hP
  have hM := follows_of hP
  have hS : ∀ {draw ops}, statB Try.f68.ntmps draw ops = true → statB (envOf fr Try.prog).fr.N draw ops = true := fun h => by rw [envOf_fr, hN]; exact h
  repeat' (first
    | exact True.intro
    | refine ev_seq ?_
    | ((first | refine vgd_go ?_ | refine ev_region hE hM (hS (by decide +kernel)) ?_ | refine ev_if ?_ | refine end_ret hE rfl rfl ?_ | refine end_norm hE rfl rfl ?_ | refine vcall_A ?_ | refine vcallB_of hP (s_szOp x.op _ (by (try simp only [lessN] at *); omega) (by (try simp only [lessN] at *); omega)) ?_); simp (maxSteps := 2000000) only [go_sem, hP, ↓reduceIte, Nat.reduceAdd, Nat.reduceMul, Nat.reduceEqDiff, Nat.reduceSub, Nat.reduceLeDiff, reduceCtorEq])
    | refine ev_skip ?_ | refine ev_block ?_ | refine ev_blk ?_ | refine ev_ret ?_ | refine ev_exit ?_ | refine evx_code_ret ?_ | refine evx_blk_ret ?_ | refine evx_lp_ret ?_
    | refine evx_code_exit ?_ | refine evx_lp_exit ?_ | refine evx_blk_hit ?_ | refine evx_blk_pass (by decide) ?_
    | refine And.intro ?_ ?_ | intro _ | decide +kernel | omega)
  all_goals simp_all only [lessN, wEvent]
  all_goals omega
theorem s_eqEvent (a b : Event) : Sat Try.prog 72 [aEvent a, aEvent b] true (rB (decide (a = b))) := by
  refine sat_walk (fn := Try.f72) rfl rfl rfl (Nat.le_of_ble_eq_true rfl) fun fr hP hN hbnd => ?_
  have hE : (envOf fr Try.prog).Ok := envOf_ok hP
  have hM := follows_of hP
  have hS : ∀ {draw ops}, statB Try.f72.ntmps draw ops = true → statB (envOf fr Try.prog).fr.N draw ops = true := fun h => by rw [envOf_fr, hN]; exact h
  repeat' (first
    | exact True.intro
    | refine ev_seq ?_
    | ((first | refine vgd_go ?_ | refine ev_region hE hM (hS (by decide +kernel)) ?_ | refine ev_if ?_ | refine end_ret hE rfl rfl ?_ | refine end_norm hE rfl rfl ?_ | refine vcall_A ?_ | refine vcallB_of hP (s_eqOp a.op b.op) ?_); simp (maxSteps := 2000000) only [go_sem, hP, ↓reduceIte, Nat.reduceAdd, Nat.reduceMul, Nat.reduceEqDiff, Nat.reduceSub, Nat.reduceLeDiff, reduceCtorEq])
    | refine ev_skip ?_ | refine ev_block ?_ | refine ev_blk ?_ | refine ev_ret ?_ | refine ev_exit ?_ | refine evx_code_ret ?_ | refine evx_blk_ret ?_ | refine evx_lp_ret ?_
    | refine evx_code_exit ?_ | refine evx_lp_exit ?_ | refine evx_blk_hit ?_ | refine evx_blk_pass (by decide) ?_
    | refine And.intro ?_ ?_ | intro _ | decide +kernel | omega)
  all_goals simp_all [eqEvent]
theorem shp_Event {n t : Nat} {cs : List C} (ht : (Try.prog.underlying t).bind fieldTs = some [4, 2, 85]) (h : shp Try.prog (n + 7) t cs) : ∃ x, cs = eEvent x := by
  obtain ⟨c0, g0, rfl, h0, c1, g1, rfl, h1, c2, g2, rfl, h2, rfl⟩ := shp_struct ht h
  obtain ⟨v0, rfl⟩ := shp_bool (n := n + 5) rfl h0
  obtain ⟨v1, rfl, _⟩ := shp_i64 (n := n + 5) rfl h1
  obtain ⟨v2, rfl⟩ := shp_Op (n := n + 0) rfl h2
  exact ⟨⟨v0, v1, v2⟩, rfl⟩
theorem s_isClient (a : Int) : Sat Try.prog 138 [aI a] true (rB (inB a 0 3)) := by
  refine sat_walk (fn := Try.f138) rfl rfl rfl (Nat.le_of_ble_eq_true rfl) fun fr hP hN hbnd => ?_
  have hE : (envOf fr Try.prog).Ok := envOf_ok hP
  have hM := follows_of hP
  have hS : ∀ {draw ops}, statB Try.f138.ntmps draw ops = true → statB (envOf fr Try.prog).fr.N draw ops = true := fun h => by rw [envOf_fr, hN]; exact h
  repeat' (first
    | exact True.intro
    | refine ev_seq ?_
    | ((first | refine vgd_go ?_ | refine ev_region hE hM (hS (by decide +kernel)) ?_ | refine ev_if ?_ | refine end_ret hE rfl rfl ?_ | refine end_norm hE rfl rfl ?_ | refine vcall_A ?_ | refine vcallB_of hP (s_within _ _ _) ?_); simp (maxSteps := 2000000) only [go_sem, hP, ↓reduceIte, Nat.reduceAdd, Nat.reduceMul, Nat.reduceEqDiff, Nat.reduceSub, Nat.reduceLeDiff, reduceCtorEq])
    | refine ev_skip ?_ | refine ev_block ?_ | refine ev_blk ?_ | refine ev_ret ?_ | refine ev_exit ?_ | refine evx_code_ret ?_ | refine evx_blk_ret ?_ | refine evx_lp_ret ?_
    | refine evx_code_exit ?_ | refine evx_lp_exit ?_ | refine evx_blk_hit ?_ | refine evx_blk_pass (by decide) ?_
    | refine And.intro ?_ ?_ | intro _ | decide +kernel | omega)
theorem s_implEventFault (e : Event) (d : Int) : Sat Try.prog 71 [aEvent e, aI d] true (rI (evf e d)) := by
  refine sat_walk (fn := Try.f71) rfl rfl rfl (Nat.le_of_ble_eq_true rfl) fun fr hP hN hbnd => ?_
  have hE : (envOf fr Try.prog).Ok := envOf_ok hP
  have hM := follows_of hP
  have hS : ∀ {draw ops}, statB Try.f71.ntmps draw ops = true → statB (envOf fr Try.prog).fr.N draw ops = true := fun h => by rw [envOf_fr, hN]; exact h
  repeat' (first
    | exact True.intro
    | refine ev_seq ?_
    | ((first | refine vgd_go ?_ | refine ev_region hE hM (hS (by decide +kernel)) ?_ | refine ev_if ?_ | refine end_ret hE rfl rfl ?_ | refine end_norm hE rfl rfl ?_ | refine vcall_A ?_ | refine vcallB_of hP (s_isDims _) ?_ | refine vcallB_of hP (s_isClient _) ?_ | refine vcallB_of hP (s_implOpFault e.op _) ?_ | refine vcallB_of hP (s_PisZero e.op.pair) ?_ | refine vcallB_of hP (s_QisZero e.op.query) ?_); simp (maxSteps := 2000000) only [go_sem, hP, ↓reduceIte, Nat.reduceAdd, Nat.reduceMul, Nat.reduceEqDiff, Nat.reduceSub, Nat.reduceLeDiff, reduceCtorEq])
    | refine ev_skip ?_ | refine ev_block ?_ | refine ev_blk ?_ | refine ev_ret ?_ | refine ev_exit ?_ | refine evx_code_ret ?_ | refine evx_blk_ret ?_ | refine evx_lp_ret ?_
    | refine evx_code_exit ?_ | refine evx_lp_exit ?_ | refine evx_blk_hit ?_ | refine evx_blk_pass (by decide) ?_
    | refine And.intro ?_ ?_ | intro _ | decide +kernel | omega)
  all_goals (simp_all [evf] <;> rfl)
theorem s_specEventFault (e : Event) (d : Int) (h : wEvent e ≤ 1048576) : Sat Try.prog 69 [aEvent e, aI d] true (rI (evf e d)) := by
  refine sat_walk (fn := Try.f69) rfl rfl rfl (Nat.le_of_ble_eq_true rfl) fun fr hP hN hbnd => ?_
  have hE : (envOf fr Try.prog).Ok := envOf_ok hP
  have hM := follows_of hP
  have hS : ∀ {draw ops}, statB Try.f69.ntmps draw ops = true → statB (envOf fr Try.prog).fr.N draw ops = true := fun h => by rw [envOf_fr, hN]; exact h
  have h0 : wOp e.op ≤ 1048576 := by simpa only [wEvent] using h
  have h1 : wR e.op.pair.rect ≤ 1048576 := by simp only [wOp] at h0; omega
  have h2 : wQuery e.op.query ≤ 1048576 := by simp only [wOp] at h0; omega
  repeat' (first
    | exact True.intro
    | refine ev_seq ?_
    | ((first | refine vgd_go ?_ | refine ev_region hE hM (hS (by decide +kernel)) ?_ | refine ev_if ?_ | refine end_ret hE rfl rfl ?_ | refine end_norm hE rfl rfl ?_ | refine vcall_A ?_ | refine vcallB_of hP (s_l1In _ _ _) ?_ | refine vcallB_of hP (s_l10NoPair e.op.pair h1) ?_ | refine vcallB_of hP (s_l10NoQuery e.op.query h2) ?_ | refine vcallB_of hP (s_specOpFault e.op _ h0) ?_); simp (maxSteps := 2000000) only [go_sem, hP, ↓reduceIte, Nat.reduceAdd, Nat.reduceMul, Nat.reduceEqDiff, Nat.reduceSub, Nat.reduceLeDiff, reduceCtorEq])
    | refine ev_skip ?_ | refine ev_block ?_ | refine ev_blk ?_ | refine ev_ret ?_ | refine ev_exit ?_ | refine evx_code_ret ?_ | refine evx_blk_ret ?_ | refine evx_lp_ret ?_
    | refine evx_code_exit ?_ | refine evx_lp_exit ?_ | refine evx_blk_hit ?_ | refine evx_blk_pass (by decide) ?_
    | refine And.intro ?_ ?_ | intro _ | decide +kernel | omega)
  all_goals first
    | (simp_all [evf]; done)
    | (simp [evf] at *; grind)
theorem l_EventFault (a : Event) (b : Int) : Sat Try.prog 14 [aEvent a, aI b] true (rB true) := by
  refine sat_walk (fn := Try.f14) rfl rfl rfl (Nat.le_of_ble_eq_true rfl) fun fr hP hN hbnd => ?_
  have hE : (envOf fr Try.prog).Ok := envOf_ok hP
  have hM := follows_of hP
  have hS : ∀ {draw ops}, statB Try.f14.ntmps draw ops = true → statB (envOf fr Try.prog).fr.N draw ops = true := fun h => by rw [envOf_fr, hN]; exact h
  repeat' (first
    | exact True.intro
    | refine ev_seq ?_
    | ((first | refine vgd_go ?_ | refine ev_region hE hM (hS (by decide +kernel)) ?_ | refine ev_if ?_ | refine end_ret hE rfl rfl ?_ | refine end_norm hE rfl rfl ?_ | refine vcall_A ?_ | refine vcallB_of hP (s_szEvent a _ (by omega) (by omega)) ?_ | refine vcallB_of hP (s_toEvent a (by simp only [lessN] at *; omega)) ?_ | refine vcallB_of hP (s_specEventFault a b (by simp only [lessN] at *; omega)) ?_ | refine vcallB_of hP (s_implEventFault a b) ?_ | refine vcallB_of hP (s_eqEvent a a) ?_); simp (maxSteps := 2000000) only [go_sem, hP, ↓reduceIte, Nat.reduceAdd, Nat.reduceMul, Nat.reduceEqDiff, Nat.reduceSub, Nat.reduceLeDiff, reduceCtorEq])
    | refine ev_skip ?_ | refine ev_block ?_ | refine ev_blk ?_ | refine ev_ret ?_ | refine ev_exit ?_ | refine evx_code_ret ?_ | refine evx_blk_ret ?_ | refine evx_lp_ret ?_
    | refine evx_code_exit ?_ | refine evx_lp_exit ?_ | refine evx_blk_hit ?_ | refine evx_blk_pass (by decide) ?_
    | refine And.intro ?_ ?_ | intro _ | decide +kernel | omega)
  all_goals simp_all
theorem all_EventFault (gs : List Arg) (h : shpA Try.prog 12 [114, 2] gs) : Sat Try.prog 14 gs true (rB true) := by
  obtain ⟨x0, gs, rfl, h0, x1, gs, rfl, h1, rfl⟩ := h
  obtain ⟨a, rfl⟩ := shp_Event (n := 5) rfl h0
  obtain ⟨b, rfl, _⟩ := shp_i64 (n := 11) rfl h1
  exact l_EventFault a b
theorem lifted_FnExactEventFault (os : Os) (started : os.Started) (H : Type) (enc : TypeId × Value → H) :
    ReturnsInHanded {} Try.checked os 14 .any (Rows.fnExactEventFaultSpec.pre6 enc Try.prog Try.f14 Rows.fnExactEventFaultRow.domain false) (Rows.fnExactEventFaultSpec.post enc Try.prog Try.f14 false true false false) :=
  row_true (C := Try.checked) (tb := 4) (by kernel_rfl) started (by kernel_rfl) Try.func14
    (ChangeSpec.witness6 (enc := enc) (C := Try.checked) false ⟨#[], #[.agg #[.bool false, .int .i64 0, .int .i64 0, .int .i64 0, .slice none 0 0, .slice none 0 0, .int .i64 0, .slice none 0 0, .slice none 0 0, .slice none 0 0, .int .i64 0], .int .i64 0], []⟩ 12 (by kernel_rfl) (by kernel_rfl) (by kernel_rfl) (by kernel_rfl))
    12 (by kernel_rfl) rfl rfl rfl (fun ds h => match ds, h with | [_, _], _ => ⟨rfl, rfl, rfl⟩) all_EventFault
theorem law_FnExactEventFault : Rows.fnExactEventFaultRow.holds Try.pinned (OpenSpec.ofChange Rows.fnExactEventFaultSpec) :=
  OpenClaim.holds_of_wide 14 Try.f14 rfl rfl rfl rfl rfl rfl rfl ⟨rfl, rfl, rfl, rfl, rfl⟩ rfl rfl rfl rfl rfl (by kernel_rfl) Try.func14 (by kernel_rfl)
    (of_decide_eq_true (by kernel_rfl)) (by unfold Func.isWrapper; first | (rw [if_pos (by decide +kernel)]; kernel_rfl) | (rw [if_neg (by decide +kernel)]; exact ⟨rfl, rfl⟩))
    (fun os started H enc _ => lifted_FnExactEventFault os started H enc)
end Go.Proofs.Ytcnodghbkoeohaa.W
namespace Go.Proofs.Ytcnodghbkoeohaa
theorem FnExactEventFault_holds : Rows.FnExactEventFaultSaid := W.law_FnExactEventFault
#print axioms FnExactEventFault_holds
end Go.Proofs.Ytcnodghbkoeohaa
