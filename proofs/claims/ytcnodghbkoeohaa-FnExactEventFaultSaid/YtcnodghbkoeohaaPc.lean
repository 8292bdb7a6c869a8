/- Contracts of functions that the statements of this seat reach: what each returns; it writes to nothing of old. No condition but those that each theorem states. -/
import Derived.Test.YtcnodghbkoeohaaPb
open Go Go.Vm Go.Proofs Go.IntWalk Go.RowKit
set_option maxRecDepth 100000
set_option maxHeartbeats 4000000
set_option linter.unusedSimpArgs false
set_option linter.unusedVariables false
set_option linter.unusedSectionVars false
namespace Go.Proofs.Ytcnodghbkoeohaa.W
attribute [local irreducible] kJ ev evx vops vstep vgo vgd vget vcall vcallFn vcallA vcallB vts vres vcond
theorem s_toNodeS (xs : List Node) (h : wNodeS xs ≤ 1048576) : Sat Try.prog 28 [aNodeS xs] true (rNodeS xs) := by
  refine sat_walk (fn := Try.f28) rfl rfl rfl (Nat.le_of_ble_eq_true rfl) fun fr hP hN hbnd => ?_
  have hE : (envOf fr Try.prog).Ok := envOf_ok hP
  have hM := follows_of hP
  have hS : ∀ {draw ops}, statB Try.f28.ntmps draw ops = true → statB (envOf fr Try.prog).fr.N draw ops = true := fun h => by rw [envOf_fr, hN]; exact h
  have hx : xs.length ≤ 1048576 := by unfold wNodeS at h; omega
  have hw : ∀ k, k < xs.length → wNode (xs.getD k default) ≤ 1048576 := fun k hk => by
    have := sumW_get (w := wNode) (d := default) hk; unfold wNodeS at h; omega
  repeat' (first
    | exact True.intro
    | refine ev_seq ?_
    | ((first | refine vgd_go ?_ | refine ev_region hE hM (hS (by decide +kernel)) ?_ | refine ev_if ?_ | refine end_ret hE rfl rfl ?_ | refine end_norm hE rfl rfl ?_ | refine vcall_A ?_); simp (maxSteps := 2000000) only [go_sem, hP, ↓reduceIte, Nat.reduceAdd, Nat.reduceMul, Nat.reduceEqDiff, Nat.reduceSub, Nat.reduceLeDiff, reduceCtorEq])
    | refine ev_skip ?_ | refine ev_block ?_ | refine ev_blk ?_ | refine ev_ret ?_ | refine ev_exit ?_ | refine evx_code_ret ?_ | refine evx_blk_ret ?_ | refine evx_lp_ret ?_
    | refine evx_code_exit ?_ | refine evx_lp_exit ?_ | refine evx_blk_hit ?_ | refine evx_blk_pass (by decide) ?_
    | refine And.intro ?_ ?_ | intro _ | decide +kernel | omega)
  refine ev_loop (ι := Nat) (fun k => [(0, .c (sNodeS xs)), (3, .ref 4112), (4, .c (.int .i64 k))]) (fun k => [(4112, .arr true 78 4 ((mix xs ⟨0, 0, 0, []⟩ k).map oNode))]) (fun _ => []) (fun k => k ≤ xs.length) (fun k => xs.length - k) 0 [] (by simp) (by simp only [go_sem, hP, ↓reduceIte, Nat.reduceAdd, Nat.reduceMul, Nat.reduceEqDiff, Nat.reduceSub, Nat.reduceLeDiff, reduceCtorEq]; simp [mix_zero, oNode]) ?_
  intro k hk
  repeat' (first
    | exact True.intro
    | refine ev_seq ?_
    | ((first | refine vgd_go ?_ | refine ev_region hE hM (hS (by decide +kernel)) ?_ | refine ev_if ?_ | refine end_ret hE rfl rfl ?_ | refine end_norm hE rfl rfl ?_ | refine vcall_A ?_ | refine vcallB_of hP (s_toNode (xs.getD k default) (hw k (by omega))) ?_); simp (maxSteps := 2000000) only [go_sem, hP, ↓reduceIte, Nat.reduceAdd, Nat.reduceMul, Nat.reduceEqDiff, Nat.reduceSub, Nat.reduceLeDiff, reduceCtorEq, mix_length hk])
    | refine ev_skip ?_ | refine ev_block ?_ | refine ev_blk ?_ | refine ev_ret ?_ | refine ev_exit ?_ | refine evx_code_ret ?_ | refine evx_blk_ret ?_ | refine evx_lp_ret ?_
    | refine evx_code_exit ?_ | refine evx_lp_exit ?_ | refine evx_blk_hit ?_ | refine evx_blk_pass (by decide) ?_
    | refine And.intro ?_ ?_ | intro _ | decide +kernel | omega)
  · exact ev_lp (k + 1) [] (by omega) (by omega) (by simp only [go_sem, hP, ↓reduceIte, Nat.reduceAdd, Nat.reduceMul, Nat.reduceEqDiff, Nat.reduceSub, Nat.reduceLeDiff, reduceCtorEq]; simp; exact ⟨wrap_succ (by omega) hx, mix_set_map (f := oNode) (by omega)⟩)
  · rw [mix_full (by omega)]
theorem s_szNodeS (xs : List Node) (left : Int) (h0 : 0 ≤ left) (h1 : left ≤ 1048576) : Sat Try.prog 26 [aNodeS xs, aI left] true (rI (lessN (wNodeS xs) left)) := by
  refine sat_walk (fn := Try.f26) rfl rfl rfl (Nat.le_of_ble_eq_true rfl) fun fr hP hN hbnd => ?_
  have hE : (envOf fr Try.prog).Ok := envOf_ok hP
  have hM := follows_of hP
  have hS : ∀ {draw ops}, statB Try.f26.ntmps draw ops = true → statB (envOf fr Try.prog).fr.N draw ops = true := fun h => by rw [envOf_fr, hN]; exact h
  have hlen := bnd_NodeS hbnd
  have hm : maxLen = 9223372036854775807 := rfl
  have hw : IntKind.i64.wrap (left - xs.length) = left - xs.length := i64_in _ (by omega)
  repeat' (first
    | exact True.intro
    | refine ev_seq ?_
    | ((first | refine vgd_go ?_ | refine ev_region hE hM (hS (by decide +kernel)) ?_ | refine ev_if ?_ | refine end_ret hE rfl rfl ?_ | refine end_norm hE rfl rfl ?_ | refine vcall_A ?_); simp (maxSteps := 2000000) only [go_sem, hP, ↓reduceIte, Nat.reduceAdd, Nat.reduceMul, Nat.reduceEqDiff, Nat.reduceSub, Nat.reduceLeDiff, reduceCtorEq, hw])
    | refine ev_skip ?_ | refine ev_block ?_ | refine ev_blk ?_ | refine ev_ret ?_ | refine ev_exit ?_ | refine evx_code_ret ?_ | refine evx_blk_ret ?_ | refine evx_lp_ret ?_
    | refine evx_code_exit ?_ | refine evx_lp_exit ?_ | refine evx_blk_hit ?_ | refine evx_blk_pass (by decide) ?_
    | refine And.intro ?_ ?_ | intro _ | decide +kernel | omega)
  · rename_i h; simp only [lessN, wNodeS] at *; omega
  rename_i h
  refine ev_loop (ι := Nat) (fun k => [(0, .c (sNodeS xs)), (1, .c (.int .i64 (left - xs.length - sumW wNode (xs.take k)))), (5, .c (.int .i64 k))]) (fun k => []) (fun _ => []) (fun k => k ≤ xs.length ∧ (0 : Int) ≤ left - xs.length - sumW wNode (xs.take k)) (fun k => xs.length - k) 0 [] (by simp [allLt_zero] <;> omega) (by simp only [go_sem, hP, ↓reduceIte, Nat.reduceAdd, Nat.reduceMul, Nat.reduceEqDiff, Nat.reduceSub, Nat.reduceLeDiff, reduceCtorEq]; simp) ?_
  intro k hk
  have hstep := fun h : k < xs.length => sumW_step (w := wNode) (d := default) h
  have hle := sumW_le (w := wNode) (xs := xs) (k + 1)
  repeat' (first
    | exact True.intro
    | refine ev_seq ?_
    | ((first | refine vgd_go ?_ | refine ev_region hE hM (hS (by decide +kernel)) ?_ | refine ev_if ?_ | refine end_ret hE rfl rfl ?_ | refine end_norm hE rfl rfl ?_ | refine vcall_A ?_ | refine vcallB_of hP (s_szNode (xs.getD k default) _ hk.2 (by omega)) ?_); simp (maxSteps := 2000000) only [go_sem, hP, ↓reduceIte, Nat.reduceAdd, Nat.reduceMul, Nat.reduceEqDiff, Nat.reduceSub, Nat.reduceLeDiff, reduceCtorEq])
    | refine ev_skip ?_ | refine ev_block ?_ | refine ev_blk ?_ | refine ev_ret ?_ | refine ev_exit ?_ | refine evx_code_ret ?_ | refine evx_blk_ret ?_ | refine evx_lp_ret ?_
    | refine evx_code_exit ?_ | refine evx_lp_exit ?_ | refine evx_blk_hit ?_ | refine evx_blk_pass (by decide) ?_
    | refine And.intro ?_ ?_ | intro _ | decide +kernel | omega)
  · have := hstep (by omega)
    simp only [lessN, wNodeS] at *; omega
  · rename_i hk1 hk2
    have h8 := hstep (by omega)
    have h9 : lessN (wNode (xs.getD k default)) (left - xs.length - sumW wNode (xs.take k)) = left - xs.length - sumW wNode (xs.take (k + 1)) := by simp only [lessN] at *; omega
    refine ev_lp (k + 1) [] ⟨by omega, by rw [← h9]; omega⟩ (by omega) (by simp only [go_sem, hP, ↓reduceIte, Nat.reduceAdd, Nat.reduceMul, Nat.reduceEqDiff, Nat.reduceSub, Nat.reduceLeDiff, reduceCtorEq, h9]; simp; exact wrap_nat (by omega) hlen)
  · rw [sumW_done (by omega)] at hk ⊢
    simp only [lessN, wNodeS] at *; omega
theorem s_eqNodeS (xs ys : List Node) : Sat Try.prog 30 [aNodeS xs, aNodeS ys] true (rB (decide (xs = ys))) := by
  refine sat_walk (fn := Try.f30) rfl rfl rfl (Nat.le_of_ble_eq_true rfl) fun fr hP hN hbnd => ?_
  have hE : (envOf fr Try.prog).Ok := envOf_ok hP
  have hM := follows_of hP
  have hS : ∀ {draw ops}, statB Try.f30.ntmps draw ops = true → statB (envOf fr Try.prog).fr.N draw ops = true := fun h => by rw [envOf_fr, hN]; exact h
  have hlen := bnd_NodeS hbnd
  repeat' (first
    | exact True.intro
    | refine ev_seq ?_
    | ((first | refine vgd_go ?_ | refine ev_region hE hM (hS (by decide +kernel)) ?_ | refine ev_if ?_ | refine end_ret hE rfl rfl ?_ | refine end_norm hE rfl rfl ?_ | refine vcall_A ?_); simp (maxSteps := 2000000) only [go_sem, hP, ↓reduceIte, Nat.reduceAdd, Nat.reduceMul, Nat.reduceEqDiff, Nat.reduceSub, Nat.reduceLeDiff, reduceCtorEq])
    | refine ev_skip ?_ | refine ev_block ?_ | refine ev_blk ?_ | refine ev_ret ?_ | refine ev_exit ?_ | refine evx_code_ret ?_ | refine evx_blk_ret ?_ | refine evx_lp_ret ?_
    | refine evx_code_exit ?_ | refine evx_lp_exit ?_ | refine evx_blk_hit ?_ | refine evx_blk_pass (by decide) ?_
    | refine And.intro ?_ ?_ | intro _ | decide +kernel | omega)
  · rename_i h; simp at h; simp; rintro rfl; exact h rfl
  rename_i h; simp at h
  refine ev_loop (ι := Nat) (fun k => [(0, .c (sNodeS xs)), (1, .c (sNodeS ys)), (5, .c (.int .i64 k))]) (fun k => []) (fun _ => []) (fun k => k ≤ xs.length ∧ xs.take k = ys.take k) (fun k => xs.length - k) 0 [] (by simp [allLt_zero] <;> omega) (by simp only [go_sem, hP, ↓reduceIte, Nat.reduceAdd, Nat.reduceMul, Nat.reduceEqDiff, Nat.reduceSub, Nat.reduceLeDiff, reduceCtorEq]; simp) ?_
  intro k hk
  repeat' (first
    | exact True.intro
    | refine ev_seq ?_
    | ((first | refine vgd_go ?_ | refine ev_region hE hM (hS (by decide +kernel)) ?_ | refine ev_if ?_ | refine end_ret hE rfl rfl ?_ | refine end_norm hE rfl rfl ?_ | refine vcall_A ?_ | refine vcallB_of hP (s_eqNode (xs.getD k default) (ys.getD k default)) ?_); simp (maxSteps := 2000000) only [go_sem, hP, ↓reduceIte, Nat.reduceAdd, Nat.reduceMul, Nat.reduceEqDiff, Nat.reduceSub, Nat.reduceLeDiff, reduceCtorEq])
    | refine ev_skip ?_ | refine ev_block ?_ | refine ev_blk ?_ | refine ev_ret ?_ | refine ev_exit ?_ | refine evx_code_ret ?_ | refine evx_blk_ret ?_ | refine evx_lp_ret ?_
    | refine evx_code_exit ?_ | refine evx_lp_exit ?_ | refine evx_blk_hit ?_ | refine evx_blk_pass (by decide) ?_
    | refine And.intro ?_ ?_ | intro _ | decide +kernel | omega)
  · rename_i h3; simp at h3; simp; exact eq_not (by simpa using h3)
  · rename_i h3 h4; simp at h4
    exact ev_lp (k + 1) [] ⟨by omega, eq_step (d := default) (e := default) (by omega) (by omega) hk.2 (by simpa using h4)⟩ (by omega) (by simp only [go_sem, hP, ↓reduceIte, Nat.reduceAdd, Nat.reduceMul, Nat.reduceEqDiff, Nat.reduceSub, Nat.reduceLeDiff, reduceCtorEq]; simp; exact wrap_nat (by omega) hlen)
  · simp; exact eq_done (by omega) (by omega) hk.2
theorem shp_NodeS {n t : Nat} {cs : List C} (ht : Try.prog.underlying t = some (.slice 74)) (h : shp Try.prog (n + 7) t cs) : ∃ xs, cs = [sNodeS xs] := by
  obtain ⟨xs, rfl, _⟩ := shp_rows (f := eNode) (q := fun _ => True) (sz := 4) ht rfl (fun x hx => by obtain ⟨p, rfl⟩ := shp_Node (n := n) rfl hx; exact ⟨p, rfl, trivial⟩) h
  exact ⟨xs, rfl⟩
structure Op where
  kind : Int
  pair : Pair
  query : Query
  deriving DecidableEq, Inhabited
def eOp (x : Op) : List C := [.int .i64 x.kind, .int .i64 x.pair.id, sI x.pair.rect.low, sI x.pair.rect.high, .int .i64 x.query.kind, sI x.query.rect.low, sI x.query.rect.high, sI x.query.point, .int .i64 x.query.k]
def oOp (x : Op) : List C := [.int .i64 x.kind, .int .i64 x.pair.id, oI x.pair.rect.low, oI x.pair.rect.high, .int .i64 x.query.kind, oI x.query.rect.low, oI x.query.rect.high, oI x.query.point, .int .i64 x.query.k]
@[go_sem] theorem eOp_eq (x : Op) : eOp x = [.int .i64 x.kind, .int .i64 x.pair.id, sI x.pair.rect.low, sI x.pair.rect.high, .int .i64 x.query.kind, sI x.query.rect.low, sI x.query.rect.high, sI x.query.point, .int .i64 x.query.k] := rfl
@[go_sem] theorem oOp_eq (x : Op) : oOp x = [.int .i64 x.kind, .int .i64 x.pair.id, oI x.pair.rect.low, oI x.pair.rect.high, .int .i64 x.query.kind, oI x.query.rect.low, oI x.query.rect.high, oI x.query.point, .int .i64 x.query.k] := rfl
theorem stripC_oOp (x : Op) : Cs.strip (oOp x) = eOp x := by simp [oOp, eOp, Cs.strip, C.strip, strip_eI]
theorem stripC_eOp (x : Op) : Cs.strip (eOp x) = eOp x := by simp [eOp, Cs.strip, C.strip, strip_eI]
@[go_sem] theorem strip_oOp (xs : List Op) : Es.strip (xs.map oOp) = xs.map eOp := by rw [Es.strip_map]; simp [Function.comp_def, stripC_oOp]
@[go_sem] theorem strip_eOp (xs : List Op) : Es.strip (xs.map eOp) = xs.map eOp := by rw [Es.strip_map]; simp [Function.comp_def, stripC_eOp]
@[go_sem] abbrev aOp (x : Op) : Arg := .d (true, eOp x)
@[go_sem] abbrev pOp (x : Op) : Arg := .pv (eOp x)
@[go_sem] abbrev rOp (x : Op) : List Dat := [(true, oOp x)]
theorem bnd_Op {x : Op} {gs : List Arg} (h : Args.bnd (aOp x :: gs)) : x.pair.rect.low.length ≤ maxLen ∧ x.pair.rect.high.length ≤ maxLen ∧ x.query.rect.low.length ≤ maxLen ∧ x.query.rect.high.length ≤ maxLen ∧ x.query.point.length ≤ maxLen := by
  have h0 := h.1.2.2.1.1; rw [List.length_map] at h0
  have h1 := h.1.2.2.2.1.1; rw [List.length_map] at h1
  have h2 := h.1.2.2.2.2.2.1.1; rw [List.length_map] at h2
  have h3 := h.1.2.2.2.2.2.2.1.1; rw [List.length_map] at h3
  have h4 := h.1.2.2.2.2.2.2.2.1.1; rw [List.length_map] at h4
  exact ⟨h0, h1, h2, h3, h4⟩
theorem bndp_Op {x : Op} {gs : List Arg} (h : Args.bnd (pOp x :: gs)) : x.pair.rect.low.length ≤ maxLen ∧ x.pair.rect.high.length ≤ maxLen ∧ x.query.rect.low.length ≤ maxLen ∧ x.query.rect.high.length ≤ maxLen ∧ x.query.point.length ≤ maxLen := by
  have h0 := h.1.2.2.1.1; rw [List.length_map] at h0
  have h1 := h.1.2.2.2.1.1; rw [List.length_map] at h1
  have h2 := h.1.2.2.2.2.2.1.1; rw [List.length_map] at h2
  have h3 := h.1.2.2.2.2.2.2.1.1; rw [List.length_map] at h3
  have h4 := h.1.2.2.2.2.2.2.2.1.1; rw [List.length_map] at h4
  exact ⟨h0, h1, h2, h3, h4⟩
theorem eqOp (a b : Op) : a = b ↔ a.kind = b.kind ∧ a.pair = b.pair ∧ a.query = b.query := by cases a; cases b; simp
def wOp (x : Op) : Nat := wR x.pair.rect + wQuery x.query
theorem s_toOp (x : Op) (h : wOp x ≤ 1048576) : Sat Try.prog 53 [aOp x] true (rOp x) := by
  refine sat_walk (fn := Try.f53) rfl rfl rfl (Nat.le_of_ble_eq_true rfl) fun fr hP hN hbnd => ?_
  have hE : (envOf fr Try.prog).Ok := envOf_ok hP
  have hM := follows_of hP
  have hS : ∀ {draw ops}, statB Try.f53.ntmps draw ops = true → statB (envOf fr Try.prog).fr.N draw ops = true := fun h => by rw [envOf_fr, hN]; exact h
  simp only [wOp] at h
  repeat' (first
    | exact True.intro
    | refine ev_seq ?_
    | ((first | refine vgd_go ?_ | refine ev_region hE hM (hS (by decide +kernel)) ?_ | refine ev_if ?_ | refine end_ret hE rfl rfl ?_ | refine end_norm hE rfl rfl ?_ | refine vcall_A ?_ | refine vcallB_of hP (s_toPair x.pair (by omega)) ?_ | refine vcallB_of hP (s_toQuery x.query (by omega)) ?_); simp (maxSteps := 2000000) only [go_sem, hP, ↓reduceIte, Nat.reduceAdd, Nat.reduceMul, Nat.reduceEqDiff, Nat.reduceSub, Nat.reduceLeDiff, reduceCtorEq])
    | refine ev_skip ?_ | refine ev_block ?_ | refine ev_blk ?_ | refine ev_ret ?_ | refine ev_exit ?_ | refine evx_code_ret ?_ | refine evx_blk_ret ?_ | refine evx_lp_ret ?_
    | refine evx_code_exit ?_ | refine evx_lp_exit ?_ | refine evx_blk_hit ?_ | refine evx_blk_pass (by decide) ?_
    | refine And.intro ?_ ?_ | intro _ | decide +kernel | omega)
theorem s_szOp (x : Op) (left : Int) (h0 : 0 ≤ left) (h1 : left ≤ 1048576) : Sat Try.prog 51 [aOp x, aI left] true (rI (lessN (wOp x) left)) := by
  refine sat_walk (fn := Try.f51) rfl rfl rfl (Nat.le_of_ble_eq_true rfl) fun fr hP hN hbnd => ?_
  have hE : (envOf fr Try.prog).Ok := envOf_ok hP
  have hM := follows_of hP
  have hS : ∀ {draw ops}, statB Try.f51.ntmps draw ops = true → statB (envOf fr Try.prog).fr.N draw ops = true := fun h => by rw [envOf_fr, hN]; exact h
  repeat' (first
    | exact True.intro
    | refine ev_seq ?_
    | ((first | refine vgd_go ?_ | refine ev_region hE hM (hS (by decide +kernel)) ?_ | refine ev_if ?_ | refine end_ret hE rfl rfl ?_ | refine end_norm hE rfl rfl ?_ | refine vcall_A ?_ | refine vcallB_of hP (s_szPair x.pair _ (by (try simp only [lessN] at *); omega) (by (try simp only [lessN] at *); omega)) ?_ | refine vcallB_of hP (s_szQuery x.query _ (by (try simp only [lessN] at *); omega) (by (try simp only [lessN] at *); omega)) ?_); simp (maxSteps := 2000000) only [go_sem, hP, ↓reduceIte, Nat.reduceAdd, Nat.reduceMul, Nat.reduceEqDiff, Nat.reduceSub, Nat.reduceLeDiff, reduceCtorEq])
    | refine ev_skip ?_ | refine ev_block ?_ | refine ev_blk ?_ | refine ev_ret ?_ | refine ev_exit ?_ | refine evx_code_ret ?_ | refine evx_blk_ret ?_ | refine evx_lp_ret ?_
    | refine evx_code_exit ?_ | refine evx_lp_exit ?_ | refine evx_blk_hit ?_ | refine evx_blk_pass (by decide) ?_
    | refine And.intro ?_ ?_ | intro _ | decide +kernel | omega)
  all_goals simp_all only [lessN, wOp]
  all_goals omega
theorem s_eqOp (a b : Op) : Sat Try.prog 55 [aOp a, aOp b] true (rB (decide (a = b))) := by
  refine sat_walk (fn := Try.f55) rfl rfl rfl (Nat.le_of_ble_eq_true rfl) fun fr hP hN hbnd => ?_
  have hE : (envOf fr Try.prog).Ok := envOf_ok hP
  have hM := follows_of hP
  have hS : ∀ {draw ops}, statB Try.f55.ntmps draw ops = true → statB (envOf fr Try.prog).fr.N draw ops = true := fun h => by rw [envOf_fr, hN]; exact h
  repeat' (first
    | exact True.intro
    | refine ev_seq ?_
    | ((first | refine vgd_go ?_ | refine ev_region hE hM (hS (by decide +kernel)) ?_ | refine ev_if ?_ | refine end_ret hE rfl rfl ?_ | refine end_norm hE rfl rfl ?_ | refine vcall_A ?_ | refine vcallB_of hP (s_eqPair a.pair b.pair) ?_ | refine vcallB_of hP (s_eqQuery a.query b.query) ?_); simp (maxSteps := 2000000) only [go_sem, hP, ↓reduceIte, Nat.reduceAdd, Nat.reduceMul, Nat.reduceEqDiff, Nat.reduceSub, Nat.reduceLeDiff, reduceCtorEq])
    | refine ev_skip ?_ | refine ev_block ?_ | refine ev_blk ?_ | refine ev_ret ?_ | refine ev_exit ?_ | refine evx_code_ret ?_ | refine evx_blk_ret ?_ | refine evx_lp_ret ?_
    | refine evx_code_exit ?_ | refine evx_lp_exit ?_ | refine evx_blk_hit ?_ | refine evx_blk_pass (by decide) ?_
    | refine And.intro ?_ ?_ | intro _ | decide +kernel | omega)
  all_goals simp_all [eqOp]
theorem shp_Op {n t : Nat} {cs : List C} (ht : (Try.prog.underlying t).bind fieldTs = some [2, 83, 55]) (h : shp Try.prog (n + 6) t cs) : ∃ x, cs = eOp x := by
  obtain ⟨c0, g0, rfl, h0, c1, g1, rfl, h1, c2, g2, rfl, h2, rfl⟩ := shp_struct ht h
  obtain ⟨v0, rfl, _⟩ := shp_i64 (n := n + 4) rfl h0
  obtain ⟨v1, rfl⟩ := shp_P (n := n + 0) rfl h1
  obtain ⟨v2, rfl⟩ := shp_Query (n := n + 1) rfl h2
  exact ⟨⟨v0, v1, v2⟩, rfl⟩
structure Event where
  begins : Bool
  client : Int
  op : Op
  deriving DecidableEq, Inhabited
def eEvent (x : Event) : List C := [.bool x.begins, .int .i64 x.client, .int .i64 x.op.kind, .int .i64 x.op.pair.id, sI x.op.pair.rect.low, sI x.op.pair.rect.high, .int .i64 x.op.query.kind, sI x.op.query.rect.low, sI x.op.query.rect.high, sI x.op.query.point, .int .i64 x.op.query.k]
def oEvent (x : Event) : List C := [.bool x.begins, .int .i64 x.client, .int .i64 x.op.kind, .int .i64 x.op.pair.id, oI x.op.pair.rect.low, oI x.op.pair.rect.high, .int .i64 x.op.query.kind, oI x.op.query.rect.low, oI x.op.query.rect.high, oI x.op.query.point, .int .i64 x.op.query.k]
@[go_sem] theorem eEvent_eq (x : Event) : eEvent x = [.bool x.begins, .int .i64 x.client, .int .i64 x.op.kind, .int .i64 x.op.pair.id, sI x.op.pair.rect.low, sI x.op.pair.rect.high, .int .i64 x.op.query.kind, sI x.op.query.rect.low, sI x.op.query.rect.high, sI x.op.query.point, .int .i64 x.op.query.k] := rfl
@[go_sem] theorem oEvent_eq (x : Event) : oEvent x = [.bool x.begins, .int .i64 x.client, .int .i64 x.op.kind, .int .i64 x.op.pair.id, oI x.op.pair.rect.low, oI x.op.pair.rect.high, .int .i64 x.op.query.kind, oI x.op.query.rect.low, oI x.op.query.rect.high, oI x.op.query.point, .int .i64 x.op.query.k] := rfl
theorem stripC_oEvent (x : Event) : Cs.strip (oEvent x) = eEvent x := by simp [oEvent, eEvent, Cs.strip, C.strip, strip_eI]
theorem stripC_eEvent (x : Event) : Cs.strip (eEvent x) = eEvent x := by simp [eEvent, Cs.strip, C.strip, strip_eI]
@[go_sem] theorem strip_oEvent (xs : List Event) : Es.strip (xs.map oEvent) = xs.map eEvent := by rw [Es.strip_map]; simp [Function.comp_def, stripC_oEvent]
@[go_sem] theorem strip_eEvent (xs : List Event) : Es.strip (xs.map eEvent) = xs.map eEvent := by rw [Es.strip_map]; simp [Function.comp_def, stripC_eEvent]
@[go_sem] abbrev aEvent (x : Event) : Arg := .d (true, eEvent x)
@[go_sem] abbrev pEvent (x : Event) : Arg := .pv (eEvent x)
@[go_sem] abbrev rEvent (x : Event) : List Dat := [(true, oEvent x)]
theorem bnd_Event {x : Event} {gs : List Arg} (h : Args.bnd (aEvent x :: gs)) : x.op.pair.rect.low.length ≤ maxLen ∧ x.op.pair.rect.high.length ≤ maxLen ∧ x.op.query.rect.low.length ≤ maxLen ∧ x.op.query.rect.high.length ≤ maxLen ∧ x.op.query.point.length ≤ maxLen := by
  have h0 := h.1.2.2.2.2.1.1; rw [List.length_map] at h0
  have h1 := h.1.2.2.2.2.2.1.1; rw [List.length_map] at h1
  have h2 := h.1.2.2.2.2.2.2.2.1.1; rw [List.length_map] at h2
  have h3 := h.1.2.2.2.2.2.2.2.2.1.1; rw [List.length_map] at h3
  have h4 := h.1.2.2.2.2.2.2.2.2.2.1.1; rw [List.length_map] at h4
  exact ⟨h0, h1, h2, h3, h4⟩
theorem bndp_Event {x : Event} {gs : List Arg} (h : Args.bnd (pEvent x :: gs)) : x.op.pair.rect.low.length ≤ maxLen ∧ x.op.pair.rect.high.length ≤ maxLen ∧ x.op.query.rect.low.length ≤ maxLen ∧ x.op.query.rect.high.length ≤ maxLen ∧ x.op.query.point.length ≤ maxLen := by
  have h0 := h.1.2.2.2.2.1.1; rw [List.length_map] at h0
  have h1 := h.1.2.2.2.2.2.1.1; rw [List.length_map] at h1
  have h2 := h.1.2.2.2.2.2.2.2.1.1; rw [List.length_map] at h2
  have h3 := h.1.2.2.2.2.2.2.2.2.1.1; rw [List.length_map] at h3
  have h4 := h.1.2.2.2.2.2.2.2.2.2.1.1; rw [List.length_map] at h4
  exact ⟨h0, h1, h2, h3, h4⟩
theorem eqEvent (a b : Event) : a = b ↔ a.begins = b.begins ∧ a.client = b.client ∧ a.op = b.op := by cases a; cases b; simp
def wEvent (x : Event) : Nat := wOp x.op
def boxed (k : Int) : Bool := decide (k = 1) || decide (k = 2)
def qForm (q : Query) : Bool := inB q.kind 1 4 && !(boxed q.kind && decide (0 < q.point.length)) && !(!boxed q.kind && decide (0 < q.rect.low.length + q.rect.high.length)) && !(decide (q.kind ≠ 4) && decide (q.k ≠ 0))
def qf (q : Query) (d : Int) : Int := if inB d 2 3 = false then 3 else if qForm q = false then 1 else if boxed q.kind then rf q.rect d else if pf q.point d ≠ 0 then pf q.point d else if (decide (q.kind = 4) && !inB q.k 1 20) then 3 else 0
theorem s_hasRect (k : Int) : Sat Try.prog 156 [aI k] true (rB (boxed k)) := by
  refine sat_walk (fn := Try.f156) rfl rfl rfl (Nat.le_of_ble_eq_true rfl) fun fr hP hN hbnd => ?_
  have hE : (envOf fr Try.prog).Ok := envOf_ok hP
  have hM := follows_of hP
  have hS : ∀ {draw ops}, statB Try.f156.ntmps draw ops = true → statB (envOf fr Try.prog).fr.N draw ops = true := fun h => by rw [envOf_fr, hN]; exact h
  repeat' (first
    | exact True.intro
    | refine ev_seq ?_
    | ((first | refine vgd_go ?_ | refine ev_region hE hM (hS (by decide +kernel)) ?_ | refine ev_if ?_ | refine end_ret hE rfl rfl ?_ | refine end_norm hE rfl rfl ?_ | refine vcall_A ?_); simp (maxSteps := 2000000) only [go_sem, hP, ↓reduceIte, Nat.reduceAdd, Nat.reduceMul, Nat.reduceEqDiff, Nat.reduceSub, Nat.reduceLeDiff, reduceCtorEq])
    | refine ev_skip ?_ | refine ev_block ?_ | refine ev_blk ?_ | refine ev_ret ?_ | refine ev_exit ?_ | refine evx_code_ret ?_ | refine evx_blk_ret ?_ | refine evx_lp_ret ?_
    | refine evx_code_exit ?_ | refine evx_lp_exit ?_ | refine evx_blk_hit ?_ | refine evx_blk_pass (by decide) ?_
    | refine And.intro ?_ ?_ | intro _ | decide +kernel | omega)
  all_goals (simp_all [boxed] <;> rfl)
theorem s_specQueryFault (q : Query) (d : Int) (hw : wQuery q ≤ 1048576) : Sat Try.prog 100 [aQuery q, aI d] true (rI (qf q d)) := by
  refine sat_walk (fn := Try.f100) rfl rfl rfl (Nat.le_of_ble_eq_true rfl) fun fr hP hN hbnd => ?_
  have hE : (envOf fr Try.prog).Ok := envOf_ok hP
  have hM := follows_of hP
  have hS : ∀ {draw ops}, statB Try.f100.ntmps draw ops = true → statB (envOf fr Try.prog).fr.N draw ops = true := fun h => by rw [envOf_fr, hN]; exact h
  have hs : IntKind.i64.wrap ((q.rect.low.length : Int) + q.rect.high.length) = q.rect.low.length + q.rect.high.length := i64_in _ (by simp only [wQuery, wR] at hw; omega)
  repeat' (first
    | exact True.intro
    | refine ev_seq ?_
    | ((first | refine ev_regionJ 3 [] [(1, .c (.int .i64 d)), (2, .ptr 0 0), (5, .c (.bool (boxed q.kind)))] [(0, .box [.c (.int .i64 q.kind), .c (sI q.rect.low), .c (sI q.rect.high), .c (sI q.point), .c (.int .i64 q.k)])] [] rfl hE hM (hS (by decide +kernel)) ?_ ?_ | refine vgd_go ?_ | refine ev_region hE hM (hS (by decide +kernel)) ?_ | refine ev_if ?_ | refine end_ret hE rfl rfl ?_ | refine end_norm hE rfl rfl ?_ | refine vcall_A ?_ | refine vcallB_of hP (s_l1In _ _ _) ?_ | refine vcallB_of hP (s_specRectFault q.rect _) ?_ | refine vcallB_of hP (s_specPointFault _ _) ?_); simp (maxSteps := 2000000) only [go_sem, hP, ↓reduceIte, Nat.reduceAdd, Nat.reduceMul, Nat.reduceEqDiff, Nat.reduceSub, Nat.reduceLeDiff, reduceCtorEq, hs])
    | refine ev_skip ?_ | refine ev_block ?_ | refine ev_blk ?_ | refine ev_ret ?_ | refine ev_exit ?_ | refine evx_code_ret ?_ | refine evx_blk_ret ?_ | refine evx_lp_ret ?_
    | refine evx_code_exit ?_ | refine evx_lp_exit ?_ | refine evx_blk_hit ?_ | refine evx_blk_pass (by decide) ?_
    | refine And.intro ?_ ?_ | intro _ | decide +kernel | omega)
  all_goals first
    | rfl
    | (simp_all [qf, qForm, boxed]; done)
    | (simp [qf, qForm, boxed] at *; grind [List.length_eq_zero_iff])
theorem s_implQueryFault (q : Query) (d : Int) : Sat Try.prog 103 [aQuery q, aI d] true (rI (qf q d)) := by
  refine sat_walk (fn := Try.f103) rfl rfl rfl (Nat.le_of_ble_eq_true rfl) fun fr hP hN hbnd => ?_
  have hE : (envOf fr Try.prog).Ok := envOf_ok hP
  have hM := follows_of hP
  have hS : ∀ {draw ops}, statB Try.f103.ntmps draw ops = true → statB (envOf fr Try.prog).fr.N draw ops = true := fun h => by rw [envOf_fr, hN]; exact h
  repeat' (first
    | exact True.intro
    | refine ev_seq ?_
    | ((first | refine vgd_go ?_ | refine ev_region hE hM (hS (by decide +kernel)) ?_ | refine ev_if ?_ | refine end_ret hE rfl rfl ?_ | refine end_norm hE rfl rfl ?_ | refine vcall_A ?_ | refine vcallB_of hP (s_isDims _) ?_ | refine vcallB_of hP (s_within _ _ _) ?_ | refine vcallB_of hP (s_hasRect _) ?_ | refine vcallB_of hP (s_implRectFault q.rect _) ?_ | refine vcallB_of hP (s_implPointFault _ _) ?_); simp (maxSteps := 2000000) only [go_sem, hP, ↓reduceIte, Nat.reduceAdd, Nat.reduceMul, Nat.reduceEqDiff, Nat.reduceSub, Nat.reduceLeDiff, reduceCtorEq])
    | refine ev_skip ?_ | refine ev_block ?_ | refine ev_blk ?_ | refine ev_ret ?_ | refine ev_exit ?_ | refine evx_code_ret ?_ | refine evx_blk_ret ?_ | refine evx_lp_ret ?_
    | refine evx_code_exit ?_ | refine evx_lp_exit ?_ | refine evx_blk_hit ?_ | refine evx_blk_pass (by decide) ?_
    | refine And.intro ?_ ?_ | intro _ | decide +kernel | omega)
  all_goals first
    | rfl
    | (simp_all [qf, qForm, boxed]; done)
    | (simp [qf, qForm, boxed] at *; grind [List.length_eq_zero_iff])
theorem s_EqualFuncEntry (xs ys : List Entry) (sem : List Dat → List Dat → Prop) (hp : ∀ a b, sem [(true, eEntry a), (true, eEntry b)] [(false, [.bool (decide (a = b))])]) :
    Sat Try.prog 147 [aEntryS xs, aEntryS ys, .fn sem] true (rB (decide (xs = ys))) := by
  refine sat_walk (fn := Try.f147) rfl rfl rfl (Nat.le_of_ble_eq_true rfl) fun fr hP hN hbnd => ?_
  have hE : (envOf fr Try.prog).Ok := envOf_ok hP
  have hM := follows_of hP
  have hS : ∀ {draw ops}, statB Try.f147.ntmps draw ops = true → statB (envOf fr Try.prog).fr.N draw ops = true := fun h => by rw [envOf_fr, hN]; exact h
  have hlen := bnd_EntryS hbnd
  repeat' (first
    | exact True.intro
    | refine ev_seq ?_
    | ((first | refine vgd_go ?_ | refine ev_region hE hM (hS (by decide +kernel)) ?_ | refine ev_if ?_ | refine end_ret hE rfl rfl ?_ | refine end_norm hE rfl rfl ?_ | refine vcall_A ?_); simp (maxSteps := 2000000) only [go_sem, hP, ↓reduceIte, Nat.reduceAdd, Nat.reduceMul, Nat.reduceEqDiff, Nat.reduceSub, Nat.reduceLeDiff, reduceCtorEq])
    | refine ev_skip ?_ | refine ev_block ?_ | refine ev_blk ?_ | refine ev_ret ?_ | refine ev_exit ?_ | refine evx_code_ret ?_ | refine evx_blk_ret ?_ | refine evx_lp_ret ?_
    | refine evx_code_exit ?_ | refine evx_lp_exit ?_ | refine evx_blk_hit ?_ | refine evx_blk_pass (by decide) ?_
    | refine And.intro ?_ ?_ | intro _ | decide +kernel | omega)
  · rename_i h; simp at h; simp; rintro rfl; exact h rfl
  rename_i h; simp at h
  refine ev_loop (ι := Nat) (fun k => [(1, .c (sEntryS ys)), (2, .fn sem), (15, .c (sEntryS xs)), (16, .c (.int .i64 xs.length)), (17, .c (.int .i64 k))]) (fun k => []) (fun _ => []) (fun k => k ≤ xs.length ∧ xs.take k = ys.take k) (fun k => xs.length - k) 0 [] (by simp [allLt_zero] <;> omega) (by simp only [go_sem, hP, ↓reduceIte, Nat.reduceAdd, Nat.reduceMul, Nat.reduceEqDiff, Nat.reduceSub, Nat.reduceLeDiff, reduceCtorEq]; simp) ?_
  intro k hk
  repeat' (first
    | exact True.intro
    | refine ev_seq ?_
    | ((first | refine vgd_go ?_ | refine ev_region hE hM (hS (by decide +kernel)) ?_ | refine ev_if ?_ | refine end_ret hE rfl rfl ?_ | refine end_norm hE rfl rfl ?_ | refine vcall_A ?_ | refine vcallFn_of [(true, eEntry (xs.getD k default)), (true, eEntry (ys.getD k default))] [] [(false, [.bool (decide (xs.getD k default = ys.getD k default))])] (by simp only [go_sem, hP, ↓reduceIte, Nat.reduceAdd, Nat.reduceMul, Nat.reduceEqDiff, Nat.reduceSub, Nat.reduceLeDiff, reduceCtorEq]) (hp _ _) ?_); simp (maxSteps := 2000000) only [go_sem, hP, ↓reduceIte, Nat.reduceAdd, Nat.reduceMul, Nat.reduceEqDiff, Nat.reduceSub, Nat.reduceLeDiff, reduceCtorEq])
    | refine ev_skip ?_ | refine ev_block ?_ | refine ev_blk ?_ | refine ev_ret ?_ | refine ev_exit ?_ | refine evx_code_ret ?_ | refine evx_blk_ret ?_ | refine evx_lp_ret ?_
    | refine evx_code_exit ?_ | refine evx_lp_exit ?_ | refine evx_blk_hit ?_ | refine evx_blk_pass (by decide) ?_
    | refine And.intro ?_ ?_ | intro _ | decide +kernel | omega)
  all_goals first
    | exact ev_lp (k + 1) [] ⟨by omega, eq_step (d := default) (e := default) (by omega) (by omega) hk.2 (by simp_all)⟩ (by omega) (by simp only [go_sem, hP, ↓reduceIte, Nat.reduceAdd, Nat.reduceMul, Nat.reduceEqDiff, Nat.reduceSub, Nat.reduceLeDiff, reduceCtorEq]; simp; exact wrap_nat (by omega) hlen)
    | (simp; exact eq_not (d := default) (k := k) (fun he => by simp_all); done)
    | (simp; exact eq_done (by omega) (by omega) hk.2; done)
theorem s_IndexFuncEntry (xs : List Entry) (sem : List Dat → List Dat → Prop) (p : Entry → Bool) (hp : ∀ x ∈ xs, sem [(true, eEntry x)] [(false, [.bool (p x)])]) :
    Sat Try.prog 150 [aEntryS xs, .fn sem] true (rI (if xs.any p then (xs.findIdx p : Int) else -1)) := by
  refine sat_walk (fn := Try.f150) rfl rfl rfl (Nat.le_of_ble_eq_true rfl) fun fr hP hN hbnd => ?_
  have hE : (envOf fr Try.prog).Ok := envOf_ok hP
  have hM := follows_of hP
  have hS : ∀ {draw ops}, statB Try.f150.ntmps draw ops = true → statB (envOf fr Try.prog).fr.N draw ops = true := fun h => by rw [envOf_fr, hN]; exact h
  have hlen := bnd_EntryS hbnd
  repeat' (first
    | exact True.intro
    | refine ev_seq ?_
    | ((first | refine vgd_go ?_ | refine ev_region hE hM (hS (by decide +kernel)) ?_ | refine ev_if ?_ | refine end_ret hE rfl rfl ?_ | refine end_norm hE rfl rfl ?_ | refine vcall_A ?_); simp (maxSteps := 2000000) only [go_sem, hP, ↓reduceIte, Nat.reduceAdd, Nat.reduceMul, Nat.reduceEqDiff, Nat.reduceSub, Nat.reduceLeDiff, reduceCtorEq])
    | refine ev_skip ?_ | refine ev_block ?_ | refine ev_blk ?_ | refine ev_ret ?_ | refine ev_exit ?_ | refine evx_code_ret ?_ | refine evx_blk_ret ?_ | refine evx_lp_ret ?_
    | refine evx_code_exit ?_ | refine evx_lp_exit ?_ | refine evx_blk_hit ?_ | refine evx_blk_pass (by decide) ?_
    | refine And.intro ?_ ?_ | intro _ | decide +kernel | omega)
  refine ev_loop (ι := Nat) (fun k => [(0, .c (sEntryS xs)), (1, .fn sem), (7, .c (.int .i64 xs.length)), (8, .c (.int .i64 k))]) (fun k => []) (fun _ => []) (fun k => k ≤ xs.length ∧ (xs.take k).any p = false) (fun k => xs.length - k) 0 [] (by simp) (by simp only [go_sem, hP, ↓reduceIte, Nat.reduceAdd, Nat.reduceMul, Nat.reduceEqDiff, Nat.reduceSub, Nat.reduceLeDiff, reduceCtorEq]; simp) ?_
  intro k hk
  have hq : k < xs.length → sem [(true, eEntry (xs.getD k default))] [(false, [.bool (p (xs.getD k default))])] := fun h => hp _ (getD_mem h)
  repeat' (first
    | exact True.intro
    | refine ev_seq ?_
    | ((first | refine vgd_go ?_ | refine ev_region hE hM (hS (by decide +kernel)) ?_ | refine ev_if ?_ | refine end_ret hE rfl rfl ?_ | refine end_norm hE rfl rfl ?_ | refine vcall_A ?_ | refine vcallFn_of [(true, eEntry (xs.getD k default))] [] [(false, [.bool (p (xs.getD k default))])] (by simp only [go_sem, hP, ↓reduceIte, Nat.reduceAdd, Nat.reduceMul, Nat.reduceEqDiff, Nat.reduceSub, Nat.reduceLeDiff, reduceCtorEq]) (hq (by omega)) ?_); simp (maxSteps := 2000000) only [go_sem, hP, ↓reduceIte, Nat.reduceAdd, Nat.reduceMul, Nat.reduceEqDiff, Nat.reduceSub, Nat.reduceLeDiff, reduceCtorEq])
    | refine ev_skip ?_ | refine ev_block ?_ | refine ev_blk ?_ | refine ev_ret ?_ | refine ev_exit ?_ | refine evx_code_ret ?_ | refine evx_blk_ret ?_ | refine evx_lp_ret ?_
    | refine evx_code_exit ?_ | refine evx_lp_exit ?_ | refine evx_blk_hit ?_ | refine evx_blk_pass (by decide) ?_
    | refine And.intro ?_ ?_ | intro _ | decide +kernel | omega)
  · rename_i h1 h2
    rw [any_yes (d := default) (by omega) h2, findIdx_here (d := default) (by omega) hk.2 h2]; rfl
  · rename_i h1 h2
    exact ev_lp (k + 1) [] ⟨by omega, any_step (d := default) (by omega) hk.2 h2⟩ (by omega) (by simp only [go_sem, hP, ↓reduceIte, Nat.reduceAdd, Nat.reduceMul, Nat.reduceEqDiff, Nat.reduceSub, Nat.reduceLeDiff, reduceCtorEq]; simp; exact wrap_nat (by omega) hlen)
  · rw [any_done (by omega) hk.2]; rfl
theorem s_ContainsFuncEntry (xs : List Entry) (sem : List Dat → List Dat → Prop) (p : Entry → Bool) (hp : ∀ x ∈ xs, sem [(true, eEntry x)] [(false, [.bool (p x)])]) :
    Sat Try.prog 117 [aEntryS xs, .fn sem] true (rB (xs.any p)) := by
  refine sat_walk (fn := Try.f117) rfl rfl rfl (Nat.le_of_ble_eq_true rfl) fun fr hP hN hbnd => ?_
  have hE : (envOf fr Try.prog).Ok := envOf_ok hP
  have hM := follows_of hP
  have hS : ∀ {draw ops}, statB Try.f117.ntmps draw ops = true → statB (envOf fr Try.prog).fr.N draw ops = true := fun h => by rw [envOf_fr, hN]; exact h
  repeat' (first
    | exact True.intro
    | refine ev_seq ?_
    | ((first | refine vgd_go ?_ | refine ev_region hE hM (hS (by decide +kernel)) ?_ | refine ev_if ?_ | refine end_ret hE rfl rfl ?_ | refine end_norm hE rfl rfl ?_ | refine vcall_A ?_ | refine vcallB_of hP (s_IndexFuncEntry _ _ p hp) ?_); simp (maxSteps := 2000000) only [go_sem, hP, ↓reduceIte, Nat.reduceAdd, Nat.reduceMul, Nat.reduceEqDiff, Nat.reduceSub, Nat.reduceLeDiff, reduceCtorEq])
    | refine ev_skip ?_ | refine ev_block ?_ | refine ev_blk ?_ | refine ev_ret ?_ | refine ev_exit ?_ | refine evx_code_ret ?_ | refine evx_blk_ret ?_ | refine evx_lp_ret ?_
    | refine evx_code_exit ?_ | refine evx_lp_exit ?_ | refine evx_blk_hit ?_ | refine evx_blk_pass (by decide) ?_
    | refine And.intro ?_ ?_ | intro _ | decide +kernel | omega)
  · split <;> simp_all <;> omega
theorem s_EqualFuncNode (xs ys : List Node) (sem : List Dat → List Dat → Prop) (hp : ∀ a b, sem [(true, eNode a), (true, eNode b)] [(false, [.bool (decide (a = b))])]) :
    Sat Try.prog 90 [aNodeS xs, aNodeS ys, .fn sem] true (rB (decide (xs = ys))) := by
  refine sat_walk (fn := Try.f90) rfl rfl rfl (Nat.le_of_ble_eq_true rfl) fun fr hP hN hbnd => ?_
  have hE : (envOf fr Try.prog).Ok := envOf_ok hP
  have hM := follows_of hP
  have hS : ∀ {draw ops}, statB Try.f90.ntmps draw ops = true → statB (envOf fr Try.prog).fr.N draw ops = true := fun h => by rw [envOf_fr, hN]; exact h
  have hlen := bnd_NodeS hbnd
  repeat' (first
    | exact True.intro
    | refine ev_seq ?_
    | ((first | refine vgd_go ?_ | refine ev_region hE hM (hS (by decide +kernel)) ?_ | refine ev_if ?_ | refine end_ret hE rfl rfl ?_ | refine end_norm hE rfl rfl ?_ | refine vcall_A ?_); simp (maxSteps := 2000000) only [go_sem, hP, ↓reduceIte, Nat.reduceAdd, Nat.reduceMul, Nat.reduceEqDiff, Nat.reduceSub, Nat.reduceLeDiff, reduceCtorEq])
    | refine ev_skip ?_ | refine ev_block ?_ | refine ev_blk ?_ | refine ev_ret ?_ | refine ev_exit ?_ | refine evx_code_ret ?_ | refine evx_blk_ret ?_ | refine evx_lp_ret ?_
    | refine evx_code_exit ?_ | refine evx_lp_exit ?_ | refine evx_blk_hit ?_ | refine evx_blk_pass (by decide) ?_
    | refine And.intro ?_ ?_ | intro _ | decide +kernel | omega)
  · rename_i h; simp at h; simp; rintro rfl; exact h rfl
  rename_i h; simp at h
  refine ev_loop (ι := Nat) (fun k => [(1, .c (sNodeS ys)), (2, .fn sem), (15, .c (sNodeS xs)), (16, .c (.int .i64 xs.length)), (17, .c (.int .i64 k))]) (fun k => []) (fun _ => []) (fun k => k ≤ xs.length ∧ xs.take k = ys.take k) (fun k => xs.length - k) 0 [] (by simp [allLt_zero] <;> omega) (by simp only [go_sem, hP, ↓reduceIte, Nat.reduceAdd, Nat.reduceMul, Nat.reduceEqDiff, Nat.reduceSub, Nat.reduceLeDiff, reduceCtorEq]; simp) ?_
  intro k hk
  repeat' (first
    | exact True.intro
    | refine ev_seq ?_
    | ((first | refine vgd_go ?_ | refine ev_region hE hM (hS (by decide +kernel)) ?_ | refine ev_if ?_ | refine end_ret hE rfl rfl ?_ | refine end_norm hE rfl rfl ?_ | refine vcall_A ?_ | refine vcallFn_of [(true, eNode (xs.getD k default)), (true, eNode (ys.getD k default))] [] [(false, [.bool (decide (xs.getD k default = ys.getD k default))])] (by simp only [go_sem, hP, ↓reduceIte, Nat.reduceAdd, Nat.reduceMul, Nat.reduceEqDiff, Nat.reduceSub, Nat.reduceLeDiff, reduceCtorEq]) (hp _ _) ?_); simp (maxSteps := 2000000) only [go_sem, hP, ↓reduceIte, Nat.reduceAdd, Nat.reduceMul, Nat.reduceEqDiff, Nat.reduceSub, Nat.reduceLeDiff, reduceCtorEq])
    | refine ev_skip ?_ | refine ev_block ?_ | refine ev_blk ?_ | refine ev_ret ?_ | refine ev_exit ?_ | refine evx_code_ret ?_ | refine evx_blk_ret ?_ | refine evx_lp_ret ?_
    | refine evx_code_exit ?_ | refine evx_lp_exit ?_ | refine evx_blk_hit ?_ | refine evx_blk_pass (by decide) ?_
    | refine And.intro ?_ ?_ | intro _ | decide +kernel | omega)
  all_goals first
    | exact ev_lp (k + 1) [] ⟨by omega, eq_step (d := default) (e := default) (by omega) (by omega) hk.2 (by simp_all)⟩ (by omega) (by simp only [go_sem, hP, ↓reduceIte, Nat.reduceAdd, Nat.reduceMul, Nat.reduceEqDiff, Nat.reduceSub, Nat.reduceLeDiff, reduceCtorEq]; simp; exact wrap_nat (by omega) hlen)
    | (simp; exact eq_not (d := default) (k := k) (fun he => by simp_all); done)
    | (simp; exact eq_done (by omega) (by omega) hk.2; done)
theorem s_SameNode1 (a b : Entry) : Sat Try.prog 148 [aEntry a, aEntry b] true (rB (decide (a = b))) := by
  refine sat_walk (fn := Try.f148) rfl rfl rfl (Nat.le_of_ble_eq_true rfl) fun fr hP hN hbnd => ?_
  have hE : (envOf fr Try.prog).Ok := envOf_ok hP
  have hM := follows_of hP
  have hS : ∀ {draw ops}, statB Try.f148.ntmps draw ops = true → statB (envOf fr Try.prog).fr.N draw ops = true := fun h => by rw [envOf_fr, hN]; exact h
  repeat' (first
    | exact True.intro
    | refine ev_seq ?_
    | ((first | refine vgd_go ?_ | refine ev_region hE hM (hS (by decide +kernel)) ?_ | refine ev_if ?_ | refine end_ret hE rfl rfl ?_ | refine end_norm hE rfl rfl ?_ | refine vcall_A ?_ | refine vcallB_of hP (s_implSameRects a.rect b.rect) ?_); simp (maxSteps := 2000000) only [go_sem, hP, ↓reduceIte, Nat.reduceAdd, Nat.reduceMul, Nat.reduceEqDiff, Nat.reduceSub, Nat.reduceLeDiff, reduceCtorEq])
    | refine ev_skip ?_ | refine ev_block ?_ | refine ev_blk ?_ | refine ev_ret ?_ | refine ev_exit ?_ | refine evx_code_ret ?_ | refine evx_blk_ret ?_ | refine evx_lp_ret ?_
    | refine evx_code_exit ?_ | refine evx_lp_exit ?_ | refine evx_blk_hit ?_ | refine evx_blk_pass (by decide) ?_
    | refine And.intro ?_ ?_ | intro _ | decide +kernel | omega)
  all_goals (simp_all [eqEntry] <;> rfl)
theorem s_sameNode (a b : Node) : Sat Try.prog 91 [aNode a, aNode b] true (rB (decide (a = b))) := by
  refine sat_walk (fn := Try.f91) rfl rfl rfl (Nat.le_of_ble_eq_true rfl) fun fr hP hN hbnd => ?_
  have hE : (envOf fr Try.prog).Ok := envOf_ok hP
  have hM := follows_of hP
  have hS : ∀ {draw ops}, statB Try.f91.ntmps draw ops = true → statB (envOf fr Try.prog).fr.N draw ops = true := fun h => by rw [envOf_fr, hN]; exact h
  repeat' (first
    | exact True.intro
    | refine ev_seq ?_
    | ((first | refine vgd_go ?_ | refine ev_region hE hM (hS (by decide +kernel)) ?_ | refine ev_if ?_ | refine end_ret hE rfl rfl ?_ | refine end_norm hE rfl rfl ?_ | refine vcall_A ?_ | refine vcallB_of hP (s_EqualFuncEntry _ _ _ (fun a b => s_SameNode1 a b)) ?_); simp (maxSteps := 2000000) only [go_sem, hP, ↓reduceIte, Nat.reduceAdd, Nat.reduceMul, Nat.reduceEqDiff, Nat.reduceSub, Nat.reduceLeDiff, reduceCtorEq])
    | refine ev_skip ?_ | refine ev_block ?_ | refine ev_blk ?_ | refine ev_ret ?_ | refine ev_exit ?_ | refine evx_code_ret ?_ | refine evx_blk_ret ?_ | refine evx_lp_ret ?_
    | refine evx_code_exit ?_ | refine evx_lp_exit ?_ | refine evx_blk_hit ?_ | refine evx_blk_pass (by decide) ?_
    | refine And.intro ?_ ?_ | intro _ | decide +kernel | omega)
  all_goals (simp_all [eqNode] <;> rfl)
theorem s_implSameNodes (a b : List Node) : Sat Try.prog 29 [aNodeS a, aNodeS b] true (rB (decide (a = b))) := by
  refine sat_walk (fn := Try.f29) rfl rfl rfl (Nat.le_of_ble_eq_true rfl) fun fr hP hN hbnd => ?_
  have hE : (envOf fr Try.prog).Ok := envOf_ok hP
  have hM := follows_of hP
  have hS : ∀ {draw ops}, statB Try.f29.ntmps draw ops = true → statB (envOf fr Try.prog).fr.N draw ops = true := fun h => by rw [envOf_fr, hN]; exact h
  repeat' (first
    | exact True.intro
    | refine ev_seq ?_
    | ((first | refine vgd_go ?_ | refine ev_region hE hM (hS (by decide +kernel)) ?_ | refine ev_if ?_ | refine end_ret hE rfl rfl ?_ | refine end_norm hE rfl rfl ?_ | refine vcall_A ?_ | refine vcallB_of hP (s_EqualFuncNode _ _ _ (fun a b => s_sameNode a b)) ?_); simp (maxSteps := 2000000) only [go_sem, hP, ↓reduceIte, Nat.reduceAdd, Nat.reduceMul, Nat.reduceEqDiff, Nat.reduceSub, Nat.reduceLeDiff, reduceCtorEq])
    | refine ev_skip ?_ | refine ev_block ?_ | refine ev_blk ?_ | refine ev_ret ?_ | refine ev_exit ?_ | refine evx_code_ret ?_ | refine evx_blk_ret ?_ | refine evx_lp_ret ?_
    | refine evx_code_exit ?_ | refine evx_lp_exit ?_ | refine evx_blk_hit ?_ | refine evx_blk_pass (by decide) ?_
    | refine And.intro ?_ ?_ | intro _ | decide +kernel | omega)
theorem s_l3SameEntries (xs ys : List Entry) : Sat Try.prog 89 [aEntryS xs, aEntryS ys] true (rB (decide (xs = ys))) := by
  refine sat_walk (fn := Try.f89) rfl rfl rfl (Nat.le_of_ble_eq_true rfl) fun fr hP hN hbnd => ?_
  have hE : (envOf fr Try.prog).Ok := envOf_ok hP
  have hM := follows_of hP
  have hS : ∀ {draw ops}, statB Try.f89.ntmps draw ops = true → statB (envOf fr Try.prog).fr.N draw ops = true := fun h => by rw [envOf_fr, hN]; exact h
  have hlen := bnd_EntryS hbnd
  repeat' (first
    | exact True.intro
    | refine ev_seq ?_
    | ((first | refine vgd_go ?_ | refine ev_region hE hM (hS (by decide +kernel)) ?_ | refine ev_if ?_ | refine end_ret hE rfl rfl ?_ | refine end_norm hE rfl rfl ?_ | refine vcall_A ?_); simp (maxSteps := 2000000) only [go_sem, hP, ↓reduceIte, Nat.reduceAdd, Nat.reduceMul, Nat.reduceEqDiff, Nat.reduceSub, Nat.reduceLeDiff, reduceCtorEq])
    | refine ev_skip ?_ | refine ev_block ?_ | refine ev_blk ?_ | refine ev_ret ?_ | refine ev_exit ?_ | refine evx_code_ret ?_ | refine evx_blk_ret ?_ | refine evx_lp_ret ?_
    | refine evx_code_exit ?_ | refine evx_lp_exit ?_ | refine evx_blk_hit ?_ | refine evx_blk_pass (by decide) ?_
    | refine And.intro ?_ ?_ | intro _ | decide +kernel | omega)
  · rename_i h; simp at h; simp; rintro rfl; exact h rfl
  rename_i h; simp at h
  refine ev_loop (ι := Nat) (fun k => [(0, .c (sEntryS xs)), (1, .c (sEntryS ys)), (5, .c (.int .i64 k))]) (fun k => []) (fun _ => []) (fun k => k ≤ xs.length ∧ xs.take k = ys.take k) (fun k => xs.length - k) 0 [] (by simp [allLt_zero] <;> omega) (by simp only [go_sem, hP, ↓reduceIte, Nat.reduceAdd, Nat.reduceMul, Nat.reduceEqDiff, Nat.reduceSub, Nat.reduceLeDiff, reduceCtorEq]; simp) ?_
  intro k hk
  repeat' (first
    | exact True.intro
    | refine ev_seq ?_
    | ((first | refine vgd_go ?_ | refine ev_region hE hM (hS (by decide +kernel)) ?_ | refine ev_if ?_ | refine end_ret hE rfl rfl ?_ | refine end_norm hE rfl rfl ?_ | refine vcall_A ?_ | refine vcallB_of hP (s_specSameRects (xs.getD k default).rect (ys.getD k default).rect) ?_); simp (maxSteps := 2000000) only [go_sem, hP, ↓reduceIte, Nat.reduceAdd, Nat.reduceMul, Nat.reduceEqDiff, Nat.reduceSub, Nat.reduceLeDiff, reduceCtorEq])
    | refine ev_skip ?_ | refine ev_block ?_ | refine ev_blk ?_ | refine ev_ret ?_ | refine ev_exit ?_ | refine evx_code_ret ?_ | refine evx_blk_ret ?_ | refine evx_lp_ret ?_
    | refine evx_code_exit ?_ | refine evx_lp_exit ?_ | refine evx_blk_hit ?_ | refine evx_blk_pass (by decide) ?_
    | refine And.intro ?_ ?_ | intro _ | decide +kernel | omega)
  all_goals first
    | exact ev_lp (k + 1) [] ⟨by omega, eq_step (d := default) (e := default) (by omega) (by omega) hk.2 (by simp_all [eqEntry])⟩ (by omega) (by simp only [go_sem, hP, ↓reduceIte, Nat.reduceAdd, Nat.reduceMul, Nat.reduceEqDiff, Nat.reduceSub, Nat.reduceLeDiff, reduceCtorEq]; simp; exact wrap_nat (by omega) hlen)
    | (simp; exact eq_not (d := default) (k := k) (fun he => by simp_all); done)
    | (simp; exact eq_done (by omega) (by omega) hk.2; done)
theorem s_specSameNodes (xs ys : List Node) : Sat Try.prog 27 [aNodeS xs, aNodeS ys] true (rB (decide (xs = ys))) := by
  refine sat_walk (fn := Try.f27) rfl rfl rfl (Nat.le_of_ble_eq_true rfl) fun fr hP hN hbnd => ?_
  have hE : (envOf fr Try.prog).Ok := envOf_ok hP
  have hM := follows_of hP
  have hS : ∀ {draw ops}, statB Try.f27.ntmps draw ops = true → statB (envOf fr Try.prog).fr.N draw ops = true := fun h => by rw [envOf_fr, hN]; exact h
  have hlen := bnd_NodeS hbnd
  repeat' (first
    | exact True.intro
    | refine ev_seq ?_
    | ((first | refine vgd_go ?_ | refine ev_region hE hM (hS (by decide +kernel)) ?_ | refine ev_if ?_ | refine end_ret hE rfl rfl ?_ | refine end_norm hE rfl rfl ?_ | refine vcall_A ?_); simp (maxSteps := 2000000) only [go_sem, hP, ↓reduceIte, Nat.reduceAdd, Nat.reduceMul, Nat.reduceEqDiff, Nat.reduceSub, Nat.reduceLeDiff, reduceCtorEq])
    | refine ev_skip ?_ | refine ev_block ?_ | refine ev_blk ?_ | refine ev_ret ?_ | refine ev_exit ?_ | refine evx_code_ret ?_ | refine evx_blk_ret ?_ | refine evx_lp_ret ?_
    | refine evx_code_exit ?_ | refine evx_lp_exit ?_ | refine evx_blk_hit ?_ | refine evx_blk_pass (by decide) ?_
    | refine And.intro ?_ ?_ | intro _ | decide +kernel | omega)
  · rename_i h; simp at h; simp; rintro rfl; exact h rfl
  rename_i h; simp at h
  refine ev_loop (ι := Nat) (fun k => [(0, .c (sNodeS xs)), (1, .c (sNodeS ys)), (5, .c (.int .i64 k))]) (fun k => []) (fun _ => []) (fun k => k ≤ xs.length ∧ xs.take k = ys.take k) (fun k => xs.length - k) 0 [] (by simp [allLt_zero] <;> omega) (by simp only [go_sem, hP, ↓reduceIte, Nat.reduceAdd, Nat.reduceMul, Nat.reduceEqDiff, Nat.reduceSub, Nat.reduceLeDiff, reduceCtorEq]; simp) ?_
  intro k hk
  repeat' (first
    | exact True.intro
    | refine ev_seq ?_
    | ((first | refine vgd_go ?_ | refine ev_region hE hM (hS (by decide +kernel)) ?_ | refine ev_if ?_ | refine end_ret hE rfl rfl ?_ | refine end_norm hE rfl rfl ?_ | refine vcall_A ?_ | refine vcallB_of hP (s_l3SameEntries (xs.getD k default).entries (ys.getD k default).entries) ?_); simp (maxSteps := 2000000) only [go_sem, hP, ↓reduceIte, Nat.reduceAdd, Nat.reduceMul, Nat.reduceEqDiff, Nat.reduceSub, Nat.reduceLeDiff, reduceCtorEq])
    | refine ev_skip ?_ | refine ev_block ?_ | refine ev_blk ?_ | refine ev_ret ?_ | refine ev_exit ?_ | refine evx_code_ret ?_ | refine evx_blk_ret ?_ | refine evx_lp_ret ?_
    | refine evx_code_exit ?_ | refine evx_lp_exit ?_ | refine evx_blk_hit ?_ | refine evx_blk_pass (by decide) ?_
    | refine And.intro ?_ ?_ | intro _ | decide +kernel | omega)
  all_goals first
    | exact ev_lp (k + 1) [] ⟨by omega, eq_step (d := default) (e := default) (by omega) (by omega) hk.2 (by simp_all [eqNode])⟩ (by omega) (by simp only [go_sem, hP, ↓reduceIte, Nat.reduceAdd, Nat.reduceMul, Nat.reduceEqDiff, Nat.reduceSub, Nat.reduceLeDiff, reduceCtorEq]; simp; exact wrap_nat (by omega) hlen)
    | (simp; exact eq_not (d := default) (k := k) (fun he => by simp_all); done)
    | (simp; exact eq_done (by omega) (by omega) hk.2; done)
/-- The first code of a list that is none of 0. -/
def firstF {α : Type} (f : α → Int) : List α → Int
  | [] => 0
  | x :: xs => if f x = 0 then firstF f xs else f x
theorem firstF_here {α : Type} {f : α → Int} : ∀ {xs : List α} {k : Nat} {d : α}, k < xs.length → allLt k (fun j => decide (f (xs.getD j d) = 0)) = true → f (xs.getD k d) ≠ 0 → firstF f xs = f (xs.getD k d)
  | x :: xs, 0, d, _, _, h => by simp only [List.getD_cons_zero] at h ⊢; unfold firstF; rw [if_neg h]
  | x :: xs, k + 1, d, h1, h2, h => by
    rw [allLt_iff] at h2
    have h0 := h2 0 (by omega)
    simp only [List.getD_cons_zero, decide_eq_true_eq] at h0
    simp only [List.getD_cons_succ] at h ⊢
    unfold firstF; rw [if_pos h0]
    exact firstF_here (by simpa using h1) (allLt_iff.mpr fun j hj => by simpa using h2 (j + 1) (by omega)) h
theorem firstF_done {α : Type} {f : α → Int} : ∀ {xs : List α} {k : Nat} {d : α}, xs.length ≤ k → allLt k (fun j => decide (f (xs.getD j d) = 0)) = true → firstF f xs = 0
  | [], _, _, _, _ => rfl
  | x :: xs, k, d, h1, h2 => by
    rw [allLt_iff] at h2
    have h0 := h2 0 (by simp at h1; omega)
    simp only [List.getD_cons_zero, decide_eq_true_eq] at h0
    unfold firstF; rw [if_pos h0]
    exact firstF_done (k := k - 1) (d := d) (by simp at h1; omega) (allLt_iff.mpr fun j hj => by simpa using h2 (j + 1) (by omega))
theorem firstF_zero {α : Type} {f : α → Int} : ∀ {xs : List α}, firstF f xs = 0 → ∀ x ∈ xs, f x = 0
  | [], _, _, hx => by cases hx
  | x :: xs, h, y, hy => by
    unfold firstF at h
    split at h
    · rename_i h0
      rcases List.mem_cons.1 hy with rfl | hy
      · exact h0
      · exact firstF_zero h y hy
    · rename_i h0; exact absurd h h0
theorem s_isId (a : Int) : Sat Try.prog 124 [aI a] true (rB (inB a 0 999)) := by
  refine sat_walk (fn := Try.f124) rfl rfl rfl (Nat.le_of_ble_eq_true rfl) fun fr hP hN hbnd => ?_
  have hE : (envOf fr Try.prog).Ok := envOf_ok hP
  have hM := follows_of hP
  have hS : ∀ {draw ops}, statB Try.f124.ntmps draw ops = true → statB (envOf fr Try.prog).fr.N draw ops = true := fun h => by rw [envOf_fr, hN]; exact h
  repeat' (first
    | exact True.intro
    | refine ev_seq ?_
    | ((first | refine vgd_go ?_ | refine ev_region hE hM (hS (by decide +kernel)) ?_ | refine ev_if ?_ | refine end_ret hE rfl rfl ?_ | refine end_norm hE rfl rfl ?_ | refine vcall_A ?_ | refine vcallB_of hP (s_within _ _ _) ?_); simp (maxSteps := 2000000) only [go_sem, hP, ↓reduceIte, Nat.reduceAdd, Nat.reduceMul, Nat.reduceEqDiff, Nat.reduceSub, Nat.reduceLeDiff, reduceCtorEq])
    | refine ev_skip ?_ | refine ev_block ?_ | refine ev_blk ?_ | refine ev_ret ?_ | refine ev_exit ?_ | refine evx_code_ret ?_ | refine evx_blk_ret ?_ | refine evx_lp_ret ?_
    | refine evx_code_exit ?_ | refine evx_lp_exit ?_ | refine evx_blk_hit ?_ | refine evx_blk_pass (by decide) ?_
    | refine And.intro ?_ ?_ | intro _ | decide +kernel | omega)
def entryF (d : Int) (e : Entry) : Int := if rf e.rect d ≠ 0 then rf e.rect d else if inB e.ref 0 999 && inB e.nsn 0 100000 then 0 else 3
theorem s_isNsn (a : Int) : Sat Try.prog 116 [aI a] true (rB (inB a 0 100000)) := by
  refine sat_walk (fn := Try.f116) rfl rfl rfl (Nat.le_of_ble_eq_true rfl) fun fr hP hN hbnd => ?_
  have hE : (envOf fr Try.prog).Ok := envOf_ok hP
  have hM := follows_of hP
  have hS : ∀ {draw ops}, statB Try.f116.ntmps draw ops = true → statB (envOf fr Try.prog).fr.N draw ops = true := fun h => by rw [envOf_fr, hN]; exact h
  repeat' (first
    | exact True.intro
    | refine ev_seq ?_
    | ((first | refine vgd_go ?_ | refine ev_region hE hM (hS (by decide +kernel)) ?_ | refine ev_if ?_ | refine end_ret hE rfl rfl ?_ | refine end_norm hE rfl rfl ?_ | refine vcall_A ?_ | refine vcallB_of hP (s_within _ _ _) ?_); simp (maxSteps := 2000000) only [go_sem, hP, ↓reduceIte, Nat.reduceAdd, Nat.reduceMul, Nat.reduceEqDiff, Nat.reduceSub, Nat.reduceLeDiff, reduceCtorEq])
    | refine ev_skip ?_ | refine ev_block ?_ | refine ev_blk ?_ | refine ev_ret ?_ | refine ev_exit ?_ | refine evx_code_ret ?_ | refine evx_blk_ret ?_ | refine evx_lp_ret ?_
    | refine evx_code_exit ?_ | refine evx_lp_exit ?_ | refine evx_blk_hit ?_ | refine evx_blk_pass (by decide) ?_
    | refine And.intro ?_ ?_ | intro _ | decide +kernel | omega)
theorem s_entryRange (e : Entry) : Sat Try.prog 97 [aEntry e] true (rI (if inB e.ref 0 999 && inB e.nsn 0 100000 then 0 else 3)) := by
  refine sat_walk (fn := Try.f97) rfl rfl rfl (Nat.le_of_ble_eq_true rfl) fun fr hP hN hbnd => ?_
  have hE : (envOf fr Try.prog).Ok := envOf_ok hP
  have hM := follows_of hP
  have hS : ∀ {draw ops}, statB Try.f97.ntmps draw ops = true → statB (envOf fr Try.prog).fr.N draw ops = true := fun h => by rw [envOf_fr, hN]; exact h
  repeat' (first
    | exact True.intro
    | refine ev_seq ?_
    | ((first | refine vgd_go ?_ | refine ev_region hE hM (hS (by decide +kernel)) ?_ | refine ev_if ?_ | refine end_ret hE rfl rfl ?_ | refine end_norm hE rfl rfl ?_ | refine vcall_A ?_ | refine vcallB_of hP (s_isId _) ?_ | refine vcallB_of hP (s_isNsn _) ?_); simp (maxSteps := 2000000) only [go_sem, hP, ↓reduceIte, Nat.reduceAdd, Nat.reduceMul, Nat.reduceEqDiff, Nat.reduceSub, Nat.reduceLeDiff, reduceCtorEq])
    | refine ev_skip ?_ | refine ev_block ?_ | refine ev_blk ?_ | refine ev_ret ?_ | refine ev_exit ?_ | refine evx_code_ret ?_ | refine evx_blk_ret ?_ | refine evx_lp_ret ?_
    | refine evx_code_exit ?_ | refine evx_lp_exit ?_ | refine evx_blk_hit ?_ | refine evx_blk_pass (by decide) ?_
    | refine And.intro ?_ ?_ | intro _ | decide +kernel | omega)
  all_goals simp_all
theorem s_l3Entry (e : Entry) (d : Int) : Sat Try.prog 93 [pEntry e, aI d] true (rI (entryF d e)) := by
  refine sat_walk (fn := Try.f93) rfl rfl rfl (Nat.le_of_ble_eq_true rfl) fun fr hP hN hbnd => ?_
  have hE : (envOf fr Try.prog).Ok := envOf_ok hP
  have hM := follows_of hP
  have hS : ∀ {draw ops}, statB Try.f93.ntmps draw ops = true → statB (envOf fr Try.prog).fr.N draw ops = true := fun h => by rw [envOf_fr, hN]; exact h
  repeat' (first
    | exact True.intro
    | refine ev_seq ?_
    | ((first | refine vgd_go ?_ | refine ev_region hE hM (hS (by decide +kernel)) ?_ | refine ev_if ?_ | refine end_ret hE rfl rfl ?_ | refine end_norm hE rfl rfl ?_ | refine vcall_A ?_ | refine vcallB_of hP (s_l1In _ _ _) ?_ | refine vcallB_of hP (s_specRectFault e.rect _) ?_); simp (maxSteps := 2000000) only [go_sem, hP, ↓reduceIte, Nat.reduceAdd, Nat.reduceMul, Nat.reduceEqDiff, Nat.reduceSub, Nat.reduceLeDiff, reduceCtorEq])
    | refine ev_skip ?_ | refine ev_block ?_ | refine ev_blk ?_ | refine ev_ret ?_ | refine ev_exit ?_ | refine evx_code_ret ?_ | refine evx_blk_ret ?_ | refine evx_lp_ret ?_
    | refine evx_code_exit ?_ | refine evx_lp_exit ?_ | refine evx_blk_hit ?_ | refine evx_blk_pass (by decide) ?_
    | refine And.intro ?_ ?_ | intro _ | decide +kernel | omega)
  all_goals (simp_all [entryF] <;> rfl)
def findRef (xs : List Entry) (r : Int) : Int := if xs.any (fun e => decide (e.ref = r)) then (xs.findIdx (fun e => decide (e.ref = r)) : Int) else -1
def dupAt (xs : List Entry) (j : Nat) : Bool := (xs.take j).any (fun e => decide (e.ref = (xs.getD j default).ref))
def noDup (xs : List Entry) : Bool := allLt xs.length (fun j => !dupAt xs j)
theorem findRef_self {xs : List Entry} {k : Nat} (h : k < xs.length) : findRef xs (xs.getD k default).ref = k ↔ dupAt xs k = false := by
  have hy : xs.any (fun e => decide (e.ref = (xs.getD k default).ref)) = true := any_yes (d := default) h (by simp)
  unfold findRef dupAt; rw [if_pos hy]
  constructor
  · intro he
    have he : xs.findIdx (fun e => decide (e.ref = (xs.getD k default).ref)) = k := by omega
    rw [← Bool.not_eq_true]; intro ha
    obtain ⟨x, hx, hp⟩ := List.any_eq_true.1 ha
    obtain ⟨i, hi, rfl⟩ := List.mem_iff_getElem.1 hx
    simp only [List.length_take] at hi
    have hlt : i < xs.findIdx (fun e => decide (e.ref = (xs.getD k default).ref)) := by omega
    have := List.not_of_lt_findIdx hlt
    simp only [List.getElem_take] at hp
    simp_all
  · intro hn
    rw [findIdx_here (d := default) h hn (by simp)]
theorem findRef_nonneg {xs : List Entry} {r : Int} : decide (0 ≤ findRef xs r) = xs.any (fun e => decide (e.ref = r)) := by
  unfold findRef
  cases h : xs.any (fun e => decide (e.ref = r)) <;> simp
theorem s_entryAt1 (e : Entry) (r : Int) : Sat Try.prog 151 [aEntry e, .pv [.int .i64 r]] true (rB (decide (e.ref = r))) := by
  refine sat_walk (fn := Try.f151) rfl rfl rfl (Nat.le_of_ble_eq_true rfl) fun fr hP hN hbnd => ?_
  have hE : (envOf fr Try.prog).Ok := envOf_ok hP
  have hM := follows_of hP
  have hS : ∀ {draw ops}, statB Try.f151.ntmps draw ops = true → statB (envOf fr Try.prog).fr.N draw ops = true := fun h => by rw [envOf_fr, hN]; exact h
  repeat' (first
    | exact True.intro
    | refine ev_seq ?_
    | ((first | refine vgd_go ?_ | refine ev_region hE hM (hS (by decide +kernel)) ?_ | refine ev_if ?_ | refine end_ret hE rfl rfl ?_ | refine end_norm hE rfl rfl ?_ | refine vcall_A ?_); simp (maxSteps := 2000000) only [go_sem, hP, ↓reduceIte, Nat.reduceAdd, Nat.reduceMul, Nat.reduceEqDiff, Nat.reduceSub, Nat.reduceLeDiff, reduceCtorEq])
    | refine ev_skip ?_ | refine ev_block ?_ | refine ev_blk ?_ | refine ev_ret ?_ | refine ev_exit ?_ | refine evx_code_ret ?_ | refine evx_blk_ret ?_ | refine evx_lp_ret ?_
    | refine evx_code_exit ?_ | refine evx_lp_exit ?_ | refine evx_blk_hit ?_ | refine evx_blk_pass (by decide) ?_
    | refine And.intro ?_ ?_ | intro _ | decide +kernel | omega)
  all_goals (simp_all <;> rfl)
theorem s_entryAt (xs : List Entry) (r : Int) : Sat Try.prog 98 [aEntryS xs, aI r] true (rI (findRef xs r)) := by
  refine sat_walk (fn := Try.f98) rfl rfl rfl (Nat.le_of_ble_eq_true rfl) fun fr hP hN hbnd => ?_
  have hE : (envOf fr Try.prog).Ok := envOf_ok hP
  have hM := follows_of hP
  have hS : ∀ {draw ops}, statB Try.f98.ntmps draw ops = true → statB (envOf fr Try.prog).fr.N draw ops = true := fun h => by rw [envOf_fr, hN]; exact h
  repeat' (first
    | exact True.intro
    | refine ev_seq ?_
    | ((first | refine vgd_go ?_ | refine ev_region hE hM (hS (by decide +kernel)) ?_ | refine ev_if ?_ | refine end_ret hE rfl rfl ?_ | refine end_norm hE rfl rfl ?_ | refine vcall_A ?_ | refine vcallB_of hP (s_IndexFuncEntry xs _ (fun e => decide (e.ref = r)) (fun x _ => s_entryAt1 x r)) ?_); simp (maxSteps := 2000000) only [go_sem, hP, ↓reduceIte, Nat.reduceAdd, Nat.reduceMul, Nat.reduceEqDiff, Nat.reduceSub, Nat.reduceLeDiff, reduceCtorEq])
    | refine ev_skip ?_ | refine ev_block ?_ | refine ev_blk ?_ | refine ev_ret ?_ | refine ev_exit ?_ | refine evx_code_ret ?_ | refine evx_blk_ret ?_ | refine evx_lp_ret ?_
    | refine evx_code_exit ?_ | refine evx_lp_exit ?_ | refine evx_blk_hit ?_ | refine evx_blk_pass (by decide) ?_
    | refine And.intro ?_ ?_ | intro _ | decide +kernel | omega)
  rfl
end Go.Proofs.Ytcnodghbkoeohaa.W
