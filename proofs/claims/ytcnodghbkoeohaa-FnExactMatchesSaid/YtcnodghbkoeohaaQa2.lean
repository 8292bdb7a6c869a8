/- Contracts of functions that FnExactMatches reaches: what each returns; it writes to nothing of old. No condition but those that each theorem states. -/
import Derived.Test.YtcnodghbkoeohaaQa1
open Go Go.Vm Go.Proofs Go.IntWalk Go.RowKit
set_option maxRecDepth 100000
set_option maxHeartbeats 4000000
set_option linter.unusedSimpArgs false
set_option linter.unusedVariables false
set_option linter.unusedSectionVars false
namespace Go.Proofs.Ytcnodghbkoeohaa.W
attribute [local irreducible] kJ ev evx vops vstep vgo vgd vget vcall vcallFn vcallA vcallB vts vres vcond
theorem s_implDist (r : Rect) (p : List Int) (g : Good r p) : Sat Try.prog 159 [aR r, aL p] true (rI (dist r p)) := by
  refine sat_walk (fn := Try.f159) rfl rfl rfl (Nat.le_of_ble_eq_true rfl) fun fr hP hN hbnd => ?_
  have hE : (envOf fr Try.prog).Ok := envOf_ok hP
  have hM := follows_of hP
  have hS : ∀ {draw ops}, statB Try.f159.ntmps draw ops = true → statB (envOf fr Try.prog).fr.N draw ops = true := fun h => by rw [envOf_fr, hN]; exact h
  have hl := bndR hbnd
  have g1 := g.h1
  have g2 := g.h2
  repeat' (first
    | exact True.intro
    | refine ev_seq ?_
    | ((first | refine vgd_go ?_ | refine ev_region hE hM (hS (by decide +kernel)) ?_ | refine ev_if ?_ | refine end_ret hE rfl rfl ?_ | refine end_norm hE rfl rfl ?_ | refine vcall_A ?_); simp (maxSteps := 2000000) only [go_sem, hP, ↓reduceIte, Nat.reduceAdd, Nat.reduceMul, Nat.reduceEqDiff, Nat.reduceSub, Nat.reduceLeDiff, reduceCtorEq])
    | refine ev_skip ?_ | refine ev_block ?_ | refine ev_blk ?_ | refine ev_ret ?_ | refine ev_exit ?_ | refine evx_code_ret ?_ | refine evx_blk_ret ?_ | refine evx_lp_ret ?_
    | refine evx_code_exit ?_ | refine evx_lp_exit ?_ | refine evx_blk_hit ?_ | refine evx_blk_pass (by decide) ?_
    | refine And.intro ?_ ?_ | intro _ | decide +kernel | omega)
  refine ev_loop (ι := Nat) (fun k => [(2, .ptr 0 0), (5, .c (.int .i64 (distTo r p k))), (8, .c (sI p)), (9, .c (.int .i64 p.length)), (10, .c (.int .i64 k))]) (fun k => [(0, .box [.c (sI r.low), .c (sI r.high)])]) (fun _ => []) (fun k => k ≤ r.low.length) (fun k => r.low.length - k) 0 [] (by simp [allLt_zero] <;> omega) (by simp only [go_sem, hP, ↓reduceIte, Nat.reduceAdd, Nat.reduceMul, Nat.reduceEqDiff, Nat.reduceSub, Nat.reduceLeDiff, reduceCtorEq]; simp) ?_
  intro k hk
  repeat' (first
    | exact True.intro
    | refine ev_seq ?_
    | ((first | refine vgd_go ?_ | refine ev_region hE hM (hS (by decide +kernel)) ?_ | refine ev_if ?_ | refine end_ret hE rfl rfl ?_ | refine end_norm hE rfl rfl ?_ | refine vcall_A ?_); simp (maxSteps := 2000000) only [go_sem, hP, ↓reduceIte, Nat.reduceAdd, Nat.reduceMul, Nat.reduceEqDiff, Nat.reduceSub, Nat.reduceLeDiff, reduceCtorEq])
    | refine ev_skip ?_ | refine ev_block ?_ | refine ev_blk ?_ | refine ev_ret ?_ | refine ev_exit ?_ | refine evx_code_ret ?_ | refine evx_blk_ret ?_ | refine evx_lp_ret ?_
    | refine evx_code_exit ?_ | refine evx_lp_exit ?_ | refine evx_blk_hit ?_ | refine evx_blk_pass (by decide) ?_
    | refine And.intro ?_ ?_ | intro _ | decide +kernel | omega)
  · exact ev_lp (k + 1) [] (by omega) (by omega) (by simp only [go_sem, hP, ↓reduceIte, Nat.reduceAdd, Nat.reduceMul, Nat.reduceEqDiff, Nat.reduceSub, Nat.reduceLeDiff, reduceCtorEq]; simp; exact ⟨by simpa [distTo] using dist_impl g k (by omega) (distTo r p k), wrap_nat (by omega) hl.1⟩)
  · have : k = r.low.length := by omega
    subst this; rfl
structure Query where
  kind : Int
  rect : Rect
  point : List Int
  k : Int
  deriving DecidableEq, Inhabited
def eQuery (x : Query) : List C := [.int .i64 x.kind, sI x.rect.low, sI x.rect.high, sI x.point, .int .i64 x.k]
def oQuery (x : Query) : List C := [.int .i64 x.kind, oI x.rect.low, oI x.rect.high, oI x.point, .int .i64 x.k]
@[go_sem] theorem eQuery_eq (x : Query) : eQuery x = [.int .i64 x.kind, sI x.rect.low, sI x.rect.high, sI x.point, .int .i64 x.k] := rfl
@[go_sem] theorem oQuery_eq (x : Query) : oQuery x = [.int .i64 x.kind, oI x.rect.low, oI x.rect.high, oI x.point, .int .i64 x.k] := rfl
theorem stripC_oQuery (x : Query) : Cs.strip (oQuery x) = eQuery x := by simp [oQuery, eQuery, Cs.strip, C.strip, strip_eI]
theorem stripC_eQuery (x : Query) : Cs.strip (eQuery x) = eQuery x := by simp [eQuery, Cs.strip, C.strip, strip_eI]
@[go_sem] theorem strip_oQuery (xs : List Query) : Es.strip (xs.map oQuery) = xs.map eQuery := by rw [Es.strip_map]; simp [Function.comp_def, stripC_oQuery]
@[go_sem] theorem strip_eQuery (xs : List Query) : Es.strip (xs.map eQuery) = xs.map eQuery := by rw [Es.strip_map]; simp [Function.comp_def, stripC_eQuery]
@[go_sem] abbrev aQuery (x : Query) : Arg := .d (true, eQuery x)
@[go_sem] abbrev pQuery (x : Query) : Arg := .pv (eQuery x)
@[go_sem] abbrev rQuery (x : Query) : List Dat := [(true, oQuery x)]
theorem bnd_Query {x : Query} {gs : List Arg} (h : Args.bnd (aQuery x :: gs)) : x.rect.low.length ≤ maxLen ∧ x.rect.high.length ≤ maxLen ∧ x.point.length ≤ maxLen := by
  have h0 := h.1.2.1.1; rw [List.length_map] at h0
  have h1 := h.1.2.2.1.1; rw [List.length_map] at h1
  have h2 := h.1.2.2.2.1.1; rw [List.length_map] at h2
  exact ⟨h0, h1, h2⟩
theorem bndp_Query {x : Query} {gs : List Arg} (h : Args.bnd (pQuery x :: gs)) : x.rect.low.length ≤ maxLen ∧ x.rect.high.length ≤ maxLen ∧ x.point.length ≤ maxLen := by
  have h0 := h.1.2.1.1; rw [List.length_map] at h0
  have h1 := h.1.2.2.1.1; rw [List.length_map] at h1
  have h2 := h.1.2.2.2.1.1; rw [List.length_map] at h2
  exact ⟨h0, h1, h2⟩
theorem eqQuery (a b : Query) : a = b ↔ a.kind = b.kind ∧ a.rect = b.rect ∧ a.point = b.point ∧ a.k = b.k := by cases a; cases b; simp
def wQuery (x : Query) : Nat := wR x.rect + x.point.length
theorem s_toQuery (x : Query) (h : wQuery x ≤ 1048576) : Sat Try.prog 38 [aQuery x] true (rQuery x) := by
  refine sat_walk (fn := Try.f38) rfl rfl rfl (Nat.le_of_ble_eq_true rfl) fun fr hP hN hbnd => ?_
  have hE : (envOf fr Try.prog).Ok := envOf_ok hP
  have hM := follows_of hP
  have hS : ∀ {draw ops}, statB Try.f38.ntmps draw ops = true → statB (envOf fr Try.prog).fr.N draw ops = true := fun h => by rw [envOf_fr, hN]; exact h
  simp only [wQuery] at h
  repeat' (first
    | exact True.intro
    | refine ev_seq ?_
    | ((first | refine vgd_go ?_ | refine ev_region hE hM (hS (by decide +kernel)) ?_ | refine ev_if ?_ | refine end_ret hE rfl rfl ?_ | refine end_norm hE rfl rfl ?_ | refine vcall_A ?_ | refine vcallB_of hP (s_toRect x.rect (by omega)) ?_ | refine vcallB_of hP (s_toInt64S x.point (by omega)) ?_); simp (maxSteps := 2000000) only [go_sem, hP, ↓reduceIte, Nat.reduceAdd, Nat.reduceMul, Nat.reduceEqDiff, Nat.reduceSub, Nat.reduceLeDiff, reduceCtorEq])
    | refine ev_skip ?_ | refine ev_block ?_ | refine ev_blk ?_ | refine ev_ret ?_ | refine ev_exit ?_ | refine evx_code_ret ?_ | refine evx_blk_ret ?_ | refine evx_lp_ret ?_
    | refine evx_code_exit ?_ | refine evx_lp_exit ?_ | refine evx_blk_hit ?_ | refine evx_blk_pass (by decide) ?_
    | refine And.intro ?_ ?_ | intro _ | decide +kernel | omega)
theorem s_szQuery (x : Query) (left : Int) (h0 : 0 ≤ left) (h1 : left ≤ 1048576) : Sat Try.prog 36 [aQuery x, aI left] true (rI (lessN (wQuery x) left)) := by
  refine sat_walk (fn := Try.f36) rfl rfl rfl (Nat.le_of_ble_eq_true rfl) fun fr hP hN hbnd => ?_
  have hE : (envOf fr Try.prog).Ok := envOf_ok hP
  have hM := follows_of hP
  have hS : ∀ {draw ops}, statB Try.f36.ntmps draw ops = true → statB (envOf fr Try.prog).fr.N draw ops = true := fun h => by rw [envOf_fr, hN]; exact h
  repeat' (first
    | exact True.intro
    | refine ev_seq ?_
    | ((first | refine vgd_go ?_ | refine ev_region hE hM (hS (by decide +kernel)) ?_ | refine ev_if ?_ | refine end_ret hE rfl rfl ?_ | refine end_norm hE rfl rfl ?_ | refine vcall_A ?_ | refine vcallB_of hP (s_szRect x.rect _ (by (try simp only [lessN] at *); omega) (by (try simp only [lessN] at *); omega)) ?_ | refine vcallB_of hP (s_szInt64S x.point _ (by (try simp only [lessN] at *); omega) (by (try simp only [lessN] at *); omega)) ?_); simp (maxSteps := 2000000) only [go_sem, hP, ↓reduceIte, Nat.reduceAdd, Nat.reduceMul, Nat.reduceEqDiff, Nat.reduceSub, Nat.reduceLeDiff, reduceCtorEq])
    | refine ev_skip ?_ | refine ev_block ?_ | refine ev_blk ?_ | refine ev_ret ?_ | refine ev_exit ?_ | refine evx_code_ret ?_ | refine evx_blk_ret ?_ | refine evx_lp_ret ?_
    | refine evx_code_exit ?_ | refine evx_lp_exit ?_ | refine evx_blk_hit ?_ | refine evx_blk_pass (by decide) ?_
    | refine And.intro ?_ ?_ | intro _ | decide +kernel | omega)
  all_goals simp_all only [lessN, wQuery]
  all_goals omega
theorem s_eqQuery (a b : Query) : Sat Try.prog 40 [aQuery a, aQuery b] true (rB (decide (a = b))) := by
  refine sat_walk (fn := Try.f40) rfl rfl rfl (Nat.le_of_ble_eq_true rfl) fun fr hP hN hbnd => ?_
  have hE : (envOf fr Try.prog).Ok := envOf_ok hP
  have hM := follows_of hP
  have hS : ∀ {draw ops}, statB Try.f40.ntmps draw ops = true → statB (envOf fr Try.prog).fr.N draw ops = true := fun h => by rw [envOf_fr, hN]; exact h
  repeat' (first
    | exact True.intro
    | refine ev_seq ?_
    | ((first | refine vgd_go ?_ | refine ev_region hE hM (hS (by decide +kernel)) ?_ | refine ev_if ?_ | refine end_ret hE rfl rfl ?_ | refine end_norm hE rfl rfl ?_ | refine vcall_A ?_ | refine vcallB_of hP (s_eqRect a.rect b.rect) ?_ | refine vcallB_of hP (s_eqInt64S a.point b.point) ?_); simp (maxSteps := 2000000) only [go_sem, hP, ↓reduceIte, Nat.reduceAdd, Nat.reduceMul, Nat.reduceEqDiff, Nat.reduceSub, Nat.reduceLeDiff, reduceCtorEq])
    | refine ev_skip ?_ | refine ev_block ?_ | refine ev_blk ?_ | refine ev_ret ?_ | refine ev_exit ?_ | refine evx_code_ret ?_ | refine evx_blk_ret ?_ | refine evx_lp_ret ?_
    | refine evx_code_exit ?_ | refine evx_lp_exit ?_ | refine evx_blk_hit ?_ | refine evx_blk_pass (by decide) ?_
    | refine And.intro ?_ ?_ | intro _ | decide +kernel | omega)
  all_goals simp_all [eqQuery]
theorem shp_Query {n t : Nat} {cs : List C} (ht : (Try.prog.underlying t).bind fieldTs = some [2, 24, 22, 2]) (h : shp Try.prog (n + 4) t cs) : ∃ x, cs = eQuery x := by
  obtain ⟨c0, g0, rfl, h0, c1, g1, rfl, h1, c2, g2, rfl, h2, c3, g3, rfl, h3, rfl⟩ := shp_struct ht h
  obtain ⟨v0, rfl, _⟩ := shp_i64 (n := n + 2) rfl h0
  obtain ⟨v1, rfl⟩ := shp_R (n := n + 0) rfl h1
  obtain ⟨v2, rfl, _⟩ := shp_ints (n := n + 1) (e := 2) rfl rfl rfl h2
  obtain ⟨v3, rfl, _⟩ := shp_i64 (n := n + 2) rfl h3
  exact ⟨⟨v0, v1, v2, v3⟩, rfl⟩
def boxed (k : Int) : Bool := decide (k = 1) || decide (k = 2)
def qForm (q : Query) : Bool := inB q.kind 1 4 && !(boxed q.kind && decide (0 < q.point.length)) && !(!boxed q.kind && decide (0 < q.rect.low.length + q.rect.high.length)) && !(decide (q.kind ≠ 4) && decide (q.k ≠ 0))
def qf (q : Query) (d : Int) : Int := if inB d 2 3 = false then 3 else if qForm q = false then 1 else if boxed q.kind then rf q.rect d else if pf q.point d ≠ 0 then pf q.point d else if (decide (q.kind = 4) && !inB q.k 1 20) then 3 else 0
theorem s_hasRect (k : Int) : Sat Try.prog 156 [aI k] true (rB (boxed k)) := by
  refine sat_walk (fn := Try.f156) rfl rfl rfl (Nat.le_of_ble_eq_true rfl) fun fr hP hN hbnd => ?_
  have hE : (envOf fr Try.prog).Ok := envOf_ok hP
  have hM := follows_of hP
  have hS : ∀ {draw ops}, statB Try.f156.ntmps draw ops = true → statB (envOf fr Try.prog).fr.N draw ops = true := fun h => by rw [envOf_fr, hN]; exact h
  repeat' (first
    | exact True.intro
    | refine ev_seq ?_
    | ((first | refine vgd_go ?_ | refine ev_region hE hM (hS (by decide +kernel)) ?_ | refine ev_if ?_ | refine end_ret hE rfl rfl ?_ | refine end_norm hE rfl rfl ?_ | refine vcall_A ?_); simp (maxSteps := 2000000) only [go_sem, hP, ↓reduceIte, Nat.reduceAdd, Nat.reduceMul, Nat.reduceEqDiff, Nat.reduceSub, Nat.reduceLeDiff, reduceCtorEq])
    | refine ev_skip ?_ | refine ev_block ?_ | refine ev_blk ?_ | refine ev_ret ?_ | refine ev_exit ?_ | refine evx_code_ret ?_ | refine evx_blk_ret ?_ | refine evx_lp_ret ?_
    | refine evx_code_exit ?_ | refine evx_lp_exit ?_ | refine evx_blk_hit ?_ | refine evx_blk_pass (by decide) ?_
    | refine And.intro ?_ ?_ | intro _ | decide +kernel | omega)
  all_goals (simp_all [boxed] <;> rfl)
theorem s_specQueryFault (q : Query) (d : Int) (hw : wQuery q ≤ 1048576) : Sat Try.prog 100 [aQuery q, aI d] true (rI (qf q d)) := by
  refine sat_walk (fn := Try.f100) rfl rfl rfl (Nat.le_of_ble_eq_true rfl) fun fr hP hN hbnd => ?_
  have hE : (envOf fr Try.prog).Ok := envOf_ok hP
  have hM := follows_of hP
  have hS : ∀ {draw ops}, statB Try.f100.ntmps draw ops = true → statB (envOf fr Try.prog).fr.N draw ops = true := fun h => by rw [envOf_fr, hN]; exact h
  have hs : IntKind.i64.wrap ((q.rect.low.length : Int) + q.rect.high.length) = q.rect.low.length + q.rect.high.length := i64_in _ (by simp only [wQuery, wR] at hw; omega)
  repeat' (first
    | exact True.intro
    | refine ev_seq ?_
    | ((first | refine ev_regionJ 3 [] [(1, .c (.int .i64 d)), (2, .ptr 0 0), (5, .c (.bool (boxed q.kind)))] [(0, .box [.c (.int .i64 q.kind), .c (sI q.rect.low), .c (sI q.rect.high), .c (sI q.point), .c (.int .i64 q.k)])] [] rfl hE hM (hS (by decide +kernel)) ?_ ?_ | refine vgd_go ?_ | refine ev_region hE hM (hS (by decide +kernel)) ?_ | refine ev_if ?_ | refine end_ret hE rfl rfl ?_ | refine end_norm hE rfl rfl ?_ | refine vcall_A ?_ | refine vcallB_of hP (s_l1In _ _ _) ?_ | refine vcallB_of hP (s_specRectFault q.rect _) ?_ | refine vcallB_of hP (s_specPointFault _ _) ?_); simp (maxSteps := 2000000) only [go_sem, hP, ↓reduceIte, Nat.reduceAdd, Nat.reduceMul, Nat.reduceEqDiff, Nat.reduceSub, Nat.reduceLeDiff, reduceCtorEq, hs])
    | refine ev_skip ?_ | refine ev_block ?_ | refine ev_blk ?_ | refine ev_ret ?_ | refine ev_exit ?_ | refine evx_code_ret ?_ | refine evx_blk_ret ?_ | refine evx_lp_ret ?_
    | refine evx_code_exit ?_ | refine evx_lp_exit ?_ | refine evx_blk_hit ?_ | refine evx_blk_pass (by decide) ?_
    | refine And.intro ?_ ?_ | intro _ | decide +kernel | omega)
  all_goals first
    | rfl
    | (simp_all [qf, qForm, boxed]; done)
    | (simp [qf, qForm, boxed] at *; grind [List.length_eq_zero_iff])
theorem s_implQueryFault (q : Query) (d : Int) : Sat Try.prog 103 [aQuery q, aI d] true (rI (qf q d)) := by
  refine sat_walk (fn := Try.f103) rfl rfl rfl (Nat.le_of_ble_eq_true rfl) fun fr hP hN hbnd => ?_
  have hE : (envOf fr Try.prog).Ok := envOf_ok hP
  have hM := follows_of hP
  have hS : ∀ {draw ops}, statB Try.f103.ntmps draw ops = true → statB (envOf fr Try.prog).fr.N draw ops = true := fun h => by rw [envOf_fr, hN]; exact h
  repeat' (first
    | exact True.intro
    | refine ev_seq ?_
    | ((first | refine vgd_go ?_ | refine ev_region hE hM (hS (by decide +kernel)) ?_ | refine ev_if ?_ | refine end_ret hE rfl rfl ?_ | refine end_norm hE rfl rfl ?_ | refine vcall_A ?_ | refine vcallB_of hP (s_isDims _) ?_ | refine vcallB_of hP (s_within _ _ _) ?_ | refine vcallB_of hP (s_hasRect _) ?_ | refine vcallB_of hP (s_implRectFault q.rect _) ?_ | refine vcallB_of hP (s_implPointFault _ _) ?_); simp (maxSteps := 2000000) only [go_sem, hP, ↓reduceIte, Nat.reduceAdd, Nat.reduceMul, Nat.reduceEqDiff, Nat.reduceSub, Nat.reduceLeDiff, reduceCtorEq])
    | refine ev_skip ?_ | refine ev_block ?_ | refine ev_blk ?_ | refine ev_ret ?_ | refine ev_exit ?_ | refine evx_code_ret ?_ | refine evx_blk_ret ?_ | refine evx_lp_ret ?_
    | refine evx_code_exit ?_ | refine evx_lp_exit ?_ | refine evx_blk_hit ?_ | refine evx_blk_pass (by decide) ?_
    | refine And.intro ?_ ?_ | intro _ | decide +kernel | omega)
  all_goals first
    | rfl
    | (simp_all [qf, qForm, boxed]; done)
    | (simp [qf, qForm, boxed] at *; grind [List.length_eq_zero_iff])
def qm (q : Query) (r : Rect) : Bool := if q.kind = 1 then meets q.rect r else if q.kind = 2 then covers q.rect r else if q.kind = 3 then decide (dist r q.point = 0) else true
def matchesAll (q : Query) (d : Int) (r : Rect) : Bool := decide (qf q d = 0) && decide (rf r d = 0) && qm q r
theorem qf_rect {q : Query} {d : Int} (h : qf q d = 0) (hk : q.kind = 1 ∨ q.kind = 2) : rf q.rect d = 0 := by
  have hb : boxed q.kind = true := by unfold boxed; rcases hk with h | h <;> simp [h]
  unfold qf at h
  (repeat' split at h) <;> simp_all
theorem qf_point {q : Query} {d : Int} (h : qf q d = 0) (hk : q.kind = 3 ∨ q.kind = 4) : pf q.point d = 0 := by
  have hb : boxed q.kind = false := by unfold boxed; rcases hk with h | h <;> simp [h]
  unfold qf at h
  (repeat' split at h) <;> simp_all
theorem lens_of {a b : Rect} {d : Int} (h1 : rf a d = 0) (h2 : rf b d = 0) : Lens a b := by
  have e1 := rf_len h1
  have e2 := rf_len h2
  exact ⟨by omega, by omega, by omega⟩
theorem s_implMatchesQ (q : Query) (r : Rect) (d : Int) (h1 : qf q d = 0) (h2 : rf r d = 0) : Sat Try.prog 104 [aQuery q, aR r] true (rB (qm q r)) := by
  refine sat_walk (fn := Try.f104) rfl rfl rfl (Nat.le_of_ble_eq_true rfl) fun fr hP hN hbnd => ?_
  have hE : (envOf fr Try.prog).Ok := envOf_ok hP
  have hM := follows_of hP
  have hS : ∀ {draw ops}, statB Try.f104.ntmps draw ops = true → statB (envOf fr Try.prog).fr.N draw ops = true := fun h => by rw [envOf_fr, hN]; exact h
  repeat' (first
    | exact True.intro
    | refine ev_seq ?_
    | ((first | refine vgd_go ?_ | refine ev_region hE hM (hS (by decide +kernel)) ?_ | refine ev_if ?_ | refine end_ret hE rfl rfl ?_ | refine end_norm hE rfl rfl ?_ | refine vcall_A ?_ | refine vcallB_of hP (s_implmeets q.rect r (lens_of (qf_rect h1 (by simp_all)) h2)) ?_ | refine vcallB_of hP (s_implcovers q.rect r (lens_of (qf_rect h1 (by simp_all)) h2)) ?_ | refine vcallB_of hP (s_implDist r q.point (good_of h2 (qf_point h1 (by simp_all)))) ?_); simp (maxSteps := 2000000) only [go_sem, hP, ↓reduceIte, Nat.reduceAdd, Nat.reduceMul, Nat.reduceEqDiff, Nat.reduceSub, Nat.reduceLeDiff, reduceCtorEq])
    | refine ev_skip ?_ | refine ev_block ?_ | refine ev_blk ?_ | refine ev_ret ?_ | refine ev_exit ?_ | refine evx_code_ret ?_ | refine evx_blk_ret ?_ | refine evx_lp_ret ?_
    | refine evx_code_exit ?_ | refine evx_lp_exit ?_ | refine evx_blk_hit ?_ | refine evx_blk_pass (by decide) ?_
    | refine And.intro ?_ ?_ | intro _ | decide +kernel | omega)
  all_goals (simp_all [qm] <;> rfl)
theorem s_l2Matches (q : Query) (r : Rect) (d : Int) (h1 : qf q d = 0) (h2 : rf r d = 0) : Sat Try.prog 102 [pQuery q, pR r] true (rB (qm q r)) := by
  refine sat_walk (fn := Try.f102) rfl rfl rfl (Nat.le_of_ble_eq_true rfl) fun fr hP hN hbnd => ?_
  have hE : (envOf fr Try.prog).Ok := envOf_ok hP
  have hM := follows_of hP
  have hS : ∀ {draw ops}, statB Try.f102.ntmps draw ops = true → statB (envOf fr Try.prog).fr.N draw ops = true := fun h => by rw [envOf_fr, hN]; exact h
  repeat' (first
    | exact True.intro
    | refine ev_seq ?_
    | ((first | refine vgd_go ?_ | refine ev_region hE hM (hS (by decide +kernel)) ?_ | refine ev_if ?_ | refine end_ret hE rfl rfl ?_ | refine end_norm hE rfl rfl ?_ | refine vcall_A ?_ | refine vcallB_of hP (s_l1Meets q.rect r (lens_of (qf_rect h1 (by simp_all)) h2)) ?_ | refine vcallB_of hP (s_l1Covers q.rect r (lens_of (qf_rect h1 (by simp_all)) h2)) ?_ | refine vcallB_of hP (s_l1Dist r q.point (good_of h2 (qf_point h1 (by simp_all)))) ?_); simp (maxSteps := 2000000) only [go_sem, hP, ↓reduceIte, Nat.reduceAdd, Nat.reduceMul, Nat.reduceEqDiff, Nat.reduceSub, Nat.reduceLeDiff, reduceCtorEq])
    | refine ev_skip ?_ | refine ev_block ?_ | refine ev_blk ?_ | refine ev_ret ?_ | refine ev_exit ?_ | refine evx_code_ret ?_ | refine evx_blk_ret ?_ | refine evx_lp_ret ?_
    | refine evx_code_exit ?_ | refine evx_lp_exit ?_ | refine evx_blk_hit ?_ | refine evx_blk_pass (by decide) ?_
    | refine And.intro ?_ ?_ | intro _ | decide +kernel | omega)
  all_goals (simp_all [qm] <;> rfl)
theorem s_specMatches (q : Query) (d : Int) (r : Rect) (hw : wQuery q ≤ 1048576) : Sat Try.prog 37 [aQuery q, aI d, aR r] true (rB (matchesAll q d r)) := by
  refine sat_walk (fn := Try.f37) rfl rfl rfl (Nat.le_of_ble_eq_true rfl) fun fr hP hN hbnd => ?_
  have hE : (envOf fr Try.prog).Ok := envOf_ok hP
  have hM := follows_of hP
  have hS : ∀ {draw ops}, statB Try.f37.ntmps draw ops = true → statB (envOf fr Try.prog).fr.N draw ops = true := fun h => by rw [envOf_fr, hN]; exact h
  repeat' (first
    | exact True.intro
    | refine ev_seq ?_
    | ((first | refine vgd_go ?_ | refine ev_region hE hM (hS (by decide +kernel)) ?_ | refine ev_if ?_ | refine end_ret hE rfl rfl ?_ | refine end_norm hE rfl rfl ?_ | refine vcall_A ?_ | refine vcallB_of hP (s_specQueryFault q d hw) ?_ | refine vcallB_of hP (s_specRectFault r d) ?_ | refine vcallB_of hP (s_l2Matches q r d (by simp_all) (by simp_all)) ?_); simp (maxSteps := 2000000) only [go_sem, hP, ↓reduceIte, Nat.reduceAdd, Nat.reduceMul, Nat.reduceEqDiff, Nat.reduceSub, Nat.reduceLeDiff, reduceCtorEq])
    | refine ev_skip ?_ | refine ev_block ?_ | refine ev_blk ?_ | refine ev_ret ?_ | refine ev_exit ?_ | refine evx_code_ret ?_ | refine evx_blk_ret ?_ | refine evx_lp_ret ?_
    | refine evx_code_exit ?_ | refine evx_lp_exit ?_ | refine evx_blk_hit ?_ | refine evx_blk_pass (by decide) ?_
    | refine And.intro ?_ ?_ | intro _ | decide +kernel | omega)
  all_goals (simp_all [matchesAll] <;> rfl)
theorem s_implMatches (q : Query) (d : Int) (r : Rect) : Sat Try.prog 39 [aQuery q, aI d, aR r] true (rB (matchesAll q d r)) := by
  refine sat_walk (fn := Try.f39) rfl rfl rfl (Nat.le_of_ble_eq_true rfl) fun fr hP hN hbnd => ?_
  have hE : (envOf fr Try.prog).Ok := envOf_ok hP
  have hM := follows_of hP
  have hS : ∀ {draw ops}, statB Try.f39.ntmps draw ops = true → statB (envOf fr Try.prog).fr.N draw ops = true := fun h => by rw [envOf_fr, hN]; exact h
  repeat' (first
    | exact True.intro
    | refine ev_seq ?_
    | ((first | refine vgd_go ?_ | refine ev_region hE hM (hS (by decide +kernel)) ?_ | refine ev_if ?_ | refine end_ret hE rfl rfl ?_ | refine end_norm hE rfl rfl ?_ | refine vcall_A ?_ | refine vcallB_of hP (s_implQueryFault q d) ?_ | refine vcallB_of hP (s_implRectFault r d) ?_ | refine vcallB_of hP (s_implMatchesQ q r d (by simp_all) (by simp_all)) ?_); simp (maxSteps := 2000000) only [go_sem, hP, ↓reduceIte, Nat.reduceAdd, Nat.reduceMul, Nat.reduceEqDiff, Nat.reduceSub, Nat.reduceLeDiff, reduceCtorEq])
    | refine ev_skip ?_ | refine ev_block ?_ | refine ev_blk ?_ | refine ev_ret ?_ | refine ev_exit ?_ | refine evx_code_ret ?_ | refine evx_blk_ret ?_ | refine evx_lp_ret ?_
    | refine evx_code_exit ?_ | refine evx_lp_exit ?_ | refine evx_blk_hit ?_ | refine evx_blk_pass (by decide) ?_
    | refine And.intro ?_ ?_ | intro _ | decide +kernel | omega)
  all_goals (simp_all [matchesAll] <;> rfl)
theorem l_Matches (a : Query) (b : Int) (c : Rect) : Sat Try.prog 7 [aQuery a, aI b, aR c] true (rB true) := by
  refine sat_walk (fn := Try.f7) rfl rfl rfl (Nat.le_of_ble_eq_true rfl) fun fr hP hN hbnd => ?_
  have hE : (envOf fr Try.prog).Ok := envOf_ok hP
  have hM := follows_of hP
  have hS : ∀ {draw ops}, statB Try.f7.ntmps draw ops = true → statB (envOf fr Try.prog).fr.N draw ops = true := fun h => by rw [envOf_fr, hN]; exact h
  repeat' (first
    | exact True.intro
    | refine ev_seq ?_
    | ((first | refine vgd_go ?_ | refine ev_region hE hM (hS (by decide +kernel)) ?_ | refine ev_if ?_ | refine end_ret hE rfl rfl ?_ | refine end_norm hE rfl rfl ?_ | refine vcall_A ?_ | refine vcallB_of hP (s_szQuery a _ (by omega) (by omega)) ?_ | refine vcallB_of hP (s_szRect c _ (by simp only [lessN] at *; omega) (by simp only [lessN] at *; omega)) ?_ | refine vcallB_of hP (s_toQuery a (by simp only [lessN] at *; omega)) ?_ | refine vcallB_of hP (s_toRect c (by simp only [lessN] at *; omega)) ?_ | refine vcallB_of hP (s_specMatches a b c (by simp only [lessN] at *; omega)) ?_ | refine vcallB_of hP (s_implMatches a b c) ?_ | refine vcallB_of hP (s_eqQuery a a) ?_ | refine vcallB_of hP (s_eqRect c c) ?_); simp (maxSteps := 2000000) only [go_sem, hP, ↓reduceIte, Nat.reduceAdd, Nat.reduceMul, Nat.reduceEqDiff, Nat.reduceSub, Nat.reduceLeDiff, reduceCtorEq])
    | refine ev_skip ?_ | refine ev_block ?_ | refine ev_blk ?_ | refine ev_ret ?_ | refine ev_exit ?_ | refine evx_code_ret ?_ | refine evx_blk_ret ?_ | refine evx_lp_ret ?_
    | refine evx_code_exit ?_ | refine evx_lp_exit ?_ | refine evx_blk_hit ?_ | refine evx_blk_pass (by decide) ?_
    | refine And.intro ?_ ?_ | intro _ | decide +kernel | omega)
  all_goals simp_all
theorem all_Matches (gs : List Arg) (h : shpA Try.prog 12 [55, 2, 24] gs) : Sat Try.prog 7 gs true (rB true) := by
  obtain ⟨x0, gs, rfl, h0, x1, gs, rfl, h1, x2, gs, rfl, h2, rfl⟩ := h
  obtain ⟨a, rfl⟩ := shp_Query (n := 8) rfl h0
  obtain ⟨b, rfl, _⟩ := shp_i64 (n := 11) rfl h1
  obtain ⟨c, rfl⟩ := shp_R (n := 9) rfl h2
  exact l_Matches a b c
end Go.Proofs.Ytcnodghbkoeohaa.W
