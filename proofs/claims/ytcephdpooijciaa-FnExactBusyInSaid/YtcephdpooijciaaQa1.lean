/- Contracts of functions that FnExactBusyIn reaches: what each returns; it writes to nothing of old. No condition but those that each theorem states. -/
import Derived.Test.YtcephdpooijciaaQa0
open Go Go.Vm Go.Proofs Go.IntWalk Go.RowKit
set_option maxRecDepth 100000
set_option maxHeartbeats 4000000
set_option linter.unusedSimpArgs false
set_option linter.unusedVariables false
set_option linter.unusedSectionVars false
namespace Go.Proofs.Ytcephdpooijciaa.W
attribute [local irreducible] kJ ev evx vops vstep vgo vgd vget vcall vcallFn vcallA vcallB vts vres vcond vbin
theorem s_toOp (x : Op) (h : wOp x ≤ 1048576) : Sat Try.prog 195 [aOp x] true (rOp x) := by
  refine sat_walk (fn := Try.f195) rfl rfl rfl (Nat.le_of_ble_eq_true rfl) fun fr hP hN hbnd => ?_
  have hE : (envOf fr Try.prog).Ok := envOf_ok hP
  have hM := follows_of hP
  have hS : ∀ {draw ops}, statB Try.f195.ntmps draw ops = true → statB (envOf fr Try.prog).fr.N draw ops = true := fun h => by rw [envOf_fr, hN]; exact h
  simp only [wOp] at h
  repeat' (first
    | exact True.intro
    | refine ev_seq ?_
    | ((first | refine vgd_go ?_ | refine ev_region hE hM (hS (by decide +kernel)) ?_ | refine ev_if ?_ | refine end_ret hE rfl rfl ?_ | refine end_norm hE rfl rfl ?_ | refine endG_ret [] hE rfl ?_ | refine endG_norm [] hE rfl ?_ | refine vcallB_of hP (s_toPair x.pair (by omega)) ?_ | refine vcallB_of hP (s_toQuery x.query (by omega)) ?_ | refine vcall_A ?_); simp (maxSteps := 2000000) only [go_sem, hP, ↓reduceIte, Nat.reduceAdd, Nat.reduceMul, Nat.reduceEqDiff, Nat.reduceSub, Nat.reduceLeDiff, reduceCtorEq])
    | refine ev_skip ?_ | refine ev_block ?_ | refine ev_blk ?_ | refine ev_ret ?_ | refine ev_exit ?_ | refine evx_code_ret ?_ | refine evx_blk_ret ?_ | refine evx_lp_ret ?_
    | refine evx_code_exit ?_ | refine evx_lp_exit ?_ | refine evx_blk_hit ?_ | refine evx_blk_pass (by decide) ?_
    | refine And.intro ?_ ?_ | intro _ | decide +kernel | omega)
theorem s_szOp (x : Op) (left : Int) (h0 : 0 ≤ left) (h1 : left ≤ 1048576) : Sat Try.prog 191 [aOp x, aI left] true (rI (lessN (wOp x) left)) := by
  refine sat_walk (fn := Try.f191) rfl rfl rfl (Nat.le_of_ble_eq_true rfl) fun fr hP hN hbnd => ?_
  have hE : (envOf fr Try.prog).Ok := envOf_ok hP
  have hM := follows_of hP
  have hS : ∀ {draw ops}, statB Try.f191.ntmps draw ops = true → statB (envOf fr Try.prog).fr.N draw ops = true := fun h => by rw [envOf_fr, hN]; exact h
  repeat' (first
    | exact True.intro
    | refine ev_seq ?_
    | ((first | refine vgd_go ?_ | refine ev_region hE hM (hS (by decide +kernel)) ?_ | refine ev_if ?_ | refine end_ret hE rfl rfl ?_ | refine end_norm hE rfl rfl ?_ | refine endG_ret [] hE rfl ?_ | refine endG_norm [] hE rfl ?_ | refine vcallB_of hP (s_szPair x.pair _ (by (try simp only [lessN] at *); omega) (by (try simp only [lessN] at *); omega)) ?_ | refine vcallB_of hP (s_szQuery x.query _ (by (try simp only [lessN] at *); omega) (by (try simp only [lessN] at *); omega)) ?_ | refine vcall_A ?_); simp (maxSteps := 2000000) only [go_sem, hP, ↓reduceIte, Nat.reduceAdd, Nat.reduceMul, Nat.reduceEqDiff, Nat.reduceSub, Nat.reduceLeDiff, reduceCtorEq])
    | refine ev_skip ?_ | refine ev_block ?_ | refine ev_blk ?_ | refine ev_ret ?_ | refine ev_exit ?_ | refine evx_code_ret ?_ | refine evx_blk_ret ?_ | refine evx_lp_ret ?_
    | refine evx_code_exit ?_ | refine evx_lp_exit ?_ | refine evx_blk_hit ?_ | refine evx_blk_pass (by decide) ?_
    | refine And.intro ?_ ?_ | intro _ | decide +kernel | omega)
  all_goals simp_all only [lessN, wOp]
  all_goals omega
theorem s_eqOp (a b : Op) : Sat Try.prog 197 [aOp a, aOp b] true (rB (decide (a = b))) := by
  refine sat_walk (fn := Try.f197) rfl rfl rfl (Nat.le_of_ble_eq_true rfl) fun fr hP hN hbnd => ?_
  have hE : (envOf fr Try.prog).Ok := envOf_ok hP
  have hM := follows_of hP
  have hS : ∀ {draw ops}, statB Try.f197.ntmps draw ops = true → statB (envOf fr Try.prog).fr.N draw ops = true := fun h => by rw [envOf_fr, hN]; exact h
  repeat' (first
    | exact True.intro
    | refine ev_seq ?_
    | ((first | refine vgd_go ?_ | refine ev_region hE hM (hS (by decide +kernel)) ?_ | refine ev_if ?_ | refine end_ret hE rfl rfl ?_ | refine end_norm hE rfl rfl ?_ | refine endG_ret [] hE rfl ?_ | refine endG_norm [] hE rfl ?_ | refine vcallB_of hP (s_eqPair a.pair b.pair) ?_ | refine vcallB_of hP (s_eqQuery a.query b.query) ?_ | refine vcall_A ?_); simp (maxSteps := 2000000) only [go_sem, hP, ↓reduceIte, Nat.reduceAdd, Nat.reduceMul, Nat.reduceEqDiff, Nat.reduceSub, Nat.reduceLeDiff, reduceCtorEq])
    | refine ev_skip ?_ | refine ev_block ?_ | refine ev_blk ?_ | refine ev_ret ?_ | refine ev_exit ?_ | refine evx_code_ret ?_ | refine evx_blk_ret ?_ | refine evx_lp_ret ?_
    | refine evx_code_exit ?_ | refine evx_lp_exit ?_ | refine evx_blk_hit ?_ | refine evx_blk_pass (by decide) ?_
    | refine And.intro ?_ ?_ | intro _ | decide +kernel | omega)
  all_goals simp_all [eqOp]
theorem shp_Op {n t : Nat} {cs : List C} (ht : (Try.prog.underlying t).bind fieldTs = some [2, 86, 195]) (h : shp Try.prog (n + 6) t cs) : ∃ x, cs = eOp x := by
  obtain ⟨c0, g0, rfl, h0, c1, g1, rfl, h1, c2, g2, rfl, h2, rfl⟩ := shp_struct ht h
  obtain ⟨v0, rfl, _⟩ := shp_i64 (n := n + 4) rfl h0
  obtain ⟨v1, rfl⟩ := shp_P (n := n + 0) rfl h1
  obtain ⟨v2, rfl⟩ := shp_Query (n := n + 1) rfl h2
  exact ⟨⟨v0, v1, v2⟩, rfl⟩
structure Answer where
  code : Int
  pairs : List Pair
  deriving DecidableEq, Inhabited
def eAnswer (x : Answer) : List C := [.int .i64 x.code, sP x.pairs]
def oAnswer (x : Answer) : List C := [.int .i64 x.code, oPs x.pairs]
@[go_sem] theorem eAnswer_eq (x : Answer) : eAnswer x = [.int .i64 x.code, sP x.pairs] := rfl
@[go_sem] theorem oAnswer_eq (x : Answer) : oAnswer x = [.int .i64 x.code, oPs x.pairs] := rfl
theorem stripC_oAnswer (x : Answer) : Cs.strip (oAnswer x) = eAnswer x := by simp [oAnswer, eAnswer, Cs.strip, C.strip, strip_eI, strip_eP, strip_oP]
theorem stripC_eAnswer (x : Answer) : Cs.strip (eAnswer x) = eAnswer x := by simp [eAnswer, Cs.strip, C.strip, strip_eI, strip_eP, strip_oP]
@[go_sem] theorem strip_oAnswer (xs : List Answer) : Es.strip (xs.map oAnswer) = xs.map eAnswer := by rw [Es.strip_map]; simp [Function.comp_def, stripC_oAnswer]
@[go_sem] theorem strip_eAnswer (xs : List Answer) : Es.strip (xs.map eAnswer) = xs.map eAnswer := by rw [Es.strip_map]; simp [Function.comp_def, stripC_eAnswer]
@[go_sem] abbrev aAnswer (x : Answer) : Arg := .d (true, eAnswer x)
@[go_sem] abbrev pAnswer (x : Answer) : Arg := .pv (eAnswer x)
@[go_sem] abbrev rAnswer (x : Answer) : List Dat := [(true, oAnswer x)]
theorem bnd_Answer {x : Answer} {gs : List Arg} (h : Args.bnd (aAnswer x :: gs)) : x.pairs.length ≤ maxLen := by
  have h0 := h.1.2.1.1; rw [List.length_map] at h0
  exact h0
theorem bndp_Answer {x : Answer} {gs : List Arg} (h : Args.bnd (pAnswer x :: gs)) : x.pairs.length ≤ maxLen := by
  have h0 := h.1.2.1.1; rw [List.length_map] at h0
  exact h0
theorem eqAnswer (a b : Answer) : a = b ↔ a.code = b.code ∧ a.pairs = b.pairs := by cases a; cases b; simp
def wAnswer (x : Answer) : Nat := wPs x.pairs
theorem s_toAnswer (x : Answer) (h : wAnswer x ≤ 1048576) : Sat Try.prog 196 [aAnswer x] true (rAnswer x) := by
  refine sat_walk (fn := Try.f196) rfl rfl rfl (Nat.le_of_ble_eq_true rfl) fun fr hP hN hbnd => ?_
  have hE : (envOf fr Try.prog).Ok := envOf_ok hP
  have hM := follows_of hP
  have hS : ∀ {draw ops}, statB Try.f196.ntmps draw ops = true → statB (envOf fr Try.prog).fr.N draw ops = true := fun h => by rw [envOf_fr, hN]; exact h
  simp only [wAnswer] at h
  repeat' (first
    | exact True.intro
    | refine ev_seq ?_
    | ((first | refine vgd_go ?_ | refine ev_region hE hM (hS (by decide +kernel)) ?_ | refine ev_if ?_ | refine end_ret hE rfl rfl ?_ | refine end_norm hE rfl rfl ?_ | refine endG_ret [] hE rfl ?_ | refine endG_norm [] hE rfl ?_ | refine vcallB_of hP (s_toPairS x.pairs (by omega)) ?_ | refine vcall_A ?_); simp (maxSteps := 2000000) only [go_sem, hP, ↓reduceIte, Nat.reduceAdd, Nat.reduceMul, Nat.reduceEqDiff, Nat.reduceSub, Nat.reduceLeDiff, reduceCtorEq])
    | refine ev_skip ?_ | refine ev_block ?_ | refine ev_blk ?_ | refine ev_ret ?_ | refine ev_exit ?_ | refine evx_code_ret ?_ | refine evx_blk_ret ?_ | refine evx_lp_ret ?_
    | refine evx_code_exit ?_ | refine evx_lp_exit ?_ | refine evx_blk_hit ?_ | refine evx_blk_pass (by decide) ?_
    | refine And.intro ?_ ?_ | intro _ | decide +kernel | omega)
theorem s_szAnswer (x : Answer) (left : Int) (h0 : 0 ≤ left) (h1 : left ≤ 1048576) : Sat Try.prog 192 [aAnswer x, aI left] true (rI (lessN (wAnswer x) left)) := by
  refine sat_walk (fn := Try.f192) rfl rfl rfl (Nat.le_of_ble_eq_true rfl) fun fr hP hN hbnd => ?_
  have hE : (envOf fr Try.prog).Ok := envOf_ok hP
  have hM := follows_of hP
  have hS : ∀ {draw ops}, statB Try.f192.ntmps draw ops = true → statB (envOf fr Try.prog).fr.N draw ops = true := fun h => by rw [envOf_fr, hN]; exact h
  repeat' (first
    | exact True.intro
    | refine ev_seq ?_
    | ((first | refine vgd_go ?_ | refine ev_region hE hM (hS (by decide +kernel)) ?_ | refine ev_if ?_ | refine end_ret hE rfl rfl ?_ | refine end_norm hE rfl rfl ?_ | refine endG_ret [] hE rfl ?_ | refine endG_norm [] hE rfl ?_ | refine vcallB_of hP (s_szPairS x.pairs _ (by (try simp only [lessN] at *); omega) (by (try simp only [lessN] at *); omega)) ?_ | refine vcall_A ?_); simp (maxSteps := 2000000) only [go_sem, hP, ↓reduceIte, Nat.reduceAdd, Nat.reduceMul, Nat.reduceEqDiff, Nat.reduceSub, Nat.reduceLeDiff, reduceCtorEq])
    | refine ev_skip ?_ | refine ev_block ?_ | refine ev_blk ?_ | refine ev_ret ?_ | refine ev_exit ?_ | refine evx_code_ret ?_ | refine evx_blk_ret ?_ | refine evx_lp_ret ?_
    | refine evx_code_exit ?_ | refine evx_lp_exit ?_ | refine evx_blk_hit ?_ | refine evx_blk_pass (by decide) ?_
    | refine And.intro ?_ ?_ | intro _ | decide +kernel | omega)
  all_goals simp_all only [lessN, wAnswer]
  all_goals omega
theorem s_eqAnswer (a b : Answer) : Sat Try.prog 198 [aAnswer a, aAnswer b] true (rB (decide (a = b))) := by
  refine sat_walk (fn := Try.f198) rfl rfl rfl (Nat.le_of_ble_eq_true rfl) fun fr hP hN hbnd => ?_
  have hE : (envOf fr Try.prog).Ok := envOf_ok hP
  have hM := follows_of hP
  have hS : ∀ {draw ops}, statB Try.f198.ntmps draw ops = true → statB (envOf fr Try.prog).fr.N draw ops = true := fun h => by rw [envOf_fr, hN]; exact h
  repeat' (first
    | exact True.intro
    | refine ev_seq ?_
    | ((first | refine vgd_go ?_ | refine ev_region hE hM (hS (by decide +kernel)) ?_ | refine ev_if ?_ | refine end_ret hE rfl rfl ?_ | refine end_norm hE rfl rfl ?_ | refine endG_ret [] hE rfl ?_ | refine endG_norm [] hE rfl ?_ | refine vcallB_of hP (s_eqPairS a.pairs b.pairs) ?_ | refine vcall_A ?_); simp (maxSteps := 2000000) only [go_sem, hP, ↓reduceIte, Nat.reduceAdd, Nat.reduceMul, Nat.reduceEqDiff, Nat.reduceSub, Nat.reduceLeDiff, reduceCtorEq])
    | refine ev_skip ?_ | refine ev_block ?_ | refine ev_blk ?_ | refine ev_ret ?_ | refine ev_exit ?_ | refine evx_code_ret ?_ | refine evx_blk_ret ?_ | refine evx_lp_ret ?_
    | refine evx_code_exit ?_ | refine evx_lp_exit ?_ | refine evx_blk_hit ?_ | refine evx_blk_pass (by decide) ?_
    | refine And.intro ?_ ?_ | intro _ | decide +kernel | omega)
  all_goals simp_all [eqAnswer]
theorem shp_Answer {n t : Nat} {cs : List C} (ht : (Try.prog.underlying t).bind fieldTs = some [2, 69]) (h : shp Try.prog (n + 7) t cs) : ∃ x, cs = eAnswer x := by
  obtain ⟨c0, g0, rfl, h0, c1, g1, rfl, h1, rfl⟩ := shp_struct ht h
  obtain ⟨v0, rfl, _⟩ := shp_i64 (n := n + 5) rfl h0
  obtain ⟨v1, rfl⟩ := shp_Ps (n := n + 0) rfl h1
  exact ⟨⟨v0, v1⟩, rfl⟩
structure Note where
  at_ : Int
  kind : Int
  client : Int
  op : Op
  answer : Answer
  deriving DecidableEq, Inhabited
def eNote (x : Note) : List C := [.int .i64 x.at_, .int .i64 x.kind, .int .i64 x.client, .int .i64 x.op.kind, .int .i64 x.op.pair.id, sI x.op.pair.rect.low, sI x.op.pair.rect.high, .int .i64 x.op.query.kind, sI x.op.query.rect.low, sI x.op.query.rect.high, sI x.op.query.point, .int .i64 x.op.query.k, .int .i64 x.answer.code, sP x.answer.pairs]
def oNote (x : Note) : List C := [.int .i64 x.at_, .int .i64 x.kind, .int .i64 x.client, .int .i64 x.op.kind, .int .i64 x.op.pair.id, oI x.op.pair.rect.low, oI x.op.pair.rect.high, .int .i64 x.op.query.kind, oI x.op.query.rect.low, oI x.op.query.rect.high, oI x.op.query.point, .int .i64 x.op.query.k, .int .i64 x.answer.code, oPs x.answer.pairs]
@[go_sem] theorem eNote_eq (x : Note) : eNote x = [.int .i64 x.at_, .int .i64 x.kind, .int .i64 x.client, .int .i64 x.op.kind, .int .i64 x.op.pair.id, sI x.op.pair.rect.low, sI x.op.pair.rect.high, .int .i64 x.op.query.kind, sI x.op.query.rect.low, sI x.op.query.rect.high, sI x.op.query.point, .int .i64 x.op.query.k, .int .i64 x.answer.code, sP x.answer.pairs] := rfl
@[go_sem] theorem oNote_eq (x : Note) : oNote x = [.int .i64 x.at_, .int .i64 x.kind, .int .i64 x.client, .int .i64 x.op.kind, .int .i64 x.op.pair.id, oI x.op.pair.rect.low, oI x.op.pair.rect.high, .int .i64 x.op.query.kind, oI x.op.query.rect.low, oI x.op.query.rect.high, oI x.op.query.point, .int .i64 x.op.query.k, .int .i64 x.answer.code, oPs x.answer.pairs] := rfl
theorem stripC_oNote (x : Note) : Cs.strip (oNote x) = eNote x := by simp [oNote, eNote, Cs.strip, C.strip, strip_eI, strip_eP, strip_oP]
theorem stripC_eNote (x : Note) : Cs.strip (eNote x) = eNote x := by simp [eNote, Cs.strip, C.strip, strip_eI, strip_eP, strip_oP]
@[go_sem] theorem strip_oNote (xs : List Note) : Es.strip (xs.map oNote) = xs.map eNote := by rw [Es.strip_map]; simp [Function.comp_def, stripC_oNote]
@[go_sem] theorem strip_eNote (xs : List Note) : Es.strip (xs.map eNote) = xs.map eNote := by rw [Es.strip_map]; simp [Function.comp_def, stripC_eNote]
@[go_sem] abbrev aNote (x : Note) : Arg := .d (true, eNote x)
@[go_sem] abbrev pNote (x : Note) : Arg := .pv (eNote x)
@[go_sem] abbrev rNote (x : Note) : List Dat := [(true, oNote x)]
theorem bnd_Note {x : Note} {gs : List Arg} (h : Args.bnd (aNote x :: gs)) : x.op.pair.rect.low.length ≤ maxLen ∧ x.op.pair.rect.high.length ≤ maxLen ∧ x.op.query.rect.low.length ≤ maxLen ∧ x.op.query.rect.high.length ≤ maxLen ∧ x.op.query.point.length ≤ maxLen ∧ x.answer.pairs.length ≤ maxLen := by
  have h0 := h.1.2.2.2.2.2.1.1; rw [List.length_map] at h0
  have h1 := h.1.2.2.2.2.2.2.1.1; rw [List.length_map] at h1
  have h2 := h.1.2.2.2.2.2.2.2.2.1.1; rw [List.length_map] at h2
  have h3 := h.1.2.2.2.2.2.2.2.2.2.1.1; rw [List.length_map] at h3
  have h4 := h.1.2.2.2.2.2.2.2.2.2.2.1.1; rw [List.length_map] at h4
  have h5 := h.1.2.2.2.2.2.2.2.2.2.2.2.2.2.1.1; rw [List.length_map] at h5
  exact ⟨h0, h1, h2, h3, h4, h5⟩
theorem bndp_Note {x : Note} {gs : List Arg} (h : Args.bnd (pNote x :: gs)) : x.op.pair.rect.low.length ≤ maxLen ∧ x.op.pair.rect.high.length ≤ maxLen ∧ x.op.query.rect.low.length ≤ maxLen ∧ x.op.query.rect.high.length ≤ maxLen ∧ x.op.query.point.length ≤ maxLen ∧ x.answer.pairs.length ≤ maxLen := by
  have h0 := h.1.2.2.2.2.2.1.1; rw [List.length_map] at h0
  have h1 := h.1.2.2.2.2.2.2.1.1; rw [List.length_map] at h1
  have h2 := h.1.2.2.2.2.2.2.2.2.1.1; rw [List.length_map] at h2
  have h3 := h.1.2.2.2.2.2.2.2.2.2.1.1; rw [List.length_map] at h3
  have h4 := h.1.2.2.2.2.2.2.2.2.2.2.1.1; rw [List.length_map] at h4
  have h5 := h.1.2.2.2.2.2.2.2.2.2.2.2.2.2.1.1; rw [List.length_map] at h5
  exact ⟨h0, h1, h2, h3, h4, h5⟩
theorem eqNote (a b : Note) : a = b ↔ a.at_ = b.at_ ∧ a.kind = b.kind ∧ a.client = b.client ∧ a.op = b.op ∧ a.answer = b.answer := by cases a; cases b; simp
def wNote (x : Note) : Nat := wOp x.op + wAnswer x.answer
theorem s_toNote (x : Note) (h : wNote x ≤ 1048576) : Sat Try.prog 158 [aNote x] true (rNote x) := by
  refine sat_walk (fn := Try.f158) rfl rfl rfl (Nat.le_of_ble_eq_true rfl) fun fr hP hN hbnd => ?_
  have hE : (envOf fr Try.prog).Ok := envOf_ok hP
  have hM := follows_of hP
  have hS : ∀ {draw ops}, statB Try.f158.ntmps draw ops = true → statB (envOf fr Try.prog).fr.N draw ops = true := fun h => by rw [envOf_fr, hN]; exact h
  simp only [wNote] at h
  repeat' (first
    | exact True.intro
    | refine ev_seq ?_
    | ((first | refine vgd_go ?_ | refine ev_region hE hM (hS (by decide +kernel)) ?_ | refine ev_if ?_ | refine end_ret hE rfl rfl ?_ | refine end_norm hE rfl rfl ?_ | refine endG_ret [] hE rfl ?_ | refine endG_norm [] hE rfl ?_ | refine vcallB_of hP (s_toOp x.op (by omega)) ?_ | refine vcallB_of hP (s_toAnswer x.answer (by omega)) ?_ | refine vcall_A ?_); simp (maxSteps := 2000000) only [go_sem, hP, ↓reduceIte, Nat.reduceAdd, Nat.reduceMul, Nat.reduceEqDiff, Nat.reduceSub, Nat.reduceLeDiff, reduceCtorEq])
    | refine ev_skip ?_ | refine ev_block ?_ | refine ev_blk ?_ | refine ev_ret ?_ | refine ev_exit ?_ | refine evx_code_ret ?_ | refine evx_blk_ret ?_ | refine evx_lp_ret ?_
    | refine evx_code_exit ?_ | refine evx_lp_exit ?_ | refine evx_blk_hit ?_ | refine evx_blk_pass (by decide) ?_
    | refine And.intro ?_ ?_ | intro _ | decide +kernel | omega)
theorem s_szNote (x : Note) (left : Int) (h0 : 0 ≤ left) (h1 : left ≤ 1048576) : Sat Try.prog 156 [aNote x, aI left] true (rI (lessN (wNote x) left)) := by
  refine sat_walk (fn := Try.f156) rfl rfl rfl (Nat.le_of_ble_eq_true rfl) fun fr hP hN hbnd => ?_
  have hE : (envOf fr Try.prog).Ok := envOf_ok hP
  have hM := follows_of hP
  have hS : ∀ {draw ops}, statB Try.f156.ntmps draw ops = true → statB (envOf fr Try.prog).fr.N draw ops = true := fun h => by rw [envOf_fr, hN]; exact h
  repeat' (first
    | exact True.intro
    | refine ev_seq ?_
    | ((first | refine vgd_go ?_ | refine ev_region hE hM (hS (by decide +kernel)) ?_ | refine ev_if ?_ | refine end_ret hE rfl rfl ?_ | refine end_norm hE rfl rfl ?_ | refine endG_ret [] hE rfl ?_ | refine endG_norm [] hE rfl ?_ | refine vcallB_of hP (s_szOp x.op _ (by (try simp only [lessN] at *); omega) (by (try simp only [lessN] at *); omega)) ?_ | refine vcallB_of hP (s_szAnswer x.answer _ (by (try simp only [lessN] at *); omega) (by (try simp only [lessN] at *); omega)) ?_ | refine vcall_A ?_); simp (maxSteps := 2000000) only [go_sem, hP, ↓reduceIte, Nat.reduceAdd, Nat.reduceMul, Nat.reduceEqDiff, Nat.reduceSub, Nat.reduceLeDiff, reduceCtorEq])
    | refine ev_skip ?_ | refine ev_block ?_ | refine ev_blk ?_ | refine ev_ret ?_ | refine ev_exit ?_ | refine evx_code_ret ?_ | refine evx_blk_ret ?_ | refine evx_lp_ret ?_
    | refine evx_code_exit ?_ | refine evx_lp_exit ?_ | refine evx_blk_hit ?_ | refine evx_blk_pass (by decide) ?_
    | refine And.intro ?_ ?_ | intro _ | decide +kernel | omega)
  all_goals simp_all only [lessN, wNote]
  all_goals omega
theorem s_eqNote (a b : Note) : Sat Try.prog 159 [aNote a, aNote b] true (rB (decide (a = b))) := by
  refine sat_walk (fn := Try.f159) rfl rfl rfl (Nat.le_of_ble_eq_true rfl) fun fr hP hN hbnd => ?_
  have hE : (envOf fr Try.prog).Ok := envOf_ok hP
  have hM := follows_of hP
  have hS : ∀ {draw ops}, statB Try.f159.ntmps draw ops = true → statB (envOf fr Try.prog).fr.N draw ops = true := fun h => by rw [envOf_fr, hN]; exact h
  repeat' (first
    | exact True.intro
    | refine ev_seq ?_
    | ((first | refine vgd_go ?_ | refine ev_region hE hM (hS (by decide +kernel)) ?_ | refine ev_if ?_ | refine end_ret hE rfl rfl ?_ | refine end_norm hE rfl rfl ?_ | refine endG_ret [] hE rfl ?_ | refine endG_norm [] hE rfl ?_ | refine vcallB_of hP (s_eqOp a.op b.op) ?_ | refine vcallB_of hP (s_eqAnswer a.answer b.answer) ?_ | refine vcall_A ?_); simp (maxSteps := 2000000) only [go_sem, hP, ↓reduceIte, Nat.reduceAdd, Nat.reduceMul, Nat.reduceEqDiff, Nat.reduceSub, Nat.reduceLeDiff, reduceCtorEq])
    | refine ev_skip ?_ | refine ev_block ?_ | refine ev_blk ?_ | refine ev_ret ?_ | refine ev_exit ?_ | refine evx_code_ret ?_ | refine evx_blk_ret ?_ | refine evx_lp_ret ?_
    | refine evx_code_exit ?_ | refine evx_lp_exit ?_ | refine evx_blk_hit ?_ | refine evx_blk_pass (by decide) ?_
    | refine And.intro ?_ ?_ | intro _ | decide +kernel | omega)
  all_goals simp_all [eqNote]
theorem shp_Note {n t : Nat} {cs : List C} (ht : (Try.prog.underlying t).bind fieldTs = some [2, 2, 2, 197, 199]) (h : shp Try.prog (n + 8) t cs) : ∃ x, cs = eNote x := by
  obtain ⟨c0, g0, rfl, h0, c1, g1, rfl, h1, c2, g2, rfl, h2, c3, g3, rfl, h3, c4, g4, rfl, h4, rfl⟩ := shp_struct ht h
  obtain ⟨v0, rfl, _⟩ := shp_i64 (n := n + 6) rfl h0
  obtain ⟨v1, rfl, _⟩ := shp_i64 (n := n + 6) rfl h1
  obtain ⟨v2, rfl, _⟩ := shp_i64 (n := n + 6) rfl h2
  obtain ⟨v3, rfl⟩ := shp_Op (n := n + 1) rfl h3
  obtain ⟨v4, rfl⟩ := shp_Answer (n := n + 0) rfl h4
  exact ⟨⟨v0, v1, v2, v3, v4⟩, rfl⟩
@[go_sem] abbrev sNoteS (xs : List Note) : C := .sl none 14 (xs.map eNote)
@[go_sem] abbrev oNoteS (xs : List Note) : C := .sl (some 209) 14 (xs.map oNote)
@[go_sem] abbrev aNoteS (xs : List Note) : Arg := .d (false, [sNoteS xs])
@[go_sem] abbrev rNoteS (xs : List Note) : List Dat := [(false, [oNoteS xs])]
theorem bnd_NoteS {xs : List Note} {gs : List Arg} (h : Args.bnd (aNoteS xs :: gs)) : xs.length ≤ maxLen := by
  have := h.1.1.1; rwa [List.length_map] at this
def wNoteS (xs : List Note) : Nat := xs.length + sumW wNote xs
theorem s_toNoteS (xs : List Note) (h : wNoteS xs ≤ 1048576) : Sat Try.prog 102 [aNoteS xs] true (rNoteS xs) := by
  refine sat_walk (fn := Try.f102) rfl rfl rfl (Nat.le_of_ble_eq_true rfl) fun fr hP hN hbnd => ?_
  have hE : (envOf fr Try.prog).Ok := envOf_ok hP
  have hM := follows_of hP
  have hS : ∀ {draw ops}, statB Try.f102.ntmps draw ops = true → statB (envOf fr Try.prog).fr.N draw ops = true := fun h => by rw [envOf_fr, hN]; exact h
  have hx : xs.length ≤ 1048576 := by unfold wNoteS at h; omega
  have hw : ∀ k, k < xs.length → wNote (xs.getD k default) ≤ 1048576 := fun k hk => by
    have := sumW_get (w := wNote) (d := default) hk; unfold wNoteS at h; omega
  repeat' (first
    | exact True.intro
    | refine ev_seq ?_
    | ((first | refine vgd_go ?_ | refine ev_region hE hM (hS (by decide +kernel)) ?_ | refine ev_if ?_ | refine end_ret hE rfl rfl ?_ | refine end_norm hE rfl rfl ?_ | refine endG_ret [] hE rfl ?_ | refine endG_norm [] hE rfl ?_ | refine vcall_A ?_); simp (maxSteps := 2000000) only [go_sem, hP, ↓reduceIte, Nat.reduceAdd, Nat.reduceMul, Nat.reduceEqDiff, Nat.reduceSub, Nat.reduceLeDiff, reduceCtorEq])
    | refine ev_skip ?_ | refine ev_block ?_ | refine ev_blk ?_ | refine ev_ret ?_ | refine ev_exit ?_ | refine evx_code_ret ?_ | refine evx_blk_ret ?_ | refine evx_lp_ret ?_
    | refine evx_code_exit ?_ | refine evx_lp_exit ?_ | refine evx_blk_hit ?_ | refine evx_blk_pass (by decide) ?_
    | refine And.intro ?_ ?_ | intro _ | decide +kernel | omega)
  refine ev_loop (ι := Nat) (fun k => [(0, .c (sNoteS xs)), (3, .ref 4112), (4, .c (.int .i64 k))]) (fun k => [(4112, .arr true 209 14 ((mix xs ⟨0, 0, 0, ⟨0, ⟨0, ⟨[], []⟩⟩, ⟨0, ⟨[], []⟩, [], 0⟩⟩, ⟨0, []⟩⟩ k).map oNote))]) (fun _ => []) (fun k => k ≤ xs.length) (fun k => xs.length - k) 0 [] (by simp) (by simp only [go_sem, hP, ↓reduceIte, Nat.reduceAdd, Nat.reduceMul, Nat.reduceEqDiff, Nat.reduceSub, Nat.reduceLeDiff, reduceCtorEq]; simp [mix_zero, oNote]) ?_
  intro k hk
  repeat' (first
    | exact True.intro
    | refine ev_seq ?_
    | ((first | refine vgd_go ?_ | refine ev_region hE hM (hS (by decide +kernel)) ?_ | refine ev_if ?_ | refine end_ret hE rfl rfl ?_ | refine end_norm hE rfl rfl ?_ | refine endG_ret [] hE rfl ?_ | refine endG_norm [] hE rfl ?_ | refine vcallB_of hP (s_toNote (xs.getD k default) (hw k (by omega))) ?_ | refine vcall_A ?_); simp (maxSteps := 2000000) only [go_sem, hP, ↓reduceIte, Nat.reduceAdd, Nat.reduceMul, Nat.reduceEqDiff, Nat.reduceSub, Nat.reduceLeDiff, reduceCtorEq, mix_length hk])
    | refine ev_skip ?_ | refine ev_block ?_ | refine ev_blk ?_ | refine ev_ret ?_ | refine ev_exit ?_ | refine evx_code_ret ?_ | refine evx_blk_ret ?_ | refine evx_lp_ret ?_
    | refine evx_code_exit ?_ | refine evx_lp_exit ?_ | refine evx_blk_hit ?_ | refine evx_blk_pass (by decide) ?_
    | refine And.intro ?_ ?_ | intro _ | decide +kernel | omega)
  · exact ev_lp (k + 1) [] (by omega) (by omega) (by simp only [go_sem, hP, ↓reduceIte, Nat.reduceAdd, Nat.reduceMul, Nat.reduceEqDiff, Nat.reduceSub, Nat.reduceLeDiff, reduceCtorEq]; simp; exact ⟨wrap_succ (by omega) hx, mix_set_map (f := oNote) (by omega)⟩)
  · rw [mix_full (by omega)]
theorem s_szNoteS (xs : List Note) (left : Int) (h0 : 0 ≤ left) (h1 : left ≤ 1048576) : Sat Try.prog 98 [aNoteS xs, aI left] true (rI (lessN (wNoteS xs) left)) := by
  refine sat_walk (fn := Try.f98) rfl rfl rfl (Nat.le_of_ble_eq_true rfl) fun fr hP hN hbnd => ?_
  have hE : (envOf fr Try.prog).Ok := envOf_ok hP
  have hM := follows_of hP
  have hS : ∀ {draw ops}, statB Try.f98.ntmps draw ops = true → statB (envOf fr Try.prog).fr.N draw ops = true := fun h => by rw [envOf_fr, hN]; exact h
  have hlen := bnd_NoteS hbnd
  have hm : maxLen = 9223372036854775807 := rfl
  have hw : IntKind.i64.wrap (left - xs.length) = left - xs.length := i64_in _ (by omega)
  repeat' (first
    | exact True.intro
    | refine ev_seq ?_
    | ((first | refine vgd_go ?_ | refine ev_region hE hM (hS (by decide +kernel)) ?_ | refine ev_if ?_ | refine end_ret hE rfl rfl ?_ | refine end_norm hE rfl rfl ?_ | refine endG_ret [] hE rfl ?_ | refine endG_norm [] hE rfl ?_ | refine vcall_A ?_); simp (maxSteps := 2000000) only [go_sem, hP, ↓reduceIte, Nat.reduceAdd, Nat.reduceMul, Nat.reduceEqDiff, Nat.reduceSub, Nat.reduceLeDiff, reduceCtorEq, hw])
    | refine ev_skip ?_ | refine ev_block ?_ | refine ev_blk ?_ | refine ev_ret ?_ | refine ev_exit ?_ | refine evx_code_ret ?_ | refine evx_blk_ret ?_ | refine evx_lp_ret ?_
    | refine evx_code_exit ?_ | refine evx_lp_exit ?_ | refine evx_blk_hit ?_ | refine evx_blk_pass (by decide) ?_
    | refine And.intro ?_ ?_ | intro _ | decide +kernel | omega)
  · rename_i h; simp only [lessN, wNoteS] at *; omega
  rename_i h
  refine ev_loop (ι := Nat) (fun k => [(0, .c (sNoteS xs)), (1, .c (.int .i64 (left - xs.length - sumW wNote (xs.take k)))), (5, .c (.int .i64 k))]) (fun k => []) (fun _ => []) (fun k => k ≤ xs.length ∧ (0 : Int) ≤ left - xs.length - sumW wNote (xs.take k)) (fun k => xs.length - k) 0 [] (by simp [allLt_zero] <;> omega) (by simp only [go_sem, hP, ↓reduceIte, Nat.reduceAdd, Nat.reduceMul, Nat.reduceEqDiff, Nat.reduceSub, Nat.reduceLeDiff, reduceCtorEq]; simp) ?_
  intro k hk
  have hstep := fun h : k < xs.length => sumW_step (w := wNote) (d := default) h
  have hle := sumW_le (w := wNote) (xs := xs) (k + 1)
  repeat' (first
    | exact True.intro
    | refine ev_seq ?_
    | ((first | refine vgd_go ?_ | refine ev_region hE hM (hS (by decide +kernel)) ?_ | refine ev_if ?_ | refine end_ret hE rfl rfl ?_ | refine end_norm hE rfl rfl ?_ | refine endG_ret [] hE rfl ?_ | refine endG_norm [] hE rfl ?_ | refine vcallB_of hP (s_szNote (xs.getD k default) _ hk.2 (by omega)) ?_ | refine vcall_A ?_); simp (maxSteps := 2000000) only [go_sem, hP, ↓reduceIte, Nat.reduceAdd, Nat.reduceMul, Nat.reduceEqDiff, Nat.reduceSub, Nat.reduceLeDiff, reduceCtorEq])
    | refine ev_skip ?_ | refine ev_block ?_ | refine ev_blk ?_ | refine ev_ret ?_ | refine ev_exit ?_ | refine evx_code_ret ?_ | refine evx_blk_ret ?_ | refine evx_lp_ret ?_
    | refine evx_code_exit ?_ | refine evx_lp_exit ?_ | refine evx_blk_hit ?_ | refine evx_blk_pass (by decide) ?_
    | refine And.intro ?_ ?_ | intro _ | decide +kernel | omega)
  · have := hstep (by omega)
    simp only [lessN, wNoteS] at *; omega
  · rename_i hk1 hk2
    have h8 := hstep (by omega)
    have h9 : lessN (wNote (xs.getD k default)) (left - xs.length - sumW wNote (xs.take k)) = left - xs.length - sumW wNote (xs.take (k + 1)) := by simp only [lessN] at *; omega
    refine ev_lp (k + 1) [] ⟨by omega, by rw [← h9]; omega⟩ (by omega) (by simp only [go_sem, hP, ↓reduceIte, Nat.reduceAdd, Nat.reduceMul, Nat.reduceEqDiff, Nat.reduceSub, Nat.reduceLeDiff, reduceCtorEq, h9]; simp; exact wrap_nat (by omega) hlen)
  · rw [sumW_done (by omega)] at hk ⊢
    simp only [lessN, wNoteS] at *; omega
theorem s_eqNoteS (xs ys : List Note) : Sat Try.prog 104 [aNoteS xs, aNoteS ys] true (rB (decide (xs = ys))) := by
  refine sat_walk (fn := Try.f104) rfl rfl rfl (Nat.le_of_ble_eq_true rfl) fun fr hP hN hbnd => ?_
  have hE : (envOf fr Try.prog).Ok := envOf_ok hP
  have hM := follows_of hP
  have hS : ∀ {draw ops}, statB Try.f104.ntmps draw ops = true → statB (envOf fr Try.prog).fr.N draw ops = true := fun h => by rw [envOf_fr, hN]; exact h
  have hlen := bnd_NoteS hbnd
  repeat' (first
    | exact True.intro
    | refine ev_seq ?_
    | ((first | refine vgd_go ?_ | refine ev_region hE hM (hS (by decide +kernel)) ?_ | refine ev_if ?_ | refine end_ret hE rfl rfl ?_ | refine end_norm hE rfl rfl ?_ | refine endG_ret [] hE rfl ?_ | refine endG_norm [] hE rfl ?_ | refine vcall_A ?_); simp (maxSteps := 2000000) only [go_sem, hP, ↓reduceIte, Nat.reduceAdd, Nat.reduceMul, Nat.reduceEqDiff, Nat.reduceSub, Nat.reduceLeDiff, reduceCtorEq])
    | refine ev_skip ?_ | refine ev_block ?_ | refine ev_blk ?_ | refine ev_ret ?_ | refine ev_exit ?_ | refine evx_code_ret ?_ | refine evx_blk_ret ?_ | refine evx_lp_ret ?_
    | refine evx_code_exit ?_ | refine evx_lp_exit ?_ | refine evx_blk_hit ?_ | refine evx_blk_pass (by decide) ?_
    | refine And.intro ?_ ?_ | intro _ | decide +kernel | omega)
  · rename_i h; simp at h; simp; rintro rfl; exact h rfl
  rename_i h; simp at h
  refine ev_loop (ι := Nat) (fun k => [(0, .c (sNoteS xs)), (1, .c (sNoteS ys)), (5, .c (.int .i64 k))]) (fun k => []) (fun _ => []) (fun k => k ≤ xs.length ∧ xs.take k = ys.take k) (fun k => xs.length - k) 0 [] (by simp [allLt_zero] <;> omega) (by simp only [go_sem, hP, ↓reduceIte, Nat.reduceAdd, Nat.reduceMul, Nat.reduceEqDiff, Nat.reduceSub, Nat.reduceLeDiff, reduceCtorEq]; simp) ?_
  intro k hk
  repeat' (first
    | exact True.intro
    | refine ev_seq ?_
    | ((first | refine vgd_go ?_ | refine ev_region hE hM (hS (by decide +kernel)) ?_ | refine ev_if ?_ | refine end_ret hE rfl rfl ?_ | refine end_norm hE rfl rfl ?_ | refine endG_ret [] hE rfl ?_ | refine endG_norm [] hE rfl ?_ | refine vcallB_of hP (s_eqNote (xs.getD k default) (ys.getD k default)) ?_ | refine vcall_A ?_); simp (maxSteps := 2000000) only [go_sem, hP, ↓reduceIte, Nat.reduceAdd, Nat.reduceMul, Nat.reduceEqDiff, Nat.reduceSub, Nat.reduceLeDiff, reduceCtorEq])
    | refine ev_skip ?_ | refine ev_block ?_ | refine ev_blk ?_ | refine ev_ret ?_ | refine ev_exit ?_ | refine evx_code_ret ?_ | refine evx_blk_ret ?_ | refine evx_lp_ret ?_
    | refine evx_code_exit ?_ | refine evx_lp_exit ?_ | refine evx_blk_hit ?_ | refine evx_blk_pass (by decide) ?_
    | refine And.intro ?_ ?_ | intro _ | decide +kernel | omega)
  · rename_i h3; simp at h3; simp; exact eq_not (by simpa using h3)
  · rename_i h3 h4; simp at h4
    exact ev_lp (k + 1) [] ⟨by omega, eq_step (d := default) (e := default) (by omega) (by omega) hk.2 (by simpa using h4)⟩ (by omega) (by simp only [go_sem, hP, ↓reduceIte, Nat.reduceAdd, Nat.reduceMul, Nat.reduceEqDiff, Nat.reduceSub, Nat.reduceLeDiff, reduceCtorEq]; simp; exact wrap_nat (by omega) hlen)
  · simp; exact eq_done (by omega) (by omega) hk.2
theorem shp_NoteS {n t : Nat} {cs : List C} (ht : Try.prog.underlying t = some (.slice 201)) (h : shp Try.prog (n + 9) t cs) : ∃ xs, cs = [sNoteS xs] := by
  obtain ⟨xs, rfl, _⟩ := shp_rows (f := eNote) (q := fun _ => True) (sz := 14) ht rfl (fun x hx => by obtain ⟨p, rfl⟩ := shp_Note (n := n) rfl hx; exact ⟨p, rfl, trivial⟩) h
  exact ⟨xs, rfl⟩
structure State where
  tree : Tree
  pairs : List Pair
  latch : Int
  busy : List Bool
  codes : List Int
  notes : List Note
  deriving DecidableEq, Inhabited
def eState (x : State) : List C := [.int .i64 x.tree.style, .int .i64 x.tree.arena.dims, sNodeS x.tree.arena.nodes, sI x.tree.arena.free, sRetiredS x.tree.arena.retired, .int .i64 x.tree.root, .int .i64 x.tree.rootNsn, .int .i64 x.tree.counter, sP x.pairs, .int .i64 x.latch, sB x.busy, sI x.codes, sNoteS x.notes]
def oState (x : State) : List C := [.int .i64 x.tree.style, .int .i64 x.tree.arena.dims, oNodeS x.tree.arena.nodes, oI x.tree.arena.free, oRetiredS x.tree.arena.retired, .int .i64 x.tree.root, .int .i64 x.tree.rootNsn, .int .i64 x.tree.counter, oPs x.pairs, .int .i64 x.latch, oB x.busy, oI x.codes, oNoteS x.notes]
@[go_sem] theorem eState_eq (x : State) : eState x = [.int .i64 x.tree.style, .int .i64 x.tree.arena.dims, sNodeS x.tree.arena.nodes, sI x.tree.arena.free, sRetiredS x.tree.arena.retired, .int .i64 x.tree.root, .int .i64 x.tree.rootNsn, .int .i64 x.tree.counter, sP x.pairs, .int .i64 x.latch, sB x.busy, sI x.codes, sNoteS x.notes] := rfl
@[go_sem] theorem oState_eq (x : State) : oState x = [.int .i64 x.tree.style, .int .i64 x.tree.arena.dims, oNodeS x.tree.arena.nodes, oI x.tree.arena.free, oRetiredS x.tree.arena.retired, .int .i64 x.tree.root, .int .i64 x.tree.rootNsn, .int .i64 x.tree.counter, oPs x.pairs, .int .i64 x.latch, oB x.busy, oI x.codes, oNoteS x.notes] := rfl
theorem stripC_oState (x : State) : Cs.strip (oState x) = eState x := by simp [oState, eState, Cs.strip, C.strip, strip_eI, strip_eB, strip_eNode, strip_eNote, strip_eP, strip_eRetired, strip_oNode, strip_oNote, strip_oP, strip_oRetired]
theorem stripC_eState (x : State) : Cs.strip (eState x) = eState x := by simp [eState, Cs.strip, C.strip, strip_eI, strip_eB, strip_eNode, strip_eNote, strip_eP, strip_eRetired, strip_oNode, strip_oNote, strip_oP, strip_oRetired]
@[go_sem] theorem strip_oState (xs : List State) : Es.strip (xs.map oState) = xs.map eState := by rw [Es.strip_map]; simp [Function.comp_def, stripC_oState]
@[go_sem] theorem strip_eState (xs : List State) : Es.strip (xs.map eState) = xs.map eState := by rw [Es.strip_map]; simp [Function.comp_def, stripC_eState]
@[go_sem] abbrev aState (x : State) : Arg := .d (true, eState x)
@[go_sem] abbrev pState (x : State) : Arg := .pv (eState x)
@[go_sem] abbrev rState (x : State) : List Dat := [(true, oState x)]
theorem bnd_State {x : State} {gs : List Arg} (h : Args.bnd (aState x :: gs)) : x.tree.arena.nodes.length ≤ maxLen ∧ x.tree.arena.free.length ≤ maxLen ∧ x.tree.arena.retired.length ≤ maxLen ∧ x.pairs.length ≤ maxLen ∧ x.busy.length ≤ maxLen ∧ x.codes.length ≤ maxLen ∧ x.notes.length ≤ maxLen := by
  have h0 := h.1.2.2.1.1; rw [List.length_map] at h0
  have h1 := h.1.2.2.2.1.1; rw [List.length_map] at h1
  have h2 := h.1.2.2.2.2.1.1; rw [List.length_map] at h2
  have h3 := h.1.2.2.2.2.2.2.2.2.1.1; rw [List.length_map] at h3
  have h4 := h.1.2.2.2.2.2.2.2.2.2.2.1.1; rw [List.length_map] at h4
  have h5 := h.1.2.2.2.2.2.2.2.2.2.2.2.1.1; rw [List.length_map] at h5
  have h6 := h.1.2.2.2.2.2.2.2.2.2.2.2.2.1.1; rw [List.length_map] at h6
  exact ⟨h0, h1, h2, h3, h4, h5, h6⟩
theorem bndp_State {x : State} {gs : List Arg} (h : Args.bnd (pState x :: gs)) : x.tree.arena.nodes.length ≤ maxLen ∧ x.tree.arena.free.length ≤ maxLen ∧ x.tree.arena.retired.length ≤ maxLen ∧ x.pairs.length ≤ maxLen ∧ x.busy.length ≤ maxLen ∧ x.codes.length ≤ maxLen ∧ x.notes.length ≤ maxLen := by
  have h0 := h.1.2.2.1.1; rw [List.length_map] at h0
  have h1 := h.1.2.2.2.1.1; rw [List.length_map] at h1
  have h2 := h.1.2.2.2.2.1.1; rw [List.length_map] at h2
  have h3 := h.1.2.2.2.2.2.2.2.2.1.1; rw [List.length_map] at h3
  have h4 := h.1.2.2.2.2.2.2.2.2.2.2.1.1; rw [List.length_map] at h4
  have h5 := h.1.2.2.2.2.2.2.2.2.2.2.2.1.1; rw [List.length_map] at h5
  have h6 := h.1.2.2.2.2.2.2.2.2.2.2.2.2.1.1; rw [List.length_map] at h6
  exact ⟨h0, h1, h2, h3, h4, h5, h6⟩
theorem eqState (a b : State) : a = b ↔ a.tree = b.tree ∧ a.pairs = b.pairs ∧ a.latch = b.latch ∧ a.busy = b.busy ∧ a.codes = b.codes ∧ a.notes = b.notes := by cases a; cases b; simp
def wState (x : State) : Nat := wTree x.tree + wPs x.pairs + x.busy.length + x.codes.length + wNoteS x.notes
theorem s_toState (x : State) (h : wState x ≤ 1048576) : Sat Try.prog 37 [aState x] true (rState x) := by
  refine sat_walk (fn := Try.f37) rfl rfl rfl (Nat.le_of_ble_eq_true rfl) fun fr hP hN hbnd => ?_
  have hE : (envOf fr Try.prog).Ok := envOf_ok hP
  have hM := follows_of hP
  have hS : ∀ {draw ops}, statB Try.f37.ntmps draw ops = true → statB (envOf fr Try.prog).fr.N draw ops = true := fun h => by rw [envOf_fr, hN]; exact h
  simp only [wState] at h
  repeat' (first
    | exact True.intro
    | refine ev_seq ?_
    | ((first | refine vgd_go ?_ | refine ev_region hE hM (hS (by decide +kernel)) ?_ | refine ev_if ?_ | refine end_ret hE rfl rfl ?_ | refine end_norm hE rfl rfl ?_ | refine endG_ret [] hE rfl ?_ | refine endG_norm [] hE rfl ?_ | refine vcallB_of hP (s_toTree x.tree (by omega)) ?_ | refine vcallB_of hP (s_toPairS x.pairs (by omega)) ?_ | refine vcallB_of hP (s_toBoolS x.busy (by omega)) ?_ | refine vcallB_of hP (s_toInt64S x.codes (by omega)) ?_ | refine vcallB_of hP (s_toNoteS x.notes (by omega)) ?_ | refine vcall_A ?_); simp (maxSteps := 2000000) only [go_sem, hP, ↓reduceIte, Nat.reduceAdd, Nat.reduceMul, Nat.reduceEqDiff, Nat.reduceSub, Nat.reduceLeDiff, reduceCtorEq])
    | refine ev_skip ?_ | refine ev_block ?_ | refine ev_blk ?_ | refine ev_ret ?_ | refine ev_exit ?_ | refine evx_code_ret ?_ | refine evx_blk_ret ?_ | refine evx_lp_ret ?_
    | refine evx_code_exit ?_ | refine evx_lp_exit ?_ | refine evx_blk_hit ?_ | refine evx_blk_pass (by decide) ?_
    | refine And.intro ?_ ?_ | intro _ | decide +kernel | omega)
theorem s_szState (x : State) (left : Int) (h0 : 0 ≤ left) (h1 : left ≤ 1048576) : Sat Try.prog 35 [aState x, aI left] true (rI (lessN (wState x) left)) := by
  refine sat_walk (fn := Try.f35) rfl rfl rfl (Nat.le_of_ble_eq_true rfl) fun fr hP hN hbnd => ?_
  have hE : (envOf fr Try.prog).Ok := envOf_ok hP
  have hM := follows_of hP
  have hS : ∀ {draw ops}, statB Try.f35.ntmps draw ops = true → statB (envOf fr Try.prog).fr.N draw ops = true := fun h => by rw [envOf_fr, hN]; exact h
  repeat' (first
    | exact True.intro
    | refine ev_seq ?_
    | ((first | refine vgd_go ?_ | refine ev_region hE hM (hS (by decide +kernel)) ?_ | refine ev_if ?_ | refine end_ret hE rfl rfl ?_ | refine end_norm hE rfl rfl ?_ | refine endG_ret [] hE rfl ?_ | refine endG_norm [] hE rfl ?_ | refine vcallB_of hP (s_szTree x.tree _ (by (try simp only [lessN] at *); omega) (by (try simp only [lessN] at *); omega)) ?_ | refine vcallB_of hP (s_szPairS x.pairs _ (by (try simp only [lessN] at *); omega) (by (try simp only [lessN] at *); omega)) ?_ | refine vcallB_of hP (s_szBoolS x.busy _ (by (try simp only [lessN] at *); omega) (by (try simp only [lessN] at *); omega)) ?_ | refine vcallB_of hP (s_szInt64S x.codes _ (by (try simp only [lessN] at *); omega) (by (try simp only [lessN] at *); omega)) ?_ | refine vcallB_of hP (s_szNoteS x.notes _ (by (try simp only [lessN] at *); omega) (by (try simp only [lessN] at *); omega)) ?_ | refine vcall_A ?_); simp (maxSteps := 2000000) only [go_sem, hP, ↓reduceIte, Nat.reduceAdd, Nat.reduceMul, Nat.reduceEqDiff, Nat.reduceSub, Nat.reduceLeDiff, reduceCtorEq])
    | refine ev_skip ?_ | refine ev_block ?_ | refine ev_blk ?_ | refine ev_ret ?_ | refine ev_exit ?_ | refine evx_code_ret ?_ | refine evx_blk_ret ?_ | refine evx_lp_ret ?_
    | refine evx_code_exit ?_ | refine evx_lp_exit ?_ | refine evx_blk_hit ?_ | refine evx_blk_pass (by decide) ?_
    | refine And.intro ?_ ?_ | intro _ | decide +kernel | omega)
  all_goals simp_all only [lessN, wState]
  all_goals omega
theorem s_eqState (a b : State) : Sat Try.prog 39 [aState a, aState b] true (rB (decide (a = b))) := by
  refine sat_walk (fn := Try.f39) rfl rfl rfl (Nat.le_of_ble_eq_true rfl) fun fr hP hN hbnd => ?_
  have hE : (envOf fr Try.prog).Ok := envOf_ok hP
  have hM := follows_of hP
  have hS : ∀ {draw ops}, statB Try.f39.ntmps draw ops = true → statB (envOf fr Try.prog).fr.N draw ops = true := fun h => by rw [envOf_fr, hN]; exact h
  repeat' (first
    | exact True.intro
    | refine ev_seq ?_
    | ((first | refine vgd_go ?_ | refine ev_region hE hM (hS (by decide +kernel)) ?_ | refine ev_if ?_ | refine end_ret hE rfl rfl ?_ | refine end_norm hE rfl rfl ?_ | refine endG_ret [] hE rfl ?_ | refine endG_norm [] hE rfl ?_ | refine vcallB_of hP (s_eqTree a.tree b.tree) ?_ | refine vcallB_of hP (s_eqPairS a.pairs b.pairs) ?_ | refine vcallB_of hP (s_eqBoolS a.busy b.busy) ?_ | refine vcallB_of hP (s_eqInt64S a.codes b.codes) ?_ | refine vcallB_of hP (s_eqNoteS a.notes b.notes) ?_ | refine vcall_A ?_); simp (maxSteps := 2000000) only [go_sem, hP, ↓reduceIte, Nat.reduceAdd, Nat.reduceMul, Nat.reduceEqDiff, Nat.reduceSub, Nat.reduceLeDiff, reduceCtorEq])
    | refine ev_skip ?_ | refine ev_block ?_ | refine ev_blk ?_ | refine ev_ret ?_ | refine ev_exit ?_ | refine evx_code_ret ?_ | refine evx_blk_ret ?_ | refine evx_lp_ret ?_
    | refine evx_code_exit ?_ | refine evx_lp_exit ?_ | refine evx_blk_hit ?_ | refine evx_blk_pass (by decide) ?_
    | refine And.intro ?_ ?_ | intro _ | decide +kernel | omega)
  all_goals simp_all [eqState]
theorem shp_State {n t : Nat} {cs : List C} (ht : (Try.prog.underlying t).bind fieldTs = some [68, 69, 2, 70, 23, 71]) (h : shp Try.prog (n + 10) t cs) : ∃ x, cs = eState x := by
  obtain ⟨c0, g0, rfl, h0, c1, g1, rfl, h1, c2, g2, rfl, h2, c3, g3, rfl, h3, c4, g4, rfl, h4, c5, g5, rfl, h5, rfl⟩ := shp_struct ht h
  obtain ⟨v0, rfl⟩ := shp_Tree (n := n + 0) rfl h0
  obtain ⟨v1, rfl⟩ := shp_Ps (n := n + 3) rfl h1
  obtain ⟨v2, rfl, _⟩ := shp_i64 (n := n + 8) rfl h2
  obtain ⟨v3, rfl⟩ := shp_bools (n := n + 7) rfl h3
  obtain ⟨v4, rfl, _⟩ := shp_ints (n := n + 7) (e := 2) rfl rfl rfl h4
  obtain ⟨v5, rfl⟩ := shp_NoteS (n := n + 0) rfl h5
  exact ⟨⟨v0, v1, v2, v3, v4, v5⟩, rfl⟩
/-- The first k elements turned. -/
def mixF (f : Nat → Int) (xs : List Int) (k : Nat) : List Int := (List.range xs.length).map fun j => if j < k then f j else xs.getD j default
@[simp] theorem mixF_length (f : Nat → Int) (xs : List Int) (k : Nat) : (mixF f xs k).length = xs.length := by simp [mixF]
@[simp] theorem mixF_zero (f : Nat → Int) (xs : List Int) : mixF f xs 0 = xs := by
  refine List.ext_getElem (by simp) fun i h1 h2 => ?_
  simp only [mixF, List.getElem_map, List.getElem_range, Nat.not_lt_zero, if_false]
  exact getD_lt h2
theorem mixF_set {f : Nat → Int} {xs : List Int} {k : Nat} (h : k < xs.length) : (mixF f xs k).set k (f k) = mixF f xs (k + 1) := by
  refine List.ext_getElem (by simp) fun i h1 h2 => ?_
  simp only [mixF, List.getElem_set, List.getElem_map, List.getElem_range]
  split
  · subst_vars; rw [if_pos (by omega)]
  · rename_i hne
    by_cases hi : i < k
    · rw [if_pos hi, if_pos (by omega)]
    · rw [if_neg hi, if_neg (by omega)]
theorem mixF_set_map {f : Nat → Int} {xs : List Int} {k : Nat} (h : k < xs.length) : ((mixF f xs k).map eI).set k (eI (f k)) = (mixF f xs (k + 1)).map eI := by rw [← mixF_set h, List.map_set]
theorem mixF_getD {f : Nat → Int} {xs : List Int} {k j : Nat} (h : j < xs.length) : (mixF f xs k).getD j default = if j < k then f j else xs.getD j default := by
  rw [getD_lt (by simpa using h)]; simp [mixF]
def un (a b : Rect) : Rect := ⟨(List.range a.low.length).map fun j => min (a.low.getD j default) (b.low.getD j default), (List.range a.low.length).map fun j => max (a.high.getD j default) (b.high.getD j default)⟩
theorem un_len (a b : Rect) : (un a b).high.length = (un a b).low.length := by simp [un]
theorem mixF_full (f : Nat → Int) (xs : List Int) : mixF f xs xs.length = (List.range xs.length).map f := by
  refine List.ext_getElem (by simp) fun i h1 h2 => ?_
  simp only [mixF, List.getElem_map, List.getElem_range]
  rw [if_pos (by simpa using h1)]
def emptyNode : Node := ⟨0, 0, -1, []⟩
/-- Numbers that rise from one on. -/
def markedI (k : Int) (n : Nat) : List Int := (List.range n).map fun (j : Nat) => k + j
@[simp] theorem markedI_length (k : Int) (n : Nat) : (markedI k n).length = n := by simp [markedI]
theorem markedI_getD {k : Int} {n j : Nat} (h : j < n) : (markedI k n).getD j default = k + j := by
  rw [getD_lt (by simpa using h)]; simp [markedI]
/-- A row of numbers that is given: the key's name is none of the walk's own (those are multiples of 8). -/
@[go_sem] abbrev gI (κ : Nat) (xs : List Int) : Nat × Blk := (κ, .arr true 2 1 (xs.map eI))
@[go_sem] abbrev iT (n : Int) : T := .c (.int .i64 n)
/-- How far marks may go. -/
abbrev mMax : Int := 1000000000000
theorem s_markInt64S (xs : List Int) (k : Int) (h0 : 0 ≤ k) (h1 : k + xs.length ≤ mMax) : SatG Try.prog 88 false [.ref 1, iT k] [gI 1 xs] (iT (k + xs.length)) [gI 1 (markedI k xs.length)] := by
  refine satG_walk (fn := Try.f88) rfl rfl rfl (Nat.le_of_ble_eq_true rfl) (by simp) fun fr hP hN hdp hb1 hb2 => ?_
  have hE : (envOf fr Try.prog).Ok := envOf_ok hP
  have hM := follows_of hP
  have hS : ∀ {draw ops}, statB Try.f88.ntmps draw ops = true → statB (envOf fr Try.prog).fr.N draw ops = true := fun h => by rw [envOf_fr, hN]; exact h
  simp only [mMax] at h1
  repeat' (first
    | exact True.intro
    | refine ev_seq ?_
    | ((first | refine vgd_go ?_ | refine ev_region hE hM (hS (by decide +kernel)) ?_ | refine ev_if ?_ | refine end_ret hE rfl rfl ?_ | refine end_norm hE rfl rfl ?_ | refine endG_ret [] hE rfl ?_ | refine endG_norm [] hE rfl ?_ | refine vcall_A ?_); simp (maxSteps := 2000000) only [go_sem, hP, ↓reduceIte, Nat.reduceAdd, Nat.reduceMul, Nat.reduceEqDiff, Nat.reduceSub, Nat.reduceLeDiff, reduceCtorEq])
    | refine ev_skip ?_ | refine ev_block ?_ | refine ev_blk ?_ | refine ev_ret ?_ | refine ev_exit ?_ | refine evx_code_ret ?_ | refine evx_blk_ret ?_ | refine evx_lp_ret ?_
    | refine evx_code_exit ?_ | refine evx_lp_exit ?_ | refine evx_blk_hit ?_ | refine evx_blk_pass (by decide) ?_
    | refine And.intro ?_ ?_ | intro _ | decide +kernel | omega)
  refine ev_loop (ι := Nat) (fun j => [(0, .ref 1), (1, iT (k + j)), (5, iT j)]) (fun j => [gI 1 (mixF (fun i => k + i) xs j)]) (fun _ => [(0, .ref 1)]) (fun j => j ≤ xs.length) (fun j => xs.length - j) 0 [] (by omega) (by simp only [go_sem, hP, ↓reduceIte, Nat.reduceAdd, Nat.reduceMul, Nat.reduceEqDiff, Nat.reduceSub, Nat.reduceLeDiff, reduceCtorEq]; simp) ?_
  intro j hj
  have hw : j < xs.length → IntKind.i64.wrap (k + j + 1) = k + j + 1 := fun h => i64_in _ (by omega)
  repeat' (first
    | exact True.intro
    | refine ev_seq ?_
    | ((first | refine vgd_go ?_ | refine ev_region hE hM (hS (by decide +kernel)) ?_ | refine ev_if ?_ | refine end_ret hE rfl rfl ?_ | refine end_norm hE rfl rfl ?_ | refine endG_ret [] hE rfl ?_ | refine endG_norm [] hE rfl ?_ | refine vcall_A ?_); simp (maxSteps := 2000000) only [go_sem, hP, ↓reduceIte, Nat.reduceAdd, Nat.reduceMul, Nat.reduceEqDiff, Nat.reduceSub, Nat.reduceLeDiff, reduceCtorEq, mixF_length])
    | refine ev_skip ?_ | refine ev_block ?_ | refine ev_blk ?_ | refine ev_ret ?_ | refine ev_exit ?_ | refine evx_code_ret ?_ | refine evx_blk_ret ?_ | refine evx_lp_ret ?_
    | refine evx_code_exit ?_ | refine evx_lp_exit ?_ | refine evx_blk_hit ?_ | refine evx_blk_pass (by decide) ?_
    | refine And.intro ?_ ?_ | intro _ | decide +kernel | omega)
  · rename_i h
    exact ev_lp (j + 1) [] (by omega) (by omega) (by simp only [go_sem, hP, ↓reduceIte, Nat.reduceAdd, Nat.reduceMul, Nat.reduceEqDiff, Nat.reduceSub, Nat.reduceLeDiff, reduceCtorEq]; simp [hw (by omega)]; exact ⟨⟨by omega, i64_in _ (by omega)⟩, mixF_set_map (by omega)⟩)
  · obtain rfl : j = xs.length := by omega
    simp [markedI, mixF_full]
theorem s_heldInt64S (n : Nat) (k : Int) (h0 : 0 ≤ k) (h1 : k + n ≤ mMax) : Sat Try.prog 89 [aL (markedI k n), aI k] true (rI (k + n)) := by
  refine sat_walk (fn := Try.f89) rfl rfl rfl (Nat.le_of_ble_eq_true rfl) fun fr hP hN hbnd => ?_
  have hE : (envOf fr Try.prog).Ok := envOf_ok hP
  have hM := follows_of hP
  have hS : ∀ {draw ops}, statB Try.f89.ntmps draw ops = true → statB (envOf fr Try.prog).fr.N draw ops = true := fun h => by rw [envOf_fr, hN]; exact h
  simp only [mMax] at h1
  repeat' (first
    | exact True.intro
    | refine ev_seq ?_
    | ((first | refine vgd_go ?_ | refine ev_region hE hM (hS (by decide +kernel)) ?_ | refine ev_if ?_ | refine end_ret hE rfl rfl ?_ | refine end_norm hE rfl rfl ?_ | refine endG_ret [] hE rfl ?_ | refine endG_norm [] hE rfl ?_ | refine vcall_A ?_); simp (maxSteps := 2000000) only [go_sem, hP, ↓reduceIte, Nat.reduceAdd, Nat.reduceMul, Nat.reduceEqDiff, Nat.reduceSub, Nat.reduceLeDiff, reduceCtorEq])
    | refine ev_skip ?_ | refine ev_block ?_ | refine ev_blk ?_ | refine ev_ret ?_ | refine ev_exit ?_ | refine evx_code_ret ?_ | refine evx_blk_ret ?_ | refine evx_lp_ret ?_
    | refine evx_code_exit ?_ | refine evx_lp_exit ?_ | refine evx_blk_hit ?_ | refine evx_blk_pass (by decide) ?_
    | refine And.intro ?_ ?_ | intro _ | decide +kernel | omega)
  refine ev_loop (ι := Nat) (fun j => [(0, .c (sI (markedI k n))), (1, iT (k + j)), (5, iT j)]) (fun j => []) (fun _ => []) (fun j => j ≤ n) (fun j => n - j) 0 [] (by omega) (by simp only [go_sem, hP, ↓reduceIte, Nat.reduceAdd, Nat.reduceMul, Nat.reduceEqDiff, Nat.reduceSub, Nat.reduceLeDiff, reduceCtorEq]; simp) ?_
  intro j hj
  have hw : j < n → IntKind.i64.wrap (k + j + 1) = k + j + 1 := fun h => i64_in _ (by omega)
  have hg : j < n → (markedI k n).getD j default = k + j := fun h => markedI_getD h
  repeat' (first
    | exact True.intro
    | refine ev_seq ?_
    | ((first | refine vgd_go ?_ | refine ev_region hE hM (hS (by decide +kernel)) ?_ | refine ev_if ?_ | refine end_ret hE rfl rfl ?_ | refine end_norm hE rfl rfl ?_ | refine endG_ret [] hE rfl ?_ | refine endG_norm [] hE rfl ?_ | refine vcall_A ?_); simp (maxSteps := 2000000) only [go_sem, hP, ↓reduceIte, Nat.reduceAdd, Nat.reduceMul, Nat.reduceEqDiff, Nat.reduceSub, Nat.reduceLeDiff, reduceCtorEq, markedI_length])
    | refine ev_skip ?_ | refine ev_block ?_ | refine ev_blk ?_ | refine ev_ret ?_ | refine ev_exit ?_ | refine evx_code_ret ?_ | refine evx_blk_ret ?_ | refine evx_lp_ret ?_
    | refine evx_code_exit ?_ | refine evx_lp_exit ?_ | refine evx_blk_hit ?_ | refine evx_blk_pass (by decide) ?_
    | refine And.intro ?_ ?_ | intro _ | decide +kernel | omega)
  · rename_i h1 h2
    simp only [bne_iff_ne, ne_eq] at h2; exact absurd (hg (by omega)) h2
  · rename_i h1 h2
    exact ev_lp (j + 1) [] (by omega) (by omega) (by simp only [go_sem, hP, ↓reduceIte, Nat.reduceAdd, Nat.reduceMul, Nat.reduceEqDiff, Nat.reduceSub, Nat.reduceLeDiff, reduceCtorEq]; simp [hw (by omega)]; exact ⟨by omega, i64_in _ (by omega)⟩)
def markedR (k : Int) (r : Rect) : Rect := ⟨markedI k r.low.length, markedI (k + r.low.length) r.high.length⟩
theorem markedR_w (k : Int) (r : Rect) : wR (markedR k r) = wR r := by simp [markedR, wR]
@[go_sem] abbrev tR (a b : Nat) : T := .agg [.ref a, .ref b]
@[go_sem] abbrev gR (a b : Nat) (r : Rect) : List (Nat × Blk) := [gI a r.low, gI b r.high]
def kP (k : Int) (xs : List Pair) (j : Nat) : Int := k + wPs (xs.take j)
def mP (k : Int) (xs : List Pair) (j : Nat) : Pair := ⟨kP k xs j, markedR (kP k xs j + 1) (xs.getD j default).rect⟩
def preP (k : Int) (xs : List Pair) (j : Nat) : List Pair := (List.range j).map (mP k xs)
def markedPs (k : Int) (xs : List Pair) : List Pair := preP k xs xs.length
@[simp] theorem preP_length (k : Int) (xs : List Pair) (j : Nat) : (preP k xs j).length = j := by simp [preP]
theorem preP_succ (k : Int) (xs : List Pair) (j : Nat) : preP k xs (j + 1) = preP k xs j ++ [mP k xs j] := by simp [preP, List.range_succ]
theorem kP_zero (k : Int) (xs : List Pair) : kP k xs 0 = k := by simp [kP, wPs, sumW]
theorem kP_succ {k : Int} {xs : List Pair} {j : Nat} (h : j < xs.length) : kP k xs (j + 1) = kP k xs j + 1 + (xs.getD j default).rect.low.length + (xs.getD j default).rect.high.length := by
  have := sumW_step (w := fun p : Pair => wR p.rect) (d := default) h
  have e : wR (xs.getD j default).rect = (xs.getD j default).rect.low.length + (xs.getD j default).rect.high.length := rfl
  have e1 : (xs.take (j + 1)).length = j + 1 := by rw [List.length_take]; omega
  have e2 : (xs.take j).length = j := by rw [List.length_take]; omega
  simp only [kP, wPs, this, e1, e2, e]
  omega
theorem kP_le {k : Int} {xs : List Pair} (j : Nat) : kP k xs j ≤ k + wPs xs := by
  have := sumW_le (w := fun p : Pair => wR p.rect) (xs := xs) j
  simp only [kP, wPs, List.length_take]
  omega
theorem kP_ge {k : Int} {xs : List Pair} (j : Nat) : k ≤ kP k xs j := by simp only [kP]; omega
theorem kP_done {k : Int} {xs : List Pair} : kP k xs xs.length = k + wPs xs := by simp [kP]
theorem drop_oP {xs : List Pair} {j : Nat} (h : j < xs.length) : (xs.drop j).map oP = oP (xs.getD j default) :: (xs.drop (j + 1)).map oP := by
  rw [List.drop_eq_getElem_cons h, getD_lt h]; rfl
@[go_sem] abbrev gPs (κ : Nat) (xs : List Pair) : Nat × Blk := (κ, .arr true 94 3 (xs.map oP))
theorem s_markPairS (xs : List Pair) (k : Int) (h0 : 0 ≤ k) (h1 : k + wPs xs ≤ mMax) : SatG Try.prog 50 true [.ref 1, iT k] [gPs 1 xs] (iT (k + wPs xs)) [gPs 1 (markedPs k xs)] := by
  refine satG_walk (fn := Try.f50) rfl rfl rfl (Nat.le_of_ble_eq_true rfl) (by simp) fun fr hP hN hdp hb1 hb2 => ?_
  have hE : (envOf fr Try.prog).Ok := envOf_ok hP
  have hM := follows_of hP
  have hS : ∀ {draw ops}, statB Try.f50.ntmps draw ops = true → statB (envOf fr Try.prog).fr.N draw ops = true := fun h => by rw [envOf_fr, hN]; exact h
  simp only [mMax] at h1
  have hY : ∀ b, (envOf fr Try.prog).fr.Y b → (envOf fr Try.prog).fr.X b := fun b hb => hdp rfl b hb
  have hlen : xs.length ≤ maxLen := by have := hb2.1.1; simpa using this
  repeat' (first
    | exact True.intro
    | refine ev_seq ?_
    | ((first | refine vgd_go ?_ | refine ev_region hE hM (hS (by decide +kernel)) ?_ | refine ev_if ?_ | refine end_ret hE rfl rfl ?_ | refine end_norm hE rfl rfl ?_ | refine endG_ret [] hE rfl ?_ | refine endG_norm [] hE rfl ?_ | refine vcall_A ?_); simp (maxSteps := 2000000) only [go_sem, hP, ↓reduceIte, Nat.reduceAdd, Nat.reduceMul, Nat.reduceEqDiff, Nat.reduceSub, Nat.reduceLeDiff, reduceCtorEq])
    | refine ev_skip ?_ | refine ev_block ?_ | refine ev_blk ?_ | refine ev_ret ?_ | refine ev_exit ?_ | refine evx_code_ret ?_ | refine evx_blk_ret ?_ | refine evx_lp_ret ?_
    | refine evx_code_exit ?_ | refine evx_lp_exit ?_ | refine evx_blk_hit ?_ | refine evx_blk_pass (by decide) ?_
    | refine And.intro ?_ ?_ | intro _ | decide +kernel | omega)
  refine ev_loop (ι := Nat) (fun j => [(0, .ref 1), (1, iT (kP k xs j)), (5, iT j)]) (fun j => [(1, .arr true 94 3 ((preP k xs j).map oP ++ (xs.drop j).map oP))]) (fun _ => [(0, .ref 1)]) (fun j => j ≤ xs.length) (fun j => xs.length - j) 0 [] (by omega) (by simp only [go_sem, hP, ↓reduceIte, Nat.reduceAdd, Nat.reduceMul, Nat.reduceEqDiff, Nat.reduceSub, Nat.reduceLeDiff, reduceCtorEq]; simp [kP_zero, preP]) ?_
  intro j hj
  have hrow : ((preP k xs j).map oP ++ (xs.drop j).map oP).length = xs.length := by simp; omega
  repeat' (first
    | exact True.intro
    | refine ev_seq ?_
    | ((first | refine ev_stop 4 ?_ | refine vgd_go ?_ | refine ev_region hE hM (hS (by decide +kernel)) ?_ | refine ev_if ?_ | refine end_ret hE rfl rfl ?_ | refine end_norm hE rfl rfl ?_ | refine endG_ret [] hE rfl ?_ | refine endG_norm [] hE rfl ?_ | refine vcall_A ?_); simp (maxSteps := 2000000) only [go_sem, hP, ↓reduceIte, Nat.reduceAdd, Nat.reduceMul, Nat.reduceEqDiff, Nat.reduceSub, Nat.reduceLeDiff, reduceCtorEq, hrow])
    | refine ev_skip ?_ | refine ev_block ?_ | refine ev_blk ?_ | refine ev_ret ?_ | refine ev_exit ?_ | refine evx_code_ret ?_ | refine evx_blk_ret ?_ | refine evx_lp_ret ?_
    | refine evx_code_exit ?_ | refine evx_lp_exit ?_ | refine evx_blk_hit ?_ | refine evx_blk_pass (by decide) ?_
    | refine And.intro ?_ ?_ | intro _ | decide +kernel | omega)
  · rename_i hlt
    have hlt' : j < xs.length := by omega
    have g1 := kP_le (k := k) (xs := xs) (j + 1)
    have g2 := kP_succ (k := k) hlt'
    have g3 := kP_ge (k := k) (xs := xs) j
    have hw1 : IntKind.i64.wrap (kP k xs j + 1) = kP k xs j + 1 := i64_in _ (by omega)
    have c1 := s_markInt64S (xs.getD j default).rect.low (kP k xs j + 1) (by omega) (by simp only [mMax]; omega)
    have c2 := s_markInt64S (xs.getD j default).rect.high (kP k xs j + 1 + (xs.getD j default).rect.low.length) (by omega) (by simp only [mMax]; omega)
    first | refine Stop.mk ?_ | skip
    refine ev_cut [(0, .ref 1), (1, iT (kP k xs j)), (5, iT j)] [(1, .arr true 94 3 ((preP k xs j).map oP ++ oP (xs.getD j default) :: (xs.drop (j + 1)).map oP))] [(0, .ref 1)] [] (by simp only [go_sem, hP, ↓reduceIte, Nat.reduceAdd, Nat.reduceMul, Nat.reduceEqDiff, Nat.reduceSub, Nat.reduceLeDiff, reduceCtorEq]; simp [drop_oP hlt', oP_eq]) ?_
    refine ev_open 1 3 ((preP k xs j).map oP) ((xs.drop (j + 1)).map oP) (oP (xs.getD j default)) hY rfl (by simp only [go_sem, hP, ↓reduceIte, Nat.reduceAdd, Nat.reduceMul, Nat.reduceEqDiff, Nat.reduceSub, Nat.reduceLeDiff, reduceCtorEq] <;> simp) (by simp only [go_sem, hP, ↓reduceIte, Nat.reduceAdd, Nat.reduceMul, Nat.reduceEqDiff, Nat.reduceSub, Nat.reduceLeDiff, reduceCtorEq] <;> simp) ?_
    repeat' (first
      | exact True.intro
      | refine ev_seq ?_
      | ((first | refine vgd_go ?_ | refine ev_region hE hM (hS (by decide +kernel)) ?_ | refine ev_if ?_ | refine end_ret hE rfl rfl ?_ | refine end_norm hE rfl rfl ?_ | refine endG_ret [] hE rfl ?_ | refine endG_norm [] hE rfl ?_ | refine vcallG_of (args := [.ref 1048579, _]) [(1, 1048579)] [] hP c1 ?_ | refine vcallG_of (args := [.ref 2097155, _]) [(1, 2097155)] [] hP c2 ?_ | refine vcall_A ?_); simp (maxSteps := 2000000) only [go_sem, hP, ↓reduceIte, Nat.reduceAdd, Nat.reduceMul, Nat.reduceEqDiff, Nat.reduceSub, Nat.reduceLeDiff, reduceCtorEq, hw1, List.length_map, preP_length, List.length_drop])
      | refine ev_skip ?_ | refine ev_block ?_ | refine ev_blk ?_ | refine ev_ret ?_ | refine ev_exit ?_ | refine evx_code_ret ?_ | refine evx_blk_ret ?_ | refine evx_lp_ret ?_
      | refine evx_code_exit ?_ | refine evx_lp_exit ?_ | refine evx_blk_hit ?_ | refine evx_blk_pass (by decide) ?_
      | refine And.intro ?_ ?_ | intro _ | decide +kernel | omega)
    refine ev_cut [(0, .ref 1), (1, iT (kP k xs (j + 1))), (5, iT (j + 1 : Nat))] [(1, .opn 94 3 ((preP k xs j).map oP) [iT (kP k xs j), .ref 1048579, .ref 2097155] ((xs.drop (j + 1)).map oP)), gI 1048579 (markedI (kP k xs j + 1) (xs.getD j default).rect.low.length), gI 2097155 (markedI (kP k xs j + 1 + (xs.getD j default).rect.low.length) (xs.getD j default).rect.high.length)] [(0, .ref 1)] [] (by simp only [go_sem, hP, ↓reduceIte, Nat.reduceAdd, Nat.reduceMul, Nat.reduceEqDiff, Nat.reduceSub, Nat.reduceLeDiff, reduceCtorEq]; simp [g2, wrap_nat hlt' hlen]) ?_
    refine ev_close 1 [(0, 0), (0, 0), (0, 0)] (oP (mP k xs j)) [1048579, 2097155] rfl rfl (by decide) (by decide) ?_
    exact ev_lp (j + 1) [] (by omega) (by omega) (by simp only [go_sem, hP, ↓reduceIte, Nat.reduceAdd, Nat.reduceMul, Nat.reduceEqDiff, Nat.reduceSub, Nat.reduceLeDiff, reduceCtorEq]; simp [preP_succ, oP_eq])
  · obtain rfl : j = xs.length := by omega
    exact kP_done
  · obtain rfl : j = xs.length := by omega
    simp [markedPs]
/-- How far the marks are, ahead of the j-th element; the first elements, marked. -/
def kS {α : Type} (w : α → Nat) (k : Int) (xs : List α) (j : Nat) : Int := k + sumW w (xs.take j)
def preS {α : Type} [Inhabited α] (f : Int → α → α) (w : α → Nat) (k : Int) (xs : List α) (j : Nat) : List α := (List.range j).map fun i => f (kS w k xs i) (xs.getD i default)
section
variable {α : Type} [Inhabited α] {f : Int → α → α} {w : α → Nat} {k : Int} {xs : List α} {j : Nat}
@[simp] theorem preS_length : (preS f w k xs j).length = j := by simp [preS]
theorem preS_zero : preS f w k xs 0 = [] := rfl
theorem preS_succ : preS f w k xs (j + 1) = preS f w k xs j ++ [f (kS w k xs j) (xs.getD j default)] := by simp [preS, List.range_succ]
theorem preS_getD {n : Nat} (h : j < n) : (preS f w k xs n).getD j default = f (kS w k xs j) (xs.getD j default) := by
  rw [getD_lt (by simpa using h)]; simp [preS]
theorem kS_zero : kS w k xs 0 = k := by simp [kS, sumW]
theorem kS_succ (h : j < xs.length) : kS w k xs (j + 1) = kS w k xs j + w (xs.getD j default) := by
  have := sumW_step (w := w) (d := default) h
  simp only [kS, this]; omega
theorem kS_le (j : Nat) : kS w k xs j ≤ k + sumW w xs := by
  have := sumW_le (w := w) (xs := xs) j
  simp only [kS]; omega
theorem kS_ge (j : Nat) : k ≤ kS w k xs j := by simp only [kS]; omega
theorem kS_done : kS w k xs xs.length = k + sumW w xs := by simp [kS]
theorem drop_map {β : Type} {g : α → β} (h : j < xs.length) : (xs.drop j).map g = g (xs.getD j default) :: (xs.drop (j + 1)).map g := by
  rw [List.drop_eq_getElem_cons h, getD_lt h]; rfl
end
def mwEntry (e : Entry) : Nat := wR e.rect + 2
def mkEntry (k : Int) (e : Entry) : Entry := ⟨markedR k e.rect, k + e.rect.low.length + e.rect.high.length, k + e.rect.low.length + e.rect.high.length + 1⟩
def markedEs (k : Int) (xs : List Entry) : List Entry := preS mkEntry mwEntry k xs xs.length
@[go_sem] abbrev gEs (κ : Nat) (xs : List Entry) : Nat × Blk := (κ, .arr true 110 4 (xs.map oEntry))
theorem s_markEntryS (xs : List Entry) (k : Int) (h0 : 0 ≤ k) (h1 : k + sumW mwEntry xs ≤ mMax) : SatG Try.prog 23 true [.ref 1, iT k] [gEs 1 xs] (iT (k + sumW mwEntry xs)) [gEs 1 (markedEs k xs)] := by
  refine satG_walk (fn := Try.f23) rfl rfl rfl (Nat.le_of_ble_eq_true rfl) (by simp) fun fr hP hN hdp hb1 hb2 => ?_
  have hE : (envOf fr Try.prog).Ok := envOf_ok hP
  have hM := follows_of hP
  have hS : ∀ {draw ops}, statB Try.f23.ntmps draw ops = true → statB (envOf fr Try.prog).fr.N draw ops = true := fun h => by rw [envOf_fr, hN]; exact h
  simp only [mMax] at h1
  have hY : ∀ b, (envOf fr Try.prog).fr.Y b → (envOf fr Try.prog).fr.X b := fun b hb => hdp rfl b hb
  have hlen : xs.length ≤ maxLen := by have := hb2.1.1; simpa using this
  repeat' (first
    | exact True.intro
    | refine ev_seq ?_
    | ((first | refine vgd_go ?_ | refine ev_region hE hM (hS (by decide +kernel)) ?_ | refine ev_if ?_ | refine end_ret hE rfl rfl ?_ | refine end_norm hE rfl rfl ?_ | refine endG_ret [] hE rfl ?_ | refine endG_norm [] hE rfl ?_ | refine vcall_A ?_); simp (maxSteps := 2000000) only [go_sem, hP, ↓reduceIte, Nat.reduceAdd, Nat.reduceMul, Nat.reduceEqDiff, Nat.reduceSub, Nat.reduceLeDiff, reduceCtorEq])
    | refine ev_skip ?_ | refine ev_block ?_ | refine ev_blk ?_ | refine ev_ret ?_ | refine ev_exit ?_ | refine evx_code_ret ?_ | refine evx_blk_ret ?_ | refine evx_lp_ret ?_
    | refine evx_code_exit ?_ | refine evx_lp_exit ?_ | refine evx_blk_hit ?_ | refine evx_blk_pass (by decide) ?_
    | refine And.intro ?_ ?_ | intro _ | decide +kernel | omega)
  refine ev_loop (ι := Nat) (fun j => [(0, .ref 1), (1, iT (kS mwEntry k xs j)), (5, iT j)]) (fun j => [(1, .arr true 110 4 ((preS mkEntry mwEntry k xs j).map oEntry ++ (xs.drop j).map oEntry))]) (fun _ => [(0, .ref 1)]) (fun j => j ≤ xs.length) (fun j => xs.length - j) 0 [] (by omega) (by simp only [go_sem, hP, ↓reduceIte, Nat.reduceAdd, Nat.reduceMul, Nat.reduceEqDiff, Nat.reduceSub, Nat.reduceLeDiff, reduceCtorEq]; simp [kS_zero, preS_zero]) ?_
  intro j hj
  have hrow : ((preS mkEntry mwEntry k xs j).map oEntry ++ (xs.drop j).map oEntry).length = xs.length := by simp; omega
  repeat' (first
    | exact True.intro
    | refine ev_seq ?_
    | ((first | refine ev_stop 4 ?_ | refine vgd_go ?_ | refine ev_region hE hM (hS (by decide +kernel)) ?_ | refine ev_if ?_ | refine end_ret hE rfl rfl ?_ | refine end_norm hE rfl rfl ?_ | refine endG_ret [] hE rfl ?_ | refine endG_norm [] hE rfl ?_ | refine vcall_A ?_); simp (maxSteps := 2000000) only [go_sem, hP, ↓reduceIte, Nat.reduceAdd, Nat.reduceMul, Nat.reduceEqDiff, Nat.reduceSub, Nat.reduceLeDiff, reduceCtorEq, hrow])
    | refine ev_skip ?_ | refine ev_block ?_ | refine ev_blk ?_ | refine ev_ret ?_ | refine ev_exit ?_ | refine evx_code_ret ?_ | refine evx_blk_ret ?_ | refine evx_lp_ret ?_
    | refine evx_code_exit ?_ | refine evx_lp_exit ?_ | refine evx_blk_hit ?_ | refine evx_blk_pass (by decide) ?_
    | refine And.intro ?_ ?_ | intro _ | decide +kernel | omega)
  · rename_i hlt
    have hlt' : j < xs.length := by omega
    have g1 := kS_le (w := mwEntry) (k := k) (xs := xs) (j + 1)
    have g2 := kS_succ (w := mwEntry) (k := k) hlt'
    have g3 := kS_ge (w := mwEntry) (k := k) (xs := xs) j
    have g4 : mwEntry (xs.getD j default) = (xs.getD j default).rect.low.length + (xs.getD j default).rect.high.length + 2 := rfl
    have g6 : kS mwEntry k xs (j + 1) = kS mwEntry k xs j + (xs.getD j default).rect.low.length + (xs.getD j default).rect.high.length + 1 + 1 := by omega
    have hw1 : IntKind.i64.wrap (kS mwEntry k xs j + (xs.getD j default).rect.low.length + (xs.getD j default).rect.high.length + 1) = kS mwEntry k xs j + (xs.getD j default).rect.low.length + (xs.getD j default).rect.high.length + 1 := i64_in _ (by omega)
    have hw2 : IntKind.i64.wrap (kS mwEntry k xs j + (xs.getD j default).rect.low.length + (xs.getD j default).rect.high.length + 1 + 1) = kS mwEntry k xs j + (xs.getD j default).rect.low.length + (xs.getD j default).rect.high.length + 1 + 1 := i64_in _ (by omega)
    have c1 := s_markInt64S (xs.getD j default).rect.low (kS mwEntry k xs j) (by omega) (by simp only [mMax]; omega)
    have c2 := s_markInt64S (xs.getD j default).rect.high (kS mwEntry k xs j + (xs.getD j default).rect.low.length) (by omega) (by simp only [mMax]; omega)
    first | refine Stop.mk ?_ | skip
    refine ev_cut [(0, .ref 1), (1, iT (kS mwEntry k xs j)), (5, iT j)] [(1, .arr true 110 4 ((preS mkEntry mwEntry k xs j).map oEntry ++ oEntry (xs.getD j default) :: (xs.drop (j + 1)).map oEntry))] [(0, .ref 1)] [] (by simp only [go_sem, hP, ↓reduceIte, Nat.reduceAdd, Nat.reduceMul, Nat.reduceEqDiff, Nat.reduceSub, Nat.reduceLeDiff, reduceCtorEq]; simp [drop_map hlt', oEntry_eq]) ?_
    refine ev_open 1 3 ((preS mkEntry mwEntry k xs j).map oEntry) ((xs.drop (j + 1)).map oEntry) (oEntry (xs.getD j default)) hY rfl (by simp only [go_sem, hP, ↓reduceIte, Nat.reduceAdd, Nat.reduceMul, Nat.reduceEqDiff, Nat.reduceSub, Nat.reduceLeDiff, reduceCtorEq] <;> simp) (by simp only [go_sem, hP, ↓reduceIte, Nat.reduceAdd, Nat.reduceMul, Nat.reduceEqDiff, Nat.reduceSub, Nat.reduceLeDiff, reduceCtorEq] <;> simp) ?_
    repeat' (first
      | exact True.intro
      | refine ev_seq ?_
      | ((first | refine vgd_go ?_ | refine ev_region hE hM (hS (by decide +kernel)) ?_ | refine ev_if ?_ | refine end_ret hE rfl rfl ?_ | refine end_norm hE rfl rfl ?_ | refine endG_ret [] hE rfl ?_ | refine endG_norm [] hE rfl ?_ | refine vcallG_of (args := [.ref 3, _]) [(1, 3)] [] hP c1 ?_ | refine vcallG_of (args := [.ref 1048579, _]) [(1, 1048579)] [] hP c2 ?_ | refine vcall_A ?_); simp (maxSteps := 2000000) only [go_sem, hP, ↓reduceIte, Nat.reduceAdd, Nat.reduceMul, Nat.reduceEqDiff, Nat.reduceSub, Nat.reduceLeDiff, reduceCtorEq, hw1, hw2, List.length_map, preS_length, List.length_drop])
      | refine ev_skip ?_ | refine ev_block ?_ | refine ev_blk ?_ | refine ev_ret ?_ | refine ev_exit ?_ | refine evx_code_ret ?_ | refine evx_blk_ret ?_ | refine evx_lp_ret ?_
      | refine evx_code_exit ?_ | refine evx_lp_exit ?_ | refine evx_blk_hit ?_ | refine evx_blk_pass (by decide) ?_
      | refine And.intro ?_ ?_ | intro _ | decide +kernel | omega)
    refine ev_cut [(0, .ref 1), (1, iT (kS mwEntry k xs (j + 1))), (5, iT (j + 1 : Nat))] [(1, .opn 110 4 ((preS mkEntry mwEntry k xs j).map oEntry) [.ref 3, .ref 1048579, iT (kS mwEntry k xs j + (xs.getD j default).rect.low.length + (xs.getD j default).rect.high.length), iT (kS mwEntry k xs j + (xs.getD j default).rect.low.length + (xs.getD j default).rect.high.length + 1)] ((xs.drop (j + 1)).map oEntry)), gI 3 (markedI (kS mwEntry k xs j) (xs.getD j default).rect.low.length), gI 1048579 (markedI (kS mwEntry k xs j + (xs.getD j default).rect.low.length) (xs.getD j default).rect.high.length)] [(0, .ref 1)] [] (by simp only [go_sem, hP, ↓reduceIte, Nat.reduceAdd, Nat.reduceMul, Nat.reduceEqDiff, Nat.reduceSub, Nat.reduceLeDiff, reduceCtorEq]; simp [g6, wrap_nat hlt' hlen]) ?_
    refine ev_close 1 [(0, 0), (0, 0), (0, 0), (0, 0)] (oEntry (mkEntry (kS mwEntry k xs j) (xs.getD j default))) [3, 1048579] rfl rfl (by decide) (by decide) ?_
    exact ev_lp (j + 1) [] (by omega) (by omega) (by simp only [go_sem, hP, ↓reduceIte, Nat.reduceAdd, Nat.reduceMul, Nat.reduceEqDiff, Nat.reduceSub, Nat.reduceLeDiff, reduceCtorEq]; simp [preS_succ, oEntry_eq])
  · obtain rfl : j = xs.length := by omega
    exact kS_done
  · obtain rfl : j = xs.length := by omega
    simp [markedEs]
def mwRetired (r : Retired) : Nat := r.watch.length + 1
def mkRetired (k : Int) (r : Retired) : Retired := ⟨k, markedI (k + 1) r.watch.length⟩
def markedRets (k : Int) (xs : List Retired) : List Retired := preS mkRetired mwRetired k xs xs.length
@[go_sem] abbrev gRets (κ : Nat) (xs : List Retired) : Nat × Blk := (κ, .arr true 241 2 (xs.map oRetired))
def mwNode (n : Node) : Nat := sumW mwEntry n.entries + 3
def mkNode (k : Int) (n : Node) : Node := ⟨k, k + 1, k + 1 + 1, markedEs (k + 1 + 1 + 1) n.entries⟩
def markedNs (k : Int) (xs : List Node) : List Node := preS mkNode mwNode k xs xs.length
@[go_sem] abbrev gNs (κ : Nat) (xs : List Node) : Nat × Blk := (κ, .arr true 56 4 (xs.map oNode))
theorem s_markRetiredS (xs : List Retired) (k : Int) (h0 : 0 ≤ k) (h1 : k + sumW mwRetired xs ≤ mMax) : SatG Try.prog 185 true [.ref 1, iT k] [gRets 1 xs] (iT (k + sumW mwRetired xs)) [gRets 1 (markedRets k xs)] := by
  refine satG_walk (fn := Try.f185) rfl rfl rfl (Nat.le_of_ble_eq_true rfl) (by simp) fun fr hP hN hdp hb1 hb2 => ?_
  have hE : (envOf fr Try.prog).Ok := envOf_ok hP
  have hM := follows_of hP
  have hS : ∀ {draw ops}, statB Try.f185.ntmps draw ops = true → statB (envOf fr Try.prog).fr.N draw ops = true := fun h => by rw [envOf_fr, hN]; exact h
  simp only [mMax] at h1
  have hY : ∀ b, (envOf fr Try.prog).fr.Y b → (envOf fr Try.prog).fr.X b := fun b hb => hdp rfl b hb
  have hlen : xs.length ≤ maxLen := by have := hb2.1.1; simpa using this
  repeat' (first
    | exact True.intro
    | refine ev_seq ?_
    | ((first | refine vgd_go ?_ | refine ev_region hE hM (hS (by decide +kernel)) ?_ | refine ev_if ?_ | refine end_ret hE rfl rfl ?_ | refine end_norm hE rfl rfl ?_ | refine endG_ret [] hE rfl ?_ | refine endG_norm [] hE rfl ?_ | refine vcall_A ?_); simp (maxSteps := 2000000) only [go_sem, hP, ↓reduceIte, Nat.reduceAdd, Nat.reduceMul, Nat.reduceEqDiff, Nat.reduceSub, Nat.reduceLeDiff, reduceCtorEq])
    | refine ev_skip ?_ | refine ev_block ?_ | refine ev_blk ?_ | refine ev_ret ?_ | refine ev_exit ?_ | refine evx_code_ret ?_ | refine evx_blk_ret ?_ | refine evx_lp_ret ?_
    | refine evx_code_exit ?_ | refine evx_lp_exit ?_ | refine evx_blk_hit ?_ | refine evx_blk_pass (by decide) ?_
    | refine And.intro ?_ ?_ | intro _ | decide +kernel | omega)
  refine ev_loop (ι := Nat) (fun j => [(0, .ref 1), (1, iT (kS mwRetired k xs j)), (5, iT j)]) (fun j => [(1, .arr true 241 2 ((preS mkRetired mwRetired k xs j).map oRetired ++ (xs.drop j).map oRetired))]) (fun _ => [(0, .ref 1)]) (fun j => j ≤ xs.length) (fun j => xs.length - j) 0 [] (by omega) (by simp only [go_sem, hP, ↓reduceIte, Nat.reduceAdd, Nat.reduceMul, Nat.reduceEqDiff, Nat.reduceSub, Nat.reduceLeDiff, reduceCtorEq]; simp [kS_zero, preS_zero]) ?_
  intro j hj
  have hrow : ((preS mkRetired mwRetired k xs j).map oRetired ++ (xs.drop j).map oRetired).length = xs.length := by simp; omega
  repeat' (first
    | exact True.intro
    | refine ev_seq ?_
    | ((first | refine ev_stop 4 ?_ | refine vgd_go ?_ | refine ev_region hE hM (hS (by decide +kernel)) ?_ | refine ev_if ?_ | refine end_ret hE rfl rfl ?_ | refine end_norm hE rfl rfl ?_ | refine endG_ret [] hE rfl ?_ | refine endG_norm [] hE rfl ?_ | refine vcall_A ?_); simp (maxSteps := 2000000) only [go_sem, hP, ↓reduceIte, Nat.reduceAdd, Nat.reduceMul, Nat.reduceEqDiff, Nat.reduceSub, Nat.reduceLeDiff, reduceCtorEq, hrow])
    | refine ev_skip ?_ | refine ev_block ?_ | refine ev_blk ?_ | refine ev_ret ?_ | refine ev_exit ?_ | refine evx_code_ret ?_ | refine evx_blk_ret ?_ | refine evx_lp_ret ?_
    | refine evx_code_exit ?_ | refine evx_lp_exit ?_ | refine evx_blk_hit ?_ | refine evx_blk_pass (by decide) ?_
    | refine And.intro ?_ ?_ | intro _ | decide +kernel | omega)
  · rename_i hlt
    have hlt' : j < xs.length := by omega
    have g1 := kS_le (w := mwRetired) (k := k) (xs := xs) (j + 1)
    have g2 := kS_succ (w := mwRetired) (k := k) hlt'
    have g3 := kS_ge (w := mwRetired) (k := k) (xs := xs) j
    have g4 : mwRetired (xs.getD j default) = (xs.getD j default).watch.length + 1 := rfl
    have g6 : kS mwRetired k xs (j + 1) = kS mwRetired k xs j + 1 + (xs.getD j default).watch.length := by omega
    have hw1 : IntKind.i64.wrap (kS mwRetired k xs j + 1) = kS mwRetired k xs j + 1 := i64_in _ (by omega)
    have c1 := s_markInt64S (xs.getD j default).watch (kS mwRetired k xs j + 1) (by omega) (by simp only [mMax]; omega)
    first | refine Stop.mk ?_ | skip
    refine ev_cut [(0, .ref 1), (1, iT (kS mwRetired k xs j)), (5, iT j)] [(1, .arr true 241 2 ((preS mkRetired mwRetired k xs j).map oRetired ++ oRetired (xs.getD j default) :: (xs.drop (j + 1)).map oRetired))] [(0, .ref 1)] [] (by simp only [go_sem, hP, ↓reduceIte, Nat.reduceAdd, Nat.reduceMul, Nat.reduceEqDiff, Nat.reduceSub, Nat.reduceLeDiff, reduceCtorEq]; simp [drop_map hlt', oRetired_eq]) ?_
    refine ev_open 1 3 ((preS mkRetired mwRetired k xs j).map oRetired) ((xs.drop (j + 1)).map oRetired) (oRetired (xs.getD j default)) hY rfl (by simp only [go_sem, hP, ↓reduceIte, Nat.reduceAdd, Nat.reduceMul, Nat.reduceEqDiff, Nat.reduceSub, Nat.reduceLeDiff, reduceCtorEq] <;> simp) (by simp only [go_sem, hP, ↓reduceIte, Nat.reduceAdd, Nat.reduceMul, Nat.reduceEqDiff, Nat.reduceSub, Nat.reduceLeDiff, reduceCtorEq] <;> simp) ?_
    repeat' (first
      | exact True.intro
      | refine ev_seq ?_
      | ((first | refine vgd_go ?_ | refine ev_region hE hM (hS (by decide +kernel)) ?_ | refine ev_if ?_ | refine end_ret hE rfl rfl ?_ | refine end_norm hE rfl rfl ?_ | refine endG_ret [] hE rfl ?_ | refine endG_norm [] hE rfl ?_ | refine vcallG_of (args := [.ref 1048579, _]) [(1, 1048579)] [] hP c1 ?_ | refine vcall_A ?_); simp (maxSteps := 2000000) only [go_sem, hP, ↓reduceIte, Nat.reduceAdd, Nat.reduceMul, Nat.reduceEqDiff, Nat.reduceSub, Nat.reduceLeDiff, reduceCtorEq, hw1, List.length_map, preS_length, List.length_drop])
      | refine ev_skip ?_ | refine ev_block ?_ | refine ev_blk ?_ | refine ev_ret ?_ | refine ev_exit ?_ | refine evx_code_ret ?_ | refine evx_blk_ret ?_ | refine evx_lp_ret ?_
      | refine evx_code_exit ?_ | refine evx_lp_exit ?_ | refine evx_blk_hit ?_ | refine evx_blk_pass (by decide) ?_
      | refine And.intro ?_ ?_ | intro _ | decide +kernel | omega)
    refine ev_cut [(0, .ref 1), (1, iT (kS mwRetired k xs (j + 1))), (5, iT (j + 1 : Nat))] [(1, .opn 241 2 ((preS mkRetired mwRetired k xs j).map oRetired) [iT (kS mwRetired k xs j), .ref 1048579] ((xs.drop (j + 1)).map oRetired)), gI 1048579 (markedI (kS mwRetired k xs j + 1) (xs.getD j default).watch.length)] [(0, .ref 1)] [] (by simp only [go_sem, hP, ↓reduceIte, Nat.reduceAdd, Nat.reduceMul, Nat.reduceEqDiff, Nat.reduceSub, Nat.reduceLeDiff, reduceCtorEq]; simp [g6, wrap_nat hlt' hlen]) ?_
    refine ev_close 1 [(0, 0), (0, 0)] (oRetired (mkRetired (kS mwRetired k xs j) (xs.getD j default))) [1048579] rfl rfl (by decide) (by decide) ?_
    exact ev_lp (j + 1) [] (by omega) (by omega) (by simp only [go_sem, hP, ↓reduceIte, Nat.reduceAdd, Nat.reduceMul, Nat.reduceEqDiff, Nat.reduceSub, Nat.reduceLeDiff, reduceCtorEq]; simp [preS_succ, oRetired_eq])
  · obtain rfl : j = xs.length := by omega
    exact kS_done
  · obtain rfl : j = xs.length := by omega
    simp [markedRets]
theorem s_markNodeS (xs : List Node) (k : Int) (h0 : 0 ≤ k) (h1 : k + sumW mwNode xs ≤ mMax) : SatG Try.prog 184 true [.ref 1, iT k] [gNs 1 xs] (iT (k + sumW mwNode xs)) [gNs 1 (markedNs k xs)] := by
  refine satG_walk (fn := Try.f184) rfl rfl rfl (Nat.le_of_ble_eq_true rfl) (by simp) fun fr hP hN hdp hb1 hb2 => ?_
  have hE : (envOf fr Try.prog).Ok := envOf_ok hP
  have hM := follows_of hP
  have hS : ∀ {draw ops}, statB Try.f184.ntmps draw ops = true → statB (envOf fr Try.prog).fr.N draw ops = true := fun h => by rw [envOf_fr, hN]; exact h
  simp only [mMax] at h1
  have hY : ∀ b, (envOf fr Try.prog).fr.Y b → (envOf fr Try.prog).fr.X b := fun b hb => hdp rfl b hb
  have hlen : xs.length ≤ maxLen := by have := hb2.1.1; simpa using this
  repeat' (first
    | exact True.intro
    | refine ev_seq ?_
    | ((first | refine vgd_go ?_ | refine ev_region hE hM (hS (by decide +kernel)) ?_ | refine ev_if ?_ | refine end_ret hE rfl rfl ?_ | refine end_norm hE rfl rfl ?_ | refine endG_ret [] hE rfl ?_ | refine endG_norm [] hE rfl ?_ | refine vcall_A ?_); simp (maxSteps := 2000000) only [go_sem, hP, ↓reduceIte, Nat.reduceAdd, Nat.reduceMul, Nat.reduceEqDiff, Nat.reduceSub, Nat.reduceLeDiff, reduceCtorEq])
    | refine ev_skip ?_ | refine ev_block ?_ | refine ev_blk ?_ | refine ev_ret ?_ | refine ev_exit ?_ | refine evx_code_ret ?_ | refine evx_blk_ret ?_ | refine evx_lp_ret ?_
    | refine evx_code_exit ?_ | refine evx_lp_exit ?_ | refine evx_blk_hit ?_ | refine evx_blk_pass (by decide) ?_
    | refine And.intro ?_ ?_ | intro _ | decide +kernel | omega)
  refine ev_loop (ι := Nat) (fun j => [(0, .ref 1), (1, iT (kS mwNode k xs j)), (5, iT j)]) (fun j => [(1, .arr true 56 4 ((preS mkNode mwNode k xs j).map oNode ++ (xs.drop j).map oNode))]) (fun _ => [(0, .ref 1)]) (fun j => j ≤ xs.length) (fun j => xs.length - j) 0 [] (by omega) (by simp only [go_sem, hP, ↓reduceIte, Nat.reduceAdd, Nat.reduceMul, Nat.reduceEqDiff, Nat.reduceSub, Nat.reduceLeDiff, reduceCtorEq]; simp [kS_zero, preS_zero]) ?_
  intro j hj
  have hrow : ((preS mkNode mwNode k xs j).map oNode ++ (xs.drop j).map oNode).length = xs.length := by simp; omega
  repeat' (first
    | exact True.intro
    | refine ev_seq ?_
    | ((first | refine ev_stop 4 ?_ | refine vgd_go ?_ | refine ev_region hE hM (hS (by decide +kernel)) ?_ | refine ev_if ?_ | refine end_ret hE rfl rfl ?_ | refine end_norm hE rfl rfl ?_ | refine endG_ret [] hE rfl ?_ | refine endG_norm [] hE rfl ?_ | refine vcall_A ?_); simp (maxSteps := 2000000) only [go_sem, hP, ↓reduceIte, Nat.reduceAdd, Nat.reduceMul, Nat.reduceEqDiff, Nat.reduceSub, Nat.reduceLeDiff, reduceCtorEq, hrow])
    | refine ev_skip ?_ | refine ev_block ?_ | refine ev_blk ?_ | refine ev_ret ?_ | refine ev_exit ?_ | refine evx_code_ret ?_ | refine evx_blk_ret ?_ | refine evx_lp_ret ?_
    | refine evx_code_exit ?_ | refine evx_lp_exit ?_ | refine evx_blk_hit ?_ | refine evx_blk_pass (by decide) ?_
    | refine And.intro ?_ ?_ | intro _ | decide +kernel | omega)
  · rename_i hlt
    have hlt' : j < xs.length := by omega
    have g1 := kS_le (w := mwNode) (k := k) (xs := xs) (j + 1)
    have g2 := kS_succ (w := mwNode) (k := k) hlt'
    have g3 := kS_ge (w := mwNode) (k := k) (xs := xs) j
    have g4 : mwNode (xs.getD j default) = sumW mwEntry (xs.getD j default).entries + 3 := rfl
    have g6 : kS mwNode k xs (j + 1) = kS mwNode k xs j + 1 + 1 + 1 + sumW mwEntry (xs.getD j default).entries := by omega
    have hw1 : IntKind.i64.wrap (kS mwNode k xs j + 1) = kS mwNode k xs j + 1 := i64_in _ (by omega)
    have hw2 : IntKind.i64.wrap (kS mwNode k xs j + 1 + 1) = kS mwNode k xs j + 1 + 1 := i64_in _ (by omega)
    have hw3 : IntKind.i64.wrap (kS mwNode k xs j + 1 + 1 + 1) = kS mwNode k xs j + 1 + 1 + 1 := i64_in _ (by omega)
    have c1 := s_markEntryS (xs.getD j default).entries (kS mwNode k xs j + 1 + 1 + 1) (by omega) (by simp only [mMax]; omega)
    first | refine Stop.mk ?_ | skip
    refine ev_cut [(0, .ref 1), (1, iT (kS mwNode k xs j)), (5, iT j)] [(1, .arr true 56 4 ((preS mkNode mwNode k xs j).map oNode ++ oNode (xs.getD j default) :: (xs.drop (j + 1)).map oNode))] [(0, .ref 1)] [] (by simp only [go_sem, hP, ↓reduceIte, Nat.reduceAdd, Nat.reduceMul, Nat.reduceEqDiff, Nat.reduceSub, Nat.reduceLeDiff, reduceCtorEq]; simp [drop_map hlt', oNode_eq]) ?_
    refine ev_open 1 3 ((preS mkNode mwNode k xs j).map oNode) ((xs.drop (j + 1)).map oNode) (oNode (xs.getD j default)) hY rfl (by simp only [go_sem, hP, ↓reduceIte, Nat.reduceAdd, Nat.reduceMul, Nat.reduceEqDiff, Nat.reduceSub, Nat.reduceLeDiff, reduceCtorEq] <;> simp) (by simp only [go_sem, hP, ↓reduceIte, Nat.reduceAdd, Nat.reduceMul, Nat.reduceEqDiff, Nat.reduceSub, Nat.reduceLeDiff, reduceCtorEq] <;> simp) ?_
    repeat' (first
      | exact True.intro
      | refine ev_seq ?_
      | ((first | refine ev_stop 10 ?_ | refine vgd_go ?_ | refine ev_region hE hM (hS (by decide +kernel)) ?_ | refine ev_if ?_ | refine end_ret hE rfl rfl ?_ | refine end_norm hE rfl rfl ?_ | refine endG_ret [] hE rfl ?_ | refine endG_norm [] hE rfl ?_ | refine vcall_A ?_); simp (maxSteps := 2000000) only [go_sem, hP, ↓reduceIte, Nat.reduceAdd, Nat.reduceMul, Nat.reduceEqDiff, Nat.reduceSub, Nat.reduceLeDiff, reduceCtorEq, hw1, hw2, hw3, List.length_map, preS_length, List.length_drop])
      | refine ev_skip ?_ | refine ev_block ?_ | refine ev_blk ?_ | refine ev_ret ?_ | refine ev_exit ?_ | refine evx_code_ret ?_ | refine evx_blk_ret ?_ | refine evx_lp_ret ?_
      | refine evx_code_exit ?_ | refine evx_lp_exit ?_ | refine evx_blk_hit ?_ | refine evx_blk_pass (by decide) ?_
      | refine And.intro ?_ ?_ | intro _ | decide +kernel | omega)
    first | refine Stop.mk ?_ | skip
    refine ev_cut [(0, .ref 1), (1, iT (kS mwNode k xs j + 1 + 1 + 1)), (5, iT j)] [(1, .opn 56 4 ((preS mkNode mwNode k xs j).map oNode) [iT (kS mwNode k xs j), iT (kS mwNode k xs j + 1), iT (kS mwNode k xs j + 1 + 1), .ref 3145731] ((xs.drop (j + 1)).map oNode)), gEs 3145731 (xs.getD j default).entries] [(0, .ref 1)] [] (by simp only [go_sem, hP, ↓reduceIte, Nat.reduceAdd, Nat.reduceMul, Nat.reduceEqDiff, Nat.reduceSub, Nat.reduceLeDiff, reduceCtorEq]) ?_
    repeat' (first
      | exact True.intro
      | refine ev_seq ?_
      | ((first | refine ev_regionC (pre := [_, _, _, _, _, _]) hE rfl (hS (by decide +kernel)) ?_ | refine vgd_go ?_ | refine ev_region hE hM (hS (by decide +kernel)) ?_ | refine ev_if ?_ | refine end_ret hE rfl rfl ?_ | refine end_norm hE rfl rfl ?_ | refine endG_ret [] hE rfl ?_ | refine endG_norm [] hE rfl ?_ | refine vcall_A ?_); simp (maxSteps := 2000000) only [go_sem, hP, ↓reduceIte, Nat.reduceAdd, Nat.reduceMul, Nat.reduceEqDiff, Nat.reduceSub, Nat.reduceLeDiff, reduceCtorEq, List.length_map, preS_length, List.length_drop])
      | refine ev_skip ?_ | refine ev_block ?_ | refine ev_blk ?_ | refine ev_ret ?_ | refine ev_exit ?_ | refine evx_code_ret ?_ | refine evx_blk_ret ?_ | refine evx_lp_ret ?_
      | refine evx_code_exit ?_ | refine evx_lp_exit ?_ | refine evx_blk_hit ?_ | refine evx_blk_pass (by decide) ?_
      | refine And.intro ?_ ?_ | intro _ | decide +kernel | omega)
    refine callM_of [(1, 3145731)] [] [(0, .ref 1), (5, iT j), (37, .ref 3145731), (38, iT (kS mwNode k xs j + 1 + 1 + 1))] [(1, .opn 56 4 ((preS mkNode mwNode k xs j).map oNode) [iT (kS mwNode k xs j), iT (kS mwNode k xs j + 1), iT (kS mwNode k xs j + 1 + 1), .ref 3145731] ((xs.drop (j + 1)).map oNode)), gEs 3145731 (xs.getD j default).entries] [(0, .ref 1)] hP c1 hY rfl rfl (by rw [envOf_fr, hN]; decide) (by simp only [go_sem, hP, ↓reduceIte, Nat.reduceAdd, Nat.reduceMul, Nat.reduceEqDiff, Nat.reduceSub, Nat.reduceLeDiff, reduceCtorEq]) rfl rfl (by simp only [go_sem, hP, ↓reduceIte, Nat.reduceAdd, Nat.reduceMul, Nat.reduceEqDiff, Nat.reduceSub, Nat.reduceLeDiff, reduceCtorEq] <;> simp) (by simp only [go_sem, hP, ↓reduceIte, Nat.reduceAdd, Nat.reduceMul, Nat.reduceEqDiff, Nat.reduceSub, Nat.reduceLeDiff, reduceCtorEq] <;> simp) ?_
    simp only [go_sem, hP, ↓reduceIte, Nat.reduceAdd, Nat.reduceMul, Nat.reduceEqDiff, Nat.reduceSub, Nat.reduceLeDiff, reduceCtorEq]
    repeat' (first
      | exact True.intro
      | refine ev_seq ?_
      | ((first | refine vgd_go ?_ | refine ev_region hE hM (hS (by decide +kernel)) ?_ | refine ev_if ?_ | refine end_ret hE rfl rfl ?_ | refine end_norm hE rfl rfl ?_ | refine endG_ret [] hE rfl ?_ | refine endG_norm [] hE rfl ?_ | refine vcall_A ?_); simp (maxSteps := 2000000) only [go_sem, hP, ↓reduceIte, Nat.reduceAdd, Nat.reduceMul, Nat.reduceEqDiff, Nat.reduceSub, Nat.reduceLeDiff, reduceCtorEq])
      | refine ev_skip ?_ | refine ev_block ?_ | refine ev_blk ?_ | refine ev_ret ?_ | refine ev_exit ?_ | refine evx_code_ret ?_ | refine evx_blk_ret ?_ | refine evx_lp_ret ?_
      | refine evx_code_exit ?_ | refine evx_lp_exit ?_ | refine evx_blk_hit ?_ | refine evx_blk_pass (by decide) ?_
      | refine And.intro ?_ ?_ | intro _ | decide +kernel | omega)
    refine ev_cut [(0, .ref 1), (1, iT (kS mwNode k xs (j + 1))), (5, iT (j + 1 : Nat))] [(1, .opn 56 4 ((preS mkNode mwNode k xs j).map oNode) [iT (kS mwNode k xs j), iT (kS mwNode k xs j + 1), iT (kS mwNode k xs j + 1 + 1), .ref 3145731] ((xs.drop (j + 1)).map oNode)), gEs 3145731 (markedEs (kS mwNode k xs j + 1 + 1 + 1) (xs.getD j default).entries)] [(0, .ref 1)] [] (by simp only [go_sem, hP, ↓reduceIte, Nat.reduceAdd, Nat.reduceMul, Nat.reduceEqDiff, Nat.reduceSub, Nat.reduceLeDiff, reduceCtorEq]; simp [g6, wrap_nat hlt' hlen]) ?_
    refine ev_close 1 [(0, 0), (0, 0), (0, 0), (0, 0)] (oNode (mkNode (kS mwNode k xs j) (xs.getD j default))) [3145731] rfl rfl (by decide) (by decide) ?_
    exact ev_lp (j + 1) [] (by omega) (by omega) (by simp only [go_sem, hP, ↓reduceIte, Nat.reduceAdd, Nat.reduceMul, Nat.reduceEqDiff, Nat.reduceSub, Nat.reduceLeDiff, reduceCtorEq]; simp [preS_succ, oNode_eq])
  · obtain rfl : j = xs.length := by omega
    exact kS_done
  · obtain rfl : j = xs.length := by omega
    simp [markedNs]
def naC (d r : Int) : Int := if inB d 2 3 = false then 3 else if inB r 4 40 = false then 2 else 0
def nodesN (n : Nat) : List Node := (List.range n).map fun _ => emptyNode
theorem nodesN_succ (n : Nat) : nodesN (n + 1) = nodesN n ++ [emptyNode] := by simp only [nodesN, List.range_succ, List.map_append, List.map_cons, List.map_nil]
@[simp] theorem nodesN_length (n : Nat) : (nodesN n).length = n := by simp [nodesN]
theorem inB_r {r : Int} (h : inB r 4 40 = true) : 0 ≤ r ∧ r ≤ 40 := by simp [inB] at h; omega
def freeN (n : Nat) : List Int := (List.range n).map fun (j : Nat) => (j : Int)
def naV (d r : Int) : Arena := if naC d r = 0 then ⟨d, nodesN r.toNat, freeN r.toNat, []⟩ else ⟨0, [], [], []⟩
theorem freeN_succ (n : Nat) : freeN (n + 1) = freeN n ++ [(n : Int)] := by simp [freeN, List.range_succ]
@[simp] theorem freeN_length (n : Nat) : (freeN n).length = n := by simp [freeN]
theorem naC_zero {d r : Int} (h : naC d r = 0) : 4 ≤ r ∧ r ≤ 40 := by
  unfold naC at h
  split at h
  · simp at h
  · split at h
    · simp at h
    · rename_i h1 h2; simp [inB] at h2; omega
@[go_sem] abbrev aAR (c : Int) (a : Arena) (i : Int) : Arg := .d (true, [.int .i64 c, .int .i64 a.dims, sNodeS a.nodes, sI a.free, sRetiredS a.retired, .int .i64 i])
@[go_sem] abbrev rAR (c : Int) (a : Arena) (i : Int) : List Dat := [(true, [.int .i64 c, .int .i64 a.dims, oNodeS a.nodes, oI a.free, oRetiredS a.retired, .int .i64 i])]
@[go_sem] abbrev tA (d : Int) (x y z : Nat) : T := .agg [iT d, .ref x, .ref y, .ref z]
@[go_sem] abbrev tAR (c d : Int) (x y z : Nat) (i : Int) : T := .agg [iT c, iT d, .ref x, .ref y, .ref z, iT i]
@[go_sem] abbrev gA (x y z : Nat) (a : Arena) : List (Nat × Blk) := [gNs x a.nodes, gI y a.free, gRets z a.retired]
def mwA (a : Arena) : Nat := sumW mwNode a.nodes + a.free.length + sumW mwRetired a.retired
def markedA (k : Int) (a : Arena) : Arena := ⟨a.dims, markedNs k a.nodes, markedI (k + sumW mwNode a.nodes) a.free.length, markedRets (k + sumW mwNode a.nodes + a.free.length) a.retired⟩
theorem s_markArena (a : Arena) (k : Int) (h0 : 0 ≤ k) (h1 : k + mwA a ≤ mMax) : SatG Try.prog 142 true [tA a.dims 1 2 3, iT k] (gA 1 2 3 a) (iT (k + sumW mwNode a.nodes + a.free.length + sumW mwRetired a.retired)) (gA 1 2 3 (markedA k a)) := by
  refine satG_walk (fn := Try.f142) rfl rfl rfl (Nat.le_of_ble_eq_true rfl) (by simp) fun fr hP hN hdp hb1 hb2 => ?_
  have hE : (envOf fr Try.prog).Ok := envOf_ok hP
  have hM := follows_of hP
  have hS : ∀ {draw ops}, statB Try.f142.ntmps draw ops = true → statB (envOf fr Try.prog).fr.N draw ops = true := fun h => by rw [envOf_fr, hN]; exact h
  simp only [mMax, mwA] at h1
  have hY : ∀ b, (envOf fr Try.prog).fr.Y b → (envOf fr Try.prog).fr.X b := fun b hb => hdp rfl b hb
  have c1 := s_markNodeS a.nodes k h0 (by simp only [mMax]; omega)
  have c2 := s_markInt64S a.free (k + sumW mwNode a.nodes) (by omega) (by simp only [mMax]; omega)
  have c3 := s_markRetiredS a.retired (k + sumW mwNode a.nodes + a.free.length) (by omega) (by simp only [mMax]; omega)
  repeat' (first
    | exact True.intro
    | refine ev_seq ?_
    | ((first | refine ev_stop 1 ?_ | refine vgd_go ?_ | refine ev_region hE hM (hS (by decide +kernel)) ?_ | refine ev_if ?_ | refine end_ret hE rfl rfl ?_ | refine end_norm hE rfl rfl ?_ | refine endG_ret [] hE rfl ?_ | refine endG_norm [] hE rfl ?_ | refine vcall_A ?_); simp (maxSteps := 2000000) only [go_sem, hP, ↓reduceIte, Nat.reduceAdd, Nat.reduceMul, Nat.reduceEqDiff, Nat.reduceSub, Nat.reduceLeDiff, reduceCtorEq])
    | refine ev_skip ?_ | refine ev_block ?_ | refine ev_blk ?_ | refine ev_ret ?_ | refine ev_exit ?_ | refine evx_code_ret ?_ | refine evx_blk_ret ?_ | refine evx_lp_ret ?_
    | refine evx_code_exit ?_ | refine evx_lp_exit ?_ | refine evx_blk_hit ?_ | refine evx_blk_pass (by decide) ?_
    | refine And.intro ?_ ?_ | intro _ | decide +kernel | omega)
  first | refine Stop.mk ?_ | skip
  refine ev_cut [(1, iT k), (2, .ptr 0 0)] ((0, .box [iT a.dims, .ref 1, .ref 2, .ref 3]) :: gA 1 2 3 a) [(0, .ref 1), (1, .ref 2), (2, .ref 3)] [] (by simp only [go_sem, hP, ↓reduceIte, Nat.reduceAdd, Nat.reduceMul, Nat.reduceEqDiff, Nat.reduceSub, Nat.reduceLeDiff, reduceCtorEq]) ?_
  repeat' (first
    | exact True.intro
    | refine ev_seq ?_
    | ((first | refine ev_regionC (id := 1) (pre := [_, _, _]) hE rfl (hS (by decide +kernel)) ?_ | refine vgd_go ?_ | refine ev_region hE hM (hS (by decide +kernel)) ?_ | refine ev_if ?_ | refine end_ret hE rfl rfl ?_ | refine end_norm hE rfl rfl ?_ | refine endG_ret [] hE rfl ?_ | refine endG_norm [] hE rfl ?_ | refine vcall_A ?_); simp (maxSteps := 2000000) only [go_sem, hP, ↓reduceIte, Nat.reduceAdd, Nat.reduceMul, Nat.reduceEqDiff, Nat.reduceSub, Nat.reduceLeDiff, reduceCtorEq])
    | refine ev_skip ?_ | refine ev_block ?_ | refine ev_blk ?_ | refine ev_ret ?_ | refine ev_exit ?_ | refine evx_code_ret ?_ | refine evx_blk_ret ?_ | refine evx_lp_ret ?_
    | refine evx_code_exit ?_ | refine evx_lp_exit ?_ | refine evx_blk_hit ?_ | refine evx_blk_pass (by decide) ?_
    | refine And.intro ?_ ?_ | intro _ | decide +kernel | omega)
  refine callM_of [(1, 1)] [] [(2, .ptr 0 0), (6, .ref 1), (7, iT k)] ((0, .box [iT a.dims, .ref 1, .ref 2, .ref 3]) :: gA 1 2 3 a) [(0, .ref 1), (1, .ref 2), (2, .ref 3)] hP c1 hY rfl rfl (by rw [envOf_fr, hN]; decide) (by simp only [go_sem, hP, ↓reduceIte, Nat.reduceAdd, Nat.reduceMul, Nat.reduceEqDiff, Nat.reduceSub, Nat.reduceLeDiff, reduceCtorEq]) rfl rfl (by simp only [go_sem, hP, ↓reduceIte, Nat.reduceAdd, Nat.reduceMul, Nat.reduceEqDiff, Nat.reduceSub, Nat.reduceLeDiff, reduceCtorEq] <;> simp) (by simp only [go_sem, hP, ↓reduceIte, Nat.reduceAdd, Nat.reduceMul, Nat.reduceEqDiff, Nat.reduceSub, Nat.reduceLeDiff, reduceCtorEq] <;> simp) ?_
  simp only [go_sem, hP, ↓reduceIte, Nat.reduceAdd, Nat.reduceMul, Nat.reduceEqDiff, Nat.reduceSub, Nat.reduceLeDiff, reduceCtorEq]
  repeat' (first
    | exact True.intro
    | refine ev_seq ?_
    | ((first | refine ev_stop 3 ?_ | refine vgd_go ?_ | refine ev_region hE hM (hS (by decide +kernel)) ?_ | refine ev_if ?_ | refine end_ret hE rfl rfl ?_ | refine end_norm hE rfl rfl ?_ | refine endG_ret [] hE rfl ?_ | refine endG_norm [] hE rfl ?_ | refine vcallG_of (args := [.ref 2, _]) [(1, 2)] [] hP c2 ?_ | refine vcall_A ?_); simp (maxSteps := 2000000) only [go_sem, hP, ↓reduceIte, Nat.reduceAdd, Nat.reduceMul, Nat.reduceEqDiff, Nat.reduceSub, Nat.reduceLeDiff, reduceCtorEq])
    | refine ev_skip ?_ | refine ev_block ?_ | refine ev_blk ?_ | refine ev_ret ?_ | refine ev_exit ?_ | refine evx_code_ret ?_ | refine evx_blk_ret ?_ | refine evx_lp_ret ?_
    | refine evx_code_exit ?_ | refine evx_lp_exit ?_ | refine evx_blk_hit ?_ | refine evx_blk_pass (by decide) ?_
    | refine And.intro ?_ ?_ | intro _ | decide +kernel | omega)
  first | refine Stop.mk ?_ | skip
  refine ev_cut [(1, iT (k + sumW mwNode a.nodes + a.free.length)), (2, .ptr 0 0)] [(0, .box [iT a.dims, .ref 1, .ref 2, .ref 3]), gNs 1 (markedNs k a.nodes), gI 2 (markedI (k + sumW mwNode a.nodes) a.free.length), gRets 3 a.retired] [(0, .ref 1), (1, .ref 2), (2, .ref 3)] [] (by simp only [go_sem, hP, ↓reduceIte, Nat.reduceAdd, Nat.reduceMul, Nat.reduceEqDiff, Nat.reduceSub, Nat.reduceLeDiff, reduceCtorEq]) ?_
  repeat' (first
    | exact True.intro
    | refine ev_seq ?_
    | ((first | refine ev_regionC (id := 3) (pre := [_, _, _]) hE rfl (hS (by decide +kernel)) ?_ | refine vgd_go ?_ | refine ev_region hE hM (hS (by decide +kernel)) ?_ | refine ev_if ?_ | refine end_ret hE rfl rfl ?_ | refine end_norm hE rfl rfl ?_ | refine endG_ret [] hE rfl ?_ | refine endG_norm [] hE rfl ?_ | refine vcall_A ?_); simp (maxSteps := 2000000) only [go_sem, hP, ↓reduceIte, Nat.reduceAdd, Nat.reduceMul, Nat.reduceEqDiff, Nat.reduceSub, Nat.reduceLeDiff, reduceCtorEq])
    | refine ev_skip ?_ | refine ev_block ?_ | refine ev_blk ?_ | refine ev_ret ?_ | refine ev_exit ?_ | refine evx_code_ret ?_ | refine evx_blk_ret ?_ | refine evx_lp_ret ?_
    | refine evx_code_exit ?_ | refine evx_lp_exit ?_ | refine evx_blk_hit ?_ | refine evx_blk_pass (by decide) ?_
    | refine And.intro ?_ ?_ | intro _ | decide +kernel | omega)
  refine callM_of [(1, 3)] [] [(2, .ptr 0 0), (14, .ref 3), (15, iT (k + sumW mwNode a.nodes + a.free.length))] [(0, .box [iT a.dims, .ref 1, .ref 2, .ref 3]), gNs 1 (markedNs k a.nodes), gI 2 (markedI (k + sumW mwNode a.nodes) a.free.length), gRets 3 a.retired] [(0, .ref 1), (1, .ref 2), (2, .ref 3)] hP c3 hY rfl rfl (by rw [envOf_fr, hN]; decide) (by simp only [go_sem, hP, ↓reduceIte, Nat.reduceAdd, Nat.reduceMul, Nat.reduceEqDiff, Nat.reduceSub, Nat.reduceLeDiff, reduceCtorEq]) rfl rfl (by simp only [go_sem, hP, ↓reduceIte, Nat.reduceAdd, Nat.reduceMul, Nat.reduceEqDiff, Nat.reduceSub, Nat.reduceLeDiff, reduceCtorEq] <;> simp) (by simp only [go_sem, hP, ↓reduceIte, Nat.reduceAdd, Nat.reduceMul, Nat.reduceEqDiff, Nat.reduceSub, Nat.reduceLeDiff, reduceCtorEq] <;> simp) ?_
  simp only [go_sem, hP, ↓reduceIte, Nat.reduceAdd, Nat.reduceMul, Nat.reduceEqDiff, Nat.reduceSub, Nat.reduceLeDiff, reduceCtorEq]
  repeat' (first
    | exact True.intro
    | refine ev_seq ?_
    | ((first | refine vgd_go ?_ | refine ev_region hE hM (hS (by decide +kernel)) ?_ | refine ev_if ?_ | refine end_ret hE rfl rfl ?_ | refine end_norm hE rfl rfl ?_ | refine endG_ret [] hE rfl ?_ | refine endG_norm [] hE rfl ?_ | refine vcall_A ?_); simp (maxSteps := 2000000) only [go_sem, hP, ↓reduceIte, Nat.reduceAdd, Nat.reduceMul, Nat.reduceEqDiff, Nat.reduceSub, Nat.reduceLeDiff, reduceCtorEq, markedA])
    | refine ev_skip ?_ | refine ev_block ?_ | refine ev_blk ?_ | refine ev_ret ?_ | refine ev_exit ?_ | refine evx_code_ret ?_ | refine evx_blk_ret ?_ | refine evx_lp_ret ?_
    | refine evx_code_exit ?_ | refine evx_lp_exit ?_ | refine evx_blk_hit ?_ | refine evx_blk_pass (by decide) ?_
    | refine And.intro ?_ ?_ | intro _ | decide +kernel | omega)
@[go_sem] abbrev aTR (c : Int) (t : Tree) : Arg := .d (true, [.int .i64 c, .int .i64 t.style, .int .i64 t.arena.dims, sNodeS t.arena.nodes, sI t.arena.free, sRetiredS t.arena.retired, .int .i64 t.root, .int .i64 t.rootNsn, .int .i64 t.counter])
@[go_sem] abbrev tTree (t : Tree) (x y z : Nat) : T := .agg [iT t.style, iT t.arena.dims, .ref x, .ref y, .ref z, iT t.root, iT t.rootNsn, iT t.counter]
@[go_sem] abbrev tTR (c : Int) (t : Tree) (x y z : Nat) : T := .agg [iT c, iT t.style, iT t.arena.dims, .ref x, .ref y, .ref z, iT t.root, iT t.rootNsn, iT t.counter]
def markedT (k : Int) (t : Tree) : Tree := ⟨t.style, markedA k t.arena, t.root, t.rootNsn, t.counter⟩
@[go_sem] abbrev mwAI (k : Int) (a : Arena) : Int := k + sumW mwNode a.nodes + a.free.length + sumW mwRetired a.retired
theorem s_markTree (t : Tree) (k : Int) (h0 : 0 ≤ k) (h1 : k + mwA t.arena ≤ mMax) : SatG Try.prog 81 true [tTree t 1 2 3, iT k] (gA 1 2 3 t.arena) (iT (mwAI k t.arena)) (gA 1 2 3 (markedA k t.arena)) := by
  refine satG_walk (fn := Try.f81) rfl rfl rfl (Nat.le_of_ble_eq_true rfl) (by simp) fun fr hP hN hdp hb1 hb2 => ?_
  have hE : (envOf fr Try.prog).Ok := envOf_ok hP
  have hM := follows_of hP
  have hS : ∀ {draw ops}, statB Try.f81.ntmps draw ops = true → statB (envOf fr Try.prog).fr.N draw ops = true := fun h => by rw [envOf_fr, hN]; exact h
  have hY : ∀ b, (envOf fr Try.prog).fr.Y b → (envOf fr Try.prog).fr.X b := fun b hb => hdp rfl b hb
  have c1 := s_markArena t.arena k h0 h1
  repeat' (first
    | exact True.intro
    | refine ev_seq ?_
    | ((first | refine ev_stop 1 ?_ | refine vgd_go ?_ | refine ev_region hE hM (hS (by decide +kernel)) ?_ | refine ev_if ?_ | refine end_ret hE rfl rfl ?_ | refine end_norm hE rfl rfl ?_ | refine endG_ret [] hE rfl ?_ | refine endG_norm [] hE rfl ?_ | refine vcall_A ?_); simp (maxSteps := 2000000) only [go_sem, hP, ↓reduceIte, Nat.reduceAdd, Nat.reduceMul, Nat.reduceEqDiff, Nat.reduceSub, Nat.reduceLeDiff, reduceCtorEq])
    | refine ev_skip ?_ | refine ev_block ?_ | refine ev_blk ?_ | refine ev_ret ?_ | refine ev_exit ?_ | refine evx_code_ret ?_ | refine evx_blk_ret ?_ | refine evx_lp_ret ?_
    | refine evx_code_exit ?_ | refine evx_lp_exit ?_ | refine evx_blk_hit ?_ | refine evx_blk_pass (by decide) ?_
    | refine And.intro ?_ ?_ | intro _ | decide +kernel | omega)
  first | refine Stop.mk ?_ | skip
  refine ev_cut [(1, iT k), (2, .ptr 0 0)] ((0, .box [iT t.style, iT t.arena.dims, .ref 1, .ref 2, .ref 3, iT t.root, iT t.rootNsn, iT t.counter]) :: gA 1 2 3 t.arena) [(0, .ref 1), (1, .ref 2), (2, .ref 3)] [] (by simp only [go_sem, hP, ↓reduceIte, Nat.reduceAdd, Nat.reduceMul, Nat.reduceEqDiff, Nat.reduceSub, Nat.reduceLeDiff, reduceCtorEq]) ?_
  repeat' (first
    | exact True.intro
    | refine ev_seq ?_
    | ((first | refine ev_regionC (id := 1) (pre := [_, _, _]) hE rfl (hS (by decide +kernel)) ?_ | refine vgd_go ?_ | refine ev_region hE hM (hS (by decide +kernel)) ?_ | refine ev_if ?_ | refine end_ret hE rfl rfl ?_ | refine end_norm hE rfl rfl ?_ | refine endG_ret [] hE rfl ?_ | refine endG_norm [] hE rfl ?_ | refine vcall_A ?_); simp (maxSteps := 2000000) only [go_sem, hP, ↓reduceIte, Nat.reduceAdd, Nat.reduceMul, Nat.reduceEqDiff, Nat.reduceSub, Nat.reduceLeDiff, reduceCtorEq])
    | refine ev_skip ?_ | refine ev_block ?_ | refine ev_blk ?_ | refine ev_ret ?_ | refine ev_exit ?_ | refine evx_code_ret ?_ | refine evx_blk_ret ?_ | refine evx_lp_ret ?_
    | refine evx_code_exit ?_ | refine evx_lp_exit ?_ | refine evx_blk_hit ?_ | refine evx_blk_pass (by decide) ?_
    | refine And.intro ?_ ?_ | intro _ | decide +kernel | omega)
  refine callM_of [(1, 1), (2, 2), (3, 3)] [] [(2, .ptr 0 0), (6, tA t.arena.dims 1 2 3), (7, iT k)] ((0, .box [iT t.style, iT t.arena.dims, .ref 1, .ref 2, .ref 3, iT t.root, iT t.rootNsn, iT t.counter]) :: gA 1 2 3 t.arena) [(0, .ref 1), (1, .ref 2), (2, .ref 3)] hP c1 hY rfl rfl (by rw [envOf_fr, hN]; decide) (by simp only [go_sem, hP, ↓reduceIte, Nat.reduceAdd, Nat.reduceMul, Nat.reduceEqDiff, Nat.reduceSub, Nat.reduceLeDiff, reduceCtorEq]) rfl rfl (by simp only [go_sem, hP, ↓reduceIte, Nat.reduceAdd, Nat.reduceMul, Nat.reduceEqDiff, Nat.reduceSub, Nat.reduceLeDiff, reduceCtorEq] <;> simp) (by simp only [go_sem, hP, ↓reduceIte, Nat.reduceAdd, Nat.reduceMul, Nat.reduceEqDiff, Nat.reduceSub, Nat.reduceLeDiff, reduceCtorEq] <;> simp) ?_
  simp only [go_sem, hP, ↓reduceIte, Nat.reduceAdd, Nat.reduceMul, Nat.reduceEqDiff, Nat.reduceSub, Nat.reduceLeDiff, reduceCtorEq]
  repeat' (first
    | exact True.intro
    | refine ev_seq ?_
    | ((first | refine vgd_go ?_ | refine ev_region hE hM (hS (by decide +kernel)) ?_ | refine ev_if ?_ | refine end_ret hE rfl rfl ?_ | refine end_norm hE rfl rfl ?_ | refine endG_ret [] hE rfl ?_ | refine endG_norm [] hE rfl ?_ | refine vcall_A ?_); simp (maxSteps := 2000000) only [go_sem, hP, ↓reduceIte, Nat.reduceAdd, Nat.reduceMul, Nat.reduceEqDiff, Nat.reduceSub, Nat.reduceLeDiff, reduceCtorEq, markedA])
    | refine ev_skip ?_ | refine ev_block ?_ | refine ev_blk ?_ | refine ev_ret ?_ | refine ev_exit ?_ | refine evx_code_ret ?_ | refine evx_blk_ret ?_ | refine evx_lp_ret ?_
    | refine evx_code_exit ?_ | refine evx_lp_exit ?_ | refine evx_blk_hit ?_ | refine evx_blk_pass (by decide) ?_
    | refine And.intro ?_ ?_ | intro _ | decide +kernel | omega)
/-- A node, if there is no code. -/
def valN (c : Int) (n : Node) : Node := if c = 0 then n else ⟨0, 0, 0, []⟩
@[go_sem] abbrev aNR (c : Int) (n : Node) : Arg := .d (true, [.int .i64 c, .int .i64 n.level, .int .i64 n.nsn, .int .i64 n.right, sEntryS n.entries])
@[go_sem] abbrev rNR (c : Int) (n : Node) : List Dat := [(true, [.int .i64 c, .int .i64 n.level, .int .i64 n.nsn, .int .i64 n.right, oEntryS n.entries])]
@[go_sem] abbrev tNR (c : Int) (n : Node) (a : Nat) : T := .agg [iT c, iT n.level, iT n.nsn, iT n.right, .ref a]
@[go_sem] abbrev tN (n : Node) (a : Nat) : T := .agg [iT n.level, iT n.nsn, iT n.right, .ref a]
def markedN (k : Int) (n : Node) : Node := ⟨n.level, n.nsn, n.right, markedEs k n.entries⟩
theorem mwE_le {xs : List Entry} : sumW mwEntry xs ≤ 2 * wEntryS xs := by
  have : ∀ ys : List Entry, sumW mwEntry ys = sumW wEntry ys + 2 * ys.length := by
    intro ys
    induction ys with
    | nil => rfl
    | cons y ys ih =>
      have e1 : sumW mwEntry (y :: ys) = mwEntry y + sumW mwEntry ys := rfl
      have e2 : sumW wEntry (y :: ys) = wEntry y + sumW wEntry ys := rfl
      rw [e1, e2, ih, List.length_cons]; simp only [mwEntry, wEntry]; omega
  rw [this]; unfold wEntryS; omega
theorem mwN_le {xs : List Node} : sumW mwNode xs ≤ 3 * wNodeS xs := by
  have : ∀ ys : List Node, sumW mwNode ys ≤ 2 * sumW wNode ys + 3 * ys.length := by
    intro ys
    induction ys with
    | nil => exact Nat.zero_le _
    | cons y ys ih =>
      have e1 : sumW mwNode (y :: ys) = mwNode y + sumW mwNode ys := rfl
      have e2 : sumW wNode (y :: ys) = wNode y + sumW wNode ys := rfl
      have e3 := mwE_le (xs := y.entries)
      rw [e1, e2, List.length_cons]; simp only [mwNode, wNode]; omega
  have := this xs
  unfold wNodeS; omega
theorem mwRet_le {xs : List Retired} : sumW mwRetired xs ≤ wRetiredS xs := by
  have : ∀ ys : List Retired, sumW mwRetired ys = sumW wRetired ys + ys.length := by
    intro ys
    induction ys with
    | nil => rfl
    | cons y ys ih =>
      have e1 : sumW mwRetired (y :: ys) = mwRetired y + sumW mwRetired ys := rfl
      have e2 : sumW wRetired (y :: ys) = wRetired y + sumW wRetired ys := rfl
      rw [e1, e2, ih, List.length_cons]; simp only [mwRetired, wRetired]; omega
  rw [this]; unfold wRetiredS; omega
theorem mwA_le {a : Arena} : mwA a ≤ 3 * wArena a := by
  have h1 := mwN_le (xs := a.nodes)
  have h2 := mwRet_le (xs := a.retired)
  unfold mwA wArena; omega
@[go_sem] abbrev aLR (c : Int) (xs : List Int) : Arg := .d (true, [.int .i64 c, sI xs])
@[go_sem] abbrev rLR (c : Int) (xs : List Int) : List Dat := [(true, [.int .i64 c, oI xs])]
@[go_sem] abbrev tLR (c : Int) (a : Nat) : T := .agg [iT c, .ref a]
theorem s_eqIntsResult (c c' : Int) (xs ys : List Int) : Sat Try.prog 21 [aLR c xs, aLR c' ys] true (rB (decide (c = c' ∧ xs = ys))) := by
  refine sat_walk (fn := Try.f21) rfl rfl rfl (Nat.le_of_ble_eq_true rfl) fun fr hP hN hbnd => ?_
  have hE : (envOf fr Try.prog).Ok := envOf_ok hP
  have hM := follows_of hP
  have hS : ∀ {draw ops}, statB Try.f21.ntmps draw ops = true → statB (envOf fr Try.prog).fr.N draw ops = true := fun h => by rw [envOf_fr, hN]; exact h
  repeat' (first
    | exact True.intro
    | refine ev_seq ?_
    | ((first | refine vgd_go ?_ | refine ev_region hE hM (hS (by decide +kernel)) ?_ | refine ev_if ?_ | refine end_ret hE rfl rfl ?_ | refine end_norm hE rfl rfl ?_ | refine endG_ret [] hE rfl ?_ | refine endG_norm [] hE rfl ?_ | refine vcallB_of hP (s_eqInt64S xs ys) ?_ | refine vcall_A ?_); simp (maxSteps := 2000000) only [go_sem, hP, ↓reduceIte, Nat.reduceAdd, Nat.reduceMul, Nat.reduceEqDiff, Nat.reduceSub, Nat.reduceLeDiff, reduceCtorEq])
    | refine ev_skip ?_ | refine ev_block ?_ | refine ev_blk ?_ | refine ev_ret ?_ | refine ev_exit ?_ | refine evx_code_ret ?_ | refine evx_blk_ret ?_ | refine evx_lp_ret ?_
    | refine evx_code_exit ?_ | refine evx_lp_exit ?_ | refine evx_blk_hit ?_ | refine evx_blk_pass (by decide) ?_
    | refine And.intro ?_ ?_ | intro _ | decide +kernel | omega)
  all_goals simp_all
theorem s_markIntsResult (c : Int) (xs : List Int) (k : Int) (h0 : 0 ≤ k) (h1 : k + xs.length ≤ mMax) : SatG Try.prog 24 false [tLR c 1, iT k] [gI 1 xs] (iT (k + xs.length)) [gI 1 (markedI k xs.length)] := by
  refine satG_walk (fn := Try.f24) rfl rfl rfl (Nat.le_of_ble_eq_true rfl) (by simp) fun fr hP hN hdp hb1 hb2 => ?_
  have hE : (envOf fr Try.prog).Ok := envOf_ok hP
  have hM := follows_of hP
  have hS : ∀ {draw ops}, statB Try.f24.ntmps draw ops = true → statB (envOf fr Try.prog).fr.N draw ops = true := fun h => by rw [envOf_fr, hN]; exact h
  repeat' (first
    | exact True.intro
    | refine ev_seq ?_
    | ((first | refine vgd_go ?_ | refine ev_region hE hM (hS (by decide +kernel)) ?_ | refine ev_if ?_ | refine end_ret hE rfl rfl ?_ | refine end_norm hE rfl rfl ?_ | refine endG_ret [] hE rfl ?_ | refine endG_norm [] hE rfl ?_ | refine vcallG_of (args := [.ref 1, _]) [(1, 1)] [] hP (s_markInt64S xs k h0 h1) ?_ | refine vcall_A ?_); simp (maxSteps := 2000000) only [go_sem, hP, ↓reduceIte, Nat.reduceAdd, Nat.reduceMul, Nat.reduceEqDiff, Nat.reduceSub, Nat.reduceLeDiff, reduceCtorEq])
    | refine ev_skip ?_ | refine ev_block ?_ | refine ev_blk ?_ | refine ev_ret ?_ | refine ev_exit ?_ | refine evx_code_ret ?_ | refine evx_blk_ret ?_ | refine evx_lp_ret ?_
    | refine evx_code_exit ?_ | refine evx_lp_exit ?_ | refine evx_blk_hit ?_ | refine evx_blk_pass (by decide) ?_
    | refine And.intro ?_ ?_ | intro _ | decide +kernel | omega)
theorem s_heldIntsResult (c : Int) (n : Nat) (k : Int) (h0 : 0 ≤ k) (h1 : k + n ≤ mMax) : Sat Try.prog 25 [aLR c (markedI k n), aI k] true (rI (k + n)) := by
  refine sat_walk (fn := Try.f25) rfl rfl rfl (Nat.le_of_ble_eq_true rfl) fun fr hP hN hbnd => ?_
  have hE : (envOf fr Try.prog).Ok := envOf_ok hP
  have hM := follows_of hP
  have hS : ∀ {draw ops}, statB Try.f25.ntmps draw ops = true → statB (envOf fr Try.prog).fr.N draw ops = true := fun h => by rw [envOf_fr, hN]; exact h
  repeat' (first
    | exact True.intro
    | refine ev_seq ?_
    | ((first | refine vgd_go ?_ | refine ev_region hE hM (hS (by decide +kernel)) ?_ | refine ev_if ?_ | refine end_ret hE rfl rfl ?_ | refine end_norm hE rfl rfl ?_ | refine endG_ret [] hE rfl ?_ | refine endG_norm [] hE rfl ?_ | refine vcallB_of hP (s_heldInt64S n k h0 h1) ?_ | refine vcall_A ?_); simp (maxSteps := 2000000) only [go_sem, hP, ↓reduceIte, Nat.reduceAdd, Nat.reduceMul, Nat.reduceEqDiff, Nat.reduceSub, Nat.reduceLeDiff, reduceCtorEq])
    | refine ev_skip ?_ | refine ev_block ?_ | refine ev_blk ?_ | refine ev_ret ?_ | refine ev_exit ?_ | refine evx_code_ret ?_ | refine evx_blk_ret ?_ | refine evx_lp_ret ?_
    | refine evx_code_exit ?_ | refine evx_lp_exit ?_ | refine evx_blk_hit ?_ | refine evx_blk_pass (by decide) ?_
    | refine And.intro ?_ ?_ | intro _ | decide +kernel | omega)
  all_goals (simp_all; done)
def mwNote (n : Note) : Nat := 8 + n.op.pair.rect.low.length + n.op.pair.rect.high.length + n.op.query.rect.low.length + n.op.query.rect.high.length + n.op.query.point.length + wPs n.answer.pairs
def mkNote (k : Int) (n : Note) : Note := ⟨(k), (k + 1), (k + 1 + 1), ⟨(k + 1 + 1 + 1), ⟨(k + 1 + 1 + 1 + 1), ⟨(markedI (k + 1 + 1 + 1 + 1 + 1) n.op.pair.rect.low.length), (markedI (k + 1 + 1 + 1 + 1 + 1 + n.op.pair.rect.low.length) n.op.pair.rect.high.length)⟩⟩, ⟨(k + 1 + 1 + 1 + 1 + 1 + n.op.pair.rect.low.length + n.op.pair.rect.high.length), ⟨(markedI (k + 1 + 1 + 1 + 1 + 1 + n.op.pair.rect.low.length + n.op.pair.rect.high.length + 1) n.op.query.rect.low.length), (markedI (k + 1 + 1 + 1 + 1 + 1 + n.op.pair.rect.low.length + n.op.pair.rect.high.length + 1 + n.op.query.rect.low.length) n.op.query.rect.high.length)⟩, (markedI (k + 1 + 1 + 1 + 1 + 1 + n.op.pair.rect.low.length + n.op.pair.rect.high.length + 1 + n.op.query.rect.low.length + n.op.query.rect.high.length) n.op.query.point.length), (k + 1 + 1 + 1 + 1 + 1 + n.op.pair.rect.low.length + n.op.pair.rect.high.length + 1 + n.op.query.rect.low.length + n.op.query.rect.high.length + n.op.query.point.length)⟩⟩, ⟨(k + 1 + 1 + 1 + 1 + 1 + n.op.pair.rect.low.length + n.op.pair.rect.high.length + 1 + n.op.query.rect.low.length + n.op.query.rect.high.length + n.op.query.point.length + 1), (markedPs (k + 1 + 1 + 1 + 1 + 1 + n.op.pair.rect.low.length + n.op.pair.rect.high.length + 1 + n.op.query.rect.low.length + n.op.query.rect.high.length + n.op.query.point.length + 1 + 1) n.answer.pairs)⟩⟩
def markedNotes (k : Int) (xs : List Note) : List Note := preS mkNote mwNote k xs xs.length
@[go_sem] abbrev gNotes (κ : Nat) (xs : List Note) : Nat × Blk := (κ, .arr true 209 14 (xs.map oNote))
end Go.Proofs.Ytcephdpooijciaa.W
