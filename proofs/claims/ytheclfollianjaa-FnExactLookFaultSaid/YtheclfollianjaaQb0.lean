/- Contracts of functions that FnExactLookFault reaches: what each returns; it writes to nothing of old. No condition but those that each theorem states. -/
import Derived.Test.YtheclfollianjaaPb
open Go Go.Vm Go.Proofs Go.IntWalk Go.RowKit
set_option maxRecDepth 100000
set_option maxHeartbeats 4000000
set_option linter.unusedSimpArgs false
set_option linter.unusedVariables false
set_option linter.unusedSectionVars false
namespace Go.Proofs.Ytheclfollianjaa.W
attribute [local irreducible] kJ ev evx vops vstep vgo vgd vget vcall vcallFn vcallA vcallB vts vres vcond
structure Mark where
  dist : Int
  id : Int
  nsn : Int
  deriving DecidableEq, Inhabited
def eMark (x : Mark) : List C := [.int .i64 x.dist, .int .i64 x.id, .int .i64 x.nsn]
def oMark (x : Mark) : List C := [.int .i64 x.dist, .int .i64 x.id, .int .i64 x.nsn]
@[go_sem] theorem eMark_eq (x : Mark) : eMark x = [.int .i64 x.dist, .int .i64 x.id, .int .i64 x.nsn] := rfl
@[go_sem] theorem oMark_eq (x : Mark) : oMark x = [.int .i64 x.dist, .int .i64 x.id, .int .i64 x.nsn] := rfl
theorem stripC_oMark (x : Mark) : Cs.strip (oMark x) = eMark x := by simp [oMark, eMark, Cs.strip, C.strip, strip_eI]
theorem stripC_eMark (x : Mark) : Cs.strip (eMark x) = eMark x := by simp [eMark, Cs.strip, C.strip, strip_eI]
@[go_sem] theorem strip_oMark (xs : List Mark) : Es.strip (xs.map oMark) = xs.map eMark := by rw [Es.strip_map]; simp [Function.comp_def, stripC_oMark]
@[go_sem] theorem strip_eMark (xs : List Mark) : Es.strip (xs.map eMark) = xs.map eMark := by rw [Es.strip_map]; simp [Function.comp_def, stripC_eMark]
@[go_sem] abbrev aMark (x : Mark) : Arg := .d (true, eMark x)
@[go_sem] abbrev pMark (x : Mark) : Arg := .pv (eMark x)
@[go_sem] abbrev rMark (x : Mark) : List Dat := [(true, oMark x)]
theorem eqMark (a b : Mark) : a = b ↔ a.dist = b.dist ∧ a.id = b.id ∧ a.nsn = b.nsn := by cases a; cases b; simp
theorem s_toMark (x : Mark) : Sat Try.prog 166 [aMark x] true (rMark x) := by
  refine sat_walk (fn := Try.f166) rfl rfl rfl (Nat.le_of_ble_eq_true rfl) fun fr hP hN hbnd => ?_
  have hE : (envOf fr Try.prog).Ok := envOf_ok hP
  have hM := follows_of hP
  have hS : ∀ {draw ops}, statB Try.f166.ntmps draw ops = true → statB (envOf fr Try.prog).fr.N draw ops = true := fun h => by rw [envOf_fr, hN]; exact h
  repeat' (first
    | exact True.intro
    | refine ev_seq ?_
    | ((first | refine vgd_go ?_ | refine ev_region hE hM (hS (by decide +kernel)) ?_ | refine ev_if ?_ | refine end_ret hE rfl rfl ?_ | refine end_norm hE rfl rfl ?_ | refine endG_ret [] hE rfl ?_ | refine endG_norm [] hE rfl ?_ | refine vcall_A ?_); simp (maxSteps := 2000000) only [go_sem, hP, ↓reduceIte, Nat.reduceAdd, Nat.reduceMul, Nat.reduceEqDiff, Nat.reduceSub, Nat.reduceLeDiff, reduceCtorEq])
    | refine ev_skip ?_ | refine ev_block ?_ | refine ev_blk ?_ | refine ev_ret ?_ | refine ev_exit ?_ | refine evx_code_ret ?_ | refine evx_blk_ret ?_ | refine evx_lp_ret ?_
    | refine evx_code_exit ?_ | refine evx_lp_exit ?_ | refine evx_blk_hit ?_ | refine evx_blk_pass (by decide) ?_
    | refine And.intro ?_ ?_ | intro _ | decide +kernel | omega)
theorem s_eqMark (a b : Mark) : Sat Try.prog 169 [aMark a, aMark b] true (rB (decide (a = b))) := by
  refine sat_walk (fn := Try.f169) rfl rfl rfl (Nat.le_of_ble_eq_true rfl) fun fr hP hN hbnd => ?_
  have hE : (envOf fr Try.prog).Ok := envOf_ok hP
  have hM := follows_of hP
  have hS : ∀ {draw ops}, statB Try.f169.ntmps draw ops = true → statB (envOf fr Try.prog).fr.N draw ops = true := fun h => by rw [envOf_fr, hN]; exact h
  repeat' (first
    | exact True.intro
    | refine ev_seq ?_
    | ((first | refine vgd_go ?_ | refine ev_region hE hM (hS (by decide +kernel)) ?_ | refine ev_if ?_ | refine end_ret hE rfl rfl ?_ | refine end_norm hE rfl rfl ?_ | refine endG_ret [] hE rfl ?_ | refine endG_norm [] hE rfl ?_ | refine vcall_A ?_); simp (maxSteps := 2000000) only [go_sem, hP, ↓reduceIte, Nat.reduceAdd, Nat.reduceMul, Nat.reduceEqDiff, Nat.reduceSub, Nat.reduceLeDiff, reduceCtorEq])
    | refine ev_skip ?_ | refine ev_block ?_ | refine ev_blk ?_ | refine ev_ret ?_ | refine ev_exit ?_ | refine evx_code_ret ?_ | refine evx_blk_ret ?_ | refine evx_lp_ret ?_
    | refine evx_code_exit ?_ | refine evx_lp_exit ?_ | refine evx_blk_hit ?_ | refine evx_blk_pass (by decide) ?_
    | refine And.intro ?_ ?_ | intro _ | decide +kernel | omega)
  all_goals simp_all [eqMark]
theorem shp_Mark {n t : Nat} {cs : List C} (ht : (Try.prog.underlying t).bind fieldTs = some [2, 2, 2]) (h : shp Try.prog (n + 2) t cs) : ∃ x, cs = eMark x := by
  obtain ⟨c0, g0, rfl, h0, c1, g1, rfl, h1, c2, g2, rfl, h2, rfl⟩ := shp_struct ht h
  obtain ⟨v0, rfl, _⟩ := shp_i64 (n := n + 0) rfl h0
  obtain ⟨v1, rfl, _⟩ := shp_i64 (n := n + 0) rfl h1
  obtain ⟨v2, rfl, _⟩ := shp_i64 (n := n + 0) rfl h2
  exact ⟨⟨v0, v1, v2⟩, rfl⟩
@[go_sem] abbrev sMarkS (xs : List Mark) : C := .sl none 3 (xs.map eMark)
@[go_sem] abbrev oMarkS (xs : List Mark) : C := .sl (some 128) 3 (xs.map oMark)
@[go_sem] abbrev aMarkS (xs : List Mark) : Arg := .d (false, [sMarkS xs])
@[go_sem] abbrev rMarkS (xs : List Mark) : List Dat := [(false, [oMarkS xs])]
theorem bnd_MarkS {xs : List Mark} {gs : List Arg} (h : Args.bnd (aMarkS xs :: gs)) : xs.length ≤ maxLen := by
  have := h.1.1.1; rwa [List.length_map] at this
def wMarkS (xs : List Mark) : Nat := xs.length
theorem s_toMarkS (xs : List Mark) (h : wMarkS xs ≤ 1048576) : Sat Try.prog 78 [aMarkS xs] true (rMarkS xs) := by
  refine sat_walk (fn := Try.f78) rfl rfl rfl (Nat.le_of_ble_eq_true rfl) fun fr hP hN hbnd => ?_
  have hE : (envOf fr Try.prog).Ok := envOf_ok hP
  have hM := follows_of hP
  have hS : ∀ {draw ops}, statB Try.f78.ntmps draw ops = true → statB (envOf fr Try.prog).fr.N draw ops = true := fun h => by rw [envOf_fr, hN]; exact h
  have hx : xs.length ≤ 1048576 := by unfold wMarkS at h; omega
  repeat' (first
    | exact True.intro
    | refine ev_seq ?_
    | ((first | refine vgd_go ?_ | refine ev_region hE hM (hS (by decide +kernel)) ?_ | refine ev_if ?_ | refine end_ret hE rfl rfl ?_ | refine end_norm hE rfl rfl ?_ | refine endG_ret [] hE rfl ?_ | refine endG_norm [] hE rfl ?_ | refine vcall_A ?_); simp (maxSteps := 2000000) only [go_sem, hP, ↓reduceIte, Nat.reduceAdd, Nat.reduceMul, Nat.reduceEqDiff, Nat.reduceSub, Nat.reduceLeDiff, reduceCtorEq])
    | refine ev_skip ?_ | refine ev_block ?_ | refine ev_blk ?_ | refine ev_ret ?_ | refine ev_exit ?_ | refine evx_code_ret ?_ | refine evx_blk_ret ?_ | refine evx_lp_ret ?_
    | refine evx_code_exit ?_ | refine evx_lp_exit ?_ | refine evx_blk_hit ?_ | refine evx_blk_pass (by decide) ?_
    | refine And.intro ?_ ?_ | intro _ | decide +kernel | omega)
  refine ev_loop (ι := Nat) (fun k => [(0, .c (sMarkS xs)), (3, .ref 4112), (4, .c (.int .i64 k))]) (fun k => [(4112, .arr true 128 3 ((mix xs ⟨0, 0, 0⟩ k).map oMark))]) (fun _ => []) (fun k => k ≤ xs.length) (fun k => xs.length - k) 0 [] (by simp) (by simp only [go_sem, hP, ↓reduceIte, Nat.reduceAdd, Nat.reduceMul, Nat.reduceEqDiff, Nat.reduceSub, Nat.reduceLeDiff, reduceCtorEq]; simp [mix_zero, oMark]) ?_
  intro k hk
  repeat' (first
    | exact True.intro
    | refine ev_seq ?_
    | ((first | refine vgd_go ?_ | refine ev_region hE hM (hS (by decide +kernel)) ?_ | refine ev_if ?_ | refine end_ret hE rfl rfl ?_ | refine end_norm hE rfl rfl ?_ | refine endG_ret [] hE rfl ?_ | refine endG_norm [] hE rfl ?_ | refine vcallB_of hP (s_toMark (xs.getD k default)) ?_ | refine vcall_A ?_); simp (maxSteps := 2000000) only [go_sem, hP, ↓reduceIte, Nat.reduceAdd, Nat.reduceMul, Nat.reduceEqDiff, Nat.reduceSub, Nat.reduceLeDiff, reduceCtorEq, mix_length hk])
    | refine ev_skip ?_ | refine ev_block ?_ | refine ev_blk ?_ | refine ev_ret ?_ | refine ev_exit ?_ | refine evx_code_ret ?_ | refine evx_blk_ret ?_ | refine evx_lp_ret ?_
    | refine evx_code_exit ?_ | refine evx_lp_exit ?_ | refine evx_blk_hit ?_ | refine evx_blk_pass (by decide) ?_
    | refine And.intro ?_ ?_ | intro _ | decide +kernel | omega)
  · exact ev_lp (k + 1) [] (by omega) (by omega) (by simp only [go_sem, hP, ↓reduceIte, Nat.reduceAdd, Nat.reduceMul, Nat.reduceEqDiff, Nat.reduceSub, Nat.reduceLeDiff, reduceCtorEq]; simp; exact ⟨wrap_succ (by omega) hx, mix_set_map (f := oMark) (by omega)⟩)
  · rw [mix_full (by omega)]
theorem s_szMarkS (xs : List Mark) (left : Int) (h0 : 0 ≤ left) (h1 : left ≤ 1048576) : Sat Try.prog 74 [aMarkS xs, aI left] true (rI (lessN (wMarkS xs) left)) := by
  refine sat_walk (fn := Try.f74) rfl rfl rfl (Nat.le_of_ble_eq_true rfl) fun fr hP hN hbnd => ?_
  have hE : (envOf fr Try.prog).Ok := envOf_ok hP
  have hM := follows_of hP
  have hS : ∀ {draw ops}, statB Try.f74.ntmps draw ops = true → statB (envOf fr Try.prog).fr.N draw ops = true := fun h => by rw [envOf_fr, hN]; exact h
  have hlen := bnd_MarkS hbnd
  have hm : maxLen = 9223372036854775807 := rfl
  have hw : IntKind.i64.wrap (left - xs.length) = left - xs.length := i64_in _ (by omega)
  repeat' (first
    | exact True.intro
    | refine ev_seq ?_
    | ((first | refine vgd_go ?_ | refine ev_region hE hM (hS (by decide +kernel)) ?_ | refine ev_if ?_ | refine end_ret hE rfl rfl ?_ | refine end_norm hE rfl rfl ?_ | refine endG_ret [] hE rfl ?_ | refine endG_norm [] hE rfl ?_ | refine vcall_A ?_); simp (maxSteps := 2000000) only [go_sem, hP, ↓reduceIte, Nat.reduceAdd, Nat.reduceMul, Nat.reduceEqDiff, Nat.reduceSub, Nat.reduceLeDiff, reduceCtorEq, hw])
    | refine ev_skip ?_ | refine ev_block ?_ | refine ev_blk ?_ | refine ev_ret ?_ | refine ev_exit ?_ | refine evx_code_ret ?_ | refine evx_blk_ret ?_ | refine evx_lp_ret ?_
    | refine evx_code_exit ?_ | refine evx_lp_exit ?_ | refine evx_blk_hit ?_ | refine evx_blk_pass (by decide) ?_
    | refine And.intro ?_ ?_ | intro _ | decide +kernel | omega)
  all_goals simp_all [lessN, wMarkS] <;> omega
theorem s_eqMarkS (xs ys : List Mark) : Sat Try.prog 84 [aMarkS xs, aMarkS ys] true (rB (decide (xs = ys))) := by
  refine sat_walk (fn := Try.f84) rfl rfl rfl (Nat.le_of_ble_eq_true rfl) fun fr hP hN hbnd => ?_
  have hE : (envOf fr Try.prog).Ok := envOf_ok hP
  have hM := follows_of hP
  have hS : ∀ {draw ops}, statB Try.f84.ntmps draw ops = true → statB (envOf fr Try.prog).fr.N draw ops = true := fun h => by rw [envOf_fr, hN]; exact h
  have hlen := bnd_MarkS hbnd
  repeat' (first
    | exact True.intro
    | refine ev_seq ?_
    | ((first | refine vgd_go ?_ | refine ev_region hE hM (hS (by decide +kernel)) ?_ | refine ev_if ?_ | refine end_ret hE rfl rfl ?_ | refine end_norm hE rfl rfl ?_ | refine endG_ret [] hE rfl ?_ | refine endG_norm [] hE rfl ?_ | refine vcall_A ?_); simp (maxSteps := 2000000) only [go_sem, hP, ↓reduceIte, Nat.reduceAdd, Nat.reduceMul, Nat.reduceEqDiff, Nat.reduceSub, Nat.reduceLeDiff, reduceCtorEq])
    | refine ev_skip ?_ | refine ev_block ?_ | refine ev_blk ?_ | refine ev_ret ?_ | refine ev_exit ?_ | refine evx_code_ret ?_ | refine evx_blk_ret ?_ | refine evx_lp_ret ?_
    | refine evx_code_exit ?_ | refine evx_lp_exit ?_ | refine evx_blk_hit ?_ | refine evx_blk_pass (by decide) ?_
    | refine And.intro ?_ ?_ | intro _ | decide +kernel | omega)
  · rename_i h; simp at h; simp; rintro rfl; exact h rfl
  rename_i h; simp at h
  refine ev_loop (ι := Nat) (fun k => [(0, .c (sMarkS xs)), (1, .c (sMarkS ys)), (5, .c (.int .i64 k))]) (fun k => []) (fun _ => []) (fun k => k ≤ xs.length ∧ xs.take k = ys.take k) (fun k => xs.length - k) 0 [] (by simp [allLt_zero] <;> omega) (by simp only [go_sem, hP, ↓reduceIte, Nat.reduceAdd, Nat.reduceMul, Nat.reduceEqDiff, Nat.reduceSub, Nat.reduceLeDiff, reduceCtorEq]; simp) ?_
  intro k hk
  repeat' (first
    | exact True.intro
    | refine ev_seq ?_
    | ((first | refine vgd_go ?_ | refine ev_region hE hM (hS (by decide +kernel)) ?_ | refine ev_if ?_ | refine end_ret hE rfl rfl ?_ | refine end_norm hE rfl rfl ?_ | refine endG_ret [] hE rfl ?_ | refine endG_norm [] hE rfl ?_ | refine vcallB_of hP (s_eqMark (xs.getD k default) (ys.getD k default)) ?_ | refine vcall_A ?_); simp (maxSteps := 2000000) only [go_sem, hP, ↓reduceIte, Nat.reduceAdd, Nat.reduceMul, Nat.reduceEqDiff, Nat.reduceSub, Nat.reduceLeDiff, reduceCtorEq])
    | refine ev_skip ?_ | refine ev_block ?_ | refine ev_blk ?_ | refine ev_ret ?_ | refine ev_exit ?_ | refine evx_code_ret ?_ | refine evx_blk_ret ?_ | refine evx_lp_ret ?_
    | refine evx_code_exit ?_ | refine evx_lp_exit ?_ | refine evx_blk_hit ?_ | refine evx_blk_pass (by decide) ?_
    | refine And.intro ?_ ?_ | intro _ | decide +kernel | omega)
  · rename_i h3; simp at h3; simp; exact eq_not (by simpa using h3)
  · rename_i h3 h4; simp at h4
    exact ev_lp (k + 1) [] ⟨by omega, eq_step (d := default) (e := default) (by omega) (by omega) hk.2 (by simpa using h4)⟩ (by omega) (by simp only [go_sem, hP, ↓reduceIte, Nat.reduceAdd, Nat.reduceMul, Nat.reduceEqDiff, Nat.reduceSub, Nat.reduceLeDiff, reduceCtorEq]; simp; exact wrap_nat (by omega) hlen)
  · simp; exact eq_done (by omega) (by omega) hk.2
theorem shp_MarkS {n t : Nat} {cs : List C} (ht : Try.prog.underlying t = some (.slice 205)) (h : shp Try.prog (n + 3) t cs) : ∃ xs, cs = [sMarkS xs] := by
  obtain ⟨xs, rfl, _⟩ := shp_rows (f := eMark) (q := fun _ => True) (sz := 3) ht rfl (fun x hx => by obtain ⟨p, rfl⟩ := shp_Mark (n := n) rfl hx; exact ⟨p, rfl, trivial⟩) h
  exact ⟨xs, rfl⟩
structure Look where
  query : Query
  front : List Mark
  found : List Pair
  deriving DecidableEq, Inhabited
def eLook (x : Look) : List C := [.int .i64 x.query.kind, sI x.query.rect.low, sI x.query.rect.high, sI x.query.point, .int .i64 x.query.k, sMarkS x.front, sP x.found]
def oLook (x : Look) : List C := [.int .i64 x.query.kind, oI x.query.rect.low, oI x.query.rect.high, oI x.query.point, .int .i64 x.query.k, oMarkS x.front, oPs x.found]
@[go_sem] theorem eLook_eq (x : Look) : eLook x = [.int .i64 x.query.kind, sI x.query.rect.low, sI x.query.rect.high, sI x.query.point, .int .i64 x.query.k, sMarkS x.front, sP x.found] := rfl
@[go_sem] theorem oLook_eq (x : Look) : oLook x = [.int .i64 x.query.kind, oI x.query.rect.low, oI x.query.rect.high, oI x.query.point, .int .i64 x.query.k, oMarkS x.front, oPs x.found] := rfl
theorem stripC_oLook (x : Look) : Cs.strip (oLook x) = eLook x := by simp [oLook, eLook, Cs.strip, C.strip, strip_eI, strip_eMark, strip_eP, strip_oMark, strip_oP]
theorem stripC_eLook (x : Look) : Cs.strip (eLook x) = eLook x := by simp [eLook, Cs.strip, C.strip, strip_eI, strip_eMark, strip_eP, strip_oMark, strip_oP]
@[go_sem] theorem strip_oLook (xs : List Look) : Es.strip (xs.map oLook) = xs.map eLook := by rw [Es.strip_map]; simp [Function.comp_def, stripC_oLook]
@[go_sem] theorem strip_eLook (xs : List Look) : Es.strip (xs.map eLook) = xs.map eLook := by rw [Es.strip_map]; simp [Function.comp_def, stripC_eLook]
@[go_sem] abbrev aLook (x : Look) : Arg := .d (true, eLook x)
@[go_sem] abbrev pLook (x : Look) : Arg := .pv (eLook x)
@[go_sem] abbrev rLook (x : Look) : List Dat := [(true, oLook x)]
theorem bnd_Look {x : Look} {gs : List Arg} (h : Args.bnd (aLook x :: gs)) : x.query.rect.low.length ≤ maxLen ∧ x.query.rect.high.length ≤ maxLen ∧ x.query.point.length ≤ maxLen ∧ x.front.length ≤ maxLen ∧ x.found.length ≤ maxLen := by
  have h0 := h.1.2.1.1; rw [List.length_map] at h0
  have h1 := h.1.2.2.1.1; rw [List.length_map] at h1
  have h2 := h.1.2.2.2.1.1; rw [List.length_map] at h2
  have h3 := h.1.2.2.2.2.2.1.1; rw [List.length_map] at h3
  have h4 := h.1.2.2.2.2.2.2.1.1; rw [List.length_map] at h4
  exact ⟨h0, h1, h2, h3, h4⟩
theorem bndp_Look {x : Look} {gs : List Arg} (h : Args.bnd (pLook x :: gs)) : x.query.rect.low.length ≤ maxLen ∧ x.query.rect.high.length ≤ maxLen ∧ x.query.point.length ≤ maxLen ∧ x.front.length ≤ maxLen ∧ x.found.length ≤ maxLen := by
  have h0 := h.1.2.1.1; rw [List.length_map] at h0
  have h1 := h.1.2.2.1.1; rw [List.length_map] at h1
  have h2 := h.1.2.2.2.1.1; rw [List.length_map] at h2
  have h3 := h.1.2.2.2.2.2.1.1; rw [List.length_map] at h3
  have h4 := h.1.2.2.2.2.2.2.1.1; rw [List.length_map] at h4
  exact ⟨h0, h1, h2, h3, h4⟩
theorem eqLook (a b : Look) : a = b ↔ a.query = b.query ∧ a.front = b.front ∧ a.found = b.found := by cases a; cases b; simp
def wLook (x : Look) : Nat := wQuery x.query + wMarkS x.front + wPs x.found
theorem s_toLook (x : Look) (h : wLook x ≤ 1048576) : Sat Try.prog 17 [aLook x] true (rLook x) := by
  refine sat_walk (fn := Try.f17) rfl rfl rfl (Nat.le_of_ble_eq_true rfl) fun fr hP hN hbnd => ?_
  have hE : (envOf fr Try.prog).Ok := envOf_ok hP
  have hM := follows_of hP
  have hS : ∀ {draw ops}, statB Try.f17.ntmps draw ops = true → statB (envOf fr Try.prog).fr.N draw ops = true := fun h => by rw [envOf_fr, hN]; exact h
  simp only [wLook] at h
  repeat' (first
    | exact True.intro
    | refine ev_seq ?_
    | ((first | refine vgd_go ?_ | refine ev_region hE hM (hS (by decide +kernel)) ?_ | refine ev_if ?_ | refine end_ret hE rfl rfl ?_ | refine end_norm hE rfl rfl ?_ | refine endG_ret [] hE rfl ?_ | refine endG_norm [] hE rfl ?_ | refine vcallB_of hP (s_toQuery x.query (by omega)) ?_ | refine vcallB_of hP (s_toMarkS x.front (by omega)) ?_ | refine vcallB_of hP (s_toPairS x.found (by omega)) ?_ | refine vcall_A ?_); simp (maxSteps := 2000000) only [go_sem, hP, ↓reduceIte, Nat.reduceAdd, Nat.reduceMul, Nat.reduceEqDiff, Nat.reduceSub, Nat.reduceLeDiff, reduceCtorEq])
    | refine ev_skip ?_ | refine ev_block ?_ | refine ev_blk ?_ | refine ev_ret ?_ | refine ev_exit ?_ | refine evx_code_ret ?_ | refine evx_blk_ret ?_ | refine evx_lp_ret ?_
    | refine evx_code_exit ?_ | refine evx_lp_exit ?_ | refine evx_blk_hit ?_ | refine evx_blk_pass (by decide) ?_
    | refine And.intro ?_ ?_ | intro _ | decide +kernel | omega)
theorem s_szLook (x : Look) (left : Int) (h0 : 0 ≤ left) (h1 : left ≤ 1048576) : Sat Try.prog 15 [aLook x, aI left] true (rI (lessN (wLook x) left)) := by
  refine sat_walk (fn := Try.f15) rfl rfl rfl (Nat.le_of_ble_eq_true rfl) fun fr hP hN hbnd => ?_
  have hE : (envOf fr Try.prog).Ok := envOf_ok hP
  have hM := follows_of hP
  have hS : ∀ {draw ops}, statB Try.f15.ntmps draw ops = true → statB (envOf fr Try.prog).fr.N draw ops = true := fun h => by rw [envOf_fr, hN]; exact h
  repeat' (first
    | exact True.intro
    | refine ev_seq ?_
    | ((first | refine vgd_go ?_ | refine ev_region hE hM (hS (by decide +kernel)) ?_ | refine ev_if ?_ | refine end_ret hE rfl rfl ?_ | refine end_norm hE rfl rfl ?_ | refine endG_ret [] hE rfl ?_ | refine endG_norm [] hE rfl ?_ | refine vcallB_of hP (s_szQuery x.query _ (by (try simp only [lessN] at *); omega) (by (try simp only [lessN] at *); omega)) ?_ | refine vcallB_of hP (s_szMarkS x.front _ (by (try simp only [lessN] at *); omega) (by (try simp only [lessN] at *); omega)) ?_ | refine vcallB_of hP (s_szPairS x.found _ (by (try simp only [lessN] at *); omega) (by (try simp only [lessN] at *); omega)) ?_ | refine vcall_A ?_); simp (maxSteps := 2000000) only [go_sem, hP, ↓reduceIte, Nat.reduceAdd, Nat.reduceMul, Nat.reduceEqDiff, Nat.reduceSub, Nat.reduceLeDiff, reduceCtorEq])
    | refine ev_skip ?_ | refine ev_block ?_ | refine ev_blk ?_ | refine ev_ret ?_ | refine ev_exit ?_ | refine evx_code_ret ?_ | refine evx_blk_ret ?_ | refine evx_lp_ret ?_
    | refine evx_code_exit ?_ | refine evx_lp_exit ?_ | refine evx_blk_hit ?_ | refine evx_blk_pass (by decide) ?_
    | refine And.intro ?_ ?_ | intro _ | decide +kernel | omega)
  all_goals simp_all only [lessN, wLook]
  all_goals omega
theorem s_eqLook (a b : Look) : Sat Try.prog 19 [aLook a, aLook b] true (rB (decide (a = b))) := by
  refine sat_walk (fn := Try.f19) rfl rfl rfl (Nat.le_of_ble_eq_true rfl) fun fr hP hN hbnd => ?_
  have hE : (envOf fr Try.prog).Ok := envOf_ok hP
  have hM := follows_of hP
  have hS : ∀ {draw ops}, statB Try.f19.ntmps draw ops = true → statB (envOf fr Try.prog).fr.N draw ops = true := fun h => by rw [envOf_fr, hN]; exact h
  repeat' (first
    | exact True.intro
    | refine ev_seq ?_
    | ((first | refine vgd_go ?_ | refine ev_region hE hM (hS (by decide +kernel)) ?_ | refine ev_if ?_ | refine end_ret hE rfl rfl ?_ | refine end_norm hE rfl rfl ?_ | refine endG_ret [] hE rfl ?_ | refine endG_norm [] hE rfl ?_ | refine vcallB_of hP (s_eqQuery a.query b.query) ?_ | refine vcallB_of hP (s_eqMarkS a.front b.front) ?_ | refine vcallB_of hP (s_eqPairS a.found b.found) ?_ | refine vcall_A ?_); simp (maxSteps := 2000000) only [go_sem, hP, ↓reduceIte, Nat.reduceAdd, Nat.reduceMul, Nat.reduceEqDiff, Nat.reduceSub, Nat.reduceLeDiff, reduceCtorEq])
    | refine ev_skip ?_ | refine ev_block ?_ | refine ev_blk ?_ | refine ev_ret ?_ | refine ev_exit ?_ | refine evx_code_ret ?_ | refine evx_blk_ret ?_ | refine evx_lp_ret ?_
    | refine evx_code_exit ?_ | refine evx_lp_exit ?_ | refine evx_blk_hit ?_ | refine evx_blk_pass (by decide) ?_
    | refine And.intro ?_ ?_ | intro _ | decide +kernel | omega)
  all_goals simp_all [eqLook]
theorem shp_Look {n t : Nat} {cs : List C} (ht : (Try.prog.underlying t).bind fieldTs = some [26, 27, 28]) (h : shp Try.prog (n + 7) t cs) : ∃ x, cs = eLook x := by
  obtain ⟨c0, g0, rfl, h0, c1, g1, rfl, h1, c2, g2, rfl, h2, rfl⟩ := shp_struct ht h
  obtain ⟨v0, rfl⟩ := shp_Query (n := n + 2) rfl h0
  obtain ⟨v1, rfl⟩ := shp_MarkS (n := n + 3) rfl h1
  obtain ⟨v2, rfl⟩ := shp_Ps (n := n + 0) rfl h2
  exact ⟨⟨v0, v1, v2⟩, rfl⟩
def boxed (k : Int) : Bool := decide (k = 1) || decide (k = 2)
def qForm (q : Query) : Bool := inB q.kind 1 4 && !(boxed q.kind && decide (0 < q.point.length)) && !(!boxed q.kind && decide (0 < q.rect.low.length + q.rect.high.length)) && !(decide (q.kind ≠ 4) && decide (q.k ≠ 0))
def qf (q : Query) (d : Int) : Int := if inB d 2 3 = false then 3 else if qForm q = false then 1 else if boxed q.kind then rf q.rect d else if pf q.point d ≠ 0 then pf q.point d else if (decide (q.kind = 4) && !inB q.k 1 20) then 3 else 0
theorem s_hasRect (k : Int) : Sat Try.prog 186 [aI k] true (rB (boxed k)) := by
  refine sat_walk (fn := Try.f186) rfl rfl rfl (Nat.le_of_ble_eq_true rfl) fun fr hP hN hbnd => ?_
  have hE : (envOf fr Try.prog).Ok := envOf_ok hP
  have hM := follows_of hP
  have hS : ∀ {draw ops}, statB Try.f186.ntmps draw ops = true → statB (envOf fr Try.prog).fr.N draw ops = true := fun h => by rw [envOf_fr, hN]; exact h
  repeat' (first
    | exact True.intro
    | refine ev_seq ?_
    | ((first | refine vgd_go ?_ | refine ev_region hE hM (hS (by decide +kernel)) ?_ | refine ev_if ?_ | refine end_ret hE rfl rfl ?_ | refine end_norm hE rfl rfl ?_ | refine endG_ret [] hE rfl ?_ | refine endG_norm [] hE rfl ?_ | refine vcall_A ?_); simp (maxSteps := 2000000) only [go_sem, hP, ↓reduceIte, Nat.reduceAdd, Nat.reduceMul, Nat.reduceEqDiff, Nat.reduceSub, Nat.reduceLeDiff, reduceCtorEq])
    | refine ev_skip ?_ | refine ev_block ?_ | refine ev_blk ?_ | refine ev_ret ?_ | refine ev_exit ?_ | refine evx_code_ret ?_ | refine evx_blk_ret ?_ | refine evx_lp_ret ?_
    | refine evx_code_exit ?_ | refine evx_lp_exit ?_ | refine evx_blk_hit ?_ | refine evx_blk_pass (by decide) ?_
    | refine And.intro ?_ ?_ | intro _ | decide +kernel | omega)
  all_goals (simp_all [boxed] <;> rfl)
theorem s_specQueryFault (q : Query) (d : Int) (hw : wQuery q ≤ 1048576) : Sat Try.prog 99 [aQuery q, aI d] true (rI (qf q d)) := by
  refine sat_walk (fn := Try.f99) rfl rfl rfl (Nat.le_of_ble_eq_true rfl) fun fr hP hN hbnd => ?_
  have hE : (envOf fr Try.prog).Ok := envOf_ok hP
  have hM := follows_of hP
  have hS : ∀ {draw ops}, statB Try.f99.ntmps draw ops = true → statB (envOf fr Try.prog).fr.N draw ops = true := fun h => by rw [envOf_fr, hN]; exact h
  have hs : IntKind.i64.wrap ((q.rect.low.length : Int) + q.rect.high.length) = q.rect.low.length + q.rect.high.length := i64_in _ (by simp only [wQuery, wR] at hw; omega)
  repeat' (first
    | exact True.intro
    | refine ev_seq ?_
    | ((first | refine ev_regionJ 3 [] [(1, .c (.int .i64 d)), (2, .ptr 0 0), (5, .c (.bool (boxed q.kind)))] [(0, .box [.c (.int .i64 q.kind), .c (sI q.rect.low), .c (sI q.rect.high), .c (sI q.point), .c (.int .i64 q.k)])] [] rfl hE hM (hS (by decide +kernel)) ?_ ?_ | refine vgd_go ?_ | refine ev_region hE hM (hS (by decide +kernel)) ?_ | refine ev_if ?_ | refine end_ret hE rfl rfl ?_ | refine end_norm hE rfl rfl ?_ | refine endG_ret [] hE rfl ?_ | refine endG_norm [] hE rfl ?_ | refine vcallB_of hP (s_l1In _ _ _) ?_ | refine vcallB_of hP (s_specRectFault q.rect _) ?_ | refine vcallB_of hP (s_specPointFault _ _) ?_ | refine vcall_A ?_); simp (maxSteps := 2000000) only [go_sem, hP, ↓reduceIte, Nat.reduceAdd, Nat.reduceMul, Nat.reduceEqDiff, Nat.reduceSub, Nat.reduceLeDiff, reduceCtorEq, hs])
    | refine ev_skip ?_ | refine ev_block ?_ | refine ev_blk ?_ | refine ev_ret ?_ | refine ev_exit ?_ | refine evx_code_ret ?_ | refine evx_blk_ret ?_ | refine evx_lp_ret ?_
    | refine evx_code_exit ?_ | refine evx_lp_exit ?_ | refine evx_blk_hit ?_ | refine evx_blk_pass (by decide) ?_
    | refine And.intro ?_ ?_ | intro _ | decide +kernel | omega)
  all_goals first
    | rfl
    | (simp_all [qf, qForm, boxed]; done)
    | (simp [qf, qForm, boxed] at *; grind [List.length_eq_zero_iff])
theorem s_implQueryFault (q : Query) (d : Int) : Sat Try.prog 102 [aQuery q, aI d] true (rI (qf q d)) := by
  refine sat_walk (fn := Try.f102) rfl rfl rfl (Nat.le_of_ble_eq_true rfl) fun fr hP hN hbnd => ?_
  have hE : (envOf fr Try.prog).Ok := envOf_ok hP
  have hM := follows_of hP
  have hS : ∀ {draw ops}, statB Try.f102.ntmps draw ops = true → statB (envOf fr Try.prog).fr.N draw ops = true := fun h => by rw [envOf_fr, hN]; exact h
  repeat' (first
    | exact True.intro
    | refine ev_seq ?_
    | ((first | refine vgd_go ?_ | refine ev_region hE hM (hS (by decide +kernel)) ?_ | refine ev_if ?_ | refine end_ret hE rfl rfl ?_ | refine end_norm hE rfl rfl ?_ | refine endG_ret [] hE rfl ?_ | refine endG_norm [] hE rfl ?_ | refine vcallB_of hP (s_isDims _) ?_ | refine vcallB_of hP (s_within _ _ _) ?_ | refine vcallB_of hP (s_hasRect _) ?_ | refine vcallB_of hP (s_implRectFault q.rect _) ?_ | refine vcallB_of hP (s_implPointFault _ _) ?_ | refine vcall_A ?_); simp (maxSteps := 2000000) only [go_sem, hP, ↓reduceIte, Nat.reduceAdd, Nat.reduceMul, Nat.reduceEqDiff, Nat.reduceSub, Nat.reduceLeDiff, reduceCtorEq])
    | refine ev_skip ?_ | refine ev_block ?_ | refine ev_blk ?_ | refine ev_ret ?_ | refine ev_exit ?_ | refine evx_code_ret ?_ | refine evx_blk_ret ?_ | refine evx_lp_ret ?_
    | refine evx_code_exit ?_ | refine evx_lp_exit ?_ | refine evx_blk_hit ?_ | refine evx_blk_pass (by decide) ?_
    | refine And.intro ?_ ?_ | intro _ | decide +kernel | omega)
  all_goals first
    | rfl
    | (simp_all [qf, qForm, boxed]; done)
    | (simp [qf, qForm, boxed] at *; grind [List.length_eq_zero_iff])
def pairF (d : Int) (p : Pair) : Int := if inB p.id 0 999 then rf p.rect d else 3
theorem s_pairFault (p : Pair) (d : Int) : Sat Try.prog 105 [aP p, aI d] true (rI (pairF d p)) := by
  refine sat_walk (fn := Try.f105) rfl rfl rfl (Nat.le_of_ble_eq_true rfl) fun fr hP hN hbnd => ?_
  have hE : (envOf fr Try.prog).Ok := envOf_ok hP
  have hM := follows_of hP
  have hS : ∀ {draw ops}, statB Try.f105.ntmps draw ops = true → statB (envOf fr Try.prog).fr.N draw ops = true := fun h => by rw [envOf_fr, hN]; exact h
  repeat' (first
    | exact True.intro
    | refine ev_seq ?_
    | ((first | refine vgd_go ?_ | refine ev_region hE hM (hS (by decide +kernel)) ?_ | refine ev_if ?_ | refine end_ret hE rfl rfl ?_ | refine end_norm hE rfl rfl ?_ | refine endG_ret [] hE rfl ?_ | refine endG_norm [] hE rfl ?_ | refine vcallB_of hP (s_isId _) ?_ | refine vcallB_of hP (s_implRectFault p.rect _) ?_ | refine vcall_A ?_); simp (maxSteps := 2000000) only [go_sem, hP, ↓reduceIte, Nat.reduceAdd, Nat.reduceMul, Nat.reduceEqDiff, Nat.reduceSub, Nat.reduceLeDiff, reduceCtorEq])
    | refine ev_skip ?_ | refine ev_block ?_ | refine ev_blk ?_ | refine ev_ret ?_ | refine ev_exit ?_ | refine evx_code_ret ?_ | refine evx_blk_ret ?_ | refine evx_lp_ret ?_
    | refine evx_code_exit ?_ | refine evx_lp_exit ?_ | refine evx_blk_hit ?_ | refine evx_blk_pass (by decide) ?_
    | refine And.intro ?_ ?_ | intro _ | decide +kernel | omega)
  all_goals (simp_all [pairF] <;> rfl)
theorem s_l2Pair (p : Pair) (d : Int) : Sat Try.prog 101 [.pv (eP p), aI d] true (rI (pairF d p)) := by
  refine sat_walk (fn := Try.f101) rfl rfl rfl (Nat.le_of_ble_eq_true rfl) fun fr hP hN hbnd => ?_
  have hE : (envOf fr Try.prog).Ok := envOf_ok hP
  have hM := follows_of hP
  have hS : ∀ {draw ops}, statB Try.f101.ntmps draw ops = true → statB (envOf fr Try.prog).fr.N draw ops = true := fun h => by rw [envOf_fr, hN]; exact h
  repeat' (first
    | exact True.intro
    | refine ev_seq ?_
    | ((first | refine vgd_go ?_ | refine ev_region hE hM (hS (by decide +kernel)) ?_ | refine ev_if ?_ | refine end_ret hE rfl rfl ?_ | refine end_norm hE rfl rfl ?_ | refine endG_ret [] hE rfl ?_ | refine endG_norm [] hE rfl ?_ | refine vcallB_of hP (s_l1In _ _ _) ?_ | refine vcallB_of hP (s_specRectFault p.rect _) ?_ | refine vcall_A ?_); simp (maxSteps := 2000000) only [go_sem, hP, ↓reduceIte, Nat.reduceAdd, Nat.reduceMul, Nat.reduceEqDiff, Nat.reduceSub, Nat.reduceLeDiff, reduceCtorEq])
    | refine ev_skip ?_ | refine ev_block ?_ | refine ev_blk ?_ | refine ev_ret ?_ | refine ev_exit ?_ | refine evx_code_ret ?_ | refine evx_blk_ret ?_ | refine evx_lp_ret ?_
    | refine evx_code_exit ?_ | refine evx_lp_exit ?_ | refine evx_blk_hit ?_ | refine evx_blk_pass (by decide) ?_
    | refine And.intro ?_ ?_ | intro _ | decide +kernel | omega)
  all_goals (simp_all [pairF] <;> rfl)
def risesAt (xs : List Pair) (j : Nat) : Bool := decide (j = 0) || decide ((xs.getD (j - 1) default).id < (xs.getD j default).id)
def mf (xs : List Pair) (d : Int) : Int :=
  if inB d 2 3 = false then 3 else if (60 : Int) < xs.length then 2 else if firstF (pairF d) xs ≠ 0 then firstF (pairF d) xs else if allLt xs.length (risesAt xs) then 0 else 1
def markF (q : Query) (m : Mark) : Int := if (inB m.dist 0 10000 && inB m.id 0 39 && inB m.nsn 0 100000) = false then 3 else if m.dist ≠ 0 ∧ q.kind ≠ 4 then 1 else 0
def foundF (d : Int) (xs : List Pair) (j : Nat) : Int := if pairF d (xs.getD j default) ≠ 0 then pairF d (xs.getD j default) else if risesAt xs j then 0 else 1
def lf (l : Look) (d : Int) : Int :=
  if qf l.query d ≠ 0 then qf l.query d else if (20000 : Int) < l.front.length ∨ (1000 : Int) < l.found.length then 2 else
  if firstF (markF l.query) l.front ≠ 0 then firstF (markF l.query) l.front else firstF (foundF d l.found) (List.range l.found.length)
theorem range_getD {n k : Nat} (h : k < n) : (List.range n).getD k 0 = k := by simp [List.getD_eq_getElem?_getD, h]
theorem firstR_here {f : Nat → Int} {n k : Nat} (h : k < n) (h1 : allLt k (fun j => decide (f j = 0)) = true) (h2 : f k ≠ 0) : firstF f (List.range n) = f k := by
  have := firstF_here (f := f) (xs := List.range n) (k := k) (d := 0) (by simpa using h) (allLt_iff.mpr fun j hj => by rw [range_getD (by omega)]; exact allLt_iff.mp h1 j hj) (by rw [range_getD h]; exact h2)
  rw [range_getD h] at this; exact this
theorem firstR_done {f : Nat → Int} {n k : Nat} (h : n ≤ k) (h1 : allLt k (fun j => decide (f j = 0)) = true) : firstF f (List.range n) = 0 := by
  refine firstF_done (f := f) (xs := List.range n) (k := n) (d := 0) (by simp) (allLt_iff.mpr fun j hj => ?_)
  rw [range_getD hj]; exact allLt_iff.mp h1 j (by omega)
theorem lf_front {l : Look} {d : Int} (h1 : qf l.query d = 0) (h2 : (l.front.length : Int) ≤ 20000) (h3 : (l.found.length : Int) ≤ 1000) (h : firstF (markF l.query) l.front ≠ 0) : lf l d = firstF (markF l.query) l.front := by
  unfold lf; rw [if_neg (by omega), if_neg (by omega), if_pos h]
theorem lf_found {l : Look} {d : Int} (h1 : qf l.query d = 0) (h2 : (l.front.length : Int) ≤ 20000) (h3 : (l.found.length : Int) ≤ 1000) (h : firstF (markF l.query) l.front = 0) : lf l d = firstF (foundF d l.found) (List.range l.found.length) := by
  unfold lf; rw [if_neg (by omega), if_neg (by omega), if_neg (by omega)]
theorem lf_front_here {l : Look} {d : Int} (h1 : qf l.query d = 0) (h2 : (l.front.length : Int) ≤ 20000) (h3 : (l.found.length : Int) ≤ 1000) {k : Nat} (hk : k < l.front.length) (ha : allLt k (fun j => decide (markF l.query (l.front.getD j default) = 0)) = true) (c : Int)
    (h : markF l.query (l.front.getD k default) = c) (hc : c ≠ 0) : c = lf l d := by
  have e := firstF_here (f := markF l.query) hk ha (by rw [h]; exact hc)
  rw [lf_front h1 h2 h3 (by rw [e, h]; exact hc), e, h]
theorem lf_found_here {l : Look} {d : Int} (h1 : qf l.query d = 0) (h2 : (l.front.length : Int) ≤ 20000) (h3 : (l.found.length : Int) ≤ 1000) (h4 : firstF (markF l.query) l.front = 0) {k : Nat} (hk : k < l.found.length) (ha : allLt k (fun j => decide (foundF d l.found j = 0)) = true) (c : Int)
    (h : foundF d l.found k = c) (hc : c ≠ 0) : c = lf l d := by
  rw [lf_found h1 h2 h3 h4, firstR_here hk ha (by rw [h]; exact hc), h]
theorem s_specLookFault (l : Look) (d : Int) (h0 : wLook l ≤ 1048576) : Sat Try.prog 34 [aLook l, aI d] true (rI (lf l d)) := by
  refine sat_walk (fn := Try.f34) rfl rfl rfl (Nat.le_of_ble_eq_true rfl) fun fr hP hN hbnd => ?_
  have hE : (envOf fr Try.prog).Ok := envOf_ok hP
  have hM := follows_of hP
  have hS : ∀ {draw ops}, statB Try.f34.ntmps draw ops = true → statB (envOf fr Try.prog).fr.N draw ops = true := fun h => by rw [envOf_fr, hN]; exact h
  have hw : wQuery l.query ≤ 1048576 := by simp only [wLook] at h0; omega
  have hlen := bnd_Look hbnd
  repeat' (first
    | exact True.intro
    | refine ev_seq ?_
    | ((first | refine vgd_go ?_ | refine ev_region hE hM (hS (by decide +kernel)) ?_ | refine ev_if ?_ | refine end_ret hE rfl rfl ?_ | refine end_norm hE rfl rfl ?_ | refine endG_ret [] hE rfl ?_ | refine endG_norm [] hE rfl ?_ | refine vcallB_of hP (s_specQueryFault l.query _ hw) ?_ | refine vcall_A ?_); simp (maxSteps := 2000000) only [go_sem, hP, ↓reduceIte, Nat.reduceAdd, Nat.reduceMul, Nat.reduceEqDiff, Nat.reduceSub, Nat.reduceLeDiff, reduceCtorEq])
    | refine ev_skip ?_ | refine ev_block ?_ | refine ev_blk ?_ | refine ev_ret ?_ | refine ev_exit ?_ | refine evx_code_ret ?_ | refine evx_blk_ret ?_ | refine evx_lp_ret ?_
    | refine evx_code_exit ?_ | refine evx_lp_exit ?_ | refine evx_blk_hit ?_ | refine evx_blk_pass (by decide) ?_
    | refine And.intro ?_ ?_ | intro _ | decide +kernel | omega)
  all_goals first
    | (simp_all [lf]; done)
    | (simp_all [lf]; omega)
    | skip
  rename_i g1 g2 g3
  have e1 : qf l.query d = 0 := by simpa using g1
  have e2 : (l.front.length : Int) ≤ 20000 := by simpa using g2
  have e3 : (l.found.length : Int) ≤ 1000 := by simpa using g3
  refine ev_loop (ι := Nat) (fun k => [(1, .c (.int .i64 d)), (2, .ptr 0 0), (6, .c (.int .i64 k))]) (fun k => [(0, .box (((eLook l).map .c)))]) (fun _ => []) (fun k => k ≤ l.front.length ∧ allLt k (fun j => decide (markF l.query (l.front.getD j default) = 0)) = true) (fun k => l.front.length - k) 0 [] (by simp [allLt_zero] <;> omega) (by simp only [go_sem, hP, ↓reduceIte, Nat.reduceAdd, Nat.reduceMul, Nat.reduceEqDiff, Nat.reduceSub, Nat.reduceLeDiff, reduceCtorEq]; simp) ?_
  intro k hk
  repeat' (first
    | exact True.intro
    | refine ev_seq ?_
    | ((first | refine vgd_go ?_ | refine ev_region hE hM (hS (by decide +kernel)) ?_ | refine ev_if ?_ | refine end_ret hE rfl rfl ?_ | refine end_norm hE rfl rfl ?_ | refine endG_ret [] hE rfl ?_ | refine endG_norm [] hE rfl ?_ | refine vcallB_of hP (s_l1In _ _ _) ?_ | refine vcall_A ?_); simp (maxSteps := 2000000) only [go_sem, hP, ↓reduceIte, Nat.reduceAdd, Nat.reduceMul, Nat.reduceEqDiff, Nat.reduceSub, Nat.reduceLeDiff, reduceCtorEq])
    | refine ev_skip ?_ | refine ev_block ?_ | refine ev_blk ?_ | refine ev_ret ?_ | refine ev_exit ?_ | refine evx_code_ret ?_ | refine evx_blk_ret ?_ | refine evx_lp_ret ?_
    | refine evx_code_exit ?_ | refine evx_lp_exit ?_ | refine evx_blk_hit ?_ | refine evx_blk_pass (by decide) ?_
    | refine And.intro ?_ ?_ | intro _ | decide +kernel | omega)
  all_goals first
    | exact lf_front_here e1 e2 e3 (by omega) hk.2 3 (by simp_all [markF]; done) (by decide)
    | exact lf_front_here e1 e2 e3 (by omega) hk.2 1 (by simp_all [markF]; done) (by decide)
    | exact ev_lp (k + 1) [] ⟨by omega, allLt_step hk.2 (by simp_all [markF]; done)⟩ (by omega) (by simp only [go_sem, hP, ↓reduceIte, Nat.reduceAdd, Nat.reduceMul, Nat.reduceEqDiff, Nat.reduceSub, Nat.reduceLeDiff, reduceCtorEq]; simp; exact wrap_nat (by omega) hlen.2.2.2.1)
    | skip
  have e4 : firstF (markF l.query) l.front = 0 := firstF_done (by omega) hk.2
  clear hk
  refine ev_loop (ι := Nat) (fun k => [(1, .c (.int .i64 d)), (2, .ptr 0 0), (8, .c (.int .i64 k))]) (fun k => [(0, .box (((eLook l).map .c)))]) (fun _ => []) (fun k => k ≤ l.found.length ∧ allLt k (fun j => decide (foundF d l.found j = 0)) = true) (fun k => l.found.length - k) 0 [] (by simp [allLt_zero] <;> omega) (by simp only [go_sem, hP, ↓reduceIte, Nat.reduceAdd, Nat.reduceMul, Nat.reduceEqDiff, Nat.reduceSub, Nat.reduceLeDiff, reduceCtorEq]; simp) ?_
  intro k hk
  have hw1 : 0 < k → IntKind.i64.wrap ((k : Int) - 1) = ((k - 1 : Nat) : Int) := fun h => by rw [i64_in _ (by omega)]; omega
  repeat' (first
    | exact True.intro
    | refine ev_seq ?_
    | ((first | refine vgd_go ?_ | refine ev_region hE hM (hS (by decide +kernel)) ?_ | refine ev_if ?_ | refine end_ret hE rfl rfl ?_ | refine end_norm hE rfl rfl ?_ | refine endG_ret [] hE rfl ?_ | refine endG_norm [] hE rfl ?_ | refine vcallB_of hP (s_l2Pair (l.found.getD k default) _) ?_ | refine vcall_A ?_); simp (maxSteps := 2000000) only [go_sem, hP, ↓reduceIte, Nat.reduceAdd, Nat.reduceMul, Nat.reduceEqDiff, Nat.reduceSub, Nat.reduceLeDiff, reduceCtorEq])
    | refine ev_skip ?_ | refine ev_block ?_ | refine ev_blk ?_ | refine ev_ret ?_ | refine ev_exit ?_ | refine evx_code_ret ?_ | refine evx_blk_ret ?_ | refine evx_lp_ret ?_
    | refine evx_code_exit ?_ | refine evx_lp_exit ?_ | refine evx_blk_hit ?_ | refine evx_blk_pass (by decide) ?_
    | refine And.intro ?_ ?_ | intro _ | decide +kernel | omega)
  all_goals first
    | (rename_i h1 h2; have hz : pairF d (l.found.getD k default) ≠ 0 := by { simp only [bne_iff_ne, ne_eq] at h2; exact h2 }; exact lf_found_here e1 e2 e3 e4 (by omega) hk.2 _ (by unfold foundF; rw [if_pos hz]) hz)
    | (rename_i h1 h2 h3 h4
       rw [hw1 (by omega), Int.toNat_natCast] at h4
       have h0 : k ≠ 0 := by omega
       have hr : risesAt l.found k = false := by simp only [risesAt, Bool.or_eq_false_iff, decide_eq_false_iff_not]; exact ⟨h0, by omega⟩
       have hz : pairF d (l.found.getD k default) = 0 := by simpa using h2
       exact lf_found_here e1 e2 e3 e4 (by omega) hk.2 1 (by unfold foundF; rw [if_neg (by omega), hr]; rfl) (by decide))
    | (rename_i h1 h2 h3 h4
       rw [hw1 (by omega), Int.toNat_natCast] at h4
       have h0 : k ≠ 0 := by omega
       exact ev_lp (k + 1) [] ⟨by omega, allLt_step hk.2 (by simp_all [foundF, risesAt]; done)⟩ (by omega) (by simp only [go_sem, hP, ↓reduceIte, Nat.reduceAdd, Nat.reduceMul, Nat.reduceEqDiff, Nat.reduceSub, Nat.reduceLeDiff, reduceCtorEq]; simp; exact wrap_nat (by omega) hlen.2.2.2.2))
    | (rename_i h1 h2 h3
       have hz : pairF d (l.found.getD k default) = 0 := by { simp only [bne_eq_false_iff_eq] at h2; exact h2 }
       obtain rfl : k = 0 := by omega
       exact ev_lp (0 + 1) [] ⟨by omega, allLt_step hk.2 (by simp_all [foundF, risesAt]; done)⟩ (by omega) (by simp only [go_sem, hP, ↓reduceIte, Nat.reduceAdd, Nat.reduceMul, Nat.reduceEqDiff, Nat.reduceSub, Nat.reduceLeDiff, reduceCtorEq]; simp; exact wrap_nat (n := l.found.length) (by omega) hlen.2.2.2.2))
    | (have h9 := lf_found e1 e2 e3 e4
       rw [firstR_done (by omega) hk.2] at h9
       exact h9.symm)
theorem s_implLookFault (l : Look) (d : Int) : Sat Try.prog 35 [aLook l, aI d] true (rI (lf l d)) := by
  refine sat_walk (fn := Try.f35) rfl rfl rfl (Nat.le_of_ble_eq_true rfl) fun fr hP hN hbnd => ?_
  have hE : (envOf fr Try.prog).Ok := envOf_ok hP
  have hM := follows_of hP
  have hS : ∀ {draw ops}, statB Try.f35.ntmps draw ops = true → statB (envOf fr Try.prog).fr.N draw ops = true := fun h => by rw [envOf_fr, hN]; exact h
  have hlen := bnd_Look hbnd
  repeat' (first
    | exact True.intro
    | refine ev_seq ?_
    | ((first | refine vgd_go ?_ | refine ev_region hE hM (hS (by decide +kernel)) ?_ | refine ev_if ?_ | refine end_ret hE rfl rfl ?_ | refine end_norm hE rfl rfl ?_ | refine endG_ret [] hE rfl ?_ | refine endG_norm [] hE rfl ?_ | refine vcallB_of hP (s_implQueryFault l.query _) ?_ | refine vcall_A ?_); simp (maxSteps := 2000000) only [go_sem, hP, ↓reduceIte, Nat.reduceAdd, Nat.reduceMul, Nat.reduceEqDiff, Nat.reduceSub, Nat.reduceLeDiff, reduceCtorEq])
    | refine ev_skip ?_ | refine ev_block ?_ | refine ev_blk ?_ | refine ev_ret ?_ | refine ev_exit ?_ | refine evx_code_ret ?_ | refine evx_blk_ret ?_ | refine evx_lp_ret ?_
    | refine evx_code_exit ?_ | refine evx_lp_exit ?_ | refine evx_blk_hit ?_ | refine evx_blk_pass (by decide) ?_
    | refine And.intro ?_ ?_ | intro _ | decide +kernel | omega)
  all_goals first
    | (simp_all [lf]; done)
    | (simp_all [lf]; omega)
    | skip
  rename_i g1 g2 g3
  have e1 : qf l.query d = 0 := by simpa using g1
  have e2 : (l.front.length : Int) ≤ 20000 := by simpa using g2
  have e3 : (l.found.length : Int) ≤ 1000 := by simpa using g3
  refine ev_loop (ι := Nat) (fun k => [(1, .c (.int .i64 d)), (2, .ptr 0 0), (31, .c (sMarkS l.front)), (32, .c (.int .i64 l.front.length)), (33, .c (.int .i64 k))]) (fun k => [(0, .box (((eLook l).map .c)))]) (fun _ => []) (fun k => k ≤ l.front.length ∧ allLt k (fun j => decide (markF l.query (l.front.getD j default) = 0)) = true) (fun k => l.front.length - k) 0 [] (by simp [allLt_zero] <;> omega) (by simp only [go_sem, hP, ↓reduceIte, Nat.reduceAdd, Nat.reduceMul, Nat.reduceEqDiff, Nat.reduceSub, Nat.reduceLeDiff, reduceCtorEq]; simp) ?_
  intro k hk
  repeat' (first
    | exact True.intro
    | refine ev_seq ?_
    | ((first | refine vgd_go ?_ | refine ev_region hE hM (hS (by decide +kernel)) ?_ | refine ev_if ?_ | refine end_ret hE rfl rfl ?_ | refine end_norm hE rfl rfl ?_ | refine endG_ret [] hE rfl ?_ | refine endG_norm [] hE rfl ?_ | refine vcallB_of hP (s_within _ _ _) ?_ | refine vcallB_of hP (s_isNsn _) ?_ | refine vcall_A ?_); simp (maxSteps := 2000000) only [go_sem, hP, ↓reduceIte, Nat.reduceAdd, Nat.reduceMul, Nat.reduceEqDiff, Nat.reduceSub, Nat.reduceLeDiff, reduceCtorEq])
    | refine ev_skip ?_ | refine ev_block ?_ | refine ev_blk ?_ | refine ev_ret ?_ | refine ev_exit ?_ | refine evx_code_ret ?_ | refine evx_blk_ret ?_ | refine evx_lp_ret ?_
    | refine evx_code_exit ?_ | refine evx_lp_exit ?_ | refine evx_blk_hit ?_ | refine evx_blk_pass (by decide) ?_
    | refine And.intro ?_ ?_ | intro _ | decide +kernel | omega)
  all_goals first
    | exact lf_front_here e1 e2 e3 (by omega) hk.2 3 (by simp_all [markF]; done) (by decide)
    | exact lf_front_here e1 e2 e3 (by omega) hk.2 1 (by simp_all [markF]; done) (by decide)
    | exact ev_lp (k + 1) [] ⟨by omega, allLt_step hk.2 (by simp_all [markF]; done)⟩ (by omega) (by simp only [go_sem, hP, ↓reduceIte, Nat.reduceAdd, Nat.reduceMul, Nat.reduceEqDiff, Nat.reduceSub, Nat.reduceLeDiff, reduceCtorEq]; simp; exact wrap_nat (by omega) hlen.2.2.2.1)
    | skip
  have e4 : firstF (markF l.query) l.front = 0 := firstF_done (by omega) hk.2
  clear hk
  refine ev_loop (ι := Nat) (fun k => [(1, .c (.int .i64 d)), (2, .ptr 0 0), (64, .c (sP l.found)), (65, .c (.int .i64 l.found.length)), (66, .c (.int .i64 k))]) (fun k => [(0, .box (((eLook l).map .c)))]) (fun _ => []) (fun k => k ≤ l.found.length ∧ allLt k (fun j => decide (foundF d l.found j = 0)) = true) (fun k => l.found.length - k) 0 [] (by simp [allLt_zero] <;> omega) (by simp only [go_sem, hP, ↓reduceIte, Nat.reduceAdd, Nat.reduceMul, Nat.reduceEqDiff, Nat.reduceSub, Nat.reduceLeDiff, reduceCtorEq]; simp) ?_
  intro k hk
  have hw1 : 0 < k → IntKind.i64.wrap ((k : Int) - 1) = ((k - 1 : Nat) : Int) := fun h => by rw [i64_in _ (by omega)]; omega
  repeat' (first
    | exact True.intro
    | refine ev_seq ?_
    | ((first | refine vgd_go ?_ | refine ev_region hE hM (hS (by decide +kernel)) ?_ | refine ev_if ?_ | refine end_ret hE rfl rfl ?_ | refine end_norm hE rfl rfl ?_ | refine endG_ret [] hE rfl ?_ | refine endG_norm [] hE rfl ?_ | refine vcallB_of hP (s_pairFault (l.found.getD k default) _) ?_ | refine vcall_A ?_); simp (maxSteps := 2000000) only [go_sem, hP, ↓reduceIte, Nat.reduceAdd, Nat.reduceMul, Nat.reduceEqDiff, Nat.reduceSub, Nat.reduceLeDiff, reduceCtorEq])
    | refine ev_skip ?_ | refine ev_block ?_ | refine ev_blk ?_ | refine ev_ret ?_ | refine ev_exit ?_ | refine evx_code_ret ?_ | refine evx_blk_ret ?_ | refine evx_lp_ret ?_
    | refine evx_code_exit ?_ | refine evx_lp_exit ?_ | refine evx_blk_hit ?_ | refine evx_blk_pass (by decide) ?_
    | refine And.intro ?_ ?_ | intro _ | decide +kernel | omega)
  all_goals first
    | (rename_i h1 h2; have hz : pairF d (l.found.getD k default) ≠ 0 := by { simp only [bne_iff_ne, ne_eq] at h2; exact h2 }; exact lf_found_here e1 e2 e3 e4 (by omega) hk.2 _ (by unfold foundF; rw [if_pos hz]) hz)
    | (rename_i h1 h2 h3 h4
       rw [hw1 (by omega), Int.toNat_natCast] at h4
       have h0 : k ≠ 0 := by omega
       have hr : risesAt l.found k = false := by simp only [risesAt, Bool.or_eq_false_iff, decide_eq_false_iff_not]; exact ⟨h0, by omega⟩
       have hz : pairF d (l.found.getD k default) = 0 := by simpa using h2
       exact lf_found_here e1 e2 e3 e4 (by omega) hk.2 1 (by unfold foundF; rw [if_neg (by omega), hr]; rfl) (by decide))
    | (rename_i h1 h2 h3 h4
       rw [hw1 (by omega), Int.toNat_natCast] at h4
       have h0 : k ≠ 0 := by omega
       exact ev_lp (k + 1) [] ⟨by omega, allLt_step hk.2 (by simp_all [foundF, risesAt]; done)⟩ (by omega) (by simp only [go_sem, hP, ↓reduceIte, Nat.reduceAdd, Nat.reduceMul, Nat.reduceEqDiff, Nat.reduceSub, Nat.reduceLeDiff, reduceCtorEq]; simp; exact wrap_nat (by omega) hlen.2.2.2.2))
    | (rename_i h1 h2 h3
       have hz : pairF d (l.found.getD k default) = 0 := by { simp only [bne_eq_false_iff_eq] at h2; exact h2 }
       obtain rfl : k = 0 := by omega
       exact ev_lp (0 + 1) [] ⟨by omega, allLt_step hk.2 (by simp_all [foundF, risesAt]; done)⟩ (by omega) (by simp only [go_sem, hP, ↓reduceIte, Nat.reduceAdd, Nat.reduceMul, Nat.reduceEqDiff, Nat.reduceSub, Nat.reduceLeDiff, reduceCtorEq]; simp; exact wrap_nat (n := l.found.length) (by omega) hlen.2.2.2.2))
    | (have h9 := lf_found e1 e2 e3 e4
       rw [firstR_done (by omega) hk.2] at h9
       exact h9.symm)
theorem l_LookFault (a : Look) (b : Int) : Sat Try.prog 6 [aLook a, aI b] true (rB true) := by
  refine sat_walk (fn := Try.f6) rfl rfl rfl (Nat.le_of_ble_eq_true rfl) fun fr hP hN hbnd => ?_
  have hE : (envOf fr Try.prog).Ok := envOf_ok hP
  have hM := follows_of hP
  have hS : ∀ {draw ops}, statB Try.f6.ntmps draw ops = true → statB (envOf fr Try.prog).fr.N draw ops = true := fun h => by rw [envOf_fr, hN]; exact h
  repeat' (first
    | exact True.intro
    | refine ev_seq ?_
    | ((first | refine vgd_go ?_ | refine ev_region hE hM (hS (by decide +kernel)) ?_ | refine ev_if ?_ | refine end_ret hE rfl rfl ?_ | refine end_norm hE rfl rfl ?_ | refine endG_ret [] hE rfl ?_ | refine endG_norm [] hE rfl ?_ | refine vcallB_of hP (s_szLook a _ (by omega) (by omega)) ?_ | refine vcallB_of hP (s_toLook a (by simp only [lessN] at *; omega)) ?_ | refine vcallB_of hP (s_specLookFault a b (by simp only [lessN] at *; omega)) ?_ | refine vcallB_of hP (s_implLookFault a b) ?_ | refine vcallB_of hP (s_eqLook a a) ?_ | refine vcall_A ?_); simp (maxSteps := 2000000) only [go_sem, hP, ↓reduceIte, Nat.reduceAdd, Nat.reduceMul, Nat.reduceEqDiff, Nat.reduceSub, Nat.reduceLeDiff, reduceCtorEq])
    | refine ev_skip ?_ | refine ev_block ?_ | refine ev_blk ?_ | refine ev_ret ?_ | refine ev_exit ?_ | refine evx_code_ret ?_ | refine evx_blk_ret ?_ | refine evx_lp_ret ?_
    | refine evx_code_exit ?_ | refine evx_lp_exit ?_ | refine evx_blk_hit ?_ | refine evx_blk_pass (by decide) ?_
    | refine And.intro ?_ ?_ | intro _ | decide +kernel | omega)
  all_goals simp_all
theorem all_LookFault (gs : List Arg) (h : shpA Try.prog 12 [30, 2] gs) : Sat Try.prog 6 gs true (rB true) := by
  obtain ⟨x0, gs, rfl, h0, x1, gs, rfl, h1, rfl⟩ := h
  obtain ⟨a, rfl⟩ := shp_Look (n := 5) rfl h0
  obtain ⟨b, rfl, _⟩ := shp_i64 (n := 11) rfl h1
  exact l_LookFault a b
end Go.Proofs.Ytheclfollianjaa.W
