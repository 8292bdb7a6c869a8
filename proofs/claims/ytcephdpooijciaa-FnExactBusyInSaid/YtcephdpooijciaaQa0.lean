/- Contracts of functions that FnExactBusyIn reaches: what each returns; it writes to nothing of old. No condition but those that each theorem states. -/
import Derived.Test.YtcephdpooijciaaPa
open Go Go.Vm Go.Proofs Go.IntWalk Go.RowKit
set_option maxRecDepth 100000
set_option maxHeartbeats 4000000
set_option linter.unusedSimpArgs false
set_option linter.unusedVariables false
set_option linter.unusedSectionVars false
namespace Go.Proofs.Ytcephdpooijciaa.W
attribute [local irreducible] kJ ev evx vops vstep vgo vgd vget vcall vcallFn vcallA vcallB vts vres vcond vbin
@[go_sem] abbrev aI (n : Int) : Arg := .d (false, [.int .i64 n])
@[go_sem] abbrev rI (n : Int) : List Dat := [(false, [.int .i64 n])]
@[go_sem] abbrev rB (b : Bool) : List Dat := [(false, [.bool b])]
/-- A slice of numbers, as an argument and as a result of its own. -/
@[go_sem] abbrev sI (xs : List Int) : C := .sl none 1 (xs.map eI)
@[go_sem] abbrev oI (xs : List Int) : C := .sl (some 2) 1 (xs.map eI)
@[go_sem] abbrev aL (xs : List Int) : Arg := .d (false, [sI xs])
@[go_sem] abbrev rL (xs : List Int) : List Dat := [(false, [oI xs])]
theorem bndL {xs : List Int} {gs : List Arg} (h : Args.bnd (aL xs :: gs)) : xs.length ≤ maxLen := by
  have := h.1.1.1; rwa [List.length_map] at this
def inB (a b c : Int) : Bool := decide (b ≤ a) && decide (a ≤ c)
theorem s_toInt64S (xs : List Int) (hx : xs.length ≤ 1048576) : Sat Try.prog 101 [aL xs] true (rL xs) := by
  refine sat_walk (fn := Try.f101) rfl rfl rfl (Nat.le_of_ble_eq_true rfl) fun fr hP hN hbnd => ?_
  have hE : (envOf fr Try.prog).Ok := envOf_ok hP
  have hM := follows_of hP
  have hS : ∀ {draw ops}, statB Try.f101.ntmps draw ops = true → statB (envOf fr Try.prog).fr.N draw ops = true := fun h => by rw [envOf_fr, hN]; exact h
  repeat' (first
    | exact True.intro
    | refine ev_seq ?_
    | ((first | refine vgd_go ?_ | refine ev_region hE hM (hS (by decide +kernel)) ?_ | refine ev_if ?_ | refine end_ret hE rfl rfl ?_ | refine end_norm hE rfl rfl ?_ | refine endG_ret [] hE rfl ?_ | refine endG_norm [] hE rfl ?_ | refine vcall_A ?_); simp (maxSteps := 2000000) only [go_sem, hP, ↓reduceIte, Nat.reduceAdd, Nat.reduceMul, Nat.reduceEqDiff, Nat.reduceSub, Nat.reduceLeDiff, reduceCtorEq])
    | refine ev_skip ?_ | refine ev_block ?_ | refine ev_blk ?_ | refine ev_ret ?_ | refine ev_exit ?_ | refine evx_code_ret ?_ | refine evx_blk_ret ?_ | refine evx_lp_ret ?_
    | refine evx_code_exit ?_ | refine evx_lp_exit ?_ | refine evx_blk_hit ?_ | refine evx_blk_pass (by decide) ?_
    | refine And.intro ?_ ?_ | intro _ | decide +kernel | omega)
  refine ev_loop (ι := Nat) (fun k => [(0, .c (sI xs)), (3, .ref 4112), (4, .c (.int .i64 k))]) (fun k => [(4112, .arr true 2 1 ((mix xs 0 k).map eI))]) (fun _ => []) (fun k => k ≤ xs.length) (fun k => xs.length - k) 0 [] (by simp) (by simp only [go_sem, hP, ↓reduceIte, Nat.reduceAdd, Nat.reduceMul, Nat.reduceEqDiff, Nat.reduceSub, Nat.reduceLeDiff, reduceCtorEq]; simp [mix_zero, eI]) ?_
  intro k hk
  repeat' (first
    | exact True.intro
    | refine ev_seq ?_
    | ((first | refine vgd_go ?_ | refine ev_region hE hM (hS (by decide +kernel)) ?_ | refine ev_if ?_ | refine end_ret hE rfl rfl ?_ | refine end_norm hE rfl rfl ?_ | refine endG_ret [] hE rfl ?_ | refine endG_norm [] hE rfl ?_ | refine vcall_A ?_); simp (maxSteps := 2000000) only [go_sem, hP, ↓reduceIte, Nat.reduceAdd, Nat.reduceMul, Nat.reduceEqDiff, Nat.reduceSub, Nat.reduceLeDiff, reduceCtorEq, mix_length hk])
    | refine ev_skip ?_ | refine ev_block ?_ | refine ev_blk ?_ | refine ev_ret ?_ | refine ev_exit ?_ | refine evx_code_ret ?_ | refine evx_blk_ret ?_ | refine evx_lp_ret ?_
    | refine evx_code_exit ?_ | refine evx_lp_exit ?_ | refine evx_blk_hit ?_ | refine evx_blk_pass (by decide) ?_
    | refine And.intro ?_ ?_ | intro _ | decide +kernel | omega)
  · exact ev_lp (k + 1) [] (by omega) (by omega) (by simp only [go_sem, hP, ↓reduceIte, Nat.reduceAdd, Nat.reduceMul, Nat.reduceEqDiff, Nat.reduceSub, Nat.reduceLeDiff, reduceCtorEq]; simp; exact ⟨wrap_succ (by omega) hx, mix_set_map (f := eI) (by omega)⟩)
  · rw [mix_full (by omega)]
theorem s_eqInt64S (xs ys : List Int) : Sat Try.prog 87 [aL xs, aL ys] true (rB (decide (xs = ys))) := by
  refine sat_walk (fn := Try.f87) rfl rfl rfl (Nat.le_of_ble_eq_true rfl) fun fr hP hN hbnd => ?_
  have hE : (envOf fr Try.prog).Ok := envOf_ok hP
  have hM := follows_of hP
  have hS : ∀ {draw ops}, statB Try.f87.ntmps draw ops = true → statB (envOf fr Try.prog).fr.N draw ops = true := fun h => by rw [envOf_fr, hN]; exact h
  have hlen := bndL hbnd
  repeat' (first
    | exact True.intro
    | refine ev_seq ?_
    | ((first | refine vgd_go ?_ | refine ev_region hE hM (hS (by decide +kernel)) ?_ | refine ev_if ?_ | refine end_ret hE rfl rfl ?_ | refine end_norm hE rfl rfl ?_ | refine endG_ret [] hE rfl ?_ | refine endG_norm [] hE rfl ?_ | refine vcall_A ?_); simp (maxSteps := 2000000) only [go_sem, hP, ↓reduceIte, Nat.reduceAdd, Nat.reduceMul, Nat.reduceEqDiff, Nat.reduceSub, Nat.reduceLeDiff, reduceCtorEq])
    | refine ev_skip ?_ | refine ev_block ?_ | refine ev_blk ?_ | refine ev_ret ?_ | refine ev_exit ?_ | refine evx_code_ret ?_ | refine evx_blk_ret ?_ | refine evx_lp_ret ?_
    | refine evx_code_exit ?_ | refine evx_lp_exit ?_ | refine evx_blk_hit ?_ | refine evx_blk_pass (by decide) ?_
    | refine And.intro ?_ ?_ | intro _ | decide +kernel | omega)
  · rename_i h; simp at h; simp; rintro rfl; exact h rfl
  rename_i h; simp at h
  refine ev_loop (ι := Nat) (fun k => [(0, .c (sI xs)), (1, .c (sI ys)), (5, .c (.int .i64 k))]) (fun k => []) (fun _ => []) (fun k => k ≤ xs.length ∧ xs.take k = ys.take k) (fun k => xs.length - k) 0 [] (by simp) (by simp only [go_sem, hP, ↓reduceIte, Nat.reduceAdd, Nat.reduceMul, Nat.reduceEqDiff, Nat.reduceSub, Nat.reduceLeDiff, reduceCtorEq]; simp) ?_
  intro k hk
  repeat' (first
    | exact True.intro
    | refine ev_seq ?_
    | ((first | refine vgd_go ?_ | refine ev_region hE hM (hS (by decide +kernel)) ?_ | refine ev_if ?_ | refine end_ret hE rfl rfl ?_ | refine end_norm hE rfl rfl ?_ | refine endG_ret [] hE rfl ?_ | refine endG_norm [] hE rfl ?_ | refine vcall_A ?_); simp (maxSteps := 2000000) only [go_sem, hP, ↓reduceIte, Nat.reduceAdd, Nat.reduceMul, Nat.reduceEqDiff, Nat.reduceSub, Nat.reduceLeDiff, reduceCtorEq])
    | refine ev_skip ?_ | refine ev_block ?_ | refine ev_blk ?_ | refine ev_ret ?_ | refine ev_exit ?_ | refine evx_code_ret ?_ | refine evx_blk_ret ?_ | refine evx_lp_ret ?_
    | refine evx_code_exit ?_ | refine evx_lp_exit ?_ | refine evx_blk_hit ?_ | refine evx_blk_pass (by decide) ?_
    | refine And.intro ?_ ?_ | intro _ | decide +kernel | omega)
  · rename_i h3; simp at h3; simp; exact eq_not h3
  · rename_i h3 h4; simp at h4
    exact ev_lp (k + 1) [] ⟨by omega, eq_step (d := default) (e := default) (by omega) (by omega) hk.2 (by simpa using h4)⟩ (by omega) (by simp only [go_sem, hP, ↓reduceIte, Nat.reduceAdd, Nat.reduceMul, Nat.reduceEqDiff, Nat.reduceSub, Nat.reduceLeDiff, reduceCtorEq]; simp; exact wrap_nat (by omega) hlen)
  · simp; exact eq_done (by omega) (by omega) hk.2
/-- What is left of a bulk behind a count; below 0: none. -/
def lessN (n : Nat) (left : Int) : Int := if left - n < 0 then -1 else left - n
theorem s_szInt64S (xs : List Int) (left : Int) (h0 : 0 ≤ left) (h1 : left ≤ 1048576) : Sat Try.prog 97 [aL xs, aI left] true (rI (lessN xs.length left)) := by
  refine sat_walk (fn := Try.f97) rfl rfl rfl (Nat.le_of_ble_eq_true rfl) fun fr hP hN hbnd => ?_
  have hE : (envOf fr Try.prog).Ok := envOf_ok hP
  have hM := follows_of hP
  have hS : ∀ {draw ops}, statB Try.f97.ntmps draw ops = true → statB (envOf fr Try.prog).fr.N draw ops = true := fun h => by rw [envOf_fr, hN]; exact h
  have hlen := bndL hbnd
  have hm : maxLen = 9223372036854775807 := rfl
  have hw : IntKind.i64.wrap (left - xs.length) = left - xs.length := i64_in _ (by omega)
  repeat' (first
    | exact True.intro
    | refine ev_seq ?_
    | ((first | refine vgd_go ?_ | refine ev_region hE hM (hS (by decide +kernel)) ?_ | refine ev_if ?_ | refine end_ret hE rfl rfl ?_ | refine end_norm hE rfl rfl ?_ | refine endG_ret [] hE rfl ?_ | refine endG_norm [] hE rfl ?_ | refine vcall_A ?_); simp (maxSteps := 2000000) only [go_sem, hP, ↓reduceIte, Nat.reduceAdd, Nat.reduceMul, Nat.reduceEqDiff, Nat.reduceSub, Nat.reduceLeDiff, reduceCtorEq, hw])
    | refine ev_skip ?_ | refine ev_block ?_ | refine ev_blk ?_ | refine ev_ret ?_ | refine ev_exit ?_ | refine evx_code_ret ?_ | refine evx_blk_ret ?_ | refine evx_lp_ret ?_
    | refine evx_code_exit ?_ | refine evx_lp_exit ?_ | refine evx_blk_hit ?_ | refine evx_blk_pass (by decide) ?_
    | refine And.intro ?_ ?_ | intro _ | decide +kernel | omega)
  all_goals simp_all [lessN] <;> omega
structure Rect where
  low : List Int
  high : List Int
  deriving DecidableEq, Inhabited
@[go_sem] abbrev cR (r : Rect) : List C := [sI r.low, sI r.high]
@[go_sem] abbrev oR (r : Rect) : List C := [oI r.low, oI r.high]
@[go_sem] abbrev aR (r : Rect) : Arg := .d (true, cR r)
@[go_sem] abbrev pR (r : Rect) : Arg := .pv (cR r)
@[go_sem] abbrev rR (r : Rect) : List Dat := [(true, oR r)]
theorem bndR {r : Rect} {gs : List Arg} (h : Args.bnd (aR r :: gs)) : r.low.length ≤ maxLen ∧ r.high.length ≤ maxLen := by
  have h1 := h.1.1.1; have h2 := h.1.2.1.1
  rw [List.length_map] at h1 h2; exact ⟨h1, h2⟩
theorem bndPR {r : Rect} {gs : List Arg} (h : Args.bnd (pR r :: gs)) : r.low.length ≤ maxLen ∧ r.high.length ≤ maxLen := by
  have h1 := h.1.1.1; have h2 := h.1.2.1.1
  rw [List.length_map] at h1 h2; exact ⟨h1, h2⟩
theorem eqR (a b : Rect) : a = b ↔ a.low = b.low ∧ a.high = b.high := by cases a; cases b; simp
def wR (r : Rect) : Nat := r.low.length + r.high.length
theorem s_szRect (r : Rect) (left : Int) (h0 : 0 ≤ left) (h1 : left ≤ 1048576) : Sat Try.prog 67 [aR r, aI left] true (rI (lessN (wR r) left)) := by
  refine sat_walk (fn := Try.f67) rfl rfl rfl (Nat.le_of_ble_eq_true rfl) fun fr hP hN hbnd => ?_
  have hE : (envOf fr Try.prog).Ok := envOf_ok hP
  have hM := follows_of hP
  have hS : ∀ {draw ops}, statB Try.f67.ntmps draw ops = true → statB (envOf fr Try.prog).fr.N draw ops = true := fun h => by rw [envOf_fr, hN]; exact h
  have hl := bndR hbnd
  repeat' (first
    | exact True.intro
    | refine ev_seq ?_
    | ((first | refine vgd_go ?_ | refine ev_region hE hM (hS (by decide +kernel)) ?_ | refine ev_if ?_ | refine end_ret hE rfl rfl ?_ | refine end_norm hE rfl rfl ?_ | refine endG_ret [] hE rfl ?_ | refine endG_norm [] hE rfl ?_ | refine vcallB_of hP (s_szInt64S _ _ h0 h1) ?_ | refine vcallB_of hP (s_szInt64S _ _ (by simp only [lessN] at *; omega) (by simp only [lessN] at *; omega)) ?_ | refine vcall_A ?_); simp (maxSteps := 2000000) only [go_sem, hP, ↓reduceIte, Nat.reduceAdd, Nat.reduceMul, Nat.reduceEqDiff, Nat.reduceSub, Nat.reduceLeDiff, reduceCtorEq])
    | refine ev_skip ?_ | refine ev_block ?_ | refine ev_blk ?_ | refine ev_ret ?_ | refine ev_exit ?_ | refine evx_code_ret ?_ | refine evx_blk_ret ?_ | refine evx_lp_ret ?_
    | refine evx_code_exit ?_ | refine evx_lp_exit ?_ | refine evx_blk_hit ?_ | refine evx_blk_pass (by decide) ?_
    | refine And.intro ?_ ?_ | intro _ | decide +kernel | omega)
  all_goals simp_all only [lessN, wR]
  all_goals omega
theorem s_toRect (r : Rect) (h : wR r ≤ 1048576) : Sat Try.prog 69 [aR r] true (rR r) := by
  refine sat_walk (fn := Try.f69) rfl rfl rfl (Nat.le_of_ble_eq_true rfl) fun fr hP hN hbnd => ?_
  have hE : (envOf fr Try.prog).Ok := envOf_ok hP
  have hM := follows_of hP
  have hS : ∀ {draw ops}, statB Try.f69.ntmps draw ops = true → statB (envOf fr Try.prog).fr.N draw ops = true := fun h => by rw [envOf_fr, hN]; exact h
  have hw : r.low.length ≤ 1048576 ∧ r.high.length ≤ 1048576 := by simp only [wR] at h; omega
  repeat' (first
    | exact True.intro
    | refine ev_seq ?_
    | ((first | refine vgd_go ?_ | refine ev_region hE hM (hS (by decide +kernel)) ?_ | refine ev_if ?_ | refine end_ret hE rfl rfl ?_ | refine end_norm hE rfl rfl ?_ | refine endG_ret [] hE rfl ?_ | refine endG_norm [] hE rfl ?_ | refine vcallB_of hP (s_toInt64S _ hw.1) ?_ | refine vcallB_of hP (s_toInt64S _ hw.2) ?_ | refine vcall_A ?_); simp (maxSteps := 2000000) only [go_sem, hP, ↓reduceIte, Nat.reduceAdd, Nat.reduceMul, Nat.reduceEqDiff, Nat.reduceSub, Nat.reduceLeDiff, reduceCtorEq])
    | refine ev_skip ?_ | refine ev_block ?_ | refine ev_blk ?_ | refine ev_ret ?_ | refine ev_exit ?_ | refine evx_code_ret ?_ | refine evx_blk_ret ?_ | refine evx_lp_ret ?_
    | refine evx_code_exit ?_ | refine evx_lp_exit ?_ | refine evx_blk_hit ?_ | refine evx_blk_pass (by decide) ?_
    | refine And.intro ?_ ?_ | intro _ | decide +kernel | omega)
theorem s_eqRect (a b : Rect) : Sat Try.prog 71 [aR a, aR b] true (rB (decide (a = b))) := by
  refine sat_walk (fn := Try.f71) rfl rfl rfl (Nat.le_of_ble_eq_true rfl) fun fr hP hN hbnd => ?_
  have hE : (envOf fr Try.prog).Ok := envOf_ok hP
  have hM := follows_of hP
  have hS : ∀ {draw ops}, statB Try.f71.ntmps draw ops = true → statB (envOf fr Try.prog).fr.N draw ops = true := fun h => by rw [envOf_fr, hN]; exact h
  repeat' (first
    | exact True.intro
    | refine ev_seq ?_
    | ((first | refine vgd_go ?_ | refine ev_region hE hM (hS (by decide +kernel)) ?_ | refine ev_if ?_ | refine end_ret hE rfl rfl ?_ | refine end_norm hE rfl rfl ?_ | refine endG_ret [] hE rfl ?_ | refine endG_norm [] hE rfl ?_ | refine vcallB_of hP (s_eqInt64S _ _) ?_ | refine vcall_A ?_); simp (maxSteps := 2000000) only [go_sem, hP, ↓reduceIte, Nat.reduceAdd, Nat.reduceMul, Nat.reduceEqDiff, Nat.reduceSub, Nat.reduceLeDiff, reduceCtorEq])
    | refine ev_skip ?_ | refine ev_block ?_ | refine ev_blk ?_ | refine ev_ret ?_ | refine ev_exit ?_ | refine evx_code_ret ?_ | refine evx_blk_ret ?_ | refine evx_lp_ret ?_
    | refine evx_code_exit ?_ | refine evx_lp_exit ?_ | refine evx_blk_hit ?_ | refine evx_blk_pass (by decide) ?_
    | refine And.intro ?_ ?_ | intro _ | decide +kernel | omega)
  all_goals simp_all [eqR]
theorem shp_R {n t : Nat} {cs : List C} (ht : (Try.prog.underlying t).bind fieldTs = some [23, 23]) (h : shp Try.prog (n + 3) t cs) : ∃ r, cs = cR r := by
  obtain ⟨x, y, rfl, h1, z, w, rfl, h2, rfl⟩ := shp_struct ht h
  obtain ⟨xs, rfl, _⟩ := shp_ints (n := n) (e := 2) rfl rfl rfl h1
  obtain ⟨ys, rfl, _⟩ := shp_ints (n := n) (e := 2) rfl rfl rfl h2
  exact ⟨⟨xs, ys⟩, rfl⟩
/-- The weights of all of a list. -/
def sumW {α : Type} (w : α → Nat) (xs : List α) : Nat := (xs.map w).sum
theorem sumW_step {α : Type} {w : α → Nat} {xs : List α} {k : Nat} {d : α} (h : k < xs.length) : sumW w (xs.take (k + 1)) = sumW w (xs.take k) + w (xs.getD k d) := by
  unfold sumW; rw [take_step (d := d) h]; simp
theorem sumW_le {α : Type} {w : α → Nat} {xs : List α} (k : Nat) : sumW w (xs.take k) ≤ sumW w xs := by
  unfold sumW
  conv => rhs; rw [← List.take_append_drop k xs]
  rw [List.map_append, List.sum_append]; omega
theorem sumW_get {α : Type} {w : α → Nat} {xs : List α} {k : Nat} {d : α} (h : k < xs.length) : w (xs.getD k d) ≤ sumW w xs := by
  have h1 := sumW_step (w := w) (d := d) h
  have h2 := sumW_le (w := w) (xs := xs) (k + 1)
  omega
theorem sumW_done {α : Type} {w : α → Nat} {xs : List α} {k : Nat} (h : xs.length ≤ k) : sumW w (xs.take k) = sumW w xs := by rw [List.take_of_length_le h]
@[simp] theorem sumW_nil {α : Type} {w : α → Nat} : sumW w [] = 0 := rfl
theorem sumW_zero {α : Type} {w : α → Nat} {xs : List α} : sumW w (xs.take 0) = 0 := rfl
structure Pair where
  id : Int
  rect : Rect
  deriving DecidableEq, Inhabited
def eP (p : Pair) : List C := [.int .i64 p.id, sI p.rect.low, sI p.rect.high]
def oP (p : Pair) : List C := [.int .i64 p.id, oI p.rect.low, oI p.rect.high]
@[go_sem] theorem eP_eq (p : Pair) : eP p = [.int .i64 p.id, sI p.rect.low, sI p.rect.high] := rfl
@[go_sem] theorem oP_eq (p : Pair) : oP p = [.int .i64 p.id, oI p.rect.low, oI p.rect.high] := rfl
theorem stripC_oP (p : Pair) : Cs.strip (oP p) = eP p := by simp [oP, eP, Cs.strip, C.strip, strip_eI]
theorem stripC_eP (p : Pair) : Cs.strip (eP p) = eP p := by simp [eP, Cs.strip, C.strip, strip_eI]
@[go_sem] theorem strip_oP (xs : List Pair) : Es.strip (xs.map oP) = xs.map eP := by rw [Es.strip_map]; simp [Function.comp_def, stripC_oP]
@[go_sem] theorem strip_eP (xs : List Pair) : Es.strip (xs.map eP) = xs.map eP := by rw [Es.strip_map]; simp [Function.comp_def, stripC_eP]
@[go_sem] abbrev aP (p : Pair) : Arg := .d (true, eP p)
@[go_sem] abbrev rP (p : Pair) : List Dat := [(true, oP p)]
@[go_sem] abbrev sP (xs : List Pair) : C := .sl none 3 (xs.map eP)
@[go_sem] abbrev oPs (xs : List Pair) : C := .sl (some 94) 3 (xs.map oP)
@[go_sem] abbrev aPs (xs : List Pair) : Arg := .d (false, [sP xs])
@[go_sem] abbrev rPs (xs : List Pair) : List Dat := [(false, [oPs xs])]
theorem bndPs {xs : List Pair} {gs : List Arg} (h : Args.bnd (aPs xs :: gs)) : xs.length ≤ maxLen ∧ ∀ p ∈ xs, p.rect.low.length ≤ maxLen ∧ p.rect.high.length ≤ maxLen := by
  have h1 := h.1.1.1
  have h2 := h.1.1.2
  rw [Es.bnd_map] at h2
  refine ⟨by rwa [List.length_map] at h1, fun p hp => ?_⟩
  have := h2 p hp
  simp only [eP, Cs.bnd, C.bnd, List.length_map, true_and, and_true] at this
  exact ⟨this.1.1, this.2.1⟩
theorem eqP (a b : Pair) : a = b ↔ a.id = b.id ∧ a.rect = b.rect := by cases a; cases b; simp
def wPs (xs : List Pair) : Nat := xs.length + sumW (fun p => wR p.rect) xs
theorem s_toPair (p : Pair) (h : wR p.rect ≤ 1048576) : Sat Try.prog 45 [aP p] true (rP p) := by
  refine sat_walk (fn := Try.f45) rfl rfl rfl (Nat.le_of_ble_eq_true rfl) fun fr hP hN hbnd => ?_
  have hE : (envOf fr Try.prog).Ok := envOf_ok hP
  have hM := follows_of hP
  have hS : ∀ {draw ops}, statB Try.f45.ntmps draw ops = true → statB (envOf fr Try.prog).fr.N draw ops = true := fun h => by rw [envOf_fr, hN]; exact h
  repeat' (first
    | exact True.intro
    | refine ev_seq ?_
    | ((first | refine vgd_go ?_ | refine ev_region hE hM (hS (by decide +kernel)) ?_ | refine ev_if ?_ | refine end_ret hE rfl rfl ?_ | refine end_norm hE rfl rfl ?_ | refine endG_ret [] hE rfl ?_ | refine endG_norm [] hE rfl ?_ | refine vcallB_of hP (s_toRect _ h) ?_ | refine vcall_A ?_); simp (maxSteps := 2000000) only [go_sem, hP, ↓reduceIte, Nat.reduceAdd, Nat.reduceMul, Nat.reduceEqDiff, Nat.reduceSub, Nat.reduceLeDiff, reduceCtorEq])
    | refine ev_skip ?_ | refine ev_block ?_ | refine ev_blk ?_ | refine ev_ret ?_ | refine ev_exit ?_ | refine evx_code_ret ?_ | refine evx_blk_ret ?_ | refine evx_lp_ret ?_
    | refine evx_code_exit ?_ | refine evx_lp_exit ?_ | refine evx_blk_hit ?_ | refine evx_blk_pass (by decide) ?_
    | refine And.intro ?_ ?_ | intro _ | decide +kernel | omega)
theorem s_toPairS (xs : List Pair) (h : wPs xs ≤ 1048576) : Sat Try.prog 44 [aPs xs] true (rPs xs) := by
  refine sat_walk (fn := Try.f44) rfl rfl rfl (Nat.le_of_ble_eq_true rfl) fun fr hP hN hbnd => ?_
  have hE : (envOf fr Try.prog).Ok := envOf_ok hP
  have hM := follows_of hP
  have hS : ∀ {draw ops}, statB Try.f44.ntmps draw ops = true → statB (envOf fr Try.prog).fr.N draw ops = true := fun h => by rw [envOf_fr, hN]; exact h
  have hx : xs.length ≤ 1048576 := by unfold wPs at h; omega
  have hw : ∀ k, k < xs.length → wR (xs.getD k default).rect ≤ 1048576 := fun k hk => by
    have := sumW_get (w := fun p : Pair => wR p.rect) (d := default) hk; unfold wPs at h; omega
  repeat' (first
    | exact True.intro
    | refine ev_seq ?_
    | ((first | refine vgd_go ?_ | refine ev_region hE hM (hS (by decide +kernel)) ?_ | refine ev_if ?_ | refine end_ret hE rfl rfl ?_ | refine end_norm hE rfl rfl ?_ | refine endG_ret [] hE rfl ?_ | refine endG_norm [] hE rfl ?_ | refine vcall_A ?_); simp (maxSteps := 2000000) only [go_sem, hP, ↓reduceIte, Nat.reduceAdd, Nat.reduceMul, Nat.reduceEqDiff, Nat.reduceSub, Nat.reduceLeDiff, reduceCtorEq])
    | refine ev_skip ?_ | refine ev_block ?_ | refine ev_blk ?_ | refine ev_ret ?_ | refine ev_exit ?_ | refine evx_code_ret ?_ | refine evx_blk_ret ?_ | refine evx_lp_ret ?_
    | refine evx_code_exit ?_ | refine evx_lp_exit ?_ | refine evx_blk_hit ?_ | refine evx_blk_pass (by decide) ?_
    | refine And.intro ?_ ?_ | intro _ | decide +kernel | omega)
  refine ev_loop (ι := Nat) (fun k => [(0, .c (sP xs)), (3, .ref 4112), (4, .c (.int .i64 k))]) (fun k => [(4112, .arr true 94 3 ((mix xs ⟨0, [], []⟩ k).map oP))]) (fun _ => []) (fun k => k ≤ xs.length) (fun k => xs.length - k) 0 [] (by simp) (by simp only [go_sem, hP, ↓reduceIte, Nat.reduceAdd, Nat.reduceMul, Nat.reduceEqDiff, Nat.reduceSub, Nat.reduceLeDiff, reduceCtorEq]; simp [mix_zero, oP]) ?_
  intro k hk
  repeat' (first
    | exact True.intro
    | refine ev_seq ?_
    | ((first | refine vgd_go ?_ | refine ev_region hE hM (hS (by decide +kernel)) ?_ | refine ev_if ?_ | refine end_ret hE rfl rfl ?_ | refine end_norm hE rfl rfl ?_ | refine endG_ret [] hE rfl ?_ | refine endG_norm [] hE rfl ?_ | refine vcallB_of hP (s_toPair ⟨(xs.getD k default).id, (xs.getD k default).rect⟩ (hw k (by omega))) ?_ | refine vcall_A ?_); simp (maxSteps := 2000000) only [go_sem, hP, ↓reduceIte, Nat.reduceAdd, Nat.reduceMul, Nat.reduceEqDiff, Nat.reduceSub, Nat.reduceLeDiff, reduceCtorEq, mix_length hk])
    | refine ev_skip ?_ | refine ev_block ?_ | refine ev_blk ?_ | refine ev_ret ?_ | refine ev_exit ?_ | refine evx_code_ret ?_ | refine evx_blk_ret ?_ | refine evx_lp_ret ?_
    | refine evx_code_exit ?_ | refine evx_lp_exit ?_ | refine evx_blk_hit ?_ | refine evx_blk_pass (by decide) ?_
    | refine And.intro ?_ ?_ | intro _ | decide +kernel | omega)
  · exact ev_lp (k + 1) [] (by omega) (by omega) (by simp only [go_sem, hP, ↓reduceIte, Nat.reduceAdd, Nat.reduceMul, Nat.reduceEqDiff, Nat.reduceSub, Nat.reduceLeDiff, reduceCtorEq]; simp; exact ⟨wrap_succ (by omega) hx, mix_set_map (f := oP) (by omega)⟩)
  · rw [mix_full (by omega)]
theorem s_szPair (p : Pair) (left : Int) (h0 : 0 ≤ left) (h1 : left ≤ 1048576) : Sat Try.prog 42 [aP p, aI left] true (rI (lessN (wR p.rect) left)) := by
  refine sat_walk (fn := Try.f42) rfl rfl rfl (Nat.le_of_ble_eq_true rfl) fun fr hP hN hbnd => ?_
  have hE : (envOf fr Try.prog).Ok := envOf_ok hP
  have hM := follows_of hP
  have hS : ∀ {draw ops}, statB Try.f42.ntmps draw ops = true → statB (envOf fr Try.prog).fr.N draw ops = true := fun h => by rw [envOf_fr, hN]; exact h
  repeat' (first
    | exact True.intro
    | refine ev_seq ?_
    | ((first | refine vgd_go ?_ | refine ev_region hE hM (hS (by decide +kernel)) ?_ | refine ev_if ?_ | refine end_ret hE rfl rfl ?_ | refine end_norm hE rfl rfl ?_ | refine endG_ret [] hE rfl ?_ | refine endG_norm [] hE rfl ?_ | refine vcallB_of hP (s_szRect p.rect _ h0 h1) ?_ | refine vcall_A ?_); simp (maxSteps := 2000000) only [go_sem, hP, ↓reduceIte, Nat.reduceAdd, Nat.reduceMul, Nat.reduceEqDiff, Nat.reduceSub, Nat.reduceLeDiff, reduceCtorEq])
    | refine ev_skip ?_ | refine ev_block ?_ | refine ev_blk ?_ | refine ev_ret ?_ | refine ev_exit ?_ | refine evx_code_ret ?_ | refine evx_blk_ret ?_ | refine evx_lp_ret ?_
    | refine evx_code_exit ?_ | refine evx_lp_exit ?_ | refine evx_blk_hit ?_ | refine evx_blk_pass (by decide) ?_
    | refine And.intro ?_ ?_ | intro _ | decide +kernel | omega)
  all_goals simp_all only [lessN]
  all_goals omega
theorem s_szPairS (xs : List Pair) (left : Int) (h0 : 0 ≤ left) (h1 : left ≤ 1048576) : Sat Try.prog 41 [aPs xs, aI left] true (rI (lessN (wPs xs) left)) := by
  refine sat_walk (fn := Try.f41) rfl rfl rfl (Nat.le_of_ble_eq_true rfl) fun fr hP hN hbnd => ?_
  have hE : (envOf fr Try.prog).Ok := envOf_ok hP
  have hM := follows_of hP
  have hS : ∀ {draw ops}, statB Try.f41.ntmps draw ops = true → statB (envOf fr Try.prog).fr.N draw ops = true := fun h => by rw [envOf_fr, hN]; exact h
  have hlen := (bndPs hbnd).1
  have hm : maxLen = 9223372036854775807 := rfl
  have hw : IntKind.i64.wrap (left - xs.length) = left - xs.length := i64_in _ (by omega)
  repeat' (first
    | exact True.intro
    | refine ev_seq ?_
    | ((first | refine vgd_go ?_ | refine ev_region hE hM (hS (by decide +kernel)) ?_ | refine ev_if ?_ | refine end_ret hE rfl rfl ?_ | refine end_norm hE rfl rfl ?_ | refine endG_ret [] hE rfl ?_ | refine endG_norm [] hE rfl ?_ | refine vcall_A ?_); simp (maxSteps := 2000000) only [go_sem, hP, ↓reduceIte, Nat.reduceAdd, Nat.reduceMul, Nat.reduceEqDiff, Nat.reduceSub, Nat.reduceLeDiff, reduceCtorEq, hw])
    | refine ev_skip ?_ | refine ev_block ?_ | refine ev_blk ?_ | refine ev_ret ?_ | refine ev_exit ?_ | refine evx_code_ret ?_ | refine evx_blk_ret ?_ | refine evx_lp_ret ?_
    | refine evx_code_exit ?_ | refine evx_lp_exit ?_ | refine evx_blk_hit ?_ | refine evx_blk_pass (by decide) ?_
    | refine And.intro ?_ ?_ | intro _ | decide +kernel | omega)
  · rename_i h; simp only [lessN, wPs] at *; omega
  rename_i h
  refine ev_loop (ι := Nat) (fun k => [(0, .c (sP xs)), (1, .c (.int .i64 (left - xs.length - sumW (fun p => wR p.rect) (xs.take k)))), (5, .c (.int .i64 k))]) (fun k => []) (fun _ => []) (fun k => k ≤ xs.length ∧ (0 : Int) ≤ left - xs.length - sumW (fun p => wR p.rect) (xs.take k)) (fun k => xs.length - k) 0 [] (by simp [allLt_zero] <;> omega) (by simp only [go_sem, hP, ↓reduceIte, Nat.reduceAdd, Nat.reduceMul, Nat.reduceEqDiff, Nat.reduceSub, Nat.reduceLeDiff, reduceCtorEq]; simp) ?_
  intro k hk
  have hstep := fun h : k < xs.length => sumW_step (w := fun p : Pair => wR p.rect) (d := default) h
  have hle := sumW_le (w := fun p : Pair => wR p.rect) (xs := xs) (k + 1)
  repeat' (first
    | exact True.intro
    | refine ev_seq ?_
    | ((first | refine vgd_go ?_ | refine ev_region hE hM (hS (by decide +kernel)) ?_ | refine ev_if ?_ | refine end_ret hE rfl rfl ?_ | refine end_norm hE rfl rfl ?_ | refine endG_ret [] hE rfl ?_ | refine endG_norm [] hE rfl ?_ | refine vcallB_of hP (s_szPair (xs.getD k default) _ hk.2 (by omega)) ?_ | refine vcall_A ?_); simp (maxSteps := 2000000) only [go_sem, hP, ↓reduceIte, Nat.reduceAdd, Nat.reduceMul, Nat.reduceEqDiff, Nat.reduceSub, Nat.reduceLeDiff, reduceCtorEq])
    | refine ev_skip ?_ | refine ev_block ?_ | refine ev_blk ?_ | refine ev_ret ?_ | refine ev_exit ?_ | refine evx_code_ret ?_ | refine evx_blk_ret ?_ | refine evx_lp_ret ?_
    | refine evx_code_exit ?_ | refine evx_lp_exit ?_ | refine evx_blk_hit ?_ | refine evx_blk_pass (by decide) ?_
    | refine And.intro ?_ ?_ | intro _ | decide +kernel | omega)
  · have := hstep (by omega)
    simp only [lessN, wPs] at *; omega
  · rename_i hk1 hk2
    have h8 := hstep (by omega)
    have h9 : lessN (wR (xs.getD k default).rect) (left - xs.length - sumW (fun p => wR p.rect) (xs.take k)) = left - xs.length - sumW (fun p => wR p.rect) (xs.take (k + 1)) := by simp only [lessN] at *; omega
    refine ev_lp (k + 1) [] ⟨by omega, by rw [← h9]; omega⟩ (by omega) (by simp only [go_sem, hP, ↓reduceIte, Nat.reduceAdd, Nat.reduceMul, Nat.reduceEqDiff, Nat.reduceSub, Nat.reduceLeDiff, reduceCtorEq, h9]; simp; exact wrap_nat (by omega) hlen)
  · rw [sumW_done (by omega)] at hk ⊢
    simp only [lessN, wPs] at *; omega
theorem s_eqPair (a b : Pair) : Sat Try.prog 49 [aP a, aP b] true (rB (decide (a = b))) := by
  refine sat_walk (fn := Try.f49) rfl rfl rfl (Nat.le_of_ble_eq_true rfl) fun fr hP hN hbnd => ?_
  have hE : (envOf fr Try.prog).Ok := envOf_ok hP
  have hM := follows_of hP
  have hS : ∀ {draw ops}, statB Try.f49.ntmps draw ops = true → statB (envOf fr Try.prog).fr.N draw ops = true := fun h => by rw [envOf_fr, hN]; exact h
  repeat' (first
    | exact True.intro
    | refine ev_seq ?_
    | ((first | refine vgd_go ?_ | refine ev_region hE hM (hS (by decide +kernel)) ?_ | refine ev_if ?_ | refine end_ret hE rfl rfl ?_ | refine end_norm hE rfl rfl ?_ | refine endG_ret [] hE rfl ?_ | refine endG_norm [] hE rfl ?_ | refine vcallB_of hP (s_eqRect a.rect b.rect) ?_ | refine vcall_A ?_); simp (maxSteps := 2000000) only [go_sem, hP, ↓reduceIte, Nat.reduceAdd, Nat.reduceMul, Nat.reduceEqDiff, Nat.reduceSub, Nat.reduceLeDiff, reduceCtorEq])
    | refine ev_skip ?_ | refine ev_block ?_ | refine ev_blk ?_ | refine ev_ret ?_ | refine ev_exit ?_ | refine evx_code_ret ?_ | refine evx_blk_ret ?_ | refine evx_lp_ret ?_
    | refine evx_code_exit ?_ | refine evx_lp_exit ?_ | refine evx_blk_hit ?_ | refine evx_blk_pass (by decide) ?_
    | refine And.intro ?_ ?_ | intro _ | decide +kernel | omega)
  all_goals simp_all [eqP]
theorem s_eqPairS (xs ys : List Pair) : Sat Try.prog 48 [aPs xs, aPs ys] true (rB (decide (xs = ys))) := by
  refine sat_walk (fn := Try.f48) rfl rfl rfl (Nat.le_of_ble_eq_true rfl) fun fr hP hN hbnd => ?_
  have hE : (envOf fr Try.prog).Ok := envOf_ok hP
  have hM := follows_of hP
  have hS : ∀ {draw ops}, statB Try.f48.ntmps draw ops = true → statB (envOf fr Try.prog).fr.N draw ops = true := fun h => by rw [envOf_fr, hN]; exact h
  have hlen := (bndPs hbnd).1
  repeat' (first
    | exact True.intro
    | refine ev_seq ?_
    | ((first | refine vgd_go ?_ | refine ev_region hE hM (hS (by decide +kernel)) ?_ | refine ev_if ?_ | refine end_ret hE rfl rfl ?_ | refine end_norm hE rfl rfl ?_ | refine endG_ret [] hE rfl ?_ | refine endG_norm [] hE rfl ?_ | refine vcall_A ?_); simp (maxSteps := 2000000) only [go_sem, hP, ↓reduceIte, Nat.reduceAdd, Nat.reduceMul, Nat.reduceEqDiff, Nat.reduceSub, Nat.reduceLeDiff, reduceCtorEq])
    | refine ev_skip ?_ | refine ev_block ?_ | refine ev_blk ?_ | refine ev_ret ?_ | refine ev_exit ?_ | refine evx_code_ret ?_ | refine evx_blk_ret ?_ | refine evx_lp_ret ?_
    | refine evx_code_exit ?_ | refine evx_lp_exit ?_ | refine evx_blk_hit ?_ | refine evx_blk_pass (by decide) ?_
    | refine And.intro ?_ ?_ | intro _ | decide +kernel | omega)
  · rename_i h; simp at h; simp; rintro rfl; exact h rfl
  rename_i h; simp at h
  refine ev_loop (ι := Nat) (fun k => [(0, .c (sP xs)), (1, .c (sP ys)), (5, .c (.int .i64 k))]) (fun k => []) (fun _ => []) (fun k => k ≤ xs.length ∧ xs.take k = ys.take k) (fun k => xs.length - k) 0 [] (by simp [allLt_zero] <;> omega) (by simp only [go_sem, hP, ↓reduceIte, Nat.reduceAdd, Nat.reduceMul, Nat.reduceEqDiff, Nat.reduceSub, Nat.reduceLeDiff, reduceCtorEq]; simp) ?_
  intro k hk
  repeat' (first
    | exact True.intro
    | refine ev_seq ?_
    | ((first | refine vgd_go ?_ | refine ev_region hE hM (hS (by decide +kernel)) ?_ | refine ev_if ?_ | refine end_ret hE rfl rfl ?_ | refine end_norm hE rfl rfl ?_ | refine endG_ret [] hE rfl ?_ | refine endG_norm [] hE rfl ?_ | refine vcallB_of hP (s_eqPair (xs.getD k default) (ys.getD k default)) ?_ | refine vcall_A ?_); simp (maxSteps := 2000000) only [go_sem, hP, ↓reduceIte, Nat.reduceAdd, Nat.reduceMul, Nat.reduceEqDiff, Nat.reduceSub, Nat.reduceLeDiff, reduceCtorEq])
    | refine ev_skip ?_ | refine ev_block ?_ | refine ev_blk ?_ | refine ev_ret ?_ | refine ev_exit ?_ | refine evx_code_ret ?_ | refine evx_blk_ret ?_ | refine evx_lp_ret ?_
    | refine evx_code_exit ?_ | refine evx_lp_exit ?_ | refine evx_blk_hit ?_ | refine evx_blk_pass (by decide) ?_
    | refine And.intro ?_ ?_ | intro _ | decide +kernel | omega)
  · rename_i h3; simp at h3; simp; exact eq_not (by simpa using h3)
  · rename_i h3 h4; simp at h4
    exact ev_lp (k + 1) [] ⟨by omega, eq_step (d := default) (e := default) (by omega) (by omega) hk.2 (by simpa using h4)⟩ (by omega) (by simp only [go_sem, hP, ↓reduceIte, Nat.reduceAdd, Nat.reduceMul, Nat.reduceEqDiff, Nat.reduceSub, Nat.reduceLeDiff, reduceCtorEq]; simp; exact wrap_nat (by omega) hlen)
  · simp; exact eq_done (by omega) (by omega) hk.2
theorem shp_P {n t : Nat} {cs : List C} (ht : (Try.prog.underlying t).bind fieldTs = some [2, 84]) (h : shp Try.prog (n + 5) t cs) : ∃ p, cs = eP p := by
  obtain ⟨x, y, rfl, h1, z, w, rfl, h2, rfl⟩ := shp_struct ht h
  obtain ⟨i, rfl, _⟩ := shp_i64 (n := n + 3) rfl h1
  obtain ⟨r, rfl⟩ := shp_R (n := n + 1) rfl h2
  exact ⟨⟨i, r⟩, rfl⟩
theorem shp_Ps {n t : Nat} {cs : List C} (ht : Try.prog.underlying t = some (.slice 86)) (h : shp Try.prog (n + 6) t cs) : ∃ xs, cs = [sP xs] := by
  obtain ⟨xs, rfl, _⟩ := shp_rows (f := eP) (q := fun _ => True) (sz := 3) ht rfl (fun x hx => by obtain ⟨p, rfl⟩ := shp_P (n := n) rfl hx; exact ⟨p, rfl, trivial⟩) h
  exact ⟨xs, rfl⟩
def eB (b : Bool) : List C := [.bool b]
@[go_sem] theorem eB_eq (b : Bool) : eB b = [.bool b] := rfl
@[go_sem] abbrev sB (xs : List Bool) : C := .sl none 1 (xs.map eB)
@[go_sem] abbrev oB (xs : List Bool) : C := .sl (some 4) 1 (xs.map eB)
@[go_sem] theorem strip_eB (xs : List Bool) : Es.strip (xs.map eB) = xs.map eB := by rw [Es.strip_map]; simp [Function.comp_def, eB, Cs.strip, C.strip]
theorem shp_bools {n t : Nat} {cs : List C} (ht : Try.prog.underlying t = some (.slice 4)) (h : shp Try.prog (n + 2) t cs) : ∃ xs : List Bool, cs = [sB xs] := by
  obtain ⟨xs, rfl, _, _⟩ := shp_rows (f := eB) (q := fun _ => True) ht rfl (fun x hx => let ⟨b, hb⟩ := shp_bool rfl hx; ⟨b, hb, trivial⟩) h
  exact ⟨xs, rfl⟩
@[go_sem] abbrev aB (xs : List Bool) : Arg := .d (false, [sB xs])
@[go_sem] abbrev rBs (xs : List Bool) : List Dat := [(false, [oB xs])]
theorem bndB {xs : List Bool} {gs : List Arg} (h : Args.bnd (aB xs :: gs)) : xs.length ≤ maxLen := by
  have := h.1.1.1; rwa [List.length_map] at this
theorem s_toBoolS (xs : List Bool) (hx : xs.length ≤ 1048576) : Sat Try.prog 100 [aB xs] true (rBs xs) := by
  refine sat_walk (fn := Try.f100) rfl rfl rfl (Nat.le_of_ble_eq_true rfl) fun fr hP hN hbnd => ?_
  have hE : (envOf fr Try.prog).Ok := envOf_ok hP
  have hM := follows_of hP
  have hS : ∀ {draw ops}, statB Try.f100.ntmps draw ops = true → statB (envOf fr Try.prog).fr.N draw ops = true := fun h => by rw [envOf_fr, hN]; exact h
  repeat' (first
    | exact True.intro
    | refine ev_seq ?_
    | ((first | refine vgd_go ?_ | refine ev_region hE hM (hS (by decide +kernel)) ?_ | refine ev_if ?_ | refine end_ret hE rfl rfl ?_ | refine end_norm hE rfl rfl ?_ | refine endG_ret [] hE rfl ?_ | refine endG_norm [] hE rfl ?_ | refine vcall_A ?_); simp (maxSteps := 2000000) only [go_sem, hP, ↓reduceIte, Nat.reduceAdd, Nat.reduceMul, Nat.reduceEqDiff, Nat.reduceSub, Nat.reduceLeDiff, reduceCtorEq])
    | refine ev_skip ?_ | refine ev_block ?_ | refine ev_blk ?_ | refine ev_ret ?_ | refine ev_exit ?_ | refine evx_code_ret ?_ | refine evx_blk_ret ?_ | refine evx_lp_ret ?_
    | refine evx_code_exit ?_ | refine evx_lp_exit ?_ | refine evx_blk_hit ?_ | refine evx_blk_pass (by decide) ?_
    | refine And.intro ?_ ?_ | intro _ | decide +kernel | omega)
  refine ev_loop (ι := Nat) (fun k => [(0, .c (sB xs)), (3, .ref 4112), (4, .c (.int .i64 k))]) (fun k => [(4112, .arr true 4 1 ((mix xs false k).map eB))]) (fun _ => []) (fun k => k ≤ xs.length) (fun k => xs.length - k) 0 [] (by simp) (by simp only [go_sem, hP, ↓reduceIte, Nat.reduceAdd, Nat.reduceMul, Nat.reduceEqDiff, Nat.reduceSub, Nat.reduceLeDiff, reduceCtorEq]; simp [mix_zero, eB]) ?_
  intro k hk
  repeat' (first
    | exact True.intro
    | refine ev_seq ?_
    | ((first | refine vgd_go ?_ | refine ev_region hE hM (hS (by decide +kernel)) ?_ | refine ev_if ?_ | refine end_ret hE rfl rfl ?_ | refine end_norm hE rfl rfl ?_ | refine endG_ret [] hE rfl ?_ | refine endG_norm [] hE rfl ?_ | refine vcall_A ?_); simp (maxSteps := 2000000) only [go_sem, hP, ↓reduceIte, Nat.reduceAdd, Nat.reduceMul, Nat.reduceEqDiff, Nat.reduceSub, Nat.reduceLeDiff, reduceCtorEq, mix_length hk])
    | refine ev_skip ?_ | refine ev_block ?_ | refine ev_blk ?_ | refine ev_ret ?_ | refine ev_exit ?_ | refine evx_code_ret ?_ | refine evx_blk_ret ?_ | refine evx_lp_ret ?_
    | refine evx_code_exit ?_ | refine evx_lp_exit ?_ | refine evx_blk_hit ?_ | refine evx_blk_pass (by decide) ?_
    | refine And.intro ?_ ?_ | intro _ | decide +kernel | omega)
  · exact ev_lp (k + 1) [] (by omega) (by omega) (by simp only [go_sem, hP, ↓reduceIte, Nat.reduceAdd, Nat.reduceMul, Nat.reduceEqDiff, Nat.reduceSub, Nat.reduceLeDiff, reduceCtorEq]; simp; exact ⟨wrap_succ (by omega) hx, mix_set_map (f := eB) (by omega)⟩)
  · rw [mix_full (by omega)]
theorem s_eqBoolS (xs ys : List Bool) : Sat Try.prog 103 [aB xs, aB ys] true (rB (decide (xs = ys))) := by
  refine sat_walk (fn := Try.f103) rfl rfl rfl (Nat.le_of_ble_eq_true rfl) fun fr hP hN hbnd => ?_
  have hE : (envOf fr Try.prog).Ok := envOf_ok hP
  have hM := follows_of hP
  have hS : ∀ {draw ops}, statB Try.f103.ntmps draw ops = true → statB (envOf fr Try.prog).fr.N draw ops = true := fun h => by rw [envOf_fr, hN]; exact h
  have hlen := bndB hbnd
  repeat' (first
    | exact True.intro
    | refine ev_seq ?_
    | ((first | refine vgd_go ?_ | refine ev_region hE hM (hS (by decide +kernel)) ?_ | refine ev_if ?_ | refine end_ret hE rfl rfl ?_ | refine end_norm hE rfl rfl ?_ | refine endG_ret [] hE rfl ?_ | refine endG_norm [] hE rfl ?_ | refine vcall_A ?_); simp (maxSteps := 2000000) only [go_sem, hP, ↓reduceIte, Nat.reduceAdd, Nat.reduceMul, Nat.reduceEqDiff, Nat.reduceSub, Nat.reduceLeDiff, reduceCtorEq])
    | refine ev_skip ?_ | refine ev_block ?_ | refine ev_blk ?_ | refine ev_ret ?_ | refine ev_exit ?_ | refine evx_code_ret ?_ | refine evx_blk_ret ?_ | refine evx_lp_ret ?_
    | refine evx_code_exit ?_ | refine evx_lp_exit ?_ | refine evx_blk_hit ?_ | refine evx_blk_pass (by decide) ?_
    | refine And.intro ?_ ?_ | intro _ | decide +kernel | omega)
  · rename_i h; simp at h; simp; rintro rfl; exact h rfl
  rename_i h; simp at h
  refine ev_loop (ι := Nat) (fun k => [(0, .c (sB xs)), (1, .c (sB ys)), (5, .c (.int .i64 k))]) (fun k => []) (fun _ => []) (fun k => k ≤ xs.length ∧ xs.take k = ys.take k) (fun k => xs.length - k) 0 [] (by simp) (by simp only [go_sem, hP, ↓reduceIte, Nat.reduceAdd, Nat.reduceMul, Nat.reduceEqDiff, Nat.reduceSub, Nat.reduceLeDiff, reduceCtorEq]; simp) ?_
  intro k hk
  repeat' (first
    | exact True.intro
    | refine ev_seq ?_
    | ((first | refine vgd_go ?_ | refine ev_region hE hM (hS (by decide +kernel)) ?_ | refine ev_if ?_ | refine end_ret hE rfl rfl ?_ | refine end_norm hE rfl rfl ?_ | refine endG_ret [] hE rfl ?_ | refine endG_norm [] hE rfl ?_ | refine vcall_A ?_); simp (maxSteps := 2000000) only [go_sem, hP, ↓reduceIte, Nat.reduceAdd, Nat.reduceMul, Nat.reduceEqDiff, Nat.reduceSub, Nat.reduceLeDiff, reduceCtorEq])
    | refine ev_skip ?_ | refine ev_block ?_ | refine ev_blk ?_ | refine ev_ret ?_ | refine ev_exit ?_ | refine evx_code_ret ?_ | refine evx_blk_ret ?_ | refine evx_lp_ret ?_
    | refine evx_code_exit ?_ | refine evx_lp_exit ?_ | refine evx_blk_hit ?_ | refine evx_blk_pass (by decide) ?_
    | refine And.intro ?_ ?_ | intro _ | decide +kernel | omega)
  all_goals first
    | exact ev_lp (k + 1) [] ⟨by omega, eq_step (d := default) (e := default) (by omega) (by omega) hk.2 (by simp_all)⟩ (by omega) (by simp only [go_sem, hP, ↓reduceIte, Nat.reduceAdd, Nat.reduceMul, Nat.reduceEqDiff, Nat.reduceSub, Nat.reduceLeDiff, reduceCtorEq]; simp; exact wrap_nat (by omega) hlen)
    | (simp; exact eq_not (d := default) (k := k) (fun he => by simp_all); done)
    | (simp; exact eq_done (by omega) (by omega) hk.2; done)
theorem s_szBoolS (xs : List Bool) (left : Int) (h0 : 0 ≤ left) (h1 : left ≤ 1048576) : Sat Try.prog 96 [aB xs, aI left] true (rI (lessN xs.length left)) := by
  refine sat_walk (fn := Try.f96) rfl rfl rfl (Nat.le_of_ble_eq_true rfl) fun fr hP hN hbnd => ?_
  have hE : (envOf fr Try.prog).Ok := envOf_ok hP
  have hM := follows_of hP
  have hS : ∀ {draw ops}, statB Try.f96.ntmps draw ops = true → statB (envOf fr Try.prog).fr.N draw ops = true := fun h => by rw [envOf_fr, hN]; exact h
  have hlen := bndB hbnd
  have hm : maxLen = 9223372036854775807 := rfl
  have hw : IntKind.i64.wrap (left - xs.length) = left - xs.length := i64_in _ (by omega)
  repeat' (first
    | exact True.intro
    | refine ev_seq ?_
    | ((first | refine vgd_go ?_ | refine ev_region hE hM (hS (by decide +kernel)) ?_ | refine ev_if ?_ | refine end_ret hE rfl rfl ?_ | refine end_norm hE rfl rfl ?_ | refine endG_ret [] hE rfl ?_ | refine endG_norm [] hE rfl ?_ | refine vcall_A ?_); simp (maxSteps := 2000000) only [go_sem, hP, ↓reduceIte, Nat.reduceAdd, Nat.reduceMul, Nat.reduceEqDiff, Nat.reduceSub, Nat.reduceLeDiff, reduceCtorEq, hw])
    | refine ev_skip ?_ | refine ev_block ?_ | refine ev_blk ?_ | refine ev_ret ?_ | refine ev_exit ?_ | refine evx_code_ret ?_ | refine evx_blk_ret ?_ | refine evx_lp_ret ?_
    | refine evx_code_exit ?_ | refine evx_lp_exit ?_ | refine evx_blk_hit ?_ | refine evx_blk_pass (by decide) ?_
    | refine And.intro ?_ ?_ | intro _ | decide +kernel | omega)
  all_goals simp_all [lessN] <;> omega
structure Query where
  kind : Int
  rect : Rect
  point : List Int
  k : Int
  deriving DecidableEq, Inhabited
def eQuery (x : Query) : List C := [.int .i64 x.kind, sI x.rect.low, sI x.rect.high, sI x.point, .int .i64 x.k]
def oQuery (x : Query) : List C := [.int .i64 x.kind, oI x.rect.low, oI x.rect.high, oI x.point, .int .i64 x.k]
@[go_sem] theorem eQuery_eq (x : Query) : eQuery x = [.int .i64 x.kind, sI x.rect.low, sI x.rect.high, sI x.point, .int .i64 x.k] := rfl
@[go_sem] theorem oQuery_eq (x : Query) : oQuery x = [.int .i64 x.kind, oI x.rect.low, oI x.rect.high, oI x.point, .int .i64 x.k] := rfl
theorem stripC_oQuery (x : Query) : Cs.strip (oQuery x) = eQuery x := by simp [oQuery, eQuery, Cs.strip, C.strip, strip_eI]
theorem stripC_eQuery (x : Query) : Cs.strip (eQuery x) = eQuery x := by simp [eQuery, Cs.strip, C.strip, strip_eI]
@[go_sem] theorem strip_oQuery (xs : List Query) : Es.strip (xs.map oQuery) = xs.map eQuery := by rw [Es.strip_map]; simp [Function.comp_def, stripC_oQuery]
@[go_sem] theorem strip_eQuery (xs : List Query) : Es.strip (xs.map eQuery) = xs.map eQuery := by rw [Es.strip_map]; simp [Function.comp_def, stripC_eQuery]
@[go_sem] abbrev aQuery (x : Query) : Arg := .d (true, eQuery x)
@[go_sem] abbrev pQuery (x : Query) : Arg := .pv (eQuery x)
@[go_sem] abbrev rQuery (x : Query) : List Dat := [(true, oQuery x)]
theorem bnd_Query {x : Query} {gs : List Arg} (h : Args.bnd (aQuery x :: gs)) : x.rect.low.length ≤ maxLen ∧ x.rect.high.length ≤ maxLen ∧ x.point.length ≤ maxLen := by
  have h0 := h.1.2.1.1; rw [List.length_map] at h0
  have h1 := h.1.2.2.1.1; rw [List.length_map] at h1
  have h2 := h.1.2.2.2.1.1; rw [List.length_map] at h2
  exact ⟨h0, h1, h2⟩
theorem bndp_Query {x : Query} {gs : List Arg} (h : Args.bnd (pQuery x :: gs)) : x.rect.low.length ≤ maxLen ∧ x.rect.high.length ≤ maxLen ∧ x.point.length ≤ maxLen := by
  have h0 := h.1.2.1.1; rw [List.length_map] at h0
  have h1 := h.1.2.2.1.1; rw [List.length_map] at h1
  have h2 := h.1.2.2.2.1.1; rw [List.length_map] at h2
  exact ⟨h0, h1, h2⟩
theorem eqQuery (a b : Query) : a = b ↔ a.kind = b.kind ∧ a.rect = b.rect ∧ a.point = b.point ∧ a.k = b.k := by cases a; cases b; simp
def wQuery (x : Query) : Nat := wR x.rect + x.point.length
theorem s_toQuery (x : Query) (h : wQuery x ≤ 1048576) : Sat Try.prog 208 [aQuery x] true (rQuery x) := by
  refine sat_walk (fn := Try.f208) rfl rfl rfl (Nat.le_of_ble_eq_true rfl) fun fr hP hN hbnd => ?_
  have hE : (envOf fr Try.prog).Ok := envOf_ok hP
  have hM := follows_of hP
  have hS : ∀ {draw ops}, statB Try.f208.ntmps draw ops = true → statB (envOf fr Try.prog).fr.N draw ops = true := fun h => by rw [envOf_fr, hN]; exact h
  simp only [wQuery] at h
  repeat' (first
    | exact True.intro
    | refine ev_seq ?_
    | ((first | refine vgd_go ?_ | refine ev_region hE hM (hS (by decide +kernel)) ?_ | refine ev_if ?_ | refine end_ret hE rfl rfl ?_ | refine end_norm hE rfl rfl ?_ | refine endG_ret [] hE rfl ?_ | refine endG_norm [] hE rfl ?_ | refine vcallB_of hP (s_toRect x.rect (by omega)) ?_ | refine vcallB_of hP (s_toInt64S x.point (by omega)) ?_ | refine vcall_A ?_); simp (maxSteps := 2000000) only [go_sem, hP, ↓reduceIte, Nat.reduceAdd, Nat.reduceMul, Nat.reduceEqDiff, Nat.reduceSub, Nat.reduceLeDiff, reduceCtorEq])
    | refine ev_skip ?_ | refine ev_block ?_ | refine ev_blk ?_ | refine ev_ret ?_ | refine ev_exit ?_ | refine evx_code_ret ?_ | refine evx_blk_ret ?_ | refine evx_lp_ret ?_
    | refine evx_code_exit ?_ | refine evx_lp_exit ?_ | refine evx_blk_hit ?_ | refine evx_blk_pass (by decide) ?_
    | refine And.intro ?_ ?_ | intro _ | decide +kernel | omega)
theorem s_szQuery (x : Query) (left : Int) (h0 : 0 ≤ left) (h1 : left ≤ 1048576) : Sat Try.prog 206 [aQuery x, aI left] true (rI (lessN (wQuery x) left)) := by
  refine sat_walk (fn := Try.f206) rfl rfl rfl (Nat.le_of_ble_eq_true rfl) fun fr hP hN hbnd => ?_
  have hE : (envOf fr Try.prog).Ok := envOf_ok hP
  have hM := follows_of hP
  have hS : ∀ {draw ops}, statB Try.f206.ntmps draw ops = true → statB (envOf fr Try.prog).fr.N draw ops = true := fun h => by rw [envOf_fr, hN]; exact h
  repeat' (first
    | exact True.intro
    | refine ev_seq ?_
    | ((first | refine vgd_go ?_ | refine ev_region hE hM (hS (by decide +kernel)) ?_ | refine ev_if ?_ | refine end_ret hE rfl rfl ?_ | refine end_norm hE rfl rfl ?_ | refine endG_ret [] hE rfl ?_ | refine endG_norm [] hE rfl ?_ | refine vcallB_of hP (s_szRect x.rect _ (by (try simp only [lessN] at *); omega) (by (try simp only [lessN] at *); omega)) ?_ | refine vcallB_of hP (s_szInt64S x.point _ (by (try simp only [lessN] at *); omega) (by (try simp only [lessN] at *); omega)) ?_ | refine vcall_A ?_); simp (maxSteps := 2000000) only [go_sem, hP, ↓reduceIte, Nat.reduceAdd, Nat.reduceMul, Nat.reduceEqDiff, Nat.reduceSub, Nat.reduceLeDiff, reduceCtorEq])
    | refine ev_skip ?_ | refine ev_block ?_ | refine ev_blk ?_ | refine ev_ret ?_ | refine ev_exit ?_ | refine evx_code_ret ?_ | refine evx_blk_ret ?_ | refine evx_lp_ret ?_
    | refine evx_code_exit ?_ | refine evx_lp_exit ?_ | refine evx_blk_hit ?_ | refine evx_blk_pass (by decide) ?_
    | refine And.intro ?_ ?_ | intro _ | decide +kernel | omega)
  all_goals simp_all only [lessN, wQuery]
  all_goals omega
theorem s_eqQuery (a b : Query) : Sat Try.prog 209 [aQuery a, aQuery b] true (rB (decide (a = b))) := by
  refine sat_walk (fn := Try.f209) rfl rfl rfl (Nat.le_of_ble_eq_true rfl) fun fr hP hN hbnd => ?_
  have hE : (envOf fr Try.prog).Ok := envOf_ok hP
  have hM := follows_of hP
  have hS : ∀ {draw ops}, statB Try.f209.ntmps draw ops = true → statB (envOf fr Try.prog).fr.N draw ops = true := fun h => by rw [envOf_fr, hN]; exact h
  repeat' (first
    | exact True.intro
    | refine ev_seq ?_
    | ((first | refine vgd_go ?_ | refine ev_region hE hM (hS (by decide +kernel)) ?_ | refine ev_if ?_ | refine end_ret hE rfl rfl ?_ | refine end_norm hE rfl rfl ?_ | refine endG_ret [] hE rfl ?_ | refine endG_norm [] hE rfl ?_ | refine vcallB_of hP (s_eqRect a.rect b.rect) ?_ | refine vcallB_of hP (s_eqInt64S a.point b.point) ?_ | refine vcall_A ?_); simp (maxSteps := 2000000) only [go_sem, hP, ↓reduceIte, Nat.reduceAdd, Nat.reduceMul, Nat.reduceEqDiff, Nat.reduceSub, Nat.reduceLeDiff, reduceCtorEq])
    | refine ev_skip ?_ | refine ev_block ?_ | refine ev_blk ?_ | refine ev_ret ?_ | refine ev_exit ?_ | refine evx_code_ret ?_ | refine evx_blk_ret ?_ | refine evx_lp_ret ?_
    | refine evx_code_exit ?_ | refine evx_lp_exit ?_ | refine evx_blk_hit ?_ | refine evx_blk_pass (by decide) ?_
    | refine And.intro ?_ ?_ | intro _ | decide +kernel | omega)
  all_goals simp_all [eqQuery]
theorem shp_Query {n t : Nat} {cs : List C} (ht : (Try.prog.underlying t).bind fieldTs = some [2, 84, 23, 2]) (h : shp Try.prog (n + 4) t cs) : ∃ x, cs = eQuery x := by
  obtain ⟨c0, g0, rfl, h0, c1, g1, rfl, h1, c2, g2, rfl, h2, c3, g3, rfl, h3, rfl⟩ := shp_struct ht h
  obtain ⟨v0, rfl, _⟩ := shp_i64 (n := n + 2) rfl h0
  obtain ⟨v1, rfl⟩ := shp_R (n := n + 0) rfl h1
  obtain ⟨v2, rfl, _⟩ := shp_ints (n := n + 1) (e := 2) rfl rfl rfl h2
  obtain ⟨v3, rfl, _⟩ := shp_i64 (n := n + 2) rfl h3
  exact ⟨⟨v0, v1, v2, v3⟩, rfl⟩
structure Entry where
  rect : Rect
  ref : Int
  nsn : Int
  deriving DecidableEq, Inhabited
def eEntry (x : Entry) : List C := [sI x.rect.low, sI x.rect.high, .int .i64 x.ref, .int .i64 x.nsn]
def oEntry (x : Entry) : List C := [oI x.rect.low, oI x.rect.high, .int .i64 x.ref, .int .i64 x.nsn]
@[go_sem] theorem eEntry_eq (x : Entry) : eEntry x = [sI x.rect.low, sI x.rect.high, .int .i64 x.ref, .int .i64 x.nsn] := rfl
@[go_sem] theorem oEntry_eq (x : Entry) : oEntry x = [oI x.rect.low, oI x.rect.high, .int .i64 x.ref, .int .i64 x.nsn] := rfl
theorem stripC_oEntry (x : Entry) : Cs.strip (oEntry x) = eEntry x := by simp [oEntry, eEntry, Cs.strip, C.strip, strip_eI]
theorem stripC_eEntry (x : Entry) : Cs.strip (eEntry x) = eEntry x := by simp [eEntry, Cs.strip, C.strip, strip_eI]
@[go_sem] theorem strip_oEntry (xs : List Entry) : Es.strip (xs.map oEntry) = xs.map eEntry := by rw [Es.strip_map]; simp [Function.comp_def, stripC_oEntry]
@[go_sem] theorem strip_eEntry (xs : List Entry) : Es.strip (xs.map eEntry) = xs.map eEntry := by rw [Es.strip_map]; simp [Function.comp_def, stripC_eEntry]
@[go_sem] abbrev aEntry (x : Entry) : Arg := .d (true, eEntry x)
@[go_sem] abbrev pEntry (x : Entry) : Arg := .pv (eEntry x)
@[go_sem] abbrev rEntry (x : Entry) : List Dat := [(true, oEntry x)]
theorem bnd_Entry {x : Entry} {gs : List Arg} (h : Args.bnd (aEntry x :: gs)) : x.rect.low.length ≤ maxLen ∧ x.rect.high.length ≤ maxLen := by
  have h0 := h.1.1.1; rw [List.length_map] at h0
  have h1 := h.1.2.1.1; rw [List.length_map] at h1
  exact ⟨h0, h1⟩
theorem bndp_Entry {x : Entry} {gs : List Arg} (h : Args.bnd (pEntry x :: gs)) : x.rect.low.length ≤ maxLen ∧ x.rect.high.length ≤ maxLen := by
  have h0 := h.1.1.1; rw [List.length_map] at h0
  have h1 := h.1.2.1.1; rw [List.length_map] at h1
  exact ⟨h0, h1⟩
theorem eqEntry (a b : Entry) : a = b ↔ a.rect = b.rect ∧ a.ref = b.ref ∧ a.nsn = b.nsn := by cases a; cases b; simp
def wEntry (x : Entry) : Nat := wR x.rect
theorem s_toEntry (x : Entry) (h : wEntry x ≤ 1048576) : Sat Try.prog 58 [aEntry x] true (rEntry x) := by
  refine sat_walk (fn := Try.f58) rfl rfl rfl (Nat.le_of_ble_eq_true rfl) fun fr hP hN hbnd => ?_
  have hE : (envOf fr Try.prog).Ok := envOf_ok hP
  have hM := follows_of hP
  have hS : ∀ {draw ops}, statB Try.f58.ntmps draw ops = true → statB (envOf fr Try.prog).fr.N draw ops = true := fun h => by rw [envOf_fr, hN]; exact h
  simp only [wEntry] at h
  repeat' (first
    | exact True.intro
    | refine ev_seq ?_
    | ((first | refine vgd_go ?_ | refine ev_region hE hM (hS (by decide +kernel)) ?_ | refine ev_if ?_ | refine end_ret hE rfl rfl ?_ | refine end_norm hE rfl rfl ?_ | refine endG_ret [] hE rfl ?_ | refine endG_norm [] hE rfl ?_ | refine vcallB_of hP (s_toRect x.rect (by omega)) ?_ | refine vcall_A ?_); simp (maxSteps := 2000000) only [go_sem, hP, ↓reduceIte, Nat.reduceAdd, Nat.reduceMul, Nat.reduceEqDiff, Nat.reduceSub, Nat.reduceLeDiff, reduceCtorEq])
    | refine ev_skip ?_ | refine ev_block ?_ | refine ev_blk ?_ | refine ev_ret ?_ | refine ev_exit ?_ | refine evx_code_ret ?_ | refine evx_blk_ret ?_ | refine evx_lp_ret ?_
    | refine evx_code_exit ?_ | refine evx_lp_exit ?_ | refine evx_blk_hit ?_ | refine evx_blk_pass (by decide) ?_
    | refine And.intro ?_ ?_ | intro _ | decide +kernel | omega)
theorem s_szEntry (x : Entry) (left : Int) (h0 : 0 ≤ left) (h1 : left ≤ 1048576) : Sat Try.prog 56 [aEntry x, aI left] true (rI (lessN (wEntry x) left)) := by
  refine sat_walk (fn := Try.f56) rfl rfl rfl (Nat.le_of_ble_eq_true rfl) fun fr hP hN hbnd => ?_
  have hE : (envOf fr Try.prog).Ok := envOf_ok hP
  have hM := follows_of hP
  have hS : ∀ {draw ops}, statB Try.f56.ntmps draw ops = true → statB (envOf fr Try.prog).fr.N draw ops = true := fun h => by rw [envOf_fr, hN]; exact h
  repeat' (first
    | exact True.intro
    | refine ev_seq ?_
    | ((first | refine vgd_go ?_ | refine ev_region hE hM (hS (by decide +kernel)) ?_ | refine ev_if ?_ | refine end_ret hE rfl rfl ?_ | refine end_norm hE rfl rfl ?_ | refine endG_ret [] hE rfl ?_ | refine endG_norm [] hE rfl ?_ | refine vcallB_of hP (s_szRect x.rect _ (by (try simp only [lessN] at *); omega) (by (try simp only [lessN] at *); omega)) ?_ | refine vcall_A ?_); simp (maxSteps := 2000000) only [go_sem, hP, ↓reduceIte, Nat.reduceAdd, Nat.reduceMul, Nat.reduceEqDiff, Nat.reduceSub, Nat.reduceLeDiff, reduceCtorEq])
    | refine ev_skip ?_ | refine ev_block ?_ | refine ev_blk ?_ | refine ev_ret ?_ | refine ev_exit ?_ | refine evx_code_ret ?_ | refine evx_blk_ret ?_ | refine evx_lp_ret ?_
    | refine evx_code_exit ?_ | refine evx_lp_exit ?_ | refine evx_blk_hit ?_ | refine evx_blk_pass (by decide) ?_
    | refine And.intro ?_ ?_ | intro _ | decide +kernel | omega)
  all_goals simp_all only [lessN, wEntry]
  all_goals omega
theorem s_eqEntry (a b : Entry) : Sat Try.prog 61 [aEntry a, aEntry b] true (rB (decide (a = b))) := by
  refine sat_walk (fn := Try.f61) rfl rfl rfl (Nat.le_of_ble_eq_true rfl) fun fr hP hN hbnd => ?_
  have hE : (envOf fr Try.prog).Ok := envOf_ok hP
  have hM := follows_of hP
  have hS : ∀ {draw ops}, statB Try.f61.ntmps draw ops = true → statB (envOf fr Try.prog).fr.N draw ops = true := fun h => by rw [envOf_fr, hN]; exact h
  repeat' (first
    | exact True.intro
    | refine ev_seq ?_
    | ((first | refine vgd_go ?_ | refine ev_region hE hM (hS (by decide +kernel)) ?_ | refine ev_if ?_ | refine end_ret hE rfl rfl ?_ | refine end_norm hE rfl rfl ?_ | refine endG_ret [] hE rfl ?_ | refine endG_norm [] hE rfl ?_ | refine vcallB_of hP (s_eqRect a.rect b.rect) ?_ | refine vcall_A ?_); simp (maxSteps := 2000000) only [go_sem, hP, ↓reduceIte, Nat.reduceAdd, Nat.reduceMul, Nat.reduceEqDiff, Nat.reduceSub, Nat.reduceLeDiff, reduceCtorEq])
    | refine ev_skip ?_ | refine ev_block ?_ | refine ev_blk ?_ | refine ev_ret ?_ | refine ev_exit ?_ | refine evx_code_ret ?_ | refine evx_blk_ret ?_ | refine evx_lp_ret ?_
    | refine evx_code_exit ?_ | refine evx_lp_exit ?_ | refine evx_blk_hit ?_ | refine evx_blk_pass (by decide) ?_
    | refine And.intro ?_ ?_ | intro _ | decide +kernel | omega)
  all_goals simp_all [eqEntry]
theorem shp_Entry {n t : Nat} {cs : List C} (ht : (Try.prog.underlying t).bind fieldTs = some [84, 2, 2]) (h : shp Try.prog (n + 4) t cs) : ∃ x, cs = eEntry x := by
  obtain ⟨c0, g0, rfl, h0, c1, g1, rfl, h1, c2, g2, rfl, h2, rfl⟩ := shp_struct ht h
  obtain ⟨v0, rfl⟩ := shp_R (n := n + 0) rfl h0
  obtain ⟨v1, rfl, _⟩ := shp_i64 (n := n + 2) rfl h1
  obtain ⟨v2, rfl, _⟩ := shp_i64 (n := n + 2) rfl h2
  exact ⟨⟨v0, v1, v2⟩, rfl⟩
@[go_sem] abbrev sEntryS (xs : List Entry) : C := .sl none 4 (xs.map eEntry)
@[go_sem] abbrev oEntryS (xs : List Entry) : C := .sl (some 110) 4 (xs.map oEntry)
@[go_sem] abbrev aEntryS (xs : List Entry) : Arg := .d (false, [sEntryS xs])
@[go_sem] abbrev rEntryS (xs : List Entry) : List Dat := [(false, [oEntryS xs])]
theorem bnd_EntryS {xs : List Entry} {gs : List Arg} (h : Args.bnd (aEntryS xs :: gs)) : xs.length ≤ maxLen := by
  have := h.1.1.1; rwa [List.length_map] at this
def wEntryS (xs : List Entry) : Nat := xs.length + sumW wEntry xs
theorem s_toEntryS (xs : List Entry) (h : wEntryS xs ≤ 1048576) : Sat Try.prog 19 [aEntryS xs] true (rEntryS xs) := by
  refine sat_walk (fn := Try.f19) rfl rfl rfl (Nat.le_of_ble_eq_true rfl) fun fr hP hN hbnd => ?_
  have hE : (envOf fr Try.prog).Ok := envOf_ok hP
  have hM := follows_of hP
  have hS : ∀ {draw ops}, statB Try.f19.ntmps draw ops = true → statB (envOf fr Try.prog).fr.N draw ops = true := fun h => by rw [envOf_fr, hN]; exact h
  have hx : xs.length ≤ 1048576 := by unfold wEntryS at h; omega
  have hw : ∀ k, k < xs.length → wEntry (xs.getD k default) ≤ 1048576 := fun k hk => by
    have := sumW_get (w := wEntry) (d := default) hk; unfold wEntryS at h; omega
  repeat' (first
    | exact True.intro
    | refine ev_seq ?_
    | ((first | refine vgd_go ?_ | refine ev_region hE hM (hS (by decide +kernel)) ?_ | refine ev_if ?_ | refine end_ret hE rfl rfl ?_ | refine end_norm hE rfl rfl ?_ | refine endG_ret [] hE rfl ?_ | refine endG_norm [] hE rfl ?_ | refine vcall_A ?_); simp (maxSteps := 2000000) only [go_sem, hP, ↓reduceIte, Nat.reduceAdd, Nat.reduceMul, Nat.reduceEqDiff, Nat.reduceSub, Nat.reduceLeDiff, reduceCtorEq])
    | refine ev_skip ?_ | refine ev_block ?_ | refine ev_blk ?_ | refine ev_ret ?_ | refine ev_exit ?_ | refine evx_code_ret ?_ | refine evx_blk_ret ?_ | refine evx_lp_ret ?_
    | refine evx_code_exit ?_ | refine evx_lp_exit ?_ | refine evx_blk_hit ?_ | refine evx_blk_pass (by decide) ?_
    | refine And.intro ?_ ?_ | intro _ | decide +kernel | omega)
  refine ev_loop (ι := Nat) (fun k => [(0, .c (sEntryS xs)), (3, .ref 4112), (4, .c (.int .i64 k))]) (fun k => [(4112, .arr true 110 4 ((mix xs ⟨⟨[], []⟩, 0, 0⟩ k).map oEntry))]) (fun _ => []) (fun k => k ≤ xs.length) (fun k => xs.length - k) 0 [] (by simp) (by simp only [go_sem, hP, ↓reduceIte, Nat.reduceAdd, Nat.reduceMul, Nat.reduceEqDiff, Nat.reduceSub, Nat.reduceLeDiff, reduceCtorEq]; simp [mix_zero, oEntry]) ?_
  intro k hk
  repeat' (first
    | exact True.intro
    | refine ev_seq ?_
    | ((first | refine vgd_go ?_ | refine ev_region hE hM (hS (by decide +kernel)) ?_ | refine ev_if ?_ | refine end_ret hE rfl rfl ?_ | refine end_norm hE rfl rfl ?_ | refine endG_ret [] hE rfl ?_ | refine endG_norm [] hE rfl ?_ | refine vcallB_of hP (s_toEntry (xs.getD k default) (hw k (by omega))) ?_ | refine vcall_A ?_); simp (maxSteps := 2000000) only [go_sem, hP, ↓reduceIte, Nat.reduceAdd, Nat.reduceMul, Nat.reduceEqDiff, Nat.reduceSub, Nat.reduceLeDiff, reduceCtorEq, mix_length hk])
    | refine ev_skip ?_ | refine ev_block ?_ | refine ev_blk ?_ | refine ev_ret ?_ | refine ev_exit ?_ | refine evx_code_ret ?_ | refine evx_blk_ret ?_ | refine evx_lp_ret ?_
    | refine evx_code_exit ?_ | refine evx_lp_exit ?_ | refine evx_blk_hit ?_ | refine evx_blk_pass (by decide) ?_
    | refine And.intro ?_ ?_ | intro _ | decide +kernel | omega)
  · exact ev_lp (k + 1) [] (by omega) (by omega) (by simp only [go_sem, hP, ↓reduceIte, Nat.reduceAdd, Nat.reduceMul, Nat.reduceEqDiff, Nat.reduceSub, Nat.reduceLeDiff, reduceCtorEq]; simp; exact ⟨wrap_succ (by omega) hx, mix_set_map (f := oEntry) (by omega)⟩)
  · rw [mix_full (by omega)]
theorem s_szEntryS (xs : List Entry) (left : Int) (h0 : 0 ≤ left) (h1 : left ≤ 1048576) : Sat Try.prog 17 [aEntryS xs, aI left] true (rI (lessN (wEntryS xs) left)) := by
  refine sat_walk (fn := Try.f17) rfl rfl rfl (Nat.le_of_ble_eq_true rfl) fun fr hP hN hbnd => ?_
  have hE : (envOf fr Try.prog).Ok := envOf_ok hP
  have hM := follows_of hP
  have hS : ∀ {draw ops}, statB Try.f17.ntmps draw ops = true → statB (envOf fr Try.prog).fr.N draw ops = true := fun h => by rw [envOf_fr, hN]; exact h
  have hlen := bnd_EntryS hbnd
  have hm : maxLen = 9223372036854775807 := rfl
  have hw : IntKind.i64.wrap (left - xs.length) = left - xs.length := i64_in _ (by omega)
  repeat' (first
    | exact True.intro
    | refine ev_seq ?_
    | ((first | refine vgd_go ?_ | refine ev_region hE hM (hS (by decide +kernel)) ?_ | refine ev_if ?_ | refine end_ret hE rfl rfl ?_ | refine end_norm hE rfl rfl ?_ | refine endG_ret [] hE rfl ?_ | refine endG_norm [] hE rfl ?_ | refine vcall_A ?_); simp (maxSteps := 2000000) only [go_sem, hP, ↓reduceIte, Nat.reduceAdd, Nat.reduceMul, Nat.reduceEqDiff, Nat.reduceSub, Nat.reduceLeDiff, reduceCtorEq, hw])
    | refine ev_skip ?_ | refine ev_block ?_ | refine ev_blk ?_ | refine ev_ret ?_ | refine ev_exit ?_ | refine evx_code_ret ?_ | refine evx_blk_ret ?_ | refine evx_lp_ret ?_
    | refine evx_code_exit ?_ | refine evx_lp_exit ?_ | refine evx_blk_hit ?_ | refine evx_blk_pass (by decide) ?_
    | refine And.intro ?_ ?_ | intro _ | decide +kernel | omega)
  · rename_i h; simp only [lessN, wEntryS] at *; omega
  rename_i h
  refine ev_loop (ι := Nat) (fun k => [(0, .c (sEntryS xs)), (1, .c (.int .i64 (left - xs.length - sumW wEntry (xs.take k)))), (5, .c (.int .i64 k))]) (fun k => []) (fun _ => []) (fun k => k ≤ xs.length ∧ (0 : Int) ≤ left - xs.length - sumW wEntry (xs.take k)) (fun k => xs.length - k) 0 [] (by simp [allLt_zero] <;> omega) (by simp only [go_sem, hP, ↓reduceIte, Nat.reduceAdd, Nat.reduceMul, Nat.reduceEqDiff, Nat.reduceSub, Nat.reduceLeDiff, reduceCtorEq]; simp) ?_
  intro k hk
  have hstep := fun h : k < xs.length => sumW_step (w := wEntry) (d := default) h
  have hle := sumW_le (w := wEntry) (xs := xs) (k + 1)
  repeat' (first
    | exact True.intro
    | refine ev_seq ?_
    | ((first | refine vgd_go ?_ | refine ev_region hE hM (hS (by decide +kernel)) ?_ | refine ev_if ?_ | refine end_ret hE rfl rfl ?_ | refine end_norm hE rfl rfl ?_ | refine endG_ret [] hE rfl ?_ | refine endG_norm [] hE rfl ?_ | refine vcallB_of hP (s_szEntry (xs.getD k default) _ hk.2 (by omega)) ?_ | refine vcall_A ?_); simp (maxSteps := 2000000) only [go_sem, hP, ↓reduceIte, Nat.reduceAdd, Nat.reduceMul, Nat.reduceEqDiff, Nat.reduceSub, Nat.reduceLeDiff, reduceCtorEq])
    | refine ev_skip ?_ | refine ev_block ?_ | refine ev_blk ?_ | refine ev_ret ?_ | refine ev_exit ?_ | refine evx_code_ret ?_ | refine evx_blk_ret ?_ | refine evx_lp_ret ?_
    | refine evx_code_exit ?_ | refine evx_lp_exit ?_ | refine evx_blk_hit ?_ | refine evx_blk_pass (by decide) ?_
    | refine And.intro ?_ ?_ | intro _ | decide +kernel | omega)
  · have := hstep (by omega)
    simp only [lessN, wEntryS] at *; omega
  · rename_i hk1 hk2
    have h8 := hstep (by omega)
    have h9 : lessN (wEntry (xs.getD k default)) (left - xs.length - sumW wEntry (xs.take k)) = left - xs.length - sumW wEntry (xs.take (k + 1)) := by simp only [lessN] at *; omega
    refine ev_lp (k + 1) [] ⟨by omega, by rw [← h9]; omega⟩ (by omega) (by simp only [go_sem, hP, ↓reduceIte, Nat.reduceAdd, Nat.reduceMul, Nat.reduceEqDiff, Nat.reduceSub, Nat.reduceLeDiff, reduceCtorEq, h9]; simp; exact wrap_nat (by omega) hlen)
  · rw [sumW_done (by omega)] at hk ⊢
    simp only [lessN, wEntryS] at *; omega
theorem s_eqEntryS (xs ys : List Entry) : Sat Try.prog 22 [aEntryS xs, aEntryS ys] true (rB (decide (xs = ys))) := by
  refine sat_walk (fn := Try.f22) rfl rfl rfl (Nat.le_of_ble_eq_true rfl) fun fr hP hN hbnd => ?_
  have hE : (envOf fr Try.prog).Ok := envOf_ok hP
  have hM := follows_of hP
  have hS : ∀ {draw ops}, statB Try.f22.ntmps draw ops = true → statB (envOf fr Try.prog).fr.N draw ops = true := fun h => by rw [envOf_fr, hN]; exact h
  have hlen := bnd_EntryS hbnd
  repeat' (first
    | exact True.intro
    | refine ev_seq ?_
    | ((first | refine vgd_go ?_ | refine ev_region hE hM (hS (by decide +kernel)) ?_ | refine ev_if ?_ | refine end_ret hE rfl rfl ?_ | refine end_norm hE rfl rfl ?_ | refine endG_ret [] hE rfl ?_ | refine endG_norm [] hE rfl ?_ | refine vcall_A ?_); simp (maxSteps := 2000000) only [go_sem, hP, ↓reduceIte, Nat.reduceAdd, Nat.reduceMul, Nat.reduceEqDiff, Nat.reduceSub, Nat.reduceLeDiff, reduceCtorEq])
    | refine ev_skip ?_ | refine ev_block ?_ | refine ev_blk ?_ | refine ev_ret ?_ | refine ev_exit ?_ | refine evx_code_ret ?_ | refine evx_blk_ret ?_ | refine evx_lp_ret ?_
    | refine evx_code_exit ?_ | refine evx_lp_exit ?_ | refine evx_blk_hit ?_ | refine evx_blk_pass (by decide) ?_
    | refine And.intro ?_ ?_ | intro _ | decide +kernel | omega)
  · rename_i h; simp at h; simp; rintro rfl; exact h rfl
  rename_i h; simp at h
  refine ev_loop (ι := Nat) (fun k => [(0, .c (sEntryS xs)), (1, .c (sEntryS ys)), (5, .c (.int .i64 k))]) (fun k => []) (fun _ => []) (fun k => k ≤ xs.length ∧ xs.take k = ys.take k) (fun k => xs.length - k) 0 [] (by simp [allLt_zero] <;> omega) (by simp only [go_sem, hP, ↓reduceIte, Nat.reduceAdd, Nat.reduceMul, Nat.reduceEqDiff, Nat.reduceSub, Nat.reduceLeDiff, reduceCtorEq]; simp) ?_
  intro k hk
  repeat' (first
    | exact True.intro
    | refine ev_seq ?_
    | ((first | refine vgd_go ?_ | refine ev_region hE hM (hS (by decide +kernel)) ?_ | refine ev_if ?_ | refine end_ret hE rfl rfl ?_ | refine end_norm hE rfl rfl ?_ | refine endG_ret [] hE rfl ?_ | refine endG_norm [] hE rfl ?_ | refine vcallB_of hP (s_eqEntry (xs.getD k default) (ys.getD k default)) ?_ | refine vcall_A ?_); simp (maxSteps := 2000000) only [go_sem, hP, ↓reduceIte, Nat.reduceAdd, Nat.reduceMul, Nat.reduceEqDiff, Nat.reduceSub, Nat.reduceLeDiff, reduceCtorEq])
    | refine ev_skip ?_ | refine ev_block ?_ | refine ev_blk ?_ | refine ev_ret ?_ | refine ev_exit ?_ | refine evx_code_ret ?_ | refine evx_blk_ret ?_ | refine evx_lp_ret ?_
    | refine evx_code_exit ?_ | refine evx_lp_exit ?_ | refine evx_blk_hit ?_ | refine evx_blk_pass (by decide) ?_
    | refine And.intro ?_ ?_ | intro _ | decide +kernel | omega)
  · rename_i h3; simp at h3; simp; exact eq_not (by simpa using h3)
  · rename_i h3 h4; simp at h4
    exact ev_lp (k + 1) [] ⟨by omega, eq_step (d := default) (e := default) (by omega) (by omega) hk.2 (by simpa using h4)⟩ (by omega) (by simp only [go_sem, hP, ↓reduceIte, Nat.reduceAdd, Nat.reduceMul, Nat.reduceEqDiff, Nat.reduceSub, Nat.reduceLeDiff, reduceCtorEq]; simp; exact wrap_nat (by omega) hlen)
  · simp; exact eq_done (by omega) (by omega) hk.2
theorem shp_EntryS {n t : Nat} {cs : List C} (ht : Try.prog.underlying t = some (.slice 104)) (h : shp Try.prog (n + 5) t cs) : ∃ xs, cs = [sEntryS xs] := by
  obtain ⟨xs, rfl, _⟩ := shp_rows (f := eEntry) (q := fun _ => True) (sz := 4) ht rfl (fun x hx => by obtain ⟨p, rfl⟩ := shp_Entry (n := n) rfl hx; exact ⟨p, rfl, trivial⟩) h
  exact ⟨xs, rfl⟩
structure Node where
  level : Int
  nsn : Int
  right : Int
  entries : List Entry
  deriving DecidableEq, Inhabited
def eNode (x : Node) : List C := [.int .i64 x.level, .int .i64 x.nsn, .int .i64 x.right, sEntryS x.entries]
def oNode (x : Node) : List C := [.int .i64 x.level, .int .i64 x.nsn, .int .i64 x.right, oEntryS x.entries]
@[go_sem] theorem eNode_eq (x : Node) : eNode x = [.int .i64 x.level, .int .i64 x.nsn, .int .i64 x.right, sEntryS x.entries] := rfl
@[go_sem] theorem oNode_eq (x : Node) : oNode x = [.int .i64 x.level, .int .i64 x.nsn, .int .i64 x.right, oEntryS x.entries] := rfl
theorem stripC_oNode (x : Node) : Cs.strip (oNode x) = eNode x := by simp [oNode, eNode, Cs.strip, C.strip, strip_eI, strip_eEntry, strip_oEntry]
theorem stripC_eNode (x : Node) : Cs.strip (eNode x) = eNode x := by simp [eNode, Cs.strip, C.strip, strip_eI, strip_eEntry, strip_oEntry]
@[go_sem] theorem strip_oNode (xs : List Node) : Es.strip (xs.map oNode) = xs.map eNode := by rw [Es.strip_map]; simp [Function.comp_def, stripC_oNode]
@[go_sem] theorem strip_eNode (xs : List Node) : Es.strip (xs.map eNode) = xs.map eNode := by rw [Es.strip_map]; simp [Function.comp_def, stripC_eNode]
@[go_sem] abbrev aNode (x : Node) : Arg := .d (true, eNode x)
@[go_sem] abbrev pNode (x : Node) : Arg := .pv (eNode x)
@[go_sem] abbrev rNode (x : Node) : List Dat := [(true, oNode x)]
theorem bnd_Node {x : Node} {gs : List Arg} (h : Args.bnd (aNode x :: gs)) : x.entries.length ≤ maxLen := by
  have h0 := h.1.2.2.2.1.1; rw [List.length_map] at h0
  exact h0
theorem bndp_Node {x : Node} {gs : List Arg} (h : Args.bnd (pNode x :: gs)) : x.entries.length ≤ maxLen := by
  have h0 := h.1.2.2.2.1.1; rw [List.length_map] at h0
  exact h0
theorem eqNode (a b : Node) : a = b ↔ a.level = b.level ∧ a.nsn = b.nsn ∧ a.right = b.right ∧ a.entries = b.entries := by cases a; cases b; simp
def wNode (x : Node) : Nat := wEntryS x.entries
theorem s_toNode (x : Node) (h : wNode x ≤ 1048576) : Sat Try.prog 28 [aNode x] true (rNode x) := by
  refine sat_walk (fn := Try.f28) rfl rfl rfl (Nat.le_of_ble_eq_true rfl) fun fr hP hN hbnd => ?_
  have hE : (envOf fr Try.prog).Ok := envOf_ok hP
  have hM := follows_of hP
  have hS : ∀ {draw ops}, statB Try.f28.ntmps draw ops = true → statB (envOf fr Try.prog).fr.N draw ops = true := fun h => by rw [envOf_fr, hN]; exact h
  simp only [wNode] at h
  repeat' (first
    | exact True.intro
    | refine ev_seq ?_
    | ((first | refine vgd_go ?_ | refine ev_region hE hM (hS (by decide +kernel)) ?_ | refine ev_if ?_ | refine end_ret hE rfl rfl ?_ | refine end_norm hE rfl rfl ?_ | refine endG_ret [] hE rfl ?_ | refine endG_norm [] hE rfl ?_ | refine vcallB_of hP (s_toEntryS x.entries (by omega)) ?_ | refine vcall_A ?_); simp (maxSteps := 2000000) only [go_sem, hP, ↓reduceIte, Nat.reduceAdd, Nat.reduceMul, Nat.reduceEqDiff, Nat.reduceSub, Nat.reduceLeDiff, reduceCtorEq])
    | refine ev_skip ?_ | refine ev_block ?_ | refine ev_blk ?_ | refine ev_ret ?_ | refine ev_exit ?_ | refine evx_code_ret ?_ | refine evx_blk_ret ?_ | refine evx_lp_ret ?_
    | refine evx_code_exit ?_ | refine evx_lp_exit ?_ | refine evx_blk_hit ?_ | refine evx_blk_pass (by decide) ?_
    | refine And.intro ?_ ?_ | intro _ | decide +kernel | omega)
theorem s_szNode (x : Node) (left : Int) (h0 : 0 ≤ left) (h1 : left ≤ 1048576) : Sat Try.prog 26 [aNode x, aI left] true (rI (lessN (wNode x) left)) := by
  refine sat_walk (fn := Try.f26) rfl rfl rfl (Nat.le_of_ble_eq_true rfl) fun fr hP hN hbnd => ?_
  have hE : (envOf fr Try.prog).Ok := envOf_ok hP
  have hM := follows_of hP
  have hS : ∀ {draw ops}, statB Try.f26.ntmps draw ops = true → statB (envOf fr Try.prog).fr.N draw ops = true := fun h => by rw [envOf_fr, hN]; exact h
  repeat' (first
    | exact True.intro
    | refine ev_seq ?_
    | ((first | refine vgd_go ?_ | refine ev_region hE hM (hS (by decide +kernel)) ?_ | refine ev_if ?_ | refine end_ret hE rfl rfl ?_ | refine end_norm hE rfl rfl ?_ | refine endG_ret [] hE rfl ?_ | refine endG_norm [] hE rfl ?_ | refine vcallB_of hP (s_szEntryS x.entries _ (by (try simp only [lessN] at *); omega) (by (try simp only [lessN] at *); omega)) ?_ | refine vcall_A ?_); simp (maxSteps := 2000000) only [go_sem, hP, ↓reduceIte, Nat.reduceAdd, Nat.reduceMul, Nat.reduceEqDiff, Nat.reduceSub, Nat.reduceLeDiff, reduceCtorEq])
    | refine ev_skip ?_ | refine ev_block ?_ | refine ev_blk ?_ | refine ev_ret ?_ | refine ev_exit ?_ | refine evx_code_ret ?_ | refine evx_blk_ret ?_ | refine evx_lp_ret ?_
    | refine evx_code_exit ?_ | refine evx_lp_exit ?_ | refine evx_blk_hit ?_ | refine evx_blk_pass (by decide) ?_
    | refine And.intro ?_ ?_ | intro _ | decide +kernel | omega)
  all_goals simp_all only [lessN, wNode]
  all_goals omega
theorem s_eqNode (a b : Node) : Sat Try.prog 31 [aNode a, aNode b] true (rB (decide (a = b))) := by
  refine sat_walk (fn := Try.f31) rfl rfl rfl (Nat.le_of_ble_eq_true rfl) fun fr hP hN hbnd => ?_
  have hE : (envOf fr Try.prog).Ok := envOf_ok hP
  have hM := follows_of hP
  have hS : ∀ {draw ops}, statB Try.f31.ntmps draw ops = true → statB (envOf fr Try.prog).fr.N draw ops = true := fun h => by rw [envOf_fr, hN]; exact h
  repeat' (first
    | exact True.intro
    | refine ev_seq ?_
    | ((first | refine vgd_go ?_ | refine ev_region hE hM (hS (by decide +kernel)) ?_ | refine ev_if ?_ | refine end_ret hE rfl rfl ?_ | refine end_norm hE rfl rfl ?_ | refine endG_ret [] hE rfl ?_ | refine endG_norm [] hE rfl ?_ | refine vcallB_of hP (s_eqEntryS a.entries b.entries) ?_ | refine vcall_A ?_); simp (maxSteps := 2000000) only [go_sem, hP, ↓reduceIte, Nat.reduceAdd, Nat.reduceMul, Nat.reduceEqDiff, Nat.reduceSub, Nat.reduceLeDiff, reduceCtorEq])
    | refine ev_skip ?_ | refine ev_block ?_ | refine ev_blk ?_ | refine ev_ret ?_ | refine ev_exit ?_ | refine evx_code_ret ?_ | refine evx_blk_ret ?_ | refine evx_lp_ret ?_
    | refine evx_code_exit ?_ | refine evx_lp_exit ?_ | refine evx_blk_hit ?_ | refine evx_blk_pass (by decide) ?_
    | refine And.intro ?_ ?_ | intro _ | decide +kernel | omega)
  all_goals simp_all [eqNode]
theorem shp_Node {n t : Nat} {cs : List C} (ht : (Try.prog.underlying t).bind fieldTs = some [2, 2, 2, 35]) (h : shp Try.prog (n + 6) t cs) : ∃ x, cs = eNode x := by
  obtain ⟨c0, g0, rfl, h0, c1, g1, rfl, h1, c2, g2, rfl, h2, c3, g3, rfl, h3, rfl⟩ := shp_struct ht h
  obtain ⟨v0, rfl, _⟩ := shp_i64 (n := n + 4) rfl h0
  obtain ⟨v1, rfl, _⟩ := shp_i64 (n := n + 4) rfl h1
  obtain ⟨v2, rfl, _⟩ := shp_i64 (n := n + 4) rfl h2
  obtain ⟨v3, rfl⟩ := shp_EntryS (n := n + 0) rfl h3
  exact ⟨⟨v0, v1, v2, v3⟩, rfl⟩
@[go_sem] abbrev sNodeS (xs : List Node) : C := .sl none 4 (xs.map eNode)
@[go_sem] abbrev oNodeS (xs : List Node) : C := .sl (some 56) 4 (xs.map oNode)
@[go_sem] abbrev aNodeS (xs : List Node) : Arg := .d (false, [sNodeS xs])
@[go_sem] abbrev rNodeS (xs : List Node) : List Dat := [(false, [oNodeS xs])]
theorem bnd_NodeS {xs : List Node} {gs : List Arg} (h : Args.bnd (aNodeS xs :: gs)) : xs.length ≤ maxLen := by
  have := h.1.1.1; rwa [List.length_map] at this
def wNodeS (xs : List Node) : Nat := xs.length + sumW wNode xs
theorem s_toNodeS (xs : List Node) (h : wNodeS xs ≤ 1048576) : Sat Try.prog 193 [aNodeS xs] true (rNodeS xs) := by
  refine sat_walk (fn := Try.f193) rfl rfl rfl (Nat.le_of_ble_eq_true rfl) fun fr hP hN hbnd => ?_
  have hE : (envOf fr Try.prog).Ok := envOf_ok hP
  have hM := follows_of hP
  have hS : ∀ {draw ops}, statB Try.f193.ntmps draw ops = true → statB (envOf fr Try.prog).fr.N draw ops = true := fun h => by rw [envOf_fr, hN]; exact h
  have hx : xs.length ≤ 1048576 := by unfold wNodeS at h; omega
  have hw : ∀ k, k < xs.length → wNode (xs.getD k default) ≤ 1048576 := fun k hk => by
    have := sumW_get (w := wNode) (d := default) hk; unfold wNodeS at h; omega
  repeat' (first
    | exact True.intro
    | refine ev_seq ?_
    | ((first | refine vgd_go ?_ | refine ev_region hE hM (hS (by decide +kernel)) ?_ | refine ev_if ?_ | refine end_ret hE rfl rfl ?_ | refine end_norm hE rfl rfl ?_ | refine endG_ret [] hE rfl ?_ | refine endG_norm [] hE rfl ?_ | refine vcall_A ?_); simp (maxSteps := 2000000) only [go_sem, hP, ↓reduceIte, Nat.reduceAdd, Nat.reduceMul, Nat.reduceEqDiff, Nat.reduceSub, Nat.reduceLeDiff, reduceCtorEq])
    | refine ev_skip ?_ | refine ev_block ?_ | refine ev_blk ?_ | refine ev_ret ?_ | refine ev_exit ?_ | refine evx_code_ret ?_ | refine evx_blk_ret ?_ | refine evx_lp_ret ?_
    | refine evx_code_exit ?_ | refine evx_lp_exit ?_ | refine evx_blk_hit ?_ | refine evx_blk_pass (by decide) ?_
    | refine And.intro ?_ ?_ | intro _ | decide +kernel | omega)
  refine ev_loop (ι := Nat) (fun k => [(0, .c (sNodeS xs)), (3, .ref 4112), (4, .c (.int .i64 k))]) (fun k => [(4112, .arr true 56 4 ((mix xs ⟨0, 0, 0, []⟩ k).map oNode))]) (fun _ => []) (fun k => k ≤ xs.length) (fun k => xs.length - k) 0 [] (by simp) (by simp only [go_sem, hP, ↓reduceIte, Nat.reduceAdd, Nat.reduceMul, Nat.reduceEqDiff, Nat.reduceSub, Nat.reduceLeDiff, reduceCtorEq]; simp [mix_zero, oNode]) ?_
  intro k hk
  repeat' (first
    | exact True.intro
    | refine ev_seq ?_
    | ((first | refine vgd_go ?_ | refine ev_region hE hM (hS (by decide +kernel)) ?_ | refine ev_if ?_ | refine end_ret hE rfl rfl ?_ | refine end_norm hE rfl rfl ?_ | refine endG_ret [] hE rfl ?_ | refine endG_norm [] hE rfl ?_ | refine vcallB_of hP (s_toNode (xs.getD k default) (hw k (by omega))) ?_ | refine vcall_A ?_); simp (maxSteps := 2000000) only [go_sem, hP, ↓reduceIte, Nat.reduceAdd, Nat.reduceMul, Nat.reduceEqDiff, Nat.reduceSub, Nat.reduceLeDiff, reduceCtorEq, mix_length hk])
    | refine ev_skip ?_ | refine ev_block ?_ | refine ev_blk ?_ | refine ev_ret ?_ | refine ev_exit ?_ | refine evx_code_ret ?_ | refine evx_blk_ret ?_ | refine evx_lp_ret ?_
    | refine evx_code_exit ?_ | refine evx_lp_exit ?_ | refine evx_blk_hit ?_ | refine evx_blk_pass (by decide) ?_
    | refine And.intro ?_ ?_ | intro _ | decide +kernel | omega)
  · exact ev_lp (k + 1) [] (by omega) (by omega) (by simp only [go_sem, hP, ↓reduceIte, Nat.reduceAdd, Nat.reduceMul, Nat.reduceEqDiff, Nat.reduceSub, Nat.reduceLeDiff, reduceCtorEq]; simp; exact ⟨wrap_succ (by omega) hx, mix_set_map (f := oNode) (by omega)⟩)
  · rw [mix_full (by omega)]
theorem s_szNodeS (xs : List Node) (left : Int) (h0 : 0 ≤ left) (h1 : left ≤ 1048576) : Sat Try.prog 189 [aNodeS xs, aI left] true (rI (lessN (wNodeS xs) left)) := by
  refine sat_walk (fn := Try.f189) rfl rfl rfl (Nat.le_of_ble_eq_true rfl) fun fr hP hN hbnd => ?_
  have hE : (envOf fr Try.prog).Ok := envOf_ok hP
  have hM := follows_of hP
  have hS : ∀ {draw ops}, statB Try.f189.ntmps draw ops = true → statB (envOf fr Try.prog).fr.N draw ops = true := fun h => by rw [envOf_fr, hN]; exact h
  have hlen := bnd_NodeS hbnd
  have hm : maxLen = 9223372036854775807 := rfl
  have hw : IntKind.i64.wrap (left - xs.length) = left - xs.length := i64_in _ (by omega)
  repeat' (first
    | exact True.intro
    | refine ev_seq ?_
    | ((first | refine vgd_go ?_ | refine ev_region hE hM (hS (by decide +kernel)) ?_ | refine ev_if ?_ | refine end_ret hE rfl rfl ?_ | refine end_norm hE rfl rfl ?_ | refine endG_ret [] hE rfl ?_ | refine endG_norm [] hE rfl ?_ | refine vcall_A ?_); simp (maxSteps := 2000000) only [go_sem, hP, ↓reduceIte, Nat.reduceAdd, Nat.reduceMul, Nat.reduceEqDiff, Nat.reduceSub, Nat.reduceLeDiff, reduceCtorEq, hw])
    | refine ev_skip ?_ | refine ev_block ?_ | refine ev_blk ?_ | refine ev_ret ?_ | refine ev_exit ?_ | refine evx_code_ret ?_ | refine evx_blk_ret ?_ | refine evx_lp_ret ?_
    | refine evx_code_exit ?_ | refine evx_lp_exit ?_ | refine evx_blk_hit ?_ | refine evx_blk_pass (by decide) ?_
    | refine And.intro ?_ ?_ | intro _ | decide +kernel | omega)
  · rename_i h; simp only [lessN, wNodeS] at *; omega
  rename_i h
  refine ev_loop (ι := Nat) (fun k => [(0, .c (sNodeS xs)), (1, .c (.int .i64 (left - xs.length - sumW wNode (xs.take k)))), (5, .c (.int .i64 k))]) (fun k => []) (fun _ => []) (fun k => k ≤ xs.length ∧ (0 : Int) ≤ left - xs.length - sumW wNode (xs.take k)) (fun k => xs.length - k) 0 [] (by simp [allLt_zero] <;> omega) (by simp only [go_sem, hP, ↓reduceIte, Nat.reduceAdd, Nat.reduceMul, Nat.reduceEqDiff, Nat.reduceSub, Nat.reduceLeDiff, reduceCtorEq]; simp) ?_
  intro k hk
  have hstep := fun h : k < xs.length => sumW_step (w := wNode) (d := default) h
  have hle := sumW_le (w := wNode) (xs := xs) (k + 1)
  repeat' (first
    | exact True.intro
    | refine ev_seq ?_
    | ((first | refine vgd_go ?_ | refine ev_region hE hM (hS (by decide +kernel)) ?_ | refine ev_if ?_ | refine end_ret hE rfl rfl ?_ | refine end_norm hE rfl rfl ?_ | refine endG_ret [] hE rfl ?_ | refine endG_norm [] hE rfl ?_ | refine vcallB_of hP (s_szNode (xs.getD k default) _ hk.2 (by omega)) ?_ | refine vcall_A ?_); simp (maxSteps := 2000000) only [go_sem, hP, ↓reduceIte, Nat.reduceAdd, Nat.reduceMul, Nat.reduceEqDiff, Nat.reduceSub, Nat.reduceLeDiff, reduceCtorEq])
    | refine ev_skip ?_ | refine ev_block ?_ | refine ev_blk ?_ | refine ev_ret ?_ | refine ev_exit ?_ | refine evx_code_ret ?_ | refine evx_blk_ret ?_ | refine evx_lp_ret ?_
    | refine evx_code_exit ?_ | refine evx_lp_exit ?_ | refine evx_blk_hit ?_ | refine evx_blk_pass (by decide) ?_
    | refine And.intro ?_ ?_ | intro _ | decide +kernel | omega)
  · have := hstep (by omega)
    simp only [lessN, wNodeS] at *; omega
  · rename_i hk1 hk2
    have h8 := hstep (by omega)
    have h9 : lessN (wNode (xs.getD k default)) (left - xs.length - sumW wNode (xs.take k)) = left - xs.length - sumW wNode (xs.take (k + 1)) := by simp only [lessN] at *; omega
    refine ev_lp (k + 1) [] ⟨by omega, by rw [← h9]; omega⟩ (by omega) (by simp only [go_sem, hP, ↓reduceIte, Nat.reduceAdd, Nat.reduceMul, Nat.reduceEqDiff, Nat.reduceSub, Nat.reduceLeDiff, reduceCtorEq, h9]; simp; exact wrap_nat (by omega) hlen)
  · rw [sumW_done (by omega)] at hk ⊢
    simp only [lessN, wNodeS] at *; omega
theorem s_eqNodeS (xs ys : List Node) : Sat Try.prog 182 [aNodeS xs, aNodeS ys] true (rB (decide (xs = ys))) := by
  refine sat_walk (fn := Try.f182) rfl rfl rfl (Nat.le_of_ble_eq_true rfl) fun fr hP hN hbnd => ?_
  have hE : (envOf fr Try.prog).Ok := envOf_ok hP
  have hM := follows_of hP
  have hS : ∀ {draw ops}, statB Try.f182.ntmps draw ops = true → statB (envOf fr Try.prog).fr.N draw ops = true := fun h => by rw [envOf_fr, hN]; exact h
  have hlen := bnd_NodeS hbnd
  repeat' (first
    | exact True.intro
    | refine ev_seq ?_
    | ((first | refine vgd_go ?_ | refine ev_region hE hM (hS (by decide +kernel)) ?_ | refine ev_if ?_ | refine end_ret hE rfl rfl ?_ | refine end_norm hE rfl rfl ?_ | refine endG_ret [] hE rfl ?_ | refine endG_norm [] hE rfl ?_ | refine vcall_A ?_); simp (maxSteps := 2000000) only [go_sem, hP, ↓reduceIte, Nat.reduceAdd, Nat.reduceMul, Nat.reduceEqDiff, Nat.reduceSub, Nat.reduceLeDiff, reduceCtorEq])
    | refine ev_skip ?_ | refine ev_block ?_ | refine ev_blk ?_ | refine ev_ret ?_ | refine ev_exit ?_ | refine evx_code_ret ?_ | refine evx_blk_ret ?_ | refine evx_lp_ret ?_
    | refine evx_code_exit ?_ | refine evx_lp_exit ?_ | refine evx_blk_hit ?_ | refine evx_blk_pass (by decide) ?_
    | refine And.intro ?_ ?_ | intro _ | decide +kernel | omega)
  · rename_i h; simp at h; simp; rintro rfl; exact h rfl
  rename_i h; simp at h
  refine ev_loop (ι := Nat) (fun k => [(0, .c (sNodeS xs)), (1, .c (sNodeS ys)), (5, .c (.int .i64 k))]) (fun k => []) (fun _ => []) (fun k => k ≤ xs.length ∧ xs.take k = ys.take k) (fun k => xs.length - k) 0 [] (by simp [allLt_zero] <;> omega) (by simp only [go_sem, hP, ↓reduceIte, Nat.reduceAdd, Nat.reduceMul, Nat.reduceEqDiff, Nat.reduceSub, Nat.reduceLeDiff, reduceCtorEq]; simp) ?_
  intro k hk
  repeat' (first
    | exact True.intro
    | refine ev_seq ?_
    | ((first | refine vgd_go ?_ | refine ev_region hE hM (hS (by decide +kernel)) ?_ | refine ev_if ?_ | refine end_ret hE rfl rfl ?_ | refine end_norm hE rfl rfl ?_ | refine endG_ret [] hE rfl ?_ | refine endG_norm [] hE rfl ?_ | refine vcallB_of hP (s_eqNode (xs.getD k default) (ys.getD k default)) ?_ | refine vcall_A ?_); simp (maxSteps := 2000000) only [go_sem, hP, ↓reduceIte, Nat.reduceAdd, Nat.reduceMul, Nat.reduceEqDiff, Nat.reduceSub, Nat.reduceLeDiff, reduceCtorEq])
    | refine ev_skip ?_ | refine ev_block ?_ | refine ev_blk ?_ | refine ev_ret ?_ | refine ev_exit ?_ | refine evx_code_ret ?_ | refine evx_blk_ret ?_ | refine evx_lp_ret ?_
    | refine evx_code_exit ?_ | refine evx_lp_exit ?_ | refine evx_blk_hit ?_ | refine evx_blk_pass (by decide) ?_
    | refine And.intro ?_ ?_ | intro _ | decide +kernel | omega)
  · rename_i h3; simp at h3; simp; exact eq_not (by simpa using h3)
  · rename_i h3 h4; simp at h4
    exact ev_lp (k + 1) [] ⟨by omega, eq_step (d := default) (e := default) (by omega) (by omega) hk.2 (by simpa using h4)⟩ (by omega) (by simp only [go_sem, hP, ↓reduceIte, Nat.reduceAdd, Nat.reduceMul, Nat.reduceEqDiff, Nat.reduceSub, Nat.reduceLeDiff, reduceCtorEq]; simp; exact wrap_nat (by omega) hlen)
  · simp; exact eq_done (by omega) (by omega) hk.2
theorem shp_NodeS {n t : Nat} {cs : List C} (ht : Try.prog.underlying t = some (.slice 48)) (h : shp Try.prog (n + 7) t cs) : ∃ xs, cs = [sNodeS xs] := by
  obtain ⟨xs, rfl, _⟩ := shp_rows (f := eNode) (q := fun _ => True) (sz := 4) ht rfl (fun x hx => by obtain ⟨p, rfl⟩ := shp_Node (n := n) rfl hx; exact ⟨p, rfl, trivial⟩) h
  exact ⟨xs, rfl⟩
structure Retired where
  id : Int
  watch : List Int
  deriving DecidableEq, Inhabited
def eRetired (x : Retired) : List C := [.int .i64 x.id, sI x.watch]
def oRetired (x : Retired) : List C := [.int .i64 x.id, oI x.watch]
@[go_sem] theorem eRetired_eq (x : Retired) : eRetired x = [.int .i64 x.id, sI x.watch] := rfl
@[go_sem] theorem oRetired_eq (x : Retired) : oRetired x = [.int .i64 x.id, oI x.watch] := rfl
theorem stripC_oRetired (x : Retired) : Cs.strip (oRetired x) = eRetired x := by simp [oRetired, eRetired, Cs.strip, C.strip, strip_eI]
theorem stripC_eRetired (x : Retired) : Cs.strip (eRetired x) = eRetired x := by simp [eRetired, Cs.strip, C.strip, strip_eI]
@[go_sem] theorem strip_oRetired (xs : List Retired) : Es.strip (xs.map oRetired) = xs.map eRetired := by rw [Es.strip_map]; simp [Function.comp_def, stripC_oRetired]
@[go_sem] theorem strip_eRetired (xs : List Retired) : Es.strip (xs.map eRetired) = xs.map eRetired := by rw [Es.strip_map]; simp [Function.comp_def, stripC_eRetired]
@[go_sem] abbrev aRetired (x : Retired) : Arg := .d (true, eRetired x)
@[go_sem] abbrev pRetired (x : Retired) : Arg := .pv (eRetired x)
@[go_sem] abbrev rRetired (x : Retired) : List Dat := [(true, oRetired x)]
theorem bnd_Retired {x : Retired} {gs : List Arg} (h : Args.bnd (aRetired x :: gs)) : x.watch.length ≤ maxLen := by
  have h0 := h.1.2.1.1; rw [List.length_map] at h0
  exact h0
theorem bndp_Retired {x : Retired} {gs : List Arg} (h : Args.bnd (pRetired x :: gs)) : x.watch.length ≤ maxLen := by
  have h0 := h.1.2.1.1; rw [List.length_map] at h0
  exact h0
theorem eqRetired (a b : Retired) : a = b ↔ a.id = b.id ∧ a.watch = b.watch := by cases a; cases b; simp
def wRetired (x : Retired) : Nat := x.watch.length
theorem s_toRetired (x : Retired) (h : wRetired x ≤ 1048576) : Sat Try.prog 207 [aRetired x] true (rRetired x) := by
  refine sat_walk (fn := Try.f207) rfl rfl rfl (Nat.le_of_ble_eq_true rfl) fun fr hP hN hbnd => ?_
  have hE : (envOf fr Try.prog).Ok := envOf_ok hP
  have hM := follows_of hP
  have hS : ∀ {draw ops}, statB Try.f207.ntmps draw ops = true → statB (envOf fr Try.prog).fr.N draw ops = true := fun h => by rw [envOf_fr, hN]; exact h
  simp only [wRetired] at h
  repeat' (first
    | exact True.intro
    | refine ev_seq ?_
    | ((first | refine vgd_go ?_ | refine ev_region hE hM (hS (by decide +kernel)) ?_ | refine ev_if ?_ | refine end_ret hE rfl rfl ?_ | refine end_norm hE rfl rfl ?_ | refine endG_ret [] hE rfl ?_ | refine endG_norm [] hE rfl ?_ | refine vcallB_of hP (s_toInt64S x.watch (by omega)) ?_ | refine vcall_A ?_); simp (maxSteps := 2000000) only [go_sem, hP, ↓reduceIte, Nat.reduceAdd, Nat.reduceMul, Nat.reduceEqDiff, Nat.reduceSub, Nat.reduceLeDiff, reduceCtorEq])
    | refine ev_skip ?_ | refine ev_block ?_ | refine ev_blk ?_ | refine ev_ret ?_ | refine ev_exit ?_ | refine evx_code_ret ?_ | refine evx_blk_ret ?_ | refine evx_lp_ret ?_
    | refine evx_code_exit ?_ | refine evx_lp_exit ?_ | refine evx_blk_hit ?_ | refine evx_blk_pass (by decide) ?_
    | refine And.intro ?_ ?_ | intro _ | decide +kernel | omega)
theorem s_szRetired (x : Retired) (left : Int) (h0 : 0 ≤ left) (h1 : left ≤ 1048576) : Sat Try.prog 205 [aRetired x, aI left] true (rI (lessN (wRetired x) left)) := by
  refine sat_walk (fn := Try.f205) rfl rfl rfl (Nat.le_of_ble_eq_true rfl) fun fr hP hN hbnd => ?_
  have hE : (envOf fr Try.prog).Ok := envOf_ok hP
  have hM := follows_of hP
  have hS : ∀ {draw ops}, statB Try.f205.ntmps draw ops = true → statB (envOf fr Try.prog).fr.N draw ops = true := fun h => by rw [envOf_fr, hN]; exact h
  repeat' (first
    | exact True.intro
    | refine ev_seq ?_
    | ((first | refine vgd_go ?_ | refine ev_region hE hM (hS (by decide +kernel)) ?_ | refine ev_if ?_ | refine end_ret hE rfl rfl ?_ | refine end_norm hE rfl rfl ?_ | refine endG_ret [] hE rfl ?_ | refine endG_norm [] hE rfl ?_ | refine vcallB_of hP (s_szInt64S x.watch _ (by (try simp only [lessN] at *); omega) (by (try simp only [lessN] at *); omega)) ?_ | refine vcall_A ?_); simp (maxSteps := 2000000) only [go_sem, hP, ↓reduceIte, Nat.reduceAdd, Nat.reduceMul, Nat.reduceEqDiff, Nat.reduceSub, Nat.reduceLeDiff, reduceCtorEq])
    | refine ev_skip ?_ | refine ev_block ?_ | refine ev_blk ?_ | refine ev_ret ?_ | refine ev_exit ?_ | refine evx_code_ret ?_ | refine evx_blk_ret ?_ | refine evx_lp_ret ?_
    | refine evx_code_exit ?_ | refine evx_lp_exit ?_ | refine evx_blk_hit ?_ | refine evx_blk_pass (by decide) ?_
    | refine And.intro ?_ ?_ | intro _ | decide +kernel | omega)
  all_goals simp_all only [lessN, wRetired]
  all_goals omega
theorem s_eqRetired (a b : Retired) : Sat Try.prog 204 [aRetired a, aRetired b] true (rB (decide (a = b))) := by
  refine sat_walk (fn := Try.f204) rfl rfl rfl (Nat.le_of_ble_eq_true rfl) fun fr hP hN hbnd => ?_
  have hE : (envOf fr Try.prog).Ok := envOf_ok hP
  have hM := follows_of hP
  have hS : ∀ {draw ops}, statB Try.f204.ntmps draw ops = true → statB (envOf fr Try.prog).fr.N draw ops = true := fun h => by rw [envOf_fr, hN]; exact h
  repeat' (first
    | exact True.intro
    | refine ev_seq ?_
    | ((first | refine vgd_go ?_ | refine ev_region hE hM (hS (by decide +kernel)) ?_ | refine ev_if ?_ | refine end_ret hE rfl rfl ?_ | refine end_norm hE rfl rfl ?_ | refine endG_ret [] hE rfl ?_ | refine endG_norm [] hE rfl ?_ | refine vcallB_of hP (s_eqInt64S a.watch b.watch) ?_ | refine vcall_A ?_); simp (maxSteps := 2000000) only [go_sem, hP, ↓reduceIte, Nat.reduceAdd, Nat.reduceMul, Nat.reduceEqDiff, Nat.reduceSub, Nat.reduceLeDiff, reduceCtorEq])
    | refine ev_skip ?_ | refine ev_block ?_ | refine ev_blk ?_ | refine ev_ret ?_ | refine ev_exit ?_ | refine evx_code_ret ?_ | refine evx_blk_ret ?_ | refine evx_lp_ret ?_
    | refine evx_code_exit ?_ | refine evx_lp_exit ?_ | refine evx_blk_hit ?_ | refine evx_blk_pass (by decide) ?_
    | refine And.intro ?_ ?_ | intro _ | decide +kernel | omega)
  all_goals simp_all [eqRetired]
theorem shp_Retired {n t : Nat} {cs : List C} (ht : (Try.prog.underlying t).bind fieldTs = some [2, 23]) (h : shp Try.prog (n + 3) t cs) : ∃ x, cs = eRetired x := by
  obtain ⟨c0, g0, rfl, h0, c1, g1, rfl, h1, rfl⟩ := shp_struct ht h
  obtain ⟨v0, rfl, _⟩ := shp_i64 (n := n + 1) rfl h0
  obtain ⟨v1, rfl, _⟩ := shp_ints (n := n + 0) (e := 2) rfl rfl rfl h1
  exact ⟨⟨v0, v1⟩, rfl⟩
@[go_sem] abbrev sRetiredS (xs : List Retired) : C := .sl none 2 (xs.map eRetired)
@[go_sem] abbrev oRetiredS (xs : List Retired) : C := .sl (some 241) 2 (xs.map oRetired)
@[go_sem] abbrev aRetiredS (xs : List Retired) : Arg := .d (false, [sRetiredS xs])
@[go_sem] abbrev rRetiredS (xs : List Retired) : List Dat := [(false, [oRetiredS xs])]
theorem bnd_RetiredS {xs : List Retired} {gs : List Arg} (h : Args.bnd (aRetiredS xs :: gs)) : xs.length ≤ maxLen := by
  have := h.1.1.1; rwa [List.length_map] at this
def wRetiredS (xs : List Retired) : Nat := xs.length + sumW wRetired xs
theorem s_toRetiredS (xs : List Retired) (h : wRetiredS xs ≤ 1048576) : Sat Try.prog 194 [aRetiredS xs] true (rRetiredS xs) := by
  refine sat_walk (fn := Try.f194) rfl rfl rfl (Nat.le_of_ble_eq_true rfl) fun fr hP hN hbnd => ?_
  have hE : (envOf fr Try.prog).Ok := envOf_ok hP
  have hM := follows_of hP
  have hS : ∀ {draw ops}, statB Try.f194.ntmps draw ops = true → statB (envOf fr Try.prog).fr.N draw ops = true := fun h => by rw [envOf_fr, hN]; exact h
  have hx : xs.length ≤ 1048576 := by unfold wRetiredS at h; omega
  have hw : ∀ k, k < xs.length → wRetired (xs.getD k default) ≤ 1048576 := fun k hk => by
    have := sumW_get (w := wRetired) (d := default) hk; unfold wRetiredS at h; omega
  repeat' (first
    | exact True.intro
    | refine ev_seq ?_
    | ((first | refine vgd_go ?_ | refine ev_region hE hM (hS (by decide +kernel)) ?_ | refine ev_if ?_ | refine end_ret hE rfl rfl ?_ | refine end_norm hE rfl rfl ?_ | refine endG_ret [] hE rfl ?_ | refine endG_norm [] hE rfl ?_ | refine vcall_A ?_); simp (maxSteps := 2000000) only [go_sem, hP, ↓reduceIte, Nat.reduceAdd, Nat.reduceMul, Nat.reduceEqDiff, Nat.reduceSub, Nat.reduceLeDiff, reduceCtorEq])
    | refine ev_skip ?_ | refine ev_block ?_ | refine ev_blk ?_ | refine ev_ret ?_ | refine ev_exit ?_ | refine evx_code_ret ?_ | refine evx_blk_ret ?_ | refine evx_lp_ret ?_
    | refine evx_code_exit ?_ | refine evx_lp_exit ?_ | refine evx_blk_hit ?_ | refine evx_blk_pass (by decide) ?_
    | refine And.intro ?_ ?_ | intro _ | decide +kernel | omega)
  refine ev_loop (ι := Nat) (fun k => [(0, .c (sRetiredS xs)), (3, .ref 4112), (4, .c (.int .i64 k))]) (fun k => [(4112, .arr true 241 2 ((mix xs ⟨0, []⟩ k).map oRetired))]) (fun _ => []) (fun k => k ≤ xs.length) (fun k => xs.length - k) 0 [] (by simp) (by simp only [go_sem, hP, ↓reduceIte, Nat.reduceAdd, Nat.reduceMul, Nat.reduceEqDiff, Nat.reduceSub, Nat.reduceLeDiff, reduceCtorEq]; simp [mix_zero, oRetired]) ?_
  intro k hk
  repeat' (first
    | exact True.intro
    | refine ev_seq ?_
    | ((first | refine vgd_go ?_ | refine ev_region hE hM (hS (by decide +kernel)) ?_ | refine ev_if ?_ | refine end_ret hE rfl rfl ?_ | refine end_norm hE rfl rfl ?_ | refine endG_ret [] hE rfl ?_ | refine endG_norm [] hE rfl ?_ | refine vcallB_of hP (s_toRetired (xs.getD k default) (hw k (by omega))) ?_ | refine vcall_A ?_); simp (maxSteps := 2000000) only [go_sem, hP, ↓reduceIte, Nat.reduceAdd, Nat.reduceMul, Nat.reduceEqDiff, Nat.reduceSub, Nat.reduceLeDiff, reduceCtorEq, mix_length hk])
    | refine ev_skip ?_ | refine ev_block ?_ | refine ev_blk ?_ | refine ev_ret ?_ | refine ev_exit ?_ | refine evx_code_ret ?_ | refine evx_blk_ret ?_ | refine evx_lp_ret ?_
    | refine evx_code_exit ?_ | refine evx_lp_exit ?_ | refine evx_blk_hit ?_ | refine evx_blk_pass (by decide) ?_
    | refine And.intro ?_ ?_ | intro _ | decide +kernel | omega)
  · exact ev_lp (k + 1) [] (by omega) (by omega) (by simp only [go_sem, hP, ↓reduceIte, Nat.reduceAdd, Nat.reduceMul, Nat.reduceEqDiff, Nat.reduceSub, Nat.reduceLeDiff, reduceCtorEq]; simp; exact ⟨wrap_succ (by omega) hx, mix_set_map (f := oRetired) (by omega)⟩)
  · rw [mix_full (by omega)]
theorem s_szRetiredS (xs : List Retired) (left : Int) (h0 : 0 ≤ left) (h1 : left ≤ 1048576) : Sat Try.prog 190 [aRetiredS xs, aI left] true (rI (lessN (wRetiredS xs) left)) := by
  refine sat_walk (fn := Try.f190) rfl rfl rfl (Nat.le_of_ble_eq_true rfl) fun fr hP hN hbnd => ?_
  have hE : (envOf fr Try.prog).Ok := envOf_ok hP
  have hM := follows_of hP
  have hS : ∀ {draw ops}, statB Try.f190.ntmps draw ops = true → statB (envOf fr Try.prog).fr.N draw ops = true := fun h => by rw [envOf_fr, hN]; exact h
  have hlen := bnd_RetiredS hbnd
  have hm : maxLen = 9223372036854775807 := rfl
  have hw : IntKind.i64.wrap (left - xs.length) = left - xs.length := i64_in _ (by omega)
  repeat' (first
    | exact True.intro
    | refine ev_seq ?_
    | ((first | refine vgd_go ?_ | refine ev_region hE hM (hS (by decide +kernel)) ?_ | refine ev_if ?_ | refine end_ret hE rfl rfl ?_ | refine end_norm hE rfl rfl ?_ | refine endG_ret [] hE rfl ?_ | refine endG_norm [] hE rfl ?_ | refine vcall_A ?_); simp (maxSteps := 2000000) only [go_sem, hP, ↓reduceIte, Nat.reduceAdd, Nat.reduceMul, Nat.reduceEqDiff, Nat.reduceSub, Nat.reduceLeDiff, reduceCtorEq, hw])
    | refine ev_skip ?_ | refine ev_block ?_ | refine ev_blk ?_ | refine ev_ret ?_ | refine ev_exit ?_ | refine evx_code_ret ?_ | refine evx_blk_ret ?_ | refine evx_lp_ret ?_
    | refine evx_code_exit ?_ | refine evx_lp_exit ?_ | refine evx_blk_hit ?_ | refine evx_blk_pass (by decide) ?_
    | refine And.intro ?_ ?_ | intro _ | decide +kernel | omega)
  · rename_i h; simp only [lessN, wRetiredS] at *; omega
  rename_i h
  refine ev_loop (ι := Nat) (fun k => [(0, .c (sRetiredS xs)), (1, .c (.int .i64 (left - xs.length - sumW wRetired (xs.take k)))), (5, .c (.int .i64 k))]) (fun k => []) (fun _ => []) (fun k => k ≤ xs.length ∧ (0 : Int) ≤ left - xs.length - sumW wRetired (xs.take k)) (fun k => xs.length - k) 0 [] (by simp [allLt_zero] <;> omega) (by simp only [go_sem, hP, ↓reduceIte, Nat.reduceAdd, Nat.reduceMul, Nat.reduceEqDiff, Nat.reduceSub, Nat.reduceLeDiff, reduceCtorEq]; simp) ?_
  intro k hk
  have hstep := fun h : k < xs.length => sumW_step (w := wRetired) (d := default) h
  have hle := sumW_le (w := wRetired) (xs := xs) (k + 1)
  repeat' (first
    | exact True.intro
    | refine ev_seq ?_
    | ((first | refine vgd_go ?_ | refine ev_region hE hM (hS (by decide +kernel)) ?_ | refine ev_if ?_ | refine end_ret hE rfl rfl ?_ | refine end_norm hE rfl rfl ?_ | refine endG_ret [] hE rfl ?_ | refine endG_norm [] hE rfl ?_ | refine vcallB_of hP (s_szRetired (xs.getD k default) _ hk.2 (by omega)) ?_ | refine vcall_A ?_); simp (maxSteps := 2000000) only [go_sem, hP, ↓reduceIte, Nat.reduceAdd, Nat.reduceMul, Nat.reduceEqDiff, Nat.reduceSub, Nat.reduceLeDiff, reduceCtorEq])
    | refine ev_skip ?_ | refine ev_block ?_ | refine ev_blk ?_ | refine ev_ret ?_ | refine ev_exit ?_ | refine evx_code_ret ?_ | refine evx_blk_ret ?_ | refine evx_lp_ret ?_
    | refine evx_code_exit ?_ | refine evx_lp_exit ?_ | refine evx_blk_hit ?_ | refine evx_blk_pass (by decide) ?_
    | refine And.intro ?_ ?_ | intro _ | decide +kernel | omega)
  · have := hstep (by omega)
    simp only [lessN, wRetiredS] at *; omega
  · rename_i hk1 hk2
    have h8 := hstep (by omega)
    have h9 : lessN (wRetired (xs.getD k default)) (left - xs.length - sumW wRetired (xs.take k)) = left - xs.length - sumW wRetired (xs.take (k + 1)) := by simp only [lessN] at *; omega
    refine ev_lp (k + 1) [] ⟨by omega, by rw [← h9]; omega⟩ (by omega) (by simp only [go_sem, hP, ↓reduceIte, Nat.reduceAdd, Nat.reduceMul, Nat.reduceEqDiff, Nat.reduceSub, Nat.reduceLeDiff, reduceCtorEq, h9]; simp; exact wrap_nat (by omega) hlen)
  · rw [sumW_done (by omega)] at hk ⊢
    simp only [lessN, wRetiredS] at *; omega
theorem s_eqRetiredS (xs ys : List Retired) : Sat Try.prog 183 [aRetiredS xs, aRetiredS ys] true (rB (decide (xs = ys))) := by
  refine sat_walk (fn := Try.f183) rfl rfl rfl (Nat.le_of_ble_eq_true rfl) fun fr hP hN hbnd => ?_
  have hE : (envOf fr Try.prog).Ok := envOf_ok hP
  have hM := follows_of hP
  have hS : ∀ {draw ops}, statB Try.f183.ntmps draw ops = true → statB (envOf fr Try.prog).fr.N draw ops = true := fun h => by rw [envOf_fr, hN]; exact h
  have hlen := bnd_RetiredS hbnd
  repeat' (first
    | exact True.intro
    | refine ev_seq ?_
    | ((first | refine vgd_go ?_ | refine ev_region hE hM (hS (by decide +kernel)) ?_ | refine ev_if ?_ | refine end_ret hE rfl rfl ?_ | refine end_norm hE rfl rfl ?_ | refine endG_ret [] hE rfl ?_ | refine endG_norm [] hE rfl ?_ | refine vcall_A ?_); simp (maxSteps := 2000000) only [go_sem, hP, ↓reduceIte, Nat.reduceAdd, Nat.reduceMul, Nat.reduceEqDiff, Nat.reduceSub, Nat.reduceLeDiff, reduceCtorEq])
    | refine ev_skip ?_ | refine ev_block ?_ | refine ev_blk ?_ | refine ev_ret ?_ | refine ev_exit ?_ | refine evx_code_ret ?_ | refine evx_blk_ret ?_ | refine evx_lp_ret ?_
    | refine evx_code_exit ?_ | refine evx_lp_exit ?_ | refine evx_blk_hit ?_ | refine evx_blk_pass (by decide) ?_
    | refine And.intro ?_ ?_ | intro _ | decide +kernel | omega)
  · rename_i h; simp at h; simp; rintro rfl; exact h rfl
  rename_i h; simp at h
  refine ev_loop (ι := Nat) (fun k => [(0, .c (sRetiredS xs)), (1, .c (sRetiredS ys)), (5, .c (.int .i64 k))]) (fun k => []) (fun _ => []) (fun k => k ≤ xs.length ∧ xs.take k = ys.take k) (fun k => xs.length - k) 0 [] (by simp [allLt_zero] <;> omega) (by simp only [go_sem, hP, ↓reduceIte, Nat.reduceAdd, Nat.reduceMul, Nat.reduceEqDiff, Nat.reduceSub, Nat.reduceLeDiff, reduceCtorEq]; simp) ?_
  intro k hk
  repeat' (first
    | exact True.intro
    | refine ev_seq ?_
    | ((first | refine vgd_go ?_ | refine ev_region hE hM (hS (by decide +kernel)) ?_ | refine ev_if ?_ | refine end_ret hE rfl rfl ?_ | refine end_norm hE rfl rfl ?_ | refine endG_ret [] hE rfl ?_ | refine endG_norm [] hE rfl ?_ | refine vcallB_of hP (s_eqRetired (xs.getD k default) (ys.getD k default)) ?_ | refine vcall_A ?_); simp (maxSteps := 2000000) only [go_sem, hP, ↓reduceIte, Nat.reduceAdd, Nat.reduceMul, Nat.reduceEqDiff, Nat.reduceSub, Nat.reduceLeDiff, reduceCtorEq])
    | refine ev_skip ?_ | refine ev_block ?_ | refine ev_blk ?_ | refine ev_ret ?_ | refine ev_exit ?_ | refine evx_code_ret ?_ | refine evx_blk_ret ?_ | refine evx_lp_ret ?_
    | refine evx_code_exit ?_ | refine evx_lp_exit ?_ | refine evx_blk_hit ?_ | refine evx_blk_pass (by decide) ?_
    | refine And.intro ?_ ?_ | intro _ | decide +kernel | omega)
  · rename_i h3; simp at h3; simp; exact eq_not (by simpa using h3)
  · rename_i h3 h4; simp at h4
    exact ev_lp (k + 1) [] ⟨by omega, eq_step (d := default) (e := default) (by omega) (by omega) hk.2 (by simpa using h4)⟩ (by omega) (by simp only [go_sem, hP, ↓reduceIte, Nat.reduceAdd, Nat.reduceMul, Nat.reduceEqDiff, Nat.reduceSub, Nat.reduceLeDiff, reduceCtorEq]; simp; exact wrap_nat (by omega) hlen)
  · simp; exact eq_done (by omega) (by omega) hk.2
theorem shp_RetiredS {n t : Nat} {cs : List C} (ht : Try.prog.underlying t = some (.slice 243)) (h : shp Try.prog (n + 4) t cs) : ∃ xs, cs = [sRetiredS xs] := by
  obtain ⟨xs, rfl, _⟩ := shp_rows (f := eRetired) (q := fun _ => True) (sz := 2) ht rfl (fun x hx => by obtain ⟨p, rfl⟩ := shp_Retired (n := n) rfl hx; exact ⟨p, rfl, trivial⟩) h
  exact ⟨xs, rfl⟩
structure Arena where
  dims : Int
  nodes : List Node
  free : List Int
  retired : List Retired
  deriving DecidableEq, Inhabited
def eArena (x : Arena) : List C := [.int .i64 x.dims, sNodeS x.nodes, sI x.free, sRetiredS x.retired]
def oArena (x : Arena) : List C := [.int .i64 x.dims, oNodeS x.nodes, oI x.free, oRetiredS x.retired]
@[go_sem] theorem eArena_eq (x : Arena) : eArena x = [.int .i64 x.dims, sNodeS x.nodes, sI x.free, sRetiredS x.retired] := rfl
@[go_sem] theorem oArena_eq (x : Arena) : oArena x = [.int .i64 x.dims, oNodeS x.nodes, oI x.free, oRetiredS x.retired] := rfl
theorem stripC_oArena (x : Arena) : Cs.strip (oArena x) = eArena x := by simp [oArena, eArena, Cs.strip, C.strip, strip_eI, strip_eNode, strip_eRetired, strip_oNode, strip_oRetired]
theorem stripC_eArena (x : Arena) : Cs.strip (eArena x) = eArena x := by simp [eArena, Cs.strip, C.strip, strip_eI, strip_eNode, strip_eRetired, strip_oNode, strip_oRetired]
@[go_sem] theorem strip_oArena (xs : List Arena) : Es.strip (xs.map oArena) = xs.map eArena := by rw [Es.strip_map]; simp [Function.comp_def, stripC_oArena]
@[go_sem] theorem strip_eArena (xs : List Arena) : Es.strip (xs.map eArena) = xs.map eArena := by rw [Es.strip_map]; simp [Function.comp_def, stripC_eArena]
@[go_sem] abbrev aArena (x : Arena) : Arg := .d (true, eArena x)
@[go_sem] abbrev pArena (x : Arena) : Arg := .pv (eArena x)
@[go_sem] abbrev rArena (x : Arena) : List Dat := [(true, oArena x)]
theorem bnd_Arena {x : Arena} {gs : List Arg} (h : Args.bnd (aArena x :: gs)) : x.nodes.length ≤ maxLen ∧ x.free.length ≤ maxLen ∧ x.retired.length ≤ maxLen := by
  have h0 := h.1.2.1.1; rw [List.length_map] at h0
  have h1 := h.1.2.2.1.1; rw [List.length_map] at h1
  have h2 := h.1.2.2.2.1.1; rw [List.length_map] at h2
  exact ⟨h0, h1, h2⟩
theorem bndp_Arena {x : Arena} {gs : List Arg} (h : Args.bnd (pArena x :: gs)) : x.nodes.length ≤ maxLen ∧ x.free.length ≤ maxLen ∧ x.retired.length ≤ maxLen := by
  have h0 := h.1.2.1.1; rw [List.length_map] at h0
  have h1 := h.1.2.2.1.1; rw [List.length_map] at h1
  have h2 := h.1.2.2.2.1.1; rw [List.length_map] at h2
  exact ⟨h0, h1, h2⟩
theorem eqArena (a b : Arena) : a = b ↔ a.dims = b.dims ∧ a.nodes = b.nodes ∧ a.free = b.free ∧ a.retired = b.retired := by cases a; cases b; simp
def wArena (x : Arena) : Nat := wNodeS x.nodes + x.free.length + wRetiredS x.retired
theorem s_toArena (x : Arena) (h : wArena x ≤ 1048576) : Sat Try.prog 157 [aArena x] true (rArena x) := by
  refine sat_walk (fn := Try.f157) rfl rfl rfl (Nat.le_of_ble_eq_true rfl) fun fr hP hN hbnd => ?_
  have hE : (envOf fr Try.prog).Ok := envOf_ok hP
  have hM := follows_of hP
  have hS : ∀ {draw ops}, statB Try.f157.ntmps draw ops = true → statB (envOf fr Try.prog).fr.N draw ops = true := fun h => by rw [envOf_fr, hN]; exact h
  simp only [wArena] at h
  repeat' (first
    | exact True.intro
    | refine ev_seq ?_
    | ((first | refine vgd_go ?_ | refine ev_region hE hM (hS (by decide +kernel)) ?_ | refine ev_if ?_ | refine end_ret hE rfl rfl ?_ | refine end_norm hE rfl rfl ?_ | refine endG_ret [] hE rfl ?_ | refine endG_norm [] hE rfl ?_ | refine vcallB_of hP (s_toNodeS x.nodes (by omega)) ?_ | refine vcallB_of hP (s_toInt64S x.free (by omega)) ?_ | refine vcallB_of hP (s_toRetiredS x.retired (by omega)) ?_ | refine vcall_A ?_); simp (maxSteps := 2000000) only [go_sem, hP, ↓reduceIte, Nat.reduceAdd, Nat.reduceMul, Nat.reduceEqDiff, Nat.reduceSub, Nat.reduceLeDiff, reduceCtorEq])
    | refine ev_skip ?_ | refine ev_block ?_ | refine ev_blk ?_ | refine ev_ret ?_ | refine ev_exit ?_ | refine evx_code_ret ?_ | refine evx_blk_ret ?_ | refine evx_lp_ret ?_
    | refine evx_code_exit ?_ | refine evx_lp_exit ?_ | refine evx_blk_hit ?_ | refine evx_blk_pass (by decide) ?_
    | refine And.intro ?_ ?_ | intro _ | decide +kernel | omega)
theorem s_szArena (x : Arena) (left : Int) (h0 : 0 ≤ left) (h1 : left ≤ 1048576) : Sat Try.prog 155 [aArena x, aI left] true (rI (lessN (wArena x) left)) := by
  refine sat_walk (fn := Try.f155) rfl rfl rfl (Nat.le_of_ble_eq_true rfl) fun fr hP hN hbnd => ?_
  have hE : (envOf fr Try.prog).Ok := envOf_ok hP
  have hM := follows_of hP
  have hS : ∀ {draw ops}, statB Try.f155.ntmps draw ops = true → statB (envOf fr Try.prog).fr.N draw ops = true := fun h => by rw [envOf_fr, hN]; exact h
  repeat' (first
    | exact True.intro
    | refine ev_seq ?_
    | ((first | refine vgd_go ?_ | refine ev_region hE hM (hS (by decide +kernel)) ?_ | refine ev_if ?_ | refine end_ret hE rfl rfl ?_ | refine end_norm hE rfl rfl ?_ | refine endG_ret [] hE rfl ?_ | refine endG_norm [] hE rfl ?_ | refine vcallB_of hP (s_szNodeS x.nodes _ (by (try simp only [lessN] at *); omega) (by (try simp only [lessN] at *); omega)) ?_ | refine vcallB_of hP (s_szInt64S x.free _ (by (try simp only [lessN] at *); omega) (by (try simp only [lessN] at *); omega)) ?_ | refine vcallB_of hP (s_szRetiredS x.retired _ (by (try simp only [lessN] at *); omega) (by (try simp only [lessN] at *); omega)) ?_ | refine vcall_A ?_); simp (maxSteps := 2000000) only [go_sem, hP, ↓reduceIte, Nat.reduceAdd, Nat.reduceMul, Nat.reduceEqDiff, Nat.reduceSub, Nat.reduceLeDiff, reduceCtorEq])
    | refine ev_skip ?_ | refine ev_block ?_ | refine ev_blk ?_ | refine ev_ret ?_ | refine ev_exit ?_ | refine evx_code_ret ?_ | refine evx_blk_ret ?_ | refine evx_lp_ret ?_
    | refine evx_code_exit ?_ | refine evx_lp_exit ?_ | refine evx_blk_hit ?_ | refine evx_blk_pass (by decide) ?_
    | refine And.intro ?_ ?_ | intro _ | decide +kernel | omega)
  all_goals simp_all only [lessN, wArena]
  all_goals omega
theorem s_eqArena (a b : Arena) : Sat Try.prog 141 [aArena a, aArena b] true (rB (decide (a = b))) := by
  refine sat_walk (fn := Try.f141) rfl rfl rfl (Nat.le_of_ble_eq_true rfl) fun fr hP hN hbnd => ?_
  have hE : (envOf fr Try.prog).Ok := envOf_ok hP
  have hM := follows_of hP
  have hS : ∀ {draw ops}, statB Try.f141.ntmps draw ops = true → statB (envOf fr Try.prog).fr.N draw ops = true := fun h => by rw [envOf_fr, hN]; exact h
  repeat' (first
    | exact True.intro
    | refine ev_seq ?_
    | ((first | refine vgd_go ?_ | refine ev_region hE hM (hS (by decide +kernel)) ?_ | refine ev_if ?_ | refine end_ret hE rfl rfl ?_ | refine end_norm hE rfl rfl ?_ | refine endG_ret [] hE rfl ?_ | refine endG_norm [] hE rfl ?_ | refine vcallB_of hP (s_eqNodeS a.nodes b.nodes) ?_ | refine vcallB_of hP (s_eqInt64S a.free b.free) ?_ | refine vcallB_of hP (s_eqRetiredS a.retired b.retired) ?_ | refine vcall_A ?_); simp (maxSteps := 2000000) only [go_sem, hP, ↓reduceIte, Nat.reduceAdd, Nat.reduceMul, Nat.reduceEqDiff, Nat.reduceSub, Nat.reduceLeDiff, reduceCtorEq])
    | refine ev_skip ?_ | refine ev_block ?_ | refine ev_blk ?_ | refine ev_ret ?_ | refine ev_exit ?_ | refine evx_code_ret ?_ | refine evx_blk_ret ?_ | refine evx_lp_ret ?_
    | refine evx_code_exit ?_ | refine evx_lp_exit ?_ | refine evx_blk_hit ?_ | refine evx_blk_pass (by decide) ?_
    | refine And.intro ?_ ?_ | intro _ | decide +kernel | omega)
  all_goals simp_all [eqArena]
theorem shp_Arena {n t : Nat} {cs : List C} (ht : (Try.prog.underlying t).bind fieldTs = some [2, 63, 23, 64]) (h : shp Try.prog (n + 8) t cs) : ∃ x, cs = eArena x := by
  obtain ⟨c0, g0, rfl, h0, c1, g1, rfl, h1, c2, g2, rfl, h2, c3, g3, rfl, h3, rfl⟩ := shp_struct ht h
  obtain ⟨v0, rfl, _⟩ := shp_i64 (n := n + 6) rfl h0
  obtain ⟨v1, rfl⟩ := shp_NodeS (n := n + 0) rfl h1
  obtain ⟨v2, rfl, _⟩ := shp_ints (n := n + 5) (e := 2) rfl rfl rfl h2
  obtain ⟨v3, rfl⟩ := shp_RetiredS (n := n + 3) rfl h3
  exact ⟨⟨v0, v1, v2, v3⟩, rfl⟩
structure Tree where
  style : Int
  arena : Arena
  root : Int
  rootNsn : Int
  counter : Int
  deriving DecidableEq, Inhabited
def eTree (x : Tree) : List C := [.int .i64 x.style, .int .i64 x.arena.dims, sNodeS x.arena.nodes, sI x.arena.free, sRetiredS x.arena.retired, .int .i64 x.root, .int .i64 x.rootNsn, .int .i64 x.counter]
def oTree (x : Tree) : List C := [.int .i64 x.style, .int .i64 x.arena.dims, oNodeS x.arena.nodes, oI x.arena.free, oRetiredS x.arena.retired, .int .i64 x.root, .int .i64 x.rootNsn, .int .i64 x.counter]
@[go_sem] theorem eTree_eq (x : Tree) : eTree x = [.int .i64 x.style, .int .i64 x.arena.dims, sNodeS x.arena.nodes, sI x.arena.free, sRetiredS x.arena.retired, .int .i64 x.root, .int .i64 x.rootNsn, .int .i64 x.counter] := rfl
@[go_sem] theorem oTree_eq (x : Tree) : oTree x = [.int .i64 x.style, .int .i64 x.arena.dims, oNodeS x.arena.nodes, oI x.arena.free, oRetiredS x.arena.retired, .int .i64 x.root, .int .i64 x.rootNsn, .int .i64 x.counter] := rfl
theorem stripC_oTree (x : Tree) : Cs.strip (oTree x) = eTree x := by simp [oTree, eTree, Cs.strip, C.strip, strip_eI, strip_eNode, strip_eRetired, strip_oNode, strip_oRetired]
theorem stripC_eTree (x : Tree) : Cs.strip (eTree x) = eTree x := by simp [eTree, Cs.strip, C.strip, strip_eI, strip_eNode, strip_eRetired, strip_oNode, strip_oRetired]
@[go_sem] theorem strip_oTree (xs : List Tree) : Es.strip (xs.map oTree) = xs.map eTree := by rw [Es.strip_map]; simp [Function.comp_def, stripC_oTree]
@[go_sem] theorem strip_eTree (xs : List Tree) : Es.strip (xs.map eTree) = xs.map eTree := by rw [Es.strip_map]; simp [Function.comp_def, stripC_eTree]
@[go_sem] abbrev aTree (x : Tree) : Arg := .d (true, eTree x)
@[go_sem] abbrev pTree (x : Tree) : Arg := .pv (eTree x)
@[go_sem] abbrev rTree (x : Tree) : List Dat := [(true, oTree x)]
theorem bnd_Tree {x : Tree} {gs : List Arg} (h : Args.bnd (aTree x :: gs)) : x.arena.nodes.length ≤ maxLen ∧ x.arena.free.length ≤ maxLen ∧ x.arena.retired.length ≤ maxLen := by
  have h0 := h.1.2.2.1.1; rw [List.length_map] at h0
  have h1 := h.1.2.2.2.1.1; rw [List.length_map] at h1
  have h2 := h.1.2.2.2.2.1.1; rw [List.length_map] at h2
  exact ⟨h0, h1, h2⟩
theorem bndp_Tree {x : Tree} {gs : List Arg} (h : Args.bnd (pTree x :: gs)) : x.arena.nodes.length ≤ maxLen ∧ x.arena.free.length ≤ maxLen ∧ x.arena.retired.length ≤ maxLen := by
  have h0 := h.1.2.2.1.1; rw [List.length_map] at h0
  have h1 := h.1.2.2.2.1.1; rw [List.length_map] at h1
  have h2 := h.1.2.2.2.2.1.1; rw [List.length_map] at h2
  exact ⟨h0, h1, h2⟩
theorem eqTree (a b : Tree) : a = b ↔ a.style = b.style ∧ a.arena = b.arena ∧ a.root = b.root ∧ a.rootNsn = b.rootNsn ∧ a.counter = b.counter := by cases a; cases b; simp
def wTree (x : Tree) : Nat := wArena x.arena
theorem s_toTree (x : Tree) (h : wTree x ≤ 1048576) : Sat Try.prog 99 [aTree x] true (rTree x) := by
  refine sat_walk (fn := Try.f99) rfl rfl rfl (Nat.le_of_ble_eq_true rfl) fun fr hP hN hbnd => ?_
  have hE : (envOf fr Try.prog).Ok := envOf_ok hP
  have hM := follows_of hP
  have hS : ∀ {draw ops}, statB Try.f99.ntmps draw ops = true → statB (envOf fr Try.prog).fr.N draw ops = true := fun h => by rw [envOf_fr, hN]; exact h
  simp only [wTree] at h
  repeat' (first
    | exact True.intro
    | refine ev_seq ?_
    | ((first | refine vgd_go ?_ | refine ev_region hE hM (hS (by decide +kernel)) ?_ | refine ev_if ?_ | refine end_ret hE rfl rfl ?_ | refine end_norm hE rfl rfl ?_ | refine endG_ret [] hE rfl ?_ | refine endG_norm [] hE rfl ?_ | refine vcallB_of hP (s_toArena x.arena (by omega)) ?_ | refine vcall_A ?_); simp (maxSteps := 2000000) only [go_sem, hP, ↓reduceIte, Nat.reduceAdd, Nat.reduceMul, Nat.reduceEqDiff, Nat.reduceSub, Nat.reduceLeDiff, reduceCtorEq])
    | refine ev_skip ?_ | refine ev_block ?_ | refine ev_blk ?_ | refine ev_ret ?_ | refine ev_exit ?_ | refine evx_code_ret ?_ | refine evx_blk_ret ?_ | refine evx_lp_ret ?_
    | refine evx_code_exit ?_ | refine evx_lp_exit ?_ | refine evx_blk_hit ?_ | refine evx_blk_pass (by decide) ?_
    | refine And.intro ?_ ?_ | intro _ | decide +kernel | omega)
theorem s_szTree (x : Tree) (left : Int) (h0 : 0 ≤ left) (h1 : left ≤ 1048576) : Sat Try.prog 95 [aTree x, aI left] true (rI (lessN (wTree x) left)) := by
  refine sat_walk (fn := Try.f95) rfl rfl rfl (Nat.le_of_ble_eq_true rfl) fun fr hP hN hbnd => ?_
  have hE : (envOf fr Try.prog).Ok := envOf_ok hP
  have hM := follows_of hP
  have hS : ∀ {draw ops}, statB Try.f95.ntmps draw ops = true → statB (envOf fr Try.prog).fr.N draw ops = true := fun h => by rw [envOf_fr, hN]; exact h
  repeat' (first
    | exact True.intro
    | refine ev_seq ?_
    | ((first | refine vgd_go ?_ | refine ev_region hE hM (hS (by decide +kernel)) ?_ | refine ev_if ?_ | refine end_ret hE rfl rfl ?_ | refine end_norm hE rfl rfl ?_ | refine endG_ret [] hE rfl ?_ | refine endG_norm [] hE rfl ?_ | refine vcallB_of hP (s_szArena x.arena _ (by (try simp only [lessN] at *); omega) (by (try simp only [lessN] at *); omega)) ?_ | refine vcall_A ?_); simp (maxSteps := 2000000) only [go_sem, hP, ↓reduceIte, Nat.reduceAdd, Nat.reduceMul, Nat.reduceEqDiff, Nat.reduceSub, Nat.reduceLeDiff, reduceCtorEq])
    | refine ev_skip ?_ | refine ev_block ?_ | refine ev_blk ?_ | refine ev_ret ?_ | refine ev_exit ?_ | refine evx_code_ret ?_ | refine evx_blk_ret ?_ | refine evx_lp_ret ?_
    | refine evx_code_exit ?_ | refine evx_lp_exit ?_ | refine evx_blk_hit ?_ | refine evx_blk_pass (by decide) ?_
    | refine And.intro ?_ ?_ | intro _ | decide +kernel | omega)
  all_goals simp_all only [lessN, wTree]
  all_goals omega
theorem s_eqTree (a b : Tree) : Sat Try.prog 80 [aTree a, aTree b] true (rB (decide (a = b))) := by
  refine sat_walk (fn := Try.f80) rfl rfl rfl (Nat.le_of_ble_eq_true rfl) fun fr hP hN hbnd => ?_
  have hE : (envOf fr Try.prog).Ok := envOf_ok hP
  have hM := follows_of hP
  have hS : ∀ {draw ops}, statB Try.f80.ntmps draw ops = true → statB (envOf fr Try.prog).fr.N draw ops = true := fun h => by rw [envOf_fr, hN]; exact h
  repeat' (first
    | exact True.intro
    | refine ev_seq ?_
    | ((first | refine vgd_go ?_ | refine ev_region hE hM (hS (by decide +kernel)) ?_ | refine ev_if ?_ | refine end_ret hE rfl rfl ?_ | refine end_norm hE rfl rfl ?_ | refine endG_ret [] hE rfl ?_ | refine endG_norm [] hE rfl ?_ | refine vcallB_of hP (s_eqArena a.arena b.arena) ?_ | refine vcall_A ?_); simp (maxSteps := 2000000) only [go_sem, hP, ↓reduceIte, Nat.reduceAdd, Nat.reduceMul, Nat.reduceEqDiff, Nat.reduceSub, Nat.reduceLeDiff, reduceCtorEq])
    | refine ev_skip ?_ | refine ev_block ?_ | refine ev_blk ?_ | refine ev_ret ?_ | refine ev_exit ?_ | refine evx_code_ret ?_ | refine evx_blk_ret ?_ | refine evx_lp_ret ?_
    | refine evx_code_exit ?_ | refine evx_lp_exit ?_ | refine evx_blk_hit ?_ | refine evx_blk_pass (by decide) ?_
    | refine And.intro ?_ ?_ | intro _ | decide +kernel | omega)
  all_goals simp_all [eqTree]
theorem shp_Tree {n t : Nat} {cs : List C} (ht : (Try.prog.underlying t).bind fieldTs = some [2, 66, 2, 2, 2]) (h : shp Try.prog (n + 9) t cs) : ∃ x, cs = eTree x := by
  obtain ⟨c0, g0, rfl, h0, c1, g1, rfl, h1, c2, g2, rfl, h2, c3, g3, rfl, h3, c4, g4, rfl, h4, rfl⟩ := shp_struct ht h
  obtain ⟨v0, rfl, _⟩ := shp_i64 (n := n + 7) rfl h0
  obtain ⟨v1, rfl⟩ := shp_Arena (n := n + 0) rfl h1
  obtain ⟨v2, rfl, _⟩ := shp_i64 (n := n + 7) rfl h2
  obtain ⟨v3, rfl, _⟩ := shp_i64 (n := n + 7) rfl h3
  obtain ⟨v4, rfl, _⟩ := shp_i64 (n := n + 7) rfl h4
  exact ⟨⟨v0, v1, v2, v3, v4⟩, rfl⟩
structure Op where
  kind : Int
  pair : Pair
  query : Query
  deriving DecidableEq, Inhabited
def eOp (x : Op) : List C := [.int .i64 x.kind, .int .i64 x.pair.id, sI x.pair.rect.low, sI x.pair.rect.high, .int .i64 x.query.kind, sI x.query.rect.low, sI x.query.rect.high, sI x.query.point, .int .i64 x.query.k]
def oOp (x : Op) : List C := [.int .i64 x.kind, .int .i64 x.pair.id, oI x.pair.rect.low, oI x.pair.rect.high, .int .i64 x.query.kind, oI x.query.rect.low, oI x.query.rect.high, oI x.query.point, .int .i64 x.query.k]
@[go_sem] theorem eOp_eq (x : Op) : eOp x = [.int .i64 x.kind, .int .i64 x.pair.id, sI x.pair.rect.low, sI x.pair.rect.high, .int .i64 x.query.kind, sI x.query.rect.low, sI x.query.rect.high, sI x.query.point, .int .i64 x.query.k] := rfl
@[go_sem] theorem oOp_eq (x : Op) : oOp x = [.int .i64 x.kind, .int .i64 x.pair.id, oI x.pair.rect.low, oI x.pair.rect.high, .int .i64 x.query.kind, oI x.query.rect.low, oI x.query.rect.high, oI x.query.point, .int .i64 x.query.k] := rfl
theorem stripC_oOp (x : Op) : Cs.strip (oOp x) = eOp x := by simp [oOp, eOp, Cs.strip, C.strip, strip_eI]
theorem stripC_eOp (x : Op) : Cs.strip (eOp x) = eOp x := by simp [eOp, Cs.strip, C.strip, strip_eI]
@[go_sem] theorem strip_oOp (xs : List Op) : Es.strip (xs.map oOp) = xs.map eOp := by rw [Es.strip_map]; simp [Function.comp_def, stripC_oOp]
@[go_sem] theorem strip_eOp (xs : List Op) : Es.strip (xs.map eOp) = xs.map eOp := by rw [Es.strip_map]; simp [Function.comp_def, stripC_eOp]
@[go_sem] abbrev aOp (x : Op) : Arg := .d (true, eOp x)
@[go_sem] abbrev pOp (x : Op) : Arg := .pv (eOp x)
@[go_sem] abbrev rOp (x : Op) : List Dat := [(true, oOp x)]
theorem bnd_Op {x : Op} {gs : List Arg} (h : Args.bnd (aOp x :: gs)) : x.pair.rect.low.length ≤ maxLen ∧ x.pair.rect.high.length ≤ maxLen ∧ x.query.rect.low.length ≤ maxLen ∧ x.query.rect.high.length ≤ maxLen ∧ x.query.point.length ≤ maxLen := by
  have h0 := h.1.2.2.1.1; rw [List.length_map] at h0
  have h1 := h.1.2.2.2.1.1; rw [List.length_map] at h1
  have h2 := h.1.2.2.2.2.2.1.1; rw [List.length_map] at h2
  have h3 := h.1.2.2.2.2.2.2.1.1; rw [List.length_map] at h3
  have h4 := h.1.2.2.2.2.2.2.2.1.1; rw [List.length_map] at h4
  exact ⟨h0, h1, h2, h3, h4⟩
theorem bndp_Op {x : Op} {gs : List Arg} (h : Args.bnd (pOp x :: gs)) : x.pair.rect.low.length ≤ maxLen ∧ x.pair.rect.high.length ≤ maxLen ∧ x.query.rect.low.length ≤ maxLen ∧ x.query.rect.high.length ≤ maxLen ∧ x.query.point.length ≤ maxLen := by
  have h0 := h.1.2.2.1.1; rw [List.length_map] at h0
  have h1 := h.1.2.2.2.1.1; rw [List.length_map] at h1
  have h2 := h.1.2.2.2.2.2.1.1; rw [List.length_map] at h2
  have h3 := h.1.2.2.2.2.2.2.1.1; rw [List.length_map] at h3
  have h4 := h.1.2.2.2.2.2.2.2.1.1; rw [List.length_map] at h4
  exact ⟨h0, h1, h2, h3, h4⟩
theorem eqOp (a b : Op) : a = b ↔ a.kind = b.kind ∧ a.pair = b.pair ∧ a.query = b.query := by cases a; cases b; simp
def wOp (x : Op) : Nat := wR x.pair.rect + wQuery x.query
end Go.Proofs.Ytcephdpooijciaa.W
