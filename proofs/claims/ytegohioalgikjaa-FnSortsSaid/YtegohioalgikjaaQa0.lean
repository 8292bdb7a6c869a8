/- Contracts of functions that FnSorts reaches: what each returns; it writes to nothing of old. No condition but those that each theorem states. -/
import Derived.Test.YtegohioalgikjaaPa
open Go Go.Vm Go.Proofs Go.IntWalk Go.RowKit
set_option maxRecDepth 100000
set_option maxHeartbeats 4000000
set_option linter.unusedSimpArgs false
set_option linter.unusedVariables false
set_option linter.unusedSectionVars false
namespace Go.Proofs.Ytegohioalgikjaa.W
attribute [local irreducible] kJ ev evx vops vstep vgo vgd vget vcall vcallFn vcallA vcallB vts vres vcond vbin
@[go_sem] abbrev aI (n : Int) : Arg := .d (false, [.int .i64 n])
@[go_sem] abbrev rI (n : Int) : List Dat := [(false, [.int .i64 n])]
@[go_sem] abbrev rB (b : Bool) : List Dat := [(false, [.bool b])]
/-- A slice of numbers, as an argument and as a result of its own. -/
@[go_sem] abbrev sI (xs : List Int) : C := .sl none 1 (xs.map eI)
@[go_sem] abbrev oI (xs : List Int) : C := .sl (some 2) 1 (xs.map eI)
@[go_sem] abbrev aL (xs : List Int) : Arg := .d (false, [sI xs])
@[go_sem] abbrev rL (xs : List Int) : List Dat := [(false, [oI xs])]
theorem bndL {xs : List Int} {gs : List Arg} (h : Args.bnd (aL xs :: gs)) : xs.length ≤ maxLen := by
  have := h.1.1.1; rwa [List.length_map] at this
def inB (a b c : Int) : Bool := decide (b ≤ a) && decide (a ≤ c)
theorem s_l1In (a b c : Int) : Sat Try.prog 37 [aI a, aI b, aI c] true (rB (inB a b c)) := by
  refine sat_walk (fn := Try.f37) rfl rfl rfl (Nat.le_of_ble_eq_true rfl) fun fr hP hN hbnd => ?_
  have hE : (envOf fr Try.prog).Ok := envOf_ok hP
  have hM := follows_of hP
  have hS : ∀ {draw ops}, statB Try.f37.ntmps draw ops = true → statB (envOf fr Try.prog).fr.N draw ops = true := fun h => by rw [envOf_fr, hN]; exact h
  repeat' (first
    | exact True.intro
    | refine ev_seq ?_
    | ((first | refine vgd_go ?_ | refine ev_region hE hM (hS (by decide +kernel)) ?_ | refine ev_if ?_ | refine end_ret hE rfl rfl ?_ | refine end_norm hE rfl rfl ?_ | refine endG_ret [] hE rfl ?_ | refine endG_norm [] hE rfl ?_ | refine vcall_A ?_); simp (maxSteps := 2000000) only [go_sem, hP, ↓reduceIte, Nat.reduceAdd, Nat.reduceMul, Nat.reduceEqDiff, Nat.reduceSub, Nat.reduceLeDiff, reduceCtorEq])
    | refine ev_skip ?_ | refine ev_block ?_ | refine ev_blk ?_ | refine ev_ret ?_ | refine ev_exit ?_ | refine evx_code_ret ?_ | refine evx_blk_ret ?_ | refine evx_lp_ret ?_
    | refine evx_code_exit ?_ | refine evx_lp_exit ?_ | refine evx_blk_hit ?_ | refine evx_blk_pass (by decide) ?_
    | refine And.intro ?_ ?_ | intro _ | decide +kernel | omega)
  all_goals simp_all [inB] <;> omega
theorem s_within (a b c : Int) : Sat Try.prog 29 [aI a, aI b, aI c] true (rB (inB a b c)) := by
  refine sat_walk (fn := Try.f29) rfl rfl rfl (Nat.le_of_ble_eq_true rfl) fun fr hP hN hbnd => ?_
  have hE : (envOf fr Try.prog).Ok := envOf_ok hP
  have hM := follows_of hP
  have hS : ∀ {draw ops}, statB Try.f29.ntmps draw ops = true → statB (envOf fr Try.prog).fr.N draw ops = true := fun h => by rw [envOf_fr, hN]; exact h
  repeat' (first
    | exact True.intro
    | refine ev_seq ?_
    | ((first | refine vgd_go ?_ | refine ev_region hE hM (hS (by decide +kernel)) ?_ | refine ev_if ?_ | refine end_ret hE rfl rfl ?_ | refine end_norm hE rfl rfl ?_ | refine endG_ret [] hE rfl ?_ | refine endG_norm [] hE rfl ?_ | refine vcall_A ?_); simp (maxSteps := 2000000) only [go_sem, hP, ↓reduceIte, Nat.reduceAdd, Nat.reduceMul, Nat.reduceEqDiff, Nat.reduceSub, Nat.reduceLeDiff, reduceCtorEq])
    | refine ev_skip ?_ | refine ev_block ?_ | refine ev_blk ?_ | refine ev_ret ?_ | refine ev_exit ?_ | refine evx_code_ret ?_ | refine evx_blk_ret ?_ | refine evx_lp_ret ?_
    | refine evx_code_exit ?_ | refine evx_lp_exit ?_ | refine evx_blk_hit ?_ | refine evx_blk_pass (by decide) ?_
    | refine And.intro ?_ ?_ | intro _ | decide +kernel | omega)
  all_goals simp_all [inB] <;> omega
theorem s_isDims (a : Int) : Sat Try.prog 57 [aI a] true (rB (inB a 2 3)) := by
  refine sat_walk (fn := Try.f57) rfl rfl rfl (Nat.le_of_ble_eq_true rfl) fun fr hP hN hbnd => ?_
  have hE : (envOf fr Try.prog).Ok := envOf_ok hP
  have hM := follows_of hP
  have hS : ∀ {draw ops}, statB Try.f57.ntmps draw ops = true → statB (envOf fr Try.prog).fr.N draw ops = true := fun h => by rw [envOf_fr, hN]; exact h
  repeat' (first
    | exact True.intro
    | refine ev_seq ?_
    | ((first | refine vgd_go ?_ | refine ev_region hE hM (hS (by decide +kernel)) ?_ | refine ev_if ?_ | refine end_ret hE rfl rfl ?_ | refine end_norm hE rfl rfl ?_ | refine endG_ret [] hE rfl ?_ | refine endG_norm [] hE rfl ?_ | refine vcallB_of hP (s_within _ _ _) ?_ | refine vcall_A ?_); simp (maxSteps := 2000000) only [go_sem, hP, ↓reduceIte, Nat.reduceAdd, Nat.reduceMul, Nat.reduceEqDiff, Nat.reduceSub, Nat.reduceLeDiff, reduceCtorEq])
    | refine ev_skip ?_ | refine ev_block ?_ | refine ev_blk ?_ | refine ev_ret ?_ | refine ev_exit ?_ | refine evx_code_ret ?_ | refine evx_blk_ret ?_ | refine evx_lp_ret ?_
    | refine evx_code_exit ?_ | refine evx_lp_exit ?_ | refine evx_blk_hit ?_ | refine evx_blk_pass (by decide) ?_
    | refine And.intro ?_ ?_ | intro _ | decide +kernel | omega)
def pf (xs : List Int) (d : Int) : Int := if inB d 2 3 then (if (xs.length : Int) = d then (if xs.all (inB · (-1000) 1000) then 0 else 3) else 2) else 3
theorem s_specPointFault (xs : List Int) (d : Int) : Sat Try.prog 43 [aL xs, aI d] true (rI (pf xs d)) := by
  refine sat_walk (fn := Try.f43) rfl rfl rfl (Nat.le_of_ble_eq_true rfl) fun fr hP hN hbnd => ?_
  have hE : (envOf fr Try.prog).Ok := envOf_ok hP
  have hM := follows_of hP
  have hS : ∀ {draw ops}, statB Try.f43.ntmps draw ops = true → statB (envOf fr Try.prog).fr.N draw ops = true := fun h => by rw [envOf_fr, hN]; exact h
  have hlen := bndL hbnd
  repeat' (first
    | exact True.intro
    | refine ev_seq ?_
    | ((first | refine vgd_go ?_ | refine ev_region hE hM (hS (by decide +kernel)) ?_ | refine ev_if ?_ | refine end_ret hE rfl rfl ?_ | refine end_norm hE rfl rfl ?_ | refine endG_ret [] hE rfl ?_ | refine endG_norm [] hE rfl ?_ | refine vcallB_of hP (s_l1In _ _ _) ?_ | refine vcall_A ?_); simp (maxSteps := 2000000) only [go_sem, hP, ↓reduceIte, Nat.reduceAdd, Nat.reduceMul, Nat.reduceEqDiff, Nat.reduceSub, Nat.reduceLeDiff, reduceCtorEq])
    | refine ev_skip ?_ | refine ev_block ?_ | refine ev_blk ?_ | refine ev_ret ?_ | refine ev_exit ?_ | refine evx_code_ret ?_ | refine evx_blk_ret ?_ | refine evx_lp_ret ?_
    | refine evx_code_exit ?_ | refine evx_lp_exit ?_ | refine evx_blk_hit ?_ | refine evx_blk_pass (by decide) ?_
    | refine And.intro ?_ ?_ | intro _ | decide +kernel | omega)
  · simp_all [pf]
  · simp_all [pf]
  rename_i h1 h2
  refine ev_loop (ι := Nat) (fun k => [(0, .c (sI xs)), (5, .c (.int .i64 k))]) (fun _ => []) (fun _ => []) (fun k => k ≤ xs.length ∧ (xs.take k).all (inB · (-1000) 1000)) (fun k => xs.length - k) 0 [] ⟨by simp, by simp⟩ (by simp only [go_sem, hP, ↓reduceIte, Nat.reduceAdd, Nat.reduceMul, Nat.reduceEqDiff, Nat.reduceSub, Nat.reduceLeDiff, reduceCtorEq]; simp) ?_
  intro k hk
  repeat' (first
    | exact True.intro
    | refine ev_seq ?_
    | ((first | refine vgd_go ?_ | refine ev_region hE hM (hS (by decide +kernel)) ?_ | refine ev_if ?_ | refine end_ret hE rfl rfl ?_ | refine end_norm hE rfl rfl ?_ | refine endG_ret [] hE rfl ?_ | refine endG_norm [] hE rfl ?_ | refine vcallB_of hP (s_l1In _ _ _) ?_ | refine vcall_A ?_); simp (maxSteps := 2000000) only [go_sem, hP, ↓reduceIte, Nat.reduceAdd, Nat.reduceMul, Nat.reduceEqDiff, Nat.reduceSub, Nat.reduceLeDiff, reduceCtorEq])
    | refine ev_skip ?_ | refine ev_block ?_ | refine ev_blk ?_ | refine ev_ret ?_ | refine ev_exit ?_ | refine evx_code_ret ?_ | refine evx_blk_ret ?_ | refine evx_lp_ret ?_
    | refine evx_code_exit ?_ | refine evx_lp_exit ?_ | refine evx_blk_hit ?_ | refine evx_blk_pass (by decide) ?_
    | refine And.intro ?_ ?_ | intro _ | decide +kernel | omega)
  · rename_i h3 h4
    simp_all [pf, all_not (p := (inB · (-1000) 1000)) (xs := xs) (k := k) (d := default) (by omega) (by simpa using h4)]
  · rename_i h3 h4
    refine ev_lp (k + 1) [] ⟨by omega, all_step (d := default) (by omega) hk.2 (by simpa using h4)⟩ (by omega) (by simp only [go_sem, hP, ↓reduceIte, Nat.reduceAdd, Nat.reduceMul, Nat.reduceEqDiff, Nat.reduceSub, Nat.reduceLeDiff, reduceCtorEq]; simp; exact wrap_nat (by omega) hlen)
  · rename_i h3
    simp_all [pf, all_done (p := (inB · (-1000) 1000)) (xs := xs) (k := k) (by omega) hk.2]
theorem s_IndexFuncI (xs : List Int) (sem : List Dat → List Dat → Prop) (p : Int → Bool) (hp : ∀ x ∈ xs, sem [(false, [.int .i64 x])] [(false, [.bool (p x)])]) :
    Sat Try.prog 128 [aL xs, .fn sem] true (rI (if xs.any p then (xs.findIdx p : Int) else -1)) := by
  refine sat_walk (fn := Try.f128) rfl rfl rfl (Nat.le_of_ble_eq_true rfl) fun fr hP hN hbnd => ?_
  have hE : (envOf fr Try.prog).Ok := envOf_ok hP
  have hM := follows_of hP
  have hS : ∀ {draw ops}, statB Try.f128.ntmps draw ops = true → statB (envOf fr Try.prog).fr.N draw ops = true := fun h => by rw [envOf_fr, hN]; exact h
  have hlen := bndL hbnd
  repeat' (first
    | exact True.intro
    | refine ev_seq ?_
    | ((first | refine vgd_go ?_ | refine ev_region hE hM (hS (by decide +kernel)) ?_ | refine ev_if ?_ | refine end_ret hE rfl rfl ?_ | refine end_norm hE rfl rfl ?_ | refine endG_ret [] hE rfl ?_ | refine endG_norm [] hE rfl ?_ | refine vcall_A ?_); simp (maxSteps := 2000000) only [go_sem, hP, ↓reduceIte, Nat.reduceAdd, Nat.reduceMul, Nat.reduceEqDiff, Nat.reduceSub, Nat.reduceLeDiff, reduceCtorEq])
    | refine ev_skip ?_ | refine ev_block ?_ | refine ev_blk ?_ | refine ev_ret ?_ | refine ev_exit ?_ | refine evx_code_ret ?_ | refine evx_blk_ret ?_ | refine evx_lp_ret ?_
    | refine evx_code_exit ?_ | refine evx_lp_exit ?_ | refine evx_blk_hit ?_ | refine evx_blk_pass (by decide) ?_
    | refine And.intro ?_ ?_ | intro _ | decide +kernel | omega)
  refine ev_loop (ι := Nat) (fun k => [(0, .c (sI xs)), (1, .fn sem), (7, .c (.int .i64 xs.length)), (8, .c (.int .i64 k))]) (fun k => []) (fun _ => []) (fun k => k ≤ xs.length ∧ (xs.take k).any p = false) (fun k => xs.length - k) 0 [] (by simp) (by simp only [go_sem, hP, ↓reduceIte, Nat.reduceAdd, Nat.reduceMul, Nat.reduceEqDiff, Nat.reduceSub, Nat.reduceLeDiff, reduceCtorEq]; simp) ?_
  intro k hk
  have hq : k < xs.length → sem [(false, [.int .i64 (xs.getD k default)])] [(false, [.bool (p (xs.getD k default))])] := fun h => hp _ (getD_mem h)
  repeat' (first
    | exact True.intro
    | refine ev_seq ?_
    | ((first | refine vgd_go ?_ | refine ev_region hE hM (hS (by decide +kernel)) ?_ | refine ev_if ?_ | refine end_ret hE rfl rfl ?_ | refine end_norm hE rfl rfl ?_ | refine endG_ret [] hE rfl ?_ | refine endG_norm [] hE rfl ?_ | refine vcallFn_of [(false, [.int .i64 (xs.getD k default)])] [] [(false, [.bool (p (xs.getD k default))])] (by simp only [go_sem, hP, ↓reduceIte, Nat.reduceAdd, Nat.reduceMul, Nat.reduceEqDiff, Nat.reduceSub, Nat.reduceLeDiff, reduceCtorEq]) (hq (by omega)) ?_ | refine vcall_A ?_); simp (maxSteps := 2000000) only [go_sem, hP, ↓reduceIte, Nat.reduceAdd, Nat.reduceMul, Nat.reduceEqDiff, Nat.reduceSub, Nat.reduceLeDiff, reduceCtorEq])
    | refine ev_skip ?_ | refine ev_block ?_ | refine ev_blk ?_ | refine ev_ret ?_ | refine ev_exit ?_ | refine evx_code_ret ?_ | refine evx_blk_ret ?_ | refine evx_lp_ret ?_
    | refine evx_code_exit ?_ | refine evx_lp_exit ?_ | refine evx_blk_hit ?_ | refine evx_blk_pass (by decide) ?_
    | refine And.intro ?_ ?_ | intro _ | decide +kernel | omega)
  · rename_i h1 h2
    rw [any_yes (d := default) (by omega) h2, findIdx_here (d := default) (by omega) hk.2 h2]; rfl
  · rename_i h1 h2
    exact ev_lp (k + 1) [] ⟨by omega, any_step (d := default) (by omega) hk.2 h2⟩ (by omega) (by simp only [go_sem, hP, ↓reduceIte, Nat.reduceAdd, Nat.reduceMul, Nat.reduceEqDiff, Nat.reduceSub, Nat.reduceLeDiff, reduceCtorEq]; simp; exact wrap_nat (by omega) hlen)
  · rw [any_done (by omega) hk.2]; rfl
theorem s_ContainsFuncI (xs : List Int) (sem : List Dat → List Dat → Prop) (p : Int → Bool) (hp : ∀ x ∈ xs, sem [(false, [.int .i64 x])] [(false, [.bool (p x)])]) :
    Sat Try.prog 103 [aL xs, .fn sem] true (rB (xs.any p)) := by
  refine sat_walk (fn := Try.f103) rfl rfl rfl (Nat.le_of_ble_eq_true rfl) fun fr hP hN hbnd => ?_
  have hE : (envOf fr Try.prog).Ok := envOf_ok hP
  have hM := follows_of hP
  have hS : ∀ {draw ops}, statB Try.f103.ntmps draw ops = true → statB (envOf fr Try.prog).fr.N draw ops = true := fun h => by rw [envOf_fr, hN]; exact h
  repeat' (first
    | exact True.intro
    | refine ev_seq ?_
    | ((first | refine vgd_go ?_ | refine ev_region hE hM (hS (by decide +kernel)) ?_ | refine ev_if ?_ | refine end_ret hE rfl rfl ?_ | refine end_norm hE rfl rfl ?_ | refine endG_ret [] hE rfl ?_ | refine endG_norm [] hE rfl ?_ | refine vcallB_of hP (s_IndexFuncI _ _ p hp) ?_ | refine vcall_A ?_); simp (maxSteps := 2000000) only [go_sem, hP, ↓reduceIte, Nat.reduceAdd, Nat.reduceMul, Nat.reduceEqDiff, Nat.reduceSub, Nat.reduceLeDiff, reduceCtorEq])
    | refine ev_skip ?_ | refine ev_block ?_ | refine ev_blk ?_ | refine ev_ret ?_ | refine ev_exit ?_ | refine evx_code_ret ?_ | refine evx_blk_ret ?_ | refine evx_lp_ret ?_
    | refine evx_code_exit ?_ | refine evx_lp_exit ?_ | refine evx_blk_hit ?_ | refine evx_blk_pass (by decide) ?_
    | refine And.intro ?_ ?_ | intro _ | decide +kernel | omega)
  · split <;> simp_all <;> omega
theorem s_PointFault1 (a : Int) : Sat Try.prog 104 [aI a] true (rB (!inB a (-1000) 1000)) := by
  refine sat_walk (fn := Try.f104) rfl rfl rfl (Nat.le_of_ble_eq_true rfl) fun fr hP hN hbnd => ?_
  have hE : (envOf fr Try.prog).Ok := envOf_ok hP
  have hM := follows_of hP
  have hS : ∀ {draw ops}, statB Try.f104.ntmps draw ops = true → statB (envOf fr Try.prog).fr.N draw ops = true := fun h => by rw [envOf_fr, hN]; exact h
  repeat' (first
    | exact True.intro
    | refine ev_seq ?_
    | ((first | refine vgd_go ?_ | refine ev_region hE hM (hS (by decide +kernel)) ?_ | refine ev_if ?_ | refine end_ret hE rfl rfl ?_ | refine end_norm hE rfl rfl ?_ | refine endG_ret [] hE rfl ?_ | refine endG_norm [] hE rfl ?_ | refine vcallB_of hP (s_within _ _ _) ?_ | refine vcall_A ?_); simp (maxSteps := 2000000) only [go_sem, hP, ↓reduceIte, Nat.reduceAdd, Nat.reduceMul, Nat.reduceEqDiff, Nat.reduceSub, Nat.reduceLeDiff, reduceCtorEq])
    | refine ev_skip ?_ | refine ev_block ?_ | refine ev_blk ?_ | refine ev_ret ?_ | refine ev_exit ?_ | refine evx_code_ret ?_ | refine evx_blk_ret ?_ | refine evx_lp_ret ?_
    | refine evx_code_exit ?_ | refine evx_lp_exit ?_ | refine evx_blk_hit ?_ | refine evx_blk_pass (by decide) ?_
    | refine And.intro ?_ ?_ | intro _ | decide +kernel | omega)
theorem s_implPointFault (xs : List Int) (d : Int) : Sat Try.prog 59 [aL xs, aI d] true (rI (pf xs d)) := by
  refine sat_walk (fn := Try.f59) rfl rfl rfl (Nat.le_of_ble_eq_true rfl) fun fr hP hN hbnd => ?_
  have hE : (envOf fr Try.prog).Ok := envOf_ok hP
  have hM := follows_of hP
  have hS : ∀ {draw ops}, statB Try.f59.ntmps draw ops = true → statB (envOf fr Try.prog).fr.N draw ops = true := fun h => by rw [envOf_fr, hN]; exact h
  repeat' (first
    | exact True.intro
    | refine ev_seq ?_
    | ((first | refine vgd_go ?_ | refine ev_region hE hM (hS (by decide +kernel)) ?_ | refine ev_if ?_ | refine end_ret hE rfl rfl ?_ | refine end_norm hE rfl rfl ?_ | refine endG_ret [] hE rfl ?_ | refine endG_norm [] hE rfl ?_ | refine vcallB_of hP (s_isDims _) ?_ | refine vcallB_of hP (s_ContainsFuncI xs _ (fun x => !inB x (-1000) 1000) (fun x _ => s_PointFault1 x)) ?_ | refine vcall_A ?_); simp (maxSteps := 2000000) only [go_sem, hP, ↓reduceIte, Nat.reduceAdd, Nat.reduceMul, Nat.reduceEqDiff, Nat.reduceSub, Nat.reduceLeDiff, reduceCtorEq])
    | refine ev_skip ?_ | refine ev_block ?_ | refine ev_blk ?_ | refine ev_ret ?_ | refine ev_exit ?_ | refine evx_code_ret ?_ | refine evx_blk_ret ?_ | refine evx_lp_ret ?_
    | refine evx_code_exit ?_ | refine evx_lp_exit ?_ | refine evx_blk_hit ?_ | refine evx_blk_pass (by decide) ?_
    | refine And.intro ?_ ?_ | intro _ | decide +kernel | omega)
  all_goals simp_all [pf]
structure Rect where
  low : List Int
  high : List Int
  deriving DecidableEq, Inhabited
@[go_sem] abbrev cR (r : Rect) : List C := [sI r.low, sI r.high]
@[go_sem] abbrev oR (r : Rect) : List C := [oI r.low, oI r.high]
@[go_sem] abbrev aR (r : Rect) : Arg := .d (true, cR r)
@[go_sem] abbrev pR (r : Rect) : Arg := .pv (cR r)
@[go_sem] abbrev rR (r : Rect) : List Dat := [(true, oR r)]
theorem bndR {r : Rect} {gs : List Arg} (h : Args.bnd (aR r :: gs)) : r.low.length ≤ maxLen ∧ r.high.length ≤ maxLen := by
  have h1 := h.1.1.1; have h2 := h.1.2.1.1
  rw [List.length_map] at h1 h2; exact ⟨h1, h2⟩
theorem bndPR {r : Rect} {gs : List Arg} (h : Args.bnd (pR r :: gs)) : r.low.length ≤ maxLen ∧ r.high.length ≤ maxLen := by
  have h1 := h.1.1.1; have h2 := h.1.2.1.1
  rw [List.length_map] at h1 h2; exact ⟨h1, h2⟩
theorem eqR (a b : Rect) : a = b ↔ a.low = b.low ∧ a.high = b.high := by cases a; cases b; simp
def wR (r : Rect) : Nat := r.low.length + r.high.length
theorem pf_len {xs : List Int} {d : Int} (h : pf xs d = 0) : (xs.length : Int) = d := by
  unfold pf at h; split at h <;> (try split at h) <;> simp_all
/-- The low corner is nowhere above the high one. -/
def lowHigh (r : Rect) : Bool := allLt r.low.length fun j => decide (r.low.getD j default ≤ r.high.getD j default)
def rf (r : Rect) (d : Int) : Int := if pf r.low d ≠ 0 then pf r.low d else if pf r.high d ≠ 0 then pf r.high d else if lowHigh r then 0 else 1
theorem s_specRectFault (r : Rect) (d : Int) : Sat Try.prog 13 [aR r, aI d] true (rI (rf r d)) := by
  refine sat_walk (fn := Try.f13) rfl rfl rfl (Nat.le_of_ble_eq_true rfl) fun fr hP hN hbnd => ?_
  have hE : (envOf fr Try.prog).Ok := envOf_ok hP
  have hM := follows_of hP
  have hS : ∀ {draw ops}, statB Try.f13.ntmps draw ops = true → statB (envOf fr Try.prog).fr.N draw ops = true := fun h => by rw [envOf_fr, hN]; exact h
  have hl := bndR hbnd
  repeat' (first
    | exact True.intro
    | refine ev_seq ?_
    | ((first | refine vgd_go ?_ | refine ev_region hE hM (hS (by decide +kernel)) ?_ | refine ev_if ?_ | refine end_ret hE rfl rfl ?_ | refine end_norm hE rfl rfl ?_ | refine endG_ret [] hE rfl ?_ | refine endG_norm [] hE rfl ?_ | refine vcallB_of hP (s_specPointFault _ _) ?_ | refine vcall_A ?_); simp (maxSteps := 2000000) only [go_sem, hP, ↓reduceIte, Nat.reduceAdd, Nat.reduceMul, Nat.reduceEqDiff, Nat.reduceSub, Nat.reduceLeDiff, reduceCtorEq])
    | refine ev_skip ?_ | refine ev_block ?_ | refine ev_blk ?_ | refine ev_ret ?_ | refine ev_exit ?_ | refine evx_code_ret ?_ | refine evx_blk_ret ?_ | refine evx_lp_ret ?_
    | refine evx_code_exit ?_ | refine evx_lp_exit ?_ | refine evx_blk_hit ?_ | refine evx_blk_pass (by decide) ?_
    | refine And.intro ?_ ?_ | intro _ | decide +kernel | omega)
  · simp_all [rf]
  · simp_all [rf]
  rename_i h1 h2
  have e1 := pf_len (by simpa using h1)
  have e2 := pf_len (by simpa using h2)
  refine ev_loop (ι := Nat) (fun k => [(2, .ptr 0 0), (7, .c (.int .i64 k))]) (fun k => [(0, .box [.c (sI r.low), .c (sI r.high)])]) (fun _ => []) (fun k => k ≤ r.low.length ∧ allLt k (fun j => decide (r.low.getD j default ≤ r.high.getD j default)) = true) (fun k => r.low.length - k) 0 [] (by simp [allLt_zero] <;> omega) (by simp only [go_sem, hP, ↓reduceIte, Nat.reduceAdd, Nat.reduceMul, Nat.reduceEqDiff, Nat.reduceSub, Nat.reduceLeDiff, reduceCtorEq]; simp) ?_
  intro k hk
  repeat' (first
    | exact True.intro
    | refine ev_seq ?_
    | ((first | refine vgd_go ?_ | refine ev_region hE hM (hS (by decide +kernel)) ?_ | refine ev_if ?_ | refine end_ret hE rfl rfl ?_ | refine end_norm hE rfl rfl ?_ | refine endG_ret [] hE rfl ?_ | refine endG_norm [] hE rfl ?_ | refine vcall_A ?_); simp (maxSteps := 2000000) only [go_sem, hP, ↓reduceIte, Nat.reduceAdd, Nat.reduceMul, Nat.reduceEqDiff, Nat.reduceSub, Nat.reduceLeDiff, reduceCtorEq])
    | refine ev_skip ?_ | refine ev_block ?_ | refine ev_blk ?_ | refine ev_ret ?_ | refine ev_exit ?_ | refine evx_code_ret ?_ | refine evx_blk_ret ?_ | refine evx_lp_ret ?_
    | refine evx_code_exit ?_ | refine evx_lp_exit ?_ | refine evx_blk_hit ?_ | refine evx_blk_pass (by decide) ?_
    | refine And.intro ?_ ?_ | intro _ | decide +kernel | omega)
  · rename_i h3 h4
    have : lowHigh r = false := allLt_not (k := k) (by omega) (by simpa using h4)
    simp_all [rf]
  · rename_i h3 h4
    exact ev_lp (k + 1) [] ⟨by omega, allLt_step hk.2 (by simpa using h4)⟩ (by omega) (by simp only [go_sem, hP, ↓reduceIte, Nat.reduceAdd, Nat.reduceMul, Nat.reduceEqDiff, Nat.reduceSub, Nat.reduceLeDiff, reduceCtorEq]; simp; exact wrap_nat (by omega) hl.1)
  · have : lowHigh r = true := allLt_done (by omega) hk.2
    simp_all [rf]
theorem s_implRectFault (r : Rect) (d : Int) : Sat Try.prog 47 [aR r, aI d] true (rI (rf r d)) := by
  refine sat_walk (fn := Try.f47) rfl rfl rfl (Nat.le_of_ble_eq_true rfl) fun fr hP hN hbnd => ?_
  have hE : (envOf fr Try.prog).Ok := envOf_ok hP
  have hM := follows_of hP
  have hS : ∀ {draw ops}, statB Try.f47.ntmps draw ops = true → statB (envOf fr Try.prog).fr.N draw ops = true := fun h => by rw [envOf_fr, hN]; exact h
  have hl := bndR hbnd
  repeat' (first
    | exact True.intro
    | refine ev_seq ?_
    | ((first | refine vgd_go ?_ | refine ev_region hE hM (hS (by decide +kernel)) ?_ | refine ev_if ?_ | refine end_ret hE rfl rfl ?_ | refine end_norm hE rfl rfl ?_ | refine endG_ret [] hE rfl ?_ | refine endG_norm [] hE rfl ?_ | refine vcallB_of hP (s_implPointFault _ _) ?_ | refine vcall_A ?_); simp (maxSteps := 2000000) only [go_sem, hP, ↓reduceIte, Nat.reduceAdd, Nat.reduceMul, Nat.reduceEqDiff, Nat.reduceSub, Nat.reduceLeDiff, reduceCtorEq])
    | refine ev_skip ?_ | refine ev_block ?_ | refine ev_blk ?_ | refine ev_ret ?_ | refine ev_exit ?_ | refine evx_code_ret ?_ | refine evx_blk_ret ?_ | refine evx_lp_ret ?_
    | refine evx_code_exit ?_ | refine evx_lp_exit ?_ | refine evx_blk_hit ?_ | refine evx_blk_pass (by decide) ?_
    | refine And.intro ?_ ?_ | intro _ | decide +kernel | omega)
  · simp_all [rf]
  · simp_all [rf]
  rename_i h1 h2
  have e1 := pf_len (by simpa using h1)
  have e2 := pf_len (by simpa using h2)
  refine ev_loop (ι := Nat) (fun k => [(2, .ptr 0 0), (24, .c (sI r.low)), (25, .c (.int .i64 r.low.length)), (26, .c (.int .i64 k))]) (fun k => [(0, .box [.c (sI r.low), .c (sI r.high)])]) (fun _ => []) (fun k => k ≤ r.low.length ∧ allLt k (fun j => decide (r.low.getD j default ≤ r.high.getD j default)) = true) (fun k => r.low.length - k) 0 [] (by simp [allLt_zero] <;> omega) (by simp only [go_sem, hP, ↓reduceIte, Nat.reduceAdd, Nat.reduceMul, Nat.reduceEqDiff, Nat.reduceSub, Nat.reduceLeDiff, reduceCtorEq]; simp) ?_
  intro k hk
  repeat' (first
    | exact True.intro
    | refine ev_seq ?_
    | ((first | refine vgd_go ?_ | refine ev_region hE hM (hS (by decide +kernel)) ?_ | refine ev_if ?_ | refine end_ret hE rfl rfl ?_ | refine end_norm hE rfl rfl ?_ | refine endG_ret [] hE rfl ?_ | refine endG_norm [] hE rfl ?_ | refine vcall_A ?_); simp (maxSteps := 2000000) only [go_sem, hP, ↓reduceIte, Nat.reduceAdd, Nat.reduceMul, Nat.reduceEqDiff, Nat.reduceSub, Nat.reduceLeDiff, reduceCtorEq])
    | refine ev_skip ?_ | refine ev_block ?_ | refine ev_blk ?_ | refine ev_ret ?_ | refine ev_exit ?_ | refine evx_code_ret ?_ | refine evx_blk_ret ?_ | refine evx_lp_ret ?_
    | refine evx_code_exit ?_ | refine evx_lp_exit ?_ | refine evx_blk_hit ?_ | refine evx_blk_pass (by decide) ?_
    | refine And.intro ?_ ?_ | intro _ | decide +kernel | omega)
  · rename_i h3 h4
    have : lowHigh r = false := allLt_not (k := k) (by omega) (by simpa using h4)
    simp_all [rf]
  · rename_i h3 h4
    exact ev_lp (k + 1) [] ⟨by omega, allLt_step hk.2 (by simpa using h4)⟩ (by omega) (by simp only [go_sem, hP, ↓reduceIte, Nat.reduceAdd, Nat.reduceMul, Nat.reduceEqDiff, Nat.reduceSub, Nat.reduceLeDiff, reduceCtorEq]; simp; exact wrap_nat (by omega) hl.1)
  · have : lowHigh r = true := allLt_done (by omega) hk.2
    simp_all [rf]
theorem rf_len {r : Rect} {d : Int} (h : rf r d = 0) : (r.low.length : Int) = d ∧ (r.high.length : Int) = d := by
  unfold rf at h
  split at h
  · simp_all
  · split at h
    · simp_all
    · rename_i h1 h2
      exact ⟨pf_len (by simpa using h1), pf_len (by simpa using h2)⟩
def two (a b : Rect) : Int := if rf a a.low.length ≠ 0 then rf a a.low.length else rf b a.low.length
structure Lens (a b : Rect) : Prop where
  h1 : a.high.length = a.low.length
  h2 : b.low.length = a.low.length
  h3 : b.high.length = a.low.length
theorem two_lens {a b : Rect} (h : two a b = 0) : Lens a b := by
  unfold two at h
  split at h
  · simp_all
  · rename_i h1
    have e1 := rf_len (by simpa using h1)
    have e2 := rf_len h
    exact ⟨by omega, by omega, by omega⟩
theorem s_ownDims (r : Rect) : Sat Try.prog 48 [aR r] true (rI r.low.length) := by
  refine sat_walk (fn := Try.f48) rfl rfl rfl (Nat.le_of_ble_eq_true rfl) fun fr hP hN hbnd => ?_
  have hE : (envOf fr Try.prog).Ok := envOf_ok hP
  have hM := follows_of hP
  have hS : ∀ {draw ops}, statB Try.f48.ntmps draw ops = true → statB (envOf fr Try.prog).fr.N draw ops = true := fun h => by rw [envOf_fr, hN]; exact h
  repeat' (first
    | exact True.intro
    | refine ev_seq ?_
    | ((first | refine vgd_go ?_ | refine ev_region hE hM (hS (by decide +kernel)) ?_ | refine ev_if ?_ | refine end_ret hE rfl rfl ?_ | refine end_norm hE rfl rfl ?_ | refine endG_ret [] hE rfl ?_ | refine endG_norm [] hE rfl ?_ | refine vcall_A ?_); simp (maxSteps := 2000000) only [go_sem, hP, ↓reduceIte, Nat.reduceAdd, Nat.reduceMul, Nat.reduceEqDiff, Nat.reduceSub, Nat.reduceLeDiff, reduceCtorEq])
    | refine ev_skip ?_ | refine ev_block ?_ | refine ev_blk ?_ | refine ev_ret ?_ | refine ev_exit ?_ | refine evx_code_ret ?_ | refine evx_blk_ret ?_ | refine evx_lp_ret ?_
    | refine evx_code_exit ?_ | refine evx_lp_exit ?_ | refine evx_blk_hit ?_ | refine evx_blk_pass (by decide) ?_
    | refine And.intro ?_ ?_ | intro _ | decide +kernel | omega)
theorem s_twoFault (a b : Rect) : Sat Try.prog 44 [aR a, aR b] true (rI (two a b)) := by
  refine sat_walk (fn := Try.f44) rfl rfl rfl (Nat.le_of_ble_eq_true rfl) fun fr hP hN hbnd => ?_
  have hE : (envOf fr Try.prog).Ok := envOf_ok hP
  have hM := follows_of hP
  have hS : ∀ {draw ops}, statB Try.f44.ntmps draw ops = true → statB (envOf fr Try.prog).fr.N draw ops = true := fun h => by rw [envOf_fr, hN]; exact h
  repeat' (first
    | exact True.intro
    | refine ev_seq ?_
    | ((first | refine vgd_go ?_ | refine ev_region hE hM (hS (by decide +kernel)) ?_ | refine ev_if ?_ | refine end_ret hE rfl rfl ?_ | refine end_norm hE rfl rfl ?_ | refine endG_ret [] hE rfl ?_ | refine endG_norm [] hE rfl ?_ | refine vcallB_of hP (s_ownDims _) ?_ | refine vcallB_of hP (s_implRectFault _ _) ?_ | refine vcall_A ?_); simp (maxSteps := 2000000) only [go_sem, hP, ↓reduceIte, Nat.reduceAdd, Nat.reduceMul, Nat.reduceEqDiff, Nat.reduceSub, Nat.reduceLeDiff, reduceCtorEq])
    | refine ev_skip ?_ | refine ev_block ?_ | refine ev_blk ?_ | refine ev_ret ?_ | refine ev_exit ?_ | refine evx_code_ret ?_ | refine evx_blk_ret ?_ | refine evx_lp_ret ?_
    | refine evx_code_exit ?_ | refine evx_lp_exit ?_ | refine evx_blk_hit ?_ | refine evx_blk_pass (by decide) ?_
    | refine And.intro ?_ ?_ | intro _ | decide +kernel | omega)
  all_goals simp_all [two]
def coversAt (a b : Rect) (j : Nat) : Bool := !(decide (a.low.getD j default > b.low.getD j default) || decide (a.high.getD j default < b.high.getD j default))
def covers (a b : Rect) : Bool := allLt a.low.length (coversAt a b)
def meetsAt (a b : Rect) (j : Nat) : Bool := !(decide (a.low.getD j default > b.high.getD j default) || decide (b.low.getD j default > a.high.getD j default))
def meets (a b : Rect) : Bool := allLt a.low.length (meetsAt a b)
/-- The weights of all of a list. -/
def sumW {α : Type} (w : α → Nat) (xs : List α) : Nat := (xs.map w).sum
theorem sumW_step {α : Type} {w : α → Nat} {xs : List α} {k : Nat} {d : α} (h : k < xs.length) : sumW w (xs.take (k + 1)) = sumW w (xs.take k) + w (xs.getD k d) := by
  unfold sumW; rw [take_step (d := d) h]; simp
theorem sumW_le {α : Type} {w : α → Nat} {xs : List α} (k : Nat) : sumW w (xs.take k) ≤ sumW w xs := by
  unfold sumW
  conv => rhs; rw [← List.take_append_drop k xs]
  rw [List.map_append, List.sum_append]; omega
theorem sumW_get {α : Type} {w : α → Nat} {xs : List α} {k : Nat} {d : α} (h : k < xs.length) : w (xs.getD k d) ≤ sumW w xs := by
  have h1 := sumW_step (w := w) (d := d) h
  have h2 := sumW_le (w := w) (xs := xs) (k + 1)
  omega
theorem sumW_done {α : Type} {w : α → Nat} {xs : List α} {k : Nat} (h : xs.length ≤ k) : sumW w (xs.take k) = sumW w xs := by rw [List.take_of_length_le h]
@[simp] theorem sumW_nil {α : Type} {w : α → Nat} : sumW w [] = 0 := rfl
theorem sumW_zero {α : Type} {w : α → Nat} {xs : List α} : sumW w (xs.take 0) = 0 := rfl
@[go_sem] abbrev aIR (c v : Int) : Arg := .d (true, [.int .i64 c, .int .i64 v])
@[go_sem] abbrev rIR (c v : Int) : List Dat := [(true, [.int .i64 c, .int .i64 v])]
/-- A number, if there is no code. -/
def val (c v : Int) : Int := if c = 0 then v else 0
theorem s_valued (c v : Int) (sem : List Dat → List Dat → Prop) (hs : c = 0 → sem [] [(false, [.int .i64 v])]) : Sat Try.prog 33 [aI c, .fn sem] true (rIR c (val c v)) := by
  refine sat_walk (fn := Try.f33) rfl rfl rfl (Nat.le_of_ble_eq_true rfl) fun fr hP hN hbnd => ?_
  have hE : (envOf fr Try.prog).Ok := envOf_ok hP
  have hM := follows_of hP
  have hS : ∀ {draw ops}, statB Try.f33.ntmps draw ops = true → statB (envOf fr Try.prog).fr.N draw ops = true := fun h => by rw [envOf_fr, hN]; exact h
  repeat' (first
    | exact True.intro
    | refine ev_seq ?_
    | ((first | refine vgd_go ?_ | refine ev_region hE hM (hS (by decide +kernel)) ?_ | refine ev_if ?_ | refine end_ret hE rfl rfl ?_ | refine end_norm hE rfl rfl ?_ | refine endG_ret [] hE rfl ?_ | refine endG_norm [] hE rfl ?_ | refine vcallFn_of [] [] [(false, [.int .i64 v])] (by simp only [go_sem, hP, ↓reduceIte, Nat.reduceAdd, Nat.reduceMul, Nat.reduceEqDiff, Nat.reduceSub, Nat.reduceLeDiff, reduceCtorEq]) (hs (by simp_all)) ?_ | refine vcall_A ?_); simp (maxSteps := 2000000) only [go_sem, hP, ↓reduceIte, Nat.reduceAdd, Nat.reduceMul, Nat.reduceEqDiff, Nat.reduceSub, Nat.reduceLeDiff, reduceCtorEq])
    | refine ev_skip ?_ | refine ev_block ?_ | refine ev_blk ?_ | refine ev_ret ?_ | refine ev_exit ?_ | refine evx_code_ret ?_ | refine evx_blk_ret ?_ | refine evx_lp_ret ?_
    | refine evx_code_exit ?_ | refine evx_lp_exit ?_ | refine evx_blk_hit ?_ | refine evx_blk_pass (by decide) ?_
    | refine And.intro ?_ ?_ | intro _ | decide +kernel | omega)
  all_goals simp_all [val]
def areaTo (r : Rect) : Nat → Int
  | 0 => 1
  | k + 1 => IntKind.i64.wrap (areaTo r k * IntKind.i64.wrap (r.high.getD k default - r.low.getD k default))
@[simp] theorem areaTo_zero (r : Rect) : areaTo r 0 = 1 := rfl
def area (r : Rect) : Int := areaTo r r.low.length
theorem s_l1Area (r : Rect) (h : r.high.length = r.low.length) : Sat Try.prog 88 [pR r] true (rI (area r)) := by
  refine sat_walk (fn := Try.f88) rfl rfl rfl (Nat.le_of_ble_eq_true rfl) fun fr hP hN hbnd => ?_
  have hE : (envOf fr Try.prog).Ok := envOf_ok hP
  have hM := follows_of hP
  have hS : ∀ {draw ops}, statB Try.f88.ntmps draw ops = true → statB (envOf fr Try.prog).fr.N draw ops = true := fun h => by rw [envOf_fr, hN]; exact h
  have hl := bndPR hbnd
  repeat' (first
    | exact True.intro
    | refine ev_seq ?_
    | ((first | refine vgd_go ?_ | refine ev_region hE hM (hS (by decide +kernel)) ?_ | refine ev_if ?_ | refine end_ret hE rfl rfl ?_ | refine end_norm hE rfl rfl ?_ | refine endG_ret [] hE rfl ?_ | refine endG_norm [] hE rfl ?_ | refine vcall_A ?_); simp (maxSteps := 2000000) only [go_sem, hP, ↓reduceIte, Nat.reduceAdd, Nat.reduceMul, Nat.reduceEqDiff, Nat.reduceSub, Nat.reduceLeDiff, reduceCtorEq])
    | refine ev_skip ?_ | refine ev_block ?_ | refine ev_blk ?_ | refine ev_ret ?_ | refine ev_exit ?_ | refine evx_code_ret ?_ | refine evx_blk_ret ?_ | refine evx_lp_ret ?_
    | refine evx_code_exit ?_ | refine evx_lp_exit ?_ | refine evx_blk_hit ?_ | refine evx_blk_pass (by decide) ?_
    | refine And.intro ?_ ?_ | intro _ | decide +kernel | omega)
  refine ev_loop (ι := Nat) (fun k => [(0, .pv (cR r)), (3, .c (.int .i64 (areaTo r k))), (4, .c (.int .i64 k))]) (fun k => []) (fun _ => []) (fun k => k ≤ r.low.length) (fun k => r.low.length - k) 0 [] (by simp [allLt_zero] <;> omega) (by simp only [go_sem, hP, ↓reduceIte, Nat.reduceAdd, Nat.reduceMul, Nat.reduceEqDiff, Nat.reduceSub, Nat.reduceLeDiff, reduceCtorEq]; simp) ?_
  intro k hk
  repeat' (first
    | exact True.intro
    | refine ev_seq ?_
    | ((first | refine vgd_go ?_ | refine ev_region hE hM (hS (by decide +kernel)) ?_ | refine ev_if ?_ | refine end_ret hE rfl rfl ?_ | refine end_norm hE rfl rfl ?_ | refine endG_ret [] hE rfl ?_ | refine endG_norm [] hE rfl ?_ | refine vcall_A ?_); simp (maxSteps := 2000000) only [go_sem, hP, ↓reduceIte, Nat.reduceAdd, Nat.reduceMul, Nat.reduceEqDiff, Nat.reduceSub, Nat.reduceLeDiff, reduceCtorEq])
    | refine ev_skip ?_ | refine ev_block ?_ | refine ev_blk ?_ | refine ev_ret ?_ | refine ev_exit ?_ | refine evx_code_ret ?_ | refine evx_blk_ret ?_ | refine evx_lp_ret ?_
    | refine evx_code_exit ?_ | refine evx_lp_exit ?_ | refine evx_blk_hit ?_ | refine evx_blk_pass (by decide) ?_
    | refine And.intro ?_ ?_ | intro _ | decide +kernel | omega)
  · exact ev_lp (k + 1) [] (by omega) (by omega) (by simp only [go_sem, hP, ↓reduceIte, Nat.reduceAdd, Nat.reduceMul, Nat.reduceEqDiff, Nat.reduceSub, Nat.reduceLeDiff, reduceCtorEq]; simp; exact ⟨rfl, wrap_nat (by omega) hl.1⟩)
  · have : k = r.low.length := by omega
    subst this; rfl
theorem s_implarea (r : Rect) (h : r.high.length = r.low.length) : Sat Try.prog 50 [aR r] true (rI (area r)) := by
  refine sat_walk (fn := Try.f50) rfl rfl rfl (Nat.le_of_ble_eq_true rfl) fun fr hP hN hbnd => ?_
  have hE : (envOf fr Try.prog).Ok := envOf_ok hP
  have hM := follows_of hP
  have hS : ∀ {draw ops}, statB Try.f50.ntmps draw ops = true → statB (envOf fr Try.prog).fr.N draw ops = true := fun h => by rw [envOf_fr, hN]; exact h
  have hl := bndR hbnd
  repeat' (first
    | exact True.intro
    | refine ev_seq ?_
    | ((first | refine vgd_go ?_ | refine ev_region hE hM (hS (by decide +kernel)) ?_ | refine ev_if ?_ | refine end_ret hE rfl rfl ?_ | refine end_norm hE rfl rfl ?_ | refine endG_ret [] hE rfl ?_ | refine endG_norm [] hE rfl ?_ | refine vcall_A ?_); simp (maxSteps := 2000000) only [go_sem, hP, ↓reduceIte, Nat.reduceAdd, Nat.reduceMul, Nat.reduceEqDiff, Nat.reduceSub, Nat.reduceLeDiff, reduceCtorEq])
    | refine ev_skip ?_ | refine ev_block ?_ | refine ev_blk ?_ | refine ev_ret ?_ | refine ev_exit ?_ | refine evx_code_ret ?_ | refine evx_blk_ret ?_ | refine evx_lp_ret ?_
    | refine evx_code_exit ?_ | refine evx_lp_exit ?_ | refine evx_blk_hit ?_ | refine evx_blk_pass (by decide) ?_
    | refine And.intro ?_ ?_ | intro _ | decide +kernel | omega)
  refine ev_loop (ι := Nat) (fun k => [(1, .ptr 0 0), (3, .c (.int .i64 (areaTo r k))), (7, .c (.int .i64 r.low.length)), (8, .c (.int .i64 k))]) (fun k => [(0, .box [.c (sI r.low), .c (sI r.high)])]) (fun _ => []) (fun k => k ≤ r.low.length) (fun k => r.low.length - k) 0 [] (by simp [allLt_zero] <;> omega) (by simp only [go_sem, hP, ↓reduceIte, Nat.reduceAdd, Nat.reduceMul, Nat.reduceEqDiff, Nat.reduceSub, Nat.reduceLeDiff, reduceCtorEq]; simp) ?_
  intro k hk
  repeat' (first
    | exact True.intro
    | refine ev_seq ?_
    | ((first | refine vgd_go ?_ | refine ev_region hE hM (hS (by decide +kernel)) ?_ | refine ev_if ?_ | refine end_ret hE rfl rfl ?_ | refine end_norm hE rfl rfl ?_ | refine endG_ret [] hE rfl ?_ | refine endG_norm [] hE rfl ?_ | refine vcall_A ?_); simp (maxSteps := 2000000) only [go_sem, hP, ↓reduceIte, Nat.reduceAdd, Nat.reduceMul, Nat.reduceEqDiff, Nat.reduceSub, Nat.reduceLeDiff, reduceCtorEq])
    | refine ev_skip ?_ | refine ev_block ?_ | refine ev_blk ?_ | refine ev_ret ?_ | refine ev_exit ?_ | refine evx_code_ret ?_ | refine evx_blk_ret ?_ | refine evx_lp_ret ?_
    | refine evx_code_exit ?_ | refine evx_lp_exit ?_ | refine evx_blk_hit ?_ | refine evx_blk_pass (by decide) ?_
    | refine And.intro ?_ ?_ | intro _ | decide +kernel | omega)
  · exact ev_lp (k + 1) [] (by omega) (by omega) (by simp only [go_sem, hP, ↓reduceIte, Nat.reduceAdd, Nat.reduceMul, Nat.reduceEqDiff, Nat.reduceSub, Nat.reduceLeDiff, reduceCtorEq]; simp; exact ⟨rfl, wrap_nat (by omega) hl.1⟩)
  · have : k = r.low.length := by omega
    subst this; rfl
theorem s_AreaOf1 (r : Rect) (h : r.high.length = r.low.length) : Sat Try.prog 49 [pR r] true (rI (area r)) := by
  refine sat_walk (fn := Try.f49) rfl rfl rfl (Nat.le_of_ble_eq_true rfl) fun fr hP hN hbnd => ?_
  have hE : (envOf fr Try.prog).Ok := envOf_ok hP
  have hM := follows_of hP
  have hS : ∀ {draw ops}, statB Try.f49.ntmps draw ops = true → statB (envOf fr Try.prog).fr.N draw ops = true := fun h => by rw [envOf_fr, hN]; exact h
  repeat' (first
    | exact True.intro
    | refine ev_seq ?_
    | ((first | refine vgd_go ?_ | refine ev_region hE hM (hS (by decide +kernel)) ?_ | refine ev_if ?_ | refine end_ret hE rfl rfl ?_ | refine end_norm hE rfl rfl ?_ | refine endG_ret [] hE rfl ?_ | refine endG_norm [] hE rfl ?_ | refine vcallB_of hP (s_implarea r h) ?_ | refine vcall_A ?_); simp (maxSteps := 2000000) only [go_sem, hP, ↓reduceIte, Nat.reduceAdd, Nat.reduceMul, Nat.reduceEqDiff, Nat.reduceSub, Nat.reduceLeDiff, reduceCtorEq])
    | refine ev_skip ?_ | refine ev_block ?_ | refine ev_blk ?_ | refine ev_ret ?_ | refine ev_exit ?_ | refine evx_code_ret ?_ | refine evx_blk_ret ?_ | refine evx_lp_ret ?_
    | refine evx_code_exit ?_ | refine evx_lp_exit ?_ | refine evx_blk_hit ?_ | refine evx_blk_pass (by decide) ?_
    | refine And.intro ?_ ?_ | intro _ | decide +kernel | omega)
theorem rf_high {r : Rect} (h : rf r r.low.length = 0) : r.high.length = r.low.length := by have := rf_len h; omega
theorem s_implAreaOf (r : Rect) : Sat Try.prog 15 [aR r] true (rIR (rf r r.low.length) (val (rf r r.low.length) (area r))) := by
  refine sat_walk (fn := Try.f15) rfl rfl rfl (Nat.le_of_ble_eq_true rfl) fun fr hP hN hbnd => ?_
  have hE : (envOf fr Try.prog).Ok := envOf_ok hP
  have hM := follows_of hP
  have hS : ∀ {draw ops}, statB Try.f15.ntmps draw ops = true → statB (envOf fr Try.prog).fr.N draw ops = true := fun h => by rw [envOf_fr, hN]; exact h
  repeat' (first
    | exact True.intro
    | refine ev_seq ?_
    | ((first | refine vgd_go ?_ | refine ev_region hE hM (hS (by decide +kernel)) ?_ | refine ev_if ?_ | refine end_ret hE rfl rfl ?_ | refine end_norm hE rfl rfl ?_ | refine endG_ret [] hE rfl ?_ | refine endG_norm [] hE rfl ?_ | refine vcallB_of hP (s_ownDims r) ?_ | refine vcallB_of hP (s_implRectFault r _) ?_ | refine vcallB_of hP (s_valued _ (area r) _ (fun h => s_AreaOf1 r (rf_high h))) ?_ | refine vcall_A ?_); simp (maxSteps := 2000000) only [go_sem, hP, ↓reduceIte, Nat.reduceAdd, Nat.reduceMul, Nat.reduceEqDiff, Nat.reduceSub, Nat.reduceLeDiff, reduceCtorEq])
    | refine ev_skip ?_ | refine ev_block ?_ | refine ev_blk ?_ | refine ev_ret ?_ | refine ev_exit ?_ | refine evx_code_ret ?_ | refine evx_blk_ret ?_ | refine evx_lp_ret ?_
    | refine evx_code_exit ?_ | refine evx_lp_exit ?_ | refine evx_blk_hit ?_ | refine evx_blk_pass (by decide) ?_
    | refine And.intro ?_ ?_ | intro _ | decide +kernel | omega)
  all_goals simp_all [val]
theorem wr_i64 (n : Int) : IntKind.i64.wrap n = (n + 9223372036854775808) % 18446744073709551616 - 9223372036854775808 := by
  rw [i64_left]; unfold wrap64; omega
theorem wr1 (a b c : Int) : IntKind.i64.wrap (IntKind.i64.wrap (a + b) - c) = IntKind.i64.wrap (a + (b - c)) := by simp only [wr_i64]; omega
theorem wr2 (a b c : Int) : IntKind.i64.wrap (a + IntKind.i64.wrap (b - c)) = IntKind.i64.wrap (a + (b - c)) := by simp only [wr_i64]; omega
def marginTo (r : Rect) : Nat → Int
  | 0 => 0
  | k + 1 => IntKind.i64.wrap (marginTo r k + (r.high.getD k default - r.low.getD k default))
@[simp] theorem marginTo_zero (r : Rect) : marginTo r 0 = 0 := rfl
def margin (r : Rect) : Int := marginTo r r.low.length
theorem s_l1Margin (r : Rect) (h : r.high.length = r.low.length) : Sat Try.prog 86 [pR r] true (rI (margin r)) := by
  refine sat_walk (fn := Try.f86) rfl rfl rfl (Nat.le_of_ble_eq_true rfl) fun fr hP hN hbnd => ?_
  have hE : (envOf fr Try.prog).Ok := envOf_ok hP
  have hM := follows_of hP
  have hS : ∀ {draw ops}, statB Try.f86.ntmps draw ops = true → statB (envOf fr Try.prog).fr.N draw ops = true := fun h => by rw [envOf_fr, hN]; exact h
  have hl := bndPR hbnd
  repeat' (first
    | exact True.intro
    | refine ev_seq ?_
    | ((first | refine vgd_go ?_ | refine ev_region hE hM (hS (by decide +kernel)) ?_ | refine ev_if ?_ | refine end_ret hE rfl rfl ?_ | refine end_norm hE rfl rfl ?_ | refine endG_ret [] hE rfl ?_ | refine endG_norm [] hE rfl ?_ | refine vcall_A ?_); simp (maxSteps := 2000000) only [go_sem, hP, ↓reduceIte, Nat.reduceAdd, Nat.reduceMul, Nat.reduceEqDiff, Nat.reduceSub, Nat.reduceLeDiff, reduceCtorEq])
    | refine ev_skip ?_ | refine ev_block ?_ | refine ev_blk ?_ | refine ev_ret ?_ | refine ev_exit ?_ | refine evx_code_ret ?_ | refine evx_blk_ret ?_ | refine evx_lp_ret ?_
    | refine evx_code_exit ?_ | refine evx_lp_exit ?_ | refine evx_blk_hit ?_ | refine evx_blk_pass (by decide) ?_
    | refine And.intro ?_ ?_ | intro _ | decide +kernel | omega)
  refine ev_loop (ι := Nat) (fun k => [(0, .pv (cR r)), (3, .c (.int .i64 (marginTo r k))), (4, .c (.int .i64 k))]) (fun k => []) (fun _ => []) (fun k => k ≤ r.low.length) (fun k => r.low.length - k) 0 [] (by simp [allLt_zero] <;> omega) (by simp only [go_sem, hP, ↓reduceIte, Nat.reduceAdd, Nat.reduceMul, Nat.reduceEqDiff, Nat.reduceSub, Nat.reduceLeDiff, reduceCtorEq]; simp) ?_
  intro k hk
  repeat' (first
    | exact True.intro
    | refine ev_seq ?_
    | ((first | refine vgd_go ?_ | refine ev_region hE hM (hS (by decide +kernel)) ?_ | refine ev_if ?_ | refine end_ret hE rfl rfl ?_ | refine end_norm hE rfl rfl ?_ | refine endG_ret [] hE rfl ?_ | refine endG_norm [] hE rfl ?_ | refine vcall_A ?_); simp (maxSteps := 2000000) only [go_sem, hP, ↓reduceIte, Nat.reduceAdd, Nat.reduceMul, Nat.reduceEqDiff, Nat.reduceSub, Nat.reduceLeDiff, reduceCtorEq])
    | refine ev_skip ?_ | refine ev_block ?_ | refine ev_blk ?_ | refine ev_ret ?_ | refine ev_exit ?_ | refine evx_code_ret ?_ | refine evx_blk_ret ?_ | refine evx_lp_ret ?_
    | refine evx_code_exit ?_ | refine evx_lp_exit ?_ | refine evx_blk_hit ?_ | refine evx_blk_pass (by decide) ?_
    | refine And.intro ?_ ?_ | intro _ | decide +kernel | omega)
  · exact ev_lp (k + 1) [] (by omega) (by omega) (by simp only [go_sem, hP, ↓reduceIte, Nat.reduceAdd, Nat.reduceMul, Nat.reduceEqDiff, Nat.reduceSub, Nat.reduceLeDiff, reduceCtorEq]; simp; exact ⟨by rw [← List.getD_eq_getElem?_getD, ← List.getD_eq_getElem?_getD]; exact wr1 _ _ _, wrap_nat (by omega) hl.1⟩)
  · have : k = r.low.length := by omega
    subst this; rfl
theorem s_implmargin (r : Rect) (h : r.high.length = r.low.length) : Sat Try.prog 80 [aR r] true (rI (margin r)) := by
  refine sat_walk (fn := Try.f80) rfl rfl rfl (Nat.le_of_ble_eq_true rfl) fun fr hP hN hbnd => ?_
  have hE : (envOf fr Try.prog).Ok := envOf_ok hP
  have hM := follows_of hP
  have hS : ∀ {draw ops}, statB Try.f80.ntmps draw ops = true → statB (envOf fr Try.prog).fr.N draw ops = true := fun h => by rw [envOf_fr, hN]; exact h
  have hl := bndR hbnd
  repeat' (first
    | exact True.intro
    | refine ev_seq ?_
    | ((first | refine vgd_go ?_ | refine ev_region hE hM (hS (by decide +kernel)) ?_ | refine ev_if ?_ | refine end_ret hE rfl rfl ?_ | refine end_norm hE rfl rfl ?_ | refine endG_ret [] hE rfl ?_ | refine endG_norm [] hE rfl ?_ | refine vcall_A ?_); simp (maxSteps := 2000000) only [go_sem, hP, ↓reduceIte, Nat.reduceAdd, Nat.reduceMul, Nat.reduceEqDiff, Nat.reduceSub, Nat.reduceLeDiff, reduceCtorEq])
    | refine ev_skip ?_ | refine ev_block ?_ | refine ev_blk ?_ | refine ev_ret ?_ | refine ev_exit ?_ | refine evx_code_ret ?_ | refine evx_blk_ret ?_ | refine evx_lp_ret ?_
    | refine evx_code_exit ?_ | refine evx_lp_exit ?_ | refine evx_blk_hit ?_ | refine evx_blk_pass (by decide) ?_
    | refine And.intro ?_ ?_ | intro _ | decide +kernel | omega)
  refine ev_loop (ι := Nat) (fun k => [(1, .ptr 0 0), (3, .c (.int .i64 (marginTo r k))), (7, .c (.int .i64 r.low.length)), (8, .c (.int .i64 k))]) (fun k => [(0, .box [.c (sI r.low), .c (sI r.high)])]) (fun _ => []) (fun k => k ≤ r.low.length) (fun k => r.low.length - k) 0 [] (by simp [allLt_zero] <;> omega) (by simp only [go_sem, hP, ↓reduceIte, Nat.reduceAdd, Nat.reduceMul, Nat.reduceEqDiff, Nat.reduceSub, Nat.reduceLeDiff, reduceCtorEq]; simp) ?_
  intro k hk
  repeat' (first
    | exact True.intro
    | refine ev_seq ?_
    | ((first | refine vgd_go ?_ | refine ev_region hE hM (hS (by decide +kernel)) ?_ | refine ev_if ?_ | refine end_ret hE rfl rfl ?_ | refine end_norm hE rfl rfl ?_ | refine endG_ret [] hE rfl ?_ | refine endG_norm [] hE rfl ?_ | refine vcall_A ?_); simp (maxSteps := 2000000) only [go_sem, hP, ↓reduceIte, Nat.reduceAdd, Nat.reduceMul, Nat.reduceEqDiff, Nat.reduceSub, Nat.reduceLeDiff, reduceCtorEq])
    | refine ev_skip ?_ | refine ev_block ?_ | refine ev_blk ?_ | refine ev_ret ?_ | refine ev_exit ?_ | refine evx_code_ret ?_ | refine evx_blk_ret ?_ | refine evx_lp_ret ?_
    | refine evx_code_exit ?_ | refine evx_lp_exit ?_ | refine evx_blk_hit ?_ | refine evx_blk_pass (by decide) ?_
    | refine And.intro ?_ ?_ | intro _ | decide +kernel | omega)
  · exact ev_lp (k + 1) [] (by omega) (by omega) (by simp only [go_sem, hP, ↓reduceIte, Nat.reduceAdd, Nat.reduceMul, Nat.reduceEqDiff, Nat.reduceSub, Nat.reduceLeDiff, reduceCtorEq]; simp; exact ⟨by rw [← List.getD_eq_getElem?_getD, ← List.getD_eq_getElem?_getD]; exact wr2 _ _ _, wrap_nat (by omega) hl.1⟩)
  · have : k = r.low.length := by omega
    subst this; rfl
theorem pf_at {xs : List Int} {d : Int} (h : pf xs d = 0) (k : Nat) (hk : k < xs.length) : -1000 ≤ xs.getD k default ∧ xs.getD k default ≤ 1000 := by
  have ha : xs.all (inB · (-1000) 1000) = true := by
    unfold pf at h; split at h <;> (try split at h) <;> (try split at h) <;> simp_all
  have := List.all_eq_true.mp ha _ (getD_mem (d := default) hk)
  simpa [inB] using this
theorem rf_at {r : Rect} {d : Int} (h : rf r d = 0) (k : Nat) (hk : k < r.low.length) :
    -1000 ≤ r.low.getD k default ∧ r.low.getD k default ≤ r.high.getD k default ∧ r.high.getD k default ≤ 1000 := by
  have hl := rf_len h
  unfold rf at h
  split at h
  · simp_all
  rename_i h1
  split at h
  · simp_all
  rename_i h2
  split at h
  · rename_i h3
    have e1 := pf_at (by simpa using h1) k hk
    have e2 := pf_at (by simpa using h2) k (by omega)
    have e3 := allLt_iff.mp h3 k hk
    simp at e3
    simp at e1 e2 ⊢
    omega
  · simp_all
structure Good (r : Rect) (p : List Int) : Prop where
  h1 : r.high.length = r.low.length
  h2 : p.length = r.low.length
  h3 : ∀ k, k < r.low.length → -1000 ≤ r.low.getD k default ∧ r.low.getD k default ≤ r.high.getD k default ∧ r.high.getD k default ≤ 1000
  h4 : ∀ k, k < r.low.length → -1000 ≤ p.getD k default ∧ p.getD k default ≤ 1000
theorem good_of {r : Rect} {p : List Int} {d : Int} (h : rf r d = 0) (h' : pf p d = 0) : Good r p := by
  have e1 := rf_len h
  have e2 := pf_len h'
  exact ⟨by omega, by omega, fun k hk => rf_at h k hk, fun k hk => pf_at h' k (by omega)⟩
def distAt (r : Rect) (p : List Int) (k : Nat) : Int := max (max 0 (r.low.getD k default - p.getD k default)) (p.getD k default - r.high.getD k default)
def distTo (r : Rect) (p : List Int) : Nat → Int
  | 0 => 0
  | k + 1 => IntKind.i64.wrap (distTo r p k + distAt r p k)
@[simp] theorem distTo_zero (r : Rect) (p : List Int) : distTo r p 0 = 0 := rfl
def dist (r : Rect) (p : List Int) : Int := distTo r p r.low.length
theorem wr_small {n : Int} (h : -9000 ≤ n ∧ n ≤ 9000) : IntKind.i64.wrap n = n := by rw [wr_i64]; omega
theorem dist_spec {r : Rect} {p : List Int} (g : Good r p) (k : Nat) (hk : k < r.low.length) (a : Int) :
    IntKind.i64.wrap (IntKind.i64.wrap (a + max (IntKind.i64.wrap (r.low.getD k default - p.getD k default)) 0) + max (IntKind.i64.wrap (p.getD k default - r.high.getD k default)) 0) = IntKind.i64.wrap (a + distAt r p k) := by
  have e1 := g.h3 k hk
  have e2 := g.h4 k hk
  rw [wr_small (n := r.low.getD k default - p.getD k default) (by omega), wr_small (n := p.getD k default - r.high.getD k default) (by omega)]
  unfold distAt; simp only [wr_i64]; omega
theorem dist_impl {r : Rect} {p : List Int} (g : Good r p) (k : Nat) (hk : k < r.low.length) (a : Int) :
    IntKind.i64.wrap (a + max (max 0 (IntKind.i64.wrap (r.low.getD k default - p.getD k default))) (IntKind.i64.wrap (p.getD k default - r.high.getD k default))) = IntKind.i64.wrap (a + distAt r p k) := by
  have e1 := g.h3 k hk
  have e2 := g.h4 k hk
  rw [wr_small (n := r.low.getD k default - p.getD k default) (by omega), wr_small (n := p.getD k default - r.high.getD k default) (by omega)]
  rfl
theorem s_l1Max (a b : Int) : Sat Try.prog 92 [aI a, aI b] true (rI (max a b)) := by
  refine sat_walk (fn := Try.f92) rfl rfl rfl (Nat.le_of_ble_eq_true rfl) fun fr hP hN hbnd => ?_
  have hE : (envOf fr Try.prog).Ok := envOf_ok hP
  have hM := follows_of hP
  have hS : ∀ {draw ops}, statB Try.f92.ntmps draw ops = true → statB (envOf fr Try.prog).fr.N draw ops = true := fun h => by rw [envOf_fr, hN]; exact h
  repeat' (first
    | exact True.intro
    | refine ev_seq ?_
    | ((first | refine vgd_go ?_ | refine ev_region hE hM (hS (by decide +kernel)) ?_ | refine ev_if ?_ | refine end_ret hE rfl rfl ?_ | refine end_norm hE rfl rfl ?_ | refine endG_ret [] hE rfl ?_ | refine endG_norm [] hE rfl ?_ | refine vcall_A ?_); simp (maxSteps := 2000000) only [go_sem, hP, ↓reduceIte, Nat.reduceAdd, Nat.reduceMul, Nat.reduceEqDiff, Nat.reduceSub, Nat.reduceLeDiff, reduceCtorEq])
    | refine ev_skip ?_ | refine ev_block ?_ | refine ev_blk ?_ | refine ev_ret ?_ | refine ev_exit ?_ | refine evx_code_ret ?_ | refine evx_blk_ret ?_ | refine evx_lp_ret ?_
    | refine evx_code_exit ?_ | refine evx_lp_exit ?_ | refine evx_blk_hit ?_ | refine evx_blk_pass (by decide) ?_
    | refine And.intro ?_ ?_ | intro _ | decide +kernel | omega)
  all_goals simp_all
  all_goals omega
theorem s_l1Min (a b : Int) : Sat Try.prog 91 [aI a, aI b] true (rI (min a b)) := by
  refine sat_walk (fn := Try.f91) rfl rfl rfl (Nat.le_of_ble_eq_true rfl) fun fr hP hN hbnd => ?_
  have hE : (envOf fr Try.prog).Ok := envOf_ok hP
  have hM := follows_of hP
  have hS : ∀ {draw ops}, statB Try.f91.ntmps draw ops = true → statB (envOf fr Try.prog).fr.N draw ops = true := fun h => by rw [envOf_fr, hN]; exact h
  repeat' (first
    | exact True.intro
    | refine ev_seq ?_
    | ((first | refine vgd_go ?_ | refine ev_region hE hM (hS (by decide +kernel)) ?_ | refine ev_if ?_ | refine end_ret hE rfl rfl ?_ | refine end_norm hE rfl rfl ?_ | refine endG_ret [] hE rfl ?_ | refine endG_norm [] hE rfl ?_ | refine vcall_A ?_); simp (maxSteps := 2000000) only [go_sem, hP, ↓reduceIte, Nat.reduceAdd, Nat.reduceMul, Nat.reduceEqDiff, Nat.reduceSub, Nat.reduceLeDiff, reduceCtorEq])
    | refine ev_skip ?_ | refine ev_block ?_ | refine ev_blk ?_ | refine ev_ret ?_ | refine ev_exit ?_ | refine evx_code_ret ?_ | refine evx_blk_ret ?_ | refine evx_lp_ret ?_
    | refine evx_code_exit ?_ | refine evx_lp_exit ?_ | refine evx_blk_hit ?_ | refine evx_blk_pass (by decide) ?_
    | refine And.intro ?_ ?_ | intro _ | decide +kernel | omega)
  all_goals simp_all
  all_goals omega
theorem s_isNaN (a : Int) : Sat Try.prog 115 [aI a] true (rB false) := by
  refine sat_walk (fn := Try.f115) rfl rfl rfl (Nat.le_of_ble_eq_true rfl) fun fr hP hN hbnd => ?_
  have hE : (envOf fr Try.prog).Ok := envOf_ok hP
  have hM := follows_of hP
  have hS : ∀ {draw ops}, statB Try.f115.ntmps draw ops = true → statB (envOf fr Try.prog).fr.N draw ops = true := fun h => by rw [envOf_fr, hN]; exact h
  repeat' (first
    | exact True.intro
    | refine ev_seq ?_
    | ((first | refine vgd_go ?_ | refine ev_region hE hM (hS (by decide +kernel)) ?_ | refine ev_if ?_ | refine end_ret hE rfl rfl ?_ | refine end_norm hE rfl rfl ?_ | refine endG_ret [] hE rfl ?_ | refine endG_norm [] hE rfl ?_ | refine vcall_A ?_); simp (maxSteps := 2000000) only [go_sem, hP, ↓reduceIte, Nat.reduceAdd, Nat.reduceMul, Nat.reduceEqDiff, Nat.reduceSub, Nat.reduceLeDiff, reduceCtorEq])
    | refine ev_skip ?_ | refine ev_block ?_ | refine ev_blk ?_ | refine ev_ret ?_ | refine ev_exit ?_ | refine evx_code_ret ?_ | refine evx_blk_ret ?_ | refine evx_lp_ret ?_
    | refine evx_code_exit ?_ | refine evx_lp_exit ?_ | refine evx_blk_hit ?_ | refine evx_blk_pass (by decide) ?_
    | refine And.intro ?_ ?_ | intro _ | decide +kernel | omega)
  all_goals simp
structure Entry where
  rect : Rect
  ref : Int
  nsn : Int
  deriving DecidableEq, Inhabited
def eEntry (x : Entry) : List C := [sI x.rect.low, sI x.rect.high, .int .i64 x.ref, .int .i64 x.nsn]
def oEntry (x : Entry) : List C := [oI x.rect.low, oI x.rect.high, .int .i64 x.ref, .int .i64 x.nsn]
@[go_sem] theorem eEntry_eq (x : Entry) : eEntry x = [sI x.rect.low, sI x.rect.high, .int .i64 x.ref, .int .i64 x.nsn] := rfl
@[go_sem] theorem oEntry_eq (x : Entry) : oEntry x = [oI x.rect.low, oI x.rect.high, .int .i64 x.ref, .int .i64 x.nsn] := rfl
theorem stripC_oEntry (x : Entry) : Cs.strip (oEntry x) = eEntry x := by simp [oEntry, eEntry, Cs.strip, C.strip, strip_eI]
theorem stripC_eEntry (x : Entry) : Cs.strip (eEntry x) = eEntry x := by simp [eEntry, Cs.strip, C.strip, strip_eI]
@[go_sem] theorem strip_oEntry (xs : List Entry) : Es.strip (xs.map oEntry) = xs.map eEntry := by rw [Es.strip_map]; simp [Function.comp_def, stripC_oEntry]
@[go_sem] theorem strip_eEntry (xs : List Entry) : Es.strip (xs.map eEntry) = xs.map eEntry := by rw [Es.strip_map]; simp [Function.comp_def, stripC_eEntry]
@[go_sem] abbrev aEntry (x : Entry) : Arg := .d (true, eEntry x)
@[go_sem] abbrev pEntry (x : Entry) : Arg := .pv (eEntry x)
@[go_sem] abbrev rEntry (x : Entry) : List Dat := [(true, oEntry x)]
theorem bnd_Entry {x : Entry} {gs : List Arg} (h : Args.bnd (aEntry x :: gs)) : x.rect.low.length ≤ maxLen ∧ x.rect.high.length ≤ maxLen := by
  have h0 := h.1.1.1; rw [List.length_map] at h0
  have h1 := h.1.2.1.1; rw [List.length_map] at h1
  exact ⟨h0, h1⟩
theorem bndp_Entry {x : Entry} {gs : List Arg} (h : Args.bnd (pEntry x :: gs)) : x.rect.low.length ≤ maxLen ∧ x.rect.high.length ≤ maxLen := by
  have h0 := h.1.1.1; rw [List.length_map] at h0
  have h1 := h.1.2.1.1; rw [List.length_map] at h1
  exact ⟨h0, h1⟩
theorem eqEntry (a b : Entry) : a = b ↔ a.rect = b.rect ∧ a.ref = b.ref ∧ a.nsn = b.nsn := by cases a; cases b; simp
def wEntry (x : Entry) : Nat := wR x.rect
@[go_sem] abbrev sEntryS (xs : List Entry) : C := .sl none 4 (xs.map eEntry)
@[go_sem] abbrev oEntryS (xs : List Entry) : C := .sl (some 41) 4 (xs.map oEntry)
@[go_sem] abbrev aEntryS (xs : List Entry) : Arg := .d (false, [sEntryS xs])
@[go_sem] abbrev rEntryS (xs : List Entry) : List Dat := [(false, [oEntryS xs])]
theorem bnd_EntryS {xs : List Entry} {gs : List Arg} (h : Args.bnd (aEntryS xs :: gs)) : xs.length ≤ maxLen := by
  have := h.1.1.1; rwa [List.length_map] at this
def wEntryS (xs : List Entry) : Nat := xs.length + sumW wEntry xs
structure Node where
  level : Int
  nsn : Int
  right : Int
  entries : List Entry
  deriving DecidableEq, Inhabited
def eNode (x : Node) : List C := [.int .i64 x.level, .int .i64 x.nsn, .int .i64 x.right, sEntryS x.entries]
def oNode (x : Node) : List C := [.int .i64 x.level, .int .i64 x.nsn, .int .i64 x.right, oEntryS x.entries]
@[go_sem] theorem eNode_eq (x : Node) : eNode x = [.int .i64 x.level, .int .i64 x.nsn, .int .i64 x.right, sEntryS x.entries] := rfl
@[go_sem] theorem oNode_eq (x : Node) : oNode x = [.int .i64 x.level, .int .i64 x.nsn, .int .i64 x.right, oEntryS x.entries] := rfl
theorem stripC_oNode (x : Node) : Cs.strip (oNode x) = eNode x := by simp [oNode, eNode, Cs.strip, C.strip, strip_eI, strip_eEntry, strip_oEntry]
theorem stripC_eNode (x : Node) : Cs.strip (eNode x) = eNode x := by simp [eNode, Cs.strip, C.strip, strip_eI, strip_eEntry, strip_oEntry]
@[go_sem] theorem strip_oNode (xs : List Node) : Es.strip (xs.map oNode) = xs.map eNode := by rw [Es.strip_map]; simp [Function.comp_def, stripC_oNode]
@[go_sem] theorem strip_eNode (xs : List Node) : Es.strip (xs.map eNode) = xs.map eNode := by rw [Es.strip_map]; simp [Function.comp_def, stripC_eNode]
@[go_sem] abbrev aNode (x : Node) : Arg := .d (true, eNode x)
@[go_sem] abbrev pNode (x : Node) : Arg := .pv (eNode x)
@[go_sem] abbrev rNode (x : Node) : List Dat := [(true, oNode x)]
theorem bnd_Node {x : Node} {gs : List Arg} (h : Args.bnd (aNode x :: gs)) : x.entries.length ≤ maxLen := by
  have h0 := h.1.2.2.2.1.1; rw [List.length_map] at h0
  exact h0
theorem bndp_Node {x : Node} {gs : List Arg} (h : Args.bnd (pNode x :: gs)) : x.entries.length ≤ maxLen := by
  have h0 := h.1.2.2.2.1.1; rw [List.length_map] at h0
  exact h0
theorem eqNode (a b : Node) : a = b ↔ a.level = b.level ∧ a.nsn = b.nsn ∧ a.right = b.right ∧ a.entries = b.entries := by cases a; cases b; simp
def wNode (x : Node) : Nat := wEntryS x.entries
/-- The first k elements turned. -/
def mixF (f : Nat → Int) (xs : List Int) (k : Nat) : List Int := (List.range xs.length).map fun j => if j < k then f j else xs.getD j default
@[simp] theorem mixF_length (f : Nat → Int) (xs : List Int) (k : Nat) : (mixF f xs k).length = xs.length := by simp [mixF]
@[simp] theorem mixF_zero (f : Nat → Int) (xs : List Int) : mixF f xs 0 = xs := by
  refine List.ext_getElem (by simp) fun i h1 h2 => ?_
  simp only [mixF, List.getElem_map, List.getElem_range, Nat.not_lt_zero, if_false]
  exact getD_lt h2
theorem mixF_set {f : Nat → Int} {xs : List Int} {k : Nat} (h : k < xs.length) : (mixF f xs k).set k (f k) = mixF f xs (k + 1) := by
  refine List.ext_getElem (by simp) fun i h1 h2 => ?_
  simp only [mixF, List.getElem_set, List.getElem_map, List.getElem_range]
  split
  · subst_vars; rw [if_pos (by omega)]
  · rename_i hne
    by_cases hi : i < k
    · rw [if_pos hi, if_pos (by omega)]
    · rw [if_neg hi, if_neg (by omega)]
theorem mixF_set_map {f : Nat → Int} {xs : List Int} {k : Nat} (h : k < xs.length) : ((mixF f xs k).map eI).set k (eI (f k)) = (mixF f xs (k + 1)).map eI := by rw [← mixF_set h, List.map_set]
theorem mixF_getD {f : Nat → Int} {xs : List Int} {k j : Nat} (h : j < xs.length) : (mixF f xs k).getD j default = if j < k then f j else xs.getD j default := by
  rw [getD_lt (by simpa using h)]; simp [mixF]
theorem s_CloneI (xs : List Int) (hx : xs.length ≤ 1048576) : Sat Try.prog 129 [aL xs] true (rL xs) := by
  refine sat_walk (fn := Try.f129) rfl rfl rfl (Nat.le_of_ble_eq_true rfl) fun fr hP hN hbnd => ?_
  have hE : (envOf fr Try.prog).Ok := envOf_ok hP
  have hM := follows_of hP
  have hS : ∀ {draw ops}, statB Try.f129.ntmps draw ops = true → statB (envOf fr Try.prog).fr.N draw ops = true := fun h => by rw [envOf_fr, hN]; exact h
  have hlen := bndL hbnd
  refine ev_nil (j := 0) (sz := 1) (es := xs.map eI) rfl (fun he => ?_) ?_
  · obtain rfl : xs = [] := by simpa using he
    repeat' (first
      | exact True.intro
      | refine ev_seq ?_
      | ((first | refine vgd_go ?_ | refine ev_region hE hM (hS (by decide +kernel)) ?_ | refine ev_if ?_ | refine end_ret hE rfl rfl ?_ | refine end_norm hE rfl rfl ?_ | refine endG_ret [] hE rfl ?_ | refine endG_norm [] hE rfl ?_ | refine vcall_A ?_); simp (maxSteps := 2000000) only [go_sem, hP, ↓reduceIte, Nat.reduceAdd, Nat.reduceMul, Nat.reduceEqDiff, Nat.reduceSub, Nat.reduceLeDiff, reduceCtorEq])
      | refine ev_skip ?_ | refine ev_block ?_ | refine ev_blk ?_ | refine ev_ret ?_ | refine ev_exit ?_ | refine evx_code_ret ?_ | refine evx_blk_ret ?_ | refine evx_lp_ret ?_
      | refine evx_code_exit ?_ | refine evx_lp_exit ?_ | refine evx_blk_hit ?_ | refine evx_blk_pass (by decide) ?_
      | refine And.intro ?_ ?_ | intro _ | decide +kernel | omega)
  · repeat' (first
      | exact True.intro
      | refine ev_seq ?_
      | ((first | refine vgd_go ?_ | refine ev_region hE hM (hS (by decide +kernel)) ?_ | refine ev_if ?_ | refine end_ret hE rfl rfl ?_ | refine end_norm hE rfl rfl ?_ | refine endG_ret [] hE rfl ?_ | refine endG_norm [] hE rfl ?_ | refine vcall_A ?_); simp (maxSteps := 2000000) only [go_sem, hP, ↓reduceIte, Nat.reduceAdd, Nat.reduceMul, Nat.reduceEqDiff, Nat.reduceSub, Nat.reduceLeDiff, reduceCtorEq, Bool.and_self])
      | refine ev_skip ?_ | refine ev_block ?_ | refine ev_blk ?_ | refine ev_ret ?_ | refine ev_exit ?_ | refine evx_code_ret ?_ | refine evx_blk_ret ?_ | refine evx_lp_ret ?_
      | refine evx_code_exit ?_ | refine evx_lp_exit ?_ | refine evx_blk_hit ?_ | refine evx_blk_pass (by decide) ?_
      | refine And.intro ?_ ?_ | intro _ | decide +kernel | omega)
    · simp_all
theorem s_cloned (r : Rect) (h1 : r.low.length ≤ 1048576) (h2 : r.high.length ≤ 1048576) : Sat Try.prog 113 [aR r] true (rR r) := by
  refine sat_walk (fn := Try.f113) rfl rfl rfl (Nat.le_of_ble_eq_true rfl) fun fr hP hN hbnd => ?_
  have hE : (envOf fr Try.prog).Ok := envOf_ok hP
  have hM := follows_of hP
  have hS : ∀ {draw ops}, statB Try.f113.ntmps draw ops = true → statB (envOf fr Try.prog).fr.N draw ops = true := fun h => by rw [envOf_fr, hN]; exact h
  repeat' (first
    | exact True.intro
    | refine ev_seq ?_
    | ((first | refine vgd_go ?_ | refine ev_region hE hM (hS (by decide +kernel)) ?_ | refine ev_if ?_ | refine end_ret hE rfl rfl ?_ | refine end_norm hE rfl rfl ?_ | refine endG_ret [] hE rfl ?_ | refine endG_norm [] hE rfl ?_ | refine vcallB_of hP (s_CloneI _ h1) ?_ | refine vcallB_of hP (s_CloneI _ h2) ?_ | refine vcall_A ?_); simp (maxSteps := 2000000) only [go_sem, hP, ↓reduceIte, Nat.reduceAdd, Nat.reduceMul, Nat.reduceEqDiff, Nat.reduceSub, Nat.reduceLeDiff, reduceCtorEq])
    | refine ev_skip ?_ | refine ev_block ?_ | refine ev_blk ?_ | refine ev_ret ?_ | refine ev_exit ?_ | refine evx_code_ret ?_ | refine evx_blk_ret ?_ | refine evx_lp_ret ?_
    | refine evx_code_exit ?_ | refine evx_lp_exit ?_ | refine evx_blk_hit ?_ | refine evx_blk_pass (by decide) ?_
    | refine And.intro ?_ ?_ | intro _ | decide +kernel | omega)
structure Fit (a b : Rect) : Prop where
  l : Lens a b
  n : a.low.length ≤ 3
  a1 : ∀ k, k < a.low.length → -1000 ≤ a.low.getD k default ∧ a.low.getD k default ≤ a.high.getD k default ∧ a.high.getD k default ≤ 1000
  b1 : ∀ k, k < a.low.length → -1000 ≤ b.low.getD k default ∧ b.low.getD k default ≤ b.high.getD k default ∧ b.high.getD k default ≤ 1000
theorem pf_three {xs : List Int} {d : Int} (h : pf xs d = 0) : d ≤ 3 := by
  unfold pf at h; split at h <;> simp_all [inB]
theorem rf_three {r : Rect} {d : Int} (h : rf r d = 0) : r.low.length ≤ 3 := by
  have h1 := rf_len h
  have h2 : pf r.low d = 0 := by unfold rf at h; split at h <;> simp_all
  have := pf_three h2; omega
theorem two_fit {a b : Rect} (h : two a b = 0) : Fit a b := by
  have l := two_lens h
  unfold two at h
  split at h
  · simp_all
  · rename_i h1
    have h2 := l.h2
    exact ⟨l, rf_three (by simpa using h1), fun k hk => rf_at (by simpa using h1) k hk, fun k hk => rf_at h k (by omega)⟩
def ovAt (a b : Rect) (k : Nat) : Int := max (min (a.high.getD k default) (b.high.getD k default) - max (a.low.getD k default) (b.low.getD k default)) 0
def ovTo (a b : Rect) : Nat → Int
  | 0 => 1
  | k + 1 => IntKind.i64.wrap (ovTo a b k * ovAt a b k)
@[simp] theorem ovTo_zero (a b : Rect) : ovTo a b 0 = 1 := rfl
def overlap (a b : Rect) : Int := ovTo a b a.low.length
abbrev commonTo (a b : Rect) (k : Nat) : Rect := ⟨mixF (fun j => max (a.low.getD j default) (b.low.getD j default)) a.low k, mixF (fun j => min (a.high.getD j default) (b.high.getD j default)) a.high k⟩
def common (a b : Rect) : Rect := commonTo a b a.low.length
theorem area_common {a b : Rect} (f : Fit a b) (h : meets a b = true) : area (common a b) = overlap a b := by
  have hl : (common a b).low.length = a.low.length := by simp [common]
  have hh : a.high.length = a.low.length := f.l.h1
  unfold area overlap
  rw [hl]
  have key : ∀ k, k ≤ a.low.length → areaTo (common a b) k = ovTo a b k := by
    intro k
    induction k with
    | zero => intro _; rfl
    | succ k ih =>
      intro hk
      have e1 := f.a1 k (by omega)
      have e2 := f.b1 k (by omega)
      have e3 := allLt_iff.mp h k (by omega)
      simp only [meetsAt, Bool.not_eq_true', Bool.or_eq_false_iff, decide_eq_false_iff_not] at e3
      unfold areaTo ovTo
      rw [ih (by omega)]
      simp only [common]
      rw [mixF_getD (by omega), mixF_getD (by omega), if_pos (by omega), if_pos (by omega), wr_small (n := min (a.high.getD k default) (b.high.getD k default) - max (a.low.getD k default) (b.low.getD k default)) (by omega)]
      unfold ovAt
      rw [show max (min (a.high.getD k default) (b.high.getD k default) - max (a.low.getD k default) (b.low.getD k default)) 0 = min (a.high.getD k default) (b.high.getD k default) - max (a.low.getD k default) (b.low.getD k default) by omega]
  exact key _ (Nat.le_refl _)
theorem overlap_apart {a b : Rect} (f : Fit a b) (h : meets a b = false) : overlap a b = 0 := by
  have : ∃ k, k < a.low.length ∧ meetsAt a b k = false := by
    apply Classical.byContradiction
    intro hn
    have : meets a b = true := allLt_iff.mpr fun j hj => by
      cases hm : meetsAt a b j with
      | true => rfl
      | false => exact absurd ⟨j, hj, hm⟩ hn
    simp_all
  obtain ⟨k, hk, hm⟩ := this
  have e1 := f.a1 k hk
  have e2 := f.b1 k hk
  have h0 : ovAt a b k = 0 := by
    simp only [meetsAt, Bool.not_eq_false', Bool.or_eq_true, decide_eq_true_eq] at hm
    unfold ovAt; omega
  have key : ∀ n, k < n → ovTo a b n = 0 := by
    intro n
    induction n with
    | zero => intro h; omega
    | succ n ih =>
      intro hn
      unfold ovTo
      by_cases he : k = n
      · subst he; rw [h0, Int.mul_zero]; rfl
      · rw [ih (by omega), Int.zero_mul]; rfl
  exact key _ hk
theorem s_IndexFuncEntry (xs : List Entry) (sem : List Dat → List Dat → Prop) (p : Entry → Bool) (hp : ∀ x ∈ xs, sem [(true, eEntry x)] [(false, [.bool (p x)])]) :
    Sat Try.prog 111 [aEntryS xs, .fn sem] true (rI (if xs.any p then (xs.findIdx p : Int) else -1)) := by
  refine sat_walk (fn := Try.f111) rfl rfl rfl (Nat.le_of_ble_eq_true rfl) fun fr hP hN hbnd => ?_
  have hE : (envOf fr Try.prog).Ok := envOf_ok hP
  have hM := follows_of hP
  have hS : ∀ {draw ops}, statB Try.f111.ntmps draw ops = true → statB (envOf fr Try.prog).fr.N draw ops = true := fun h => by rw [envOf_fr, hN]; exact h
  have hlen := bnd_EntryS hbnd
  repeat' (first
    | exact True.intro
    | refine ev_seq ?_
    | ((first | refine vgd_go ?_ | refine ev_region hE hM (hS (by decide +kernel)) ?_ | refine ev_if ?_ | refine end_ret hE rfl rfl ?_ | refine end_norm hE rfl rfl ?_ | refine endG_ret [] hE rfl ?_ | refine endG_norm [] hE rfl ?_ | refine vcall_A ?_); simp (maxSteps := 2000000) only [go_sem, hP, ↓reduceIte, Nat.reduceAdd, Nat.reduceMul, Nat.reduceEqDiff, Nat.reduceSub, Nat.reduceLeDiff, reduceCtorEq])
    | refine ev_skip ?_ | refine ev_block ?_ | refine ev_blk ?_ | refine ev_ret ?_ | refine ev_exit ?_ | refine evx_code_ret ?_ | refine evx_blk_ret ?_ | refine evx_lp_ret ?_
    | refine evx_code_exit ?_ | refine evx_lp_exit ?_ | refine evx_blk_hit ?_ | refine evx_blk_pass (by decide) ?_
    | refine And.intro ?_ ?_ | intro _ | decide +kernel | omega)
  refine ev_loop (ι := Nat) (fun k => [(0, .c (sEntryS xs)), (1, .fn sem), (7, .c (.int .i64 xs.length)), (8, .c (.int .i64 k))]) (fun k => []) (fun _ => []) (fun k => k ≤ xs.length ∧ (xs.take k).any p = false) (fun k => xs.length - k) 0 [] (by simp) (by simp only [go_sem, hP, ↓reduceIte, Nat.reduceAdd, Nat.reduceMul, Nat.reduceEqDiff, Nat.reduceSub, Nat.reduceLeDiff, reduceCtorEq]; simp) ?_
  intro k hk
  have hq : k < xs.length → sem [(true, eEntry (xs.getD k default))] [(false, [.bool (p (xs.getD k default))])] := fun h => hp _ (getD_mem h)
  repeat' (first
    | exact True.intro
    | refine ev_seq ?_
    | ((first | refine vgd_go ?_ | refine ev_region hE hM (hS (by decide +kernel)) ?_ | refine ev_if ?_ | refine end_ret hE rfl rfl ?_ | refine end_norm hE rfl rfl ?_ | refine endG_ret [] hE rfl ?_ | refine endG_norm [] hE rfl ?_ | refine vcallFn_of [(true, eEntry (xs.getD k default))] [] [(false, [.bool (p (xs.getD k default))])] (by simp only [go_sem, hP, ↓reduceIte, Nat.reduceAdd, Nat.reduceMul, Nat.reduceEqDiff, Nat.reduceSub, Nat.reduceLeDiff, reduceCtorEq]) (hq (by omega)) ?_ | refine vcall_A ?_); simp (maxSteps := 2000000) only [go_sem, hP, ↓reduceIte, Nat.reduceAdd, Nat.reduceMul, Nat.reduceEqDiff, Nat.reduceSub, Nat.reduceLeDiff, reduceCtorEq])
    | refine ev_skip ?_ | refine ev_block ?_ | refine ev_blk ?_ | refine ev_ret ?_ | refine ev_exit ?_ | refine evx_code_ret ?_ | refine evx_blk_ret ?_ | refine evx_lp_ret ?_
    | refine evx_code_exit ?_ | refine evx_lp_exit ?_ | refine evx_blk_hit ?_ | refine evx_blk_pass (by decide) ?_
    | refine And.intro ?_ ?_ | intro _ | decide +kernel | omega)
  · rename_i h1 h2
    rw [any_yes (d := default) (by omega) h2, findIdx_here (d := default) (by omega) hk.2 h2]; rfl
  · rename_i h1 h2
    exact ev_lp (k + 1) [] ⟨by omega, any_step (d := default) (by omega) hk.2 h2⟩ (by omega) (by simp only [go_sem, hP, ↓reduceIte, Nat.reduceAdd, Nat.reduceMul, Nat.reduceEqDiff, Nat.reduceSub, Nat.reduceLeDiff, reduceCtorEq]; simp; exact wrap_nat (by omega) hlen)
  · rw [any_done (by omega) hk.2]; rfl
def un (a b : Rect) : Rect := ⟨(List.range a.low.length).map fun j => min (a.low.getD j default) (b.low.getD j default), (List.range a.low.length).map fun j => max (a.high.getD j default) (b.high.getD j default)⟩
theorem un_len (a b : Rect) : (un a b).high.length = (un a b).low.length := by simp [un]
theorem mixF_full (f : Nat → Int) (xs : List Int) : mixF f xs xs.length = (List.range xs.length).map f := by
  refine List.ext_getElem (by simp) fun i h1 h2 => ?_
  simp only [mixF, List.getElem_map, List.getElem_range]
  rw [if_pos (by simpa using h1)]
theorem s_union (a b : Rect) (h : Lens a b) (hx : a.low.length ≤ 1048576) : Sat Try.prog 79 [aR a, aR b] true (rR (un a b)) := by
  refine sat_walk (fn := Try.f79) rfl rfl rfl (Nat.le_of_ble_eq_true rfl) fun fr hP hN hbnd => ?_
  have hE : (envOf fr Try.prog).Ok := envOf_ok hP
  have hM := follows_of hP
  have hS : ∀ {draw ops}, statB Try.f79.ntmps draw ops = true → statB (envOf fr Try.prog).fr.N draw ops = true := fun h => by rw [envOf_fr, hN]; exact h
  have hl := bndR hbnd
  have e1 := h.h1
  have e2 := h.h2
  have e3 := h.h3
  repeat' (first
    | exact True.intro
    | refine ev_seq ?_
    | ((first | refine vgd_go ?_ | refine ev_region hE hM (hS (by decide +kernel)) ?_ | refine ev_if ?_ | refine end_ret hE rfl rfl ?_ | refine end_norm hE rfl rfl ?_ | refine endG_ret [] hE rfl ?_ | refine endG_norm [] hE rfl ?_ | refine vcallB_of hP (s_cloned a hx (by omega)) ?_ | refine vcall_A ?_); simp (maxSteps := 2000000) only [go_sem, hP, ↓reduceIte, Nat.reduceAdd, Nat.reduceMul, Nat.reduceEqDiff, Nat.reduceSub, Nat.reduceLeDiff, reduceCtorEq])
    | refine ev_skip ?_ | refine ev_block ?_ | refine ev_blk ?_ | refine ev_ret ?_ | refine ev_exit ?_ | refine evx_code_ret ?_ | refine evx_blk_ret ?_ | refine evx_lp_ret ?_
    | refine evx_code_exit ?_ | refine evx_lp_exit ?_ | refine evx_blk_hit ?_ | refine evx_blk_pass (by decide) ?_
    | refine And.intro ?_ ?_ | intro _ | decide +kernel | omega)
  refine ev_loop (ι := Nat) (fun k => [(2, .ptr 0 0), (3, .ptr 8 0), (4, .ptr 16 0), (5, .ptr 4112 0), (11, .c (.int .i64 a.low.length)), (12, .c (.int .i64 k))]) (fun k => [(0, .box [.c (sI a.low), .c (sI a.high)]), (8, .box [.c (sI b.low), .c (sI b.high)]), (16, .box [.nilS, .nilS]), (4112, .box [.ref 4104, .ref 1052680]), (4104, .arr true 2 1 ((mixF (fun j => min (a.low.getD j default) (b.low.getD j default)) a.low k).map eI)), (1052680, .arr true 2 1 ((mixF (fun j => max (a.high.getD j default) (b.high.getD j default)) a.high k).map eI))]) (fun _ => []) (fun k => k ≤ a.low.length) (fun k => a.low.length - k) 0 [] (by simp [allLt_zero] <;> omega) (by simp only [go_sem, hP, ↓reduceIte, Nat.reduceAdd, Nat.reduceMul, Nat.reduceEqDiff, Nat.reduceSub, Nat.reduceLeDiff, reduceCtorEq]; simp) ?_
  intro k hk
  repeat' (first
    | exact True.intro
    | refine ev_seq ?_
    | ((first | refine vgd_go ?_ | refine ev_region hE hM (hS (by decide +kernel)) ?_ | refine ev_if ?_ | refine end_ret hE rfl rfl ?_ | refine end_norm hE rfl rfl ?_ | refine endG_ret [] hE rfl ?_ | refine endG_norm [] hE rfl ?_ | refine vcall_A ?_); simp (maxSteps := 2000000) only [go_sem, hP, ↓reduceIte, Nat.reduceAdd, Nat.reduceMul, Nat.reduceEqDiff, Nat.reduceSub, Nat.reduceLeDiff, reduceCtorEq, mixF_length])
    | refine ev_skip ?_ | refine ev_block ?_ | refine ev_blk ?_ | refine ev_ret ?_ | refine ev_exit ?_ | refine evx_code_ret ?_ | refine evx_blk_ret ?_ | refine evx_lp_ret ?_
    | refine evx_code_exit ?_ | refine evx_lp_exit ?_ | refine evx_blk_hit ?_ | refine evx_blk_pass (by decide) ?_
    | refine And.intro ?_ ?_ | intro _ | decide +kernel | omega)
  · exact ev_lp (k + 1) [] (by omega) (by omega) (by simp only [go_sem, hP, ↓reduceIte, Nat.reduceAdd, Nat.reduceMul, Nat.reduceEqDiff, Nat.reduceSub, Nat.reduceLeDiff, reduceCtorEq]; simp; exact ⟨wrap_nat (by omega) hl.1, mixF_set_map (f := fun j => min (a.low.getD j default) (b.low.getD j default)) (by omega), mixF_set_map (f := fun j => max (a.high.getD j default) (b.high.getD j default)) (by omega)⟩)
  · have hke : k = a.low.length := by omega
    subst hke
    rw [mixF_full]; rfl
  · have hke : k = a.high.length := by omega
    subst hke
    rw [mixF_full]; simp only [un, e1]
theorem s_l1Union (a b : Rect) (h : Lens a b) (hx : a.low.length ≤ 1048576) : Sat Try.prog 117 [pR a, pR b] true (rR (un a b)) := by
  refine sat_walk (fn := Try.f117) rfl rfl rfl (Nat.le_of_ble_eq_true rfl) fun fr hP hN hbnd => ?_
  have hE : (envOf fr Try.prog).Ok := envOf_ok hP
  have hM := follows_of hP
  have hS : ∀ {draw ops}, statB Try.f117.ntmps draw ops = true → statB (envOf fr Try.prog).fr.N draw ops = true := fun h => by rw [envOf_fr, hN]; exact h
  have hl := bndPR hbnd
  have e1 := h.h1
  have e2 := h.h2
  have e3 := h.h3
  repeat' (first
    | exact True.intro
    | refine ev_seq ?_
    | ((first | refine vgd_go ?_ | refine ev_region hE hM (hS (by decide +kernel)) ?_ | refine ev_if ?_ | refine end_ret hE rfl rfl ?_ | refine end_norm hE rfl rfl ?_ | refine endG_ret [] hE rfl ?_ | refine endG_norm [] hE rfl ?_ | refine vcall_A ?_); simp (maxSteps := 2000000) only [go_sem, hP, ↓reduceIte, Nat.reduceAdd, Nat.reduceMul, Nat.reduceEqDiff, Nat.reduceSub, Nat.reduceLeDiff, reduceCtorEq])
    | refine ev_skip ?_ | refine ev_block ?_ | refine ev_blk ?_ | refine ev_ret ?_ | refine ev_exit ?_ | refine evx_code_ret ?_ | refine evx_blk_ret ?_ | refine evx_lp_ret ?_
    | refine evx_code_exit ?_ | refine evx_lp_exit ?_ | refine evx_blk_hit ?_ | refine evx_blk_pass (by decide) ?_
    | refine And.intro ?_ ?_ | intro _ | decide +kernel | omega)
  refine ev_loop (ι := Nat) (fun k => [(0, .pv (cR a)), (1, .pv (cR b)), (4, .ptr 0 0), (5, .ptr 4104 0), (6, .c (.int .i64 k))]) (fun k => [(0, .box [.nilS, .nilS]), (4104, .box [.ref 100000, .ref 100001]), (100000, .arr true 2 1 (((List.range k).map fun j => min (a.low.getD j default) (b.low.getD j default)).map eI)), (100001, .arr true 2 1 (((List.range k).map fun j => max (a.high.getD j default) (b.high.getD j default)).map eI))]) (fun _ => []) (fun k => k ≤ a.low.length) (fun k => a.low.length - k) 0 [(100000, none), (100001, none)] (by omega) (by simp only [go_sem, hP, ↓reduceIte, Nat.reduceAdd, Nat.reduceMul, Nat.reduceEqDiff, Nat.reduceSub, Nat.reduceLeDiff, reduceCtorEq]; simp) ?_
  intro k hk
  repeat' (first
    | exact True.intro
    | refine ev_seq ?_
    | ((first | refine vgd_go ?_ | refine ev_region hE hM (hS (by decide +kernel)) ?_ | refine ev_if ?_ | refine end_ret hE rfl rfl ?_ | refine end_norm hE rfl rfl ?_ | refine endG_ret [] hE rfl ?_ | refine endG_norm [] hE rfl ?_ | refine vcallB_of hP (s_l1Min _ _) ?_ | refine vcallB_of hP (s_l1Max _ _) ?_ | refine vcall_A ?_); simp (maxSteps := 2000000) only [go_sem, hP, ↓reduceIte, Nat.reduceAdd, Nat.reduceMul, Nat.reduceEqDiff, Nat.reduceSub, Nat.reduceLeDiff, reduceCtorEq, List.length_range, Bool.and_self])
    | refine ev_skip ?_ | refine ev_block ?_ | refine ev_blk ?_ | refine ev_ret ?_ | refine ev_exit ?_ | refine evx_code_ret ?_ | refine evx_blk_ret ?_ | refine evx_lp_ret ?_
    | refine evx_code_exit ?_ | refine evx_lp_exit ?_ | refine evx_blk_hit ?_ | refine evx_blk_pass (by decide) ?_
    | refine And.intro ?_ ?_ | intro _ | decide +kernel | omega)
  all_goals first
    | (simp_all; done)
    | exact ev_lp (k + 1) [(100000, some 20624), (100001, some 24720)] (by omega) (by omega) (by simp only [go_sem, hP, ↓reduceIte, Nat.reduceAdd, Nat.reduceMul, Nat.reduceEqDiff, Nat.reduceSub, Nat.reduceLeDiff, reduceCtorEq]; simp [List.range_succ]; exact ⟨wrap_nat (by omega) hl.1, rfl, rfl⟩)
    | (have hke : k = a.low.length := by omega
       subst hke; rfl)
def growth (a b : Rect) : Int := IntKind.i64.wrap (area (un a b) - area a)
theorem s_l1Growth (a b : Rect) (h : Lens a b) (hx : a.low.length ≤ 1048576) : Sat Try.prog 87 [pR a, pR b] true (rI (growth a b)) := by
  refine sat_walk (fn := Try.f87) rfl rfl rfl (Nat.le_of_ble_eq_true rfl) fun fr hP hN hbnd => ?_
  have hE : (envOf fr Try.prog).Ok := envOf_ok hP
  have hM := follows_of hP
  have hS : ∀ {draw ops}, statB Try.f87.ntmps draw ops = true → statB (envOf fr Try.prog).fr.N draw ops = true := fun h => by rw [envOf_fr, hN]; exact h
  repeat' (first
    | exact True.intro
    | refine ev_seq ?_
    | ((first | refine vgd_go ?_ | refine ev_region hE hM (hS (by decide +kernel)) ?_ | refine ev_if ?_ | refine end_ret hE rfl rfl ?_ | refine end_norm hE rfl rfl ?_ | refine endG_ret [] hE rfl ?_ | refine endG_norm [] hE rfl ?_ | refine vcallB_of hP (s_l1Union a b h hx) ?_ | refine vcallB_of hP (s_l1Area (un a b) (un_len a b)) ?_ | refine vcallB_of hP (s_l1Area a h.h1) ?_ | refine vcall_A ?_); simp (maxSteps := 2000000) only [go_sem, hP, ↓reduceIte, Nat.reduceAdd, Nat.reduceMul, Nat.reduceEqDiff, Nat.reduceSub, Nat.reduceLeDiff, reduceCtorEq])
    | refine ev_skip ?_ | refine ev_block ?_ | refine ev_blk ?_ | refine ev_ret ?_ | refine ev_exit ?_ | refine evx_code_ret ?_ | refine evx_blk_ret ?_ | refine evx_lp_ret ?_
    | refine evx_code_exit ?_ | refine evx_lp_exit ?_ | refine evx_blk_hit ?_ | refine evx_blk_pass (by decide) ?_
    | refine And.intro ?_ ?_ | intro _ | decide +kernel | omega)
  all_goals rfl
theorem s_growth (a b : Rect) (h : Lens a b) (hx : a.low.length ≤ 1048576) : Sat Try.prog 46 [aR a, aR b] true (rI (growth a b)) := by
  refine sat_walk (fn := Try.f46) rfl rfl rfl (Nat.le_of_ble_eq_true rfl) fun fr hP hN hbnd => ?_
  have hE : (envOf fr Try.prog).Ok := envOf_ok hP
  have hM := follows_of hP
  have hS : ∀ {draw ops}, statB Try.f46.ntmps draw ops = true → statB (envOf fr Try.prog).fr.N draw ops = true := fun h => by rw [envOf_fr, hN]; exact h
  repeat' (first
    | exact True.intro
    | refine ev_seq ?_
    | ((first | refine vgd_go ?_ | refine ev_region hE hM (hS (by decide +kernel)) ?_ | refine ev_if ?_ | refine end_ret hE rfl rfl ?_ | refine end_norm hE rfl rfl ?_ | refine endG_ret [] hE rfl ?_ | refine endG_norm [] hE rfl ?_ | refine vcallB_of hP (s_union a b h hx) ?_ | refine vcallB_of hP (s_implarea (un a b) (un_len a b)) ?_ | refine vcallB_of hP (s_implarea a h.h1) ?_ | refine vcall_A ?_); simp (maxSteps := 2000000) only [go_sem, hP, ↓reduceIte, Nat.reduceAdd, Nat.reduceMul, Nat.reduceEqDiff, Nat.reduceSub, Nat.reduceLeDiff, reduceCtorEq])
    | refine ev_skip ?_ | refine ev_block ?_ | refine ev_blk ?_ | refine ev_ret ?_ | refine ev_exit ?_ | refine evx_code_ret ?_ | refine evx_blk_ret ?_ | refine evx_lp_ret ?_
    | refine evx_code_exit ?_ | refine evx_lp_exit ?_ | refine evx_blk_hit ?_ | refine evx_blk_pass (by decide) ?_
    | refine And.intro ?_ ?_ | intro _ | decide +kernel | omega)
  all_goals rfl
theorem s_GrowthOf1 (a b : Rect) (h : two a b = 0) : Sat Try.prog 45 [pR a, pR b] true (rI (growth a b)) := by
  refine sat_walk (fn := Try.f45) rfl rfl rfl (Nat.le_of_ble_eq_true rfl) fun fr hP hN hbnd => ?_
  have hE : (envOf fr Try.prog).Ok := envOf_ok hP
  have hM := follows_of hP
  have hS : ∀ {draw ops}, statB Try.f45.ntmps draw ops = true → statB (envOf fr Try.prog).fr.N draw ops = true := fun h => by rw [envOf_fr, hN]; exact h
  repeat' (first
    | exact True.intro
    | refine ev_seq ?_
    | ((first | refine vgd_go ?_ | refine ev_region hE hM (hS (by decide +kernel)) ?_ | refine ev_if ?_ | refine end_ret hE rfl rfl ?_ | refine end_norm hE rfl rfl ?_ | refine endG_ret [] hE rfl ?_ | refine endG_norm [] hE rfl ?_ | refine vcallB_of hP (s_growth a b (two_lens h) (by have := (two_fit h).n; omega)) ?_ | refine vcall_A ?_); simp (maxSteps := 2000000) only [go_sem, hP, ↓reduceIte, Nat.reduceAdd, Nat.reduceMul, Nat.reduceEqDiff, Nat.reduceSub, Nat.reduceLeDiff, reduceCtorEq])
    | refine ev_skip ?_ | refine ev_block ?_ | refine ev_blk ?_ | refine ev_ret ?_ | refine ev_exit ?_ | refine evx_code_ret ?_ | refine evx_blk_ret ?_ | refine evx_lp_ret ?_
    | refine evx_code_exit ?_ | refine evx_lp_exit ?_ | refine evx_blk_hit ?_ | refine evx_blk_pass (by decide) ?_
    | refine And.intro ?_ ?_ | intro _ | decide +kernel | omega)
theorem s_implGrowthOf (a b : Rect) : Sat Try.prog 14 [aR a, aR b] true (rIR (two a b) (val (two a b) (growth a b))) := by
  refine sat_walk (fn := Try.f14) rfl rfl rfl (Nat.le_of_ble_eq_true rfl) fun fr hP hN hbnd => ?_
  have hE : (envOf fr Try.prog).Ok := envOf_ok hP
  have hM := follows_of hP
  have hS : ∀ {draw ops}, statB Try.f14.ntmps draw ops = true → statB (envOf fr Try.prog).fr.N draw ops = true := fun h => by rw [envOf_fr, hN]; exact h
  repeat' (first
    | exact True.intro
    | refine ev_seq ?_
    | ((first | refine vgd_go ?_ | refine ev_region hE hM (hS (by decide +kernel)) ?_ | refine ev_if ?_ | refine end_ret hE rfl rfl ?_ | refine end_norm hE rfl rfl ?_ | refine endG_ret [] hE rfl ?_ | refine endG_norm [] hE rfl ?_ | refine vcallB_of hP (s_twoFault a b) ?_ | refine vcallB_of hP (s_valued _ (growth a b) _ (fun h => s_GrowthOf1 a b h)) ?_ | refine vcall_A ?_); simp (maxSteps := 2000000) only [go_sem, hP, ↓reduceIte, Nat.reduceAdd, Nat.reduceMul, Nat.reduceEqDiff, Nat.reduceSub, Nat.reduceLeDiff, reduceCtorEq])
    | refine ev_skip ?_ | refine ev_block ?_ | refine ev_blk ?_ | refine ev_ret ?_ | refine ev_exit ?_ | refine evx_code_ret ?_ | refine evx_blk_ret ?_ | refine evx_lp_ret ?_
    | refine evx_code_exit ?_ | refine evx_lp_exit ?_ | refine evx_blk_hit ?_ | refine evx_blk_pass (by decide) ?_
    | refine And.intro ?_ ?_ | intro _ | decide +kernel | omega)
  all_goals simp_all [val]
/-- The first code of a list that is none of 0. -/
def firstF {α : Type} (f : α → Int) : List α → Int
  | [] => 0
  | x :: xs => if f x = 0 then firstF f xs else f x
theorem firstF_here {α : Type} {f : α → Int} : ∀ {xs : List α} {k : Nat} {d : α}, k < xs.length → allLt k (fun j => decide (f (xs.getD j d) = 0)) = true → f (xs.getD k d) ≠ 0 → firstF f xs = f (xs.getD k d)
  | x :: xs, 0, d, _, _, h => by simp only [List.getD_cons_zero] at h ⊢; unfold firstF; rw [if_neg h]
  | x :: xs, k + 1, d, h1, h2, h => by
    rw [allLt_iff] at h2
    have h0 := h2 0 (by omega)
    simp only [List.getD_cons_zero, decide_eq_true_eq] at h0
    simp only [List.getD_cons_succ] at h ⊢
    unfold firstF; rw [if_pos h0]
    exact firstF_here (by simpa using h1) (allLt_iff.mpr fun j hj => by simpa using h2 (j + 1) (by omega)) h
theorem firstF_done {α : Type} {f : α → Int} : ∀ {xs : List α} {k : Nat} {d : α}, xs.length ≤ k → allLt k (fun j => decide (f (xs.getD j d) = 0)) = true → firstF f xs = 0
  | [], _, _, _, _ => rfl
  | x :: xs, k, d, h1, h2 => by
    rw [allLt_iff] at h2
    have h0 := h2 0 (by simp at h1; omega)
    simp only [List.getD_cons_zero, decide_eq_true_eq] at h0
    unfold firstF; rw [if_pos h0]
    exact firstF_done (k := k - 1) (d := d) (by simp at h1; omega) (allLt_iff.mpr fun j hj => by simpa using h2 (j + 1) (by omega))
theorem firstF_zero {α : Type} {f : α → Int} : ∀ {xs : List α}, firstF f xs = 0 → ∀ x ∈ xs, f x = 0
  | [], _, _, hx => by cases hx
  | x :: xs, h, y, hy => by
    unfold firstF at h
    split at h
    · rename_i h0
      rcases List.mem_cons.1 hy with rfl | hy
      · exact h0
      · exact firstF_zero h y hy
    · rename_i h0; exact absurd h h0
theorem s_isId (a : Int) : Sat Try.prog 109 [aI a] true (rB (inB a 0 999)) := by
  refine sat_walk (fn := Try.f109) rfl rfl rfl (Nat.le_of_ble_eq_true rfl) fun fr hP hN hbnd => ?_
  have hE : (envOf fr Try.prog).Ok := envOf_ok hP
  have hM := follows_of hP
  have hS : ∀ {draw ops}, statB Try.f109.ntmps draw ops = true → statB (envOf fr Try.prog).fr.N draw ops = true := fun h => by rw [envOf_fr, hN]; exact h
  repeat' (first
    | exact True.intro
    | refine ev_seq ?_
    | ((first | refine vgd_go ?_ | refine ev_region hE hM (hS (by decide +kernel)) ?_ | refine ev_if ?_ | refine end_ret hE rfl rfl ?_ | refine end_norm hE rfl rfl ?_ | refine endG_ret [] hE rfl ?_ | refine endG_norm [] hE rfl ?_ | refine vcallB_of hP (s_within _ _ _) ?_ | refine vcall_A ?_); simp (maxSteps := 2000000) only [go_sem, hP, ↓reduceIte, Nat.reduceAdd, Nat.reduceMul, Nat.reduceEqDiff, Nat.reduceSub, Nat.reduceLeDiff, reduceCtorEq])
    | refine ev_skip ?_ | refine ev_block ?_ | refine ev_blk ?_ | refine ev_ret ?_ | refine ev_exit ?_ | refine evx_code_ret ?_ | refine evx_blk_ret ?_ | refine evx_lp_ret ?_
    | refine evx_code_exit ?_ | refine evx_lp_exit ?_ | refine evx_blk_hit ?_ | refine evx_blk_pass (by decide) ?_
    | refine And.intro ?_ ?_ | intro _ | decide +kernel | omega)
def entryF (d : Int) (e : Entry) : Int := if rf e.rect d ≠ 0 then rf e.rect d else if inB e.ref 0 999 && inB e.nsn 0 100000 then 0 else 3
theorem s_isNsn (a : Int) : Sat Try.prog 110 [aI a] true (rB (inB a 0 100000)) := by
  refine sat_walk (fn := Try.f110) rfl rfl rfl (Nat.le_of_ble_eq_true rfl) fun fr hP hN hbnd => ?_
  have hE : (envOf fr Try.prog).Ok := envOf_ok hP
  have hM := follows_of hP
  have hS : ∀ {draw ops}, statB Try.f110.ntmps draw ops = true → statB (envOf fr Try.prog).fr.N draw ops = true := fun h => by rw [envOf_fr, hN]; exact h
  repeat' (first
    | exact True.intro
    | refine ev_seq ?_
    | ((first | refine vgd_go ?_ | refine ev_region hE hM (hS (by decide +kernel)) ?_ | refine ev_if ?_ | refine end_ret hE rfl rfl ?_ | refine end_norm hE rfl rfl ?_ | refine endG_ret [] hE rfl ?_ | refine endG_norm [] hE rfl ?_ | refine vcallB_of hP (s_within _ _ _) ?_ | refine vcall_A ?_); simp (maxSteps := 2000000) only [go_sem, hP, ↓reduceIte, Nat.reduceAdd, Nat.reduceMul, Nat.reduceEqDiff, Nat.reduceSub, Nat.reduceLeDiff, reduceCtorEq])
    | refine ev_skip ?_ | refine ev_block ?_ | refine ev_blk ?_ | refine ev_ret ?_ | refine ev_exit ?_ | refine evx_code_ret ?_ | refine evx_blk_ret ?_ | refine evx_lp_ret ?_
    | refine evx_code_exit ?_ | refine evx_lp_exit ?_ | refine evx_blk_hit ?_ | refine evx_blk_pass (by decide) ?_
    | refine And.intro ?_ ?_ | intro _ | decide +kernel | omega)
theorem s_entryRange (e : Entry) : Sat Try.prog 72 [aEntry e] true (rI (if inB e.ref 0 999 && inB e.nsn 0 100000 then 0 else 3)) := by
  refine sat_walk (fn := Try.f72) rfl rfl rfl (Nat.le_of_ble_eq_true rfl) fun fr hP hN hbnd => ?_
  have hE : (envOf fr Try.prog).Ok := envOf_ok hP
  have hM := follows_of hP
  have hS : ∀ {draw ops}, statB Try.f72.ntmps draw ops = true → statB (envOf fr Try.prog).fr.N draw ops = true := fun h => by rw [envOf_fr, hN]; exact h
  repeat' (first
    | exact True.intro
    | refine ev_seq ?_
    | ((first | refine vgd_go ?_ | refine ev_region hE hM (hS (by decide +kernel)) ?_ | refine ev_if ?_ | refine end_ret hE rfl rfl ?_ | refine end_norm hE rfl rfl ?_ | refine endG_ret [] hE rfl ?_ | refine endG_norm [] hE rfl ?_ | refine vcallB_of hP (s_isId _) ?_ | refine vcallB_of hP (s_isNsn _) ?_ | refine vcall_A ?_); simp (maxSteps := 2000000) only [go_sem, hP, ↓reduceIte, Nat.reduceAdd, Nat.reduceMul, Nat.reduceEqDiff, Nat.reduceSub, Nat.reduceLeDiff, reduceCtorEq])
    | refine ev_skip ?_ | refine ev_block ?_ | refine ev_blk ?_ | refine ev_ret ?_ | refine ev_exit ?_ | refine evx_code_ret ?_ | refine evx_blk_ret ?_ | refine evx_lp_ret ?_
    | refine evx_code_exit ?_ | refine evx_lp_exit ?_ | refine evx_blk_hit ?_ | refine evx_blk_pass (by decide) ?_
    | refine And.intro ?_ ?_ | intro _ | decide +kernel | omega)
  all_goals simp_all
theorem s_l3Entry (e : Entry) (d : Int) : Sat Try.prog 82 [pEntry e, aI d] true (rI (entryF d e)) := by
  refine sat_walk (fn := Try.f82) rfl rfl rfl (Nat.le_of_ble_eq_true rfl) fun fr hP hN hbnd => ?_
  have hE : (envOf fr Try.prog).Ok := envOf_ok hP
  have hM := follows_of hP
  have hS : ∀ {draw ops}, statB Try.f82.ntmps draw ops = true → statB (envOf fr Try.prog).fr.N draw ops = true := fun h => by rw [envOf_fr, hN]; exact h
  repeat' (first
    | exact True.intro
    | refine ev_seq ?_
    | ((first | refine vgd_go ?_ | refine ev_region hE hM (hS (by decide +kernel)) ?_ | refine ev_if ?_ | refine end_ret hE rfl rfl ?_ | refine end_norm hE rfl rfl ?_ | refine endG_ret [] hE rfl ?_ | refine endG_norm [] hE rfl ?_ | refine vcallB_of hP (s_l1In _ _ _) ?_ | refine vcallB_of hP (s_specRectFault e.rect _) ?_ | refine vcall_A ?_); simp (maxSteps := 2000000) only [go_sem, hP, ↓reduceIte, Nat.reduceAdd, Nat.reduceMul, Nat.reduceEqDiff, Nat.reduceSub, Nat.reduceLeDiff, reduceCtorEq])
    | refine ev_skip ?_ | refine ev_block ?_ | refine ev_blk ?_ | refine ev_ret ?_ | refine ev_exit ?_ | refine evx_code_ret ?_ | refine evx_blk_ret ?_ | refine evx_lp_ret ?_
    | refine evx_code_exit ?_ | refine evx_lp_exit ?_ | refine evx_blk_hit ?_ | refine evx_blk_pass (by decide) ?_
    | refine And.intro ?_ ?_ | intro _ | decide +kernel | omega)
  all_goals (simp_all [entryF] <;> rfl)
def findRef (xs : List Entry) (r : Int) : Int := if xs.any (fun e => decide (e.ref = r)) then (xs.findIdx (fun e => decide (e.ref = r)) : Int) else -1
def dupAt (xs : List Entry) (j : Nat) : Bool := (xs.take j).any (fun e => decide (e.ref = (xs.getD j default).ref))
def noDup (xs : List Entry) : Bool := allLt xs.length (fun j => !dupAt xs j)
theorem findRef_self {xs : List Entry} {k : Nat} (h : k < xs.length) : findRef xs (xs.getD k default).ref = k ↔ dupAt xs k = false := by
  have hy : xs.any (fun e => decide (e.ref = (xs.getD k default).ref)) = true := any_yes (d := default) h (by simp)
  unfold findRef dupAt; rw [if_pos hy]
  constructor
  · intro he
    have he : xs.findIdx (fun e => decide (e.ref = (xs.getD k default).ref)) = k := by omega
    rw [← Bool.not_eq_true]; intro ha
    obtain ⟨x, hx, hp⟩ := List.any_eq_true.1 ha
    obtain ⟨i, hi, rfl⟩ := List.mem_iff_getElem.1 hx
    simp only [List.length_take] at hi
    have hlt : i < xs.findIdx (fun e => decide (e.ref = (xs.getD k default).ref)) := by omega
    have := List.not_of_lt_findIdx hlt
    simp only [List.getElem_take] at hp
    simp_all
  · intro hn
    rw [findIdx_here (d := default) h hn (by simp)]
theorem findRef_nonneg {xs : List Entry} {r : Int} : decide (0 ≤ findRef xs r) = xs.any (fun e => decide (e.ref = r)) := by
  unfold findRef
  cases h : xs.any (fun e => decide (e.ref = r)) <;> simp
theorem s_entryAt1 (e : Entry) (r : Int) : Sat Try.prog 112 [aEntry e, .pv [.int .i64 r]] true (rB (decide (e.ref = r))) := by
  refine sat_walk (fn := Try.f112) rfl rfl rfl (Nat.le_of_ble_eq_true rfl) fun fr hP hN hbnd => ?_
  have hE : (envOf fr Try.prog).Ok := envOf_ok hP
  have hM := follows_of hP
  have hS : ∀ {draw ops}, statB Try.f112.ntmps draw ops = true → statB (envOf fr Try.prog).fr.N draw ops = true := fun h => by rw [envOf_fr, hN]; exact h
  repeat' (first
    | exact True.intro
    | refine ev_seq ?_
    | ((first | refine vgd_go ?_ | refine ev_region hE hM (hS (by decide +kernel)) ?_ | refine ev_if ?_ | refine end_ret hE rfl rfl ?_ | refine end_norm hE rfl rfl ?_ | refine endG_ret [] hE rfl ?_ | refine endG_norm [] hE rfl ?_ | refine vcall_A ?_); simp (maxSteps := 2000000) only [go_sem, hP, ↓reduceIte, Nat.reduceAdd, Nat.reduceMul, Nat.reduceEqDiff, Nat.reduceSub, Nat.reduceLeDiff, reduceCtorEq])
    | refine ev_skip ?_ | refine ev_block ?_ | refine ev_blk ?_ | refine ev_ret ?_ | refine ev_exit ?_ | refine evx_code_ret ?_ | refine evx_blk_ret ?_ | refine evx_lp_ret ?_
    | refine evx_code_exit ?_ | refine evx_lp_exit ?_ | refine evx_blk_hit ?_ | refine evx_blk_pass (by decide) ?_
    | refine And.intro ?_ ?_ | intro _ | decide +kernel | omega)
  all_goals (simp_all <;> rfl)
theorem s_entryAt (xs : List Entry) (r : Int) : Sat Try.prog 73 [aEntryS xs, aI r] true (rI (findRef xs r)) := by
  refine sat_walk (fn := Try.f73) rfl rfl rfl (Nat.le_of_ble_eq_true rfl) fun fr hP hN hbnd => ?_
  have hE : (envOf fr Try.prog).Ok := envOf_ok hP
  have hM := follows_of hP
  have hS : ∀ {draw ops}, statB Try.f73.ntmps draw ops = true → statB (envOf fr Try.prog).fr.N draw ops = true := fun h => by rw [envOf_fr, hN]; exact h
  repeat' (first
    | exact True.intro
    | refine ev_seq ?_
    | ((first | refine vgd_go ?_ | refine ev_region hE hM (hS (by decide +kernel)) ?_ | refine ev_if ?_ | refine end_ret hE rfl rfl ?_ | refine end_norm hE rfl rfl ?_ | refine endG_ret [] hE rfl ?_ | refine endG_norm [] hE rfl ?_ | refine vcallB_of hP (s_IndexFuncEntry xs _ (fun e => decide (e.ref = r)) (fun x _ => s_entryAt1 x r)) ?_ | refine vcall_A ?_); simp (maxSteps := 2000000) only [go_sem, hP, ↓reduceIte, Nat.reduceAdd, Nat.reduceMul, Nat.reduceEqDiff, Nat.reduceSub, Nat.reduceLeDiff, reduceCtorEq])
    | refine ev_skip ?_ | refine ev_block ?_ | refine ev_blk ?_ | refine ev_ret ?_ | refine ev_exit ?_ | refine evx_code_ret ?_ | refine evx_blk_ret ?_ | refine evx_lp_ret ?_
    | refine evx_code_exit ?_ | refine evx_lp_exit ?_ | refine evx_blk_hit ?_ | refine evx_blk_pass (by decide) ?_
    | refine And.intro ?_ ?_ | intro _ | decide +kernel | omega)
  rfl
theorem s_l3Find (xs : List Entry) (r : Int) : Sat Try.prog 83 [aEntryS xs, aI r] true (rI (findRef xs r)) := by
  refine sat_walk (fn := Try.f83) rfl rfl rfl (Nat.le_of_ble_eq_true rfl) fun fr hP hN hbnd => ?_
  have hE : (envOf fr Try.prog).Ok := envOf_ok hP
  have hM := follows_of hP
  have hS : ∀ {draw ops}, statB Try.f83.ntmps draw ops = true → statB (envOf fr Try.prog).fr.N draw ops = true := fun h => by rw [envOf_fr, hN]; exact h
  have hlen := bnd_EntryS hbnd
  repeat' (first
    | exact True.intro
    | refine ev_seq ?_
    | ((first | refine vgd_go ?_ | refine ev_region hE hM (hS (by decide +kernel)) ?_ | refine ev_if ?_ | refine end_ret hE rfl rfl ?_ | refine end_norm hE rfl rfl ?_ | refine endG_ret [] hE rfl ?_ | refine endG_norm [] hE rfl ?_ | refine vcall_A ?_); simp (maxSteps := 2000000) only [go_sem, hP, ↓reduceIte, Nat.reduceAdd, Nat.reduceMul, Nat.reduceEqDiff, Nat.reduceSub, Nat.reduceLeDiff, reduceCtorEq])
    | refine ev_skip ?_ | refine ev_block ?_ | refine ev_blk ?_ | refine ev_ret ?_ | refine ev_exit ?_ | refine evx_code_ret ?_ | refine evx_blk_ret ?_ | refine evx_lp_ret ?_
    | refine evx_code_exit ?_ | refine evx_lp_exit ?_ | refine evx_blk_hit ?_ | refine evx_blk_pass (by decide) ?_
    | refine And.intro ?_ ?_ | intro _ | decide +kernel | omega)
  refine ev_loop (ι := Nat) (fun k => [(0, .c (sEntryS xs)), (1, .c (.int .i64 r)), (5, .c (.int .i64 k))]) (fun k => []) (fun _ => []) (fun k => k ≤ xs.length ∧ (xs.take k).any (fun e => decide (e.ref = r)) = false) (fun k => xs.length - k) 0 [] (by simp [allLt_zero] <;> omega) (by simp only [go_sem, hP, ↓reduceIte, Nat.reduceAdd, Nat.reduceMul, Nat.reduceEqDiff, Nat.reduceSub, Nat.reduceLeDiff, reduceCtorEq]; simp) ?_
  intro k hk
  repeat' (first
    | exact True.intro
    | refine ev_seq ?_
    | ((first | refine vgd_go ?_ | refine ev_region hE hM (hS (by decide +kernel)) ?_ | refine ev_if ?_ | refine end_ret hE rfl rfl ?_ | refine end_norm hE rfl rfl ?_ | refine endG_ret [] hE rfl ?_ | refine endG_norm [] hE rfl ?_ | refine vcall_A ?_); simp (maxSteps := 2000000) only [go_sem, hP, ↓reduceIte, Nat.reduceAdd, Nat.reduceMul, Nat.reduceEqDiff, Nat.reduceSub, Nat.reduceLeDiff, reduceCtorEq])
    | refine ev_skip ?_ | refine ev_block ?_ | refine ev_blk ?_ | refine ev_ret ?_ | refine ev_exit ?_ | refine evx_code_ret ?_ | refine evx_blk_ret ?_ | refine evx_lp_ret ?_
    | refine evx_code_exit ?_ | refine evx_lp_exit ?_ | refine evx_blk_hit ?_ | refine evx_blk_pass (by decide) ?_
    | refine And.intro ?_ ?_ | intro _ | decide +kernel | omega)
  · rename_i h1 h2
    have h3 : (fun e : Entry => decide (e.ref = r)) (xs.getD k default) = true := by simpa using h2
    unfold findRef
    rw [any_yes (d := default) (by omega) h3, findIdx_here (d := default) (by omega) hk.2 h3]; rfl
  · rename_i h1 h2
    exact ev_lp (k + 1) [] ⟨by omega, any_step (d := default) (by omega) hk.2 (by simpa using h2)⟩ (by omega) (by simp only [go_sem, hP, ↓reduceIte, Nat.reduceAdd, Nat.reduceMul, Nat.reduceEqDiff, Nat.reduceSub, Nat.reduceLeDiff, reduceCtorEq]; simp; exact wrap_nat (by omega) hlen)
  · unfold findRef
    rw [any_done (by omega) hk.2]; rfl
def esf (xs : List Entry) (d : Int) : Int :=
  if inB d 2 3 = false then 3 else if (8 : Int) < xs.length then 2 else if firstF (entryF d) xs ≠ 0 then firstF (entryF d) xs else if noDup xs then 0 else 6
def fits (l : Int) (e : Entry) : Bool := if l = 0 then decide (e.nsn = 0) else decide (e.ref < 40)
def nf (n : Node) (d : Int) : Int :=
  if (inB d 2 3 && inB n.level 0 6 && inB n.nsn 0 100000 && inB n.right (-1) 39) = false then 3 else if (5 : Int) < n.entries.length then 2 else
  if firstF (entryF d) n.entries ≠ 0 then firstF (entryF d) n.entries else if n.entries.all (fits n.level) = false then 1 else if noDup n.entries then 0 else 6
theorem lens_of {a b : Rect} {d : Int} (h1 : rf a d = 0) (h2 : rf b d = 0) : Lens a b := by
  have e1 := rf_len h1
  have e2 := rf_len h2
  exact ⟨by omega, by omega, by omega⟩
theorem s_specEntriesFault (xs : List Entry) (d : Int) : Sat Try.prog 36 [aEntryS xs, aI d] true (rI (esf xs d)) := by
  refine sat_walk (fn := Try.f36) rfl rfl rfl (Nat.le_of_ble_eq_true rfl) fun fr hP hN hbnd => ?_
  have hE : (envOf fr Try.prog).Ok := envOf_ok hP
  have hM := follows_of hP
  have hS : ∀ {draw ops}, statB Try.f36.ntmps draw ops = true → statB (envOf fr Try.prog).fr.N draw ops = true := fun h => by rw [envOf_fr, hN]; exact h
  have hlen := bnd_EntryS hbnd
  repeat' (first
    | exact True.intro
    | refine ev_seq ?_
    | ((first | refine vgd_go ?_ | refine ev_region hE hM (hS (by decide +kernel)) ?_ | refine ev_if ?_ | refine end_ret hE rfl rfl ?_ | refine end_norm hE rfl rfl ?_ | refine endG_ret [] hE rfl ?_ | refine endG_norm [] hE rfl ?_ | refine vcallB_of hP (s_l1In _ _ _) ?_ | refine vcall_A ?_); simp (maxSteps := 2000000) only [go_sem, hP, ↓reduceIte, Nat.reduceAdd, Nat.reduceMul, Nat.reduceEqDiff, Nat.reduceSub, Nat.reduceLeDiff, reduceCtorEq])
    | refine ev_skip ?_ | refine ev_block ?_ | refine ev_blk ?_ | refine ev_ret ?_ | refine ev_exit ?_ | refine evx_code_ret ?_ | refine evx_blk_ret ?_ | refine evx_lp_ret ?_
    | refine evx_code_exit ?_ | refine evx_lp_exit ?_ | refine evx_blk_hit ?_ | refine evx_blk_pass (by decide) ?_
    | refine And.intro ?_ ?_ | intro _ | decide +kernel | omega)
  · simp_all [esf]
  · simp_all [esf]
  refine ev_loop (ι := Nat) (fun k => [(0, .c (sEntryS xs)), (1, .c (.int .i64 d)), (5, .c (.int .i64 k))]) (fun k => []) (fun _ => []) (fun k => k ≤ xs.length ∧ allLt k (fun j => decide (entryF d (xs.getD j default) = 0)) = true) (fun k => xs.length - k) 0 [] (by simp [allLt_zero] <;> omega) (by simp only [go_sem, hP, ↓reduceIte, Nat.reduceAdd, Nat.reduceMul, Nat.reduceEqDiff, Nat.reduceSub, Nat.reduceLeDiff, reduceCtorEq]; simp) ?_
  intro k hk
  repeat' (first
    | exact True.intro
    | refine ev_seq ?_
    | ((first | refine vgd_go ?_ | refine ev_region hE hM (hS (by decide +kernel)) ?_ | refine ev_if ?_ | refine end_ret hE rfl rfl ?_ | refine end_norm hE rfl rfl ?_ | refine endG_ret [] hE rfl ?_ | refine endG_norm [] hE rfl ?_ | refine vcallB_of hP (s_l3Entry (xs.getD k default) _) ?_ | refine vcall_A ?_); simp (maxSteps := 2000000) only [go_sem, hP, ↓reduceIte, Nat.reduceAdd, Nat.reduceMul, Nat.reduceEqDiff, Nat.reduceSub, Nat.reduceLeDiff, reduceCtorEq])
    | refine ev_skip ?_ | refine ev_block ?_ | refine ev_blk ?_ | refine ev_ret ?_ | refine ev_exit ?_ | refine evx_code_ret ?_ | refine evx_blk_ret ?_ | refine evx_lp_ret ?_
    | refine evx_code_exit ?_ | refine evx_lp_exit ?_ | refine evx_blk_hit ?_ | refine evx_blk_pass (by decide) ?_
    | refine And.intro ?_ ?_ | intro _ | decide +kernel | omega)
  · rename_i h1 h2
    have h9 : firstF (entryF d) xs = entryF d (xs.getD k default) := firstF_here (k := k) (by omega) hk.2 (by simpa using h2)
    simp_all [esf] <;> first | omega | grind
  · rename_i h1 h2
    exact ev_lp (k + 1) [] ⟨by omega, allLt_step hk.2 (by simpa using h2)⟩ (by omega) (by simp only [go_sem, hP, ↓reduceIte, Nat.reduceAdd, Nat.reduceMul, Nat.reduceEqDiff, Nat.reduceSub, Nat.reduceLeDiff, reduceCtorEq]; simp; exact wrap_nat (by omega) hlen)
  rename_i h1
  have hz : firstF (entryF d) xs = 0 := firstF_done (by omega) hk.2
  clear h1 hk
  refine ev_loop (ι := Nat) (fun k => [(0, .c (sEntryS xs)), (7, .c (.int .i64 k))]) (fun k => []) (fun _ => []) (fun k => k ≤ xs.length ∧ allLt k (fun j => !dupAt xs j) = true) (fun k => xs.length - k) 0 [] (by simp [allLt_zero] <;> omega) (by simp only [go_sem, hP, ↓reduceIte, Nat.reduceAdd, Nat.reduceMul, Nat.reduceEqDiff, Nat.reduceSub, Nat.reduceLeDiff, reduceCtorEq]; simp) ?_
  intro k hk
  have hs := fun h => findRef_self (xs := xs) (k := k) h
  repeat' (first
    | exact True.intro
    | refine ev_seq ?_
    | ((first | refine vgd_go ?_ | refine ev_region hE hM (hS (by decide +kernel)) ?_ | refine ev_if ?_ | refine end_ret hE rfl rfl ?_ | refine end_norm hE rfl rfl ?_ | refine endG_ret [] hE rfl ?_ | refine endG_norm [] hE rfl ?_ | refine vcallB_of hP (s_l3Find xs _) ?_ | refine vcall_A ?_); simp (maxSteps := 2000000) only [go_sem, hP, ↓reduceIte, Nat.reduceAdd, Nat.reduceMul, Nat.reduceEqDiff, Nat.reduceSub, Nat.reduceLeDiff, reduceCtorEq])
    | refine ev_skip ?_ | refine ev_block ?_ | refine ev_blk ?_ | refine ev_ret ?_ | refine ev_exit ?_ | refine evx_code_ret ?_ | refine evx_blk_ret ?_ | refine evx_lp_ret ?_
    | refine evx_code_exit ?_ | refine evx_lp_exit ?_ | refine evx_blk_hit ?_ | refine evx_blk_pass (by decide) ?_
    | refine And.intro ?_ ?_ | intro _ | decide +kernel | omega)
  · rename_i h1 h2
    have h9 : noDup xs = false := allLt_not (k := k) (by omega) (by have := hs (by omega); simp_all)
    simp_all [esf] <;> first | omega | grind
  · rename_i h1 h2
    exact ev_lp (k + 1) [] ⟨by omega, allLt_step hk.2 (by have := hs (by omega); simp_all)⟩ (by omega) (by simp only [go_sem, hP, ↓reduceIte, Nat.reduceAdd, Nat.reduceMul, Nat.reduceEqDiff, Nat.reduceSub, Nat.reduceLeDiff, reduceCtorEq]; simp; exact wrap_nat (by omega) hlen)
  · have h9 : noDup xs = true := allLt_done (by omega) hk.2
    simp_all [esf] <;> first | omega | grind
theorem s_implEntriesFault (xs : List Entry) (d : Int) : Sat Try.prog 28 [aEntryS xs, aI d] true (rI (esf xs d)) := by
  refine sat_walk (fn := Try.f28) rfl rfl rfl (Nat.le_of_ble_eq_true rfl) fun fr hP hN hbnd => ?_
  have hE : (envOf fr Try.prog).Ok := envOf_ok hP
  have hM := follows_of hP
  have hS : ∀ {draw ops}, statB Try.f28.ntmps draw ops = true → statB (envOf fr Try.prog).fr.N draw ops = true := fun h => by rw [envOf_fr, hN]; exact h
  have hlen := bnd_EntryS hbnd
  repeat' (first
    | exact True.intro
    | refine ev_seq ?_
    | ((first | refine vgd_go ?_ | refine ev_region hE hM (hS (by decide +kernel)) ?_ | refine ev_if ?_ | refine end_ret hE rfl rfl ?_ | refine end_norm hE rfl rfl ?_ | refine endG_ret [] hE rfl ?_ | refine endG_norm [] hE rfl ?_ | refine vcallB_of hP (s_isDims _) ?_ | refine vcall_A ?_); simp (maxSteps := 2000000) only [go_sem, hP, ↓reduceIte, Nat.reduceAdd, Nat.reduceMul, Nat.reduceEqDiff, Nat.reduceSub, Nat.reduceLeDiff, reduceCtorEq])
    | refine ev_skip ?_ | refine ev_block ?_ | refine ev_blk ?_ | refine ev_ret ?_ | refine ev_exit ?_ | refine evx_code_ret ?_ | refine evx_blk_ret ?_ | refine evx_lp_ret ?_
    | refine evx_code_exit ?_ | refine evx_lp_exit ?_ | refine evx_blk_hit ?_ | refine evx_blk_pass (by decide) ?_
    | refine And.intro ?_ ?_ | intro _ | decide +kernel | omega)
  · simp_all [esf]
  · simp_all [esf]
  refine ev_loop (ι := Nat) (fun k => [(0, .c (sEntryS xs)), (1, .c (.int .i64 d)), (19, .c (sEntryS xs)), (20, .c (.int .i64 xs.length)), (21, .c (.int .i64 k))]) (fun k => []) (fun _ => []) (fun k => k ≤ xs.length ∧ allLt k (fun j => decide (entryF d (xs.getD j default) = 0)) = true) (fun k => xs.length - k) 0 [] (by simp [allLt_zero] <;> omega) (by simp only [go_sem, hP, ↓reduceIte, Nat.reduceAdd, Nat.reduceMul, Nat.reduceEqDiff, Nat.reduceSub, Nat.reduceLeDiff, reduceCtorEq]; simp) ?_
  intro k hk
  repeat' (first
    | exact True.intro
    | refine ev_seq ?_
    | ((first | refine vgd_go ?_ | refine ev_region hE hM (hS (by decide +kernel)) ?_ | refine ev_if ?_ | refine end_ret hE rfl rfl ?_ | refine end_norm hE rfl rfl ?_ | refine endG_ret [] hE rfl ?_ | refine endG_norm [] hE rfl ?_ | refine vcallB_of hP (s_implRectFault (xs.getD k default).rect _) ?_ | refine vcallB_of hP (s_entryRange (xs.getD k default)) ?_ | refine vcall_A ?_); simp (maxSteps := 2000000) only [go_sem, hP, ↓reduceIte, Nat.reduceAdd, Nat.reduceMul, Nat.reduceEqDiff, Nat.reduceSub, Nat.reduceLeDiff, reduceCtorEq])
    | refine ev_skip ?_ | refine ev_block ?_ | refine ev_blk ?_ | refine ev_ret ?_ | refine ev_exit ?_ | refine evx_code_ret ?_ | refine evx_blk_ret ?_ | refine evx_lp_ret ?_
    | refine evx_code_exit ?_ | refine evx_lp_exit ?_ | refine evx_blk_hit ?_ | refine evx_blk_pass (by decide) ?_
    | refine And.intro ?_ ?_ | intro _ | decide +kernel | omega)
  · rename_i h1 h2
    have h8 : entryF d (xs.getD k default) = rf (xs.getD k default).rect d := by unfold entryF; rw [if_pos (by simpa using h2)]
    have h9 : firstF (entryF d) xs = entryF d (xs.getD k default) := firstF_here (k := k) (by omega) hk.2 (by rw [h8]; simpa using h2)
    rw [h8] at h9
    simp_all [esf] <;> first | omega | grind
  · rename_i h1 h2 h3
    have h8 : entryF d (xs.getD k default) = if inB (xs.getD k default).ref 0 999 && inB (xs.getD k default).nsn 0 100000 then 0 else 3 := by unfold entryF; rw [if_neg (by simpa using h2)]
    have h9 : firstF (entryF d) xs = entryF d (xs.getD k default) := firstF_here (k := k) (by omega) hk.2 (by rw [h8]; simpa using h3)
    rw [h8] at h9
    simp_all [esf] <;> first | omega | grind
  · rename_i h1 h2 h3
    have h8 : entryF d (xs.getD k default) = if inB (xs.getD k default).ref 0 999 && inB (xs.getD k default).nsn 0 100000 then 0 else 3 := by unfold entryF; rw [if_neg (by simpa using h2)]
    exact ev_lp (k + 1) [] ⟨by omega, allLt_step hk.2 (by rw [h8]; simpa using h3)⟩ (by omega) (by simp only [go_sem, hP, ↓reduceIte, Nat.reduceAdd, Nat.reduceMul, Nat.reduceEqDiff, Nat.reduceSub, Nat.reduceLeDiff, reduceCtorEq]; simp; exact wrap_nat (by omega) hlen)
  rename_i h1
  have hz : firstF (entryF d) xs = 0 := firstF_done (by omega) hk.2
  clear h1 hk
  refine ev_loop (ι := Nat) (fun k => [(0, .c (sEntryS xs)), (38, .c (sEntryS xs)), (39, .c (.int .i64 xs.length)), (40, .c (.int .i64 k))]) (fun k => []) (fun _ => []) (fun k => k ≤ xs.length ∧ allLt k (fun j => !dupAt xs j) = true) (fun k => xs.length - k) 0 [] (by simp [allLt_zero] <;> omega) (by simp only [go_sem, hP, ↓reduceIte, Nat.reduceAdd, Nat.reduceMul, Nat.reduceEqDiff, Nat.reduceSub, Nat.reduceLeDiff, reduceCtorEq]; simp) ?_
  intro k hk
  have hn := findRef_nonneg (xs := xs.take k) (r := (xs.getD k default).ref)
  repeat' (first
    | exact True.intro
    | refine ev_seq ?_
    | ((first | refine vgd_go ?_ | refine ev_region hE hM (hS (by decide +kernel)) ?_ | refine ev_if ?_ | refine end_ret hE rfl rfl ?_ | refine end_norm hE rfl rfl ?_ | refine endG_ret [] hE rfl ?_ | refine endG_norm [] hE rfl ?_ | refine vcallB_of hP (s_entryAt (xs.take k) _) ?_ | refine vcall_A ?_); simp (maxSteps := 2000000) only [go_sem, hP, ↓reduceIte, Nat.reduceAdd, Nat.reduceMul, Nat.reduceEqDiff, Nat.reduceSub, Nat.reduceLeDiff, reduceCtorEq, Int.toNat_zero, Nat.sub_zero, ← List.map_take])
    | refine ev_skip ?_ | refine ev_block ?_ | refine ev_blk ?_ | refine ev_ret ?_ | refine ev_exit ?_ | refine evx_code_ret ?_ | refine evx_blk_ret ?_ | refine evx_lp_ret ?_
    | refine evx_code_exit ?_ | refine evx_lp_exit ?_ | refine evx_blk_hit ?_ | refine evx_blk_pass (by decide) ?_
    | refine And.intro ?_ ?_ | intro _ | decide +kernel | omega)
  · rename_i h1 h2
    have h9 : noDup xs = false := allLt_not (k := k) (by omega) (by unfold dupAt; rw [← hn]; simpa using h2)
    simp_all [esf] <;> first | omega | grind
  · rename_i h1 h2
    exact ev_lp (k + 1) [] ⟨by omega, allLt_step hk.2 (by unfold dupAt; rw [← hn]; simpa using h2)⟩ (by omega) (by simp only [go_sem, hP, ↓reduceIte, Nat.reduceAdd, Nat.reduceMul, Nat.reduceEqDiff, Nat.reduceSub, Nat.reduceLeDiff, reduceCtorEq]; simp; exact wrap_nat (by omega) hlen)
  · have h9 : noDup xs = true := allLt_done (by omega) hk.2
    simp_all [esf] <;> first | omega | grind
def efcode (n : Node) (d r : Int) : Int := if nf n d ≠ 0 then nf n d else if findRef n.entries r < 0 then 4 else 0
def cmpI (a b : Int) : Int := if a < b then -1 else if b < a then 1 else 0
def better (xs : List Entry) (r : Rect) (i j : Nat) : Bool :=
  decide (growth (xs.getD i default).rect r < growth (xs.getD j default).rect r) || (decide (growth (xs.getD i default).rect r = growth (xs.getD j default).rect r) && decide (area (xs.getD i default).rect < area (xs.getD j default).rect))
def chooseTo (xs : List Entry) (r : Rect) : Nat → Nat
  | 0 => 0
  | k + 1 => if better xs r k (chooseTo xs r k) then k else chooseTo xs r k
@[simp] theorem chooseTo_zero (xs : List Entry) (r : Rect) : chooseTo xs r 0 = 0 := rfl
@[simp] theorem chooseTo_one (xs : List Entry) (r : Rect) : chooseTo xs r 1 = 0 := by
  show (if better xs r 0 0 = true then 0 else 0) = 0
  split <;> rfl
theorem cmp_less {a b c d : Int} : ((if ¬cmpI a b = 0 then cmpI a b else cmpI c d) < 0) ↔ (decide (a < b) || (decide (a = b) && decide (c < d))) = true := by
  unfold cmpI; simp only [Bool.or_eq_true, Bool.and_eq_true, decide_eq_true_eq]; repeat' split
  all_goals omega
theorem chooseTo_yes {xs : List Entry} {r : Rect} {k : Nat} (h : better xs r k (chooseTo xs r k) = true) : chooseTo xs r (k + 1) = k := by
  show (if better xs r k (chooseTo xs r k) = true then k else chooseTo xs r k) = k
  rw [if_pos h]
theorem chooseTo_no {xs : List Entry} {r : Rect} {k : Nat} (h : ¬ better xs r k (chooseTo xs r k) = true) : chooseTo xs r (k + 1) = chooseTo xs r k := by
  show (if better xs r k (chooseTo xs r k) = true then k else chooseTo xs r k) = _
  rw [if_neg h]
theorem chooseTo_lt (xs : List Entry) (r : Rect) : ∀ k, chooseTo xs r k ≤ k
  | 0 => Nat.le_refl _
  | k + 1 => by have := chooseTo_lt xs r k; unfold chooseTo; split <;> omega
theorem chooseTo_len {xs : List Entry} {r : Rect} (h : 0 < xs.length) : ∀ k, k ≤ xs.length → chooseTo xs r k < xs.length
  | 0, _ => h
  | k + 1, hk => by have := chooseTo_len h (r := r) k (by omega); unfold chooseTo; split <;> omega
theorem s_Compare (a b : Int) : Sat Try.prog 78 [aI a, aI b] true (rI (cmpI a b)) := by
  refine sat_walk (fn := Try.f78) rfl rfl rfl (Nat.le_of_ble_eq_true rfl) fun fr hP hN hbnd => ?_
  have hE : (envOf fr Try.prog).Ok := envOf_ok hP
  have hM := follows_of hP
  have hS : ∀ {draw ops}, statB Try.f78.ntmps draw ops = true → statB (envOf fr Try.prog).fr.N draw ops = true := fun h => by rw [envOf_fr, hN]; exact h
  repeat' (first
    | exact True.intro
    | refine ev_seq ?_
    | ((first | refine vgd_go ?_ | refine ev_region hE hM (hS (by decide +kernel)) ?_ | refine ev_if ?_ | refine end_ret hE rfl rfl ?_ | refine end_norm hE rfl rfl ?_ | refine endG_ret [] hE rfl ?_ | refine endG_norm [] hE rfl ?_ | refine vcallB_of hP (s_isNaN _) ?_ | refine vcall_A ?_); simp (maxSteps := 2000000) only [go_sem, hP, ↓reduceIte, Nat.reduceAdd, Nat.reduceMul, Nat.reduceEqDiff, Nat.reduceSub, Nat.reduceLeDiff, reduceCtorEq])
    | refine ev_skip ?_ | refine ev_block ?_ | refine ev_blk ?_ | refine ev_ret ?_ | refine ev_exit ?_ | refine evx_code_ret ?_ | refine evx_blk_ret ?_ | refine evx_lp_ret ?_
    | refine evx_code_exit ?_ | refine evx_lp_exit ?_ | refine evx_blk_hit ?_ | refine evx_blk_pass (by decide) ?_
    | refine And.intro ?_ ?_ | intro _ | decide +kernel | omega)
  all_goals first
    | (simp_all [cmpI]; done)
    | (simp_all [cmpI]; omega)
def chcode (xs : List Entry) (d : Int) (r : Rect) : Int := if esf xs d ≠ 0 then esf xs d else if rf r d ≠ 0 then rf r d else if xs.length = 0 then 4 else 0
theorem s_OrL (xs : List Int) : Sat Try.prog 77 [aL xs] true (rI (firstF id xs)) := by
  refine sat_walk (fn := Try.f77) rfl rfl rfl (Nat.le_of_ble_eq_true rfl) fun fr hP hN hbnd => ?_
  have hE : (envOf fr Try.prog).Ok := envOf_ok hP
  have hM := follows_of hP
  have hS : ∀ {draw ops}, statB Try.f77.ntmps draw ops = true → statB (envOf fr Try.prog).fr.N draw ops = true := fun h => by rw [envOf_fr, hN]; exact h
  have hlen := bndL hbnd
  repeat' (first
    | exact True.intro
    | refine ev_seq ?_
    | ((first | refine vgd_go ?_ | refine ev_region hE hM (hS (by decide +kernel)) ?_ | refine ev_if ?_ | refine end_ret hE rfl rfl ?_ | refine end_norm hE rfl rfl ?_ | refine endG_ret [] hE rfl ?_ | refine endG_norm [] hE rfl ?_ | refine vcall_A ?_); simp (maxSteps := 2000000) only [go_sem, hP, ↓reduceIte, Nat.reduceAdd, Nat.reduceMul, Nat.reduceEqDiff, Nat.reduceSub, Nat.reduceLeDiff, reduceCtorEq])
    | refine ev_skip ?_ | refine ev_block ?_ | refine ev_blk ?_ | refine ev_ret ?_ | refine ev_exit ?_ | refine evx_code_ret ?_ | refine evx_blk_ret ?_ | refine evx_lp_ret ?_
    | refine evx_code_exit ?_ | refine evx_lp_exit ?_ | refine evx_blk_hit ?_ | refine evx_blk_pass (by decide) ?_
    | refine And.intro ?_ ?_ | intro _ | decide +kernel | omega)
  refine ev_loop (ι := Nat) (fun k => [(3, .c (.int .i64 0)), (6, .c (sI xs)), (7, .c (.int .i64 xs.length)), (8, .c (.int .i64 k))]) (fun k => []) (fun _ => []) (fun k => k ≤ xs.length ∧ allLt k (fun j => decide (id (xs.getD j default) = 0)) = true) (fun k => xs.length - k) 0 [] (by simp [allLt_zero] <;> omega) (by simp only [go_sem, hP, ↓reduceIte, Nat.reduceAdd, Nat.reduceMul, Nat.reduceEqDiff, Nat.reduceSub, Nat.reduceLeDiff, reduceCtorEq]; simp) ?_
  intro k hk
  repeat' (first
    | exact True.intro
    | refine ev_seq ?_
    | ((first | refine vgd_go ?_ | refine ev_region hE hM (hS (by decide +kernel)) ?_ | refine ev_if ?_ | refine end_ret hE rfl rfl ?_ | refine end_norm hE rfl rfl ?_ | refine endG_ret [] hE rfl ?_ | refine endG_norm [] hE rfl ?_ | refine vcall_A ?_); simp (maxSteps := 2000000) only [go_sem, hP, ↓reduceIte, Nat.reduceAdd, Nat.reduceMul, Nat.reduceEqDiff, Nat.reduceSub, Nat.reduceLeDiff, reduceCtorEq])
    | refine ev_skip ?_ | refine ev_block ?_ | refine ev_blk ?_ | refine ev_ret ?_ | refine ev_exit ?_ | refine evx_code_ret ?_ | refine evx_blk_ret ?_ | refine evx_lp_ret ?_
    | refine evx_code_exit ?_ | refine evx_lp_exit ?_ | refine evx_blk_hit ?_ | refine evx_blk_pass (by decide) ?_
    | refine And.intro ?_ ?_ | intro _ | decide +kernel | omega)
  · rename_i h1 h2
    have hz : id (xs.getD k default) ≠ 0 := by simpa using h2
    exact (firstF_here (f := id) (by omega) hk.2 hz).symm
  · rename_i h1 h2
    exact ev_lp (k + 1) [] ⟨by omega, allLt_step hk.2 (by simpa using h2)⟩ (by omega) (by simp only [go_sem, hP, ↓reduceIte, Nat.reduceAdd, Nat.reduceMul, Nat.reduceEqDiff, Nat.reduceSub, Nat.reduceLeDiff, reduceCtorEq]; simp; exact wrap_nat (by omega) hlen)
  · exact (firstF_done (f := id) (by omega) hk.2).symm
theorem s_Or (a b : Int) : Sat Try.prog 77 [.d (false, [.sl none 1 [[.int .i64 a], [.int .i64 b]]])] true (rI (if a ≠ 0 then a else b)) := by
  have : Sat Try.prog 77 [.d (false, [.sl none 1 [[.int .i64 a], [.int .i64 b]]])] true (rI (firstF id [a, b])) := s_OrL [a, b]
  have e : firstF id [a, b] = if a ≠ 0 then a else b := by
    by_cases h : a = 0 <;> by_cases h' : b = 0 <;> simp [firstF, h, h']
  rwa [e] at this
theorem ef_rf {d : Int} {e : Entry} (h : entryF d e = 0) : rf e.rect d = 0 := by
  unfold entryF at h; split at h
  · rename_i h1; exact absurd h h1
  · rename_i h1; simpa using h1
theorem esf_rf {xs : List Entry} {d : Int} (h : esf xs d = 0) : ∀ x ∈ xs, rf x.rect d = 0 := by
  unfold esf at h
  (repeat' split at h) <;> try omega
  rename_i h1 _
  exact fun x hx => ef_rf (firstF_zero (by simpa using h1) x hx)
theorem esf_lens {xs : List Entry} {d : Int} {r : Rect} (h1 : esf xs d = 0) (h2 : rf r d = 0) : ∀ x ∈ xs, Lens x.rect r ∧ x.rect.low.length ≤ 1048576 := by
  intro x hx
  have h3 := esf_rf h1 x hx
  have := rf_three h3
  exact ⟨lens_of h3 h2, by omega⟩
def risesI (xs : List Int) (j : Nat) : Bool := decide (j = 0) || decide (xs.getD (j - 1) default < xs.getD j default)
def wf (xs : List Int) : Int := if (4 : Int) < xs.length then 2 else if xs.all (inB · 0 3) = false then 3 else if allLt xs.length (risesI xs) then 0 else 1
theorem wf_eq {xs : List Int} (h4 : ¬ (4 : Int) < xs.length) (ha : xs.all (inB · 0 3) = true) : wf xs = if allLt xs.length (risesI xs) then 0 else 1 := by
  unfold wf; rw [if_neg h4, if_neg (by rw [ha]; decide)]
theorem wf_3 {xs : List Int} (h4 : ¬ (4 : Int) < xs.length) (ha : xs.all (inB · 0 3) = false) : wf xs = 3 := by
  unfold wf; rw [if_neg h4, if_pos ha]
theorem any_nall {xs : List Int} {p : Int → Bool} : xs.any (fun n => !p n) = !xs.all p := by
  induction xs with
  | nil => rfl
  | cons x xs ih => simp [ih]
/-- Numbers that rise from one on. -/
def markedI (k : Int) (n : Nat) : List Int := (List.range n).map fun (j : Nat) => k + j
@[simp] theorem markedI_length (k : Int) (n : Nat) : (markedI k n).length = n := by simp [markedI]
theorem markedI_getD {k : Int} {n j : Nat} (h : j < n) : (markedI k n).getD j default = k + j := by
  rw [getD_lt (by simpa using h)]; simp [markedI]
/-- A row of numbers that is given: the key's name is none of the walk's own (those are multiples of 8). -/
@[go_sem] abbrev gI (κ : Nat) (xs : List Int) : Nat × Blk := (κ, .arr true 2 1 (xs.map eI))
@[go_sem] abbrev iT (n : Int) : T := .c (.int .i64 n)
/-- How far marks may go. -/
abbrev mMax : Int := 1000000000000
def markedR (k : Int) (r : Rect) : Rect := ⟨markedI k r.low.length, markedI (k + r.low.length) r.high.length⟩
theorem markedR_w (k : Int) (r : Rect) : wR (markedR k r) = wR r := by simp [markedR, wR]
@[go_sem] abbrev tR (a b : Nat) : T := .agg [.ref a, .ref b]
@[go_sem] abbrev gR (a b : Nat) (r : Rect) : List (Nat × Blk) := [gI a r.low, gI b r.high]
end Go.Proofs.Ytegohioalgikjaa.W
