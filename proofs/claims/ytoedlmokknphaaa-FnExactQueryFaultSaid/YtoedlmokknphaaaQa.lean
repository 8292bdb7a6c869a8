/- FnExactQueryFault holds: for all arguments the law returns true and changes nothing. No condition. -/
import Derived.Test.YtoedlmokknphaaaPa
open Go Go.Vm Go.Proofs Go.IntWalk Go.RowKit
set_option maxRecDepth 100000
set_option maxHeartbeats 4000000
set_option linter.unusedSimpArgs false
set_option linter.unusedVariables false
set_option linter.unusedSectionVars false
namespace Go.Proofs.Ytoedlmokknphaaa.W
attribute [local irreducible] kJ ev evx vops vstep vgo vgd vget vcall vcallFn vcallA vcallB vts vres vcond
@[go_sem] abbrev aI (n : Int) : Arg := .d (false, [.int .i64 n])
@[go_sem] abbrev rI (n : Int) : List Dat := [(false, [.int .i64 n])]
@[go_sem] abbrev rB (b : Bool) : List Dat := [(false, [.bool b])]
/-- A slice of numbers, as an argument and as a result of its own. -/
@[go_sem] abbrev sI (xs : List Int) : C := .sl none 1 (xs.map eI)
@[go_sem] abbrev oI (xs : List Int) : C := .sl (some 2) 1 (xs.map eI)
@[go_sem] abbrev aL (xs : List Int) : Arg := .d (false, [sI xs])
@[go_sem] abbrev rL (xs : List Int) : List Dat := [(false, [oI xs])]
theorem bndL {xs : List Int} {gs : List Arg} (h : Args.bnd (aL xs :: gs)) : xs.length ≤ maxLen := by
  have := h.1.1.1; rwa [List.length_map] at this
def inB (a b c : Int) : Bool := decide (b ≤ a) && decide (a ≤ c)
theorem s_l1In (a b c : Int) : Sat Try.prog 56 [aI a, aI b, aI c] true (rB (inB a b c)) := by
  refine sat_walk (fn := Try.f56) rfl rfl rfl (Nat.le_of_ble_eq_true rfl) fun fr hP hN hbnd => ?_
  have hE : (envOf fr Try.prog).Ok := envOf_ok hP
  have hM := follows_of hP
  have hS : ∀ {draw ops}, statB Try.f56.ntmps draw ops = true → statB (envOf fr Try.prog).fr.N draw ops = true := fun h => by rw [envOf_fr, hN]; exact h
  repeat' (first
    | exact True.intro
    | refine ev_seq ?_
    | ((first | refine vgd_go ?_ | refine ev_region hE hM (hS (by decide +kernel)) ?_ | refine ev_if ?_ | refine end_ret hE rfl rfl ?_ | refine end_norm hE rfl rfl ?_ | refine vcall_A ?_); simp (maxSteps := 2000000) only [go_sem, hP, ↓reduceIte, Nat.reduceAdd, Nat.reduceMul, Nat.reduceEqDiff, Nat.reduceSub, Nat.reduceLeDiff, reduceCtorEq])
    | refine ev_skip ?_ | refine ev_block ?_ | refine ev_blk ?_ | refine ev_ret ?_ | refine ev_exit ?_ | refine evx_code_ret ?_ | refine evx_blk_ret ?_ | refine evx_lp_ret ?_
    | refine evx_code_exit ?_ | refine evx_lp_exit ?_ | refine evx_blk_hit ?_ | refine evx_blk_pass (by decide) ?_
    | refine And.intro ?_ ?_ | intro _ | decide +kernel | omega)
  all_goals simp_all [inB] <;> omega
theorem s_within (a b c : Int) : Sat Try.prog 58 [aI a, aI b, aI c] true (rB (inB a b c)) := by
  refine sat_walk (fn := Try.f58) rfl rfl rfl (Nat.le_of_ble_eq_true rfl) fun fr hP hN hbnd => ?_
  have hE : (envOf fr Try.prog).Ok := envOf_ok hP
  have hM := follows_of hP
  have hS : ∀ {draw ops}, statB Try.f58.ntmps draw ops = true → statB (envOf fr Try.prog).fr.N draw ops = true := fun h => by rw [envOf_fr, hN]; exact h
  repeat' (first
    | exact True.intro
    | refine ev_seq ?_
    | ((first | refine vgd_go ?_ | refine ev_region hE hM (hS (by decide +kernel)) ?_ | refine ev_if ?_ | refine end_ret hE rfl rfl ?_ | refine end_norm hE rfl rfl ?_ | refine vcall_A ?_); simp (maxSteps := 2000000) only [go_sem, hP, ↓reduceIte, Nat.reduceAdd, Nat.reduceMul, Nat.reduceEqDiff, Nat.reduceSub, Nat.reduceLeDiff, reduceCtorEq])
    | refine ev_skip ?_ | refine ev_block ?_ | refine ev_blk ?_ | refine ev_ret ?_ | refine ev_exit ?_ | refine evx_code_ret ?_ | refine evx_blk_ret ?_ | refine evx_lp_ret ?_
    | refine evx_code_exit ?_ | refine evx_lp_exit ?_ | refine evx_blk_hit ?_ | refine evx_blk_pass (by decide) ?_
    | refine And.intro ?_ ?_ | intro _ | decide +kernel | omega)
  all_goals simp_all [inB] <;> omega
theorem s_isDims (a : Int) : Sat Try.prog 57 [aI a] true (rB (inB a 2 3)) := by
  refine sat_walk (fn := Try.f57) rfl rfl rfl (Nat.le_of_ble_eq_true rfl) fun fr hP hN hbnd => ?_
  have hE : (envOf fr Try.prog).Ok := envOf_ok hP
  have hM := follows_of hP
  have hS : ∀ {draw ops}, statB Try.f57.ntmps draw ops = true → statB (envOf fr Try.prog).fr.N draw ops = true := fun h => by rw [envOf_fr, hN]; exact h
  repeat' (first
    | exact True.intro
    | refine ev_seq ?_
    | ((first | refine vgd_go ?_ | refine ev_region hE hM (hS (by decide +kernel)) ?_ | refine ev_if ?_ | refine end_ret hE rfl rfl ?_ | refine end_norm hE rfl rfl ?_ | refine vcall_A ?_ | refine vcallB_of hP (s_within _ _ _) ?_); simp (maxSteps := 2000000) only [go_sem, hP, ↓reduceIte, Nat.reduceAdd, Nat.reduceMul, Nat.reduceEqDiff, Nat.reduceSub, Nat.reduceLeDiff, reduceCtorEq])
    | refine ev_skip ?_ | refine ev_block ?_ | refine ev_blk ?_ | refine ev_ret ?_ | refine ev_exit ?_ | refine evx_code_ret ?_ | refine evx_blk_ret ?_ | refine evx_lp_ret ?_
    | refine evx_code_exit ?_ | refine evx_lp_exit ?_ | refine evx_blk_hit ?_ | refine evx_blk_pass (by decide) ?_
    | refine And.intro ?_ ?_ | intro _ | decide +kernel | omega)
theorem s_toInt64S (xs : List Int) (hx : xs.length ≤ 1048576) : Sat Try.prog 23 [aL xs] true (rL xs) := by
  refine sat_walk (fn := Try.f23) rfl rfl rfl (Nat.le_of_ble_eq_true rfl) fun fr hP hN hbnd => ?_
  have hE : (envOf fr Try.prog).Ok := envOf_ok hP
  have hM := follows_of hP
  have hS : ∀ {draw ops}, statB Try.f23.ntmps draw ops = true → statB (envOf fr Try.prog).fr.N draw ops = true := fun h => by rw [envOf_fr, hN]; exact h
  repeat' (first
    | exact True.intro
    | refine ev_seq ?_
    | ((first | refine vgd_go ?_ | refine ev_region hE hM (hS (by decide +kernel)) ?_ | refine ev_if ?_ | refine end_ret hE rfl rfl ?_ | refine end_norm hE rfl rfl ?_ | refine vcall_A ?_); simp (maxSteps := 2000000) only [go_sem, hP, ↓reduceIte, Nat.reduceAdd, Nat.reduceMul, Nat.reduceEqDiff, Nat.reduceSub, Nat.reduceLeDiff, reduceCtorEq])
    | refine ev_skip ?_ | refine ev_block ?_ | refine ev_blk ?_ | refine ev_ret ?_ | refine ev_exit ?_ | refine evx_code_ret ?_ | refine evx_blk_ret ?_ | refine evx_lp_ret ?_
    | refine evx_code_exit ?_ | refine evx_lp_exit ?_ | refine evx_blk_hit ?_ | refine evx_blk_pass (by decide) ?_
    | refine And.intro ?_ ?_ | intro _ | decide +kernel | omega)
  refine ev_loop (ι := Nat) (fun k => [(0, .c (sI xs)), (3, .ref 4112), (4, .c (.int .i64 k))]) (fun k => [(4112, .arr true 2 1 ((mix xs 0 k).map eI))]) (fun _ => []) (fun k => k ≤ xs.length) (fun k => xs.length - k) 0 [] (by simp) (by simp only [go_sem, hP, ↓reduceIte, Nat.reduceAdd, Nat.reduceMul, Nat.reduceEqDiff, Nat.reduceSub, Nat.reduceLeDiff, reduceCtorEq]; simp [mix_zero, eI]) ?_
  intro k hk
  repeat' (first
    | exact True.intro
    | refine ev_seq ?_
    | ((first | refine vgd_go ?_ | refine ev_region hE hM (hS (by decide +kernel)) ?_ | refine ev_if ?_ | refine end_ret hE rfl rfl ?_ | refine end_norm hE rfl rfl ?_ | refine vcall_A ?_); simp (maxSteps := 2000000) only [go_sem, hP, ↓reduceIte, Nat.reduceAdd, Nat.reduceMul, Nat.reduceEqDiff, Nat.reduceSub, Nat.reduceLeDiff, reduceCtorEq, mix_length hk])
    | refine ev_skip ?_ | refine ev_block ?_ | refine ev_blk ?_ | refine ev_ret ?_ | refine ev_exit ?_ | refine evx_code_ret ?_ | refine evx_blk_ret ?_ | refine evx_lp_ret ?_
    | refine evx_code_exit ?_ | refine evx_lp_exit ?_ | refine evx_blk_hit ?_ | refine evx_blk_pass (by decide) ?_
    | refine And.intro ?_ ?_ | intro _ | decide +kernel | omega)
  · exact ev_lp (k + 1) [] (by omega) (by omega) (by simp only [go_sem, hP, ↓reduceIte, Nat.reduceAdd, Nat.reduceMul, Nat.reduceEqDiff, Nat.reduceSub, Nat.reduceLeDiff, reduceCtorEq]; simp; exact ⟨wrap_succ (by omega) hx, mix_set_map (f := eI) (by omega)⟩)
  · rw [mix_full (by omega)]
theorem s_eqInt64S (xs ys : List Int) : Sat Try.prog 25 [aL xs, aL ys] true (rB (decide (xs = ys))) := by
  refine sat_walk (fn := Try.f25) rfl rfl rfl (Nat.le_of_ble_eq_true rfl) fun fr hP hN hbnd => ?_
  have hE : (envOf fr Try.prog).Ok := envOf_ok hP
  have hM := follows_of hP
  have hS : ∀ {draw ops}, statB Try.f25.ntmps draw ops = true → statB (envOf fr Try.prog).fr.N draw ops = true := fun h => by rw [envOf_fr, hN]; exact h
  have hlen := bndL hbnd
  repeat' (first
    | exact True.intro
    | refine ev_seq ?_
    | ((first | refine vgd_go ?_ | refine ev_region hE hM (hS (by decide +kernel)) ?_ | refine ev_if ?_ | refine end_ret hE rfl rfl ?_ | refine end_norm hE rfl rfl ?_ | refine vcall_A ?_); simp (maxSteps := 2000000) only [go_sem, hP, ↓reduceIte, Nat.reduceAdd, Nat.reduceMul, Nat.reduceEqDiff, Nat.reduceSub, Nat.reduceLeDiff, reduceCtorEq])
    | refine ev_skip ?_ | refine ev_block ?_ | refine ev_blk ?_ | refine ev_ret ?_ | refine ev_exit ?_ | refine evx_code_ret ?_ | refine evx_blk_ret ?_ | refine evx_lp_ret ?_
    | refine evx_code_exit ?_ | refine evx_lp_exit ?_ | refine evx_blk_hit ?_ | refine evx_blk_pass (by decide) ?_
    | refine And.intro ?_ ?_ | intro _ | decide +kernel | omega)
  · rename_i h; simp at h; simp; rintro rfl; exact h rfl
  rename_i h; simp at h
  refine ev_loop (ι := Nat) (fun k => [(0, .c (sI xs)), (1, .c (sI ys)), (5, .c (.int .i64 k))]) (fun k => []) (fun _ => []) (fun k => k ≤ xs.length ∧ xs.take k = ys.take k) (fun k => xs.length - k) 0 [] (by simp) (by simp only [go_sem, hP, ↓reduceIte, Nat.reduceAdd, Nat.reduceMul, Nat.reduceEqDiff, Nat.reduceSub, Nat.reduceLeDiff, reduceCtorEq]; simp) ?_
  intro k hk
  repeat' (first
    | exact True.intro
    | refine ev_seq ?_
    | ((first | refine vgd_go ?_ | refine ev_region hE hM (hS (by decide +kernel)) ?_ | refine ev_if ?_ | refine end_ret hE rfl rfl ?_ | refine end_norm hE rfl rfl ?_ | refine vcall_A ?_); simp (maxSteps := 2000000) only [go_sem, hP, ↓reduceIte, Nat.reduceAdd, Nat.reduceMul, Nat.reduceEqDiff, Nat.reduceSub, Nat.reduceLeDiff, reduceCtorEq])
    | refine ev_skip ?_ | refine ev_block ?_ | refine ev_blk ?_ | refine ev_ret ?_ | refine ev_exit ?_ | refine evx_code_ret ?_ | refine evx_blk_ret ?_ | refine evx_lp_ret ?_
    | refine evx_code_exit ?_ | refine evx_lp_exit ?_ | refine evx_blk_hit ?_ | refine evx_blk_pass (by decide) ?_
    | refine And.intro ?_ ?_ | intro _ | decide +kernel | omega)
  · rename_i h3; simp at h3; simp; exact eq_not h3
  · rename_i h3 h4; simp at h4
    exact ev_lp (k + 1) [] ⟨by omega, eq_step (d := default) (e := default) (by omega) (by omega) hk.2 (by simpa using h4)⟩ (by omega) (by simp only [go_sem, hP, ↓reduceIte, Nat.reduceAdd, Nat.reduceMul, Nat.reduceEqDiff, Nat.reduceSub, Nat.reduceLeDiff, reduceCtorEq]; simp; exact wrap_nat (by omega) hlen)
  · simp; exact eq_done (by omega) (by omega) hk.2
/-- What is left of a bulk behind a count; below 0: none. -/
def lessN (n : Nat) (left : Int) : Int := if left - n < 0 then -1 else left - n
theorem s_szInt64S (xs : List Int) (left : Int) (h0 : 0 ≤ left) (h1 : left ≤ 1048576) : Sat Try.prog 40 [aL xs, aI left] true (rI (lessN xs.length left)) := by
  refine sat_walk (fn := Try.f40) rfl rfl rfl (Nat.le_of_ble_eq_true rfl) fun fr hP hN hbnd => ?_
  have hE : (envOf fr Try.prog).Ok := envOf_ok hP
  have hM := follows_of hP
  have hS : ∀ {draw ops}, statB Try.f40.ntmps draw ops = true → statB (envOf fr Try.prog).fr.N draw ops = true := fun h => by rw [envOf_fr, hN]; exact h
  have hlen := bndL hbnd
  have hm : maxLen = 9223372036854775807 := rfl
  have hw : IntKind.i64.wrap (left - xs.length) = left - xs.length := i64_in _ (by omega)
  repeat' (first
    | exact True.intro
    | refine ev_seq ?_
    | ((first | refine vgd_go ?_ | refine ev_region hE hM (hS (by decide +kernel)) ?_ | refine ev_if ?_ | refine end_ret hE rfl rfl ?_ | refine end_norm hE rfl rfl ?_ | refine vcall_A ?_); simp (maxSteps := 2000000) only [go_sem, hP, ↓reduceIte, Nat.reduceAdd, Nat.reduceMul, Nat.reduceEqDiff, Nat.reduceSub, Nat.reduceLeDiff, reduceCtorEq, hw])
    | refine ev_skip ?_ | refine ev_block ?_ | refine ev_blk ?_ | refine ev_ret ?_ | refine ev_exit ?_ | refine evx_code_ret ?_ | refine evx_blk_ret ?_ | refine evx_lp_ret ?_
    | refine evx_code_exit ?_ | refine evx_lp_exit ?_ | refine evx_blk_hit ?_ | refine evx_blk_pass (by decide) ?_
    | refine And.intro ?_ ?_ | intro _ | decide +kernel | omega)
  all_goals simp_all [lessN] <;> omega
def pf (xs : List Int) (d : Int) : Int := if inB d 2 3 then (if (xs.length : Int) = d then (if xs.all (inB · (-1000) 1000) then 0 else 3) else 2) else 3
theorem s_specPointFault (xs : List Int) (d : Int) : Sat Try.prog 51 [aL xs, aI d] true (rI (pf xs d)) := by
  refine sat_walk (fn := Try.f51) rfl rfl rfl (Nat.le_of_ble_eq_true rfl) fun fr hP hN hbnd => ?_
  have hE : (envOf fr Try.prog).Ok := envOf_ok hP
  have hM := follows_of hP
  have hS : ∀ {draw ops}, statB Try.f51.ntmps draw ops = true → statB (envOf fr Try.prog).fr.N draw ops = true := fun h => by rw [envOf_fr, hN]; exact h
  have hlen := bndL hbnd
  repeat' (first
    | exact True.intro
    | refine ev_seq ?_
    | ((first | refine vgd_go ?_ | refine ev_region hE hM (hS (by decide +kernel)) ?_ | refine ev_if ?_ | refine end_ret hE rfl rfl ?_ | refine end_norm hE rfl rfl ?_ | refine vcall_A ?_ | refine vcallB_of hP (s_l1In _ _ _) ?_); simp (maxSteps := 2000000) only [go_sem, hP, ↓reduceIte, Nat.reduceAdd, Nat.reduceMul, Nat.reduceEqDiff, Nat.reduceSub, Nat.reduceLeDiff, reduceCtorEq])
    | refine ev_skip ?_ | refine ev_block ?_ | refine ev_blk ?_ | refine ev_ret ?_ | refine ev_exit ?_ | refine evx_code_ret ?_ | refine evx_blk_ret ?_ | refine evx_lp_ret ?_
    | refine evx_code_exit ?_ | refine evx_lp_exit ?_ | refine evx_blk_hit ?_ | refine evx_blk_pass (by decide) ?_
    | refine And.intro ?_ ?_ | intro _ | decide +kernel | omega)
  · simp_all [pf]
  · simp_all [pf]
  rename_i h1 h2
  refine ev_loop (ι := Nat) (fun k => [(0, .c (sI xs)), (5, .c (.int .i64 k))]) (fun _ => []) (fun _ => []) (fun k => k ≤ xs.length ∧ (xs.take k).all (inB · (-1000) 1000)) (fun k => xs.length - k) 0 [] ⟨by simp, by simp⟩ (by simp only [go_sem, hP, ↓reduceIte, Nat.reduceAdd, Nat.reduceMul, Nat.reduceEqDiff, Nat.reduceSub, Nat.reduceLeDiff, reduceCtorEq]; simp) ?_
  intro k hk
  repeat' (first
    | exact True.intro
    | refine ev_seq ?_
    | ((first | refine vgd_go ?_ | refine ev_region hE hM (hS (by decide +kernel)) ?_ | refine ev_if ?_ | refine end_ret hE rfl rfl ?_ | refine end_norm hE rfl rfl ?_ | refine vcall_A ?_ | refine vcallB_of hP (s_l1In _ _ _) ?_); simp (maxSteps := 2000000) only [go_sem, hP, ↓reduceIte, Nat.reduceAdd, Nat.reduceMul, Nat.reduceEqDiff, Nat.reduceSub, Nat.reduceLeDiff, reduceCtorEq])
    | refine ev_skip ?_ | refine ev_block ?_ | refine ev_blk ?_ | refine ev_ret ?_ | refine ev_exit ?_ | refine evx_code_ret ?_ | refine evx_blk_ret ?_ | refine evx_lp_ret ?_
    | refine evx_code_exit ?_ | refine evx_lp_exit ?_ | refine evx_blk_hit ?_ | refine evx_blk_pass (by decide) ?_
    | refine And.intro ?_ ?_ | intro _ | decide +kernel | omega)
  · rename_i h3 h4
    simp_all [pf, all_not (p := (inB · (-1000) 1000)) (xs := xs) (k := k) (d := default) (by omega) (by simpa using h4)]
  · rename_i h3 h4
    refine ev_lp (k + 1) [] ⟨by omega, all_step (d := default) (by omega) hk.2 (by simpa using h4)⟩ (by omega) (by simp only [go_sem, hP, ↓reduceIte, Nat.reduceAdd, Nat.reduceMul, Nat.reduceEqDiff, Nat.reduceSub, Nat.reduceLeDiff, reduceCtorEq]; simp; exact wrap_nat (by omega) hlen)
  · rename_i h3
    simp_all [pf, all_done (p := (inB · (-1000) 1000)) (xs := xs) (k := k) (by omega) hk.2]
theorem s_IndexFuncI (xs : List Int) (sem : List Dat → List Dat → Prop) (p : Int → Bool) (hp : ∀ x ∈ xs, sem [(false, [.int .i64 x])] [(false, [.bool (p x)])]) :
    Sat Try.prog 73 [aL xs, .fn sem] true (rI (if xs.any p then (xs.findIdx p : Int) else -1)) := by
  refine sat_walk (fn := Try.f73) rfl rfl rfl (Nat.le_of_ble_eq_true rfl) fun fr hP hN hbnd => ?_
  have hE : (envOf fr Try.prog).Ok := envOf_ok hP
  have hM := follows_of hP
  have hS : ∀ {draw ops}, statB Try.f73.ntmps draw ops = true → statB (envOf fr Try.prog).fr.N draw ops = true := fun h => by rw [envOf_fr, hN]; exact h
  have hlen := bndL hbnd
  repeat' (first
    | exact True.intro
    | refine ev_seq ?_
    | ((first | refine vgd_go ?_ | refine ev_region hE hM (hS (by decide +kernel)) ?_ | refine ev_if ?_ | refine end_ret hE rfl rfl ?_ | refine end_norm hE rfl rfl ?_ | refine vcall_A ?_); simp (maxSteps := 2000000) only [go_sem, hP, ↓reduceIte, Nat.reduceAdd, Nat.reduceMul, Nat.reduceEqDiff, Nat.reduceSub, Nat.reduceLeDiff, reduceCtorEq])
    | refine ev_skip ?_ | refine ev_block ?_ | refine ev_blk ?_ | refine ev_ret ?_ | refine ev_exit ?_ | refine evx_code_ret ?_ | refine evx_blk_ret ?_ | refine evx_lp_ret ?_
    | refine evx_code_exit ?_ | refine evx_lp_exit ?_ | refine evx_blk_hit ?_ | refine evx_blk_pass (by decide) ?_
    | refine And.intro ?_ ?_ | intro _ | decide +kernel | omega)
  refine ev_loop (ι := Nat) (fun k => [(0, .c (sI xs)), (1, .fn sem), (7, .c (.int .i64 xs.length)), (8, .c (.int .i64 k))]) (fun k => []) (fun _ => []) (fun k => k ≤ xs.length ∧ (xs.take k).any p = false) (fun k => xs.length - k) 0 [] (by simp) (by simp only [go_sem, hP, ↓reduceIte, Nat.reduceAdd, Nat.reduceMul, Nat.reduceEqDiff, Nat.reduceSub, Nat.reduceLeDiff, reduceCtorEq]; simp) ?_
  intro k hk
  have hq : k < xs.length → sem [(false, [.int .i64 (xs.getD k default)])] [(false, [.bool (p (xs.getD k default))])] := fun h => hp _ (getD_mem h)
  repeat' (first
    | exact True.intro
    | refine ev_seq ?_
    | ((first | refine vgd_go ?_ | refine ev_region hE hM (hS (by decide +kernel)) ?_ | refine ev_if ?_ | refine end_ret hE rfl rfl ?_ | refine end_norm hE rfl rfl ?_ | refine vcall_A ?_ | refine vcallFn_of [(false, [.int .i64 (xs.getD k default)])] [] [(false, [.bool (p (xs.getD k default))])] (by simp only [go_sem, hP, ↓reduceIte, Nat.reduceAdd, Nat.reduceMul, Nat.reduceEqDiff, Nat.reduceSub, Nat.reduceLeDiff, reduceCtorEq]) (hq (by omega)) ?_); simp (maxSteps := 2000000) only [go_sem, hP, ↓reduceIte, Nat.reduceAdd, Nat.reduceMul, Nat.reduceEqDiff, Nat.reduceSub, Nat.reduceLeDiff, reduceCtorEq])
    | refine ev_skip ?_ | refine ev_block ?_ | refine ev_blk ?_ | refine ev_ret ?_ | refine ev_exit ?_ | refine evx_code_ret ?_ | refine evx_blk_ret ?_ | refine evx_lp_ret ?_
    | refine evx_code_exit ?_ | refine evx_lp_exit ?_ | refine evx_blk_hit ?_ | refine evx_blk_pass (by decide) ?_
    | refine And.intro ?_ ?_ | intro _ | decide +kernel | omega)
  · rename_i h1 h2
    rw [any_yes (d := default) (by omega) h2, findIdx_here (d := default) (by omega) hk.2 h2]; rfl
  · rename_i h1 h2
    exact ev_lp (k + 1) [] ⟨by omega, any_step (d := default) (by omega) hk.2 h2⟩ (by omega) (by simp only [go_sem, hP, ↓reduceIte, Nat.reduceAdd, Nat.reduceMul, Nat.reduceEqDiff, Nat.reduceSub, Nat.reduceLeDiff, reduceCtorEq]; simp; exact wrap_nat (by omega) hlen)
  · rw [any_done (by omega) hk.2]; rfl
theorem s_ContainsFuncI (xs : List Int) (sem : List Dat → List Dat → Prop) (p : Int → Bool) (hp : ∀ x ∈ xs, sem [(false, [.int .i64 x])] [(false, [.bool (p x)])]) :
    Sat Try.prog 68 [aL xs, .fn sem] true (rB (xs.any p)) := by
  refine sat_walk (fn := Try.f68) rfl rfl rfl (Nat.le_of_ble_eq_true rfl) fun fr hP hN hbnd => ?_
  have hE : (envOf fr Try.prog).Ok := envOf_ok hP
  have hM := follows_of hP
  have hS : ∀ {draw ops}, statB Try.f68.ntmps draw ops = true → statB (envOf fr Try.prog).fr.N draw ops = true := fun h => by rw [envOf_fr, hN]; exact h
  repeat' (first
    | exact True.intro
    | refine ev_seq ?_
    | ((first | refine vgd_go ?_ | refine ev_region hE hM (hS (by decide +kernel)) ?_ | refine ev_if ?_ | refine end_ret hE rfl rfl ?_ | refine end_norm hE rfl rfl ?_ | refine vcall_A ?_ | refine vcallB_of hP (s_IndexFuncI _ _ p hp) ?_); simp (maxSteps := 2000000) only [go_sem, hP, ↓reduceIte, Nat.reduceAdd, Nat.reduceMul, Nat.reduceEqDiff, Nat.reduceSub, Nat.reduceLeDiff, reduceCtorEq])
    | refine ev_skip ?_ | refine ev_block ?_ | refine ev_blk ?_ | refine ev_ret ?_ | refine ev_exit ?_ | refine evx_code_ret ?_ | refine evx_blk_ret ?_ | refine evx_lp_ret ?_
    | refine evx_code_exit ?_ | refine evx_lp_exit ?_ | refine evx_blk_hit ?_ | refine evx_blk_pass (by decide) ?_
    | refine And.intro ?_ ?_ | intro _ | decide +kernel | omega)
  · split <;> simp_all <;> omega
theorem s_PointFault1 (a : Int) : Sat Try.prog 69 [aI a] true (rB (!inB a (-1000) 1000)) := by
  refine sat_walk (fn := Try.f69) rfl rfl rfl (Nat.le_of_ble_eq_true rfl) fun fr hP hN hbnd => ?_
  have hE : (envOf fr Try.prog).Ok := envOf_ok hP
  have hM := follows_of hP
  have hS : ∀ {draw ops}, statB Try.f69.ntmps draw ops = true → statB (envOf fr Try.prog).fr.N draw ops = true := fun h => by rw [envOf_fr, hN]; exact h
  repeat' (first
    | exact True.intro
    | refine ev_seq ?_
    | ((first | refine vgd_go ?_ | refine ev_region hE hM (hS (by decide +kernel)) ?_ | refine ev_if ?_ | refine end_ret hE rfl rfl ?_ | refine end_norm hE rfl rfl ?_ | refine vcall_A ?_ | refine vcallB_of hP (s_within _ _ _) ?_); simp (maxSteps := 2000000) only [go_sem, hP, ↓reduceIte, Nat.reduceAdd, Nat.reduceMul, Nat.reduceEqDiff, Nat.reduceSub, Nat.reduceLeDiff, reduceCtorEq])
    | refine ev_skip ?_ | refine ev_block ?_ | refine ev_blk ?_ | refine ev_ret ?_ | refine ev_exit ?_ | refine evx_code_ret ?_ | refine evx_blk_ret ?_ | refine evx_lp_ret ?_
    | refine evx_code_exit ?_ | refine evx_lp_exit ?_ | refine evx_blk_hit ?_ | refine evx_blk_pass (by decide) ?_
    | refine And.intro ?_ ?_ | intro _ | decide +kernel | omega)
theorem s_implPointFault (xs : List Int) (d : Int) : Sat Try.prog 53 [aL xs, aI d] true (rI (pf xs d)) := by
  refine sat_walk (fn := Try.f53) rfl rfl rfl (Nat.le_of_ble_eq_true rfl) fun fr hP hN hbnd => ?_
  have hE : (envOf fr Try.prog).Ok := envOf_ok hP
  have hM := follows_of hP
  have hS : ∀ {draw ops}, statB Try.f53.ntmps draw ops = true → statB (envOf fr Try.prog).fr.N draw ops = true := fun h => by rw [envOf_fr, hN]; exact h
  repeat' (first
    | exact True.intro
    | refine ev_seq ?_
    | ((first | refine vgd_go ?_ | refine ev_region hE hM (hS (by decide +kernel)) ?_ | refine ev_if ?_ | refine end_ret hE rfl rfl ?_ | refine end_norm hE rfl rfl ?_ | refine vcall_A ?_ | refine vcallB_of hP (s_isDims _) ?_ | refine vcallB_of hP (s_ContainsFuncI xs _ (fun x => !inB x (-1000) 1000) (fun x _ => s_PointFault1 x)) ?_); simp (maxSteps := 2000000) only [go_sem, hP, ↓reduceIte, Nat.reduceAdd, Nat.reduceMul, Nat.reduceEqDiff, Nat.reduceSub, Nat.reduceLeDiff, reduceCtorEq])
    | refine ev_skip ?_ | refine ev_block ?_ | refine ev_blk ?_ | refine ev_ret ?_ | refine ev_exit ?_ | refine evx_code_ret ?_ | refine evx_blk_ret ?_ | refine evx_lp_ret ?_
    | refine evx_code_exit ?_ | refine evx_lp_exit ?_ | refine evx_blk_hit ?_ | refine evx_blk_pass (by decide) ?_
    | refine And.intro ?_ ?_ | intro _ | decide +kernel | omega)
  all_goals simp_all [pf]
structure Rect where
  low : List Int
  high : List Int
  deriving DecidableEq, Inhabited
@[go_sem] abbrev cR (r : Rect) : List C := [sI r.low, sI r.high]
@[go_sem] abbrev oR (r : Rect) : List C := [oI r.low, oI r.high]
@[go_sem] abbrev aR (r : Rect) : Arg := .d (true, cR r)
@[go_sem] abbrev pR (r : Rect) : Arg := .pv (cR r)
@[go_sem] abbrev rR (r : Rect) : List Dat := [(true, oR r)]
theorem bndR {r : Rect} {gs : List Arg} (h : Args.bnd (aR r :: gs)) : r.low.length ≤ maxLen ∧ r.high.length ≤ maxLen := by
  have h1 := h.1.1.1; have h2 := h.1.2.1.1
  rw [List.length_map] at h1 h2; exact ⟨h1, h2⟩
theorem bndPR {r : Rect} {gs : List Arg} (h : Args.bnd (pR r :: gs)) : r.low.length ≤ maxLen ∧ r.high.length ≤ maxLen := by
  have h1 := h.1.1.1; have h2 := h.1.2.1.1
  rw [List.length_map] at h1 h2; exact ⟨h1, h2⟩
theorem eqR (a b : Rect) : a = b ↔ a.low = b.low ∧ a.high = b.high := by cases a; cases b; simp
def wR (r : Rect) : Nat := r.low.length + r.high.length
theorem s_szRect (r : Rect) (left : Int) (h0 : 0 ≤ left) (h1 : left ≤ 1048576) : Sat Try.prog 14 [aR r, aI left] true (rI (lessN (wR r) left)) := by
  refine sat_walk (fn := Try.f14) rfl rfl rfl (Nat.le_of_ble_eq_true rfl) fun fr hP hN hbnd => ?_
  have hE : (envOf fr Try.prog).Ok := envOf_ok hP
  have hM := follows_of hP
  have hS : ∀ {draw ops}, statB Try.f14.ntmps draw ops = true → statB (envOf fr Try.prog).fr.N draw ops = true := fun h => by rw [envOf_fr, hN]; exact h
  have hl := bndR hbnd
  repeat' (first
    | exact True.intro
    | refine ev_seq ?_
    | ((first | refine vgd_go ?_ | refine ev_region hE hM (hS (by decide +kernel)) ?_ | refine ev_if ?_ | refine end_ret hE rfl rfl ?_ | refine end_norm hE rfl rfl ?_ | refine vcall_A ?_ | refine vcallB_of hP (s_szInt64S _ _ h0 h1) ?_ | refine vcallB_of hP (s_szInt64S _ _ (by simp only [lessN] at *; omega) (by simp only [lessN] at *; omega)) ?_); simp (maxSteps := 2000000) only [go_sem, hP, ↓reduceIte, Nat.reduceAdd, Nat.reduceMul, Nat.reduceEqDiff, Nat.reduceSub, Nat.reduceLeDiff, reduceCtorEq])
    | refine ev_skip ?_ | refine ev_block ?_ | refine ev_blk ?_ | refine ev_ret ?_ | refine ev_exit ?_ | refine evx_code_ret ?_ | refine evx_blk_ret ?_ | refine evx_lp_ret ?_
    | refine evx_code_exit ?_ | refine evx_lp_exit ?_ | refine evx_blk_hit ?_ | refine evx_blk_pass (by decide) ?_
    | refine And.intro ?_ ?_ | intro _ | decide +kernel | omega)
  all_goals simp_all only [lessN, wR]
  all_goals omega
theorem s_toRect (r : Rect) (h : wR r ≤ 1048576) : Sat Try.prog 16 [aR r] true (rR r) := by
  refine sat_walk (fn := Try.f16) rfl rfl rfl (Nat.le_of_ble_eq_true rfl) fun fr hP hN hbnd => ?_
  have hE : (envOf fr Try.prog).Ok := envOf_ok hP
  have hM := follows_of hP
  have hS : ∀ {draw ops}, statB Try.f16.ntmps draw ops = true → statB (envOf fr Try.prog).fr.N draw ops = true := fun h => by rw [envOf_fr, hN]; exact h
  have hw : r.low.length ≤ 1048576 ∧ r.high.length ≤ 1048576 := by simp only [wR] at h; omega
  repeat' (first
    | exact True.intro
    | refine ev_seq ?_
    | ((first | refine vgd_go ?_ | refine ev_region hE hM (hS (by decide +kernel)) ?_ | refine ev_if ?_ | refine end_ret hE rfl rfl ?_ | refine end_norm hE rfl rfl ?_ | refine vcall_A ?_ | refine vcallB_of hP (s_toInt64S _ hw.1) ?_ | refine vcallB_of hP (s_toInt64S _ hw.2) ?_); simp (maxSteps := 2000000) only [go_sem, hP, ↓reduceIte, Nat.reduceAdd, Nat.reduceMul, Nat.reduceEqDiff, Nat.reduceSub, Nat.reduceLeDiff, reduceCtorEq])
    | refine ev_skip ?_ | refine ev_block ?_ | refine ev_blk ?_ | refine ev_ret ?_ | refine ev_exit ?_ | refine evx_code_ret ?_ | refine evx_blk_ret ?_ | refine evx_lp_ret ?_
    | refine evx_code_exit ?_ | refine evx_lp_exit ?_ | refine evx_blk_hit ?_ | refine evx_blk_pass (by decide) ?_
    | refine And.intro ?_ ?_ | intro _ | decide +kernel | omega)
theorem s_eqRect (a b : Rect) : Sat Try.prog 19 [aR a, aR b] true (rB (decide (a = b))) := by
  refine sat_walk (fn := Try.f19) rfl rfl rfl (Nat.le_of_ble_eq_true rfl) fun fr hP hN hbnd => ?_
  have hE : (envOf fr Try.prog).Ok := envOf_ok hP
  have hM := follows_of hP
  have hS : ∀ {draw ops}, statB Try.f19.ntmps draw ops = true → statB (envOf fr Try.prog).fr.N draw ops = true := fun h => by rw [envOf_fr, hN]; exact h
  repeat' (first
    | exact True.intro
    | refine ev_seq ?_
    | ((first | refine vgd_go ?_ | refine ev_region hE hM (hS (by decide +kernel)) ?_ | refine ev_if ?_ | refine end_ret hE rfl rfl ?_ | refine end_norm hE rfl rfl ?_ | refine vcall_A ?_ | refine vcallB_of hP (s_eqInt64S _ _) ?_); simp (maxSteps := 2000000) only [go_sem, hP, ↓reduceIte, Nat.reduceAdd, Nat.reduceMul, Nat.reduceEqDiff, Nat.reduceSub, Nat.reduceLeDiff, reduceCtorEq])
    | refine ev_skip ?_ | refine ev_block ?_ | refine ev_blk ?_ | refine ev_ret ?_ | refine ev_exit ?_ | refine evx_code_ret ?_ | refine evx_blk_ret ?_ | refine evx_lp_ret ?_
    | refine evx_code_exit ?_ | refine evx_lp_exit ?_ | refine evx_blk_hit ?_ | refine evx_blk_pass (by decide) ?_
    | refine And.intro ?_ ?_ | intro _ | decide +kernel | omega)
  all_goals simp_all [eqR]
theorem shp_R {n t : Nat} {cs : List C} (ht : (Try.prog.underlying t).bind fieldTs = some [28, 28]) (h : shp Try.prog (n + 3) t cs) : ∃ r, cs = cR r := by
  obtain ⟨x, y, rfl, h1, z, w, rfl, h2, rfl⟩ := shp_struct ht h
  obtain ⟨xs, rfl, _⟩ := shp_ints (n := n) (e := 2) rfl rfl rfl h1
  obtain ⟨ys, rfl, _⟩ := shp_ints (n := n) (e := 2) rfl rfl rfl h2
  exact ⟨⟨xs, ys⟩, rfl⟩
theorem pf_len {xs : List Int} {d : Int} (h : pf xs d = 0) : (xs.length : Int) = d := by
  unfold pf at h; split at h <;> (try split at h) <;> simp_all
/-- The low corner is nowhere above the high one. -/
def lowHigh (r : Rect) : Bool := allLt r.low.length fun j => decide (r.low.getD j default ≤ r.high.getD j default)
def rf (r : Rect) (d : Int) : Int := if pf r.low d ≠ 0 then pf r.low d else if pf r.high d ≠ 0 then pf r.high d else if lowHigh r then 0 else 1
theorem s_specRectFault (r : Rect) (d : Int) : Sat Try.prog 41 [aR r, aI d] true (rI (rf r d)) := by
  refine sat_walk (fn := Try.f41) rfl rfl rfl (Nat.le_of_ble_eq_true rfl) fun fr hP hN hbnd => ?_
  have hE : (envOf fr Try.prog).Ok := envOf_ok hP
  have hM := follows_of hP
  have hS : ∀ {draw ops}, statB Try.f41.ntmps draw ops = true → statB (envOf fr Try.prog).fr.N draw ops = true := fun h => by rw [envOf_fr, hN]; exact h
  have hl := bndR hbnd
  repeat' (first
    | exact True.intro
    | refine ev_seq ?_
    | ((first | refine vgd_go ?_ | refine ev_region hE hM (hS (by decide +kernel)) ?_ | refine ev_if ?_ | refine end_ret hE rfl rfl ?_ | refine end_norm hE rfl rfl ?_ | refine vcall_A ?_ | refine vcallB_of hP (s_specPointFault _ _) ?_); simp (maxSteps := 2000000) only [go_sem, hP, ↓reduceIte, Nat.reduceAdd, Nat.reduceMul, Nat.reduceEqDiff, Nat.reduceSub, Nat.reduceLeDiff, reduceCtorEq])
    | refine ev_skip ?_ | refine ev_block ?_ | refine ev_blk ?_ | refine ev_ret ?_ | refine ev_exit ?_ | refine evx_code_ret ?_ | refine evx_blk_ret ?_ | refine evx_lp_ret ?_
    | refine evx_code_exit ?_ | refine evx_lp_exit ?_ | refine evx_blk_hit ?_ | refine evx_blk_pass (by decide) ?_
    | refine And.intro ?_ ?_ | intro _ | decide +kernel | omega)
  · simp_all [rf]
  · simp_all [rf]
  rename_i h1 h2
  have e1 := pf_len (by simpa using h1)
  have e2 := pf_len (by simpa using h2)
  refine ev_loop (ι := Nat) (fun k => [(2, .ptr 0 0), (7, .c (.int .i64 k))]) (fun k => [(0, .box [.c (sI r.low), .c (sI r.high)])]) (fun _ => []) (fun k => k ≤ r.low.length ∧ allLt k (fun j => decide (r.low.getD j default ≤ r.high.getD j default)) = true) (fun k => r.low.length - k) 0 [] (by simp [allLt_zero] <;> omega) (by simp only [go_sem, hP, ↓reduceIte, Nat.reduceAdd, Nat.reduceMul, Nat.reduceEqDiff, Nat.reduceSub, Nat.reduceLeDiff, reduceCtorEq]; simp) ?_
  intro k hk
  repeat' (first
    | exact True.intro
    | refine ev_seq ?_
    | ((first | refine vgd_go ?_ | refine ev_region hE hM (hS (by decide +kernel)) ?_ | refine ev_if ?_ | refine end_ret hE rfl rfl ?_ | refine end_norm hE rfl rfl ?_ | refine vcall_A ?_); simp (maxSteps := 2000000) only [go_sem, hP, ↓reduceIte, Nat.reduceAdd, Nat.reduceMul, Nat.reduceEqDiff, Nat.reduceSub, Nat.reduceLeDiff, reduceCtorEq])
    | refine ev_skip ?_ | refine ev_block ?_ | refine ev_blk ?_ | refine ev_ret ?_ | refine ev_exit ?_ | refine evx_code_ret ?_ | refine evx_blk_ret ?_ | refine evx_lp_ret ?_
    | refine evx_code_exit ?_ | refine evx_lp_exit ?_ | refine evx_blk_hit ?_ | refine evx_blk_pass (by decide) ?_
    | refine And.intro ?_ ?_ | intro _ | decide +kernel | omega)
  · rename_i h3 h4
    have : lowHigh r = false := allLt_not (k := k) (by omega) (by simpa using h4)
    simp_all [rf]
  · rename_i h3 h4
    exact ev_lp (k + 1) [] ⟨by omega, allLt_step hk.2 (by simpa using h4)⟩ (by omega) (by simp only [go_sem, hP, ↓reduceIte, Nat.reduceAdd, Nat.reduceMul, Nat.reduceEqDiff, Nat.reduceSub, Nat.reduceLeDiff, reduceCtorEq]; simp; exact wrap_nat (by omega) hl.1)
  · have : lowHigh r = true := allLt_done (by omega) hk.2
    simp_all [rf]
theorem s_implRectFault (r : Rect) (d : Int) : Sat Try.prog 44 [aR r, aI d] true (rI (rf r d)) := by
  refine sat_walk (fn := Try.f44) rfl rfl rfl (Nat.le_of_ble_eq_true rfl) fun fr hP hN hbnd => ?_
  have hE : (envOf fr Try.prog).Ok := envOf_ok hP
  have hM := follows_of hP
  have hS : ∀ {draw ops}, statB Try.f44.ntmps draw ops = true → statB (envOf fr Try.prog).fr.N draw ops = true := fun h => by rw [envOf_fr, hN]; exact h
  have hl := bndR hbnd
  repeat' (first
    | exact True.intro
    | refine ev_seq ?_
    | ((first | refine vgd_go ?_ | refine ev_region hE hM (hS (by decide +kernel)) ?_ | refine ev_if ?_ | refine end_ret hE rfl rfl ?_ | refine end_norm hE rfl rfl ?_ | refine vcall_A ?_ | refine vcallB_of hP (s_implPointFault _ _) ?_); simp (maxSteps := 2000000) only [go_sem, hP, ↓reduceIte, Nat.reduceAdd, Nat.reduceMul, Nat.reduceEqDiff, Nat.reduceSub, Nat.reduceLeDiff, reduceCtorEq])
    | refine ev_skip ?_ | refine ev_block ?_ | refine ev_blk ?_ | refine ev_ret ?_ | refine ev_exit ?_ | refine evx_code_ret ?_ | refine evx_blk_ret ?_ | refine evx_lp_ret ?_
    | refine evx_code_exit ?_ | refine evx_lp_exit ?_ | refine evx_blk_hit ?_ | refine evx_blk_pass (by decide) ?_
    | refine And.intro ?_ ?_ | intro _ | decide +kernel | omega)
  · simp_all [rf]
  · simp_all [rf]
  rename_i h1 h2
  have e1 := pf_len (by simpa using h1)
  have e2 := pf_len (by simpa using h2)
  refine ev_loop (ι := Nat) (fun k => [(2, .ptr 0 0), (24, .c (sI r.low)), (25, .c (.int .i64 r.low.length)), (26, .c (.int .i64 k))]) (fun k => [(0, .box [.c (sI r.low), .c (sI r.high)])]) (fun _ => []) (fun k => k ≤ r.low.length ∧ allLt k (fun j => decide (r.low.getD j default ≤ r.high.getD j default)) = true) (fun k => r.low.length - k) 0 [] (by simp [allLt_zero] <;> omega) (by simp only [go_sem, hP, ↓reduceIte, Nat.reduceAdd, Nat.reduceMul, Nat.reduceEqDiff, Nat.reduceSub, Nat.reduceLeDiff, reduceCtorEq]; simp) ?_
  intro k hk
  repeat' (first
    | exact True.intro
    | refine ev_seq ?_
    | ((first | refine vgd_go ?_ | refine ev_region hE hM (hS (by decide +kernel)) ?_ | refine ev_if ?_ | refine end_ret hE rfl rfl ?_ | refine end_norm hE rfl rfl ?_ | refine vcall_A ?_); simp (maxSteps := 2000000) only [go_sem, hP, ↓reduceIte, Nat.reduceAdd, Nat.reduceMul, Nat.reduceEqDiff, Nat.reduceSub, Nat.reduceLeDiff, reduceCtorEq])
    | refine ev_skip ?_ | refine ev_block ?_ | refine ev_blk ?_ | refine ev_ret ?_ | refine ev_exit ?_ | refine evx_code_ret ?_ | refine evx_blk_ret ?_ | refine evx_lp_ret ?_
    | refine evx_code_exit ?_ | refine evx_lp_exit ?_ | refine evx_blk_hit ?_ | refine evx_blk_pass (by decide) ?_
    | refine And.intro ?_ ?_ | intro _ | decide +kernel | omega)
  · rename_i h3 h4
    have : lowHigh r = false := allLt_not (k := k) (by omega) (by simpa using h4)
    simp_all [rf]
  · rename_i h3 h4
    exact ev_lp (k + 1) [] ⟨by omega, allLt_step hk.2 (by simpa using h4)⟩ (by omega) (by simp only [go_sem, hP, ↓reduceIte, Nat.reduceAdd, Nat.reduceMul, Nat.reduceEqDiff, Nat.reduceSub, Nat.reduceLeDiff, reduceCtorEq]; simp; exact wrap_nat (by omega) hl.1)
  · have : lowHigh r = true := allLt_done (by omega) hk.2
    simp_all [rf]
structure Query where
  kind : Int
  rect : Rect
  point : List Int
  k : Int
  deriving DecidableEq, Inhabited
def eQuery (x : Query) : List C := [.int .i64 x.kind, sI x.rect.low, sI x.rect.high, sI x.point, .int .i64 x.k]
def oQuery (x : Query) : List C := [.int .i64 x.kind, oI x.rect.low, oI x.rect.high, oI x.point, .int .i64 x.k]
@[go_sem] theorem eQuery_eq (x : Query) : eQuery x = [.int .i64 x.kind, sI x.rect.low, sI x.rect.high, sI x.point, .int .i64 x.k] := rfl
@[go_sem] theorem oQuery_eq (x : Query) : oQuery x = [.int .i64 x.kind, oI x.rect.low, oI x.rect.high, oI x.point, .int .i64 x.k] := rfl
theorem stripC_oQuery (x : Query) : Cs.strip (oQuery x) = eQuery x := by simp [oQuery, eQuery, Cs.strip, C.strip, strip_eI]
theorem stripC_eQuery (x : Query) : Cs.strip (eQuery x) = eQuery x := by simp [eQuery, Cs.strip, C.strip, strip_eI]
@[go_sem] theorem strip_oQuery (xs : List Query) : Es.strip (xs.map oQuery) = xs.map eQuery := by rw [Es.strip_map]; simp [Function.comp_def, stripC_oQuery]
@[go_sem] theorem strip_eQuery (xs : List Query) : Es.strip (xs.map eQuery) = xs.map eQuery := by rw [Es.strip_map]; simp [Function.comp_def, stripC_eQuery]
@[go_sem] abbrev aQuery (x : Query) : Arg := .d (true, eQuery x)
@[go_sem] abbrev pQuery (x : Query) : Arg := .pv (eQuery x)
@[go_sem] abbrev rQuery (x : Query) : List Dat := [(true, oQuery x)]
theorem bnd_Query {x : Query} {gs : List Arg} (h : Args.bnd (aQuery x :: gs)) : x.rect.low.length ≤ maxLen ∧ x.rect.high.length ≤ maxLen ∧ x.point.length ≤ maxLen := by
  have h0 := h.1.2.1.1; rw [List.length_map] at h0
  have h1 := h.1.2.2.1.1; rw [List.length_map] at h1
  have h2 := h.1.2.2.2.1.1; rw [List.length_map] at h2
  exact ⟨h0, h1, h2⟩
theorem bndp_Query {x : Query} {gs : List Arg} (h : Args.bnd (pQuery x :: gs)) : x.rect.low.length ≤ maxLen ∧ x.rect.high.length ≤ maxLen ∧ x.point.length ≤ maxLen := by
  have h0 := h.1.2.1.1; rw [List.length_map] at h0
  have h1 := h.1.2.2.1.1; rw [List.length_map] at h1
  have h2 := h.1.2.2.2.1.1; rw [List.length_map] at h2
  exact ⟨h0, h1, h2⟩
theorem eqQuery (a b : Query) : a = b ↔ a.kind = b.kind ∧ a.rect = b.rect ∧ a.point = b.point ∧ a.k = b.k := by cases a; cases b; simp
def wQuery (x : Query) : Nat := wR x.rect + x.point.length
theorem s_toQuery (x : Query) (h : wQuery x ≤ 1048576) : Sat Try.prog 28 [aQuery x] true (rQuery x) := by
  refine sat_walk (fn := Try.f28) rfl rfl rfl (Nat.le_of_ble_eq_true rfl) fun fr hP hN hbnd => ?_
  have hE : (envOf fr Try.prog).Ok := envOf_ok hP
  have hM := follows_of hP
  have hS : ∀ {draw ops}, statB Try.f28.ntmps draw ops = true → statB (envOf fr Try.prog).fr.N draw ops = true := fun h => by rw [envOf_fr, hN]; exact h
  simp only [wQuery] at h
  repeat' (first
    | exact True.intro
    | refine ev_seq ?_
    | ((first | refine vgd_go ?_ | refine ev_region hE hM (hS (by decide +kernel)) ?_ | refine ev_if ?_ | refine end_ret hE rfl rfl ?_ | refine end_norm hE rfl rfl ?_ | refine vcall_A ?_ | refine vcallB_of hP (s_toRect x.rect (by omega)) ?_ | refine vcallB_of hP (s_toInt64S x.point (by omega)) ?_); simp (maxSteps := 2000000) only [go_sem, hP, ↓reduceIte, Nat.reduceAdd, Nat.reduceMul, Nat.reduceEqDiff, Nat.reduceSub, Nat.reduceLeDiff, reduceCtorEq])
    | refine ev_skip ?_ | refine ev_block ?_ | refine ev_blk ?_ | refine ev_ret ?_ | refine ev_exit ?_ | refine evx_code_ret ?_ | refine evx_blk_ret ?_ | refine evx_lp_ret ?_
    | refine evx_code_exit ?_ | refine evx_lp_exit ?_ | refine evx_blk_hit ?_ | refine evx_blk_pass (by decide) ?_
    | refine And.intro ?_ ?_ | intro _ | decide +kernel | omega)
theorem s_szQuery (x : Query) (left : Int) (h0 : 0 ≤ left) (h1 : left ≤ 1048576) : Sat Try.prog 26 [aQuery x, aI left] true (rI (lessN (wQuery x) left)) := by
  refine sat_walk (fn := Try.f26) rfl rfl rfl (Nat.le_of_ble_eq_true rfl) fun fr hP hN hbnd => ?_
  have hE : (envOf fr Try.prog).Ok := envOf_ok hP
  have hM := follows_of hP
  have hS : ∀ {draw ops}, statB Try.f26.ntmps draw ops = true → statB (envOf fr Try.prog).fr.N draw ops = true := fun h => by rw [envOf_fr, hN]; exact h
  repeat' (first
    | exact True.intro
    | refine ev_seq ?_
    | ((first | refine vgd_go ?_ | refine ev_region hE hM (hS (by decide +kernel)) ?_ | refine ev_if ?_ | refine end_ret hE rfl rfl ?_ | refine end_norm hE rfl rfl ?_ | refine vcall_A ?_ | refine vcallB_of hP (s_szRect x.rect _ (by (try simp only [lessN] at *); omega) (by (try simp only [lessN] at *); omega)) ?_ | refine vcallB_of hP (s_szInt64S x.point _ (by (try simp only [lessN] at *); omega) (by (try simp only [lessN] at *); omega)) ?_); simp (maxSteps := 2000000) only [go_sem, hP, ↓reduceIte, Nat.reduceAdd, Nat.reduceMul, Nat.reduceEqDiff, Nat.reduceSub, Nat.reduceLeDiff, reduceCtorEq])
    | refine ev_skip ?_ | refine ev_block ?_ | refine ev_blk ?_ | refine ev_ret ?_ | refine ev_exit ?_ | refine evx_code_ret ?_ | refine evx_blk_ret ?_ | refine evx_lp_ret ?_
    | refine evx_code_exit ?_ | refine evx_lp_exit ?_ | refine evx_blk_hit ?_ | refine evx_blk_pass (by decide) ?_
    | refine And.intro ?_ ?_ | intro _ | decide +kernel | omega)
  all_goals simp_all only [lessN, wQuery]
  all_goals omega
theorem s_eqQuery (a b : Query) : Sat Try.prog 30 [aQuery a, aQuery b] true (rB (decide (a = b))) := by
  refine sat_walk (fn := Try.f30) rfl rfl rfl (Nat.le_of_ble_eq_true rfl) fun fr hP hN hbnd => ?_
  have hE : (envOf fr Try.prog).Ok := envOf_ok hP
  have hM := follows_of hP
  have hS : ∀ {draw ops}, statB Try.f30.ntmps draw ops = true → statB (envOf fr Try.prog).fr.N draw ops = true := fun h => by rw [envOf_fr, hN]; exact h
  repeat' (first
    | exact True.intro
    | refine ev_seq ?_
    | ((first | refine vgd_go ?_ | refine ev_region hE hM (hS (by decide +kernel)) ?_ | refine ev_if ?_ | refine end_ret hE rfl rfl ?_ | refine end_norm hE rfl rfl ?_ | refine vcall_A ?_ | refine vcallB_of hP (s_eqRect a.rect b.rect) ?_ | refine vcallB_of hP (s_eqInt64S a.point b.point) ?_); simp (maxSteps := 2000000) only [go_sem, hP, ↓reduceIte, Nat.reduceAdd, Nat.reduceMul, Nat.reduceEqDiff, Nat.reduceSub, Nat.reduceLeDiff, reduceCtorEq])
    | refine ev_skip ?_ | refine ev_block ?_ | refine ev_blk ?_ | refine ev_ret ?_ | refine ev_exit ?_ | refine evx_code_ret ?_ | refine evx_blk_ret ?_ | refine evx_lp_ret ?_
    | refine evx_code_exit ?_ | refine evx_lp_exit ?_ | refine evx_blk_hit ?_ | refine evx_blk_pass (by decide) ?_
    | refine And.intro ?_ ?_ | intro _ | decide +kernel | omega)
  all_goals simp_all [eqQuery]
theorem shp_Query {n t : Nat} {cs : List C} (ht : (Try.prog.underlying t).bind fieldTs = some [2, 30, 28, 2]) (h : shp Try.prog (n + 4) t cs) : ∃ x, cs = eQuery x := by
  obtain ⟨c0, g0, rfl, h0, c1, g1, rfl, h1, c2, g2, rfl, h2, c3, g3, rfl, h3, rfl⟩ := shp_struct ht h
  obtain ⟨v0, rfl, _⟩ := shp_i64 (n := n + 2) rfl h0
  obtain ⟨v1, rfl⟩ := shp_R (n := n + 0) rfl h1
  obtain ⟨v2, rfl, _⟩ := shp_ints (n := n + 1) (e := 2) rfl rfl rfl h2
  obtain ⟨v3, rfl, _⟩ := shp_i64 (n := n + 2) rfl h3
  exact ⟨⟨v0, v1, v2, v3⟩, rfl⟩
def boxed (k : Int) : Bool := decide (k = 1) || decide (k = 2)
def qForm (q : Query) : Bool := inB q.kind 1 4 && !(boxed q.kind && decide (0 < q.point.length)) && !(!boxed q.kind && decide (0 < q.rect.low.length + q.rect.high.length)) && !(decide (q.kind ≠ 4) && decide (q.k ≠ 0))
def qf (q : Query) (d : Int) : Int := if inB d 2 3 = false then 3 else if qForm q = false then 1 else if boxed q.kind then rf q.rect d else if pf q.point d ≠ 0 then pf q.point d else if (decide (q.kind = 4) && !inB q.k 1 20) then 3 else 0
theorem s_hasRect (k : Int) : Sat Try.prog 59 [aI k] true (rB (boxed k)) := by
  refine sat_walk (fn := Try.f59) rfl rfl rfl (Nat.le_of_ble_eq_true rfl) fun fr hP hN hbnd => ?_
  have hE : (envOf fr Try.prog).Ok := envOf_ok hP
  have hM := follows_of hP
  have hS : ∀ {draw ops}, statB Try.f59.ntmps draw ops = true → statB (envOf fr Try.prog).fr.N draw ops = true := fun h => by rw [envOf_fr, hN]; exact h
  repeat' (first
    | exact True.intro
    | refine ev_seq ?_
    | ((first | refine vgd_go ?_ | refine ev_region hE hM (hS (by decide +kernel)) ?_ | refine ev_if ?_ | refine end_ret hE rfl rfl ?_ | refine end_norm hE rfl rfl ?_ | refine vcall_A ?_); simp (maxSteps := 2000000) only [go_sem, hP, ↓reduceIte, Nat.reduceAdd, Nat.reduceMul, Nat.reduceEqDiff, Nat.reduceSub, Nat.reduceLeDiff, reduceCtorEq])
    | refine ev_skip ?_ | refine ev_block ?_ | refine ev_blk ?_ | refine ev_ret ?_ | refine ev_exit ?_ | refine evx_code_ret ?_ | refine evx_blk_ret ?_ | refine evx_lp_ret ?_
    | refine evx_code_exit ?_ | refine evx_lp_exit ?_ | refine evx_blk_hit ?_ | refine evx_blk_pass (by decide) ?_
    | refine And.intro ?_ ?_ | intro _ | decide +kernel | omega)
  all_goals (simp_all [boxed] <;> rfl)
theorem s_specQueryFault (q : Query) (d : Int) (hw : wQuery q ≤ 1048576) : Sat Try.prog 27 [aQuery q, aI d] true (rI (qf q d)) := by
  refine sat_walk (fn := Try.f27) rfl rfl rfl (Nat.le_of_ble_eq_true rfl) fun fr hP hN hbnd => ?_
  have hE : (envOf fr Try.prog).Ok := envOf_ok hP
  have hM := follows_of hP
  have hS : ∀ {draw ops}, statB Try.f27.ntmps draw ops = true → statB (envOf fr Try.prog).fr.N draw ops = true := fun h => by rw [envOf_fr, hN]; exact h
  have hs : IntKind.i64.wrap ((q.rect.low.length : Int) + q.rect.high.length) = q.rect.low.length + q.rect.high.length := i64_in _ (by simp only [wQuery, wR] at hw; omega)
  repeat' (first
    | exact True.intro
    | refine ev_seq ?_
    | ((first | refine ev_regionJ 3 [] [(1, .c (.int .i64 d)), (2, .ptr 0 0), (5, .c (.bool (boxed q.kind)))] [(0, .box [.c (.int .i64 q.kind), .c (sI q.rect.low), .c (sI q.rect.high), .c (sI q.point), .c (.int .i64 q.k)])] [] rfl hE hM (hS (by decide +kernel)) ?_ ?_ | refine vgd_go ?_ | refine ev_region hE hM (hS (by decide +kernel)) ?_ | refine ev_if ?_ | refine end_ret hE rfl rfl ?_ | refine end_norm hE rfl rfl ?_ | refine vcall_A ?_ | refine vcallB_of hP (s_l1In _ _ _) ?_ | refine vcallB_of hP (s_specRectFault q.rect _) ?_ | refine vcallB_of hP (s_specPointFault _ _) ?_); simp (maxSteps := 2000000) only [go_sem, hP, ↓reduceIte, Nat.reduceAdd, Nat.reduceMul, Nat.reduceEqDiff, Nat.reduceSub, Nat.reduceLeDiff, reduceCtorEq, hs])
    | refine ev_skip ?_ | refine ev_block ?_ | refine ev_blk ?_ | refine ev_ret ?_ | refine ev_exit ?_ | refine evx_code_ret ?_ | refine evx_blk_ret ?_ | refine evx_lp_ret ?_
    | refine evx_code_exit ?_ | refine evx_lp_exit ?_ | refine evx_blk_hit ?_ | refine evx_blk_pass (by decide) ?_
    | refine And.intro ?_ ?_ | intro _ | decide +kernel | omega)
  all_goals first
    | rfl
    | (simp_all [qf, qForm, boxed]; done)
    | (simp [qf, qForm, boxed] at *; grind [List.length_eq_zero_iff])
theorem s_implQueryFault (q : Query) (d : Int) : Sat Try.prog 29 [aQuery q, aI d] true (rI (qf q d)) := by
  refine sat_walk (fn := Try.f29) rfl rfl rfl (Nat.le_of_ble_eq_true rfl) fun fr hP hN hbnd => ?_
  have hE : (envOf fr Try.prog).Ok := envOf_ok hP
  have hM := follows_of hP
  have hS : ∀ {draw ops}, statB Try.f29.ntmps draw ops = true → statB (envOf fr Try.prog).fr.N draw ops = true := fun h => by rw [envOf_fr, hN]; exact h
  repeat' (first
    | exact True.intro
    | refine ev_seq ?_
    | ((first | refine vgd_go ?_ | refine ev_region hE hM (hS (by decide +kernel)) ?_ | refine ev_if ?_ | refine end_ret hE rfl rfl ?_ | refine end_norm hE rfl rfl ?_ | refine vcall_A ?_ | refine vcallB_of hP (s_isDims _) ?_ | refine vcallB_of hP (s_within _ _ _) ?_ | refine vcallB_of hP (s_hasRect _) ?_ | refine vcallB_of hP (s_implRectFault q.rect _) ?_ | refine vcallB_of hP (s_implPointFault _ _) ?_); simp (maxSteps := 2000000) only [go_sem, hP, ↓reduceIte, Nat.reduceAdd, Nat.reduceMul, Nat.reduceEqDiff, Nat.reduceSub, Nat.reduceLeDiff, reduceCtorEq])
    | refine ev_skip ?_ | refine ev_block ?_ | refine ev_blk ?_ | refine ev_ret ?_ | refine ev_exit ?_ | refine evx_code_ret ?_ | refine evx_blk_ret ?_ | refine evx_lp_ret ?_
    | refine evx_code_exit ?_ | refine evx_lp_exit ?_ | refine evx_blk_hit ?_ | refine evx_blk_pass (by decide) ?_
    | refine And.intro ?_ ?_ | intro _ | decide +kernel | omega)
  all_goals first
    | rfl
    | (simp_all [qf, qForm, boxed]; done)
    | (simp [qf, qForm, boxed] at *; grind [List.length_eq_zero_iff])
theorem l_QueryFault (q : Query) (d : Int) : Sat Try.prog 7 [aQuery q, aI d] true (rB true) := by
  refine sat_walk (fn := Try.f7) rfl rfl rfl (Nat.le_of_ble_eq_true rfl) fun fr hP hN hbnd => ?_
  have hE : (envOf fr Try.prog).Ok := envOf_ok hP
  have hM := follows_of hP
  have hS : ∀ {draw ops}, statB Try.f7.ntmps draw ops = true → statB (envOf fr Try.prog).fr.N draw ops = true := fun h => by rw [envOf_fr, hN]; exact h
  repeat' (first
    | exact True.intro
    | refine ev_seq ?_
    | ((first | refine vgd_go ?_ | refine ev_region hE hM (hS (by decide +kernel)) ?_ | refine ev_if ?_ | refine end_ret hE rfl rfl ?_ | refine end_norm hE rfl rfl ?_ | refine vcall_A ?_ | refine vcallB_of hP (s_szQuery _ _ (by omega) (by omega)) ?_ | refine vcallB_of hP (s_toQuery q (by simp only [lessN] at *; omega)) ?_ | refine vcallB_of hP (s_specQueryFault q d (by simp only [lessN] at *; omega)) ?_ | refine vcallB_of hP (s_implQueryFault q d) ?_ | refine vcallB_of hP (s_eqQuery q q) ?_); simp (maxSteps := 2000000) only [go_sem, hP, ↓reduceIte, Nat.reduceAdd, Nat.reduceMul, Nat.reduceEqDiff, Nat.reduceSub, Nat.reduceLeDiff, reduceCtorEq])
    | refine ev_skip ?_ | refine ev_block ?_ | refine ev_blk ?_ | refine ev_ret ?_ | refine ev_exit ?_ | refine evx_code_ret ?_ | refine evx_blk_ret ?_ | refine evx_lp_ret ?_
    | refine evx_code_exit ?_ | refine evx_lp_exit ?_ | refine evx_blk_hit ?_ | refine evx_blk_pass (by decide) ?_
    | refine And.intro ?_ ?_ | intro _ | decide +kernel | omega)
  all_goals simp_all
theorem all_QueryFault (gs : List Arg) (h : shpA Try.prog 12 [45, 2] gs) : Sat Try.prog 7 gs true (rB true) := by
  obtain ⟨a, gs, rfl, h1, b, gs, rfl, h2, rfl⟩ := h
  obtain ⟨q, rfl⟩ := shp_Query (n := 8) rfl h1
  obtain ⟨d, rfl, _⟩ := shp_i64 (n := 11) rfl h2
  exact l_QueryFault q d
theorem lifted (os : Os) (started : os.Started) (H : Type) (enc : TypeId × Value → H) :
    ReturnsInHanded {} Try.checked os 7 .any (Rows.fnExactQueryFaultSpec.pre6 enc Try.prog Try.f7 Rows.fnExactQueryFaultRow.domain false) (Rows.fnExactQueryFaultSpec.post enc Try.prog Try.f7 false true false false) :=
  row_true (C := Try.checked) (tb := 4) (by kernel_rfl) started (by kernel_rfl) Try.func7
    (ChangeSpec.witness6 (enc := enc) (C := Try.checked) false ⟨#[], #[.agg #[.int .i64 0, .slice none 0 0, .slice none 0 0, .slice none 0 0, .int .i64 0], .int .i64 0], []⟩ 12 (by kernel_rfl) (by kernel_rfl) (by kernel_rfl) (by kernel_rfl))
    12 (by kernel_rfl) rfl rfl rfl (fun ds h => match ds, h with | [_, _], _ => ⟨rfl, rfl, rfl⟩) all_QueryFault
theorem law_FnExactQueryFault : Rows.fnExactQueryFaultRow.holds Try.pinned (OpenSpec.ofChange Rows.fnExactQueryFaultSpec) :=
  OpenClaim.holds_of_wide 7 Try.f7 rfl rfl rfl rfl rfl rfl rfl ⟨rfl, rfl, rfl, rfl, rfl⟩ rfl rfl rfl rfl rfl (by kernel_rfl) Try.func7 (by kernel_rfl)
    (of_decide_eq_true (by kernel_rfl)) (by unfold Func.isWrapper; first | (rw [if_pos (by decide +kernel)]; kernel_rfl) | (rw [if_neg (by decide +kernel)]; exact ⟨rfl, rfl⟩))
    (fun os started H enc _ => lifted os started H enc)
end Go.Proofs.Ytoedlmokknphaaa.W
namespace Go.Proofs.Ytoedlmokknphaaa
theorem FnExactQueryFault_holds : Rows.FnExactQueryFaultSaid := W.law_FnExactQueryFault
#print axioms FnExactQueryFault_holds
end Go.Proofs.Ytoedlmokknphaaa
