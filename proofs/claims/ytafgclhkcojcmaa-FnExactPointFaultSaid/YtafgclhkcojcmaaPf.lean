/- FnExactPointFault holds: for all arguments the law returns true and changes nothing. No condition. -/
import Derived.Test.YtafgclhkcojcmaaRows
import Derived.Test.YtafgclhkcojcmaaVd
open Go Go.Vm Go.Proofs Go.IntWalk
set_option maxRecDepth 10000
set_option linter.unusedSimpArgs false
set_option linter.unusedVariables false
namespace Go.Proofs.Ytafgclhkcojcmaa.Pf
attribute [local irreducible] ev evx vops vstep vgo vgd vget vcall vcallFn vcallA vcallB vts vres vcond
def inB (a b c : Int) : Bool := decide (b ≤ a) && decide (a ≤ c)
theorem sat25 (a b c : Int) : Sat Try.prog 25 [.d (false,[.int .i64 a]), .d (false,[.int .i64 b]), .d (false,[.int .i64 c])] true [(false,[.bool (inB a b c)])] := by
  refine sat_walk (fn := Try.f25) rfl rfl rfl (Nat.le_of_ble_eq_true rfl) fun fr hP hN hbnd => ?_
  have hE : (envOf fr Try.prog).Ok := envOf_ok hP
  have hM : (envOf fr Try.prog).fr.P.follows .mixedOrders = true := by rw [envOf_fr, hP]; rfl
  have hS : ∀ {draw ops}, statB Try.f25.ntmps draw ops = true → statB (envOf fr Try.prog).fr.N draw ops = true := by intro draw ops h; rw [envOf_fr, hN]; exact h
  repeat' (first
    | exact True.intro
    | refine ev_seq ?_
    | (refine ev_region hE hM (hS (by decide +kernel)) ?_; simp only [go_sem, hP, ↓reduceIte, Nat.reduceAdd, Nat.reduceMul, Nat.reduceEqDiff, Nat.reduceSub, Nat.reduceLeDiff, reduceCtorEq])
    | (refine ev_if ?_; simp only [go_sem, hP, ↓reduceIte, Nat.reduceAdd, Nat.reduceMul, Nat.reduceEqDiff, Nat.reduceSub, Nat.reduceLeDiff, reduceCtorEq])
    | refine ev_skip ?_
    | refine ev_block ?_
    | refine ev_blk ?_
    | refine ev_ret ?_
    | refine ev_exit ?_
    | refine evx_code_ret ?_
    | refine evx_blk_ret ?_
    | refine evx_lp_ret ?_
    | refine evx_code_exit ?_
    | refine evx_lp_exit ?_
    | refine evx_blk_hit ?_
    | refine evx_blk_pass (by decide) ?_
    | (refine end_ret hE rfl rfl ?_; simp only [go_sem, hP, ↓reduceIte, Nat.reduceAdd, Nat.reduceMul, Nat.reduceEqDiff, Nat.reduceSub, Nat.reduceLeDiff, reduceCtorEq])
    | (refine end_norm hE rfl rfl ?_; simp only [go_sem, hP, ↓reduceIte, Nat.reduceAdd, Nat.reduceMul, Nat.reduceEqDiff, Nat.reduceSub, Nat.reduceLeDiff, reduceCtorEq])
    | (refine vcall_A ?_; simp only [go_sem, hP, ↓reduceIte, Nat.reduceAdd, Nat.reduceMul, Nat.reduceEqDiff, Nat.reduceSub, Nat.reduceLeDiff, reduceCtorEq])
    | refine And.intro ?_ ?_
    | intro _
    | decide +kernel
    | omega)
  all_goals simp_all [inB] <;> omega
theorem sat29 (a b c : Int) : Sat Try.prog 29 [.d (false,[.int .i64 a]), .d (false,[.int .i64 b]), .d (false,[.int .i64 c])] true [(false,[.bool (inB a b c)])] := by
  refine sat_walk (fn := Try.f29) rfl rfl rfl (Nat.le_of_ble_eq_true rfl) fun fr hP hN hbnd => ?_
  have hE : (envOf fr Try.prog).Ok := envOf_ok hP
  have hM : (envOf fr Try.prog).fr.P.follows .mixedOrders = true := by rw [envOf_fr, hP]; rfl
  have hS : ∀ {draw ops}, statB Try.f29.ntmps draw ops = true → statB (envOf fr Try.prog).fr.N draw ops = true := by intro draw ops h; rw [envOf_fr, hN]; exact h
  repeat' (first
    | exact True.intro
    | refine ev_seq ?_
    | (refine ev_region hE hM (hS (by decide +kernel)) ?_; simp only [go_sem, hP, ↓reduceIte, Nat.reduceAdd, Nat.reduceMul, Nat.reduceEqDiff, Nat.reduceSub, Nat.reduceLeDiff, reduceCtorEq])
    | (refine ev_if ?_; simp only [go_sem, hP, ↓reduceIte, Nat.reduceAdd, Nat.reduceMul, Nat.reduceEqDiff, Nat.reduceSub, Nat.reduceLeDiff, reduceCtorEq])
    | refine ev_skip ?_
    | refine ev_block ?_
    | refine ev_blk ?_
    | refine ev_ret ?_
    | refine ev_exit ?_
    | refine evx_code_ret ?_
    | refine evx_blk_ret ?_
    | refine evx_lp_ret ?_
    | refine evx_code_exit ?_
    | refine evx_lp_exit ?_
    | refine evx_blk_hit ?_
    | refine evx_blk_pass (by decide) ?_
    | (refine end_ret hE rfl rfl ?_; simp only [go_sem, hP, ↓reduceIte, Nat.reduceAdd, Nat.reduceMul, Nat.reduceEqDiff, Nat.reduceSub, Nat.reduceLeDiff, reduceCtorEq])
    | (refine end_norm hE rfl rfl ?_; simp only [go_sem, hP, ↓reduceIte, Nat.reduceAdd, Nat.reduceMul, Nat.reduceEqDiff, Nat.reduceSub, Nat.reduceLeDiff, reduceCtorEq])
    | (refine vcall_A ?_; simp only [go_sem, hP, ↓reduceIte, Nat.reduceAdd, Nat.reduceMul, Nat.reduceEqDiff, Nat.reduceSub, Nat.reduceLeDiff, reduceCtorEq])
    | refine And.intro ?_ ?_
    | intro _
    | decide +kernel
    | omega)
  all_goals simp_all [inB] <;> omega
theorem sat26 (a : Int) : Sat Try.prog 26 [.d (false,[.int .i64 a])] true [(false,[.bool (inB a 2 3)])] := by
  refine sat_walk (fn := Try.f26) rfl rfl rfl (Nat.le_of_ble_eq_true rfl) fun fr hP hN hbnd => ?_
  have hE : (envOf fr Try.prog).Ok := envOf_ok hP
  have hM : (envOf fr Try.prog).fr.P.follows .mixedOrders = true := by rw [envOf_fr, hP]; rfl
  have hS : ∀ {draw ops}, statB Try.f26.ntmps draw ops = true → statB (envOf fr Try.prog).fr.N draw ops = true := by intro draw ops h; rw [envOf_fr, hN]; exact h
  repeat' (first
    | exact True.intro
    | refine ev_seq ?_
    | (refine ev_region hE hM (hS (by decide +kernel)) ?_; simp only [go_sem, hP, ↓reduceIte, Nat.reduceAdd, Nat.reduceMul, Nat.reduceEqDiff, Nat.reduceSub, Nat.reduceLeDiff, reduceCtorEq])
    | (refine ev_if ?_; simp only [go_sem, hP, ↓reduceIte, Nat.reduceAdd, Nat.reduceMul, Nat.reduceEqDiff, Nat.reduceSub, Nat.reduceLeDiff, reduceCtorEq])
    | refine ev_skip ?_
    | refine ev_block ?_
    | refine ev_blk ?_
    | refine ev_ret ?_
    | refine ev_exit ?_
    | refine evx_code_ret ?_
    | refine evx_blk_ret ?_
    | refine evx_lp_ret ?_
    | refine evx_code_exit ?_
    | refine evx_lp_exit ?_
    | refine evx_blk_hit ?_
    | refine evx_blk_pass (by decide) ?_
    | (refine end_ret hE rfl rfl ?_; simp only [go_sem, hP, ↓reduceIte, Nat.reduceAdd, Nat.reduceMul, Nat.reduceEqDiff, Nat.reduceSub, Nat.reduceLeDiff, reduceCtorEq])
    | (refine end_norm hE rfl rfl ?_; simp only [go_sem, hP, ↓reduceIte, Nat.reduceAdd, Nat.reduceMul, Nat.reduceEqDiff, Nat.reduceSub, Nat.reduceLeDiff, reduceCtorEq])
    | (refine vcall_A ?_; simp only [go_sem, hP, ↓reduceIte, Nat.reduceAdd, Nat.reduceMul, Nat.reduceEqDiff, Nat.reduceSub, Nat.reduceLeDiff, reduceCtorEq])
    | (refine vcallB_of hP (sat29 _ _ _) ?_; simp only [go_sem, hP, ↓reduceIte, Nat.reduceAdd, Nat.reduceMul, Nat.reduceEqDiff, Nat.reduceSub, Nat.reduceLeDiff, reduceCtorEq])
    | refine And.intro ?_ ?_
    | intro _
    | decide +kernel
    | omega)
theorem sat28 (a : Int) : Sat Try.prog 28 [.d (false,[.int .i64 a])] true [(false,[.bool (!inB a (-1000) 1000)])] := by
  refine sat_walk (fn := Try.f28) rfl rfl rfl (Nat.le_of_ble_eq_true rfl) fun fr hP hN hbnd => ?_
  have hE : (envOf fr Try.prog).Ok := envOf_ok hP
  have hM : (envOf fr Try.prog).fr.P.follows .mixedOrders = true := by rw [envOf_fr, hP]; rfl
  have hS : ∀ {draw ops}, statB Try.f28.ntmps draw ops = true → statB (envOf fr Try.prog).fr.N draw ops = true := by intro draw ops h; rw [envOf_fr, hN]; exact h
  repeat' (first
    | exact True.intro
    | refine ev_seq ?_
    | (refine ev_region hE hM (hS (by decide +kernel)) ?_; simp only [go_sem, hP, ↓reduceIte, Nat.reduceAdd, Nat.reduceMul, Nat.reduceEqDiff, Nat.reduceSub, Nat.reduceLeDiff, reduceCtorEq])
    | (refine ev_if ?_; simp only [go_sem, hP, ↓reduceIte, Nat.reduceAdd, Nat.reduceMul, Nat.reduceEqDiff, Nat.reduceSub, Nat.reduceLeDiff, reduceCtorEq])
    | refine ev_skip ?_
    | refine ev_block ?_
    | refine ev_blk ?_
    | refine ev_ret ?_
    | refine ev_exit ?_
    | refine evx_code_ret ?_
    | refine evx_blk_ret ?_
    | refine evx_lp_ret ?_
    | refine evx_code_exit ?_
    | refine evx_lp_exit ?_
    | refine evx_blk_hit ?_
    | refine evx_blk_pass (by decide) ?_
    | (refine end_ret hE rfl rfl ?_; simp only [go_sem, hP, ↓reduceIte, Nat.reduceAdd, Nat.reduceMul, Nat.reduceEqDiff, Nat.reduceSub, Nat.reduceLeDiff, reduceCtorEq])
    | (refine end_norm hE rfl rfl ?_; simp only [go_sem, hP, ↓reduceIte, Nat.reduceAdd, Nat.reduceMul, Nat.reduceEqDiff, Nat.reduceSub, Nat.reduceLeDiff, reduceCtorEq])
    | (refine vcall_A ?_; simp only [go_sem, hP, ↓reduceIte, Nat.reduceAdd, Nat.reduceMul, Nat.reduceEqDiff, Nat.reduceSub, Nat.reduceLeDiff, reduceCtorEq])
    | (refine vcallB_of hP (sat29 _ _ _) ?_; simp only [go_sem, hP, ↓reduceIte, Nat.reduceAdd, Nat.reduceMul, Nat.reduceEqDiff, Nat.reduceSub, Nat.reduceLeDiff, reduceCtorEq])
    | refine And.intro ?_ ?_
    | intro _
    | decide +kernel
    | omega)
theorem L2 : tyI Try.prog 2 = some ⟨1, 8, .int .i64 0, .int .i64, [(0,0)], true, 0, [.c (.int .i64 0)]⟩ := by rfl
theorem L23 : tyI Try.prog 23 = some ⟨1, 24, .slice none 0 0, .slice 2, [(2,1)], false, 0, [.nilS]⟩ := by rfl
@[go_sem] def sI (xs : List Int) : C := .sl none 1 (xs.map eI)
@[go_sem] def oI (xs : List Int) : C := .sl (some 2) 1 (xs.map eI)
def pf (xs : List Int) (d : Int) : Int := if inB d 2 3 then (if (xs.length : Int) = d then (if xs.all (inB · (-1000) 1000) then 0 else 3) else 2) else 3
theorem sat9 (xs : List Int) (d : Int) : Sat Try.prog 9 [.d (false,[sI xs]), .d (false,[.int .i64 d])] true [(false,[.int .i64 (pf xs d)])] := by
  unfold sI
  refine sat_walk (fn := Try.f9) rfl rfl rfl (Nat.le_of_ble_eq_true rfl) fun fr hP hN hbnd => ?_
  have hE : (envOf fr Try.prog).Ok := envOf_ok hP
  have hM : (envOf fr Try.prog).fr.P.follows .mixedOrders = true := by rw [envOf_fr, hP]; rfl
  have hS : ∀ {draw ops}, statB Try.f9.ntmps draw ops = true → statB (envOf fr Try.prog).fr.N draw ops = true := by intro draw ops h; rw [envOf_fr, hN]; exact h
  have hlen : xs.length ≤ maxLen := by have := hbnd.1.1.1; rwa [List.length_map] at this
  repeat' (first
    | exact True.intro
    | refine ev_seq ?_
    | (refine ev_region hE hM (hS (by decide +kernel)) ?_; simp only [go_sem, hP, ↓reduceIte, Nat.reduceAdd, Nat.reduceMul, Nat.reduceEqDiff, Nat.reduceSub, Nat.reduceLeDiff, reduceCtorEq, L2, L23])
    | (refine ev_if ?_; simp only [go_sem, hP, ↓reduceIte, Nat.reduceAdd, Nat.reduceMul, Nat.reduceEqDiff, Nat.reduceSub, Nat.reduceLeDiff, reduceCtorEq, L2, L23])
    | refine ev_skip ?_
    | refine ev_block ?_
    | refine ev_blk ?_
    | refine ev_ret ?_
    | refine ev_exit ?_
    | refine evx_code_ret ?_
    | refine evx_blk_ret ?_
    | refine evx_lp_ret ?_
    | refine evx_code_exit ?_
    | refine evx_lp_exit ?_
    | refine evx_blk_hit ?_
    | refine evx_blk_pass (by decide) ?_
    | (refine end_ret hE rfl rfl ?_; simp only [go_sem, hP, ↓reduceIte, Nat.reduceAdd, Nat.reduceMul, Nat.reduceEqDiff, Nat.reduceSub, Nat.reduceLeDiff, reduceCtorEq, L2, L23])
    | (refine end_norm hE rfl rfl ?_; simp only [go_sem, hP, ↓reduceIte, Nat.reduceAdd, Nat.reduceMul, Nat.reduceEqDiff, Nat.reduceSub, Nat.reduceLeDiff, reduceCtorEq, L2, L23])
    | (refine vcall_A ?_; simp only [go_sem, hP, ↓reduceIte, Nat.reduceAdd, Nat.reduceMul, Nat.reduceEqDiff, Nat.reduceSub, Nat.reduceLeDiff, reduceCtorEq, L2, L23])
    | (refine vcallB_of hP (sat25 _ _ _) ?_; simp only [go_sem, hP, ↓reduceIte, Nat.reduceAdd, Nat.reduceMul, Nat.reduceEqDiff, Nat.reduceSub, Nat.reduceLeDiff, reduceCtorEq, L2, L23])
    | refine And.intro ?_ ?_
    | intro _
    | decide +kernel
    | omega)
  · simp_all [pf]
  · simp_all [pf]
  rename_i h1 h2
  refine ev_loop (ι := Nat) (fun k => [(0, .c (.sl none 1 (xs.map eI))), (5, .c (.int .i64 k))]) (fun _ => []) (fun _ => []) (fun k => k ≤ xs.length ∧ (xs.take k).all (inB · (-1000) 1000)) (fun k => xs.length - k) 0 [] ⟨by simp, by simp⟩ (by simp only [go_sem, hP, ↓reduceIte, Nat.reduceAdd, Nat.reduceMul, Nat.reduceEqDiff, Nat.reduceSub, Nat.reduceLeDiff, reduceCtorEq]; simp) ?_
  intro k hk
  repeat' (first
    | exact True.intro
    | refine ev_seq ?_
    | (refine ev_region hE hM (hS (by decide +kernel)) ?_; simp only [go_sem, hP, ↓reduceIte, Nat.reduceAdd, Nat.reduceMul, Nat.reduceEqDiff, Nat.reduceSub, Nat.reduceLeDiff, reduceCtorEq, L2, L23])
    | (refine ev_if ?_; simp only [go_sem, hP, ↓reduceIte, Nat.reduceAdd, Nat.reduceMul, Nat.reduceEqDiff, Nat.reduceSub, Nat.reduceLeDiff, reduceCtorEq, L2, L23])
    | refine ev_skip ?_
    | refine ev_block ?_
    | refine ev_blk ?_
    | refine ev_ret ?_
    | refine ev_exit ?_
    | refine evx_code_ret ?_
    | refine evx_blk_ret ?_
    | refine evx_lp_ret ?_
    | refine evx_code_exit ?_
    | refine evx_lp_exit ?_
    | refine evx_blk_hit ?_
    | refine evx_blk_pass (by decide) ?_
    | (refine end_ret hE rfl rfl ?_; simp only [go_sem, hP, ↓reduceIte, Nat.reduceAdd, Nat.reduceMul, Nat.reduceEqDiff, Nat.reduceSub, Nat.reduceLeDiff, reduceCtorEq, L2, L23])
    | (refine end_norm hE rfl rfl ?_; simp only [go_sem, hP, ↓reduceIte, Nat.reduceAdd, Nat.reduceMul, Nat.reduceEqDiff, Nat.reduceSub, Nat.reduceLeDiff, reduceCtorEq, L2, L23])
    | (refine vcall_A ?_; simp only [go_sem, hP, ↓reduceIte, Nat.reduceAdd, Nat.reduceMul, Nat.reduceEqDiff, Nat.reduceSub, Nat.reduceLeDiff, reduceCtorEq, L2, L23])
    | (refine vcallB_of hP (sat25 _ _ _) ?_; simp only [go_sem, hP, ↓reduceIte, Nat.reduceAdd, Nat.reduceMul, Nat.reduceEqDiff, Nat.reduceSub, Nat.reduceLeDiff, reduceCtorEq, L2, L23])
    | refine And.intro ?_ ?_
    | intro _
    | decide +kernel
    | omega)
  · rename_i h3 h4
    simp_all [pf, all_not (p := (inB · (-1000) 1000)) (xs := xs) (k := k) (d := default) (by omega) (by simpa using h4)]
  · rename_i h3 h4
    refine ev_lp (k + 1) [] ⟨by omega, all_step (d := default) (by omega) hk.2 (by simpa using h4)⟩ (by omega) (by simp only [go_sem, hP, ↓reduceIte, Nat.reduceAdd, Nat.reduceMul, Nat.reduceEqDiff, Nat.reduceSub, Nat.reduceLeDiff, reduceCtorEq]; simp; exact wrap_nat (by omega) hlen)
  · rename_i h3
    simp_all [pf, all_done (p := (inB · (-1000) 1000)) (xs := xs) (k := k) (by omega) hk.2]
theorem sat10 (xs : List Int) (hx : xs.length ≤ 1048576) : Sat Try.prog 10 [.d (false,[sI xs])] true [(false,[oI xs])] := by
  unfold sI oI
  refine sat_walk (fn := Try.f10) rfl rfl rfl (Nat.le_of_ble_eq_true rfl) fun fr hP hN hbnd => ?_
  have hE : (envOf fr Try.prog).Ok := envOf_ok hP
  have hM : (envOf fr Try.prog).fr.P.follows .mixedOrders = true := by rw [envOf_fr, hP]; rfl
  have hS : ∀ {draw ops}, statB Try.f10.ntmps draw ops = true → statB (envOf fr Try.prog).fr.N draw ops = true := by intro draw ops h; rw [envOf_fr, hN]; exact h
  repeat' (first
    | exact True.intro
    | refine ev_seq ?_
    | (refine ev_region hE hM (hS (by decide +kernel)) ?_; simp only [go_sem, hP, ↓reduceIte, Nat.reduceAdd, Nat.reduceMul, Nat.reduceEqDiff, Nat.reduceSub, Nat.reduceLeDiff, reduceCtorEq, L2, L23])
    | (refine ev_if ?_; simp only [go_sem, hP, ↓reduceIte, Nat.reduceAdd, Nat.reduceMul, Nat.reduceEqDiff, Nat.reduceSub, Nat.reduceLeDiff, reduceCtorEq, L2, L23])
    | refine ev_skip ?_
    | refine ev_block ?_
    | refine ev_blk ?_
    | refine ev_ret ?_
    | refine ev_exit ?_
    | refine evx_code_ret ?_
    | refine evx_blk_ret ?_
    | refine evx_lp_ret ?_
    | refine evx_code_exit ?_
    | refine evx_lp_exit ?_
    | refine evx_blk_hit ?_
    | refine evx_blk_pass (by decide) ?_
    | (refine end_ret hE rfl rfl ?_; simp only [go_sem, hP, ↓reduceIte, Nat.reduceAdd, Nat.reduceMul, Nat.reduceEqDiff, Nat.reduceSub, Nat.reduceLeDiff, reduceCtorEq, L2, L23])
    | (refine end_norm hE rfl rfl ?_; simp only [go_sem, hP, ↓reduceIte, Nat.reduceAdd, Nat.reduceMul, Nat.reduceEqDiff, Nat.reduceSub, Nat.reduceLeDiff, reduceCtorEq, L2, L23])
    | (refine vcall_A ?_; simp only [go_sem, hP, ↓reduceIte, Nat.reduceAdd, Nat.reduceMul, Nat.reduceEqDiff, Nat.reduceSub, Nat.reduceLeDiff, reduceCtorEq, L2, L23])
    | refine And.intro ?_ ?_
    | intro _
    | decide +kernel
    | omega)
  refine ev_loop (ι := Nat) (fun k => [(0, .c (.sl none 1 (xs.map eI))), (3, .ref 4112), (4, .c (.int .i64 k))]) (fun k => [(4112, .arr true 2 1 ((mix xs 0 k).map eI))]) (fun _ => []) (fun k => k ≤ xs.length) (fun k => xs.length - k) 0 [] (by simp) (by simp only [go_sem, hP, ↓reduceIte, Nat.reduceAdd, Nat.reduceMul, Nat.reduceEqDiff, Nat.reduceSub, Nat.reduceLeDiff, reduceCtorEq]; simp [mix_zero, eI]) ?_
  intro k hk
  repeat' (first
    | exact True.intro
    | refine ev_seq ?_
    | (refine ev_region hE hM (hS (by decide +kernel)) ?_; simp only [go_sem, hP, ↓reduceIte, Nat.reduceAdd, Nat.reduceMul, Nat.reduceEqDiff, Nat.reduceSub, Nat.reduceLeDiff, reduceCtorEq, L2, L23, mix_length hk])
    | (refine ev_if ?_; simp only [go_sem, hP, ↓reduceIte, Nat.reduceAdd, Nat.reduceMul, Nat.reduceEqDiff, Nat.reduceSub, Nat.reduceLeDiff, reduceCtorEq, L2, L23, mix_length hk])
    | refine ev_skip ?_
    | refine ev_block ?_
    | refine ev_blk ?_
    | refine ev_ret ?_
    | refine ev_exit ?_
    | refine evx_code_ret ?_
    | refine evx_blk_ret ?_
    | refine evx_lp_ret ?_
    | refine evx_code_exit ?_
    | refine evx_lp_exit ?_
    | refine evx_blk_hit ?_
    | refine evx_blk_pass (by decide) ?_
    | (refine end_ret hE rfl rfl ?_; simp only [go_sem, hP, ↓reduceIte, Nat.reduceAdd, Nat.reduceMul, Nat.reduceEqDiff, Nat.reduceSub, Nat.reduceLeDiff, reduceCtorEq, L2, L23, mix_length hk])
    | (refine end_norm hE rfl rfl ?_; simp only [go_sem, hP, ↓reduceIte, Nat.reduceAdd, Nat.reduceMul, Nat.reduceEqDiff, Nat.reduceSub, Nat.reduceLeDiff, reduceCtorEq, L2, L23, mix_length hk])
    | (refine vcall_A ?_; simp only [go_sem, hP, ↓reduceIte, Nat.reduceAdd, Nat.reduceMul, Nat.reduceEqDiff, Nat.reduceSub, Nat.reduceLeDiff, reduceCtorEq, L2, L23, mix_length hk])
    | refine And.intro ?_ ?_
    | intro _
    | decide +kernel
    | omega)
  · exact ev_lp (k + 1) [] (by omega) (by omega) (by simp only [go_sem, hP, ↓reduceIte, Nat.reduceAdd, Nat.reduceMul, Nat.reduceEqDiff, Nat.reduceSub, Nat.reduceLeDiff, reduceCtorEq]; simp; exact ⟨wrap_succ (by omega) hx, mix_set_map (f := eI) (by omega)⟩)
  · rw [mix_full (by omega)]
theorem sat12 (xs ys : List Int) : Sat Try.prog 12 [.d (false,[sI xs]), .d (false,[sI ys])] true [(false,[.bool (decide (xs = ys))])] := by
  unfold sI
  refine sat_walk (fn := Try.f12) rfl rfl rfl (Nat.le_of_ble_eq_true rfl) fun fr hP hN hbnd => ?_
  have hE : (envOf fr Try.prog).Ok := envOf_ok hP
  have hM : (envOf fr Try.prog).fr.P.follows .mixedOrders = true := by rw [envOf_fr, hP]; rfl
  have hS : ∀ {draw ops}, statB Try.f12.ntmps draw ops = true → statB (envOf fr Try.prog).fr.N draw ops = true := by intro draw ops h; rw [envOf_fr, hN]; exact h
  have hlen : xs.length ≤ maxLen := by have := hbnd.1.1.1; rwa [List.length_map] at this
  repeat' (first
    | exact True.intro
    | refine ev_seq ?_
    | (refine ev_region hE hM (hS (by decide +kernel)) ?_; simp only [go_sem, hP, ↓reduceIte, Nat.reduceAdd, Nat.reduceMul, Nat.reduceEqDiff, Nat.reduceSub, Nat.reduceLeDiff, reduceCtorEq, L2, L23])
    | (refine ev_if ?_; simp only [go_sem, hP, ↓reduceIte, Nat.reduceAdd, Nat.reduceMul, Nat.reduceEqDiff, Nat.reduceSub, Nat.reduceLeDiff, reduceCtorEq, L2, L23])
    | refine ev_skip ?_
    | refine ev_block ?_
    | refine ev_blk ?_
    | refine ev_ret ?_
    | refine ev_exit ?_
    | refine evx_code_ret ?_
    | refine evx_blk_ret ?_
    | refine evx_lp_ret ?_
    | refine evx_code_exit ?_
    | refine evx_lp_exit ?_
    | refine evx_blk_hit ?_
    | refine evx_blk_pass (by decide) ?_
    | (refine end_ret hE rfl rfl ?_; simp only [go_sem, hP, ↓reduceIte, Nat.reduceAdd, Nat.reduceMul, Nat.reduceEqDiff, Nat.reduceSub, Nat.reduceLeDiff, reduceCtorEq, L2, L23])
    | (refine end_norm hE rfl rfl ?_; simp only [go_sem, hP, ↓reduceIte, Nat.reduceAdd, Nat.reduceMul, Nat.reduceEqDiff, Nat.reduceSub, Nat.reduceLeDiff, reduceCtorEq, L2, L23])
    | (refine vcall_A ?_; simp only [go_sem, hP, ↓reduceIte, Nat.reduceAdd, Nat.reduceMul, Nat.reduceEqDiff, Nat.reduceSub, Nat.reduceLeDiff, reduceCtorEq, L2, L23])
    | refine And.intro ?_ ?_
    | intro _
    | decide +kernel
    | omega)
  · rename_i h; simp at h; simp; rintro rfl; exact h rfl
  rename_i h; simp at h
  refine ev_loop (ι := Nat) (fun k => [(0, .c (.sl none 1 (xs.map eI))), (1, .c (.sl none 1 (ys.map eI))), (5, .c (.int .i64 k))]) (fun k => []) (fun _ => []) (fun k => k ≤ xs.length ∧ xs.take k = ys.take k) (fun k => xs.length - k) 0 [] (by simp) (by simp only [go_sem, hP, ↓reduceIte, Nat.reduceAdd, Nat.reduceMul, Nat.reduceEqDiff, Nat.reduceSub, Nat.reduceLeDiff, reduceCtorEq]; simp) ?_
  intro k hk
  repeat' (first
    | exact True.intro
    | refine ev_seq ?_
    | (refine ev_region hE hM (hS (by decide +kernel)) ?_; simp only [go_sem, hP, ↓reduceIte, Nat.reduceAdd, Nat.reduceMul, Nat.reduceEqDiff, Nat.reduceSub, Nat.reduceLeDiff, reduceCtorEq, L2, L23])
    | (refine ev_if ?_; simp only [go_sem, hP, ↓reduceIte, Nat.reduceAdd, Nat.reduceMul, Nat.reduceEqDiff, Nat.reduceSub, Nat.reduceLeDiff, reduceCtorEq, L2, L23])
    | refine ev_skip ?_
    | refine ev_block ?_
    | refine ev_blk ?_
    | refine ev_ret ?_
    | refine ev_exit ?_
    | refine evx_code_ret ?_
    | refine evx_blk_ret ?_
    | refine evx_lp_ret ?_
    | refine evx_code_exit ?_
    | refine evx_lp_exit ?_
    | refine evx_blk_hit ?_
    | refine evx_blk_pass (by decide) ?_
    | (refine end_ret hE rfl rfl ?_; simp only [go_sem, hP, ↓reduceIte, Nat.reduceAdd, Nat.reduceMul, Nat.reduceEqDiff, Nat.reduceSub, Nat.reduceLeDiff, reduceCtorEq, L2, L23])
    | (refine end_norm hE rfl rfl ?_; simp only [go_sem, hP, ↓reduceIte, Nat.reduceAdd, Nat.reduceMul, Nat.reduceEqDiff, Nat.reduceSub, Nat.reduceLeDiff, reduceCtorEq, L2, L23])
    | (refine vcall_A ?_; simp only [go_sem, hP, ↓reduceIte, Nat.reduceAdd, Nat.reduceMul, Nat.reduceEqDiff, Nat.reduceSub, Nat.reduceLeDiff, reduceCtorEq, L2, L23])
    | refine And.intro ?_ ?_
    | intro _
    | decide +kernel
    | omega)
  · rename_i h3; simp at h3; simp; exact eq_not h3
  · rename_i h3 h4; simp at h4
    exact ev_lp (k + 1) [] ⟨by omega, eq_step (d := default) (e := default) (by omega) (by omega) hk.2 (by simpa using h4)⟩ (by omega) (by simp only [go_sem, hP, ↓reduceIte, Nat.reduceAdd, Nat.reduceMul, Nat.reduceEqDiff, Nat.reduceSub, Nat.reduceLeDiff, reduceCtorEq]; simp; exact wrap_nat (by omega) hlen)
  · simp; exact eq_done (by omega) (by omega) hk.2
theorem sat39 (xs : List Int) (sem : List Dat → List Dat → Prop) (p : Int → Bool) (hp : ∀ x ∈ xs, sem [(false, [.int .i64 x])] [(false, [.bool (p x)])]) :
    Sat Try.prog 39 [.d (false,[sI xs]), .fn sem] true [(false,[.int .i64 (if xs.any p then (xs.findIdx p : Int) else -1)])] := by
  unfold sI
  refine sat_walk (fn := Try.f39) rfl rfl rfl (Nat.le_of_ble_eq_true rfl) fun fr hP hN hbnd => ?_
  have hE : (envOf fr Try.prog).Ok := envOf_ok hP
  have hM : (envOf fr Try.prog).fr.P.follows .mixedOrders = true := by rw [envOf_fr, hP]; rfl
  have hS : ∀ {draw ops}, statB Try.f39.ntmps draw ops = true → statB (envOf fr Try.prog).fr.N draw ops = true := by intro draw ops h; rw [envOf_fr, hN]; exact h
  have hlen : xs.length ≤ maxLen := by have := hbnd.1.1.1; rwa [List.length_map] at this
  repeat' (first
    | exact True.intro
    | refine ev_seq ?_
    | (refine ev_region hE hM (hS (by decide +kernel)) ?_; simp only [go_sem, hP, ↓reduceIte, Nat.reduceAdd, Nat.reduceMul, Nat.reduceEqDiff, Nat.reduceSub, Nat.reduceLeDiff, reduceCtorEq, L2, L23])
    | (refine ev_if ?_; simp only [go_sem, hP, ↓reduceIte, Nat.reduceAdd, Nat.reduceMul, Nat.reduceEqDiff, Nat.reduceSub, Nat.reduceLeDiff, reduceCtorEq, L2, L23])
    | refine ev_skip ?_
    | refine ev_block ?_
    | refine ev_blk ?_
    | refine ev_ret ?_
    | refine ev_exit ?_
    | refine evx_code_ret ?_
    | refine evx_blk_ret ?_
    | refine evx_lp_ret ?_
    | refine evx_code_exit ?_
    | refine evx_lp_exit ?_
    | refine evx_blk_hit ?_
    | refine evx_blk_pass (by decide) ?_
    | (refine end_ret hE rfl rfl ?_; simp only [go_sem, hP, ↓reduceIte, Nat.reduceAdd, Nat.reduceMul, Nat.reduceEqDiff, Nat.reduceSub, Nat.reduceLeDiff, reduceCtorEq, L2, L23])
    | (refine end_norm hE rfl rfl ?_; simp only [go_sem, hP, ↓reduceIte, Nat.reduceAdd, Nat.reduceMul, Nat.reduceEqDiff, Nat.reduceSub, Nat.reduceLeDiff, reduceCtorEq, L2, L23])
    | (refine vcall_A ?_; simp only [go_sem, hP, ↓reduceIte, Nat.reduceAdd, Nat.reduceMul, Nat.reduceEqDiff, Nat.reduceSub, Nat.reduceLeDiff, reduceCtorEq, L2, L23])
    | refine And.intro ?_ ?_
    | intro _
    | decide +kernel
    | omega)
  refine ev_loop (ι := Nat) (fun k => [(0, .c (.sl none 1 (xs.map eI))), (1, .fn sem), (7, .c (.int .i64 xs.length)), (8, .c (.int .i64 k))]) (fun k => []) (fun _ => []) (fun k => k ≤ xs.length ∧ (xs.take k).any p = false) (fun k => xs.length - k) 0 [] (by simp) (by simp only [go_sem, hP, ↓reduceIte, Nat.reduceAdd, Nat.reduceMul, Nat.reduceEqDiff, Nat.reduceSub, Nat.reduceLeDiff, reduceCtorEq]; simp) ?_
  intro k hk
  have hq : k < xs.length → sem [(false, [.int .i64 (xs.getD k default)])] [(false, [.bool (p (xs.getD k default))])] := fun h => hp _ (getD_mem h)
  repeat' (first
    | exact True.intro
    | refine ev_seq ?_
    | (refine ev_region hE hM (hS (by decide +kernel)) ?_; simp only [go_sem, hP, ↓reduceIte, Nat.reduceAdd, Nat.reduceMul, Nat.reduceEqDiff, Nat.reduceSub, Nat.reduceLeDiff, reduceCtorEq, L2, L23])
    | (refine ev_if ?_; simp only [go_sem, hP, ↓reduceIte, Nat.reduceAdd, Nat.reduceMul, Nat.reduceEqDiff, Nat.reduceSub, Nat.reduceLeDiff, reduceCtorEq, L2, L23])
    | refine ev_skip ?_
    | refine ev_block ?_
    | refine ev_blk ?_
    | refine ev_ret ?_
    | refine ev_exit ?_
    | refine evx_code_ret ?_
    | refine evx_blk_ret ?_
    | refine evx_lp_ret ?_
    | refine evx_code_exit ?_
    | refine evx_lp_exit ?_
    | refine evx_blk_hit ?_
    | refine evx_blk_pass (by decide) ?_
    | (refine end_ret hE rfl rfl ?_; simp only [go_sem, hP, ↓reduceIte, Nat.reduceAdd, Nat.reduceMul, Nat.reduceEqDiff, Nat.reduceSub, Nat.reduceLeDiff, reduceCtorEq, L2, L23])
    | (refine end_norm hE rfl rfl ?_; simp only [go_sem, hP, ↓reduceIte, Nat.reduceAdd, Nat.reduceMul, Nat.reduceEqDiff, Nat.reduceSub, Nat.reduceLeDiff, reduceCtorEq, L2, L23])
    | (refine vcall_A ?_; simp only [go_sem, hP, ↓reduceIte, Nat.reduceAdd, Nat.reduceMul, Nat.reduceEqDiff, Nat.reduceSub, Nat.reduceLeDiff, reduceCtorEq, L2, L23])
    | (refine vcallFn_of [(false, [.int .i64 (xs.getD k default)])] [] [(false, [.bool (p (xs.getD k default))])] (by simp only [go_sem, hP, ↓reduceIte, Nat.reduceAdd, Nat.reduceMul, Nat.reduceEqDiff, Nat.reduceSub, Nat.reduceLeDiff, reduceCtorEq, L2, L23]) (hq (by omega)) ?_; simp only [go_sem, hP, ↓reduceIte, Nat.reduceAdd, Nat.reduceMul, Nat.reduceEqDiff, Nat.reduceSub, Nat.reduceLeDiff, reduceCtorEq, L2, L23])
    | refine And.intro ?_ ?_
    | intro _
    | decide +kernel
    | omega)
  · rename_i h1 h2
    rw [any_yes (d := default) (by omega) h2, findIdx_here (d := default) (by omega) hk.2 h2]; rfl
  · rename_i h1 h2
    exact ev_lp (k + 1) [] ⟨by omega, any_step (d := default) (by omega) hk.2 h2⟩ (by omega) (by simp only [go_sem, hP, ↓reduceIte, Nat.reduceAdd, Nat.reduceMul, Nat.reduceEqDiff, Nat.reduceSub, Nat.reduceLeDiff, reduceCtorEq]; simp; exact wrap_nat (by omega) hlen)
  · rw [any_done (by omega) hk.2]; rfl
theorem sat27 (xs : List Int) (sem : List Dat → List Dat → Prop) (p : Int → Bool) (hp : ∀ x ∈ xs, sem [(false, [.int .i64 x])] [(false, [.bool (p x)])]) :
    Sat Try.prog 27 [.d (false,[sI xs]), .fn sem] true [(false,[.bool (xs.any p)])] := by
  unfold sI
  refine sat_walk (fn := Try.f27) rfl rfl rfl (Nat.le_of_ble_eq_true rfl) fun fr hP hN hbnd => ?_
  have hE : (envOf fr Try.prog).Ok := envOf_ok hP
  have hM : (envOf fr Try.prog).fr.P.follows .mixedOrders = true := by rw [envOf_fr, hP]; rfl
  have hS : ∀ {draw ops}, statB Try.f27.ntmps draw ops = true → statB (envOf fr Try.prog).fr.N draw ops = true := by intro draw ops h; rw [envOf_fr, hN]; exact h
  repeat' (first
    | exact True.intro
    | refine ev_seq ?_
    | (refine ev_region hE hM (hS (by decide +kernel)) ?_; simp only [go_sem, hP, ↓reduceIte, Nat.reduceAdd, Nat.reduceMul, Nat.reduceEqDiff, Nat.reduceSub, Nat.reduceLeDiff, reduceCtorEq, L2, L23])
    | (refine ev_if ?_; simp only [go_sem, hP, ↓reduceIte, Nat.reduceAdd, Nat.reduceMul, Nat.reduceEqDiff, Nat.reduceSub, Nat.reduceLeDiff, reduceCtorEq, L2, L23])
    | refine ev_skip ?_
    | refine ev_block ?_
    | refine ev_blk ?_
    | refine ev_ret ?_
    | refine ev_exit ?_
    | refine evx_code_ret ?_
    | refine evx_blk_ret ?_
    | refine evx_lp_ret ?_
    | refine evx_code_exit ?_
    | refine evx_lp_exit ?_
    | refine evx_blk_hit ?_
    | refine evx_blk_pass (by decide) ?_
    | (refine end_ret hE rfl rfl ?_; simp only [go_sem, hP, ↓reduceIte, Nat.reduceAdd, Nat.reduceMul, Nat.reduceEqDiff, Nat.reduceSub, Nat.reduceLeDiff, reduceCtorEq, L2, L23])
    | (refine end_norm hE rfl rfl ?_; simp only [go_sem, hP, ↓reduceIte, Nat.reduceAdd, Nat.reduceMul, Nat.reduceEqDiff, Nat.reduceSub, Nat.reduceLeDiff, reduceCtorEq, L2, L23])
    | (refine vcall_A ?_; simp only [go_sem, hP, ↓reduceIte, Nat.reduceAdd, Nat.reduceMul, Nat.reduceEqDiff, Nat.reduceSub, Nat.reduceLeDiff, reduceCtorEq, L2, L23])
    | (refine vcallB_of hP (sat39 _ _ p hp) ?_; simp only [go_sem, hP, ↓reduceIte, Nat.reduceAdd, Nat.reduceMul, Nat.reduceEqDiff, Nat.reduceSub, Nat.reduceLeDiff, reduceCtorEq, L2, L23])
    | refine And.intro ?_ ?_
    | intro _
    | decide +kernel
    | omega)
  · split <;> simp_all <;> omega
theorem sat11 (xs : List Int) (d : Int) : Sat Try.prog 11 [.d (false,[sI xs]), .d (false,[.int .i64 d])] true [(false,[.int .i64 (pf xs d)])] := by
  unfold sI
  refine sat_walk (fn := Try.f11) rfl rfl rfl (Nat.le_of_ble_eq_true rfl) fun fr hP hN hbnd => ?_
  have hE : (envOf fr Try.prog).Ok := envOf_ok hP
  have hM : (envOf fr Try.prog).fr.P.follows .mixedOrders = true := by rw [envOf_fr, hP]; rfl
  have hS : ∀ {draw ops}, statB Try.f11.ntmps draw ops = true → statB (envOf fr Try.prog).fr.N draw ops = true := by intro draw ops h; rw [envOf_fr, hN]; exact h
  repeat' (first
    | exact True.intro
    | refine ev_seq ?_
    | (refine ev_region hE hM (hS (by decide +kernel)) ?_; simp only [go_sem, hP, ↓reduceIte, Nat.reduceAdd, Nat.reduceMul, Nat.reduceEqDiff, Nat.reduceSub, Nat.reduceLeDiff, reduceCtorEq, L2, L23])
    | (refine ev_if ?_; simp only [go_sem, hP, ↓reduceIte, Nat.reduceAdd, Nat.reduceMul, Nat.reduceEqDiff, Nat.reduceSub, Nat.reduceLeDiff, reduceCtorEq, L2, L23])
    | refine ev_skip ?_
    | refine ev_block ?_
    | refine ev_blk ?_
    | refine ev_ret ?_
    | refine ev_exit ?_
    | refine evx_code_ret ?_
    | refine evx_blk_ret ?_
    | refine evx_lp_ret ?_
    | refine evx_code_exit ?_
    | refine evx_lp_exit ?_
    | refine evx_blk_hit ?_
    | refine evx_blk_pass (by decide) ?_
    | (refine end_ret hE rfl rfl ?_; simp only [go_sem, hP, ↓reduceIte, Nat.reduceAdd, Nat.reduceMul, Nat.reduceEqDiff, Nat.reduceSub, Nat.reduceLeDiff, reduceCtorEq, L2, L23])
    | (refine end_norm hE rfl rfl ?_; simp only [go_sem, hP, ↓reduceIte, Nat.reduceAdd, Nat.reduceMul, Nat.reduceEqDiff, Nat.reduceSub, Nat.reduceLeDiff, reduceCtorEq, L2, L23])
    | (refine vcall_A ?_; simp only [go_sem, hP, ↓reduceIte, Nat.reduceAdd, Nat.reduceMul, Nat.reduceEqDiff, Nat.reduceSub, Nat.reduceLeDiff, reduceCtorEq, L2, L23])
    | (refine vcallB_of hP (sat26 _) ?_; simp only [go_sem, hP, ↓reduceIte, Nat.reduceAdd, Nat.reduceMul, Nat.reduceEqDiff, Nat.reduceSub, Nat.reduceLeDiff, reduceCtorEq, L2, L23])
    | (refine vcallB_of hP (sat27 xs _ (fun x => !inB x (-1000) 1000) (fun x _ => sat28 x)) ?_; simp only [go_sem, hP, ↓reduceIte, Nat.reduceAdd, Nat.reduceMul, Nat.reduceEqDiff, Nat.reduceSub, Nat.reduceLeDiff, reduceCtorEq, L2, L23])
    | refine And.intro ?_ ?_
    | intro _
    | decide +kernel
    | omega)
  all_goals simp_all [pf]
theorem sat4 (xs : List Int) (d : Int) : Sat Try.prog 4 [.d (false,[sI xs]), .d (false,[.int .i64 d])] true [(false,[.bool true])] := by
  unfold sI
  refine sat_walk (fn := Try.f4) rfl rfl rfl (Nat.le_of_ble_eq_true rfl) fun fr hP hN hbnd => ?_
  have hE : (envOf fr Try.prog).Ok := envOf_ok hP
  have hM : (envOf fr Try.prog).fr.P.follows .mixedOrders = true := by rw [envOf_fr, hP]; rfl
  have hS : ∀ {draw ops}, statB Try.f4.ntmps draw ops = true → statB (envOf fr Try.prog).fr.N draw ops = true := by intro draw ops h; rw [envOf_fr, hN]; exact h
  repeat' (first
    | exact True.intro
    | refine ev_seq ?_
    | (refine ev_region hE hM (hS (by decide +kernel)) ?_; simp only [go_sem, hP, ↓reduceIte, Nat.reduceAdd, Nat.reduceMul, Nat.reduceEqDiff, Nat.reduceSub, Nat.reduceLeDiff, reduceCtorEq, L2, L23])
    | (refine ev_if ?_; simp only [go_sem, hP, ↓reduceIte, Nat.reduceAdd, Nat.reduceMul, Nat.reduceEqDiff, Nat.reduceSub, Nat.reduceLeDiff, reduceCtorEq, L2, L23])
    | refine ev_skip ?_
    | refine ev_block ?_
    | refine ev_blk ?_
    | refine ev_ret ?_
    | refine ev_exit ?_
    | refine evx_code_ret ?_
    | refine evx_blk_ret ?_
    | refine evx_lp_ret ?_
    | refine evx_code_exit ?_
    | refine evx_lp_exit ?_
    | refine evx_blk_hit ?_
    | refine evx_blk_pass (by decide) ?_
    | (refine end_ret hE rfl rfl ?_; simp only [go_sem, hP, ↓reduceIte, Nat.reduceAdd, Nat.reduceMul, Nat.reduceEqDiff, Nat.reduceSub, Nat.reduceLeDiff, reduceCtorEq, L2, L23])
    | (refine end_norm hE rfl rfl ?_; simp only [go_sem, hP, ↓reduceIte, Nat.reduceAdd, Nat.reduceMul, Nat.reduceEqDiff, Nat.reduceSub, Nat.reduceLeDiff, reduceCtorEq, L2, L23])
    | (refine vcall_A ?_; simp only [go_sem, hP, ↓reduceIte, Nat.reduceAdd, Nat.reduceMul, Nat.reduceEqDiff, Nat.reduceSub, Nat.reduceLeDiff, reduceCtorEq, L2, L23])
    | (refine vcallB_of hP (sat10 _ (by omega)) ?_; simp only [go_sem, hP, ↓reduceIte, Nat.reduceAdd, Nat.reduceMul, Nat.reduceEqDiff, Nat.reduceSub, Nat.reduceLeDiff, reduceCtorEq, L2, L23])
    | (refine vcallB_of hP (sat9 _ _) ?_; simp only [go_sem, hP, ↓reduceIte, Nat.reduceAdd, Nat.reduceMul, Nat.reduceEqDiff, Nat.reduceSub, Nat.reduceLeDiff, reduceCtorEq, L2, L23])
    | (refine vcallB_of hP (sat11 _ _) ?_; simp only [go_sem, hP, ↓reduceIte, Nat.reduceAdd, Nat.reduceMul, Nat.reduceEqDiff, Nat.reduceSub, Nat.reduceLeDiff, reduceCtorEq, L2, L23])
    | (refine vcallB_of hP (sat12 _ _) ?_; simp only [go_sem, hP, ↓reduceIte, Nat.reduceAdd, Nat.reduceMul, Nat.reduceEqDiff, Nat.reduceSub, Nat.reduceLeDiff, reduceCtorEq, L2, L23])
    | refine And.intro ?_ ?_
    | intro _
    | decide +kernel
    | omega)
  all_goals simp_all
theorem args4 (gs : List Arg) (h : shpA Try.prog 9 [23, 2] gs) : ∃ xs d, gs = [.d (false, [sI xs]), .d (false, [.int .i64 d])] := by
  obtain ⟨a, gs, rfl, h1, b, gs, rfl, h2, rfl⟩ := h
  obtain ⟨xs, rfl, _⟩ := shp_ints (n := 7) (e := 2) rfl rfl rfl h1
  obtain ⟨d, rfl, _⟩ := shp_i64 (n := 8) rfl h2
  exact ⟨xs, d, rfl⟩
theorem sat4' (gs : List Arg) (h : shpA Try.prog 9 [23, 2] gs) : Sat Try.prog 4 gs true [(false,[.bool true])] := by
  obtain ⟨xs, d, rfl⟩ := args4 gs h
  exact sat4 xs d
open Go.ChangeShapes Go.WideShapes Go.ChangeAt Go.RowKit
theorem own : ownKnob Try.prog.godebug = none := by kernel_rfl
theorem lifted (os : Os) (started : os.Started) (H : Type) (enc : TypeId × Value → H) :
    ReturnsInHanded {} Try.checked os 4 .any (Rows.fnExactPointFaultSpec.pre6 enc Try.prog Try.f4 Rows.fnExactPointFaultRow.domain false) (Rows.fnExactPointFaultSpec.post enc Try.prog Try.f4 false true false false) :=
  row_true (C := Try.checked) (tb := 4) own started (by kernel_rfl) Try.func4
    (ChangeSpec.witness6 (enc := enc) (C := Try.checked) false ⟨#[], #[.slice none 0 0, .int .i64 0], []⟩ 8 (by kernel_rfl) (by kernel_rfl) (by kernel_rfl) (by kernel_rfl))
    9 (by kernel_rfl) rfl rfl rfl (fun ds h => match ds, h with | [_, _], _ => ⟨rfl, rfl, rfl⟩) sat4'
theorem over : Rows.fnExactPointFaultRow.holds Try.pinned (OpenSpec.ofChange Rows.fnExactPointFaultSpec) :=
  OpenClaim.holds_of_wide 4 Try.f4 rfl rfl rfl rfl rfl rfl rfl ⟨rfl, rfl, rfl, rfl, rfl⟩ rfl rfl rfl rfl rfl (by kernel_rfl) Try.func4 (by kernel_rfl)
    (of_decide_eq_true (by kernel_rfl)) (by unfold Func.isWrapper; first | (rw [if_pos (by decide +kernel)]; kernel_rfl) | (rw [if_neg (by decide +kernel)]; exact ⟨rfl, rfl⟩))
    (fun os started H enc _ => lifted os started H enc)
end Go.Proofs.Ytafgclhkcojcmaa.Pf
namespace Go.Proofs.Ytafgclhkcojcmaa
theorem pointFault_holds : Rows.FnExactPointFaultSaid := Pf.over
#print axioms pointFault_holds
end Go.Proofs.Ytafgclhkcojcmaa
