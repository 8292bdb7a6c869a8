/- Contracts of functions that FnSplits reaches: what each returns; it writes to nothing of old. No condition but those that each theorem states. -/
import Derived.Test.YtegohioalgikjaaGreatQa0
open Go Go.Vm Go.Proofs Go.IntWalk Go.RowKit
set_option maxRecDepth 100000
set_option maxHeartbeats 4000000
set_option linter.unusedSimpArgs false
set_option linter.unusedVariables false
set_option linter.unusedSectionVars false
namespace Go.Proofs.YtegohioalgikjaaGreat.W
attribute [local irreducible] kJ ev evx vops vstep vgo vgd vget vcall vcallFn vcallA vcallB vts vres vcond vbin
theorem s_specEntriesFault (xs : List Entry) (d : Int) : Sat Tryz.prog 51 [aEntryS xs, aI d] true (rI (esf xs d)) := by
  refine sat_walk (fn := Tryz.f51) rfl rfl rfl (Nat.le_of_ble_eq_true rfl) fun fr hP hN hbnd => ?_
  have hE : (envOf fr Tryz.prog).Ok := envOf_ok hP
  have hM := follows_of hP
  have hS : ∀ {draw ops}, statB Tryz.f51.ntmps draw ops = true → statB (envOf fr Tryz.prog).fr.N draw ops = true := fun h => by rw [envOf_fr, hN]; exact h
  have hlen := bnd_EntryS hbnd
  repeat' (first
    | exact True.intro
    | refine ev_seq ?_
    | ((first | refine vgd_go ?_ | refine ev_region hE hM (hS (by decide +kernel)) ?_ | refine ev_if ?_ | refine end_ret hE rfl rfl ?_ | refine end_norm hE rfl rfl ?_ | refine endG_ret [] hE rfl ?_ | refine endG_norm [] hE rfl ?_ | refine vcallB_of hP (s_l1In _ _ _) ?_ | refine vcall_A ?_); simp (maxSteps := 2000000) only [go_sem, hP, ↓reduceIte, Nat.reduceAdd, Nat.reduceMul, Nat.reduceEqDiff, Nat.reduceSub, Nat.reduceLeDiff, reduceCtorEq])
    | refine ev_skip ?_ | refine ev_block ?_ | refine ev_blk ?_ | refine ev_ret ?_ | refine ev_exit ?_ | refine evx_code_ret ?_ | refine evx_blk_ret ?_ | refine evx_lp_ret ?_
    | refine evx_code_exit ?_ | refine evx_lp_exit ?_ | refine evx_blk_hit ?_ | refine evx_blk_pass (by decide) ?_
    | refine And.intro ?_ ?_ | intro _ | decide +kernel | omega)
  · simp_all [esf]
  · simp_all [esf]
  refine ev_loop (ι := Nat) (fun k => [(0, .c (sEntryS xs)), (1, .c (.int .i64 d)), (5, .c (.int .i64 k))]) (fun k => []) (fun _ => []) (fun k => k ≤ xs.length ∧ allLt k (fun j => decide (entryF d (xs.getD j default) = 0)) = true) (fun k => xs.length - k) 0 [] (by simp [allLt_zero] <;> omega) (by simp only [go_sem, hP, ↓reduceIte, Nat.reduceAdd, Nat.reduceMul, Nat.reduceEqDiff, Nat.reduceSub, Nat.reduceLeDiff, reduceCtorEq]; simp) ?_
  intro k hk
  repeat' (first
    | exact True.intro
    | refine ev_seq ?_
    | ((first | refine vgd_go ?_ | refine ev_region hE hM (hS (by decide +kernel)) ?_ | refine ev_if ?_ | refine end_ret hE rfl rfl ?_ | refine end_norm hE rfl rfl ?_ | refine endG_ret [] hE rfl ?_ | refine endG_norm [] hE rfl ?_ | refine vcallB_of hP (s_l3Entry (xs.getD k default) _) ?_ | refine vcall_A ?_); simp (maxSteps := 2000000) only [go_sem, hP, ↓reduceIte, Nat.reduceAdd, Nat.reduceMul, Nat.reduceEqDiff, Nat.reduceSub, Nat.reduceLeDiff, reduceCtorEq])
    | refine ev_skip ?_ | refine ev_block ?_ | refine ev_blk ?_ | refine ev_ret ?_ | refine ev_exit ?_ | refine evx_code_ret ?_ | refine evx_blk_ret ?_ | refine evx_lp_ret ?_
    | refine evx_code_exit ?_ | refine evx_lp_exit ?_ | refine evx_blk_hit ?_ | refine evx_blk_pass (by decide) ?_
    | refine And.intro ?_ ?_ | intro _ | decide +kernel | omega)
  · rename_i h1 h2
    have h9 : firstF (entryF d) xs = entryF d (xs.getD k default) := firstF_here (k := k) (by omega) hk.2 (by simpa using h2)
    simp_all [esf] <;> first | omega | grind
  · rename_i h1 h2
    exact ev_lp (k + 1) [] ⟨by omega, allLt_step hk.2 (by simpa using h2)⟩ (by omega) (by simp only [go_sem, hP, ↓reduceIte, Nat.reduceAdd, Nat.reduceMul, Nat.reduceEqDiff, Nat.reduceSub, Nat.reduceLeDiff, reduceCtorEq]; simp; exact wrap_nat (by omega) hlen)
  rename_i h1
  have hz : firstF (entryF d) xs = 0 := firstF_done (by omega) hk.2
  clear h1 hk
  refine ev_loop (ι := Nat) (fun k => [(0, .c (sEntryS xs)), (7, .c (.int .i64 k))]) (fun k => []) (fun _ => []) (fun k => k ≤ xs.length ∧ allLt k (fun j => !dupAt xs j) = true) (fun k => xs.length - k) 0 [] (by simp [allLt_zero] <;> omega) (by simp only [go_sem, hP, ↓reduceIte, Nat.reduceAdd, Nat.reduceMul, Nat.reduceEqDiff, Nat.reduceSub, Nat.reduceLeDiff, reduceCtorEq]; simp) ?_
  intro k hk
  have hs := fun h => findRef_self (xs := xs) (k := k) h
  repeat' (first
    | exact True.intro
    | refine ev_seq ?_
    | ((first | refine vgd_go ?_ | refine ev_region hE hM (hS (by decide +kernel)) ?_ | refine ev_if ?_ | refine end_ret hE rfl rfl ?_ | refine end_norm hE rfl rfl ?_ | refine endG_ret [] hE rfl ?_ | refine endG_norm [] hE rfl ?_ | refine vcallB_of hP (s_l3Find xs _) ?_ | refine vcall_A ?_); simp (maxSteps := 2000000) only [go_sem, hP, ↓reduceIte, Nat.reduceAdd, Nat.reduceMul, Nat.reduceEqDiff, Nat.reduceSub, Nat.reduceLeDiff, reduceCtorEq])
    | refine ev_skip ?_ | refine ev_block ?_ | refine ev_blk ?_ | refine ev_ret ?_ | refine ev_exit ?_ | refine evx_code_ret ?_ | refine evx_blk_ret ?_ | refine evx_lp_ret ?_
    | refine evx_code_exit ?_ | refine evx_lp_exit ?_ | refine evx_blk_hit ?_ | refine evx_blk_pass (by decide) ?_
    | refine And.intro ?_ ?_ | intro _ | decide +kernel | omega)
  · rename_i h1 h2
    have h9 : noDup xs = false := allLt_not (k := k) (by omega) (by have := hs (by omega); simp_all)
    simp_all [esf] <;> first | omega | grind
  · rename_i h1 h2
    exact ev_lp (k + 1) [] ⟨by omega, allLt_step hk.2 (by have := hs (by omega); simp_all)⟩ (by omega) (by simp only [go_sem, hP, ↓reduceIte, Nat.reduceAdd, Nat.reduceMul, Nat.reduceEqDiff, Nat.reduceSub, Nat.reduceLeDiff, reduceCtorEq]; simp; exact wrap_nat (by omega) hlen)
  · have h9 : noDup xs = true := allLt_done (by omega) hk.2
    simp_all [esf] <;> first | omega | grind
theorem s_implEntriesFault (xs : List Entry) (d : Int) : Sat Tryz.prog 37 [aEntryS xs, aI d] true (rI (esf xs d)) := by
  refine sat_walk (fn := Tryz.f37) rfl rfl rfl (Nat.le_of_ble_eq_true rfl) fun fr hP hN hbnd => ?_
  have hE : (envOf fr Tryz.prog).Ok := envOf_ok hP
  have hM := follows_of hP
  have hS : ∀ {draw ops}, statB Tryz.f37.ntmps draw ops = true → statB (envOf fr Tryz.prog).fr.N draw ops = true := fun h => by rw [envOf_fr, hN]; exact h
  have hlen := bnd_EntryS hbnd
  repeat' (first
    | exact True.intro
    | refine ev_seq ?_
    | ((first | refine vgd_go ?_ | refine ev_region hE hM (hS (by decide +kernel)) ?_ | refine ev_if ?_ | refine end_ret hE rfl rfl ?_ | refine end_norm hE rfl rfl ?_ | refine endG_ret [] hE rfl ?_ | refine endG_norm [] hE rfl ?_ | refine vcallB_of hP (s_isDims _) ?_ | refine vcall_A ?_); simp (maxSteps := 2000000) only [go_sem, hP, ↓reduceIte, Nat.reduceAdd, Nat.reduceMul, Nat.reduceEqDiff, Nat.reduceSub, Nat.reduceLeDiff, reduceCtorEq])
    | refine ev_skip ?_ | refine ev_block ?_ | refine ev_blk ?_ | refine ev_ret ?_ | refine ev_exit ?_ | refine evx_code_ret ?_ | refine evx_blk_ret ?_ | refine evx_lp_ret ?_
    | refine evx_code_exit ?_ | refine evx_lp_exit ?_ | refine evx_blk_hit ?_ | refine evx_blk_pass (by decide) ?_
    | refine And.intro ?_ ?_ | intro _ | decide +kernel | omega)
  · simp_all [esf]
  · simp_all [esf]
  refine ev_loop (ι := Nat) (fun k => [(0, .c (sEntryS xs)), (1, .c (.int .i64 d)), (19, .c (sEntryS xs)), (20, .c (.int .i64 xs.length)), (21, .c (.int .i64 k))]) (fun k => []) (fun _ => []) (fun k => k ≤ xs.length ∧ allLt k (fun j => decide (entryF d (xs.getD j default) = 0)) = true) (fun k => xs.length - k) 0 [] (by simp [allLt_zero] <;> omega) (by simp only [go_sem, hP, ↓reduceIte, Nat.reduceAdd, Nat.reduceMul, Nat.reduceEqDiff, Nat.reduceSub, Nat.reduceLeDiff, reduceCtorEq]; simp) ?_
  intro k hk
  repeat' (first
    | exact True.intro
    | refine ev_seq ?_
    | ((first | refine vgd_go ?_ | refine ev_region hE hM (hS (by decide +kernel)) ?_ | refine ev_if ?_ | refine end_ret hE rfl rfl ?_ | refine end_norm hE rfl rfl ?_ | refine endG_ret [] hE rfl ?_ | refine endG_norm [] hE rfl ?_ | refine vcallB_of hP (s_implRectFault (xs.getD k default).rect _) ?_ | refine vcallB_of hP (s_entryRange (xs.getD k default)) ?_ | refine vcall_A ?_); simp (maxSteps := 2000000) only [go_sem, hP, ↓reduceIte, Nat.reduceAdd, Nat.reduceMul, Nat.reduceEqDiff, Nat.reduceSub, Nat.reduceLeDiff, reduceCtorEq])
    | refine ev_skip ?_ | refine ev_block ?_ | refine ev_blk ?_ | refine ev_ret ?_ | refine ev_exit ?_ | refine evx_code_ret ?_ | refine evx_blk_ret ?_ | refine evx_lp_ret ?_
    | refine evx_code_exit ?_ | refine evx_lp_exit ?_ | refine evx_blk_hit ?_ | refine evx_blk_pass (by decide) ?_
    | refine And.intro ?_ ?_ | intro _ | decide +kernel | omega)
  · rename_i h1 h2
    have h8 : entryF d (xs.getD k default) = rf (xs.getD k default).rect d := by unfold entryF; rw [if_pos (by simpa using h2)]
    have h9 : firstF (entryF d) xs = entryF d (xs.getD k default) := firstF_here (k := k) (by omega) hk.2 (by rw [h8]; simpa using h2)
    rw [h8] at h9
    simp_all [esf] <;> first | omega | grind
  · rename_i h1 h2 h3
    have h8 : entryF d (xs.getD k default) = if inB (xs.getD k default).ref 0 999 && inB (xs.getD k default).nsn 0 100000 then 0 else 3 := by unfold entryF; rw [if_neg (by simpa using h2)]
    have h9 : firstF (entryF d) xs = entryF d (xs.getD k default) := firstF_here (k := k) (by omega) hk.2 (by rw [h8]; simpa using h3)
    rw [h8] at h9
    simp_all [esf] <;> first | omega | grind
  · rename_i h1 h2 h3
    have h8 : entryF d (xs.getD k default) = if inB (xs.getD k default).ref 0 999 && inB (xs.getD k default).nsn 0 100000 then 0 else 3 := by unfold entryF; rw [if_neg (by simpa using h2)]
    exact ev_lp (k + 1) [] ⟨by omega, allLt_step hk.2 (by rw [h8]; simpa using h3)⟩ (by omega) (by simp only [go_sem, hP, ↓reduceIte, Nat.reduceAdd, Nat.reduceMul, Nat.reduceEqDiff, Nat.reduceSub, Nat.reduceLeDiff, reduceCtorEq]; simp; exact wrap_nat (by omega) hlen)
  rename_i h1
  have hz : firstF (entryF d) xs = 0 := firstF_done (by omega) hk.2
  clear h1 hk
  refine ev_loop (ι := Nat) (fun k => [(0, .c (sEntryS xs)), (38, .c (sEntryS xs)), (39, .c (.int .i64 xs.length)), (40, .c (.int .i64 k))]) (fun k => []) (fun _ => []) (fun k => k ≤ xs.length ∧ allLt k (fun j => !dupAt xs j) = true) (fun k => xs.length - k) 0 [] (by simp [allLt_zero] <;> omega) (by simp only [go_sem, hP, ↓reduceIte, Nat.reduceAdd, Nat.reduceMul, Nat.reduceEqDiff, Nat.reduceSub, Nat.reduceLeDiff, reduceCtorEq]; simp) ?_
  intro k hk
  have hn := findRef_nonneg (xs := xs.take k) (r := (xs.getD k default).ref)
  repeat' (first
    | exact True.intro
    | refine ev_seq ?_
    | ((first | refine vgd_go ?_ | refine ev_region hE hM (hS (by decide +kernel)) ?_ | refine ev_if ?_ | refine end_ret hE rfl rfl ?_ | refine end_norm hE rfl rfl ?_ | refine endG_ret [] hE rfl ?_ | refine endG_norm [] hE rfl ?_ | refine vcallB_of hP (s_entryAt (xs.take k) _) ?_ | refine vcall_A ?_); simp (maxSteps := 2000000) only [go_sem, hP, ↓reduceIte, Nat.reduceAdd, Nat.reduceMul, Nat.reduceEqDiff, Nat.reduceSub, Nat.reduceLeDiff, reduceCtorEq, Int.toNat_zero, Nat.sub_zero, ← List.map_take])
    | refine ev_skip ?_ | refine ev_block ?_ | refine ev_blk ?_ | refine ev_ret ?_ | refine ev_exit ?_ | refine evx_code_ret ?_ | refine evx_blk_ret ?_ | refine evx_lp_ret ?_
    | refine evx_code_exit ?_ | refine evx_lp_exit ?_ | refine evx_blk_hit ?_ | refine evx_blk_pass (by decide) ?_
    | refine And.intro ?_ ?_ | intro _ | decide +kernel | omega)
  · rename_i h1 h2
    have h9 : noDup xs = false := allLt_not (k := k) (by omega) (by unfold dupAt; rw [← hn]; simpa using h2)
    simp_all [esf] <;> first | omega | grind
  · rename_i h1 h2
    exact ev_lp (k + 1) [] ⟨by omega, allLt_step hk.2 (by unfold dupAt; rw [← hn]; simpa using h2)⟩ (by omega) (by simp only [go_sem, hP, ↓reduceIte, Nat.reduceAdd, Nat.reduceMul, Nat.reduceEqDiff, Nat.reduceSub, Nat.reduceLeDiff, reduceCtorEq]; simp; exact wrap_nat (by omega) hlen)
  · have h9 : noDup xs = true := allLt_done (by omega) hk.2
    simp_all [esf] <;> first | omega | grind
def efcode (n : Node) (d r : Int) : Int := if nf n d ≠ 0 then nf n d else if findRef n.entries r < 0 then 4 else 0
def cmpI (a b : Int) : Int := if a < b then -1 else if b < a then 1 else 0
def better (xs : List Entry) (r : Rect) (i j : Nat) : Bool :=
  decide (growth (xs.getD i default).rect r < growth (xs.getD j default).rect r) || (decide (growth (xs.getD i default).rect r = growth (xs.getD j default).rect r) && decide (area (xs.getD i default).rect < area (xs.getD j default).rect))
def chooseTo (xs : List Entry) (r : Rect) : Nat → Nat
  | 0 => 0
  | k + 1 => if better xs r k (chooseTo xs r k) then k else chooseTo xs r k
@[simp] theorem chooseTo_zero (xs : List Entry) (r : Rect) : chooseTo xs r 0 = 0 := rfl
@[simp] theorem chooseTo_one (xs : List Entry) (r : Rect) : chooseTo xs r 1 = 0 := by
  show (if better xs r 0 0 = true then 0 else 0) = 0
  split <;> rfl
theorem cmp_less {a b c d : Int} : ((if ¬cmpI a b = 0 then cmpI a b else cmpI c d) < 0) ↔ (decide (a < b) || (decide (a = b) && decide (c < d))) = true := by
  unfold cmpI; simp only [Bool.or_eq_true, Bool.and_eq_true, decide_eq_true_eq]; repeat' split
  all_goals omega
theorem chooseTo_yes {xs : List Entry} {r : Rect} {k : Nat} (h : better xs r k (chooseTo xs r k) = true) : chooseTo xs r (k + 1) = k := by
  show (if better xs r k (chooseTo xs r k) = true then k else chooseTo xs r k) = k
  rw [if_pos h]
theorem chooseTo_no {xs : List Entry} {r : Rect} {k : Nat} (h : ¬ better xs r k (chooseTo xs r k) = true) : chooseTo xs r (k + 1) = chooseTo xs r k := by
  show (if better xs r k (chooseTo xs r k) = true then k else chooseTo xs r k) = _
  rw [if_neg h]
theorem chooseTo_lt (xs : List Entry) (r : Rect) : ∀ k, chooseTo xs r k ≤ k
  | 0 => Nat.le_refl _
  | k + 1 => by have := chooseTo_lt xs r k; unfold chooseTo; split <;> omega
theorem chooseTo_len {xs : List Entry} {r : Rect} (h : 0 < xs.length) : ∀ k, k ≤ xs.length → chooseTo xs r k < xs.length
  | 0, _ => h
  | k + 1, hk => by have := chooseTo_len h (r := r) k (by omega); unfold chooseTo; split <;> omega
theorem s_Compare (a b : Int) : Sat Tryz.prog 48 [aI a, aI b] true (rI (cmpI a b)) := by
  refine sat_walk (fn := Tryz.f48) rfl rfl rfl (Nat.le_of_ble_eq_true rfl) fun fr hP hN hbnd => ?_
  have hE : (envOf fr Tryz.prog).Ok := envOf_ok hP
  have hM := follows_of hP
  have hS : ∀ {draw ops}, statB Tryz.f48.ntmps draw ops = true → statB (envOf fr Tryz.prog).fr.N draw ops = true := fun h => by rw [envOf_fr, hN]; exact h
  repeat' (first
    | exact True.intro
    | refine ev_seq ?_
    | ((first | refine vgd_go ?_ | refine ev_region hE hM (hS (by decide +kernel)) ?_ | refine ev_if ?_ | refine end_ret hE rfl rfl ?_ | refine end_norm hE rfl rfl ?_ | refine endG_ret [] hE rfl ?_ | refine endG_norm [] hE rfl ?_ | refine vcallB_of hP (s_isNaN _) ?_ | refine vcall_A ?_); simp (maxSteps := 2000000) only [go_sem, hP, ↓reduceIte, Nat.reduceAdd, Nat.reduceMul, Nat.reduceEqDiff, Nat.reduceSub, Nat.reduceLeDiff, reduceCtorEq])
    | refine ev_skip ?_ | refine ev_block ?_ | refine ev_blk ?_ | refine ev_ret ?_ | refine ev_exit ?_ | refine evx_code_ret ?_ | refine evx_blk_ret ?_ | refine evx_lp_ret ?_
    | refine evx_code_exit ?_ | refine evx_lp_exit ?_ | refine evx_blk_hit ?_ | refine evx_blk_pass (by decide) ?_
    | refine And.intro ?_ ?_ | intro _ | decide +kernel | omega)
  all_goals first
    | (simp_all [cmpI]; done)
    | (simp_all [cmpI]; omega)
def chcode (xs : List Entry) (d : Int) (r : Rect) : Int := if esf xs d ≠ 0 then esf xs d else if rf r d ≠ 0 then rf r d else if xs.length = 0 then 4 else 0
theorem s_OrL (xs : List Int) : Sat Tryz.prog 47 [aL xs] true (rI (firstF id xs)) := by
  refine sat_walk (fn := Tryz.f47) rfl rfl rfl (Nat.le_of_ble_eq_true rfl) fun fr hP hN hbnd => ?_
  have hE : (envOf fr Tryz.prog).Ok := envOf_ok hP
  have hM := follows_of hP
  have hS : ∀ {draw ops}, statB Tryz.f47.ntmps draw ops = true → statB (envOf fr Tryz.prog).fr.N draw ops = true := fun h => by rw [envOf_fr, hN]; exact h
  have hlen := bndL hbnd
  repeat' (first
    | exact True.intro
    | refine ev_seq ?_
    | ((first | refine vgd_go ?_ | refine ev_region hE hM (hS (by decide +kernel)) ?_ | refine ev_if ?_ | refine end_ret hE rfl rfl ?_ | refine end_norm hE rfl rfl ?_ | refine endG_ret [] hE rfl ?_ | refine endG_norm [] hE rfl ?_ | refine vcall_A ?_); simp (maxSteps := 2000000) only [go_sem, hP, ↓reduceIte, Nat.reduceAdd, Nat.reduceMul, Nat.reduceEqDiff, Nat.reduceSub, Nat.reduceLeDiff, reduceCtorEq])
    | refine ev_skip ?_ | refine ev_block ?_ | refine ev_blk ?_ | refine ev_ret ?_ | refine ev_exit ?_ | refine evx_code_ret ?_ | refine evx_blk_ret ?_ | refine evx_lp_ret ?_
    | refine evx_code_exit ?_ | refine evx_lp_exit ?_ | refine evx_blk_hit ?_ | refine evx_blk_pass (by decide) ?_
    | refine And.intro ?_ ?_ | intro _ | decide +kernel | omega)
  refine ev_loop (ι := Nat) (fun k => [(3, .c (.int .i64 0)), (6, .c (sI xs)), (7, .c (.int .i64 xs.length)), (8, .c (.int .i64 k))]) (fun k => []) (fun _ => []) (fun k => k ≤ xs.length ∧ allLt k (fun j => decide (id (xs.getD j default) = 0)) = true) (fun k => xs.length - k) 0 [] (by simp [allLt_zero] <;> omega) (by simp only [go_sem, hP, ↓reduceIte, Nat.reduceAdd, Nat.reduceMul, Nat.reduceEqDiff, Nat.reduceSub, Nat.reduceLeDiff, reduceCtorEq]; simp) ?_
  intro k hk
  repeat' (first
    | exact True.intro
    | refine ev_seq ?_
    | ((first | refine vgd_go ?_ | refine ev_region hE hM (hS (by decide +kernel)) ?_ | refine ev_if ?_ | refine end_ret hE rfl rfl ?_ | refine end_norm hE rfl rfl ?_ | refine endG_ret [] hE rfl ?_ | refine endG_norm [] hE rfl ?_ | refine vcall_A ?_); simp (maxSteps := 2000000) only [go_sem, hP, ↓reduceIte, Nat.reduceAdd, Nat.reduceMul, Nat.reduceEqDiff, Nat.reduceSub, Nat.reduceLeDiff, reduceCtorEq])
    | refine ev_skip ?_ | refine ev_block ?_ | refine ev_blk ?_ | refine ev_ret ?_ | refine ev_exit ?_ | refine evx_code_ret ?_ | refine evx_blk_ret ?_ | refine evx_lp_ret ?_
    | refine evx_code_exit ?_ | refine evx_lp_exit ?_ | refine evx_blk_hit ?_ | refine evx_blk_pass (by decide) ?_
    | refine And.intro ?_ ?_ | intro _ | decide +kernel | omega)
  · rename_i h1 h2
    have hz : id (xs.getD k default) ≠ 0 := by simpa using h2
    exact (firstF_here (f := id) (by omega) hk.2 hz).symm
  · rename_i h1 h2
    exact ev_lp (k + 1) [] ⟨by omega, allLt_step hk.2 (by simpa using h2)⟩ (by omega) (by simp only [go_sem, hP, ↓reduceIte, Nat.reduceAdd, Nat.reduceMul, Nat.reduceEqDiff, Nat.reduceSub, Nat.reduceLeDiff, reduceCtorEq]; simp; exact wrap_nat (by omega) hlen)
  · exact (firstF_done (f := id) (by omega) hk.2).symm
theorem s_Or (a b : Int) : Sat Tryz.prog 47 [.d (false, [.sl none 1 [[.int .i64 a], [.int .i64 b]]])] true (rI (if a ≠ 0 then a else b)) := by
  have : Sat Tryz.prog 47 [.d (false, [.sl none 1 [[.int .i64 a], [.int .i64 b]]])] true (rI (firstF id [a, b])) := s_OrL [a, b]
  have e : firstF id [a, b] = if a ≠ 0 then a else b := by
    by_cases h : a = 0 <;> by_cases h' : b = 0 <;> simp [firstF, h, h']
  rwa [e] at this
theorem ef_rf {d : Int} {e : Entry} (h : entryF d e = 0) : rf e.rect d = 0 := by
  unfold entryF at h; split at h
  · rename_i h1; exact absurd h h1
  · rename_i h1; simpa using h1
theorem esf_rf {xs : List Entry} {d : Int} (h : esf xs d = 0) : ∀ x ∈ xs, rf x.rect d = 0 := by
  unfold esf at h
  (repeat' split at h) <;> try omega
  rename_i h1 _
  exact fun x hx => ef_rf (firstF_zero (by simpa using h1) x hx)
theorem esf_lens {xs : List Entry} {d : Int} {r : Rect} (h1 : esf xs d = 0) (h2 : rf r d = 0) : ∀ x ∈ xs, Lens x.rect r ∧ x.rect.low.length ≤ 1048576 := by
  intro x hx
  have h3 := esf_rf h1 x hx
  have := rf_three h3
  exact ⟨lens_of h3 h2, by omega⟩
def risesI (xs : List Int) (j : Nat) : Bool := decide (j = 0) || decide (xs.getD (j - 1) default < xs.getD j default)
def wf (xs : List Int) : Int := if (4 : Int) < xs.length then 2 else if xs.all (inB · 0 3) = false then 3 else if allLt xs.length (risesI xs) then 0 else 1
theorem wf_eq {xs : List Int} (h4 : ¬ (4 : Int) < xs.length) (ha : xs.all (inB · 0 3) = true) : wf xs = if allLt xs.length (risesI xs) then 0 else 1 := by
  unfold wf; rw [if_neg h4, if_neg (by rw [ha]; decide)]
theorem wf_3 {xs : List Int} (h4 : ¬ (4 : Int) < xs.length) (ha : xs.all (inB · 0 3) = false) : wf xs = 3 := by
  unfold wf; rw [if_neg h4, if_pos ha]
theorem any_nall {xs : List Int} {p : Int → Bool} : xs.any (fun n => !p n) = !xs.all p := by
  induction xs with
  | nil => rfl
  | cons x xs ih => simp [ih]
/-- Numbers that rise from one on. -/
def markedI (k : Int) (n : Nat) : List Int := (List.range n).map fun (j : Nat) => k + j
@[simp] theorem markedI_length (k : Int) (n : Nat) : (markedI k n).length = n := by simp [markedI]
theorem markedI_getD {k : Int} {n j : Nat} (h : j < n) : (markedI k n).getD j default = k + j := by
  rw [getD_lt (by simpa using h)]; simp [markedI]
/-- A row of numbers that is given: the key's name is none of the walk's own (those are multiples of 8). -/
@[go_sem] abbrev gI (κ : Nat) (xs : List Int) : Nat × Blk := (κ, .arr true 2 1 (xs.map eI))
@[go_sem] abbrev iT (n : Int) : T := .c (.int .i64 n)
/-- How far marks may go. -/
abbrev mMax : Int := 1000000000000
def markedR (k : Int) (r : Rect) : Rect := ⟨markedI k r.low.length, markedI (k + r.low.length) r.high.length⟩
theorem markedR_w (k : Int) (r : Rect) : wR (markedR k r) = wR r := by simp [markedR, wR]
@[go_sem] abbrev tR (a b : Nat) : T := .agg [.ref a, .ref b]
@[go_sem] abbrev gR (a b : Nat) (r : Rect) : List (Nat × Blk) := [gI a r.low, gI b r.high]
theorem s_l1Ints (xs : List Int) (hx : xs.length ≤ 1048576) : Sat Tryz.prog 96 [aL xs] true (rL xs) := by
  refine sat_walk (fn := Tryz.f96) rfl rfl rfl (Nat.le_of_ble_eq_true rfl) fun fr hP hN hbnd => ?_
  have hE : (envOf fr Tryz.prog).Ok := envOf_ok hP
  have hM := follows_of hP
  have hS : ∀ {draw ops}, statB Tryz.f96.ntmps draw ops = true → statB (envOf fr Tryz.prog).fr.N draw ops = true := fun h => by rw [envOf_fr, hN]; exact h
  have hlen := bndL hbnd
  repeat' (first
    | exact True.intro
    | refine ev_seq ?_
    | ((first | refine vgd_go ?_ | refine ev_region hE hM (hS (by decide +kernel)) ?_ | refine ev_if ?_ | refine end_ret hE rfl rfl ?_ | refine end_norm hE rfl rfl ?_ | refine endG_ret [] hE rfl ?_ | refine endG_norm [] hE rfl ?_ | refine vcall_A ?_); simp (maxSteps := 2000000) only [go_sem, hP, ↓reduceIte, Nat.reduceAdd, Nat.reduceMul, Nat.reduceEqDiff, Nat.reduceSub, Nat.reduceLeDiff, reduceCtorEq, Bool.and_self])
    | refine ev_skip ?_ | refine ev_block ?_ | refine ev_blk ?_ | refine ev_ret ?_ | refine ev_exit ?_ | refine evx_code_ret ?_ | refine evx_blk_ret ?_ | refine evx_lp_ret ?_
    | refine evx_code_exit ?_ | refine evx_lp_exit ?_ | refine evx_blk_hit ?_ | refine evx_blk_pass (by decide) ?_
    | refine And.intro ?_ ?_ | intro _ | decide +kernel | omega)
  all_goals (simp_all; done)
theorem s_l1Copy (r : Rect) (h1 : r.low.length ≤ 1048576) (h2 : r.high.length ≤ 1048576) : Sat Tryz.prog 78 [pR r] true (rR r) := by
  refine sat_walk (fn := Tryz.f78) rfl rfl rfl (Nat.le_of_ble_eq_true rfl) fun fr hP hN hbnd => ?_
  have hE : (envOf fr Tryz.prog).Ok := envOf_ok hP
  have hM := follows_of hP
  have hS : ∀ {draw ops}, statB Tryz.f78.ntmps draw ops = true → statB (envOf fr Tryz.prog).fr.N draw ops = true := fun h => by rw [envOf_fr, hN]; exact h
  repeat' (first
    | exact True.intro
    | refine ev_seq ?_
    | ((first | refine vgd_go ?_ | refine ev_region hE hM (hS (by decide +kernel)) ?_ | refine ev_if ?_ | refine end_ret hE rfl rfl ?_ | refine end_norm hE rfl rfl ?_ | refine endG_ret [] hE rfl ?_ | refine endG_norm [] hE rfl ?_ | refine vcallB_of hP (s_l1Ints _ h1) ?_ | refine vcallB_of hP (s_l1Ints _ h2) ?_ | refine vcall_A ?_); simp (maxSteps := 2000000) only [go_sem, hP, ↓reduceIte, Nat.reduceAdd, Nat.reduceMul, Nat.reduceEqDiff, Nat.reduceSub, Nat.reduceLeDiff, reduceCtorEq])
    | refine ev_skip ?_ | refine ev_block ?_ | refine ev_blk ?_ | refine ev_ret ?_ | refine ev_exit ?_ | refine evx_code_ret ?_ | refine evx_blk_ret ?_ | refine evx_lp_ret ?_
    | refine evx_code_exit ?_ | refine evx_lp_exit ?_ | refine evx_blk_hit ?_ | refine evx_blk_pass (by decide) ?_
    | refine And.intro ?_ ?_ | intro _ | decide +kernel | omega)
/-- How far the marks are, ahead of the j-th element; the first elements, marked. -/
def kS {α : Type} (w : α → Nat) (k : Int) (xs : List α) (j : Nat) : Int := k + sumW w (xs.take j)
def preS {α : Type} [Inhabited α] (f : Int → α → α) (w : α → Nat) (k : Int) (xs : List α) (j : Nat) : List α := (List.range j).map fun i => f (kS w k xs i) (xs.getD i default)
section
variable {α : Type} [Inhabited α] {f : Int → α → α} {w : α → Nat} {k : Int} {xs : List α} {j : Nat}
@[simp] theorem preS_length : (preS f w k xs j).length = j := by simp [preS]
theorem preS_zero : preS f w k xs 0 = [] := rfl
theorem preS_succ : preS f w k xs (j + 1) = preS f w k xs j ++ [f (kS w k xs j) (xs.getD j default)] := by simp [preS, List.range_succ]
theorem preS_getD {n : Nat} (h : j < n) : (preS f w k xs n).getD j default = f (kS w k xs j) (xs.getD j default) := by
  rw [getD_lt (by simpa using h)]; simp [preS]
theorem kS_zero : kS w k xs 0 = k := by simp [kS, sumW]
theorem kS_succ (h : j < xs.length) : kS w k xs (j + 1) = kS w k xs j + w (xs.getD j default) := by
  have := sumW_step (w := w) (d := default) h
  simp only [kS, this]; omega
theorem kS_le (j : Nat) : kS w k xs j ≤ k + sumW w xs := by
  have := sumW_le (w := w) (xs := xs) j
  simp only [kS]; omega
theorem kS_ge (j : Nat) : k ≤ kS w k xs j := by simp only [kS]; omega
theorem kS_done : kS w k xs xs.length = k + sumW w xs := by simp [kS]
theorem drop_map {β : Type} {g : α → β} (h : j < xs.length) : (xs.drop j).map g = g (xs.getD j default) :: (xs.drop (j + 1)).map g := by
  rw [List.drop_eq_getElem_cons h, getD_lt h]; rfl
end
def mwEntry (e : Entry) : Nat := wR e.rect + 2
def mkEntry (k : Int) (e : Entry) : Entry := ⟨markedR k e.rect, k + e.rect.low.length + e.rect.high.length, k + e.rect.low.length + e.rect.high.length + 1⟩
def markedEs (k : Int) (xs : List Entry) : List Entry := preS mkEntry mwEntry k xs xs.length
@[go_sem] abbrev gEs (κ : Nat) (xs : List Entry) : Nat × Blk := (κ, .arr true 54 4 (xs.map oEntry))
theorem wE_get {xs : List Entry} {i : Nat} (h : i < xs.length) (hw : wEntryS xs ≤ 1048576) : (xs.getD i default).rect.low.length ≤ 1048576 ∧ (xs.getD i default).rect.high.length ≤ 1048576 := by
  have := sumW_get (w := wEntry) (d := default) h
  have e : wEntry (xs.getD i default) = (xs.getD i default).rect.low.length + (xs.getD i default).rect.high.length := rfl
  unfold wEntryS at hw
  omega
theorem s_clonedEntries (xs : List Entry) (hw : wEntryS xs ≤ 1048576) : Sat Tryz.prog 40 [aEntryS xs] true (rEntryS xs) := by
  refine sat_walk (fn := Tryz.f40) rfl rfl rfl (Nat.le_of_ble_eq_true rfl) fun fr hP hN hbnd => ?_
  have hE : (envOf fr Tryz.prog).Ok := envOf_ok hP
  have hM := follows_of hP
  have hS : ∀ {draw ops}, statB Tryz.f40.ntmps draw ops = true → statB (envOf fr Tryz.prog).fr.N draw ops = true := fun h => by rw [envOf_fr, hN]; exact h
  have hlen : xs.length ≤ 1048576 := by unfold wEntryS at hw; omega
  repeat' (first
    | exact True.intro
    | refine ev_seq ?_
    | ((first | refine vgd_go ?_ | refine ev_region hE hM (hS (by decide +kernel)) ?_ | refine ev_if ?_ | refine end_ret hE rfl rfl ?_ | refine end_norm hE rfl rfl ?_ | refine endG_ret [] hE rfl ?_ | refine endG_norm [] hE rfl ?_ | refine vcall_A ?_); simp (maxSteps := 2000000) only [go_sem, hP, ↓reduceIte, Nat.reduceAdd, Nat.reduceMul, Nat.reduceEqDiff, Nat.reduceSub, Nat.reduceLeDiff, reduceCtorEq])
    | refine ev_skip ?_ | refine ev_block ?_ | refine ev_blk ?_ | refine ev_ret ?_ | refine ev_exit ?_ | refine evx_code_ret ?_ | refine evx_blk_ret ?_ | refine evx_lp_ret ?_
    | refine evx_code_exit ?_ | refine evx_lp_exit ?_ | refine evx_blk_hit ?_ | refine evx_blk_pass (by decide) ?_
    | refine And.intro ?_ ?_ | intro _ | decide +kernel | omega)
  refine ev_loop (ι := Nat) (fun k => [(3, .ref 100000), (7, .c (sEntryS xs)), (8, iT xs.length), (9, iT k)]) (fun k => [(100000, .arr true 54 4 ((xs.take k).map oEntry))]) (fun _ => []) (fun k => k ≤ xs.length) (fun k => xs.length - k) 0 [(100000, some 4096)] (by omega) (by simp only [go_sem, hP, ↓reduceIte, Nat.reduceAdd, Nat.reduceMul, Nat.reduceEqDiff, Nat.reduceSub, Nat.reduceLeDiff, reduceCtorEq]; simp) ?_
  intro k hk
  have hw1 : k < xs.length → IntKind.i64.wrap ((k : Int) + 1) = k + 1 := fun h => i64_in _ (by omega)
  have htl : ((xs.take k).map oEntry).length = k := by simp; omega
  by_cases hlt : k < xs.length
  · have hg := wE_get hlt hw
    repeat' (first
      | exact True.intro
      | refine ev_seq ?_
      | ((first | refine vgd_go ?_ | refine ev_region hE hM (hS (by decide +kernel)) ?_ | refine ev_if ?_ | refine end_ret hE rfl rfl ?_ | refine end_norm hE rfl rfl ?_ | refine endG_ret [] hE rfl ?_ | refine endG_norm [] hE rfl ?_ | refine vcallB_of hP (s_cloned (xs.getD k default).rect hg.1 hg.2) ?_ | refine vcall_A ?_); simp (maxSteps := 2000000) only [go_sem, hP, ↓reduceIte, Nat.reduceAdd, Nat.reduceMul, Nat.reduceEqDiff, Nat.reduceSub, Nat.reduceLeDiff, reduceCtorEq, htl, Bool.and_self])
      | refine ev_skip ?_ | refine ev_block ?_ | refine ev_blk ?_ | refine ev_ret ?_ | refine ev_exit ?_ | refine evx_code_ret ?_ | refine evx_blk_ret ?_ | refine evx_lp_ret ?_
      | refine evx_code_exit ?_ | refine evx_lp_exit ?_ | refine evx_blk_hit ?_ | refine evx_blk_pass (by decide) ?_
      | refine And.intro ?_ ?_ | intro _ | decide +kernel | omega)
    all_goals first
      | exact ev_lp (k + 1) [(100000, some 20560)] (by omega) (by omega) (by simp only [go_sem, hP, ↓reduceIte, Nat.reduceAdd, Nat.reduceMul, Nat.reduceEqDiff, Nat.reduceSub, Nat.reduceLeDiff, reduceCtorEq]; rw [take_step (d := default) hlt]; simp [hw1 hlt, oEntry_eq])
      | (exfalso; omega)
      | (simp_all; done)
  · obtain rfl : k = xs.length := by omega
    repeat' (first
      | exact True.intro
      | refine ev_seq ?_
      | ((first | refine vgd_go ?_ | refine ev_region hE hM (hS (by decide +kernel)) ?_ | refine ev_if ?_ | refine end_ret hE rfl rfl ?_ | refine end_norm hE rfl rfl ?_ | refine endG_ret [] hE rfl ?_ | refine endG_norm [] hE rfl ?_ | refine vcall_A ?_); simp (maxSteps := 2000000) only [go_sem, hP, ↓reduceIte, Nat.reduceAdd, Nat.reduceMul, Nat.reduceEqDiff, Nat.reduceSub, Nat.reduceLeDiff, reduceCtorEq, htl, List.take_length])
      | refine ev_skip ?_ | refine ev_block ?_ | refine ev_blk ?_ | refine ev_ret ?_ | refine ev_exit ?_ | refine evx_code_ret ?_ | refine evx_blk_ret ?_ | refine evx_lp_ret ?_
      | refine evx_code_exit ?_ | refine evx_lp_exit ?_ | refine evx_blk_hit ?_ | refine evx_blk_pass (by decide) ?_
      | refine And.intro ?_ ?_ | intro _ | decide +kernel | omega)
    all_goals first
      | (exfalso; omega)
      | (simp_all; done)
theorem s_isStyle (s : Int) : Sat Tryz.prog 16 [aI s] true (rB (inB s 0 1)) := by
  refine sat_walk (fn := Tryz.f16) rfl rfl rfl (Nat.le_of_ble_eq_true rfl) fun fr hP hN hbnd => ?_
  have hE : (envOf fr Tryz.prog).Ok := envOf_ok hP
  have hM := follows_of hP
  have hS : ∀ {draw ops}, statB Tryz.f16.ntmps draw ops = true → statB (envOf fr Tryz.prog).fr.N draw ops = true := fun h => by rw [envOf_fr, hN]; exact h
  repeat' (first
    | exact True.intro
    | refine ev_seq ?_
    | ((first | refine vgd_go ?_ | refine ev_region hE hM (hS (by decide +kernel)) ?_ | refine ev_if ?_ | refine end_ret hE rfl rfl ?_ | refine end_norm hE rfl rfl ?_ | refine endG_ret [] hE rfl ?_ | refine endG_norm [] hE rfl ?_ | refine vcall_A ?_); simp (maxSteps := 2000000) only [go_sem, hP, ↓reduceIte, Nat.reduceAdd, Nat.reduceMul, Nat.reduceEqDiff, Nat.reduceSub, Nat.reduceLeDiff, reduceCtorEq])
    | refine ev_skip ?_ | refine ev_block ?_ | refine ev_blk ?_ | refine ev_ret ?_ | refine ev_exit ?_ | refine evx_code_ret ?_ | refine evx_blk_ret ?_ | refine evx_lp_ret ?_
    | refine evx_code_exit ?_ | refine evx_lp_exit ?_ | refine evx_blk_hit ?_ | refine evx_blk_pass (by decide) ?_
    | refine And.intro ?_ ?_ | intro _ | decide +kernel | omega)
  · rename_i h; have h : s ≠ 0 := by simpa using h
    have e : inB s 0 1 = decide (0 ≤ s ∧ s ≤ 1) := by simp [inB]
    rw [e, Bool.eq_iff_iff]; simp; omega
  · rename_i h; have h : s = 0 := by simpa using h
    subst h; rfl
theorem s_l3Entries (xs : List Entry) (hw : wEntryS xs ≤ 1048576) : Sat Tryz.prog 52 [aEntryS xs] true (rEntryS xs) := by
  refine sat_walk (fn := Tryz.f52) rfl rfl rfl (Nat.le_of_ble_eq_true rfl) fun fr hP hN hbnd => ?_
  have hE : (envOf fr Tryz.prog).Ok := envOf_ok hP
  have hM := follows_of hP
  have hS : ∀ {draw ops}, statB Tryz.f52.ntmps draw ops = true → statB (envOf fr Tryz.prog).fr.N draw ops = true := fun h => by rw [envOf_fr, hN]; exact h
  have hlen : xs.length ≤ 1048576 := by unfold wEntryS at hw; omega
  repeat' (first
    | exact True.intro
    | refine ev_seq ?_
    | ((first | refine vgd_go ?_ | refine ev_region hE hM (hS (by decide +kernel)) ?_ | refine ev_if ?_ | refine end_ret hE rfl rfl ?_ | refine end_norm hE rfl rfl ?_ | refine endG_ret [] hE rfl ?_ | refine endG_norm [] hE rfl ?_ | refine vcall_A ?_); simp (maxSteps := 2000000) only [go_sem, hP, ↓reduceIte, Nat.reduceAdd, Nat.reduceMul, Nat.reduceEqDiff, Nat.reduceSub, Nat.reduceLeDiff, reduceCtorEq])
    | refine ev_skip ?_ | refine ev_block ?_ | refine ev_blk ?_ | refine ev_ret ?_ | refine ev_exit ?_ | refine evx_code_ret ?_ | refine evx_blk_ret ?_ | refine evx_lp_ret ?_
    | refine evx_code_exit ?_ | refine evx_lp_exit ?_ | refine evx_blk_hit ?_ | refine evx_blk_pass (by decide) ?_
    | refine And.intro ?_ ?_ | intro _ | decide +kernel | omega)
  refine ev_loop (ι := Nat) (fun k => [(0, .c (sEntryS xs)), (3, .ref 100000), (4, iT k)]) (fun k => [(100000, .arr true 54 4 ((xs.take k).map oEntry))]) (fun _ => []) (fun k => k ≤ xs.length) (fun k => xs.length - k) 0 [(100000, some 4096)] (by omega) (by simp only [go_sem, hP, ↓reduceIte, Nat.reduceAdd, Nat.reduceMul, Nat.reduceEqDiff, Nat.reduceSub, Nat.reduceLeDiff, reduceCtorEq]; simp) ?_
  intro k hk
  have hw1 : k < xs.length → IntKind.i64.wrap ((k : Int) + 1) = k + 1 := fun h => i64_in _ (by omega)
  have htl : ((xs.take k).map oEntry).length = k := by simp; omega
  by_cases hlt : k < xs.length
  · have hg := wE_get hlt hw
    repeat' (first
      | exact True.intro
      | refine ev_seq ?_
      | ((first | refine vgd_go ?_ | refine ev_region hE hM (hS (by decide +kernel)) ?_ | refine ev_if ?_ | refine end_ret hE rfl rfl ?_ | refine end_norm hE rfl rfl ?_ | refine endG_ret [] hE rfl ?_ | refine endG_norm [] hE rfl ?_ | refine vcallB_of hP (s_l1Copy (xs.getD k default).rect hg.1 hg.2) ?_ | refine vcall_A ?_); simp (maxSteps := 2000000) only [go_sem, hP, ↓reduceIte, Nat.reduceAdd, Nat.reduceMul, Nat.reduceEqDiff, Nat.reduceSub, Nat.reduceLeDiff, reduceCtorEq, htl, Bool.and_self])
      | refine ev_skip ?_ | refine ev_block ?_ | refine ev_blk ?_ | refine ev_ret ?_ | refine ev_exit ?_ | refine evx_code_ret ?_ | refine evx_blk_ret ?_ | refine evx_lp_ret ?_
      | refine evx_code_exit ?_ | refine evx_lp_exit ?_ | refine evx_blk_hit ?_ | refine evx_blk_pass (by decide) ?_
      | refine And.intro ?_ ?_ | intro _ | decide +kernel | omega)
    all_goals first
      | exact ev_lp (k + 1) [(100000, some 28696)] (by omega) (by omega) (by simp only [go_sem, hP, ↓reduceIte, Nat.reduceAdd, Nat.reduceMul, Nat.reduceEqDiff, Nat.reduceSub, Nat.reduceLeDiff, reduceCtorEq]; rw [take_step (d := default) hlt]; simp [hw1 hlt, oEntry_eq])
      | (exfalso; omega)
      | (simp_all; done)
  · obtain rfl : k = xs.length := by omega
    repeat' (first
      | exact True.intro
      | refine ev_seq ?_
      | ((first | refine vgd_go ?_ | refine ev_region hE hM (hS (by decide +kernel)) ?_ | refine ev_if ?_ | refine end_ret hE rfl rfl ?_ | refine end_norm hE rfl rfl ?_ | refine endG_ret [] hE rfl ?_ | refine endG_norm [] hE rfl ?_ | refine vcall_A ?_); simp (maxSteps := 2000000) only [go_sem, hP, ↓reduceIte, Nat.reduceAdd, Nat.reduceMul, Nat.reduceEqDiff, Nat.reduceSub, Nat.reduceLeDiff, reduceCtorEq, htl, List.take_length])
      | refine ev_skip ?_ | refine ev_block ?_ | refine ev_blk ?_ | refine ev_ret ?_ | refine ev_exit ?_ | refine evx_code_ret ?_ | refine evx_blk_ret ?_ | refine evx_lp_ret ?_
      | refine evx_code_exit ?_ | refine evx_lp_exit ?_ | refine evx_blk_hit ?_ | refine evx_blk_pass (by decide) ?_
      | refine And.intro ?_ ?_ | intro _ | decide +kernel | omega)
    all_goals first
      | (exfalso; omega)
      | (simp_all; done)
/-- All boxes have as many numbers as n tells. -/
def Even (xs : List Entry) (n : Nat) : Prop := ∀ x ∈ xs, x.rect.low.length = n ∧ x.rect.high.length = n
theorem even_get {xs : List Entry} {n k : Nat} (h : Even xs n) (hk : k < xs.length) : (xs.getD k default).rect.low.length = n ∧ (xs.getD k default).rect.high.length = n := h _ (getD_mem hk)
theorem even_drop {xs : List Entry} {n k : Nat} (h : Even xs n) : Even (xs.drop k) n := fun x hx => h x (List.mem_of_mem_drop hx)
theorem even_take {xs : List Entry} {n k : Nat} (h : Even xs n) : Even (xs.take k) n := fun x hx => h x (List.mem_of_mem_take hx)
def boxTo (xs : List Entry) : Nat → Rect
  | 0 => (xs.getD 0 default).rect
  | k + 1 => un (boxTo xs k) (xs.getD (k + 1) default).rect
theorem boxTo_zero (xs : List Entry) : boxTo xs 0 = (xs.getD 0 default).rect := rfl
theorem boxTo_succ (xs : List Entry) (k : Nat) : boxTo xs (k + 1) = un (boxTo xs k) (xs.getD (k + 1) default).rect := rfl
def bx (xs : List Entry) : Rect := boxTo xs (xs.length - 1)
theorem un_size {a b : Rect} : (un a b).low.length = a.low.length ∧ (un a b).high.length = a.low.length := by simp [un]
theorem boxTo_size {xs : List Entry} {n : Nat} (h : Even xs n) : ∀ k, k < xs.length → (boxTo xs k).low.length = n ∧ (boxTo xs k).high.length = n
  | 0, hk => even_get h hk
  | k + 1, hk => by
    have := boxTo_size h k (by omega)
    rw [boxTo_succ]
    exact ⟨by rw [un_size.1]; exact this.1, by rw [un_size.2]; exact this.1⟩
theorem boxTo_lens {xs : List Entry} {n k : Nat} (h : Even xs n) (hk : k + 1 < xs.length) : Lens (boxTo xs k) (xs.getD (k + 1) default).rect := by
  have h1 := boxTo_size h k (by omega)
  have h2 := even_get h hk
  exact ⟨by omega, by omega, by omega⟩
theorem bx_size {xs : List Entry} {n : Nat} (h : Even xs n) (h0 : 0 < xs.length) : (bx xs).low.length = n ∧ (bx xs).high.length = n := boxTo_size h _ (by omega)
theorem nf_rf {n : Node} {d : Int} (h : nf n d = 0) : ∀ x ∈ n.entries, rf x.rect d = 0 := by
  unfold nf at h
  (repeat' split at h) <;> try omega
  all_goals first
    | (rename_i h1 h2 h3; exact fun x hx => ef_rf (firstF_zero (by simpa using ‹¬firstF (entryF d) n.entries ≠ 0›) x hx))
    | skip
theorem rf_even {xs : List Entry} {d : Int} (h : ∀ x ∈ xs, rf x.rect d = 0) : Even xs d.toNat := fun x hx => by
  have := rf_len (h x hx); omega
theorem rf_two {r : Rect} {d : Int} (h : rf r d = 0) : 2 ≤ d ∧ d ≤ 3 := by
  have h1 := rf_len h
  have h2 : pf r.low d = 0 := by unfold rf at h; split at h <;> simp_all
  have := pf_three h2
  unfold pf at h2; split at h2 <;> simp_all [inB]
def waste (xs : List Entry) (i j : Nat) : Int := IntKind.i64.wrap (growth (xs.getD i default).rect (xs.getD j default).rect - area (xs.getD j default).rect)
structure Sd where
  x : Int
  y : Int
  most : Int
def sdStep (xs : List Entry) (i j : Nat) (s : Sd) : Sd := if s.most < waste xs i j then ⟨i, j, waste xs i j⟩ else s
def sdIn (xs : List Entry) (i : Nat) (s : Sd) : Nat → Sd
  | 0 => s
  | m + 1 => sdStep xs i (i + 1 + m) (sdIn xs i s m)
def sdOut (xs : List Entry) : Nat → Sd
  | 0 => ⟨0, 1, waste xs 0 1⟩
  | i + 1 => sdIn xs i (sdOut xs i) (xs.length - 1 - i)
def sd (xs : List Entry) : Sd := sdOut xs xs.length
/-- The same as the program sees it: none at the start. -/
def sdI (xs : List Entry) (i m : Nat) : Sd := if i = 0 ∧ m = 0 then ⟨-1, -1, 0⟩ else sdIn xs i (sdOut xs i) m
theorem sdStep_yes {xs : List Entry} {i j : Nat} {s : Sd} (h : s.most < waste xs i j) : sdStep xs i j s = ⟨i, j, waste xs i j⟩ := if_pos h
theorem sdStep_no {xs : List Entry} {i j : Nat} {s : Sd} (h : ¬ s.most < waste xs i j) : sdStep xs i j s = s := if_neg h
/-- The seeds lie in the list, one ahead of the other. -/
def SdOk (n : Nat) (s : Sd) : Prop := ∃ x y : Nat, s.x = x ∧ s.y = y ∧ x < y ∧ y < n
theorem sdStep_ok {xs : List Entry} {i j : Nat} {s : Sd} (h : SdOk xs.length s) (h1 : i < j) (h2 : j < xs.length) : SdOk xs.length (sdStep xs i j s) := by
  unfold sdStep; split
  · exact ⟨i, j, rfl, rfl, h1, h2⟩
  · exact h
theorem sdIn_ok {xs : List Entry} {i : Nat} {s : Sd} (h : SdOk xs.length s) : ∀ m, i + m < xs.length → SdOk xs.length (sdIn xs i s m)
  | 0, _ => h
  | m + 1, hm => sdStep_ok (sdIn_ok h m (by omega)) (by omega) (by omega)
theorem sdOut_ok {xs : List Entry} (h : 2 ≤ xs.length) : ∀ i, i ≤ xs.length → SdOk xs.length (sdOut xs i)
  | 0, _ => ⟨0, 1, rfl, rfl, by omega, by omega⟩
  | i + 1, hi => sdIn_ok (sdOut_ok h i (by omega)) _ (by omega)
theorem sd_ok {xs : List Entry} (h : 2 ≤ xs.length) : SdOk xs.length (sd xs) := sdOut_ok h _ (Nat.le_refl _)
theorem sdI_first {xs : List Entry} : sdI xs 0 0 = ⟨-1, -1, 0⟩ := rfl
theorem sdI_later {xs : List Entry} {i m : Nat} (h : ¬ (i = 0 ∧ m = 0)) : sdI xs i m = sdIn xs i (sdOut xs i) m := if_neg h
theorem sdI_neg {xs : List Entry} {i m : Nat} (h2 : 2 ≤ xs.length) (hi : i + m < xs.length) : (sdI xs i m).x < 0 ↔ i = 0 ∧ m = 0 := by
  by_cases h : i = 0 ∧ m = 0
  · obtain ⟨rfl, rfl⟩ := h; simp [sdI_first]
  · rw [sdI_later h]
    obtain ⟨x, y, e1, e2, e3, e4⟩ := sdIn_ok (i := i) (sdOut_ok h2 i (by omega)) m hi
    simp only [h, iff_false]; omega
theorem sdI_yes {xs : List Entry} {i m : Nat} (h2 : 2 ≤ xs.length) (hi : i + 1 + m < xs.length) (h : (sdI xs i m).x < 0 ∨ (sdI xs i m).most < waste xs i (i + 1 + m)) : sdI xs i (m + 1) = ⟨i, (i + 1 + m : Nat), waste xs i (i + 1 + m)⟩ := by
  by_cases h0 : i = 0 ∧ m = 0
  · obtain ⟨rfl, rfl⟩ := h0
    show sdStep xs 0 1 ⟨0, 1, waste xs 0 1⟩ = _
    rw [sdStep_no (by simp)]; rfl
  · have h1 : ¬ (sdI xs i m).x < 0 := fun h3 => h0 ((sdI_neg h2 (by omega)).mp h3)
    have h3 := h.resolve_left h1
    rw [sdI_later h0] at h3
    rw [sdI_later (by omega)]
    exact sdStep_yes h3
theorem sdI_no {xs : List Entry} {i m : Nat} (h2 : 2 ≤ xs.length) (hi : i + 1 + m < xs.length) (h : ¬ ((sdI xs i m).x < 0 ∨ (sdI xs i m).most < waste xs i (i + 1 + m))) : sdI xs i (m + 1) = sdI xs i m := by
  have h0 : ¬ (i = 0 ∧ m = 0) := fun h3 => h (.inl ((sdI_neg h2 (by omega)).mpr h3))
  rw [sdI_later h0] at h ⊢
  rw [sdI_later (by omega)]
  exact sdStep_no (fun h3 => h (.inr h3))
theorem sdI_next {xs : List Entry} {i : Nat} (h2 : 2 ≤ xs.length) (hi : i < xs.length) : sdI xs (i + 1) 0 = sdI xs i (xs.length - 1 - i) := by
  rw [sdI_later (by omega), sdI_later (by omega)]; rfl
theorem sdI_last {xs : List Entry} (h2 : 2 ≤ xs.length) : sdI xs xs.length 0 = sd xs := by
  rw [sdI_later (by omega)]; rfl
def weC (n : Node) (d : Int) (e : Entry) : Int := if nf n d ≠ 0 then nf n d else if entryF d e ≠ 0 then entryF d e else if fits n.level e = false then 1 else if 0 ≤ findRef n.entries e.ref then 6 else if (4 : Int) < n.entries.length then 7 else 0
def weV (n : Node) (d : Int) (e : Entry) : Node := if weC n d e = 0 then ⟨n.level, n.nsn, n.right, n.entries ++ [e]⟩ else ⟨0, 0, 0, []⟩
def wdC (n : Node) (d r : Int) (b : Rect) : Int := if nf n d ≠ 0 then nf n d else if rf b d ≠ 0 then rf b d else if findRef n.entries r < 0 then 4 else 0
def wider (e : Entry) (b : Rect) : Entry := ⟨un e.rect b, e.ref, e.nsn⟩
def wdV (n : Node) (d r : Int) (b : Rect) : Node := if wdC n d r b = 0 then ⟨n.level, n.nsn, n.right, n.entries.set (findRef n.entries r).toNat (wider (n.entries.getD (findRef n.entries r).toNat default) b)⟩ else ⟨0, 0, 0, []⟩
theorem nf_inB {n : Node} {d : Int} (h : nf n d = 0) : inB d 2 3 = true ∧ n.entries.length ≤ 5 := by
  unfold nf at h
  (repeat' split at h) <;> simp_all <;> omega
theorem nf_small {n : Node} {d : Int} (h : nf n d = 0) : d.toNat ≤ 1048576 := by
  have := (nf_inB h).1
  simp [inB] at this; omega
theorem esf_small {xs : List Entry} {d : Int} (h : esf xs d = 0) : d.toNat ≤ 1048576 := by
  unfold esf at h
  (repeat' split at h) <;> simp_all [inB] <;> omega
theorem even_w {xs : List Entry} {d : Int} (h : ∀ x ∈ xs, rf x.rect d = 0) : wEntryS xs ≤ 7 * xs.length := by
  unfold wEntryS
  have : ∀ ys : List Entry, (∀ x ∈ ys, rf x.rect d = 0) → sumW wEntry ys ≤ 6 * ys.length := by
    intro ys
    induction ys with
    | nil => intro _; exact Nat.zero_le _
    | cons y ys ih =>
      intro hy
      have e2 : sumW wEntry (y :: ys) = wEntry y + sumW wEntry ys := rfl
      have h1 := hy y (by simp)
      have h2 := rf_len h1
      have h3 := rf_two h1
      have h4 := ih fun x hx => hy x (by simp [hx])
      have e3 : wEntry y = y.rect.low.length + y.rect.high.length := rfl
      rw [e2, List.length_cons, e3]; omega
  have := this xs h
  omega
theorem nf_w {n : Node} {d : Int} (h : nf n d = 0) : wEntryS n.entries ≤ 35 := by
  have h1 := even_w (nf_rf h)
  have h2 := (nf_inB h).2
  omega
theorem findRef_get {xs : List Entry} {r : Int} (h : 0 ≤ findRef xs r) : ∃ i : Nat, findRef xs r = i ∧ i < xs.length ∧ (xs.getD i default).ref = r := by
  unfold findRef at h ⊢
  split at h
  · rename_i ha
    rw [if_pos ha]
    have hi : xs.findIdx (fun e => decide (e.ref = r)) < xs.length := by
      rw [List.findIdx_lt_length]; simpa using ha
    refine ⟨_, rfl, hi, ?_⟩
    rw [getD_lt hi]
    have := List.findIdx_getElem (w := hi)
    simpa using this
  · omega
theorem s_l3Box (xs : List Entry) (n : Nat) (h : Even xs n) (h0 : 0 < xs.length) (hn : n ≤ 1048576) : Sat Tryz.prog 81 [aEntryS xs] true (rR (bx xs)) := by
  refine sat_walk (fn := Tryz.f81) rfl rfl rfl (Nat.le_of_ble_eq_true rfl) fun fr hP hN hbnd => ?_
  have hE : (envOf fr Tryz.prog).Ok := envOf_ok hP
  have hM := follows_of hP
  have hS : ∀ {draw ops}, statB Tryz.f81.ntmps draw ops = true → statB (envOf fr Tryz.prog).fr.N draw ops = true := fun h => by rw [envOf_fr, hN]; exact h
  have hlen := bnd_EntryS hbnd
  have g0 := even_get h h0
  repeat' (first
    | exact True.intro
    | refine ev_seq ?_
    | ((first | refine vgd_go ?_ | refine ev_region hE hM (hS (by decide +kernel)) ?_ | refine ev_if ?_ | refine end_ret hE rfl rfl ?_ | refine end_norm hE rfl rfl ?_ | refine endG_ret [] hE rfl ?_ | refine endG_norm [] hE rfl ?_ | refine vcallB_of hP (s_l1Copy (xs.getD 0 default).rect (by omega) (by omega)) ?_ | refine vcall_A ?_); simp (maxSteps := 2000000) only [go_sem, hP, ↓reduceIte, Nat.reduceAdd, Nat.reduceMul, Nat.reduceEqDiff, Nat.reduceSub, Nat.reduceLeDiff, reduceCtorEq])
    | refine ev_skip ?_ | refine ev_block ?_ | refine ev_blk ?_ | refine ev_ret ?_ | refine ev_exit ?_ | refine evx_code_ret ?_ | refine evx_blk_ret ?_ | refine evx_lp_ret ?_
    | refine evx_code_exit ?_ | refine evx_lp_exit ?_ | refine evx_blk_hit ?_ | refine evx_blk_pass (by decide) ?_
    | refine And.intro ?_ ?_ | intro _ | decide +kernel | omega)
  all_goals first | (exfalso; omega) | skip
  refine ev_loop (ι := Nat) (fun k => [(0, .c (sEntryS xs)), (2, .ptr 0 0), (3, .ptr 4128 0), (4, iT (k + 1))]) (fun k => [(0, .box [.nilS, .nilS]), (4128, .box [.ref 100000, .ref 100001]), (100000, .arr true 2 1 ((boxTo xs k).low.map eI)), (100001, .arr true 2 1 ((boxTo xs k).high.map eI))]) (fun _ => []) (fun k => k + 1 ≤ xs.length) (fun k => xs.length - k) 0 [(100000, some 4120), (100001, some 1052696)] (by omega) (by simp only [go_sem, hP, ↓reduceIte, Nat.reduceAdd, Nat.reduceMul, Nat.reduceEqDiff, Nat.reduceSub, Nat.reduceLeDiff, reduceCtorEq]; simp [boxTo_zero]) ?_
  intro k hk
  by_cases hlt : k + 1 < xs.length
  · have hw : IntKind.i64.wrap ((k : Int) + 1 + 1) = k + 1 + 1 := i64_in _ (by have : maxLen = 9223372036854775807 := rfl; omega)
    have hs := boxTo_size h k (by omega)
    have hk1 : Int.toNat ((k : Int) + 1) = k + 1 := by omega
    repeat' (first
      | exact True.intro
      | refine ev_seq ?_
      | ((first | refine vgd_go ?_ | refine ev_region hE hM (hS (by decide +kernel)) ?_ | refine ev_if ?_ | refine end_ret hE rfl rfl ?_ | refine end_norm hE rfl rfl ?_ | refine endG_ret [] hE rfl ?_ | refine endG_norm [] hE rfl ?_ | refine vcallB_of hP (s_l1Union (boxTo xs k) (xs.getD (k + 1) default).rect (boxTo_lens h hlt) (by omega)) ?_ | refine vcall_A ?_); simp (maxSteps := 2000000) only [go_sem, hP, ↓reduceIte, Nat.reduceAdd, Nat.reduceMul, Nat.reduceEqDiff, Nat.reduceSub, Nat.reduceLeDiff, reduceCtorEq, hk1])
      | refine ev_skip ?_ | refine ev_block ?_ | refine ev_blk ?_ | refine ev_ret ?_ | refine ev_exit ?_ | refine evx_code_ret ?_ | refine evx_blk_ret ?_ | refine evx_lp_ret ?_
      | refine evx_code_exit ?_ | refine evx_lp_exit ?_ | refine evx_blk_hit ?_ | refine evx_blk_pass (by decide) ?_
      | refine And.intro ?_ ?_ | intro _ | decide +kernel | omega)
    all_goals first
      | exact ev_lp (k + 1) [(100000, some 20512), (100001, some 1069088)] (by omega) (by omega) (by simp only [go_sem, hP, ↓reduceIte, Nat.reduceAdd, Nat.reduceMul, Nat.reduceEqDiff, Nat.reduceSub, Nat.reduceLeDiff, reduceCtorEq]; simp [hw, boxTo_succ])
      | (exfalso; omega)
      | (simp_all; done)
  · repeat' (first
      | exact True.intro
      | refine ev_seq ?_
      | ((first | refine vgd_go ?_ | refine ev_region hE hM (hS (by decide +kernel)) ?_ | refine ev_if ?_ | refine end_ret hE rfl rfl ?_ | refine end_norm hE rfl rfl ?_ | refine endG_ret [] hE rfl ?_ | refine endG_norm [] hE rfl ?_ | refine vcall_A ?_); simp (maxSteps := 2000000) only [go_sem, hP, ↓reduceIte, Nat.reduceAdd, Nat.reduceMul, Nat.reduceEqDiff, Nat.reduceSub, Nat.reduceLeDiff, reduceCtorEq])
      | refine ev_skip ?_ | refine ev_block ?_ | refine ev_blk ?_ | refine ev_ret ?_ | refine ev_exit ?_ | refine evx_code_ret ?_ | refine evx_blk_ret ?_ | refine evx_lp_ret ?_
      | refine evx_code_exit ?_ | refine evx_lp_exit ?_ | refine evx_blk_hit ?_ | refine evx_blk_pass (by decide) ?_
      | refine And.intro ?_ ?_ | intro _ | decide +kernel | omega)
    all_goals first
      | (exfalso; omega)
      | (have e : xs.length - 1 = k := by omega
         simp [bx, e]; done)
      | (simp_all; done)
theorem s_box (xs : List Entry) (n : Nat) (h : Even xs n) (h0 : 0 < xs.length) (hn : n ≤ 1048576) : Sat Tryz.prog 46 [aEntryS xs] true (rR (bx xs)) := by
  refine sat_walk (fn := Tryz.f46) rfl rfl rfl (Nat.le_of_ble_eq_true rfl) fun fr hP hN hbnd => ?_
  have hE : (envOf fr Tryz.prog).Ok := envOf_ok hP
  have hM := follows_of hP
  have hS : ∀ {draw ops}, statB Tryz.f46.ntmps draw ops = true → statB (envOf fr Tryz.prog).fr.N draw ops = true := fun h => by rw [envOf_fr, hN]; exact h
  have hlen := bnd_EntryS hbnd
  have hm : maxLen = 9223372036854775807 := rfl
  have g0 := even_get h h0
  have hdr : List.take (xs.length - Int.toNat 1) (List.drop (Int.toNat 1) (List.map eEntry xs)) = (xs.drop 1).map eEntry := by rw [show Int.toNat 1 = 1 from rfl, ← List.map_drop, List.take_of_length_le (by simp)]
  repeat' (first
    | exact True.intro
    | refine ev_seq ?_
    | ((first | refine vgd_go ?_ | refine ev_region hE hM (hS (by decide +kernel)) ?_ | refine ev_if ?_ | refine end_ret hE rfl rfl ?_ | refine end_norm hE rfl rfl ?_ | refine endG_ret [] hE rfl ?_ | refine endG_norm [] hE rfl ?_ | refine vcallB_of hP (s_cloned (xs.getD 0 default).rect (by omega) (by omega)) ?_ | refine vcall_A ?_); simp (maxSteps := 2000000) only [go_sem, hP, ↓reduceIte, Nat.reduceAdd, Nat.reduceMul, Nat.reduceEqDiff, Nat.reduceSub, Nat.reduceLeDiff, reduceCtorEq, hdr])
    | refine ev_skip ?_ | refine ev_block ?_ | refine ev_blk ?_ | refine ev_ret ?_ | refine ev_exit ?_ | refine evx_code_ret ?_ | refine evx_blk_ret ?_ | refine evx_lp_ret ?_
    | refine evx_code_exit ?_ | refine evx_lp_exit ?_ | refine evx_blk_hit ?_ | refine evx_blk_pass (by decide) ?_
    | refine And.intro ?_ ?_ | intro _ | decide +kernel | omega)
  all_goals first | (exfalso; omega) | skip
  refine ev_loop (ι := Nat) (fun k => [(2, .ptr 0 0), (3, .ptr 4136 0), (12, .c (sEntryS (xs.drop 1))), (13, iT (xs.length - 1 : Nat)), (14, iT k)]) (fun k => [(0, .box [.nilS, .nilS]), (4136, .box [.ref 100000, .ref 100001]), (100000, .arr true 2 1 ((boxTo xs k).low.map eI)), (100001, .arr true 2 1 ((boxTo xs k).high.map eI))]) (fun _ => []) (fun k => k + 1 ≤ xs.length) (fun k => xs.length - k) 0 [(100000, some 4128), (100001, some 1052704)] (by omega) (by simp only [go_sem, hP, ↓reduceIte, Nat.reduceAdd, Nat.reduceMul, Nat.reduceEqDiff, Nat.reduceSub, Nat.reduceLeDiff, reduceCtorEq]; simp [boxTo_zero]) ?_
  intro k hk
  by_cases hlt : k + 1 < xs.length
  · have hw : IntKind.i64.wrap ((k : Int) + 1) = k + 1 := i64_in _ (by omega)
    have hs := boxTo_size h k (by omega)
    have hg : (xs.drop 1).getD k default = xs.getD (k + 1) default := by simp [List.getD_eq_getElem?_getD, Nat.add_comm]
    repeat' (first
      | exact True.intro
      | refine ev_seq ?_
      | ((first | refine vgd_go ?_ | refine ev_region hE hM (hS (by decide +kernel)) ?_ | refine ev_if ?_ | refine end_ret hE rfl rfl ?_ | refine end_norm hE rfl rfl ?_ | refine endG_ret [] hE rfl ?_ | refine endG_norm [] hE rfl ?_ | refine vcallB_of hP (s_union (boxTo xs k) (xs.getD (k + 1) default).rect (boxTo_lens h hlt) (by omega)) ?_ | refine vcall_A ?_); simp (maxSteps := 2000000) only [go_sem, hP, ↓reduceIte, Nat.reduceAdd, Nat.reduceMul, Nat.reduceEqDiff, Nat.reduceSub, Nat.reduceLeDiff, reduceCtorEq, hg])
      | refine ev_skip ?_ | refine ev_block ?_ | refine ev_blk ?_ | refine ev_ret ?_ | refine ev_exit ?_ | refine evx_code_ret ?_ | refine evx_blk_ret ?_ | refine evx_lp_ret ?_
      | refine evx_code_exit ?_ | refine evx_lp_exit ?_ | refine evx_blk_hit ?_ | refine evx_blk_pass (by decide) ?_
      | refine And.intro ?_ ?_ | intro _ | decide +kernel | omega)
    all_goals first
      | exact ev_lp (k + 1) [(100000, some 20504), (100001, some 1069080)] (by omega) (by omega) (by simp only [go_sem, hP, ↓reduceIte, Nat.reduceAdd, Nat.reduceMul, Nat.reduceEqDiff, Nat.reduceSub, Nat.reduceLeDiff, reduceCtorEq]; simp [hw, boxTo_succ])
      | (exfalso; simp_all; omega)
      | (simp_all; done)
  · repeat' (first
      | exact True.intro
      | refine ev_seq ?_
      | ((first | refine vgd_go ?_ | refine ev_region hE hM (hS (by decide +kernel)) ?_ | refine ev_if ?_ | refine end_ret hE rfl rfl ?_ | refine end_norm hE rfl rfl ?_ | refine endG_ret [] hE rfl ?_ | refine endG_norm [] hE rfl ?_ | refine vcall_A ?_); simp (maxSteps := 2000000) only [go_sem, hP, ↓reduceIte, Nat.reduceAdd, Nat.reduceMul, Nat.reduceEqDiff, Nat.reduceSub, Nat.reduceLeDiff, reduceCtorEq])
      | refine ev_skip ?_ | refine ev_block ?_ | refine ev_blk ?_ | refine ev_ret ?_ | refine ev_exit ?_ | refine evx_code_ret ?_ | refine evx_blk_ret ?_ | refine evx_lp_ret ?_
      | refine evx_code_exit ?_ | refine evx_lp_exit ?_ | refine evx_blk_hit ?_ | refine evx_blk_pass (by decide) ?_
      | refine And.intro ?_ ?_ | intro _ | decide +kernel | omega)
    all_goals first
      | (exfalso; omega)
      | (have e : xs.length - 1 = k := by omega
         simp [bx, e]; done)
      | (simp_all; done)
theorem s_l5Seeds (xs : List Entry) (n : Nat) (h : Even xs n) (h2 : 2 ≤ xs.length) (hn : n ≤ 1048576) : Sat Tryz.prog 54 [aEntryS xs] true [(false, [.int .i64 (sd xs).x]), (false, [.int .i64 (sd xs).y])] := by
  refine sat_walk (fn := Tryz.f54) rfl rfl rfl (Nat.le_of_ble_eq_true rfl) fun fr hP hN hbnd => ?_
  have hE : (envOf fr Tryz.prog).Ok := envOf_ok hP
  have hM := follows_of hP
  have hS : ∀ {draw ops}, statB Tryz.f54.ntmps draw ops = true → statB (envOf fr Tryz.prog).fr.N draw ops = true := fun h => by rw [envOf_fr, hN]; exact h
  have hlen := bnd_EntryS hbnd
  have hm : maxLen = 9223372036854775807 := rfl
  have hl : ∀ i j, i < xs.length → j < xs.length → Lens (xs.getD i default).rect (xs.getD j default).rect := fun i j hi hj => by
    have a := even_get h hi; have b := even_get h hj; exact ⟨by omega, by omega, by omega⟩
  have hz : ∀ i, i < xs.length → (xs.getD i default).rect.low.length ≤ 1048576 := fun i hi => by have a := even_get h hi; omega
  repeat' (first
    | exact True.intro
    | refine ev_seq ?_
    | ((first | refine vgd_go ?_ | refine ev_region hE hM (hS (by decide +kernel)) ?_ | refine ev_if ?_ | refine end_ret hE rfl rfl ?_ | refine end_norm hE rfl rfl ?_ | refine endG_ret [] hE rfl ?_ | refine endG_norm [] hE rfl ?_ | refine vcallB_of hP (s_l1Growth (xs.getD 0 default).rect (xs.getD 1 default).rect (hl 0 1 (by omega) (by omega)) (hz 0 (by omega))) ?_ | refine vcallB_of hP (s_l1Area (xs.getD 1 default).rect (hl 1 1 (by omega) (by omega)).h1) ?_ | refine vcall_A ?_); simp (maxSteps := 2000000) only [go_sem, hP, ↓reduceIte, Nat.reduceAdd, Nat.reduceMul, Nat.reduceEqDiff, Nat.reduceSub, Nat.reduceLeDiff, reduceCtorEq])
    | refine ev_skip ?_ | refine ev_block ?_ | refine ev_blk ?_ | refine ev_ret ?_ | refine ev_exit ?_ | refine evx_code_ret ?_ | refine evx_blk_ret ?_ | refine evx_lp_ret ?_
    | refine evx_code_exit ?_ | refine evx_lp_exit ?_ | refine evx_blk_hit ?_ | refine evx_blk_pass (by decide) ?_
    | refine And.intro ?_ ?_ | intro _ | decide +kernel | omega)
  all_goals first | (exfalso; omega) | skip
  refine ev_loop (ι := Nat) (fun i => [(0, .c (sEntryS xs)), (4, iT (sdOut xs i).x), (5, iT (sdOut xs i).y), (6, iT (sdOut xs i).most), (7, iT i)]) (fun _ => []) (fun _ => []) (fun i => i ≤ xs.length) (fun i => xs.length - i) 0 [] (by omega) (by simp only [go_sem, hP, ↓reduceIte, Nat.reduceAdd, Nat.reduceMul, Nat.reduceEqDiff, Nat.reduceSub, Nat.reduceLeDiff, reduceCtorEq]; simp [sdOut, waste]) ?_
  intro i hi
  repeat' (first
    | exact True.intro
    | refine ev_seq ?_
    | ((first | refine vgd_go ?_ | refine ev_region hE hM (hS (by decide +kernel)) ?_ | refine ev_if ?_ | refine end_ret hE rfl rfl ?_ | refine end_norm hE rfl rfl ?_ | refine endG_ret [] hE rfl ?_ | refine endG_norm [] hE rfl ?_ | refine vcall_A ?_); simp (maxSteps := 2000000) only [go_sem, hP, ↓reduceIte, Nat.reduceAdd, Nat.reduceMul, Nat.reduceEqDiff, Nat.reduceSub, Nat.reduceLeDiff, reduceCtorEq])
    | refine ev_skip ?_ | refine ev_block ?_ | refine ev_blk ?_ | refine ev_ret ?_ | refine ev_exit ?_ | refine evx_code_ret ?_ | refine evx_blk_ret ?_ | refine evx_lp_ret ?_
    | refine evx_code_exit ?_ | refine evx_lp_exit ?_ | refine evx_blk_hit ?_ | refine evx_blk_pass (by decide) ?_
    | refine And.intro ?_ ?_ | intro _ | decide +kernel | omega)
  · rename_i hlt
    have hlt : i < xs.length := by omega
    have hw1 : IntKind.i64.wrap ((i : Int) + 1) = i + 1 := i64_in _ (by omega)
    refine ev_loop (ι := Nat) (fun m => [(0, .c (sEntryS xs)), (4, iT (sdIn xs i (sdOut xs i) m).x), (5, iT (sdIn xs i (sdOut xs i) m).y), (6, iT (sdIn xs i (sdOut xs i) m).most), (7, iT i), (8, iT (i + 1 + m : Nat))]) (fun _ => []) (fun _ => []) (fun m => i + 1 + m ≤ xs.length) (fun m => xs.length - m) 0 [] (by omega) (by simp only [go_sem, hP, ↓reduceIte, Nat.reduceAdd, Nat.reduceMul, Nat.reduceEqDiff, Nat.reduceSub, Nat.reduceLeDiff, reduceCtorEq]; simp [sdIn, hw1]) ?_
    intro m hm2
    have hw2 : i + 1 + m < xs.length → IntKind.i64.wrap ((i + 1 + m : Nat) + 1) = (i + 1 + (m + 1) : Nat) := fun h => by rw [i64_in _ (by omega)]; omega
    by_cases hj : i + 1 + m < xs.length
    · repeat' (first
        | exact True.intro
        | refine ev_seq ?_
        | ((first | refine vgd_go ?_ | refine ev_region hE hM (hS (by decide +kernel)) ?_ | refine ev_if ?_ | refine end_ret hE rfl rfl ?_ | refine end_norm hE rfl rfl ?_ | refine endG_ret [] hE rfl ?_ | refine endG_norm [] hE rfl ?_ | refine vcallB_of hP (s_l1Growth (xs.getD i default).rect (xs.getD (i + 1 + m) default).rect (hl _ _ hlt hj) (hz _ hlt)) ?_ | refine vcallB_of hP (s_l1Area (xs.getD (i + 1 + m) default).rect (hl _ _ hj hj).h1) ?_ | refine vcall_A ?_); simp (maxSteps := 2000000) only [go_sem, hP, ↓reduceIte, Nat.reduceAdd, Nat.reduceMul, Nat.reduceEqDiff, Nat.reduceSub, Nat.reduceLeDiff, reduceCtorEq])
        | refine ev_skip ?_ | refine ev_block ?_ | refine ev_blk ?_ | refine ev_ret ?_ | refine ev_exit ?_ | refine evx_code_ret ?_ | refine evx_blk_ret ?_ | refine evx_lp_ret ?_
        | refine evx_code_exit ?_ | refine evx_lp_exit ?_ | refine evx_blk_hit ?_ | refine evx_blk_pass (by decide) ?_
        | refine And.intro ?_ ?_ | intro _ | decide +kernel | omega)
      all_goals first
        | (have hs := sdStep_yes (xs := xs) (i := i) (j := i + 1 + m) (s := sdIn xs i (sdOut xs i) m) (by assumption)
           exact ev_lp (m + 1) [] (by omega) (by omega) (by simp only [go_sem, hP, ↓reduceIte, Nat.reduceAdd, Nat.reduceMul, Nat.reduceEqDiff, Nat.reduceSub, Nat.reduceLeDiff, reduceCtorEq]; simp [sdIn, hs, waste]; simpa using hw2 hj))
        | (have hs := sdStep_no (xs := xs) (i := i) (j := i + 1 + m) (s := sdIn xs i (sdOut xs i) m) (by assumption)
           exact ev_lp (m + 1) [] (by omega) (by omega) (by simp only [go_sem, hP, ↓reduceIte, Nat.reduceAdd, Nat.reduceMul, Nat.reduceEqDiff, Nat.reduceSub, Nat.reduceLeDiff, reduceCtorEq]; simp [sdIn, hs]; simpa using hw2 hj))
        | (exfalso; omega)
    · have e : m = xs.length - 1 - i := by omega
      repeat' (first
        | exact True.intro
        | refine ev_seq ?_
        | ((first | refine vgd_go ?_ | refine ev_region hE hM (hS (by decide +kernel)) ?_ | refine ev_if ?_ | refine end_ret hE rfl rfl ?_ | refine end_norm hE rfl rfl ?_ | refine endG_ret [] hE rfl ?_ | refine endG_norm [] hE rfl ?_ | refine vcall_A ?_); simp (maxSteps := 2000000) only [go_sem, hP, ↓reduceIte, Nat.reduceAdd, Nat.reduceMul, Nat.reduceEqDiff, Nat.reduceSub, Nat.reduceLeDiff, reduceCtorEq])
        | refine ev_skip ?_ | refine ev_block ?_ | refine ev_blk ?_ | refine ev_ret ?_ | refine ev_exit ?_ | refine evx_code_ret ?_ | refine evx_blk_ret ?_ | refine evx_lp_ret ?_
        | refine evx_code_exit ?_ | refine evx_lp_exit ?_ | refine evx_blk_hit ?_ | refine evx_blk_pass (by decide) ?_
        | refine And.intro ?_ ?_ | intro _ | decide +kernel | omega)
      all_goals first
        | (exfalso; omega)
        | (subst e; exact ev_lp (i + 1) [] (by omega) (by omega) (by simp only [go_sem, hP, ↓reduceIte, Nat.reduceAdd, Nat.reduceMul, Nat.reduceEqDiff, Nat.reduceSub, Nat.reduceLeDiff, reduceCtorEq]; simp [sdOut]; exact hw1))
  all_goals (obtain rfl : i = xs.length := (by omega); rfl)
theorem s_seeds (xs : List Entry) (n : Nat) (h : Even xs n) (h2 : 2 ≤ xs.length) (hn : n ≤ 1048576) : Sat Tryz.prog 38 [aEntryS xs] true [(false, [.int .i64 (sd xs).x]), (false, [.int .i64 (sd xs).y])] := by
  refine sat_walk (fn := Tryz.f38) rfl rfl rfl (Nat.le_of_ble_eq_true rfl) fun fr hP hN hbnd => ?_
  have hE : (envOf fr Tryz.prog).Ok := envOf_ok hP
  have hM := follows_of hP
  have hS : ∀ {draw ops}, statB Tryz.f38.ntmps draw ops = true → statB (envOf fr Tryz.prog).fr.N draw ops = true := fun h => by rw [envOf_fr, hN]; exact h
  have hlen := bnd_EntryS hbnd
  have hm : maxLen = 9223372036854775807 := rfl
  have hl : ∀ i j, i < xs.length → j < xs.length → Lens (xs.getD i default).rect (xs.getD j default).rect := fun i j hi hj => by
    have a := even_get h hi; have b := even_get h hj; exact ⟨by omega, by omega, by omega⟩
  have hz : ∀ i, i < xs.length → (xs.getD i default).rect.low.length ≤ 1048576 := fun i hi => by have a := even_get h hi; omega
  repeat' (first
    | exact True.intro
    | refine ev_seq ?_
    | ((first | refine vgd_go ?_ | refine ev_region hE hM (hS (by decide +kernel)) ?_ | refine ev_if ?_ | refine end_ret hE rfl rfl ?_ | refine end_norm hE rfl rfl ?_ | refine endG_ret [] hE rfl ?_ | refine endG_norm [] hE rfl ?_ | refine vcall_A ?_); simp (maxSteps := 2000000) only [go_sem, hP, ↓reduceIte, Nat.reduceAdd, Nat.reduceMul, Nat.reduceEqDiff, Nat.reduceSub, Nat.reduceLeDiff, reduceCtorEq])
    | refine ev_skip ?_ | refine ev_block ?_ | refine ev_blk ?_ | refine ev_ret ?_ | refine ev_exit ?_ | refine evx_code_ret ?_ | refine evx_blk_ret ?_ | refine evx_lp_ret ?_
    | refine evx_code_exit ?_ | refine evx_lp_exit ?_ | refine evx_blk_hit ?_ | refine evx_blk_pass (by decide) ?_
    | refine And.intro ?_ ?_ | intro _ | decide +kernel | omega)
  refine ev_loop (ι := Nat) (fun i => [(0, .c (sEntryS xs)), (4, iT (sdI xs i 0).x), (5, iT (sdI xs i 0).y), (6, iT (sdI xs i 0).most), (11, iT xs.length), (12, iT i)]) (fun _ => []) (fun _ => []) (fun i => i ≤ xs.length) (fun i => xs.length - i) 0 [] (by omega) (by simp only [go_sem, hP, ↓reduceIte, Nat.reduceAdd, Nat.reduceMul, Nat.reduceEqDiff, Nat.reduceSub, Nat.reduceLeDiff, reduceCtorEq]; simp [sdI_first]) ?_
  intro i hi
  repeat' (first
    | exact True.intro
    | refine ev_seq ?_
    | ((first | refine vgd_go ?_ | refine ev_region hE hM (hS (by decide +kernel)) ?_ | refine ev_if ?_ | refine end_ret hE rfl rfl ?_ | refine end_norm hE rfl rfl ?_ | refine endG_ret [] hE rfl ?_ | refine endG_norm [] hE rfl ?_ | refine vcall_A ?_); simp (maxSteps := 2000000) only [go_sem, hP, ↓reduceIte, Nat.reduceAdd, Nat.reduceMul, Nat.reduceEqDiff, Nat.reduceSub, Nat.reduceLeDiff, reduceCtorEq])
    | refine ev_skip ?_ | refine ev_block ?_ | refine ev_blk ?_ | refine ev_ret ?_ | refine ev_exit ?_ | refine evx_code_ret ?_ | refine evx_blk_ret ?_ | refine evx_lp_ret ?_
    | refine evx_code_exit ?_ | refine evx_lp_exit ?_ | refine evx_blk_hit ?_ | refine evx_blk_pass (by decide) ?_
    | refine And.intro ?_ ?_ | intro _ | decide +kernel | omega)
  · rename_i hlt
    have hlt : i < xs.length := by omega
    have hw1 : IntKind.i64.wrap ((i : Int) + 1) = i + 1 := i64_in _ (by omega)
    refine ev_loop (ι := Nat) (fun m => [(0, .c (sEntryS xs)), (4, iT (sdI xs i m).x), (5, iT (sdI xs i m).y), (6, iT (sdI xs i m).most), (7, iT i), (8, iT (i + 1 + m : Nat)), (11, iT xs.length), (12, iT i)]) (fun _ => []) (fun _ => []) (fun m => i + 1 + m ≤ xs.length) (fun m => xs.length - m) 0 [] (by omega) (by simp only [go_sem, hP, ↓reduceIte, Nat.reduceAdd, Nat.reduceMul, Nat.reduceEqDiff, Nat.reduceSub, Nat.reduceLeDiff, reduceCtorEq]; simp [hw1]) ?_
    intro m hm2
    have hw2 : i + 1 + m < xs.length → IntKind.i64.wrap ((i + 1 + m : Nat) + 1) = (i + 1 + (m + 1) : Nat) := fun h => by rw [i64_in _ (by omega)]; omega
    by_cases hj : i + 1 + m < xs.length
    · repeat' (first
        | exact True.intro
        | refine ev_seq ?_
        | ((first | refine vgd_go ?_ | refine ev_region hE hM (hS (by decide +kernel)) ?_ | refine ev_if ?_ | refine end_ret hE rfl rfl ?_ | refine end_norm hE rfl rfl ?_ | refine endG_ret [] hE rfl ?_ | refine endG_norm [] hE rfl ?_ | refine vcallB_of hP (s_union (xs.getD i default).rect (xs.getD (i + 1 + m) default).rect (hl _ _ hlt hj) (hz _ hlt)) ?_ | refine vcallB_of hP (s_implarea (un (xs.getD i default).rect (xs.getD (i + 1 + m) default).rect) (un_len _ _)) ?_ | refine vcallB_of hP (s_implarea (xs.getD i default).rect (hl _ _ hlt hlt).h1) ?_ | refine vcallB_of hP (s_implarea (xs.getD (i + 1 + m) default).rect (hl _ _ hj hj).h1) ?_ | refine vcall_A ?_); simp (maxSteps := 2000000) only [go_sem, hP, ↓reduceIte, Nat.reduceAdd, Nat.reduceMul, Nat.reduceEqDiff, Nat.reduceSub, Nat.reduceLeDiff, reduceCtorEq])
        | refine ev_skip ?_ | refine ev_block ?_ | refine ev_blk ?_ | refine ev_ret ?_ | refine ev_exit ?_ | refine evx_code_ret ?_ | refine evx_blk_ret ?_ | refine evx_lp_ret ?_
        | refine evx_code_exit ?_ | refine evx_lp_exit ?_ | refine evx_blk_hit ?_ | refine evx_blk_pass (by decide) ?_
        | refine And.intro ?_ ?_ | intro _ | decide +kernel | omega)
      all_goals first
        | (have hs := sdI_yes (xs := xs) (i := i) (m := m) h2 hj (.inl (by assumption))
           exact ev_lp (m + 1) [] (by omega) (by omega) (by simp only [go_sem, hP, ↓reduceIte, Nat.reduceAdd, Nat.reduceMul, Nat.reduceEqDiff, Nat.reduceSub, Nat.reduceLeDiff, reduceCtorEq]; simp [hs, waste, growth]; simpa using hw2 hj))
        | (have hs := sdI_yes (xs := xs) (i := i) (m := m) h2 hj (.inr (by assumption))
           exact ev_lp (m + 1) [] (by omega) (by omega) (by simp only [go_sem, hP, ↓reduceIte, Nat.reduceAdd, Nat.reduceMul, Nat.reduceEqDiff, Nat.reduceSub, Nat.reduceLeDiff, reduceCtorEq]; simp [hs, waste, growth]; simpa using hw2 hj))
        | (have hs := sdI_no (xs := xs) (i := i) (m := m) h2 hj (fun h => h.elim (by assumption) (by assumption))
           exact ev_lp (m + 1) [] (by omega) (by omega) (by simp only [go_sem, hP, ↓reduceIte, Nat.reduceAdd, Nat.reduceMul, Nat.reduceEqDiff, Nat.reduceSub, Nat.reduceLeDiff, reduceCtorEq]; simp [hs]; simpa using hw2 hj))
        | (exfalso; omega)
    · have e : m = xs.length - 1 - i := by omega
      repeat' (first
        | exact True.intro
        | refine ev_seq ?_
        | ((first | refine vgd_go ?_ | refine ev_region hE hM (hS (by decide +kernel)) ?_ | refine ev_if ?_ | refine end_ret hE rfl rfl ?_ | refine end_norm hE rfl rfl ?_ | refine endG_ret [] hE rfl ?_ | refine endG_norm [] hE rfl ?_ | refine vcall_A ?_); simp (maxSteps := 2000000) only [go_sem, hP, ↓reduceIte, Nat.reduceAdd, Nat.reduceMul, Nat.reduceEqDiff, Nat.reduceSub, Nat.reduceLeDiff, reduceCtorEq])
        | refine ev_skip ?_ | refine ev_block ?_ | refine ev_blk ?_ | refine ev_ret ?_ | refine ev_exit ?_ | refine evx_code_ret ?_ | refine evx_blk_ret ?_ | refine evx_lp_ret ?_
        | refine evx_code_exit ?_ | refine evx_lp_exit ?_ | refine evx_blk_hit ?_ | refine evx_blk_pass (by decide) ?_
        | refine And.intro ?_ ?_ | intro _ | decide +kernel | omega)
      all_goals first
        | (exfalso; omega)
        | (subst e; exact ev_lp (i + 1) [] (by omega) (by omega) (by simp only [go_sem, hP, ↓reduceIte, Nat.reduceAdd, Nat.reduceMul, Nat.reduceEqDiff, Nat.reduceSub, Nat.reduceLeDiff, reduceCtorEq]; simp [sdI_next h2 hlt]; exact hw1))
  all_goals (obtain rfl : i = xs.length := (by omega); rw [sdI_last h2])
def sfC (xs : List Entry) (d : Int) : Int := if esf xs d ≠ 0 then esf xs d else if (xs.length : Int) < 4 then 2 else 0
def sdL (xs : List Entry) (d : Int) : List Int := if sfC xs d = 0 then [(sd xs).x, (sd xs).y] else []
theorem sdL_len (xs : List Entry) (d : Int) : (sdL xs d).length ≤ 2 := by unfold sdL; split <;> simp
theorem sfC_zero {xs : List Entry} {d : Int} (h : sfC xs d = 0) : esf xs d = 0 ∧ 4 ≤ xs.length := by
  unfold sfC at h; (repeat' split at h) <;> simp_all <;> omega
theorem s_splitFault (xs : List Entry) (d : Int) : Sat Tryz.prog 18 [aEntryS xs, aI d] true (rI (sfC xs d)) := by
  refine sat_walk (fn := Tryz.f18) rfl rfl rfl (Nat.le_of_ble_eq_true rfl) fun fr hP hN hbnd => ?_
  have hE : (envOf fr Tryz.prog).Ok := envOf_ok hP
  have hM := follows_of hP
  have hS : ∀ {draw ops}, statB Tryz.f18.ntmps draw ops = true → statB (envOf fr Tryz.prog).fr.N draw ops = true := fun h => by rw [envOf_fr, hN]; exact h
  repeat' (first
    | exact True.intro
    | refine ev_seq ?_
    | ((first | refine vgd_go ?_ | refine ev_region hE hM (hS (by decide +kernel)) ?_ | refine ev_if ?_ | refine end_ret hE rfl rfl ?_ | refine end_norm hE rfl rfl ?_ | refine endG_ret [] hE rfl ?_ | refine endG_norm [] hE rfl ?_ | refine vcallB_of hP (s_implEntriesFault xs d) ?_ | refine vcall_A ?_); simp (maxSteps := 2000000) only [go_sem, hP, ↓reduceIte, Nat.reduceAdd, Nat.reduceMul, Nat.reduceEqDiff, Nat.reduceSub, Nat.reduceLeDiff, reduceCtorEq])
    | refine ev_skip ?_ | refine ev_block ?_ | refine ev_blk ?_ | refine ev_ret ?_ | refine ev_exit ?_ | refine evx_code_ret ?_ | refine evx_blk_ret ?_ | refine evx_lp_ret ?_
    | refine evx_code_exit ?_ | refine evx_lp_exit ?_ | refine evx_blk_hit ?_ | refine evx_blk_pass (by decide) ?_
    | refine And.intro ?_ ?_ | intro _ | decide +kernel | omega)
  all_goals (simp_all [sfC]; done)
theorem s_l5Enough (xs : List Entry) (d : Int) : Sat Tryz.prog 24 [aEntryS xs, aI d] true (rI (sfC xs d)) := by
  refine sat_walk (fn := Tryz.f24) rfl rfl rfl (Nat.le_of_ble_eq_true rfl) fun fr hP hN hbnd => ?_
  have hE : (envOf fr Tryz.prog).Ok := envOf_ok hP
  have hM := follows_of hP
  have hS : ∀ {draw ops}, statB Tryz.f24.ntmps draw ops = true → statB (envOf fr Tryz.prog).fr.N draw ops = true := fun h => by rw [envOf_fr, hN]; exact h
  repeat' (first
    | exact True.intro
    | refine ev_seq ?_
    | ((first | refine vgd_go ?_ | refine ev_region hE hM (hS (by decide +kernel)) ?_ | refine ev_if ?_ | refine end_ret hE rfl rfl ?_ | refine end_norm hE rfl rfl ?_ | refine endG_ret [] hE rfl ?_ | refine endG_norm [] hE rfl ?_ | refine vcallB_of hP (s_specEntriesFault xs d) ?_ | refine vcall_A ?_); simp (maxSteps := 2000000) only [go_sem, hP, ↓reduceIte, Nat.reduceAdd, Nat.reduceMul, Nat.reduceEqDiff, Nat.reduceSub, Nat.reduceLeDiff, reduceCtorEq])
    | refine ev_skip ?_ | refine ev_block ?_ | refine ev_blk ?_ | refine ev_ret ?_ | refine ev_exit ?_ | refine evx_code_ret ?_ | refine evx_blk_ret ?_ | refine evx_lp_ret ?_
    | refine evx_code_exit ?_ | refine evx_lp_exit ?_ | refine evx_blk_hit ?_ | refine evx_blk_pass (by decide) ?_
    | refine And.intro ?_ ?_ | intro _ | decide +kernel | omega)
  all_goals (simp_all [sfC]; done)
def woV (n : Node) (d r : Int) : Node := if efcode n d r = 0 then ⟨n.level, n.nsn, n.right, n.entries.take (findRef n.entries r).toNat ++ n.entries.drop ((findRef n.entries r).toNat + 1)⟩ else ⟨0, 0, 0, []⟩
theorem ef_zero {n : Node} {d r : Int} (h : efcode n d r = 0) : nf n d = 0 ∧ 0 ≤ findRef n.entries r := by
  unfold efcode at h
  (repeat' split at h) <;> omega
theorem nf_dup {n : Node} {d : Int} (h : nf n d = 0) : noDup n.entries = true := by
  unfold nf at h; (repeat' split at h) <;> first | omega | assumption
theorem wES_append (xs ys : List Entry) : wEntryS (xs ++ ys) = wEntryS xs + wEntryS ys := by unfold wEntryS sumW; simp; omega
theorem dropE_w (xs : List Entry) (i : Nat) : wEntryS (xs.take i ++ xs.drop (i + 1)) ≤ wEntryS xs := by
  have h1 : wEntryS (xs.take i) + wEntryS (xs.drop i) = wEntryS xs := by rw [← wES_append, List.take_append_drop]
  have h2 : wEntryS ((xs.drop i).take 1) + wEntryS ((xs.drop i).drop 1) = wEntryS (xs.drop i) := by rw [← wES_append, List.take_append_drop]
  rw [List.drop_drop] at h2
  rw [wES_append]; omega
theorem woV_w (n : Node) (d r : Int) : wEntryS (woV n d r).entries ≤ 50 := by
  unfold woV; split
  · rename_i h
    have h1 := nf_w (ef_zero h).1
    have h2 := dropE_w n.entries (findRef n.entries r).toNat
    exact Nat.le_trans h2 (by omega)
  · exact Nat.zero_le _
theorem filterE_one {xs : List Entry} {r : Int} {i : Nat} (h : noDup xs = true) (hi : i < xs.length) (hr : (xs.getD i default).ref = r) : xs.filter (fun p => decide (p.ref ≠ r)) = xs.take i ++ xs.drop (i + 1) := by
  have hd : ∀ a b, a < b → b < xs.length → (xs.getD a default).ref ≠ (xs.getD b default).ref := fun a b hab hb he => by
    have h1 := allLt_iff.mp h b hb
    have h2 : dupAt xs b = true := by
      unfold dupAt
      rw [List.any_eq_true]
      have hl : a < (xs.take b).length := by rw [List.length_take]; omega
      refine ⟨(xs.take b)[a], List.getElem_mem hl, ?_⟩
      rw [List.getElem_take, ← getD_lt (show a < xs.length by omega)]
      simpa using he
    rw [h2] at h1; cases h1
  conv => lhs; rw [← List.take_append_drop i xs, List.drop_eq_getElem_cons hi]
  rw [List.filter_append, List.filter_cons]
  have e0 : xs[i] = xs.getD i default := (getD_lt hi).symm
  have e1 : (xs.take i).filter (fun p => decide (p.ref ≠ r)) = xs.take i := by
    rw [List.filter_eq_self]
    intro p hp
    obtain ⟨k, hk, rfl⟩ := List.mem_iff_getElem.1 hp
    rw [List.length_take] at hk
    have := hd k i (by omega) hi
    rw [getD_lt (show k < xs.length by omega), hr] at this
    rw [List.getElem_take]
    simpa using this
  have e2 : (xs.drop (i + 1)).filter (fun p => decide (p.ref ≠ r)) = xs.drop (i + 1) := by
    rw [List.filter_eq_self]
    intro p hp
    obtain ⟨k, hk, rfl⟩ := List.mem_iff_getElem.1 hp
    rw [List.length_drop] at hk
    have := hd i (i + 1 + k) (by omega) (by omega)
    rw [getD_lt (show i + 1 + k < xs.length by omega), hr] at this
    rw [List.getElem_drop]
    simpa using Ne.symm this
  have e3 : decide (xs[i].ref ≠ r) = false := by rw [e0, hr]; simp
  rw [e1, e2, e3]; rfl
@[go_sem] abbrev eY (b : Int) : List C := [.int .u8 b]
@[go_sem] abbrev sY (xs : List Int) : C := .sl none 1 (xs.map eY)
@[go_sem] abbrev aY (xs : List Int) : Arg := .d (false, [sY xs])
/-- The source of a code's bytes. -/
@[go_sem] abbrev bSrc (c : List Int) (a : Int) : Blk := .box [.c (sY c), iT a]
def codeOk (c : List Int) : Prop := c.length ≤ 1048576 ∧ ∀ b ∈ c, 0 ≤ b ∧ b < 256
def nv (c : List Int) (a n : Int) : Int :=
  if n > 200 then (c.getD (a % c.length).toNat default + a / c.length * 37) * 251 + c.getD ((a + 1) % c.length).toNat default * 13 + a
  else c.getD (a % c.length).toNat default + a / c.length * 37
def nx (c : List Int) (a n : Int) : Int := if c.length = 0 then (a * 7) % n else nv c a n % n
theorem byte_get {c : List Int} (hc : codeOk c) (i : Nat) : 0 ≤ c.getD i default ∧ c.getD i default < 256 := by
  rw [List.getD_eq_getElem?_getD]
  rcases h : c[i]? with _ | x
  · exact ⟨by decide, by decide⟩
  · exact hc.2 x (List.mem_of_getElem? h)
theorem nx_in {c : List Int} {a n : Int} (hn : 1 ≤ n) : 0 ≤ nx c a n ∧ nx c a n < n := by
  unfold nx
  split <;> exact ⟨Int.emod_nonneg _ (by omega), Int.emod_lt_of_pos _ (by omega)⟩
theorem tmod_pos {a b : Int} (h : 0 ≤ a) : a.tmod b = a % b := Int.tmod_eq_emod_of_nonneg h
theorem tdiv_pos {a b : Int} (h : 0 ≤ a) : a.tdiv b = a / b := Int.tdiv_eq_ediv_of_nonneg h
section
variable {c : Cx} {i : Nat} {dst : Option Nat} {rest : List Oper} {acc : List (List Nat × List Nat)} {st : St} {f κ : Nat} {P : Program}
theorem vcallG_at {caps args ts : List T} {ats : List Nat} {hc' : List (Nat × Blk)} {rt : T} {b : Blk} (K : Nat) (ks : List Nat) (hst : st.h K = some b) (hP : c.E.fr.P = P) (hs : SatG P f false ts [(1, b)] rt hc') (h : vcallG c i dst rest acc st caps args ts [(1, b)] rt hc' P (rhoOf [(1, K)] κ) ks) :
    vcall c i dst rest acc st f caps args ats κ := vcallG_of [(1, K)] ks hP hs h
end
theorem s_l1Next (c : List Int) (a n : Int) (hc : codeOk c) (h0 : 0 ≤ a) (h1 : a ≤ 1073741824) (h2 : 1 ≤ n) (h3 : n ≤ 60000) : SatG Tryz.prog 34 false [.ptr 1 0, iT n] [(1, bSrc c a)] (iT (nx c a n)) [(1, bSrc c (a + 1))] := by
  refine satG_walk (fn := Tryz.f34) rfl rfl rfl (Nat.le_of_ble_eq_true rfl) (by simp) fun fr hP hN hdp hb1 hb2 => ?_
  have hE : (envOf fr Tryz.prog).Ok := envOf_ok hP
  have hM := follows_of hP
  have hS : ∀ {draw ops}, statB Tryz.f34.ntmps draw ops = true → statB (envOf fr Tryz.prog).fr.N draw ops = true := fun h => by rw [envOf_fr, hN]; exact h
  have w1 : IntKind.i64.wrap (a + 1) = a + 1 := i64_in _ (by omega)
  have w2 : IntKind.i64.wrap (a + 1 - 1) = a := by rw [i64_in _ (by omega)]; omega
  have n0 : (n = 0) = False := eq_false (by omega)
  have n1 : decide (n < 1) = false := by simp; omega
  have n6 : decide (60000 < n) = false := by simp; omega
  by_cases hz : c.length = 0
  · have w3 : IntKind.i64.wrap (a * 7) = a * 7 := i64_in _ (by omega)
    have e : nx c a n = (a * 7).tmod n := by unfold nx; rw [if_pos hz, tmod_pos (by omega)]
    rw [e]
    repeat' (first
      | exact True.intro
      | refine ev_seq ?_
      | ((first | refine vgd_go ?_ | refine ev_region hE hM (hS (by decide +kernel)) ?_ | refine ev_if ?_ | refine end_ret hE rfl rfl ?_ | refine end_norm hE rfl rfl ?_ | refine endG_ret [] hE rfl ?_ | refine endG_norm [] hE rfl ?_ | refine vcall_A ?_); simp (maxSteps := 2000000) only [go_sem, hP, ↓reduceIte, Nat.reduceAdd, Nat.reduceMul, Nat.reduceEqDiff, Nat.reduceSub, Nat.reduceLeDiff, reduceCtorEq, w1, w2, w3, hz, n0, n1])
      | refine ev_skip ?_ | refine ev_block ?_ | refine ev_blk ?_ | refine ev_ret ?_ | refine ev_exit ?_ | refine evx_code_ret ?_ | refine evx_blk_ret ?_ | refine evx_lp_ret ?_
      | refine evx_code_exit ?_ | refine evx_lp_exit ?_ | refine evx_blk_hit ?_ | refine evx_blk_pass (by decide) ?_
      | refine And.intro ?_ ?_ | intro _ | decide +kernel | omega)
    all_goals first | (exfalso; omega) | (simp_all; done)
  · have k0 : ((c.length : Int) = 0) = False := eq_false (by omega)
    have k1 : ((c.length : Int) == 0) = false := beq_eq_false_iff_ne.2 (by omega)
    have hk := hc.1
    have e1 := tmod_pos (b := c.length) h0
    have e2 := tdiv_pos (b := c.length) h0
    have e3 := tmod_pos (a := a + 1) (b := c.length) (by omega)
    have m1 := Int.emod_nonneg a (b := c.length) (by omega)
    have m2 := Int.emod_lt_of_pos a (b := c.length) (by omega)
    have m3 := Int.emod_nonneg (a + 1) (b := c.length) (by omega)
    have m4 := Int.emod_lt_of_pos (a + 1) (b := c.length) (by omega)
    have d1 : 0 ≤ a / c.length := Int.ediv_nonneg h0 (by omega)
    have d2 : a / c.length ≤ a := Int.ediv_le_self _ h0
    obtain ⟨b1, b2⟩ := byte_get hc (a % c.length).toNat
    obtain ⟨b3, b4⟩ := byte_get hc ((a + 1) % c.length).toNat
    have ev : nx c a n = (nv c a n).tmod n := by unfold nx; rw [if_neg hz, tmod_pos]; unfold nv; split <;> omega
    rw [ev]
    unfold nv
    generalize hx : c.getD (a % c.length).toNat default = x at *
    generalize hy : c.getD ((a + 1) % c.length).toNat default = y at *
    generalize hq : a / c.length = q at *
    generalize hr : a % c.length = r at *
    generalize hs : (a + 1) % c.length = s at *
    have w3 : IntKind.i64.wrap q = q := i64_in _ (by omega)
    have w4 : IntKind.i64.wrap (q * 37) = q * 37 := i64_in _ (by omega)
    have w5 : IntKind.i64.wrap x = x := i64_in _ (by omega)
    have w6 : IntKind.i64.wrap (x + q * 37) = x + q * 37 := i64_in _ (by omega)
    have w7 : IntKind.i64.wrap ((x + q * 37) * 251) = (x + q * 37) * 251 := i64_in _ (by omega)
    have w8 : IntKind.i64.wrap y = y := i64_in _ (by omega)
    have w9 : IntKind.i64.wrap (y * 13) = y * 13 := i64_in _ (by omega)
    have wa : IntKind.i64.wrap ((x + q * 37) * 251 + y * 13) = (x + q * 37) * 251 + y * 13 := i64_in _ (by omega)
    have wb : IntKind.i64.wrap ((x + q * 37) * 251 + y * 13 + a) = (x + q * 37) * 251 + y * 13 + a := i64_in _ (by omega)
    by_cases h2 : n > 200
    · rw [if_pos h2]
      have n2 : decide (200 < n) = true := by simp; omega
      repeat' (first
        | exact True.intro
        | refine ev_seq ?_
        | ((first | refine vgd_go ?_ | refine ev_region hE hM (hS (by decide +kernel)) ?_ | refine ev_if ?_ | refine end_ret hE rfl rfl ?_ | refine end_norm hE rfl rfl ?_ | refine endG_ret [] hE rfl ?_ | refine endG_norm [] hE rfl ?_ | refine vcall_A ?_); simp (maxSteps := 2000000) only [go_sem, hP, ↓reduceIte, Nat.reduceAdd, Nat.reduceMul, Nat.reduceEqDiff, Nat.reduceSub, Nat.reduceLeDiff, reduceCtorEq, w1, w2, w3, w4, w5, w6, w7, w8, w9, wa, wb, e1, e2, e3, hx, hy, hq, hr, hs, k0, k1, n0, n1, n2, n6])
        | refine ev_skip ?_ | refine ev_block ?_ | refine ev_blk ?_ | refine ev_ret ?_ | refine ev_exit ?_ | refine evx_code_ret ?_ | refine evx_blk_ret ?_ | refine evx_lp_ret ?_
        | refine evx_code_exit ?_ | refine evx_lp_exit ?_ | refine evx_blk_hit ?_ | refine evx_blk_pass (by decide) ?_
        | refine And.intro ?_ ?_ | intro _ | decide +kernel | omega)
      all_goals first | (exfalso; omega) | omega | (simp_all; done)
    · rw [if_neg h2]
      have n2 : decide (200 < n) = false := by simp; omega
      repeat' (first
        | exact True.intro
        | refine ev_seq ?_
        | ((first | refine vgd_go ?_ | refine ev_region hE hM (hS (by decide +kernel)) ?_ | refine ev_if ?_ | refine end_ret hE rfl rfl ?_ | refine end_norm hE rfl rfl ?_ | refine endG_ret [] hE rfl ?_ | refine endG_norm [] hE rfl ?_ | refine vcall_A ?_); simp (maxSteps := 2000000) only [go_sem, hP, ↓reduceIte, Nat.reduceAdd, Nat.reduceMul, Nat.reduceEqDiff, Nat.reduceSub, Nat.reduceLeDiff, reduceCtorEq, w1, w2, w3, w4, w5, w6, e1, e2, hx, hq, hr, k0, k1, n0, n1, n2, n6])
        | refine ev_skip ?_ | refine ev_block ?_ | refine ev_blk ?_ | refine ev_ret ?_ | refine ev_exit ?_ | refine evx_code_ret ?_ | refine evx_blk_ret ?_ | refine evx_lp_ret ?_
        | refine evx_code_exit ?_ | refine evx_lp_exit ?_ | refine evx_blk_hit ?_ | refine evx_blk_pass (by decide) ?_
        | refine And.intro ?_ ?_ | intro _ | decide +kernel | omega)
      all_goals first | (exfalso; omega) | omega | (simp_all; done)
def pk (c : List Int) (a : Int) (xs : List Int) : Int := xs.getD (nx c a xs.length).toNat default
def coord (c : List Int) (a : Int) : Int := pk c (a + 4) [nx c a 20, nx c (a + 1) 20, nx c (a + 2) 20 - 10, nx c (a + 3) 300 * 3 - 400, 1000, -1000]
theorem pk_mem {c : List Int} {a : Int} {xs : List Int} (h : xs ≠ []) : pk c a xs ∈ xs := by
  have hl : 1 ≤ xs.length := List.length_pos_iff.2 h
  obtain ⟨p1, p2⟩ := nx_in (c := c) (a := a) (n := xs.length) (by omega)
  unfold pk
  rw [List.getD_eq_getElem?_getD, List.getElem?_eq_getElem (by omega)]
  exact List.getElem_mem _
theorem coord_in (c : List Int) (a : Int) : -1000 ≤ coord c a ∧ coord c a ≤ 1000 := by
  have h := pk_mem (c := c) (a := a + 4) (xs := [nx c a 20, nx c (a + 1) 20, nx c (a + 2) 20 - 10, nx c (a + 3) 300 * 3 - 400, 1000, -1000]) (by simp)
  have e0 := nx_in (c := c) (a := a) (n := 20) (by omega)
  have e1 := nx_in (c := c) (a := a + 1) (n := 20) (by omega)
  have e2 := nx_in (c := c) (a := a + 2) (n := 20) (by omega)
  have e3 := nx_in (c := c) (a := a + 3) (n := 300) (by omega)
  simp only [List.mem_cons, List.not_mem_nil, or_false] at h
  unfold coord
  rcases h with h | h | h | h | h | h <;> rw [h] <;> omega
def pointV (c : List Int) (a : Int) (d : Nat) : List Int := (List.range d).map fun (i : Nat) => coord c (a + 5 * i)
def rectLo (c : List Int) (a : Int) (d : Nat) : List Int := (List.range d).map fun (i : Nat) => coord c (a + 6 * i)
def rectHi (c : List Int) (a : Int) (d : Nat) : List Int := (List.range d).map fun (i : Nat) => min (coord c (a + 6 * i) + pk c (a + 6 * i + 5) [0, 1, 3, 8, 30]) 1000
def rectV (c : List Int) (a : Int) (d : Nat) : Rect := ⟨rectLo c a d, rectHi c a d⟩
theorem pk5_in (c : List Int) (a : Int) : 0 ≤ pk c a [0, 1, 3, 8, 30] ∧ pk c a [0, 1, 3, 8, 30] ≤ 30 := by
  have h := pk_mem (c := c) (a := a) (xs := [0, 1, 3, 8, 30]) (by simp)
  simp only [List.mem_cons, List.not_mem_nil, or_false] at h
  omega
theorem dims_in (c : List Int) (a : Int) : pk c a [2, 2, 3] = 2 ∨ pk c a [2, 2, 3] = 3 := by
  have h := pk_mem (c := c) (a := a) (xs := [2, 2, 3]) (by simp)
  simp only [List.mem_cons, List.not_mem_nil, or_false] at h
  omega
theorem rectV_hi (c : List Int) (a : Int) (d i : Nat) (h : i < d) : -1000 ≤ (rectHi c a d).getD i default ∧ (rectHi c a d).getD i default ≤ 1000 := by
  unfold rectHi
  rw [getD_lt (by simpa using h)]
  simp only [List.getElem_map, List.getElem_range]
  have h1 := coord_in c (a + 6 * i)
  have h2 := pk5_in c (a + 6 * i + 5)
  omega
def bentV (c : List Int) (a : Int) (d : Nat) : Rect :=
  if nx c (a + 6 * d) 14 = 0 then ⟨(rectLo c a d).set 0 (pk c (a + 6 * d + 1) [(rectHi c a d).getD 0 default + 1, -1001, 1001]), rectHi c a d⟩
  else if nx c (a + 6 * d) 14 = 1 then ⟨rectLo c a d, (rectHi c a d).drop 1⟩
  else if nx c (a + 6 * d) 14 = 2 then ⟨rectLo c a d ++ [0], rectHi c a d⟩
  else if nx c (a + 6 * d) 14 = 3 then ⟨rectLo c a d, (rectHi c a d).set 1 (pk c (a + 6 * d + 1) [1000, 1001, -1000])⟩
  else rectV c a d
def bentA (c : List Int) (a : Int) (d : Nat) : Int := if nx c (a + 6 * d) 14 = 0 ∨ nx c (a + 6 * d) 14 = 3 then a + 6 * d + 2 else a + 6 * d + 1
theorem bentA_in (c : List Int) (a : Int) (d : Nat) : a ≤ bentA c a d ∧ bentA c a d ≤ a + 6 * d + 2 := by unfold bentA; split <;> omega
theorem s_l1Chance (c : List Int) (a n : Int) (hc : codeOk c) (h0 : 0 ≤ a) (h1 : a ≤ 1073741824) (h2 : 1 ≤ n) (h3 : n ≤ 60000) : SatG Tryz.prog 33 false [.ptr 1 0, iT n] [(1, bSrc c a)] (.c (.bool (nx c a n == 0))) [(1, bSrc c (a + 1))] := by
  refine satG_walk (fn := Tryz.f33) rfl rfl rfl (Nat.le_of_ble_eq_true rfl) (by simp) fun fr hP hN hdp hb1 hb2 => ?_
  have hE : (envOf fr Tryz.prog).Ok := envOf_ok hP
  have hM := follows_of hP
  have hS : ∀ {draw ops}, statB Tryz.f33.ntmps draw ops = true → statB (envOf fr Tryz.prog).fr.N draw ops = true := fun h => by rw [envOf_fr, hN]; exact h
  repeat' (first
    | exact True.intro
    | refine ev_seq ?_
    | ((first | refine vgd_go ?_ | refine ev_region hE hM (hS (by decide +kernel)) ?_ | refine ev_if ?_ | refine end_ret hE rfl rfl ?_ | refine end_norm hE rfl rfl ?_ | refine endG_ret [] hE rfl ?_ | refine endG_norm [] hE rfl ?_ | refine vcallG_at (args := [.ptr 1 0, iT n]) 1 [] rfl hP (s_l1Next c _ n hc (by omega) (by omega) (by omega) (by omega)) ?_ | refine vcall_A ?_); simp (maxSteps := 2000000) only [go_sem, hP, ↓reduceIte, Nat.reduceAdd, Nat.reduceMul, Nat.reduceEqDiff, Nat.reduceSub, Nat.reduceLeDiff, reduceCtorEq])
    | refine ev_skip ?_ | refine ev_block ?_ | refine ev_blk ?_ | refine ev_ret ?_ | refine ev_exit ?_ | refine evx_code_ret ?_ | refine evx_blk_ret ?_ | refine evx_lp_ret ?_
    | refine evx_code_exit ?_ | refine evx_lp_exit ?_ | refine evx_blk_hit ?_ | refine evx_blk_pass (by decide) ?_
    | refine And.intro ?_ ?_ | intro _ | decide +kernel | omega)
theorem s_l1Pick (c : List Int) (a : Int) (xs : List Int) (hc : codeOk c) (h0 : 0 ≤ a) (h1 : a ≤ 1073741824) (h2 : 1 ≤ xs.length) (h3 : xs.length ≤ 60000) : SatG Tryz.prog 15 false [.ptr 1 0, .c (.sl none 1 (xs.map eI))] [(1, bSrc c a)] (iT (pk c a xs)) [(1, bSrc c (a + 1))] := by
  refine satG_walk (fn := Tryz.f15) rfl rfl rfl (Nat.le_of_ble_eq_true rfl) (by simp) fun fr hP hN hdp hb1 hb2 => ?_
  have hE : (envOf fr Tryz.prog).Ok := envOf_ok hP
  have hM := follows_of hP
  have hS : ∀ {draw ops}, statB Tryz.f15.ntmps draw ops = true → statB (envOf fr Tryz.prog).fr.N draw ops = true := fun h => by rw [envOf_fr, hN]; exact h
  obtain ⟨p1, p2⟩ := nx_in (c := c) (a := a) (n := xs.length) (by omega)
  unfold pk
  repeat' (first
    | exact True.intro
    | refine ev_seq ?_
    | ((first | refine vgd_go ?_ | refine ev_region hE hM (hS (by decide +kernel)) ?_ | refine ev_if ?_ | refine end_ret hE rfl rfl ?_ | refine end_norm hE rfl rfl ?_ | refine endG_ret [] hE rfl ?_ | refine endG_norm [] hE rfl ?_ | refine vcallG_at (args := [.ptr 1 0, iT xs.length]) 1 [] rfl hP (s_l1Next c _ xs.length hc (by omega) (by omega) (by omega) (by omega)) ?_ | refine vcall_A ?_); simp (maxSteps := 2000000) only [go_sem, hP, ↓reduceIte, Nat.reduceAdd, Nat.reduceMul, Nat.reduceEqDiff, Nat.reduceSub, Nat.reduceLeDiff, reduceCtorEq, List.length_map])
    | refine ev_skip ?_ | refine ev_block ?_ | refine ev_blk ?_ | refine ev_ret ?_ | refine ev_exit ?_ | refine evx_code_ret ?_ | refine evx_blk_ret ?_ | refine evx_lp_ret ?_
    | refine evx_code_exit ?_ | refine evx_lp_exit ?_ | refine evx_blk_hit ?_ | refine evx_blk_pass (by decide) ?_
    | refine And.intro ?_ ?_ | intro _ | decide +kernel | omega)
theorem s_l1Coord (c : List Int) (a : Int) (hc : codeOk c) (h0 : 0 ≤ a) (h1 : a ≤ 1073741800) : SatG Tryz.prog 61 false [.ptr 1 0] [(1, bSrc c a)] (iT (coord c a)) [(1, bSrc c (a + 5))] := by
  refine satG_walk (fn := Tryz.f61) rfl rfl rfl (Nat.le_of_ble_eq_true rfl) (by simp) fun fr hP hN hdp hb1 hb2 => ?_
  have hE : (envOf fr Tryz.prog).Ok := envOf_ok hP
  have hM := follows_of hP
  have hS : ∀ {draw ops}, statB Tryz.f61.ntmps draw ops = true → statB (envOf fr Tryz.prog).fr.N draw ops = true := fun h => by rw [envOf_fr, hN]; exact h
  obtain ⟨p1, p2⟩ := nx_in (c := c) (a := a + 2) (n := 20) (by omega)
  obtain ⟨p3, p4⟩ := nx_in (c := c) (a := a + 3) (n := 300) (by omega)
  have w1 : IntKind.i64.wrap (nx c (a + 2) 20 - 10) = nx c (a + 2) 20 - 10 := i64_in _ (by omega)
  have w2 : IntKind.i64.wrap (nx c (a + 3) 300 * 3) = nx c (a + 3) 300 * 3 := i64_in _ (by omega)
  have w3 : IntKind.i64.wrap (nx c (a + 3) 300 * 3 - 400) = nx c (a + 3) 300 * 3 - 400 := i64_in _ (by omega)
  unfold coord
  repeat' (first
    | exact True.intro
    | refine ev_seq ?_
    | ((first | refine vgd_go ?_ | refine ev_region hE hM (hS (by decide +kernel)) ?_ | refine ev_if ?_ | refine end_ret hE rfl rfl ?_ | refine end_norm hE rfl rfl ?_ | refine endG_ret [] hE rfl ?_ | refine endG_norm [] hE rfl ?_ | refine vcallG_at (args := [.ptr 1 0, iT 20]) 1 [] rfl hP (s_l1Next c _ 20 hc (by omega) (by omega) (by omega) (by omega)) ?_ | refine vcallG_at (args := [.ptr 1 0, iT 300]) 1 [] rfl hP (s_l1Next c _ 300 hc (by omega) (by omega) (by omega) (by omega)) ?_ | refine vcallG_at (args := [.ptr 1 0, .ref 4192]) 1 [4192] rfl hP (s_l1Pick c _ [nx c a 20, nx c (a + 1) 20, nx c (a + 2) 20 - 10, nx c (a + 3) 300 * 3 - 400, 1000, -1000] hc (by omega) (by omega) (by simp) (by simp)) ?_ | refine vcall_A ?_); simp (maxSteps := 2000000) only [go_sem, hP, ↓reduceIte, Nat.reduceAdd, Nat.reduceMul, Nat.reduceEqDiff, Nat.reduceSub, Nat.reduceLeDiff, reduceCtorEq, Int.add_assoc, Int.reduceAdd, w1, w2, w3])
    | refine ev_skip ?_ | refine ev_block ?_ | refine ev_blk ?_ | refine ev_ret ?_ | refine ev_exit ?_ | refine evx_code_ret ?_ | refine evx_blk_ret ?_ | refine evx_lp_ret ?_
    | refine evx_code_exit ?_ | refine evx_lp_exit ?_ | refine evx_blk_hit ?_ | refine evx_blk_pass (by decide) ?_
    | refine And.intro ?_ ?_ | intro _ | decide +kernel | omega)
  all_goals first | rfl | simp
theorem s_l1Dims (c : List Int) (a : Int) (hc : codeOk c) (h0 : 0 ≤ a) (h1 : a ≤ 1073741800) : SatG Tryz.prog 31 false [.ptr 1 0] [(1, bSrc c a)] (iT (pk c a [2, 2, 3])) [(1, bSrc c (a + 1))] := by
  refine satG_walk (fn := Tryz.f31) rfl rfl rfl (Nat.le_of_ble_eq_true rfl) (by simp) fun fr hP hN hdp hb1 hb2 => ?_
  have hE : (envOf fr Tryz.prog).Ok := envOf_ok hP
  have hM := follows_of hP
  have hS : ∀ {draw ops}, statB Tryz.f31.ntmps draw ops = true → statB (envOf fr Tryz.prog).fr.N draw ops = true := fun h => by rw [envOf_fr, hN]; exact h
  repeat' (first
    | exact True.intro
    | refine ev_seq ?_
    | ((first | refine vgd_go ?_ | refine ev_region hE hM (hS (by decide +kernel)) ?_ | refine ev_if ?_ | refine end_ret hE rfl rfl ?_ | refine end_norm hE rfl rfl ?_ | refine endG_ret [] hE rfl ?_ | refine endG_norm [] hE rfl ?_ | refine vcallG_at (args := [.ptr 1 0, .ref 4104]) 1 [4104] rfl hP (s_l1Pick c _ [2, 2, 3] hc (by omega) (by omega) (by simp) (by simp)) ?_ | refine vcall_A ?_); simp (maxSteps := 2000000) only [go_sem, hP, ↓reduceIte, Nat.reduceAdd, Nat.reduceMul, Nat.reduceEqDiff, Nat.reduceSub, Nat.reduceLeDiff, reduceCtorEq])
    | refine ev_skip ?_ | refine ev_block ?_ | refine ev_blk ?_ | refine ev_ret ?_ | refine ev_exit ?_ | refine evx_code_ret ?_ | refine evx_blk_ret ?_ | refine evx_lp_ret ?_
    | refine evx_code_exit ?_ | refine evx_lp_exit ?_ | refine evx_blk_hit ?_ | refine evx_blk_pass (by decide) ?_
    | refine And.intro ?_ ?_ | intro _ | decide +kernel | omega)
  all_goals rfl
theorem s_l1Source (c : List Int) : SatG Tryz.prog 13 false [.c (sY c)] [] (.ptr 1 0) [(1, bSrc c 0)] := by
  refine satG_walk (fn := Tryz.f13) rfl rfl rfl (Nat.le_of_ble_eq_true rfl) (by simp) fun fr hP hN hdp hb1 hb2 => ?_
  have hE : (envOf fr Tryz.prog).Ok := envOf_ok hP
  have hM := follows_of hP
  have hS : ∀ {draw ops}, statB Tryz.f13.ntmps draw ops = true → statB (envOf fr Tryz.prog).fr.N draw ops = true := fun h => by rw [envOf_fr, hN]; exact h
  repeat' (first
    | exact True.intro
    | refine ev_seq ?_
    | ((first | refine endG_ret [(1, some 4112)] hE rfl ?_ | refine vgd_go ?_ | refine ev_region hE hM (hS (by decide +kernel)) ?_ | refine ev_if ?_ | refine end_ret hE rfl rfl ?_ | refine end_norm hE rfl rfl ?_ | refine endG_ret [] hE rfl ?_ | refine endG_norm [] hE rfl ?_ | refine vcall_A ?_); simp (maxSteps := 2000000) only [go_sem, hP, ↓reduceIte, Nat.reduceAdd, Nat.reduceMul, Nat.reduceEqDiff, Nat.reduceSub, Nat.reduceLeDiff, reduceCtorEq])
    | refine ev_skip ?_ | refine ev_block ?_ | refine ev_blk ?_ | refine ev_ret ?_ | refine ev_exit ?_ | refine evx_code_ret ?_ | refine evx_blk_ret ?_ | refine evx_lp_ret ?_
    | refine evx_code_exit ?_ | refine evx_lp_exit ?_ | refine evx_blk_hit ?_ | refine evx_blk_pass (by decide) ?_
    | refine And.intro ?_ ?_ | intro _ | decide +kernel | omega)
theorem s_l1RectR (c : List Int) (a : Int) (d : Nat) (hc : codeOk c) (h0 : 0 ≤ a) (h1 : a ≤ 1073000000) (hd0 : 0 < d) (hd : d ≤ 100) : SatG Tryz.prog 36 false [.ptr 1 0, iT d] [(1, bSrc c a)] (.agg [.ref 2, .ref 3]) [(1, bSrc c (a + 6 * d)), (2, .arr true 2 1 ((rectLo c a d).map eI)), (3, .arr true 2 1 ((rectHi c a d).map eI))] := by
  refine satG_walk (fn := Tryz.f36) rfl rfl rfl (Nat.le_of_ble_eq_true rfl) (by simp) fun fr hP hN hdp hb1 hb2 => ?_
  have hE : (envOf fr Tryz.prog).Ok := envOf_ok hP
  have hM := follows_of hP
  have hS : ∀ {draw ops}, statB Tryz.f36.ntmps draw ops = true → statB (envOf fr Tryz.prog).fr.N draw ops = true := fun h => by rw [envOf_fr, hN]; exact h
  repeat' (first
    | exact True.intro
    | refine ev_seq ?_
    | ((first | refine vgd_go ?_ | refine ev_region hE hM (hS (by decide +kernel)) ?_ | refine ev_if ?_ | refine end_ret hE rfl rfl ?_ | refine end_norm hE rfl rfl ?_ | refine endG_ret [] hE rfl ?_ | refine endG_norm [] hE rfl ?_ | refine vcall_A ?_); simp (maxSteps := 2000000) only [go_sem, hP, ↓reduceIte, Nat.reduceAdd, Nat.reduceMul, Nat.reduceEqDiff, Nat.reduceSub, Nat.reduceLeDiff, reduceCtorEq])
    | refine ev_skip ?_ | refine ev_block ?_ | refine ev_blk ?_ | refine ev_ret ?_ | refine ev_exit ?_ | refine evx_code_ret ?_ | refine evx_blk_ret ?_ | refine evx_lp_ret ?_
    | refine evx_code_exit ?_ | refine evx_lp_exit ?_ | refine evx_blk_hit ?_ | refine evx_blk_pass (by decide) ?_
    | refine And.intro ?_ ?_ | intro _ | decide +kernel | omega)
  refine ev_loop (ι := Nat) (fun k => [(0, .ptr 1 0), (1, iT d), (4, .ptr 0 0), (5, .ptr 4104 0), (6, iT k)]) (fun k => [(1, bSrc c (a + 6 * k)), (0, .box [.nilS, .nilS]), (4104, .box [.ref 100000, .ref 100001]), (100000, .arr true 2 1 ((rectLo c a k).map eI)), (100001, .arr true 2 1 ((rectHi c a k).map eI))]) (fun _ => [(0, .ref 1)]) (fun k => k ≤ d) (fun k => d - k) 0 [(100000, none), (100001, none)] (by omega) (by simp only [go_sem, hP, ↓reduceIte, Nat.reduceAdd, Nat.reduceMul, Nat.reduceEqDiff, Nat.reduceSub, Nat.reduceLeDiff, reduceCtorEq]; simp [rectLo, rectHi]) ?_
  intro k hk
  have hw1 : k < d → IntKind.i64.wrap ((k : Int) + 1) = k + 1 := fun h => i64_in _ (by omega)
  have hl1 : (rectLo c a k).length = k := by simp [rectLo]
  have hl2 : (rectHi c a k).length = k := by simp [rectHi]
  have q1 := coord_in c (a + 6 * k)
  have q2 := pk5_in c (a + 6 * k + 5)
  have hw2 : IntKind.i64.wrap (coord c (a + 6 * k) + pk c (a + 6 * k + 5) [0, 1, 3, 8, 30]) = coord c (a + 6 * k) + pk c (a + 6 * k + 5) [0, 1, 3, 8, 30] := i64_in _ (by omega)
  by_cases hlt : k < d
  · repeat' (first
      | exact True.intro
      | refine ev_seq ?_
      | ((first | refine vgd_go ?_ | refine ev_region hE hM (hS (by decide +kernel)) ?_ | refine ev_if ?_ | refine end_ret hE rfl rfl ?_ | refine end_norm hE rfl rfl ?_ | refine endG_ret [] hE rfl ?_ | refine endG_norm [] hE rfl ?_ | refine vcallG_at (args := [.ptr 1 0]) 1 [] rfl hP (s_l1Coord c _ hc (by omega) (by omega)) ?_ | refine vcallG_at (args := [.ptr 1 0, .ref 24592]) 1 [24592] rfl hP (s_l1Pick c _ [0, 1, 3, 8, 30] hc (by omega) (by omega) (by simp) (by simp)) ?_ | refine vcallB_of hP (s_l1Min _ _) ?_ | refine vcall_A ?_); simp (maxSteps := 2000000) only [go_sem, hP, ↓reduceIte, Nat.reduceAdd, Nat.reduceMul, Nat.reduceEqDiff, Nat.reduceSub, Nat.reduceLeDiff, reduceCtorEq, Bool.and_self, List.length_map, hl1, hl2, hw2])
      | refine ev_skip ?_ | refine ev_block ?_ | refine ev_blk ?_ | refine ev_ret ?_ | refine ev_exit ?_ | refine evx_code_ret ?_ | refine evx_blk_ret ?_ | refine evx_lp_ret ?_
      | refine evx_code_exit ?_ | refine evx_lp_exit ?_ | refine evx_blk_hit ?_ | refine evx_blk_pass (by decide) ?_
      | refine And.intro ?_ ?_ | intro _ | decide +kernel | omega)
    all_goals first
      | exact ev_lp (k + 1) [(100000, some 28704), (100001, some 32800)] (by omega) (by omega) (by simp only [go_sem, hP, ↓reduceIte, Nat.reduceAdd, Nat.reduceMul, Nat.reduceEqDiff, Nat.reduceSub, Nat.reduceLeDiff, reduceCtorEq]; simp [hw1 hlt, rectLo, rectHi, List.range_succ]; exact ⟨by omega, rfl, rfl⟩)
      | (exfalso; omega)
      | rfl
      | omega
      | (simp_all; done)
  · have hke : k = d := by omega
    subst hke
    repeat' (first
      | exact True.intro
      | refine ev_seq ?_
      | ((first | refine endG_ret [(2, some 100000), (3, some 100001)] hE rfl ?_ | refine vgd_go ?_ | refine ev_region hE hM (hS (by decide +kernel)) ?_ | refine ev_if ?_ | refine end_ret hE rfl rfl ?_ | refine end_norm hE rfl rfl ?_ | refine endG_ret [] hE rfl ?_ | refine endG_norm [] hE rfl ?_ | refine vcall_A ?_); simp (maxSteps := 2000000) only [go_sem, hP, ↓reduceIte, Nat.reduceAdd, Nat.reduceMul, Nat.reduceEqDiff, Nat.reduceSub, Nat.reduceLeDiff, reduceCtorEq])
      | refine ev_skip ?_ | refine ev_block ?_ | refine ev_blk ?_ | refine ev_ret ?_ | refine ev_exit ?_ | refine evx_code_ret ?_ | refine evx_blk_ret ?_ | refine evx_lp_ret ?_
      | refine evx_code_exit ?_ | refine evx_lp_exit ?_ | refine evx_blk_hit ?_ | refine evx_blk_pass (by decide) ?_
      | refine And.intro ?_ ?_ | intro _ | decide +kernel | omega)
    all_goals first
      | (exfalso; omega)
      | (simp_all; done)
theorem s_l1Bent0 (c : List Int) (a : Int) (d : Nat) (hc : codeOk c) (h0 : 0 ≤ a) (h1 : a ≤ 1073000000 - 100000) (hd0 : 2 ≤ d) (hd : d ≤ 100) (hv : nx c (a + 6 * d) 14 = 0) : SatG Tryz.prog 35 false [.ptr 1 0, iT d] [(1, bSrc c a)] (.agg [.c (sI (bentV c a d).low), .c (sI (bentV c a d).high)]) [(1, bSrc c (bentA c a d))] := by
  have ev : bentV c a d = ⟨(rectLo c a d).set 0 (pk c (a + 6 * d + 1) [(rectHi c a d).getD 0 default + 1, -1001, 1001]), rectHi c a d⟩ := by unfold bentV; simp [hv, rectV]
  have ea : bentA c a d = a + 6 * d + 2 := by unfold bentA; simp [hv]
  rw [ev, ea]
  have h : SatG Tryz.prog 35 false [.ptr 1 0, iT d] [(1, bSrc c a)] (.agg [.ref 2, .ref 3]) ((1, bSrc c (a + 6 * d + 2)) :: [(2, .fro 1 (((rectLo c a d).set 0 (pk c (a + 6 * d + 1) [(rectHi c a d).getD 0 default + 1, -1001, 1001])).map eI)), (3, .fro 1 ((rectHi c a d).map eI))]) := by
    refine satG_walk (fn := Tryz.f35) rfl rfl rfl (Nat.le_of_ble_eq_true rfl) (by simp) fun fr hP hN hdp hb1 hb2 => ?_
    have hE : (envOf fr Tryz.prog).Ok := envOf_ok hP
    have hM := follows_of hP
    have hS : ∀ {draw ops}, statB Tryz.f35.ntmps draw ops = true → statB (envOf fr Tryz.prog).fr.N draw ops = true := fun h => by rw [envOf_fr, hN]; exact h
    have q0 := rectV_hi c a d 0 (by omega)
    have q1 := rectV_hi c a d 1 (by omega)
    have hl1 : (rectLo c a d).length = d := by simp [rectLo]
    have hl2 : (rectHi c a d).length = d := by simp [rectHi]
    have hw0 : IntKind.i64.wrap ((rectHi c a d).getD 0 default + 1) = (rectHi c a d).getD 0 default + 1 := i64_in _ (by omega)
    have hp : a + 6 * (d : Int) + 1 + 1 = a + 6 * d + 2 := by omega
    have t0 : Int.toNat 0 = 0 := rfl
    have t1 : Int.toNat 1 = 1 := rfl
    repeat' (first
      | exact True.intro
      | refine ev_seq ?_
      | ((first | refine endG_ret [(2, some 2101264), (3, some 3149840)] hE rfl ?_ | refine vgd_go ?_ | refine ev_region hE hM (hS (by decide +kernel)) ?_ | refine ev_if ?_ | refine end_ret hE rfl rfl ?_ | refine end_norm hE rfl rfl ?_ | refine endG_ret [] hE rfl ?_ | refine endG_norm [] hE rfl ?_ | refine vcallG_at (args := [.ptr 1 0, iT d]) 1 [] rfl hP (s_l1RectR c _ d hc (by omega) (by omega) (by omega) hd) ?_ | refine vcallG_at (args := [.ptr 1 0, iT 14]) 1 [] rfl hP (s_l1Next c _ 14 hc (by omega) (by omega) (by omega) (by omega)) ?_ | refine vcallG_at (args := [.ptr 1 0, .ref 16448]) 1 [16448] rfl hP (s_l1Pick c (a + 6 * d + 1) [(rectHi c a d).getD 0 default + 1, -1001, 1001] hc (by omega) (by omega) (by simp) (by simp)) ?_ | refine vcall_A ?_); simp (maxSteps := 2000000) only [go_sem, hP, ↓reduceIte, Nat.reduceAdd, Nat.reduceMul, Nat.reduceEqDiff, Nat.reduceSub, Nat.reduceLeDiff, reduceCtorEq, hp, List.length_map, List.length_set, hl1, hl2, hw0, t0, t1, Int.reduceBEq, hv])
      | refine ev_skip ?_ | refine ev_block ?_ | refine ev_blk ?_ | refine ev_ret ?_ | refine ev_exit ?_ | refine evx_code_ret ?_ | refine evx_blk_ret ?_ | refine evx_lp_ret ?_
      | refine evx_code_exit ?_ | refine evx_lp_exit ?_ | refine evx_blk_hit ?_ | refine evx_blk_pass (by decide) ?_
      | refine And.intro ?_ ?_ | intro _ | decide +kernel | omega)
    all_goals first
      | (exfalso; omega)
      | rfl
      | omega
      | (simp [List.map_set, List.map_drop, Es.strip_map]; done)
      | (simp [Es.strip_map]; exact ⟨fun _ _ => rfl, rfl⟩)
      | (rw [← strip_eI, List.map_set]; rfl)
      | (rw [List.take_of_length_le (by simp [hl2]), List.map_drop])
      | (rename_i h; exact h.symm)
      | trace_state
  exact satG_data (fz := [(2, .fro 1 (((rectLo c a d).set 0 (pk c (a + 6 * d + 1) [(rectHi c a d).getD 0 default + 1, -1001, 1001])).map eI)), (3, .fro 1 ((rectHi c a d).map eI))]) (fun κ h => by simp only [lk] at h; split at h <;> simp_all) trivial rfl h
theorem s_l1Bent1 (c : List Int) (a : Int) (d : Nat) (hc : codeOk c) (h0 : 0 ≤ a) (h1 : a ≤ 1073000000 - 100000) (hd0 : 2 ≤ d) (hd : d ≤ 100) (hv : nx c (a + 6 * d) 14 = 1) : SatG Tryz.prog 35 false [.ptr 1 0, iT d] [(1, bSrc c a)] (.agg [.c (sI (bentV c a d).low), .c (sI (bentV c a d).high)]) [(1, bSrc c (bentA c a d))] := by
  have ev : bentV c a d = ⟨rectLo c a d, (rectHi c a d).drop 1⟩ := by unfold bentV; simp [hv, rectV]
  have ea : bentA c a d = a + 6 * d + 1 := by unfold bentA; simp [hv]
  rw [ev, ea]
  have h : SatG Tryz.prog 35 false [.ptr 1 0, iT d] [(1, bSrc c a)] (.agg [.ref 2, .c (sI ((rectHi c a d).drop 1))]) ((1, bSrc c (a + 6 * d + 1)) :: [(2, .fro 1 ((rectLo c a d).map eI))]) := by
    refine satG_walk (fn := Tryz.f35) rfl rfl rfl (Nat.le_of_ble_eq_true rfl) (by simp) fun fr hP hN hdp hb1 hb2 => ?_
    have hE : (envOf fr Tryz.prog).Ok := envOf_ok hP
    have hM := follows_of hP
    have hS : ∀ {draw ops}, statB Tryz.f35.ntmps draw ops = true → statB (envOf fr Tryz.prog).fr.N draw ops = true := fun h => by rw [envOf_fr, hN]; exact h
    have q0 := rectV_hi c a d 0 (by omega)
    have q1 := rectV_hi c a d 1 (by omega)
    have hl1 : (rectLo c a d).length = d := by simp [rectLo]
    have hl2 : (rectHi c a d).length = d := by simp [rectHi]
    have hw0 : IntKind.i64.wrap ((rectHi c a d).getD 0 default + 1) = (rectHi c a d).getD 0 default + 1 := i64_in _ (by omega)
    have hp : a + 6 * (d : Int) + 1 + 1 = a + 6 * d + 2 := by omega
    have t0 : Int.toNat 0 = 0 := rfl
    have t1 : Int.toNat 1 = 1 := rfl
    repeat' (first
      | exact True.intro
      | refine ev_seq ?_
      | ((first | refine endG_ret [(2, some 2101264)] hE rfl ?_ | refine vgd_go ?_ | refine ev_region hE hM (hS (by decide +kernel)) ?_ | refine ev_if ?_ | refine end_ret hE rfl rfl ?_ | refine end_norm hE rfl rfl ?_ | refine endG_ret [] hE rfl ?_ | refine endG_norm [] hE rfl ?_ | refine vcallG_at (args := [.ptr 1 0, iT d]) 1 [] rfl hP (s_l1RectR c _ d hc (by omega) (by omega) (by omega) hd) ?_ | refine vcallG_at (args := [.ptr 1 0, iT 14]) 1 [] rfl hP (s_l1Next c _ 14 hc (by omega) (by omega) (by omega) (by omega)) ?_ | refine vcall_A ?_); simp (maxSteps := 2000000) only [go_sem, hP, ↓reduceIte, Nat.reduceAdd, Nat.reduceMul, Nat.reduceEqDiff, Nat.reduceSub, Nat.reduceLeDiff, reduceCtorEq, hp, List.length_map, List.length_set, hl1, hl2, hw0, t0, t1, Int.reduceBEq, hv])
      | refine ev_skip ?_ | refine ev_block ?_ | refine ev_blk ?_ | refine ev_ret ?_ | refine ev_exit ?_ | refine evx_code_ret ?_ | refine evx_blk_ret ?_ | refine evx_lp_ret ?_
      | refine evx_code_exit ?_ | refine evx_lp_exit ?_ | refine evx_blk_hit ?_ | refine evx_blk_pass (by decide) ?_
      | refine And.intro ?_ ?_ | intro _ | decide +kernel | omega)
    all_goals first
      | (exfalso; omega)
      | rfl
      | omega
      | (simp [List.map_set, List.map_drop, Es.strip_map]; done)
      | (simp [Es.strip_map]; exact ⟨fun _ _ => rfl, rfl⟩)
      | (rw [← strip_eI, List.map_set]; rfl)
      | (rw [List.take_of_length_le (by simp [hl2]), List.map_drop])
      | (rename_i h; exact h.symm)
      | trace_state
  exact satG_data (fz := [(2, .fro 1 ((rectLo c a d).map eI))]) (fun κ h => by simp only [lk] at h; split at h <;> simp_all) trivial rfl h
theorem s_l1Bent2 (c : List Int) (a : Int) (d : Nat) (hc : codeOk c) (h0 : 0 ≤ a) (h1 : a ≤ 1073000000 - 100000) (hd0 : 2 ≤ d) (hd : d ≤ 100) (hv : nx c (a + 6 * d) 14 = 2) : SatG Tryz.prog 35 false [.ptr 1 0, iT d] [(1, bSrc c a)] (.agg [.c (sI (bentV c a d).low), .c (sI (bentV c a d).high)]) [(1, bSrc c (bentA c a d))] := by
  have ev : bentV c a d = ⟨rectLo c a d ++ [0], rectHi c a d⟩ := by unfold bentV; simp [hv, rectV]
  have ea : bentA c a d = a + 6 * d + 1 := by unfold bentA; simp [hv]
  rw [ev, ea]
  have h : SatG Tryz.prog 35 false [.ptr 1 0, iT d] [(1, bSrc c a)] (.agg [.ref 2, .ref 3]) ((1, bSrc c (a + 6 * d + 1)) :: [(2, .fro 1 ((rectLo c a d ++ [0]).map eI)), (3, .fro 1 ((rectHi c a d).map eI))]) := by
    refine satG_walk (fn := Tryz.f35) rfl rfl rfl (Nat.le_of_ble_eq_true rfl) (by simp) fun fr hP hN hdp hb1 hb2 => ?_
    have hE : (envOf fr Tryz.prog).Ok := envOf_ok hP
    have hM := follows_of hP
    have hS : ∀ {draw ops}, statB Tryz.f35.ntmps draw ops = true → statB (envOf fr Tryz.prog).fr.N draw ops = true := fun h => by rw [envOf_fr, hN]; exact h
    have q0 := rectV_hi c a d 0 (by omega)
    have q1 := rectV_hi c a d 1 (by omega)
    have hl1 : (rectLo c a d).length = d := by simp [rectLo]
    have hl2 : (rectHi c a d).length = d := by simp [rectHi]
    have hw0 : IntKind.i64.wrap ((rectHi c a d).getD 0 default + 1) = (rectHi c a d).getD 0 default + 1 := i64_in _ (by omega)
    have hp : a + 6 * (d : Int) + 1 + 1 = a + 6 * d + 2 := by omega
    have t0 : Int.toNat 0 = 0 := rfl
    have t1 : Int.toNat 1 = 1 := rfl
    repeat' (first
      | exact True.intro
      | refine ev_seq ?_
      | ((first | refine endG_ret [(2, some 32792), (3, some 3149840)] hE rfl ?_ | refine vgd_go ?_ | refine ev_region hE hM (hS (by decide +kernel)) ?_ | refine ev_if ?_ | refine end_ret hE rfl rfl ?_ | refine end_norm hE rfl rfl ?_ | refine endG_ret [] hE rfl ?_ | refine endG_norm [] hE rfl ?_ | refine vcallG_at (args := [.ptr 1 0, iT d]) 1 [] rfl hP (s_l1RectR c _ d hc (by omega) (by omega) (by omega) hd) ?_ | refine vcallG_at (args := [.ptr 1 0, iT 14]) 1 [] rfl hP (s_l1Next c _ 14 hc (by omega) (by omega) (by omega) (by omega)) ?_ | refine vcall_A ?_); simp (maxSteps := 2000000) only [go_sem, hP, ↓reduceIte, Nat.reduceAdd, Nat.reduceMul, Nat.reduceEqDiff, Nat.reduceSub, Nat.reduceLeDiff, reduceCtorEq, hp, List.length_map, List.length_set, hl1, hl2, hw0, t0, t1, Int.reduceBEq, hv])
      | refine ev_skip ?_ | refine ev_block ?_ | refine ev_blk ?_ | refine ev_ret ?_ | refine ev_exit ?_ | refine evx_code_ret ?_ | refine evx_blk_ret ?_ | refine evx_lp_ret ?_
      | refine evx_code_exit ?_ | refine evx_lp_exit ?_ | refine evx_blk_hit ?_ | refine evx_blk_pass (by decide) ?_
      | refine And.intro ?_ ?_ | intro _ | decide +kernel | omega)
    all_goals first
      | (exfalso; omega)
      | rfl
      | omega
      | (simp [List.map_set, List.map_drop, Es.strip_map]; done)
      | (simp [Es.strip_map]; exact ⟨fun _ _ => rfl, rfl⟩)
      | (rw [← strip_eI, List.map_set]; rfl)
      | (rw [List.take_of_length_le (by simp [hl2]), List.map_drop])
      | (rename_i h; exact h.symm)
      | trace_state
  exact satG_data (fz := [(2, .fro 1 ((rectLo c a d ++ [0]).map eI)), (3, .fro 1 ((rectHi c a d).map eI))]) (fun κ h => by simp only [lk] at h; split at h <;> simp_all) trivial rfl h
theorem s_l1Bent3 (c : List Int) (a : Int) (d : Nat) (hc : codeOk c) (h0 : 0 ≤ a) (h1 : a ≤ 1073000000 - 100000) (hd0 : 2 ≤ d) (hd : d ≤ 100) (hv : nx c (a + 6 * d) 14 = 3) : SatG Tryz.prog 35 false [.ptr 1 0, iT d] [(1, bSrc c a)] (.agg [.c (sI (bentV c a d).low), .c (sI (bentV c a d).high)]) [(1, bSrc c (bentA c a d))] := by
  have ev : bentV c a d = ⟨rectLo c a d, (rectHi c a d).set 1 (pk c (a + 6 * d + 1) [1000, 1001, -1000])⟩ := by unfold bentV; simp [hv, rectV]
  have ea : bentA c a d = a + 6 * d + 2 := by unfold bentA; simp [hv]
  rw [ev, ea]
  have h : SatG Tryz.prog 35 false [.ptr 1 0, iT d] [(1, bSrc c a)] (.agg [.ref 2, .ref 3]) ((1, bSrc c (a + 6 * d + 2)) :: [(2, .fro 1 ((rectLo c a d).map eI)), (3, .fro 1 (((rectHi c a d).set 1 (pk c (a + 6 * d + 1) [1000, 1001, -1000])).map eI))]) := by
    refine satG_walk (fn := Tryz.f35) rfl rfl rfl (Nat.le_of_ble_eq_true rfl) (by simp) fun fr hP hN hdp hb1 hb2 => ?_
    have hE : (envOf fr Tryz.prog).Ok := envOf_ok hP
    have hM := follows_of hP
    have hS : ∀ {draw ops}, statB Tryz.f35.ntmps draw ops = true → statB (envOf fr Tryz.prog).fr.N draw ops = true := fun h => by rw [envOf_fr, hN]; exact h
    have q0 := rectV_hi c a d 0 (by omega)
    have q1 := rectV_hi c a d 1 (by omega)
    have hl1 : (rectLo c a d).length = d := by simp [rectLo]
    have hl2 : (rectHi c a d).length = d := by simp [rectHi]
    have hw0 : IntKind.i64.wrap ((rectHi c a d).getD 0 default + 1) = (rectHi c a d).getD 0 default + 1 := i64_in _ (by omega)
    have hp : a + 6 * (d : Int) + 1 + 1 = a + 6 * d + 2 := by omega
    have t0 : Int.toNat 0 = 0 := rfl
    have t1 : Int.toNat 1 = 1 := rfl
    repeat' (first
      | exact True.intro
      | refine ev_seq ?_
      | ((first | refine endG_ret [(2, some 2101264), (3, some 3149840)] hE rfl ?_ | refine vgd_go ?_ | refine ev_region hE hM (hS (by decide +kernel)) ?_ | refine ev_if ?_ | refine end_ret hE rfl rfl ?_ | refine end_norm hE rfl rfl ?_ | refine endG_ret [] hE rfl ?_ | refine endG_norm [] hE rfl ?_ | refine vcallG_at (args := [.ptr 1 0, iT d]) 1 [] rfl hP (s_l1RectR c _ d hc (by omega) (by omega) (by omega) hd) ?_ | refine vcallG_at (args := [.ptr 1 0, iT 14]) 1 [] rfl hP (s_l1Next c _ 14 hc (by omega) (by omega) (by omega) (by omega)) ?_ | refine vcallG_at (args := [.ptr 1 0, .ref 40984]) 1 [40984] rfl hP (s_l1Pick c (a + 6 * d + 1) [1000, 1001, -1000] hc (by omega) (by omega) (by simp) (by simp)) ?_ | refine vcall_A ?_); simp (maxSteps := 2000000) only [go_sem, hP, ↓reduceIte, Nat.reduceAdd, Nat.reduceMul, Nat.reduceEqDiff, Nat.reduceSub, Nat.reduceLeDiff, reduceCtorEq, hp, List.length_map, List.length_set, hl1, hl2, hw0, t0, t1, Int.reduceBEq, hv])
      | refine ev_skip ?_ | refine ev_block ?_ | refine ev_blk ?_ | refine ev_ret ?_ | refine ev_exit ?_ | refine evx_code_ret ?_ | refine evx_blk_ret ?_ | refine evx_lp_ret ?_
      | refine evx_code_exit ?_ | refine evx_lp_exit ?_ | refine evx_blk_hit ?_ | refine evx_blk_pass (by decide) ?_
      | refine And.intro ?_ ?_ | intro _ | decide +kernel | omega)
    all_goals first
      | (exfalso; omega)
      | rfl
      | omega
      | (simp [List.map_set, List.map_drop, Es.strip_map]; done)
      | (simp [Es.strip_map]; exact ⟨fun _ _ => rfl, rfl⟩)
      | (rw [← strip_eI, List.map_set]; rfl)
      | (rw [List.take_of_length_le (by simp [hl2]), List.map_drop])
      | (rename_i h; exact h.symm)
      | trace_state
  exact satG_data (fz := [(2, .fro 1 ((rectLo c a d).map eI)), (3, .fro 1 (((rectHi c a d).set 1 (pk c (a + 6 * d + 1) [1000, 1001, -1000])).map eI))]) (fun κ h => by simp only [lk] at h; split at h <;> simp_all) trivial rfl h
theorem s_l1Bent4 (c : List Int) (a : Int) (d : Nat) (hc : codeOk c) (h0 : 0 ≤ a) (h1 : a ≤ 1073000000 - 100000) (hd0 : 2 ≤ d) (hd : d ≤ 100) (g0 : nx c (a + 6 * d) 14 ≠ 0) (g1 : nx c (a + 6 * d) 14 ≠ 1) (g2 : nx c (a + 6 * d) 14 ≠ 2) (g3 : nx c (a + 6 * d) 14 ≠ 3) : SatG Tryz.prog 35 false [.ptr 1 0, iT d] [(1, bSrc c a)] (.agg [.c (sI (bentV c a d).low), .c (sI (bentV c a d).high)]) [(1, bSrc c (bentA c a d))] := by
  have ev : bentV c a d = ⟨rectLo c a d, rectHi c a d⟩ := by unfold bentV; simp [g0, g1, g2, g3, rectV]
  have ea : bentA c a d = a + 6 * d + 1 := by unfold bentA; simp [g0, g3]
  rw [ev, ea]
  have h : SatG Tryz.prog 35 false [.ptr 1 0, iT d] [(1, bSrc c a)] (.agg [.ref 2, .ref 3]) ((1, bSrc c (a + 6 * d + 1)) :: [(2, .fro 1 ((rectLo c a d).map eI)), (3, .fro 1 ((rectHi c a d).map eI))]) := by
    refine satG_walk (fn := Tryz.f35) rfl rfl rfl (Nat.le_of_ble_eq_true rfl) (by simp) fun fr hP hN hdp hb1 hb2 => ?_
    have hE : (envOf fr Tryz.prog).Ok := envOf_ok hP
    have hM := follows_of hP
    have hS : ∀ {draw ops}, statB Tryz.f35.ntmps draw ops = true → statB (envOf fr Tryz.prog).fr.N draw ops = true := fun h => by rw [envOf_fr, hN]; exact h
    have q0 := rectV_hi c a d 0 (by omega)
    have q1 := rectV_hi c a d 1 (by omega)
    have hl1 : (rectLo c a d).length = d := by simp [rectLo]
    have hl2 : (rectHi c a d).length = d := by simp [rectHi]
    have hw0 : IntKind.i64.wrap ((rectHi c a d).getD 0 default + 1) = (rectHi c a d).getD 0 default + 1 := i64_in _ (by omega)
    have hp : a + 6 * (d : Int) + 1 + 1 = a + 6 * d + 2 := by omega
    have t0 : Int.toNat 0 = 0 := rfl
    have t1 : Int.toNat 1 = 1 := rfl
    have b0 : (nx c (a + 6 * d) 14 == 0) = false := beq_eq_false_iff_ne.2 g0
    have b1 : (nx c (a + 6 * d) 14 == 1) = false := beq_eq_false_iff_ne.2 g1
    have b2 : (nx c (a + 6 * d) 14 == 2) = false := beq_eq_false_iff_ne.2 g2
    have b3 : (nx c (a + 6 * d) 14 == 3) = false := beq_eq_false_iff_ne.2 g3
    repeat' (first
      | exact True.intro
      | refine ev_seq ?_
      | ((first | refine endG_ret [(2, some 2101264), (3, some 3149840)] hE rfl ?_ | refine vgd_go ?_ | refine ev_region hE hM (hS (by decide +kernel)) ?_ | refine ev_if ?_ | refine end_ret hE rfl rfl ?_ | refine end_norm hE rfl rfl ?_ | refine endG_ret [] hE rfl ?_ | refine endG_norm [] hE rfl ?_ | refine vcallG_at (args := [.ptr 1 0, iT d]) 1 [] rfl hP (s_l1RectR c _ d hc (by omega) (by omega) (by omega) hd) ?_ | refine vcallG_at (args := [.ptr 1 0, iT 14]) 1 [] rfl hP (s_l1Next c _ 14 hc (by omega) (by omega) (by omega) (by omega)) ?_ | refine vcall_A ?_); simp (maxSteps := 2000000) only [go_sem, hP, ↓reduceIte, Nat.reduceAdd, Nat.reduceMul, Nat.reduceEqDiff, Nat.reduceSub, Nat.reduceLeDiff, reduceCtorEq, hp, List.length_map, List.length_set, hl1, hl2, hw0, t0, t1, Int.reduceBEq, b0, b1, b2, b3])
      | refine ev_skip ?_ | refine ev_block ?_ | refine ev_blk ?_ | refine ev_ret ?_ | refine ev_exit ?_ | refine evx_code_ret ?_ | refine evx_blk_ret ?_ | refine evx_lp_ret ?_
      | refine evx_code_exit ?_ | refine evx_lp_exit ?_ | refine evx_blk_hit ?_ | refine evx_blk_pass (by decide) ?_
      | refine And.intro ?_ ?_ | intro _ | decide +kernel | omega)
    all_goals first
      | (exfalso; omega)
      | rfl
      | omega
      | (simp [List.map_set, List.map_drop, Es.strip_map]; done)
      | (simp [Es.strip_map]; exact ⟨fun _ _ => rfl, rfl⟩)
      | (rw [← strip_eI, List.map_set]; rfl)
      | (rw [List.take_of_length_le (by simp [hl2]), List.map_drop])
      | (rename_i h; exact h.symm)
      | trace_state
  exact satG_data (fz := [(2, .fro 1 ((rectLo c a d).map eI)), (3, .fro 1 ((rectHi c a d).map eI))]) (fun κ h => by simp only [lk] at h; split at h <;> simp_all) trivial rfl h
theorem s_l1Bent (c : List Int) (a : Int) (d : Nat) (hc : codeOk c) (h0 : 0 ≤ a) (h1 : a ≤ 1073000000 - 100000) (hd0 : 2 ≤ d) (hd : d ≤ 100) : SatG Tryz.prog 35 false [.ptr 1 0, iT d] [(1, bSrc c a)] (.agg [.c (sI (bentV c a d).low), .c (sI (bentV c a d).high)]) [(1, bSrc c (bentA c a d))] := by
  by_cases g0 : nx c (a + 6 * d) 14 = 0
  · exact s_l1Bent0 c a d hc h0 h1 hd0 hd g0
  · by_cases g1 : nx c (a + 6 * d) 14 = 1
    · exact s_l1Bent1 c a d hc h0 h1 hd0 hd g1
    · by_cases g2 : nx c (a + 6 * d) 14 = 2
      · exact s_l1Bent2 c a d hc h0 h1 hd0 hd g2
      · by_cases g3 : nx c (a + 6 * d) 14 = 3
        · exact s_l1Bent3 c a d hc h0 h1 hd0 hd g3
        · exact s_l1Bent4 c a d hc h0 h1 hd0 hd g0 g1 g2 g3
end Go.Proofs.YtegohioalgikjaaGreat.W
