/- Contracts of functions that FnExactSplitStar reaches: what each returns; it writes to nothing of old. No condition but those that each theorem states. -/
import Derived.Test.YtmpndkhnajogkaaQa0
open Go Go.Vm Go.Proofs Go.IntWalk Go.RowKit
set_option maxRecDepth 100000
set_option maxHeartbeats 4000000
set_option linter.unusedSimpArgs false
set_option linter.unusedVariables false
set_option linter.unusedSectionVars false
namespace Go.Proofs.Ytmpndkhnajogkaa.W
attribute [local irreducible] kJ ev evx vops vstep vgo vgd vget vcall vcallFn vcallA vcallB vts vres vcond vbin
theorem s_entryAt (xs : List Entry) (r : Int) : Sat Try.prog 176 [aEntryS xs, aI r] true (rI (findRef xs r)) := by
  refine sat_walk (fn := Try.f176) rfl rfl rfl (Nat.le_of_ble_eq_true rfl) fun fr hP hN hbnd => ?_
  have hE : (envOf fr Try.prog).Ok := envOf_ok hP
  have hM := follows_of hP
  have hS : ∀ {draw ops}, statB Try.f176.ntmps draw ops = true → statB (envOf fr Try.prog).fr.N draw ops = true := fun h => by rw [envOf_fr, hN]; exact h
  repeat' (first
    | exact True.intro
    | refine ev_seq ?_
    | ((first | refine vgd_go ?_ | refine ev_region hE hM (hS (by decide +kernel)) ?_ | refine ev_if ?_ | refine end_ret hE rfl rfl ?_ | refine end_norm hE rfl rfl ?_ | refine endG_ret [] hE rfl ?_ | refine endG_norm [] hE rfl ?_ | refine vcallB_of hP (s_IndexFuncEntry xs _ (fun e => decide (e.ref = r)) (fun x _ => s_entryAt1 x r)) ?_ | refine vcall_A ?_); simp (maxSteps := 2000000) only [go_sem, hP, ↓reduceIte, Nat.reduceAdd, Nat.reduceMul, Nat.reduceEqDiff, Nat.reduceSub, Nat.reduceLeDiff, reduceCtorEq])
    | refine ev_skip ?_ | refine ev_block ?_ | refine ev_blk ?_ | refine ev_ret ?_ | refine ev_exit ?_ | refine evx_code_ret ?_ | refine evx_blk_ret ?_ | refine evx_lp_ret ?_
    | refine evx_code_exit ?_ | refine evx_lp_exit ?_ | refine evx_blk_hit ?_ | refine evx_blk_pass (by decide) ?_
    | refine And.intro ?_ ?_ | intro _ | decide +kernel | omega)
  rfl
theorem s_l3Find (xs : List Entry) (r : Int) : Sat Try.prog 178 [aEntryS xs, aI r] true (rI (findRef xs r)) := by
  refine sat_walk (fn := Try.f178) rfl rfl rfl (Nat.le_of_ble_eq_true rfl) fun fr hP hN hbnd => ?_
  have hE : (envOf fr Try.prog).Ok := envOf_ok hP
  have hM := follows_of hP
  have hS : ∀ {draw ops}, statB Try.f178.ntmps draw ops = true → statB (envOf fr Try.prog).fr.N draw ops = true := fun h => by rw [envOf_fr, hN]; exact h
  have hlen := bnd_EntryS hbnd
  repeat' (first
    | exact True.intro
    | refine ev_seq ?_
    | ((first | refine vgd_go ?_ | refine ev_region hE hM (hS (by decide +kernel)) ?_ | refine ev_if ?_ | refine end_ret hE rfl rfl ?_ | refine end_norm hE rfl rfl ?_ | refine endG_ret [] hE rfl ?_ | refine endG_norm [] hE rfl ?_ | refine vcall_A ?_); simp (maxSteps := 2000000) only [go_sem, hP, ↓reduceIte, Nat.reduceAdd, Nat.reduceMul, Nat.reduceEqDiff, Nat.reduceSub, Nat.reduceLeDiff, reduceCtorEq])
    | refine ev_skip ?_ | refine ev_block ?_ | refine ev_blk ?_ | refine ev_ret ?_ | refine ev_exit ?_ | refine evx_code_ret ?_ | refine evx_blk_ret ?_ | refine evx_lp_ret ?_
    | refine evx_code_exit ?_ | refine evx_lp_exit ?_ | refine evx_blk_hit ?_ | refine evx_blk_pass (by decide) ?_
    | refine And.intro ?_ ?_ | intro _ | decide +kernel | omega)
  refine ev_loop (ι := Nat) (fun k => [(0, .c (sEntryS xs)), (1, .c (.int .i64 r)), (5, .c (.int .i64 k))]) (fun k => []) (fun _ => []) (fun k => k ≤ xs.length ∧ (xs.take k).any (fun e => decide (e.ref = r)) = false) (fun k => xs.length - k) 0 [] (by simp [allLt_zero] <;> omega) (by simp only [go_sem, hP, ↓reduceIte, Nat.reduceAdd, Nat.reduceMul, Nat.reduceEqDiff, Nat.reduceSub, Nat.reduceLeDiff, reduceCtorEq]; simp) ?_
  intro k hk
  repeat' (first
    | exact True.intro
    | refine ev_seq ?_
    | ((first | refine vgd_go ?_ | refine ev_region hE hM (hS (by decide +kernel)) ?_ | refine ev_if ?_ | refine end_ret hE rfl rfl ?_ | refine end_norm hE rfl rfl ?_ | refine endG_ret [] hE rfl ?_ | refine endG_norm [] hE rfl ?_ | refine vcall_A ?_); simp (maxSteps := 2000000) only [go_sem, hP, ↓reduceIte, Nat.reduceAdd, Nat.reduceMul, Nat.reduceEqDiff, Nat.reduceSub, Nat.reduceLeDiff, reduceCtorEq])
    | refine ev_skip ?_ | refine ev_block ?_ | refine ev_blk ?_ | refine ev_ret ?_ | refine ev_exit ?_ | refine evx_code_ret ?_ | refine evx_blk_ret ?_ | refine evx_lp_ret ?_
    | refine evx_code_exit ?_ | refine evx_lp_exit ?_ | refine evx_blk_hit ?_ | refine evx_blk_pass (by decide) ?_
    | refine And.intro ?_ ?_ | intro _ | decide +kernel | omega)
  · rename_i h1 h2
    have h3 : (fun e : Entry => decide (e.ref = r)) (xs.getD k default) = true := by simpa using h2
    unfold findRef
    rw [any_yes (d := default) (by omega) h3, findIdx_here (d := default) (by omega) hk.2 h3]; rfl
  · rename_i h1 h2
    exact ev_lp (k + 1) [] ⟨by omega, any_step (d := default) (by omega) hk.2 (by simpa using h2)⟩ (by omega) (by simp only [go_sem, hP, ↓reduceIte, Nat.reduceAdd, Nat.reduceMul, Nat.reduceEqDiff, Nat.reduceSub, Nat.reduceLeDiff, reduceCtorEq]; simp; exact wrap_nat (by omega) hlen)
  · unfold findRef
    rw [any_done (by omega) hk.2]; rfl
def esf (xs : List Entry) (d : Int) : Int :=
  if inB d 2 3 = false then 3 else if (8 : Int) < xs.length then 2 else if firstF (entryF d) xs ≠ 0 then firstF (entryF d) xs else if noDup xs then 0 else 6
def fits (l : Int) (e : Entry) : Bool := if l = 0 then decide (e.nsn = 0) else decide (e.ref < 40)
def nf (n : Node) (d : Int) : Int :=
  if (inB d 2 3 && inB n.level 0 6 && inB n.nsn 0 100000 && inB n.right (-1) 39) = false then 3 else if (5 : Int) < n.entries.length then 2 else
  if firstF (entryF d) n.entries ≠ 0 then firstF (entryF d) n.entries else if n.entries.all (fits n.level) = false then 1 else if noDup n.entries then 0 else 6
theorem lens_of {a b : Rect} {d : Int} (h1 : rf a d = 0) (h2 : rf b d = 0) : Lens a b := by
  have e1 := rf_len h1
  have e2 := rf_len h2
  exact ⟨by omega, by omega, by omega⟩
theorem s_specEntriesFault (xs : List Entry) (d : Int) : Sat Try.prog 68 [aEntryS xs, aI d] true (rI (esf xs d)) := by
  refine sat_walk (fn := Try.f68) rfl rfl rfl (Nat.le_of_ble_eq_true rfl) fun fr hP hN hbnd => ?_
  have hE : (envOf fr Try.prog).Ok := envOf_ok hP
  have hM := follows_of hP
  have hS : ∀ {draw ops}, statB Try.f68.ntmps draw ops = true → statB (envOf fr Try.prog).fr.N draw ops = true := fun h => by rw [envOf_fr, hN]; exact h
  have hlen := bnd_EntryS hbnd
  repeat' (first
    | exact True.intro
    | refine ev_seq ?_
    | ((first | refine vgd_go ?_ | refine ev_region hE hM (hS (by decide +kernel)) ?_ | refine ev_if ?_ | refine end_ret hE rfl rfl ?_ | refine end_norm hE rfl rfl ?_ | refine endG_ret [] hE rfl ?_ | refine endG_norm [] hE rfl ?_ | refine vcallB_of hP (s_l1In _ _ _) ?_ | refine vcall_A ?_); simp (maxSteps := 2000000) only [go_sem, hP, ↓reduceIte, Nat.reduceAdd, Nat.reduceMul, Nat.reduceEqDiff, Nat.reduceSub, Nat.reduceLeDiff, reduceCtorEq])
    | refine ev_skip ?_ | refine ev_block ?_ | refine ev_blk ?_ | refine ev_ret ?_ | refine ev_exit ?_ | refine evx_code_ret ?_ | refine evx_blk_ret ?_ | refine evx_lp_ret ?_
    | refine evx_code_exit ?_ | refine evx_lp_exit ?_ | refine evx_blk_hit ?_ | refine evx_blk_pass (by decide) ?_
    | refine And.intro ?_ ?_ | intro _ | decide +kernel | omega)
  · simp_all [esf]
  · simp_all [esf]
  refine ev_loop (ι := Nat) (fun k => [(0, .c (sEntryS xs)), (1, .c (.int .i64 d)), (5, .c (.int .i64 k))]) (fun k => []) (fun _ => []) (fun k => k ≤ xs.length ∧ allLt k (fun j => decide (entryF d (xs.getD j default) = 0)) = true) (fun k => xs.length - k) 0 [] (by simp [allLt_zero] <;> omega) (by simp only [go_sem, hP, ↓reduceIte, Nat.reduceAdd, Nat.reduceMul, Nat.reduceEqDiff, Nat.reduceSub, Nat.reduceLeDiff, reduceCtorEq]; simp) ?_
  intro k hk
  repeat' (first
    | exact True.intro
    | refine ev_seq ?_
    | ((first | refine vgd_go ?_ | refine ev_region hE hM (hS (by decide +kernel)) ?_ | refine ev_if ?_ | refine end_ret hE rfl rfl ?_ | refine end_norm hE rfl rfl ?_ | refine endG_ret [] hE rfl ?_ | refine endG_norm [] hE rfl ?_ | refine vcallB_of hP (s_l3Entry (xs.getD k default) _) ?_ | refine vcall_A ?_); simp (maxSteps := 2000000) only [go_sem, hP, ↓reduceIte, Nat.reduceAdd, Nat.reduceMul, Nat.reduceEqDiff, Nat.reduceSub, Nat.reduceLeDiff, reduceCtorEq])
    | refine ev_skip ?_ | refine ev_block ?_ | refine ev_blk ?_ | refine ev_ret ?_ | refine ev_exit ?_ | refine evx_code_ret ?_ | refine evx_blk_ret ?_ | refine evx_lp_ret ?_
    | refine evx_code_exit ?_ | refine evx_lp_exit ?_ | refine evx_blk_hit ?_ | refine evx_blk_pass (by decide) ?_
    | refine And.intro ?_ ?_ | intro _ | decide +kernel | omega)
  · rename_i h1 h2
    have h9 : firstF (entryF d) xs = entryF d (xs.getD k default) := firstF_here (k := k) (by omega) hk.2 (by simpa using h2)
    simp_all [esf] <;> first | omega | grind
  · rename_i h1 h2
    exact ev_lp (k + 1) [] ⟨by omega, allLt_step hk.2 (by simpa using h2)⟩ (by omega) (by simp only [go_sem, hP, ↓reduceIte, Nat.reduceAdd, Nat.reduceMul, Nat.reduceEqDiff, Nat.reduceSub, Nat.reduceLeDiff, reduceCtorEq]; simp; exact wrap_nat (by omega) hlen)
  rename_i h1
  have hz : firstF (entryF d) xs = 0 := firstF_done (by omega) hk.2
  clear h1 hk
  refine ev_loop (ι := Nat) (fun k => [(0, .c (sEntryS xs)), (7, .c (.int .i64 k))]) (fun k => []) (fun _ => []) (fun k => k ≤ xs.length ∧ allLt k (fun j => !dupAt xs j) = true) (fun k => xs.length - k) 0 [] (by simp [allLt_zero] <;> omega) (by simp only [go_sem, hP, ↓reduceIte, Nat.reduceAdd, Nat.reduceMul, Nat.reduceEqDiff, Nat.reduceSub, Nat.reduceLeDiff, reduceCtorEq]; simp) ?_
  intro k hk
  have hs := fun h => findRef_self (xs := xs) (k := k) h
  repeat' (first
    | exact True.intro
    | refine ev_seq ?_
    | ((first | refine vgd_go ?_ | refine ev_region hE hM (hS (by decide +kernel)) ?_ | refine ev_if ?_ | refine end_ret hE rfl rfl ?_ | refine end_norm hE rfl rfl ?_ | refine endG_ret [] hE rfl ?_ | refine endG_norm [] hE rfl ?_ | refine vcallB_of hP (s_l3Find xs _) ?_ | refine vcall_A ?_); simp (maxSteps := 2000000) only [go_sem, hP, ↓reduceIte, Nat.reduceAdd, Nat.reduceMul, Nat.reduceEqDiff, Nat.reduceSub, Nat.reduceLeDiff, reduceCtorEq])
    | refine ev_skip ?_ | refine ev_block ?_ | refine ev_blk ?_ | refine ev_ret ?_ | refine ev_exit ?_ | refine evx_code_ret ?_ | refine evx_blk_ret ?_ | refine evx_lp_ret ?_
    | refine evx_code_exit ?_ | refine evx_lp_exit ?_ | refine evx_blk_hit ?_ | refine evx_blk_pass (by decide) ?_
    | refine And.intro ?_ ?_ | intro _ | decide +kernel | omega)
  · rename_i h1 h2
    have h9 : noDup xs = false := allLt_not (k := k) (by omega) (by have := hs (by omega); simp_all)
    simp_all [esf] <;> first | omega | grind
  · rename_i h1 h2
    exact ev_lp (k + 1) [] ⟨by omega, allLt_step hk.2 (by have := hs (by omega); simp_all)⟩ (by omega) (by simp only [go_sem, hP, ↓reduceIte, Nat.reduceAdd, Nat.reduceMul, Nat.reduceEqDiff, Nat.reduceSub, Nat.reduceLeDiff, reduceCtorEq]; simp; exact wrap_nat (by omega) hlen)
  · have h9 : noDup xs = true := allLt_done (by omega) hk.2
    simp_all [esf] <;> first | omega | grind
theorem s_implEntriesFault (xs : List Entry) (d : Int) : Sat Try.prog 67 [aEntryS xs, aI d] true (rI (esf xs d)) := by
  refine sat_walk (fn := Try.f67) rfl rfl rfl (Nat.le_of_ble_eq_true rfl) fun fr hP hN hbnd => ?_
  have hE : (envOf fr Try.prog).Ok := envOf_ok hP
  have hM := follows_of hP
  have hS : ∀ {draw ops}, statB Try.f67.ntmps draw ops = true → statB (envOf fr Try.prog).fr.N draw ops = true := fun h => by rw [envOf_fr, hN]; exact h
  have hlen := bnd_EntryS hbnd
  repeat' (first
    | exact True.intro
    | refine ev_seq ?_
    | ((first | refine vgd_go ?_ | refine ev_region hE hM (hS (by decide +kernel)) ?_ | refine ev_if ?_ | refine end_ret hE rfl rfl ?_ | refine end_norm hE rfl rfl ?_ | refine endG_ret [] hE rfl ?_ | refine endG_norm [] hE rfl ?_ | refine vcallB_of hP (s_isDims _) ?_ | refine vcall_A ?_); simp (maxSteps := 2000000) only [go_sem, hP, ↓reduceIte, Nat.reduceAdd, Nat.reduceMul, Nat.reduceEqDiff, Nat.reduceSub, Nat.reduceLeDiff, reduceCtorEq])
    | refine ev_skip ?_ | refine ev_block ?_ | refine ev_blk ?_ | refine ev_ret ?_ | refine ev_exit ?_ | refine evx_code_ret ?_ | refine evx_blk_ret ?_ | refine evx_lp_ret ?_
    | refine evx_code_exit ?_ | refine evx_lp_exit ?_ | refine evx_blk_hit ?_ | refine evx_blk_pass (by decide) ?_
    | refine And.intro ?_ ?_ | intro _ | decide +kernel | omega)
  · simp_all [esf]
  · simp_all [esf]
  refine ev_loop (ι := Nat) (fun k => [(0, .c (sEntryS xs)), (1, .c (.int .i64 d)), (19, .c (sEntryS xs)), (20, .c (.int .i64 xs.length)), (21, .c (.int .i64 k))]) (fun k => []) (fun _ => []) (fun k => k ≤ xs.length ∧ allLt k (fun j => decide (entryF d (xs.getD j default) = 0)) = true) (fun k => xs.length - k) 0 [] (by simp [allLt_zero] <;> omega) (by simp only [go_sem, hP, ↓reduceIte, Nat.reduceAdd, Nat.reduceMul, Nat.reduceEqDiff, Nat.reduceSub, Nat.reduceLeDiff, reduceCtorEq]; simp) ?_
  intro k hk
  repeat' (first
    | exact True.intro
    | refine ev_seq ?_
    | ((first | refine vgd_go ?_ | refine ev_region hE hM (hS (by decide +kernel)) ?_ | refine ev_if ?_ | refine end_ret hE rfl rfl ?_ | refine end_norm hE rfl rfl ?_ | refine endG_ret [] hE rfl ?_ | refine endG_norm [] hE rfl ?_ | refine vcallB_of hP (s_implRectFault (xs.getD k default).rect _) ?_ | refine vcallB_of hP (s_entryRange (xs.getD k default)) ?_ | refine vcall_A ?_); simp (maxSteps := 2000000) only [go_sem, hP, ↓reduceIte, Nat.reduceAdd, Nat.reduceMul, Nat.reduceEqDiff, Nat.reduceSub, Nat.reduceLeDiff, reduceCtorEq])
    | refine ev_skip ?_ | refine ev_block ?_ | refine ev_blk ?_ | refine ev_ret ?_ | refine ev_exit ?_ | refine evx_code_ret ?_ | refine evx_blk_ret ?_ | refine evx_lp_ret ?_
    | refine evx_code_exit ?_ | refine evx_lp_exit ?_ | refine evx_blk_hit ?_ | refine evx_blk_pass (by decide) ?_
    | refine And.intro ?_ ?_ | intro _ | decide +kernel | omega)
  · rename_i h1 h2
    have h8 : entryF d (xs.getD k default) = rf (xs.getD k default).rect d := by unfold entryF; rw [if_pos (by simpa using h2)]
    have h9 : firstF (entryF d) xs = entryF d (xs.getD k default) := firstF_here (k := k) (by omega) hk.2 (by rw [h8]; simpa using h2)
    rw [h8] at h9
    simp_all [esf] <;> first | omega | grind
  · rename_i h1 h2 h3
    have h8 : entryF d (xs.getD k default) = if inB (xs.getD k default).ref 0 999 && inB (xs.getD k default).nsn 0 100000 then 0 else 3 := by unfold entryF; rw [if_neg (by simpa using h2)]
    have h9 : firstF (entryF d) xs = entryF d (xs.getD k default) := firstF_here (k := k) (by omega) hk.2 (by rw [h8]; simpa using h3)
    rw [h8] at h9
    simp_all [esf] <;> first | omega | grind
  · rename_i h1 h2 h3
    have h8 : entryF d (xs.getD k default) = if inB (xs.getD k default).ref 0 999 && inB (xs.getD k default).nsn 0 100000 then 0 else 3 := by unfold entryF; rw [if_neg (by simpa using h2)]
    exact ev_lp (k + 1) [] ⟨by omega, allLt_step hk.2 (by rw [h8]; simpa using h3)⟩ (by omega) (by simp only [go_sem, hP, ↓reduceIte, Nat.reduceAdd, Nat.reduceMul, Nat.reduceEqDiff, Nat.reduceSub, Nat.reduceLeDiff, reduceCtorEq]; simp; exact wrap_nat (by omega) hlen)
  rename_i h1
  have hz : firstF (entryF d) xs = 0 := firstF_done (by omega) hk.2
  clear h1 hk
  refine ev_loop (ι := Nat) (fun k => [(0, .c (sEntryS xs)), (38, .c (sEntryS xs)), (39, .c (.int .i64 xs.length)), (40, .c (.int .i64 k))]) (fun k => []) (fun _ => []) (fun k => k ≤ xs.length ∧ allLt k (fun j => !dupAt xs j) = true) (fun k => xs.length - k) 0 [] (by simp [allLt_zero] <;> omega) (by simp only [go_sem, hP, ↓reduceIte, Nat.reduceAdd, Nat.reduceMul, Nat.reduceEqDiff, Nat.reduceSub, Nat.reduceLeDiff, reduceCtorEq]; simp) ?_
  intro k hk
  have hn := findRef_nonneg (xs := xs.take k) (r := (xs.getD k default).ref)
  repeat' (first
    | exact True.intro
    | refine ev_seq ?_
    | ((first | refine vgd_go ?_ | refine ev_region hE hM (hS (by decide +kernel)) ?_ | refine ev_if ?_ | refine end_ret hE rfl rfl ?_ | refine end_norm hE rfl rfl ?_ | refine endG_ret [] hE rfl ?_ | refine endG_norm [] hE rfl ?_ | refine vcallB_of hP (s_entryAt (xs.take k) _) ?_ | refine vcall_A ?_); simp (maxSteps := 2000000) only [go_sem, hP, ↓reduceIte, Nat.reduceAdd, Nat.reduceMul, Nat.reduceEqDiff, Nat.reduceSub, Nat.reduceLeDiff, reduceCtorEq, Int.toNat_zero, Nat.sub_zero, ← List.map_take])
    | refine ev_skip ?_ | refine ev_block ?_ | refine ev_blk ?_ | refine ev_ret ?_ | refine ev_exit ?_ | refine evx_code_ret ?_ | refine evx_blk_ret ?_ | refine evx_lp_ret ?_
    | refine evx_code_exit ?_ | refine evx_lp_exit ?_ | refine evx_blk_hit ?_ | refine evx_blk_pass (by decide) ?_
    | refine And.intro ?_ ?_ | intro _ | decide +kernel | omega)
  · rename_i h1 h2
    have h9 : noDup xs = false := allLt_not (k := k) (by omega) (by unfold dupAt; rw [← hn]; simpa using h2)
    simp_all [esf] <;> first | omega | grind
  · rename_i h1 h2
    exact ev_lp (k + 1) [] ⟨by omega, allLt_step hk.2 (by unfold dupAt; rw [← hn]; simpa using h2)⟩ (by omega) (by simp only [go_sem, hP, ↓reduceIte, Nat.reduceAdd, Nat.reduceMul, Nat.reduceEqDiff, Nat.reduceSub, Nat.reduceLeDiff, reduceCtorEq]; simp; exact wrap_nat (by omega) hlen)
  · have h9 : noDup xs = true := allLt_done (by omega) hk.2
    simp_all [esf] <;> first | omega | grind
def efcode (n : Node) (d r : Int) : Int := if nf n d ≠ 0 then nf n d else if findRef n.entries r < 0 then 4 else 0
def cmpI (a b : Int) : Int := if a < b then -1 else if b < a then 1 else 0
def better (xs : List Entry) (r : Rect) (i j : Nat) : Bool :=
  decide (growth (xs.getD i default).rect r < growth (xs.getD j default).rect r) || (decide (growth (xs.getD i default).rect r = growth (xs.getD j default).rect r) && decide (area (xs.getD i default).rect < area (xs.getD j default).rect))
def chooseTo (xs : List Entry) (r : Rect) : Nat → Nat
  | 0 => 0
  | k + 1 => if better xs r k (chooseTo xs r k) then k else chooseTo xs r k
@[simp] theorem chooseTo_zero (xs : List Entry) (r : Rect) : chooseTo xs r 0 = 0 := rfl
@[simp] theorem chooseTo_one (xs : List Entry) (r : Rect) : chooseTo xs r 1 = 0 := by
  show (if better xs r 0 0 = true then 0 else 0) = 0
  split <;> rfl
theorem cmp_less {a b c d : Int} : ((if ¬cmpI a b = 0 then cmpI a b else cmpI c d) < 0) ↔ (decide (a < b) || (decide (a = b) && decide (c < d))) = true := by
  unfold cmpI; simp only [Bool.or_eq_true, Bool.and_eq_true, decide_eq_true_eq]; repeat' split
  all_goals omega
theorem chooseTo_yes {xs : List Entry} {r : Rect} {k : Nat} (h : better xs r k (chooseTo xs r k) = true) : chooseTo xs r (k + 1) = k := by
  show (if better xs r k (chooseTo xs r k) = true then k else chooseTo xs r k) = k
  rw [if_pos h]
theorem chooseTo_no {xs : List Entry} {r : Rect} {k : Nat} (h : ¬ better xs r k (chooseTo xs r k) = true) : chooseTo xs r (k + 1) = chooseTo xs r k := by
  show (if better xs r k (chooseTo xs r k) = true then k else chooseTo xs r k) = _
  rw [if_neg h]
theorem chooseTo_lt (xs : List Entry) (r : Rect) : ∀ k, chooseTo xs r k ≤ k
  | 0 => Nat.le_refl _
  | k + 1 => by have := chooseTo_lt xs r k; unfold chooseTo; split <;> omega
theorem chooseTo_len {xs : List Entry} {r : Rect} (h : 0 < xs.length) : ∀ k, k ≤ xs.length → chooseTo xs r k < xs.length
  | 0, _ => h
  | k + 1, hk => by have := chooseTo_len h (r := r) k (by omega); unfold chooseTo; split <;> omega
theorem s_Compare (a b : Int) : Sat Try.prog 234 [aI a, aI b] true (rI (cmpI a b)) := by
  refine sat_walk (fn := Try.f234) rfl rfl rfl (Nat.le_of_ble_eq_true rfl) fun fr hP hN hbnd => ?_
  have hE : (envOf fr Try.prog).Ok := envOf_ok hP
  have hM := follows_of hP
  have hS : ∀ {draw ops}, statB Try.f234.ntmps draw ops = true → statB (envOf fr Try.prog).fr.N draw ops = true := fun h => by rw [envOf_fr, hN]; exact h
  repeat' (first
    | exact True.intro
    | refine ev_seq ?_
    | ((first | refine vgd_go ?_ | refine ev_region hE hM (hS (by decide +kernel)) ?_ | refine ev_if ?_ | refine end_ret hE rfl rfl ?_ | refine end_norm hE rfl rfl ?_ | refine endG_ret [] hE rfl ?_ | refine endG_norm [] hE rfl ?_ | refine vcallB_of hP (s_isNaN _) ?_ | refine vcall_A ?_); simp (maxSteps := 2000000) only [go_sem, hP, ↓reduceIte, Nat.reduceAdd, Nat.reduceMul, Nat.reduceEqDiff, Nat.reduceSub, Nat.reduceLeDiff, reduceCtorEq])
    | refine ev_skip ?_ | refine ev_block ?_ | refine ev_blk ?_ | refine ev_ret ?_ | refine ev_exit ?_ | refine evx_code_ret ?_ | refine evx_blk_ret ?_ | refine evx_lp_ret ?_
    | refine evx_code_exit ?_ | refine evx_lp_exit ?_ | refine evx_blk_hit ?_ | refine evx_blk_pass (by decide) ?_
    | refine And.intro ?_ ?_ | intro _ | decide +kernel | omega)
  all_goals first
    | (simp_all [cmpI]; done)
    | (simp_all [cmpI]; omega)
def chcode (xs : List Entry) (d : Int) (r : Rect) : Int := if esf xs d ≠ 0 then esf xs d else if rf r d ≠ 0 then rf r d else if xs.length = 0 then 4 else 0
theorem s_OrL (xs : List Int) : Sat Try.prog 233 [aL xs] true (rI (firstF id xs)) := by
  refine sat_walk (fn := Try.f233) rfl rfl rfl (Nat.le_of_ble_eq_true rfl) fun fr hP hN hbnd => ?_
  have hE : (envOf fr Try.prog).Ok := envOf_ok hP
  have hM := follows_of hP
  have hS : ∀ {draw ops}, statB Try.f233.ntmps draw ops = true → statB (envOf fr Try.prog).fr.N draw ops = true := fun h => by rw [envOf_fr, hN]; exact h
  have hlen := bndL hbnd
  repeat' (first
    | exact True.intro
    | refine ev_seq ?_
    | ((first | refine vgd_go ?_ | refine ev_region hE hM (hS (by decide +kernel)) ?_ | refine ev_if ?_ | refine end_ret hE rfl rfl ?_ | refine end_norm hE rfl rfl ?_ | refine endG_ret [] hE rfl ?_ | refine endG_norm [] hE rfl ?_ | refine vcall_A ?_); simp (maxSteps := 2000000) only [go_sem, hP, ↓reduceIte, Nat.reduceAdd, Nat.reduceMul, Nat.reduceEqDiff, Nat.reduceSub, Nat.reduceLeDiff, reduceCtorEq])
    | refine ev_skip ?_ | refine ev_block ?_ | refine ev_blk ?_ | refine ev_ret ?_ | refine ev_exit ?_ | refine evx_code_ret ?_ | refine evx_blk_ret ?_ | refine evx_lp_ret ?_
    | refine evx_code_exit ?_ | refine evx_lp_exit ?_ | refine evx_blk_hit ?_ | refine evx_blk_pass (by decide) ?_
    | refine And.intro ?_ ?_ | intro _ | decide +kernel | omega)
  refine ev_loop (ι := Nat) (fun k => [(3, .c (.int .i64 0)), (6, .c (sI xs)), (7, .c (.int .i64 xs.length)), (8, .c (.int .i64 k))]) (fun k => []) (fun _ => []) (fun k => k ≤ xs.length ∧ allLt k (fun j => decide (id (xs.getD j default) = 0)) = true) (fun k => xs.length - k) 0 [] (by simp [allLt_zero] <;> omega) (by simp only [go_sem, hP, ↓reduceIte, Nat.reduceAdd, Nat.reduceMul, Nat.reduceEqDiff, Nat.reduceSub, Nat.reduceLeDiff, reduceCtorEq]; simp) ?_
  intro k hk
  repeat' (first
    | exact True.intro
    | refine ev_seq ?_
    | ((first | refine vgd_go ?_ | refine ev_region hE hM (hS (by decide +kernel)) ?_ | refine ev_if ?_ | refine end_ret hE rfl rfl ?_ | refine end_norm hE rfl rfl ?_ | refine endG_ret [] hE rfl ?_ | refine endG_norm [] hE rfl ?_ | refine vcall_A ?_); simp (maxSteps := 2000000) only [go_sem, hP, ↓reduceIte, Nat.reduceAdd, Nat.reduceMul, Nat.reduceEqDiff, Nat.reduceSub, Nat.reduceLeDiff, reduceCtorEq])
    | refine ev_skip ?_ | refine ev_block ?_ | refine ev_blk ?_ | refine ev_ret ?_ | refine ev_exit ?_ | refine evx_code_ret ?_ | refine evx_blk_ret ?_ | refine evx_lp_ret ?_
    | refine evx_code_exit ?_ | refine evx_lp_exit ?_ | refine evx_blk_hit ?_ | refine evx_blk_pass (by decide) ?_
    | refine And.intro ?_ ?_ | intro _ | decide +kernel | omega)
  · rename_i h1 h2
    have hz : id (xs.getD k default) ≠ 0 := by simpa using h2
    exact (firstF_here (f := id) (by omega) hk.2 hz).symm
  · rename_i h1 h2
    exact ev_lp (k + 1) [] ⟨by omega, allLt_step hk.2 (by simpa using h2)⟩ (by omega) (by simp only [go_sem, hP, ↓reduceIte, Nat.reduceAdd, Nat.reduceMul, Nat.reduceEqDiff, Nat.reduceSub, Nat.reduceLeDiff, reduceCtorEq]; simp; exact wrap_nat (by omega) hlen)
  · exact (firstF_done (f := id) (by omega) hk.2).symm
theorem s_Or (a b : Int) : Sat Try.prog 233 [.d (false, [.sl none 1 [[.int .i64 a], [.int .i64 b]]])] true (rI (if a ≠ 0 then a else b)) := by
  have : Sat Try.prog 233 [.d (false, [.sl none 1 [[.int .i64 a], [.int .i64 b]]])] true (rI (firstF id [a, b])) := s_OrL [a, b]
  have e : firstF id [a, b] = if a ≠ 0 then a else b := by
    by_cases h : a = 0 <;> by_cases h' : b = 0 <;> simp [firstF, h, h']
  rwa [e] at this
theorem ef_rf {d : Int} {e : Entry} (h : entryF d e = 0) : rf e.rect d = 0 := by
  unfold entryF at h; split at h
  · rename_i h1; exact absurd h h1
  · rename_i h1; simpa using h1
theorem esf_rf {xs : List Entry} {d : Int} (h : esf xs d = 0) : ∀ x ∈ xs, rf x.rect d = 0 := by
  unfold esf at h
  (repeat' split at h) <;> try omega
  rename_i h1 _
  exact fun x hx => ef_rf (firstF_zero (by simpa using h1) x hx)
theorem esf_lens {xs : List Entry} {d : Int} {r : Rect} (h1 : esf xs d = 0) (h2 : rf r d = 0) : ∀ x ∈ xs, Lens x.rect r ∧ x.rect.low.length ≤ 1048576 := by
  intro x hx
  have h3 := esf_rf h1 x hx
  have := rf_three h3
  exact ⟨lens_of h3 h2, by omega⟩
/-- Numbers that rise from one on. -/
def markedI (k : Int) (n : Nat) : List Int := (List.range n).map fun (j : Nat) => k + j
@[simp] theorem markedI_length (k : Int) (n : Nat) : (markedI k n).length = n := by simp [markedI]
theorem markedI_getD {k : Int} {n j : Nat} (h : j < n) : (markedI k n).getD j default = k + j := by
  rw [getD_lt (by simpa using h)]; simp [markedI]
/-- A row of numbers that is given: the key's name is none of the walk's own (those are multiples of 8). -/
@[go_sem] abbrev gI (κ : Nat) (xs : List Int) : Nat × Blk := (κ, .arr true 2 1 (xs.map eI))
@[go_sem] abbrev iT (n : Int) : T := .c (.int .i64 n)
/-- How far marks may go. -/
abbrev mMax : Int := 1000000000000
theorem s_markInt64S (xs : List Int) (k : Int) (h0 : 0 ≤ k) (h1 : k + xs.length ≤ mMax) : SatG Try.prog 124 false [.ref 1, iT k] [gI 1 xs] (iT (k + xs.length)) [gI 1 (markedI k xs.length)] := by
  refine satG_walk (fn := Try.f124) rfl rfl rfl (Nat.le_of_ble_eq_true rfl) (by simp) fun fr hP hN hdp hb1 hb2 => ?_
  have hE : (envOf fr Try.prog).Ok := envOf_ok hP
  have hM := follows_of hP
  have hS : ∀ {draw ops}, statB Try.f124.ntmps draw ops = true → statB (envOf fr Try.prog).fr.N draw ops = true := fun h => by rw [envOf_fr, hN]; exact h
  simp only [mMax] at h1
  repeat' (first
    | exact True.intro
    | refine ev_seq ?_
    | ((first | refine vgd_go ?_ | refine ev_region hE hM (hS (by decide +kernel)) ?_ | refine ev_if ?_ | refine end_ret hE rfl rfl ?_ | refine end_norm hE rfl rfl ?_ | refine endG_ret [] hE rfl ?_ | refine endG_norm [] hE rfl ?_ | refine vcall_A ?_); simp (maxSteps := 2000000) only [go_sem, hP, ↓reduceIte, Nat.reduceAdd, Nat.reduceMul, Nat.reduceEqDiff, Nat.reduceSub, Nat.reduceLeDiff, reduceCtorEq])
    | refine ev_skip ?_ | refine ev_block ?_ | refine ev_blk ?_ | refine ev_ret ?_ | refine ev_exit ?_ | refine evx_code_ret ?_ | refine evx_blk_ret ?_ | refine evx_lp_ret ?_
    | refine evx_code_exit ?_ | refine evx_lp_exit ?_ | refine evx_blk_hit ?_ | refine evx_blk_pass (by decide) ?_
    | refine And.intro ?_ ?_ | intro _ | decide +kernel | omega)
  refine ev_loop (ι := Nat) (fun j => [(0, .ref 1), (1, iT (k + j)), (5, iT j)]) (fun j => [gI 1 (mixF (fun i => k + i) xs j)]) (fun _ => [(0, .ref 1)]) (fun j => j ≤ xs.length) (fun j => xs.length - j) 0 [] (by omega) (by simp only [go_sem, hP, ↓reduceIte, Nat.reduceAdd, Nat.reduceMul, Nat.reduceEqDiff, Nat.reduceSub, Nat.reduceLeDiff, reduceCtorEq]; simp) ?_
  intro j hj
  have hw : j < xs.length → IntKind.i64.wrap (k + j + 1) = k + j + 1 := fun h => i64_in _ (by omega)
  repeat' (first
    | exact True.intro
    | refine ev_seq ?_
    | ((first | refine vgd_go ?_ | refine ev_region hE hM (hS (by decide +kernel)) ?_ | refine ev_if ?_ | refine end_ret hE rfl rfl ?_ | refine end_norm hE rfl rfl ?_ | refine endG_ret [] hE rfl ?_ | refine endG_norm [] hE rfl ?_ | refine vcall_A ?_); simp (maxSteps := 2000000) only [go_sem, hP, ↓reduceIte, Nat.reduceAdd, Nat.reduceMul, Nat.reduceEqDiff, Nat.reduceSub, Nat.reduceLeDiff, reduceCtorEq, mixF_length])
    | refine ev_skip ?_ | refine ev_block ?_ | refine ev_blk ?_ | refine ev_ret ?_ | refine ev_exit ?_ | refine evx_code_ret ?_ | refine evx_blk_ret ?_ | refine evx_lp_ret ?_
    | refine evx_code_exit ?_ | refine evx_lp_exit ?_ | refine evx_blk_hit ?_ | refine evx_blk_pass (by decide) ?_
    | refine And.intro ?_ ?_ | intro _ | decide +kernel | omega)
  · rename_i h
    exact ev_lp (j + 1) [] (by omega) (by omega) (by simp only [go_sem, hP, ↓reduceIte, Nat.reduceAdd, Nat.reduceMul, Nat.reduceEqDiff, Nat.reduceSub, Nat.reduceLeDiff, reduceCtorEq]; simp [hw (by omega)]; exact ⟨⟨by omega, i64_in _ (by omega)⟩, mixF_set_map (by omega)⟩)
  · obtain rfl : j = xs.length := by omega
    simp [markedI, mixF_full]
theorem s_heldInt64S (n : Nat) (k : Int) (h0 : 0 ≤ k) (h1 : k + n ≤ mMax) : Sat Try.prog 235 [aL (markedI k n), aI k] true (rI (k + n)) := by
  refine sat_walk (fn := Try.f235) rfl rfl rfl (Nat.le_of_ble_eq_true rfl) fun fr hP hN hbnd => ?_
  have hE : (envOf fr Try.prog).Ok := envOf_ok hP
  have hM := follows_of hP
  have hS : ∀ {draw ops}, statB Try.f235.ntmps draw ops = true → statB (envOf fr Try.prog).fr.N draw ops = true := fun h => by rw [envOf_fr, hN]; exact h
  simp only [mMax] at h1
  repeat' (first
    | exact True.intro
    | refine ev_seq ?_
    | ((first | refine vgd_go ?_ | refine ev_region hE hM (hS (by decide +kernel)) ?_ | refine ev_if ?_ | refine end_ret hE rfl rfl ?_ | refine end_norm hE rfl rfl ?_ | refine endG_ret [] hE rfl ?_ | refine endG_norm [] hE rfl ?_ | refine vcall_A ?_); simp (maxSteps := 2000000) only [go_sem, hP, ↓reduceIte, Nat.reduceAdd, Nat.reduceMul, Nat.reduceEqDiff, Nat.reduceSub, Nat.reduceLeDiff, reduceCtorEq])
    | refine ev_skip ?_ | refine ev_block ?_ | refine ev_blk ?_ | refine ev_ret ?_ | refine ev_exit ?_ | refine evx_code_ret ?_ | refine evx_blk_ret ?_ | refine evx_lp_ret ?_
    | refine evx_code_exit ?_ | refine evx_lp_exit ?_ | refine evx_blk_hit ?_ | refine evx_blk_pass (by decide) ?_
    | refine And.intro ?_ ?_ | intro _ | decide +kernel | omega)
  refine ev_loop (ι := Nat) (fun j => [(0, .c (sI (markedI k n))), (1, iT (k + j)), (5, iT j)]) (fun j => []) (fun _ => []) (fun j => j ≤ n) (fun j => n - j) 0 [] (by omega) (by simp only [go_sem, hP, ↓reduceIte, Nat.reduceAdd, Nat.reduceMul, Nat.reduceEqDiff, Nat.reduceSub, Nat.reduceLeDiff, reduceCtorEq]; simp) ?_
  intro j hj
  have hw : j < n → IntKind.i64.wrap (k + j + 1) = k + j + 1 := fun h => i64_in _ (by omega)
  have hg : j < n → (markedI k n).getD j default = k + j := fun h => markedI_getD h
  repeat' (first
    | exact True.intro
    | refine ev_seq ?_
    | ((first | refine vgd_go ?_ | refine ev_region hE hM (hS (by decide +kernel)) ?_ | refine ev_if ?_ | refine end_ret hE rfl rfl ?_ | refine end_norm hE rfl rfl ?_ | refine endG_ret [] hE rfl ?_ | refine endG_norm [] hE rfl ?_ | refine vcall_A ?_); simp (maxSteps := 2000000) only [go_sem, hP, ↓reduceIte, Nat.reduceAdd, Nat.reduceMul, Nat.reduceEqDiff, Nat.reduceSub, Nat.reduceLeDiff, reduceCtorEq, markedI_length])
    | refine ev_skip ?_ | refine ev_block ?_ | refine ev_blk ?_ | refine ev_ret ?_ | refine ev_exit ?_ | refine evx_code_ret ?_ | refine evx_blk_ret ?_ | refine evx_lp_ret ?_
    | refine evx_code_exit ?_ | refine evx_lp_exit ?_ | refine evx_blk_hit ?_ | refine evx_blk_pass (by decide) ?_
    | refine And.intro ?_ ?_ | intro _ | decide +kernel | omega)
  · rename_i h1 h2
    simp only [bne_iff_ne, ne_eq] at h2; exact absurd (hg (by omega)) h2
  · rename_i h1 h2
    exact ev_lp (j + 1) [] (by omega) (by omega) (by simp only [go_sem, hP, ↓reduceIte, Nat.reduceAdd, Nat.reduceMul, Nat.reduceEqDiff, Nat.reduceSub, Nat.reduceLeDiff, reduceCtorEq]; simp [hw (by omega)]; exact ⟨by omega, i64_in _ (by omega)⟩)
def markedR (k : Int) (r : Rect) : Rect := ⟨markedI k r.low.length, markedI (k + r.low.length) r.high.length⟩
theorem markedR_w (k : Int) (r : Rect) : wR (markedR k r) = wR r := by simp [markedR, wR]
@[go_sem] abbrev tR (a b : Nat) : T := .agg [.ref a, .ref b]
@[go_sem] abbrev gR (a b : Nat) (r : Rect) : List (Nat × Blk) := [gI a r.low, gI b r.high]
theorem s_l1Ints (xs : List Int) (hx : xs.length ≤ 1048576) : Sat Try.prog 247 [aL xs] true (rL xs) := by
  refine sat_walk (fn := Try.f247) rfl rfl rfl (Nat.le_of_ble_eq_true rfl) fun fr hP hN hbnd => ?_
  have hE : (envOf fr Try.prog).Ok := envOf_ok hP
  have hM := follows_of hP
  have hS : ∀ {draw ops}, statB Try.f247.ntmps draw ops = true → statB (envOf fr Try.prog).fr.N draw ops = true := fun h => by rw [envOf_fr, hN]; exact h
  have hlen := bndL hbnd
  repeat' (first
    | exact True.intro
    | refine ev_seq ?_
    | ((first | refine vgd_go ?_ | refine ev_region hE hM (hS (by decide +kernel)) ?_ | refine ev_if ?_ | refine end_ret hE rfl rfl ?_ | refine end_norm hE rfl rfl ?_ | refine endG_ret [] hE rfl ?_ | refine endG_norm [] hE rfl ?_ | refine vcall_A ?_); simp (maxSteps := 2000000) only [go_sem, hP, ↓reduceIte, Nat.reduceAdd, Nat.reduceMul, Nat.reduceEqDiff, Nat.reduceSub, Nat.reduceLeDiff, reduceCtorEq, Bool.and_self])
    | refine ev_skip ?_ | refine ev_block ?_ | refine ev_blk ?_ | refine ev_ret ?_ | refine ev_exit ?_ | refine evx_code_ret ?_ | refine evx_blk_ret ?_ | refine evx_lp_ret ?_
    | refine evx_code_exit ?_ | refine evx_lp_exit ?_ | refine evx_blk_hit ?_ | refine evx_blk_pass (by decide) ?_
    | refine And.intro ?_ ?_ | intro _ | decide +kernel | omega)
  all_goals (simp_all; done)
theorem s_l1Copy (r : Rect) (h1 : r.low.length ≤ 1048576) (h2 : r.high.length ≤ 1048576) : Sat Try.prog 151 [pR r] true (rR r) := by
  refine sat_walk (fn := Try.f151) rfl rfl rfl (Nat.le_of_ble_eq_true rfl) fun fr hP hN hbnd => ?_
  have hE : (envOf fr Try.prog).Ok := envOf_ok hP
  have hM := follows_of hP
  have hS : ∀ {draw ops}, statB Try.f151.ntmps draw ops = true → statB (envOf fr Try.prog).fr.N draw ops = true := fun h => by rw [envOf_fr, hN]; exact h
  repeat' (first
    | exact True.intro
    | refine ev_seq ?_
    | ((first | refine vgd_go ?_ | refine ev_region hE hM (hS (by decide +kernel)) ?_ | refine ev_if ?_ | refine end_ret hE rfl rfl ?_ | refine end_norm hE rfl rfl ?_ | refine endG_ret [] hE rfl ?_ | refine endG_norm [] hE rfl ?_ | refine vcallB_of hP (s_l1Ints _ h1) ?_ | refine vcallB_of hP (s_l1Ints _ h2) ?_ | refine vcall_A ?_); simp (maxSteps := 2000000) only [go_sem, hP, ↓reduceIte, Nat.reduceAdd, Nat.reduceMul, Nat.reduceEqDiff, Nat.reduceSub, Nat.reduceLeDiff, reduceCtorEq])
    | refine ev_skip ?_ | refine ev_block ?_ | refine ev_blk ?_ | refine ev_ret ?_ | refine ev_exit ?_ | refine evx_code_ret ?_ | refine evx_blk_ret ?_ | refine evx_lp_ret ?_
    | refine evx_code_exit ?_ | refine evx_lp_exit ?_ | refine evx_blk_hit ?_ | refine evx_blk_pass (by decide) ?_
    | refine And.intro ?_ ?_ | intro _ | decide +kernel | omega)
/-- How far the marks are, ahead of the j-th element; the first elements, marked. -/
def kS {α : Type} (w : α → Nat) (k : Int) (xs : List α) (j : Nat) : Int := k + sumW w (xs.take j)
def preS {α : Type} [Inhabited α] (f : Int → α → α) (w : α → Nat) (k : Int) (xs : List α) (j : Nat) : List α := (List.range j).map fun i => f (kS w k xs i) (xs.getD i default)
section
variable {α : Type} [Inhabited α] {f : Int → α → α} {w : α → Nat} {k : Int} {xs : List α} {j : Nat}
@[simp] theorem preS_length : (preS f w k xs j).length = j := by simp [preS]
theorem preS_zero : preS f w k xs 0 = [] := rfl
theorem preS_succ : preS f w k xs (j + 1) = preS f w k xs j ++ [f (kS w k xs j) (xs.getD j default)] := by simp [preS, List.range_succ]
theorem preS_getD {n : Nat} (h : j < n) : (preS f w k xs n).getD j default = f (kS w k xs j) (xs.getD j default) := by
  rw [getD_lt (by simpa using h)]; simp [preS]
theorem kS_zero : kS w k xs 0 = k := by simp [kS, sumW]
theorem kS_succ (h : j < xs.length) : kS w k xs (j + 1) = kS w k xs j + w (xs.getD j default) := by
  have := sumW_step (w := w) (d := default) h
  simp only [kS, this]; omega
theorem kS_le (j : Nat) : kS w k xs j ≤ k + sumW w xs := by
  have := sumW_le (w := w) (xs := xs) j
  simp only [kS]; omega
theorem kS_ge (j : Nat) : k ≤ kS w k xs j := by simp only [kS]; omega
theorem kS_done : kS w k xs xs.length = k + sumW w xs := by simp [kS]
theorem drop_map {β : Type} {g : α → β} (h : j < xs.length) : (xs.drop j).map g = g (xs.getD j default) :: (xs.drop (j + 1)).map g := by
  rw [List.drop_eq_getElem_cons h, getD_lt h]; rfl
end
def mwEntry (e : Entry) : Nat := wR e.rect + 2
def mkEntry (k : Int) (e : Entry) : Entry := ⟨markedR k e.rect, k + e.rect.low.length + e.rect.high.length, k + e.rect.low.length + e.rect.high.length + 1⟩
def markedEs (k : Int) (xs : List Entry) : List Entry := preS mkEntry mwEntry k xs xs.length
@[go_sem] abbrev gEs (κ : Nat) (xs : List Entry) : Nat × Blk := (κ, .arr true 85 4 (xs.map oEntry))
theorem s_markEntryS (xs : List Entry) (k : Int) (h0 : 0 ≤ k) (h1 : k + sumW mwEntry xs ≤ mMax) : SatG Try.prog 29 true [.ref 1, iT k] [gEs 1 xs] (iT (k + sumW mwEntry xs)) [gEs 1 (markedEs k xs)] := by
  refine satG_walk (fn := Try.f29) rfl rfl rfl (Nat.le_of_ble_eq_true rfl) (by simp) fun fr hP hN hdp hb1 hb2 => ?_
  have hE : (envOf fr Try.prog).Ok := envOf_ok hP
  have hM := follows_of hP
  have hS : ∀ {draw ops}, statB Try.f29.ntmps draw ops = true → statB (envOf fr Try.prog).fr.N draw ops = true := fun h => by rw [envOf_fr, hN]; exact h
  simp only [mMax] at h1
  have hY : ∀ b, (envOf fr Try.prog).fr.Y b → (envOf fr Try.prog).fr.X b := fun b hb => hdp rfl b hb
  have hlen : xs.length ≤ maxLen := by have := hb2.1.1; simpa using this
  repeat' (first
    | exact True.intro
    | refine ev_seq ?_
    | ((first | refine vgd_go ?_ | refine ev_region hE hM (hS (by decide +kernel)) ?_ | refine ev_if ?_ | refine end_ret hE rfl rfl ?_ | refine end_norm hE rfl rfl ?_ | refine endG_ret [] hE rfl ?_ | refine endG_norm [] hE rfl ?_ | refine vcall_A ?_); simp (maxSteps := 2000000) only [go_sem, hP, ↓reduceIte, Nat.reduceAdd, Nat.reduceMul, Nat.reduceEqDiff, Nat.reduceSub, Nat.reduceLeDiff, reduceCtorEq])
    | refine ev_skip ?_ | refine ev_block ?_ | refine ev_blk ?_ | refine ev_ret ?_ | refine ev_exit ?_ | refine evx_code_ret ?_ | refine evx_blk_ret ?_ | refine evx_lp_ret ?_
    | refine evx_code_exit ?_ | refine evx_lp_exit ?_ | refine evx_blk_hit ?_ | refine evx_blk_pass (by decide) ?_
    | refine And.intro ?_ ?_ | intro _ | decide +kernel | omega)
  refine ev_loop (ι := Nat) (fun j => [(0, .ref 1), (1, iT (kS mwEntry k xs j)), (5, iT j)]) (fun j => [(1, .arr true 85 4 ((preS mkEntry mwEntry k xs j).map oEntry ++ (xs.drop j).map oEntry))]) (fun _ => [(0, .ref 1)]) (fun j => j ≤ xs.length) (fun j => xs.length - j) 0 [] (by omega) (by simp only [go_sem, hP, ↓reduceIte, Nat.reduceAdd, Nat.reduceMul, Nat.reduceEqDiff, Nat.reduceSub, Nat.reduceLeDiff, reduceCtorEq]; simp [kS_zero, preS_zero]) ?_
  intro j hj
  have hrow : ((preS mkEntry mwEntry k xs j).map oEntry ++ (xs.drop j).map oEntry).length = xs.length := by simp; omega
  repeat' (first
    | exact True.intro
    | refine ev_seq ?_
    | ((first | refine ev_stop 4 ?_ | refine vgd_go ?_ | refine ev_region hE hM (hS (by decide +kernel)) ?_ | refine ev_if ?_ | refine end_ret hE rfl rfl ?_ | refine end_norm hE rfl rfl ?_ | refine endG_ret [] hE rfl ?_ | refine endG_norm [] hE rfl ?_ | refine vcall_A ?_); simp (maxSteps := 2000000) only [go_sem, hP, ↓reduceIte, Nat.reduceAdd, Nat.reduceMul, Nat.reduceEqDiff, Nat.reduceSub, Nat.reduceLeDiff, reduceCtorEq, hrow])
    | refine ev_skip ?_ | refine ev_block ?_ | refine ev_blk ?_ | refine ev_ret ?_ | refine ev_exit ?_ | refine evx_code_ret ?_ | refine evx_blk_ret ?_ | refine evx_lp_ret ?_
    | refine evx_code_exit ?_ | refine evx_lp_exit ?_ | refine evx_blk_hit ?_ | refine evx_blk_pass (by decide) ?_
    | refine And.intro ?_ ?_ | intro _ | decide +kernel | omega)
  · rename_i hlt
    have hlt' : j < xs.length := by omega
    have g1 := kS_le (w := mwEntry) (k := k) (xs := xs) (j + 1)
    have g2 := kS_succ (w := mwEntry) (k := k) hlt'
    have g3 := kS_ge (w := mwEntry) (k := k) (xs := xs) j
    have g4 : mwEntry (xs.getD j default) = (xs.getD j default).rect.low.length + (xs.getD j default).rect.high.length + 2 := rfl
    have g6 : kS mwEntry k xs (j + 1) = kS mwEntry k xs j + (xs.getD j default).rect.low.length + (xs.getD j default).rect.high.length + 1 + 1 := by omega
    have hw1 : IntKind.i64.wrap (kS mwEntry k xs j + (xs.getD j default).rect.low.length + (xs.getD j default).rect.high.length + 1) = kS mwEntry k xs j + (xs.getD j default).rect.low.length + (xs.getD j default).rect.high.length + 1 := i64_in _ (by omega)
    have hw2 : IntKind.i64.wrap (kS mwEntry k xs j + (xs.getD j default).rect.low.length + (xs.getD j default).rect.high.length + 1 + 1) = kS mwEntry k xs j + (xs.getD j default).rect.low.length + (xs.getD j default).rect.high.length + 1 + 1 := i64_in _ (by omega)
    have c1 := s_markInt64S (xs.getD j default).rect.low (kS mwEntry k xs j) (by omega) (by simp only [mMax]; omega)
    have c2 := s_markInt64S (xs.getD j default).rect.high (kS mwEntry k xs j + (xs.getD j default).rect.low.length) (by omega) (by simp only [mMax]; omega)
    first | refine Stop.mk ?_ | skip
    refine ev_cut [(0, .ref 1), (1, iT (kS mwEntry k xs j)), (5, iT j)] [(1, .arr true 85 4 ((preS mkEntry mwEntry k xs j).map oEntry ++ oEntry (xs.getD j default) :: (xs.drop (j + 1)).map oEntry))] [(0, .ref 1)] [] (by simp only [go_sem, hP, ↓reduceIte, Nat.reduceAdd, Nat.reduceMul, Nat.reduceEqDiff, Nat.reduceSub, Nat.reduceLeDiff, reduceCtorEq]; simp [drop_map hlt', oEntry_eq]) ?_
    refine ev_open 1 3 ((preS mkEntry mwEntry k xs j).map oEntry) ((xs.drop (j + 1)).map oEntry) (oEntry (xs.getD j default)) hY rfl (by simp only [go_sem, hP, ↓reduceIte, Nat.reduceAdd, Nat.reduceMul, Nat.reduceEqDiff, Nat.reduceSub, Nat.reduceLeDiff, reduceCtorEq] <;> simp) (by simp only [go_sem, hP, ↓reduceIte, Nat.reduceAdd, Nat.reduceMul, Nat.reduceEqDiff, Nat.reduceSub, Nat.reduceLeDiff, reduceCtorEq] <;> simp) ?_
    repeat' (first
      | exact True.intro
      | refine ev_seq ?_
      | ((first | refine vgd_go ?_ | refine ev_region hE hM (hS (by decide +kernel)) ?_ | refine ev_if ?_ | refine end_ret hE rfl rfl ?_ | refine end_norm hE rfl rfl ?_ | refine endG_ret [] hE rfl ?_ | refine endG_norm [] hE rfl ?_ | refine vcallG_of (args := [.ref 3, _]) [(1, 3)] [] hP c1 ?_ | refine vcallG_of (args := [.ref 1048579, _]) [(1, 1048579)] [] hP c2 ?_ | refine vcall_A ?_); simp (maxSteps := 2000000) only [go_sem, hP, ↓reduceIte, Nat.reduceAdd, Nat.reduceMul, Nat.reduceEqDiff, Nat.reduceSub, Nat.reduceLeDiff, reduceCtorEq, hw1, hw2, List.length_map, preS_length, List.length_drop])
      | refine ev_skip ?_ | refine ev_block ?_ | refine ev_blk ?_ | refine ev_ret ?_ | refine ev_exit ?_ | refine evx_code_ret ?_ | refine evx_blk_ret ?_ | refine evx_lp_ret ?_
      | refine evx_code_exit ?_ | refine evx_lp_exit ?_ | refine evx_blk_hit ?_ | refine evx_blk_pass (by decide) ?_
      | refine And.intro ?_ ?_ | intro _ | decide +kernel | omega)
    refine ev_cut [(0, .ref 1), (1, iT (kS mwEntry k xs (j + 1))), (5, iT (j + 1 : Nat))] [(1, .opn 85 4 ((preS mkEntry mwEntry k xs j).map oEntry) [.ref 3, .ref 1048579, iT (kS mwEntry k xs j + (xs.getD j default).rect.low.length + (xs.getD j default).rect.high.length), iT (kS mwEntry k xs j + (xs.getD j default).rect.low.length + (xs.getD j default).rect.high.length + 1)] ((xs.drop (j + 1)).map oEntry)), gI 3 (markedI (kS mwEntry k xs j) (xs.getD j default).rect.low.length), gI 1048579 (markedI (kS mwEntry k xs j + (xs.getD j default).rect.low.length) (xs.getD j default).rect.high.length)] [(0, .ref 1)] [] (by simp only [go_sem, hP, ↓reduceIte, Nat.reduceAdd, Nat.reduceMul, Nat.reduceEqDiff, Nat.reduceSub, Nat.reduceLeDiff, reduceCtorEq]; simp [g6, wrap_nat hlt' hlen]) ?_
    refine ev_close 1 [(0, 0), (0, 0), (0, 0), (0, 0)] (oEntry (mkEntry (kS mwEntry k xs j) (xs.getD j default))) [3, 1048579] rfl rfl (by decide) (by decide) ?_
    exact ev_lp (j + 1) [] (by omega) (by omega) (by simp only [go_sem, hP, ↓reduceIte, Nat.reduceAdd, Nat.reduceMul, Nat.reduceEqDiff, Nat.reduceSub, Nat.reduceLeDiff, reduceCtorEq]; simp [preS_succ, oEntry_eq])
  · obtain rfl : j = xs.length := by omega
    exact kS_done
  · obtain rfl : j = xs.length := by omega
    simp [markedEs]
theorem s_heldEntryS (xs : List Entry) (k : Int) (h0 : 0 ≤ k) (h1 : k + sumW mwEntry xs ≤ mMax) : Sat Try.prog 125 [aEntryS (markedEs k xs), aI k] true (rI (k + sumW mwEntry xs)) := by
  refine sat_walk (fn := Try.f125) rfl rfl rfl (Nat.le_of_ble_eq_true rfl) fun fr hP hN hbnd => ?_
  have hE : (envOf fr Try.prog).Ok := envOf_ok hP
  have hM := follows_of hP
  have hS : ∀ {draw ops}, statB Try.f125.ntmps draw ops = true → statB (envOf fr Try.prog).fr.N draw ops = true := fun h => by rw [envOf_fr, hN]; exact h
  simp only [mMax] at h1
  have hlen := bnd_EntryS hbnd
  have hl : (markedEs k xs).length = xs.length := by simp [markedEs]
  repeat' (first
    | exact True.intro
    | refine ev_seq ?_
    | ((first | refine vgd_go ?_ | refine ev_region hE hM (hS (by decide +kernel)) ?_ | refine ev_if ?_ | refine end_ret hE rfl rfl ?_ | refine end_norm hE rfl rfl ?_ | refine endG_ret [] hE rfl ?_ | refine endG_norm [] hE rfl ?_ | refine vcall_A ?_); simp (maxSteps := 2000000) only [go_sem, hP, ↓reduceIte, Nat.reduceAdd, Nat.reduceMul, Nat.reduceEqDiff, Nat.reduceSub, Nat.reduceLeDiff, reduceCtorEq])
    | refine ev_skip ?_ | refine ev_block ?_ | refine ev_blk ?_ | refine ev_ret ?_ | refine ev_exit ?_ | refine evx_code_ret ?_ | refine evx_blk_ret ?_ | refine evx_lp_ret ?_
    | refine evx_code_exit ?_ | refine evx_lp_exit ?_ | refine evx_blk_hit ?_ | refine evx_blk_pass (by decide) ?_
    | refine And.intro ?_ ?_ | intro _ | decide +kernel | omega)
  refine ev_loop (ι := Nat) (fun j => [(0, .c (sEntryS (markedEs k xs))), (1, iT (kS mwEntry k xs j)), (5, iT j)]) (fun j => []) (fun _ => []) (fun j => j ≤ xs.length) (fun j => xs.length - j) 0 [] (by omega) (by simp only [go_sem, hP, ↓reduceIte, Nat.reduceAdd, Nat.reduceMul, Nat.reduceEqDiff, Nat.reduceSub, Nat.reduceLeDiff, reduceCtorEq]; simp [kS_zero]) ?_
  intro j hj
  by_cases hlt' : j < xs.length
  · have g0 : (markedEs k xs).getD j default = mkEntry (kS mwEntry k xs j) (xs.getD j default) := preS_getD hlt'
    have g1 := kS_le (w := mwEntry) (k := k) (xs := xs) (j + 1)
    have g2 := kS_succ (w := mwEntry) (k := k) hlt'
    have g3 := kS_ge (w := mwEntry) (k := k) (xs := xs) j
    have g4 : mwEntry (xs.getD j default) = (xs.getD j default).rect.low.length + (xs.getD j default).rect.high.length + 2 := rfl
    have g6 : kS mwEntry k xs (j + 1) = kS mwEntry k xs j + (xs.getD j default).rect.low.length + (xs.getD j default).rect.high.length + 1 + 1 := by omega
    have g5 : wR (xs.getD j default).rect = (xs.getD j default).rect.low.length + (xs.getD j default).rect.high.length := rfl
    have hw1 : IntKind.i64.wrap (kS mwEntry k xs j + (xs.getD j default).rect.low.length + (xs.getD j default).rect.high.length + 1) = kS mwEntry k xs j + (xs.getD j default).rect.low.length + (xs.getD j default).rect.high.length + 1 := i64_in _ (by omega)
    have hw2 : IntKind.i64.wrap (kS mwEntry k xs j + (xs.getD j default).rect.low.length + (xs.getD j default).rect.high.length + 1 + 1) = kS mwEntry k xs j + (xs.getD j default).rect.low.length + (xs.getD j default).rect.high.length + 1 + 1 := i64_in _ (by omega)
    have c1 := s_heldInt64S (xs.getD j default).rect.low.length (kS mwEntry k xs j) (by omega) (by simp only [mMax]; omega)
    have c2 := s_heldInt64S (xs.getD j default).rect.high.length (kS mwEntry k xs j + (xs.getD j default).rect.low.length) (by omega) (by simp only [mMax]; omega)
    repeat' (first
      | exact True.intro
      | refine ev_seq ?_
      | ((first | refine vgd_go ?_ | refine ev_region hE hM (hS (by decide +kernel)) ?_ | refine ev_if ?_ | refine end_ret hE rfl rfl ?_ | refine end_norm hE rfl rfl ?_ | refine endG_ret [] hE rfl ?_ | refine endG_norm [] hE rfl ?_ | refine vcallB_of hP c1 ?_ | refine vcallB_of hP c2 ?_ | refine vcall_A ?_); simp (maxSteps := 2000000) only [go_sem, hP, ↓reduceIte, Nat.reduceAdd, Nat.reduceMul, Nat.reduceEqDiff, Nat.reduceSub, Nat.reduceLeDiff, reduceCtorEq, g0, mkEntry, markedI_length, markedR, hl, hw1, hw2])
      | refine ev_skip ?_ | refine ev_block ?_ | refine ev_blk ?_ | refine ev_ret ?_ | refine ev_exit ?_ | refine evx_code_ret ?_ | refine evx_blk_ret ?_ | refine evx_lp_ret ?_
      | refine evx_code_exit ?_ | refine evx_lp_exit ?_ | refine evx_blk_hit ?_ | refine evx_blk_pass (by decide) ?_
      | refine And.intro ?_ ?_ | intro _ | decide +kernel | omega)
    all_goals first
      | exact ev_lp (j + 1) [] (by omega) (by omega) (by simp only [go_sem, hP, ↓reduceIte, Nat.reduceAdd, Nat.reduceMul, Nat.reduceEqDiff, Nat.reduceSub, Nat.reduceLeDiff, reduceCtorEq]; simp [g6, wrap_nat hlt' (by omega : xs.length ≤ maxLen)])
      | (exfalso; simp_all [bne_iff_ne] <;> omega)
  · obtain rfl : j = xs.length := by omega
    repeat' (first
      | exact True.intro
      | refine ev_seq ?_
      | ((first | refine vgd_go ?_ | refine ev_region hE hM (hS (by decide +kernel)) ?_ | refine ev_if ?_ | refine end_ret hE rfl rfl ?_ | refine end_norm hE rfl rfl ?_ | refine endG_ret [] hE rfl ?_ | refine endG_norm [] hE rfl ?_ | refine vcall_A ?_); simp (maxSteps := 2000000) only [go_sem, hP, ↓reduceIte, Nat.reduceAdd, Nat.reduceMul, Nat.reduceEqDiff, Nat.reduceSub, Nat.reduceLeDiff, reduceCtorEq, hl])
      | refine ev_skip ?_ | refine ev_block ?_ | refine ev_blk ?_ | refine ev_ret ?_ | refine ev_exit ?_ | refine evx_code_ret ?_ | refine evx_blk_ret ?_ | refine evx_lp_ret ?_
      | refine evx_code_exit ?_ | refine evx_lp_exit ?_ | refine evx_blk_hit ?_ | refine evx_blk_pass (by decide) ?_
      | refine And.intro ?_ ?_ | intro _ | decide +kernel | omega)
    all_goals first
      | exact kS_done
      | (exfalso; omega)
theorem wE_get {xs : List Entry} {i : Nat} (h : i < xs.length) (hw : wEntryS xs ≤ 1048576) : (xs.getD i default).rect.low.length ≤ 1048576 ∧ (xs.getD i default).rect.high.length ≤ 1048576 := by
  have := sumW_get (w := wEntry) (d := default) h
  have e : wEntry (xs.getD i default) = (xs.getD i default).rect.low.length + (xs.getD i default).rect.high.length := rfl
  unfold wEntryS at hw
  omega
theorem s_clonedEntries (xs : List Entry) (hw : wEntryS xs ≤ 1048576) : Sat Try.prog 230 [aEntryS xs] true (rEntryS xs) := by
  refine sat_walk (fn := Try.f230) rfl rfl rfl (Nat.le_of_ble_eq_true rfl) fun fr hP hN hbnd => ?_
  have hE : (envOf fr Try.prog).Ok := envOf_ok hP
  have hM := follows_of hP
  have hS : ∀ {draw ops}, statB Try.f230.ntmps draw ops = true → statB (envOf fr Try.prog).fr.N draw ops = true := fun h => by rw [envOf_fr, hN]; exact h
  have hlen : xs.length ≤ 1048576 := by unfold wEntryS at hw; omega
  repeat' (first
    | exact True.intro
    | refine ev_seq ?_
    | ((first | refine vgd_go ?_ | refine ev_region hE hM (hS (by decide +kernel)) ?_ | refine ev_if ?_ | refine end_ret hE rfl rfl ?_ | refine end_norm hE rfl rfl ?_ | refine endG_ret [] hE rfl ?_ | refine endG_norm [] hE rfl ?_ | refine vcall_A ?_); simp (maxSteps := 2000000) only [go_sem, hP, ↓reduceIte, Nat.reduceAdd, Nat.reduceMul, Nat.reduceEqDiff, Nat.reduceSub, Nat.reduceLeDiff, reduceCtorEq])
    | refine ev_skip ?_ | refine ev_block ?_ | refine ev_blk ?_ | refine ev_ret ?_ | refine ev_exit ?_ | refine evx_code_ret ?_ | refine evx_blk_ret ?_ | refine evx_lp_ret ?_
    | refine evx_code_exit ?_ | refine evx_lp_exit ?_ | refine evx_blk_hit ?_ | refine evx_blk_pass (by decide) ?_
    | refine And.intro ?_ ?_ | intro _ | decide +kernel | omega)
  refine ev_loop (ι := Nat) (fun k => [(3, .ref 100000), (7, .c (sEntryS xs)), (8, iT xs.length), (9, iT k)]) (fun k => [(100000, .arr true 85 4 ((xs.take k).map oEntry))]) (fun _ => []) (fun k => k ≤ xs.length) (fun k => xs.length - k) 0 [(100000, some 4096)] (by omega) (by simp only [go_sem, hP, ↓reduceIte, Nat.reduceAdd, Nat.reduceMul, Nat.reduceEqDiff, Nat.reduceSub, Nat.reduceLeDiff, reduceCtorEq]; simp) ?_
  intro k hk
  have hw1 : k < xs.length → IntKind.i64.wrap ((k : Int) + 1) = k + 1 := fun h => i64_in _ (by omega)
  have htl : ((xs.take k).map oEntry).length = k := by simp; omega
  by_cases hlt : k < xs.length
  · have hg := wE_get hlt hw
    repeat' (first
      | exact True.intro
      | refine ev_seq ?_
      | ((first | refine vgd_go ?_ | refine ev_region hE hM (hS (by decide +kernel)) ?_ | refine ev_if ?_ | refine end_ret hE rfl rfl ?_ | refine end_norm hE rfl rfl ?_ | refine endG_ret [] hE rfl ?_ | refine endG_norm [] hE rfl ?_ | refine vcallB_of hP (s_cloned (xs.getD k default).rect hg.1 hg.2) ?_ | refine vcall_A ?_); simp (maxSteps := 2000000) only [go_sem, hP, ↓reduceIte, Nat.reduceAdd, Nat.reduceMul, Nat.reduceEqDiff, Nat.reduceSub, Nat.reduceLeDiff, reduceCtorEq, htl, Bool.and_self])
      | refine ev_skip ?_ | refine ev_block ?_ | refine ev_blk ?_ | refine ev_ret ?_ | refine ev_exit ?_ | refine evx_code_ret ?_ | refine evx_blk_ret ?_ | refine evx_lp_ret ?_
      | refine evx_code_exit ?_ | refine evx_lp_exit ?_ | refine evx_blk_hit ?_ | refine evx_blk_pass (by decide) ?_
      | refine And.intro ?_ ?_ | intro _ | decide +kernel | omega)
    all_goals first
      | exact ev_lp (k + 1) [(100000, some 20560)] (by omega) (by omega) (by simp only [go_sem, hP, ↓reduceIte, Nat.reduceAdd, Nat.reduceMul, Nat.reduceEqDiff, Nat.reduceSub, Nat.reduceLeDiff, reduceCtorEq]; rw [take_step (d := default) hlt]; simp [hw1 hlt, oEntry_eq])
      | (exfalso; omega)
      | (simp_all; done)
  · obtain rfl : k = xs.length := by omega
    repeat' (first
      | exact True.intro
      | refine ev_seq ?_
      | ((first | refine vgd_go ?_ | refine ev_region hE hM (hS (by decide +kernel)) ?_ | refine ev_if ?_ | refine end_ret hE rfl rfl ?_ | refine end_norm hE rfl rfl ?_ | refine endG_ret [] hE rfl ?_ | refine endG_norm [] hE rfl ?_ | refine vcall_A ?_); simp (maxSteps := 2000000) only [go_sem, hP, ↓reduceIte, Nat.reduceAdd, Nat.reduceMul, Nat.reduceEqDiff, Nat.reduceSub, Nat.reduceLeDiff, reduceCtorEq, htl, List.take_length])
      | refine ev_skip ?_ | refine ev_block ?_ | refine ev_blk ?_ | refine ev_ret ?_ | refine ev_exit ?_ | refine evx_code_ret ?_ | refine evx_blk_ret ?_ | refine evx_lp_ret ?_
      | refine evx_code_exit ?_ | refine evx_lp_exit ?_ | refine evx_blk_hit ?_ | refine evx_blk_pass (by decide) ?_
      | refine And.intro ?_ ?_ | intro _ | decide +kernel | omega)
    all_goals first
      | (exfalso; omega)
      | (simp_all; done)
theorem s_l3Entries (xs : List Entry) (hw : wEntryS xs ≤ 1048576) : Sat Try.prog 120 [aEntryS xs] true (rEntryS xs) := by
  refine sat_walk (fn := Try.f120) rfl rfl rfl (Nat.le_of_ble_eq_true rfl) fun fr hP hN hbnd => ?_
  have hE : (envOf fr Try.prog).Ok := envOf_ok hP
  have hM := follows_of hP
  have hS : ∀ {draw ops}, statB Try.f120.ntmps draw ops = true → statB (envOf fr Try.prog).fr.N draw ops = true := fun h => by rw [envOf_fr, hN]; exact h
  have hlen : xs.length ≤ 1048576 := by unfold wEntryS at hw; omega
  repeat' (first
    | exact True.intro
    | refine ev_seq ?_
    | ((first | refine vgd_go ?_ | refine ev_region hE hM (hS (by decide +kernel)) ?_ | refine ev_if ?_ | refine end_ret hE rfl rfl ?_ | refine end_norm hE rfl rfl ?_ | refine endG_ret [] hE rfl ?_ | refine endG_norm [] hE rfl ?_ | refine vcall_A ?_); simp (maxSteps := 2000000) only [go_sem, hP, ↓reduceIte, Nat.reduceAdd, Nat.reduceMul, Nat.reduceEqDiff, Nat.reduceSub, Nat.reduceLeDiff, reduceCtorEq])
    | refine ev_skip ?_ | refine ev_block ?_ | refine ev_blk ?_ | refine ev_ret ?_ | refine ev_exit ?_ | refine evx_code_ret ?_ | refine evx_blk_ret ?_ | refine evx_lp_ret ?_
    | refine evx_code_exit ?_ | refine evx_lp_exit ?_ | refine evx_blk_hit ?_ | refine evx_blk_pass (by decide) ?_
    | refine And.intro ?_ ?_ | intro _ | decide +kernel | omega)
  refine ev_loop (ι := Nat) (fun k => [(0, .c (sEntryS xs)), (3, .ref 100000), (4, iT k)]) (fun k => [(100000, .arr true 85 4 ((xs.take k).map oEntry))]) (fun _ => []) (fun k => k ≤ xs.length) (fun k => xs.length - k) 0 [(100000, some 4096)] (by omega) (by simp only [go_sem, hP, ↓reduceIte, Nat.reduceAdd, Nat.reduceMul, Nat.reduceEqDiff, Nat.reduceSub, Nat.reduceLeDiff, reduceCtorEq]; simp) ?_
  intro k hk
  have hw1 : k < xs.length → IntKind.i64.wrap ((k : Int) + 1) = k + 1 := fun h => i64_in _ (by omega)
  have htl : ((xs.take k).map oEntry).length = k := by simp; omega
  by_cases hlt : k < xs.length
  · have hg := wE_get hlt hw
    repeat' (first
      | exact True.intro
      | refine ev_seq ?_
      | ((first | refine vgd_go ?_ | refine ev_region hE hM (hS (by decide +kernel)) ?_ | refine ev_if ?_ | refine end_ret hE rfl rfl ?_ | refine end_norm hE rfl rfl ?_ | refine endG_ret [] hE rfl ?_ | refine endG_norm [] hE rfl ?_ | refine vcallB_of hP (s_l1Copy (xs.getD k default).rect hg.1 hg.2) ?_ | refine vcall_A ?_); simp (maxSteps := 2000000) only [go_sem, hP, ↓reduceIte, Nat.reduceAdd, Nat.reduceMul, Nat.reduceEqDiff, Nat.reduceSub, Nat.reduceLeDiff, reduceCtorEq, htl, Bool.and_self])
      | refine ev_skip ?_ | refine ev_block ?_ | refine ev_blk ?_ | refine ev_ret ?_ | refine ev_exit ?_ | refine evx_code_ret ?_ | refine evx_blk_ret ?_ | refine evx_lp_ret ?_
      | refine evx_code_exit ?_ | refine evx_lp_exit ?_ | refine evx_blk_hit ?_ | refine evx_blk_pass (by decide) ?_
      | refine And.intro ?_ ?_ | intro _ | decide +kernel | omega)
    all_goals first
      | exact ev_lp (k + 1) [(100000, some 28696)] (by omega) (by omega) (by simp only [go_sem, hP, ↓reduceIte, Nat.reduceAdd, Nat.reduceMul, Nat.reduceEqDiff, Nat.reduceSub, Nat.reduceLeDiff, reduceCtorEq]; rw [take_step (d := default) hlt]; simp [hw1 hlt, oEntry_eq])
      | (exfalso; omega)
      | (simp_all; done)
  · obtain rfl : k = xs.length := by omega
    repeat' (first
      | exact True.intro
      | refine ev_seq ?_
      | ((first | refine vgd_go ?_ | refine ev_region hE hM (hS (by decide +kernel)) ?_ | refine ev_if ?_ | refine end_ret hE rfl rfl ?_ | refine end_norm hE rfl rfl ?_ | refine endG_ret [] hE rfl ?_ | refine endG_norm [] hE rfl ?_ | refine vcall_A ?_); simp (maxSteps := 2000000) only [go_sem, hP, ↓reduceIte, Nat.reduceAdd, Nat.reduceMul, Nat.reduceEqDiff, Nat.reduceSub, Nat.reduceLeDiff, reduceCtorEq, htl, List.take_length])
      | refine ev_skip ?_ | refine ev_block ?_ | refine ev_blk ?_ | refine ev_ret ?_ | refine ev_exit ?_ | refine evx_code_ret ?_ | refine evx_blk_ret ?_ | refine evx_lp_ret ?_
      | refine evx_code_exit ?_ | refine evx_lp_exit ?_ | refine evx_blk_hit ?_ | refine evx_blk_pass (by decide) ?_
      | refine And.intro ?_ ?_ | intro _ | decide +kernel | omega)
    all_goals first
      | (exfalso; omega)
      | (simp_all; done)
/-- All boxes have as many numbers as n tells. -/
def Even (xs : List Entry) (n : Nat) : Prop := ∀ x ∈ xs, x.rect.low.length = n ∧ x.rect.high.length = n
theorem even_get {xs : List Entry} {n k : Nat} (h : Even xs n) (hk : k < xs.length) : (xs.getD k default).rect.low.length = n ∧ (xs.getD k default).rect.high.length = n := h _ (getD_mem hk)
theorem even_drop {xs : List Entry} {n k : Nat} (h : Even xs n) : Even (xs.drop k) n := fun x hx => h x (List.mem_of_mem_drop hx)
theorem even_take {xs : List Entry} {n k : Nat} (h : Even xs n) : Even (xs.take k) n := fun x hx => h x (List.mem_of_mem_take hx)
def boxTo (xs : List Entry) : Nat → Rect
  | 0 => (xs.getD 0 default).rect
  | k + 1 => un (boxTo xs k) (xs.getD (k + 1) default).rect
theorem boxTo_zero (xs : List Entry) : boxTo xs 0 = (xs.getD 0 default).rect := rfl
theorem boxTo_succ (xs : List Entry) (k : Nat) : boxTo xs (k + 1) = un (boxTo xs k) (xs.getD (k + 1) default).rect := rfl
def bx (xs : List Entry) : Rect := boxTo xs (xs.length - 1)
theorem un_size {a b : Rect} : (un a b).low.length = a.low.length ∧ (un a b).high.length = a.low.length := by simp [un]
theorem boxTo_size {xs : List Entry} {n : Nat} (h : Even xs n) : ∀ k, k < xs.length → (boxTo xs k).low.length = n ∧ (boxTo xs k).high.length = n
  | 0, hk => even_get h hk
  | k + 1, hk => by
    have := boxTo_size h k (by omega)
    rw [boxTo_succ]
    exact ⟨by rw [un_size.1]; exact this.1, by rw [un_size.2]; exact this.1⟩
theorem boxTo_lens {xs : List Entry} {n k : Nat} (h : Even xs n) (hk : k + 1 < xs.length) : Lens (boxTo xs k) (xs.getD (k + 1) default).rect := by
  have h1 := boxTo_size h k (by omega)
  have h2 := even_get h hk
  exact ⟨by omega, by omega, by omega⟩
theorem bx_size {xs : List Entry} {n : Nat} (h : Even xs n) (h0 : 0 < xs.length) : (bx xs).low.length = n ∧ (bx xs).high.length = n := boxTo_size h _ (by omega)
theorem nf_rf {n : Node} {d : Int} (h : nf n d = 0) : ∀ x ∈ n.entries, rf x.rect d = 0 := by
  unfold nf at h
  (repeat' split at h) <;> try omega
  all_goals first
    | (rename_i h1 h2 h3; exact fun x hx => ef_rf (firstF_zero (by simpa using ‹¬firstF (entryF d) n.entries ≠ 0›) x hx))
    | skip
theorem rf_even {xs : List Entry} {d : Int} (h : ∀ x ∈ xs, rf x.rect d = 0) : Even xs d.toNat := fun x hx => by
  have := rf_len (h x hx); omega
theorem rf_two {r : Rect} {d : Int} (h : rf r d = 0) : 2 ≤ d ∧ d ≤ 3 := by
  have h1 := rf_len h
  have h2 : pf r.low d = 0 := by unfold rf at h; split at h <;> simp_all
  have := pf_three h2
  unfold pf at h2; split at h2 <;> simp_all [inB]
def waste (xs : List Entry) (i j : Nat) : Int := IntKind.i64.wrap (growth (xs.getD i default).rect (xs.getD j default).rect - area (xs.getD j default).rect)
structure Sd where
  x : Int
  y : Int
  most : Int
def sdStep (xs : List Entry) (i j : Nat) (s : Sd) : Sd := if s.most < waste xs i j then ⟨i, j, waste xs i j⟩ else s
def sdIn (xs : List Entry) (i : Nat) (s : Sd) : Nat → Sd
  | 0 => s
  | m + 1 => sdStep xs i (i + 1 + m) (sdIn xs i s m)
def sdOut (xs : List Entry) : Nat → Sd
  | 0 => ⟨0, 1, waste xs 0 1⟩
  | i + 1 => sdIn xs i (sdOut xs i) (xs.length - 1 - i)
def sd (xs : List Entry) : Sd := sdOut xs xs.length
/-- The same as the program sees it: none at the start. -/
def sdI (xs : List Entry) (i m : Nat) : Sd := if i = 0 ∧ m = 0 then ⟨-1, -1, 0⟩ else sdIn xs i (sdOut xs i) m
theorem sdStep_yes {xs : List Entry} {i j : Nat} {s : Sd} (h : s.most < waste xs i j) : sdStep xs i j s = ⟨i, j, waste xs i j⟩ := if_pos h
theorem sdStep_no {xs : List Entry} {i j : Nat} {s : Sd} (h : ¬ s.most < waste xs i j) : sdStep xs i j s = s := if_neg h
/-- The seeds lie in the list, one ahead of the other. -/
def SdOk (n : Nat) (s : Sd) : Prop := ∃ x y : Nat, s.x = x ∧ s.y = y ∧ x < y ∧ y < n
theorem sdStep_ok {xs : List Entry} {i j : Nat} {s : Sd} (h : SdOk xs.length s) (h1 : i < j) (h2 : j < xs.length) : SdOk xs.length (sdStep xs i j s) := by
  unfold sdStep; split
  · exact ⟨i, j, rfl, rfl, h1, h2⟩
  · exact h
theorem sdIn_ok {xs : List Entry} {i : Nat} {s : Sd} (h : SdOk xs.length s) : ∀ m, i + m < xs.length → SdOk xs.length (sdIn xs i s m)
  | 0, _ => h
  | m + 1, hm => sdStep_ok (sdIn_ok h m (by omega)) (by omega) (by omega)
theorem sdOut_ok {xs : List Entry} (h : 2 ≤ xs.length) : ∀ i, i ≤ xs.length → SdOk xs.length (sdOut xs i)
  | 0, _ => ⟨0, 1, rfl, rfl, by omega, by omega⟩
  | i + 1, hi => sdIn_ok (sdOut_ok h i (by omega)) _ (by omega)
theorem sd_ok {xs : List Entry} (h : 2 ≤ xs.length) : SdOk xs.length (sd xs) := sdOut_ok h _ (Nat.le_refl _)
theorem sdI_first {xs : List Entry} : sdI xs 0 0 = ⟨-1, -1, 0⟩ := rfl
theorem sdI_later {xs : List Entry} {i m : Nat} (h : ¬ (i = 0 ∧ m = 0)) : sdI xs i m = sdIn xs i (sdOut xs i) m := if_neg h
theorem sdI_neg {xs : List Entry} {i m : Nat} (h2 : 2 ≤ xs.length) (hi : i + m < xs.length) : (sdI xs i m).x < 0 ↔ i = 0 ∧ m = 0 := by
  by_cases h : i = 0 ∧ m = 0
  · obtain ⟨rfl, rfl⟩ := h; simp [sdI_first]
  · rw [sdI_later h]
    obtain ⟨x, y, e1, e2, e3, e4⟩ := sdIn_ok (i := i) (sdOut_ok h2 i (by omega)) m hi
    simp only [h, iff_false]; omega
theorem sdI_yes {xs : List Entry} {i m : Nat} (h2 : 2 ≤ xs.length) (hi : i + 1 + m < xs.length) (h : (sdI xs i m).x < 0 ∨ (sdI xs i m).most < waste xs i (i + 1 + m)) : sdI xs i (m + 1) = ⟨i, (i + 1 + m : Nat), waste xs i (i + 1 + m)⟩ := by
  by_cases h0 : i = 0 ∧ m = 0
  · obtain ⟨rfl, rfl⟩ := h0
    show sdStep xs 0 1 ⟨0, 1, waste xs 0 1⟩ = _
    rw [sdStep_no (by simp)]; rfl
  · have h1 : ¬ (sdI xs i m).x < 0 := fun h3 => h0 ((sdI_neg h2 (by omega)).mp h3)
    have h3 := h.resolve_left h1
    rw [sdI_later h0] at h3
    rw [sdI_later (by omega)]
    exact sdStep_yes h3
theorem sdI_no {xs : List Entry} {i m : Nat} (h2 : 2 ≤ xs.length) (hi : i + 1 + m < xs.length) (h : ¬ ((sdI xs i m).x < 0 ∨ (sdI xs i m).most < waste xs i (i + 1 + m))) : sdI xs i (m + 1) = sdI xs i m := by
  have h0 : ¬ (i = 0 ∧ m = 0) := fun h3 => h (.inl ((sdI_neg h2 (by omega)).mpr h3))
  rw [sdI_later h0] at h ⊢
  rw [sdI_later (by omega)]
  exact sdStep_no (fun h3 => h (.inr h3))
theorem sdI_next {xs : List Entry} {i : Nat} (h2 : 2 ≤ xs.length) (hi : i < xs.length) : sdI xs (i + 1) 0 = sdI xs i (xs.length - 1 - i) := by
  rw [sdI_later (by omega), sdI_later (by omega)]; rfl
theorem sdI_last {xs : List Entry} (h2 : 2 ≤ xs.length) : sdI xs xs.length 0 = sd xs := by
  rw [sdI_later (by omega)]; rfl
def weC (n : Node) (d : Int) (e : Entry) : Int := if nf n d ≠ 0 then nf n d else if entryF d e ≠ 0 then entryF d e else if fits n.level e = false then 1 else if 0 ≤ findRef n.entries e.ref then 6 else if (4 : Int) < n.entries.length then 7 else 0
def weV (n : Node) (d : Int) (e : Entry) : Node := if weC n d e = 0 then ⟨n.level, n.nsn, n.right, n.entries ++ [e]⟩ else ⟨0, 0, 0, []⟩
def wdC (n : Node) (d r : Int) (b : Rect) : Int := if nf n d ≠ 0 then nf n d else if rf b d ≠ 0 then rf b d else if findRef n.entries r < 0 then 4 else 0
def wider (e : Entry) (b : Rect) : Entry := ⟨un e.rect b, e.ref, e.nsn⟩
def wdV (n : Node) (d r : Int) (b : Rect) : Node := if wdC n d r b = 0 then ⟨n.level, n.nsn, n.right, n.entries.set (findRef n.entries r).toNat (wider (n.entries.getD (findRef n.entries r).toNat default) b)⟩ else ⟨0, 0, 0, []⟩
theorem nf_inB {n : Node} {d : Int} (h : nf n d = 0) : inB d 2 3 = true ∧ n.entries.length ≤ 5 := by
  unfold nf at h
  (repeat' split at h) <;> simp_all <;> omega
theorem nf_small {n : Node} {d : Int} (h : nf n d = 0) : d.toNat ≤ 1048576 := by
  have := (nf_inB h).1
  simp [inB] at this; omega
theorem esf_small {xs : List Entry} {d : Int} (h : esf xs d = 0) : d.toNat ≤ 1048576 := by
  unfold esf at h
  (repeat' split at h) <;> simp_all [inB] <;> omega
theorem even_w {xs : List Entry} {d : Int} (h : ∀ x ∈ xs, rf x.rect d = 0) : wEntryS xs ≤ 7 * xs.length := by
  unfold wEntryS
  have : ∀ ys : List Entry, (∀ x ∈ ys, rf x.rect d = 0) → sumW wEntry ys ≤ 6 * ys.length := by
    intro ys
    induction ys with
    | nil => intro _; exact Nat.zero_le _
    | cons y ys ih =>
      intro hy
      have e2 : sumW wEntry (y :: ys) = wEntry y + sumW wEntry ys := rfl
      have h1 := hy y (by simp)
      have h2 := rf_len h1
      have h3 := rf_two h1
      have h4 := ih fun x hx => hy x (by simp [hx])
      have e3 : wEntry y = y.rect.low.length + y.rect.high.length := rfl
      rw [e2, List.length_cons, e3]; omega
  have := this xs h
  omega
theorem nf_w {n : Node} {d : Int} (h : nf n d = 0) : wEntryS n.entries ≤ 35 := by
  have h1 := even_w (nf_rf h)
  have h2 := (nf_inB h).2
  omega
theorem findRef_get {xs : List Entry} {r : Int} (h : 0 ≤ findRef xs r) : ∃ i : Nat, findRef xs r = i ∧ i < xs.length ∧ (xs.getD i default).ref = r := by
  unfold findRef at h ⊢
  split at h
  · rename_i ha
    rw [if_pos ha]
    have hi : xs.findIdx (fun e => decide (e.ref = r)) < xs.length := by
      rw [List.findIdx_lt_length]; simpa using ha
    refine ⟨_, rfl, hi, ?_⟩
    rw [getD_lt hi]
    have := List.findIdx_getElem (w := hi)
    simpa using this
  · omega
theorem s_l3Box (xs : List Entry) (n : Nat) (h : Even xs n) (h0 : 0 < xs.length) (hn : n ≤ 1048576) : Sat Try.prog 182 [aEntryS xs] true (rR (bx xs)) := by
  refine sat_walk (fn := Try.f182) rfl rfl rfl (Nat.le_of_ble_eq_true rfl) fun fr hP hN hbnd => ?_
  have hE : (envOf fr Try.prog).Ok := envOf_ok hP
  have hM := follows_of hP
  have hS : ∀ {draw ops}, statB Try.f182.ntmps draw ops = true → statB (envOf fr Try.prog).fr.N draw ops = true := fun h => by rw [envOf_fr, hN]; exact h
  have hlen := bnd_EntryS hbnd
  have g0 := even_get h h0
  repeat' (first
    | exact True.intro
    | refine ev_seq ?_
    | ((first | refine vgd_go ?_ | refine ev_region hE hM (hS (by decide +kernel)) ?_ | refine ev_if ?_ | refine end_ret hE rfl rfl ?_ | refine end_norm hE rfl rfl ?_ | refine endG_ret [] hE rfl ?_ | refine endG_norm [] hE rfl ?_ | refine vcallB_of hP (s_l1Copy (xs.getD 0 default).rect (by omega) (by omega)) ?_ | refine vcall_A ?_); simp (maxSteps := 2000000) only [go_sem, hP, ↓reduceIte, Nat.reduceAdd, Nat.reduceMul, Nat.reduceEqDiff, Nat.reduceSub, Nat.reduceLeDiff, reduceCtorEq])
    | refine ev_skip ?_ | refine ev_block ?_ | refine ev_blk ?_ | refine ev_ret ?_ | refine ev_exit ?_ | refine evx_code_ret ?_ | refine evx_blk_ret ?_ | refine evx_lp_ret ?_
    | refine evx_code_exit ?_ | refine evx_lp_exit ?_ | refine evx_blk_hit ?_ | refine evx_blk_pass (by decide) ?_
    | refine And.intro ?_ ?_ | intro _ | decide +kernel | omega)
  all_goals first | (exfalso; omega) | skip
  refine ev_loop (ι := Nat) (fun k => [(0, .c (sEntryS xs)), (2, .ptr 0 0), (3, .ptr 4128 0), (4, iT (k + 1))]) (fun k => [(0, .box [.nilS, .nilS]), (4128, .box [.ref 100000, .ref 100001]), (100000, .arr true 2 1 ((boxTo xs k).low.map eI)), (100001, .arr true 2 1 ((boxTo xs k).high.map eI))]) (fun _ => []) (fun k => k + 1 ≤ xs.length) (fun k => xs.length - k) 0 [(100000, some 4120), (100001, some 1052696)] (by omega) (by simp only [go_sem, hP, ↓reduceIte, Nat.reduceAdd, Nat.reduceMul, Nat.reduceEqDiff, Nat.reduceSub, Nat.reduceLeDiff, reduceCtorEq]; simp [boxTo_zero]) ?_
  intro k hk
  by_cases hlt : k + 1 < xs.length
  · have hw : IntKind.i64.wrap ((k : Int) + 1 + 1) = k + 1 + 1 := i64_in _ (by have : maxLen = 9223372036854775807 := rfl; omega)
    have hs := boxTo_size h k (by omega)
    have hk1 : Int.toNat ((k : Int) + 1) = k + 1 := by omega
    repeat' (first
      | exact True.intro
      | refine ev_seq ?_
      | ((first | refine vgd_go ?_ | refine ev_region hE hM (hS (by decide +kernel)) ?_ | refine ev_if ?_ | refine end_ret hE rfl rfl ?_ | refine end_norm hE rfl rfl ?_ | refine endG_ret [] hE rfl ?_ | refine endG_norm [] hE rfl ?_ | refine vcallB_of hP (s_l1Union (boxTo xs k) (xs.getD (k + 1) default).rect (boxTo_lens h hlt) (by omega)) ?_ | refine vcall_A ?_); simp (maxSteps := 2000000) only [go_sem, hP, ↓reduceIte, Nat.reduceAdd, Nat.reduceMul, Nat.reduceEqDiff, Nat.reduceSub, Nat.reduceLeDiff, reduceCtorEq, hk1])
      | refine ev_skip ?_ | refine ev_block ?_ | refine ev_blk ?_ | refine ev_ret ?_ | refine ev_exit ?_ | refine evx_code_ret ?_ | refine evx_blk_ret ?_ | refine evx_lp_ret ?_
      | refine evx_code_exit ?_ | refine evx_lp_exit ?_ | refine evx_blk_hit ?_ | refine evx_blk_pass (by decide) ?_
      | refine And.intro ?_ ?_ | intro _ | decide +kernel | omega)
    all_goals first
      | exact ev_lp (k + 1) [(100000, some 20512), (100001, some 1069088)] (by omega) (by omega) (by simp only [go_sem, hP, ↓reduceIte, Nat.reduceAdd, Nat.reduceMul, Nat.reduceEqDiff, Nat.reduceSub, Nat.reduceLeDiff, reduceCtorEq]; simp [hw, boxTo_succ])
      | (exfalso; omega)
      | (simp_all; done)
  · repeat' (first
      | exact True.intro
      | refine ev_seq ?_
      | ((first | refine vgd_go ?_ | refine ev_region hE hM (hS (by decide +kernel)) ?_ | refine ev_if ?_ | refine end_ret hE rfl rfl ?_ | refine end_norm hE rfl rfl ?_ | refine endG_ret [] hE rfl ?_ | refine endG_norm [] hE rfl ?_ | refine vcall_A ?_); simp (maxSteps := 2000000) only [go_sem, hP, ↓reduceIte, Nat.reduceAdd, Nat.reduceMul, Nat.reduceEqDiff, Nat.reduceSub, Nat.reduceLeDiff, reduceCtorEq])
      | refine ev_skip ?_ | refine ev_block ?_ | refine ev_blk ?_ | refine ev_ret ?_ | refine ev_exit ?_ | refine evx_code_ret ?_ | refine evx_blk_ret ?_ | refine evx_lp_ret ?_
      | refine evx_code_exit ?_ | refine evx_lp_exit ?_ | refine evx_blk_hit ?_ | refine evx_blk_pass (by decide) ?_
      | refine And.intro ?_ ?_ | intro _ | decide +kernel | omega)
    all_goals first
      | (exfalso; omega)
      | (have e : xs.length - 1 = k := by omega
         simp [bx, e]; done)
      | (simp_all; done)
theorem s_box (xs : List Entry) (n : Nat) (h : Even xs n) (h0 : 0 < xs.length) (hn : n ≤ 1048576) : Sat Try.prog 180 [aEntryS xs] true (rR (bx xs)) := by
  refine sat_walk (fn := Try.f180) rfl rfl rfl (Nat.le_of_ble_eq_true rfl) fun fr hP hN hbnd => ?_
  have hE : (envOf fr Try.prog).Ok := envOf_ok hP
  have hM := follows_of hP
  have hS : ∀ {draw ops}, statB Try.f180.ntmps draw ops = true → statB (envOf fr Try.prog).fr.N draw ops = true := fun h => by rw [envOf_fr, hN]; exact h
  have hlen := bnd_EntryS hbnd
  have hm : maxLen = 9223372036854775807 := rfl
  have g0 := even_get h h0
  have hdr : List.take (xs.length - Int.toNat 1) (List.drop (Int.toNat 1) (List.map eEntry xs)) = (xs.drop 1).map eEntry := by rw [show Int.toNat 1 = 1 from rfl, ← List.map_drop, List.take_of_length_le (by simp)]
  repeat' (first
    | exact True.intro
    | refine ev_seq ?_
    | ((first | refine vgd_go ?_ | refine ev_region hE hM (hS (by decide +kernel)) ?_ | refine ev_if ?_ | refine end_ret hE rfl rfl ?_ | refine end_norm hE rfl rfl ?_ | refine endG_ret [] hE rfl ?_ | refine endG_norm [] hE rfl ?_ | refine vcallB_of hP (s_cloned (xs.getD 0 default).rect (by omega) (by omega)) ?_ | refine vcall_A ?_); simp (maxSteps := 2000000) only [go_sem, hP, ↓reduceIte, Nat.reduceAdd, Nat.reduceMul, Nat.reduceEqDiff, Nat.reduceSub, Nat.reduceLeDiff, reduceCtorEq, hdr])
    | refine ev_skip ?_ | refine ev_block ?_ | refine ev_blk ?_ | refine ev_ret ?_ | refine ev_exit ?_ | refine evx_code_ret ?_ | refine evx_blk_ret ?_ | refine evx_lp_ret ?_
    | refine evx_code_exit ?_ | refine evx_lp_exit ?_ | refine evx_blk_hit ?_ | refine evx_blk_pass (by decide) ?_
    | refine And.intro ?_ ?_ | intro _ | decide +kernel | omega)
  all_goals first | (exfalso; omega) | skip
  refine ev_loop (ι := Nat) (fun k => [(2, .ptr 0 0), (3, .ptr 4136 0), (12, .c (sEntryS (xs.drop 1))), (13, iT (xs.length - 1 : Nat)), (14, iT k)]) (fun k => [(0, .box [.nilS, .nilS]), (4136, .box [.ref 100000, .ref 100001]), (100000, .arr true 2 1 ((boxTo xs k).low.map eI)), (100001, .arr true 2 1 ((boxTo xs k).high.map eI))]) (fun _ => []) (fun k => k + 1 ≤ xs.length) (fun k => xs.length - k) 0 [(100000, some 4128), (100001, some 1052704)] (by omega) (by simp only [go_sem, hP, ↓reduceIte, Nat.reduceAdd, Nat.reduceMul, Nat.reduceEqDiff, Nat.reduceSub, Nat.reduceLeDiff, reduceCtorEq]; simp [boxTo_zero]) ?_
  intro k hk
  by_cases hlt : k + 1 < xs.length
  · have hw : IntKind.i64.wrap ((k : Int) + 1) = k + 1 := i64_in _ (by omega)
    have hs := boxTo_size h k (by omega)
    have hg : (xs.drop 1).getD k default = xs.getD (k + 1) default := by simp [List.getD_eq_getElem?_getD, Nat.add_comm]
    repeat' (first
      | exact True.intro
      | refine ev_seq ?_
      | ((first | refine vgd_go ?_ | refine ev_region hE hM (hS (by decide +kernel)) ?_ | refine ev_if ?_ | refine end_ret hE rfl rfl ?_ | refine end_norm hE rfl rfl ?_ | refine endG_ret [] hE rfl ?_ | refine endG_norm [] hE rfl ?_ | refine vcallB_of hP (s_union (boxTo xs k) (xs.getD (k + 1) default).rect (boxTo_lens h hlt) (by omega)) ?_ | refine vcall_A ?_); simp (maxSteps := 2000000) only [go_sem, hP, ↓reduceIte, Nat.reduceAdd, Nat.reduceMul, Nat.reduceEqDiff, Nat.reduceSub, Nat.reduceLeDiff, reduceCtorEq, hg])
      | refine ev_skip ?_ | refine ev_block ?_ | refine ev_blk ?_ | refine ev_ret ?_ | refine ev_exit ?_ | refine evx_code_ret ?_ | refine evx_blk_ret ?_ | refine evx_lp_ret ?_
      | refine evx_code_exit ?_ | refine evx_lp_exit ?_ | refine evx_blk_hit ?_ | refine evx_blk_pass (by decide) ?_
      | refine And.intro ?_ ?_ | intro _ | decide +kernel | omega)
    all_goals first
      | exact ev_lp (k + 1) [(100000, some 20504), (100001, some 1069080)] (by omega) (by omega) (by simp only [go_sem, hP, ↓reduceIte, Nat.reduceAdd, Nat.reduceMul, Nat.reduceEqDiff, Nat.reduceSub, Nat.reduceLeDiff, reduceCtorEq]; simp [hw, boxTo_succ])
      | (exfalso; simp_all; omega)
      | (simp_all; done)
  · repeat' (first
      | exact True.intro
      | refine ev_seq ?_
      | ((first | refine vgd_go ?_ | refine ev_region hE hM (hS (by decide +kernel)) ?_ | refine ev_if ?_ | refine end_ret hE rfl rfl ?_ | refine end_norm hE rfl rfl ?_ | refine endG_ret [] hE rfl ?_ | refine endG_norm [] hE rfl ?_ | refine vcall_A ?_); simp (maxSteps := 2000000) only [go_sem, hP, ↓reduceIte, Nat.reduceAdd, Nat.reduceMul, Nat.reduceEqDiff, Nat.reduceSub, Nat.reduceLeDiff, reduceCtorEq])
      | refine ev_skip ?_ | refine ev_block ?_ | refine ev_blk ?_ | refine ev_ret ?_ | refine ev_exit ?_ | refine evx_code_ret ?_ | refine evx_blk_ret ?_ | refine evx_lp_ret ?_
      | refine evx_code_exit ?_ | refine evx_lp_exit ?_ | refine evx_blk_hit ?_ | refine evx_blk_pass (by decide) ?_
      | refine And.intro ?_ ?_ | intro _ | decide +kernel | omega)
    all_goals first
      | (exfalso; omega)
      | (have e : xs.length - 1 = k := by omega
         simp [bx, e]; done)
      | (simp_all; done)
theorem mwE_le {xs : List Entry} : sumW mwEntry xs ≤ 2 * wEntryS xs := by
  have : ∀ ys : List Entry, sumW mwEntry ys = sumW wEntry ys + 2 * ys.length := by
    intro ys
    induction ys with
    | nil => rfl
    | cons y ys ih =>
      have e1 : sumW mwEntry (y :: ys) = mwEntry y + sumW mwEntry ys := rfl
      have e2 : sumW wEntry (y :: ys) = wEntry y + sumW wEntry ys := rfl
      rw [e1, e2, ih, List.length_cons]; simp only [mwEntry, wEntry]; omega
  rw [this]; unfold wEntryS; omega
def sfC (xs : List Entry) (d : Int) : Int := if esf xs d ≠ 0 then esf xs d else if (xs.length : Int) < 4 then 2 else 0
def sdL (xs : List Entry) (d : Int) : List Int := if sfC xs d = 0 then [(sd xs).x, (sd xs).y] else []
theorem sdL_len (xs : List Entry) (d : Int) : (sdL xs d).length ≤ 2 := by unfold sdL; split <;> simp
theorem sfC_zero {xs : List Entry} {d : Int} (h : sfC xs d = 0) : esf xs d = 0 ∧ 4 ≤ xs.length := by
  unfold sfC at h; (repeat' split at h) <;> simp_all <;> omega
theorem s_splitFault (xs : List Entry) (d : Int) : Sat Try.prog 115 [aEntryS xs, aI d] true (rI (sfC xs d)) := by
  refine sat_walk (fn := Try.f115) rfl rfl rfl (Nat.le_of_ble_eq_true rfl) fun fr hP hN hbnd => ?_
  have hE : (envOf fr Try.prog).Ok := envOf_ok hP
  have hM := follows_of hP
  have hS : ∀ {draw ops}, statB Try.f115.ntmps draw ops = true → statB (envOf fr Try.prog).fr.N draw ops = true := fun h => by rw [envOf_fr, hN]; exact h
  repeat' (first
    | exact True.intro
    | refine ev_seq ?_
    | ((first | refine vgd_go ?_ | refine ev_region hE hM (hS (by decide +kernel)) ?_ | refine ev_if ?_ | refine end_ret hE rfl rfl ?_ | refine end_norm hE rfl rfl ?_ | refine endG_ret [] hE rfl ?_ | refine endG_norm [] hE rfl ?_ | refine vcallB_of hP (s_implEntriesFault xs d) ?_ | refine vcall_A ?_); simp (maxSteps := 2000000) only [go_sem, hP, ↓reduceIte, Nat.reduceAdd, Nat.reduceMul, Nat.reduceEqDiff, Nat.reduceSub, Nat.reduceLeDiff, reduceCtorEq])
    | refine ev_skip ?_ | refine ev_block ?_ | refine ev_blk ?_ | refine ev_ret ?_ | refine ev_exit ?_ | refine evx_code_ret ?_ | refine evx_blk_ret ?_ | refine evx_lp_ret ?_
    | refine evx_code_exit ?_ | refine evx_lp_exit ?_ | refine evx_blk_hit ?_ | refine evx_blk_pass (by decide) ?_
    | refine And.intro ?_ ?_ | intro _ | decide +kernel | omega)
  all_goals (simp_all [sfC]; done)
theorem s_l5Enough (xs : List Entry) (d : Int) : Sat Try.prog 111 [aEntryS xs, aI d] true (rI (sfC xs d)) := by
  refine sat_walk (fn := Try.f111) rfl rfl rfl (Nat.le_of_ble_eq_true rfl) fun fr hP hN hbnd => ?_
  have hE : (envOf fr Try.prog).Ok := envOf_ok hP
  have hM := follows_of hP
  have hS : ∀ {draw ops}, statB Try.f111.ntmps draw ops = true → statB (envOf fr Try.prog).fr.N draw ops = true := fun h => by rw [envOf_fr, hN]; exact h
  repeat' (first
    | exact True.intro
    | refine ev_seq ?_
    | ((first | refine vgd_go ?_ | refine ev_region hE hM (hS (by decide +kernel)) ?_ | refine ev_if ?_ | refine end_ret hE rfl rfl ?_ | refine end_norm hE rfl rfl ?_ | refine endG_ret [] hE rfl ?_ | refine endG_norm [] hE rfl ?_ | refine vcallB_of hP (s_specEntriesFault xs d) ?_ | refine vcall_A ?_); simp (maxSteps := 2000000) only [go_sem, hP, ↓reduceIte, Nat.reduceAdd, Nat.reduceMul, Nat.reduceEqDiff, Nat.reduceSub, Nat.reduceLeDiff, reduceCtorEq])
    | refine ev_skip ?_ | refine ev_block ?_ | refine ev_blk ?_ | refine ev_ret ?_ | refine ev_exit ?_ | refine evx_code_ret ?_ | refine evx_blk_ret ?_ | refine evx_lp_ret ?_
    | refine evx_code_exit ?_ | refine evx_lp_exit ?_ | refine evx_blk_hit ?_ | refine evx_blk_pass (by decide) ?_
    | refine And.intro ?_ ?_ | intro _ | decide +kernel | omega)
  all_goals (simp_all [sfC]; done)
def woV (n : Node) (d r : Int) : Node := if efcode n d r = 0 then ⟨n.level, n.nsn, n.right, n.entries.take (findRef n.entries r).toNat ++ n.entries.drop ((findRef n.entries r).toNat + 1)⟩ else ⟨0, 0, 0, []⟩
theorem ef_zero {n : Node} {d r : Int} (h : efcode n d r = 0) : nf n d = 0 ∧ 0 ≤ findRef n.entries r := by
  unfold efcode at h
  (repeat' split at h) <;> omega
theorem nf_dup {n : Node} {d : Int} (h : nf n d = 0) : noDup n.entries = true := by
  unfold nf at h; (repeat' split at h) <;> first | omega | assumption
theorem wES_append (xs ys : List Entry) : wEntryS (xs ++ ys) = wEntryS xs + wEntryS ys := by unfold wEntryS sumW; simp; omega
theorem dropE_w (xs : List Entry) (i : Nat) : wEntryS (xs.take i ++ xs.drop (i + 1)) ≤ wEntryS xs := by
  have h1 : wEntryS (xs.take i) + wEntryS (xs.drop i) = wEntryS xs := by rw [← wES_append, List.take_append_drop]
  have h2 : wEntryS ((xs.drop i).take 1) + wEntryS ((xs.drop i).drop 1) = wEntryS (xs.drop i) := by rw [← wES_append, List.take_append_drop]
  rw [List.drop_drop] at h2
  rw [wES_append]; omega
theorem woV_w (n : Node) (d r : Int) : wEntryS (woV n d r).entries ≤ 50 := by
  unfold woV; split
  · rename_i h
    have h1 := nf_w (ef_zero h).1
    have h2 := dropE_w n.entries (findRef n.entries r).toNat
    exact Nat.le_trans h2 (by omega)
  · exact Nat.zero_le _
theorem filterE_one {xs : List Entry} {r : Int} {i : Nat} (h : noDup xs = true) (hi : i < xs.length) (hr : (xs.getD i default).ref = r) : xs.filter (fun p => decide (p.ref ≠ r)) = xs.take i ++ xs.drop (i + 1) := by
  have hd : ∀ a b, a < b → b < xs.length → (xs.getD a default).ref ≠ (xs.getD b default).ref := fun a b hab hb he => by
    have h1 := allLt_iff.mp h b hb
    have h2 : dupAt xs b = true := by
      unfold dupAt
      rw [List.any_eq_true]
      have hl : a < (xs.take b).length := by rw [List.length_take]; omega
      refine ⟨(xs.take b)[a], List.getElem_mem hl, ?_⟩
      rw [List.getElem_take, ← getD_lt (show a < xs.length by omega)]
      simpa using he
    rw [h2] at h1; cases h1
  conv => lhs; rw [← List.take_append_drop i xs, List.drop_eq_getElem_cons hi]
  rw [List.filter_append, List.filter_cons]
  have e0 : xs[i] = xs.getD i default := (getD_lt hi).symm
  have e1 : (xs.take i).filter (fun p => decide (p.ref ≠ r)) = xs.take i := by
    rw [List.filter_eq_self]
    intro p hp
    obtain ⟨k, hk, rfl⟩ := List.mem_iff_getElem.1 hp
    rw [List.length_take] at hk
    have := hd k i (by omega) hi
    rw [getD_lt (show k < xs.length by omega), hr] at this
    rw [List.getElem_take]
    simpa using this
  have e2 : (xs.drop (i + 1)).filter (fun p => decide (p.ref ≠ r)) = xs.drop (i + 1) := by
    rw [List.filter_eq_self]
    intro p hp
    obtain ⟨k, hk, rfl⟩ := List.mem_iff_getElem.1 hp
    rw [List.length_drop] at hk
    have := hd i (i + 1 + k) (by omega) (by omega)
    rw [getD_lt (show i + 1 + k < xs.length by omega), hr] at this
    rw [List.getElem_drop]
    simpa using Ne.symm this
  have e3 : decide (xs[i].ref ≠ r) = false := by rw [e0, hr]; simp
  rw [e1, e2, e3]; rfl
@[go_sem] abbrev eY (b : Int) : List C := [.int .u8 b]
@[go_sem] abbrev sY (xs : List Int) : C := .sl none 1 (xs.map eY)
@[go_sem] abbrev aY (xs : List Int) : Arg := .d (false, [sY xs])
/-- The source of a code's bytes. -/
@[go_sem] abbrev bSrc (c : List Int) (a : Int) : Blk := .box [.c (sY c), iT a]
def codeOk (c : List Int) : Prop := c.length ≤ 1048576 ∧ ∀ b ∈ c, 0 ≤ b ∧ b < 256
def nv (c : List Int) (a n : Int) : Int :=
  if n > 200 then (c.getD (a % c.length).toNat default + a / c.length * 37) * 251 + c.getD ((a + 1) % c.length).toNat default * 13 + a
  else c.getD (a % c.length).toNat default + a / c.length * 37
def nx (c : List Int) (a n : Int) : Int := if c.length = 0 then (a * 7) % n else nv c a n % n
theorem byte_get {c : List Int} (hc : codeOk c) (i : Nat) : 0 ≤ c.getD i default ∧ c.getD i default < 256 := by
  rw [List.getD_eq_getElem?_getD]
  rcases h : c[i]? with _ | x
  · exact ⟨by decide, by decide⟩
  · exact hc.2 x (List.mem_of_getElem? h)
theorem nx_in {c : List Int} {a n : Int} (hn : 1 ≤ n) : 0 ≤ nx c a n ∧ nx c a n < n := by
  unfold nx
  split <;> exact ⟨Int.emod_nonneg _ (by omega), Int.emod_lt_of_pos _ (by omega)⟩
theorem tmod_pos {a b : Int} (h : 0 ≤ a) : a.tmod b = a % b := Int.tmod_eq_emod_of_nonneg h
theorem tdiv_pos {a b : Int} (h : 0 ≤ a) : a.tdiv b = a / b := Int.tdiv_eq_ediv_of_nonneg h
section
variable {c : Cx} {i : Nat} {dst : Option Nat} {rest : List Oper} {acc : List (List Nat × List Nat)} {st : St} {f κ : Nat} {P : Program}
theorem vcallG_at {caps args ts : List T} {ats : List Nat} {hc' : List (Nat × Blk)} {rt : T} {b : Blk} (K : Nat) (ks : List Nat) (hst : st.h K = some b) (hP : c.E.fr.P = P) (hs : SatG P f false ts [(1, b)] rt hc') (h : vcallG c i dst rest acc st caps args ts [(1, b)] rt hc' P (rhoOf [(1, K)] κ) ks) :
    vcall c i dst rest acc st f caps args ats κ := vcallG_of [(1, K)] ks hP hs h
end
def pk (c : List Int) (a : Int) (xs : List Int) : Int := xs.getD (nx c a xs.length).toNat default
def coord (c : List Int) (a : Int) : Int := pk c (a + 4) [nx c a 20, nx c (a + 1) 20, nx c (a + 2) 20 - 10, nx c (a + 3) 300 * 3 - 400, 1000, -1000]
theorem pk_mem {c : List Int} {a : Int} {xs : List Int} (h : xs ≠ []) : pk c a xs ∈ xs := by
  have hl : 1 ≤ xs.length := List.length_pos_iff.2 h
  obtain ⟨p1, p2⟩ := nx_in (c := c) (a := a) (n := xs.length) (by omega)
  unfold pk
  rw [List.getD_eq_getElem?_getD, List.getElem?_eq_getElem (by omega)]
  exact List.getElem_mem _
theorem coord_in (c : List Int) (a : Int) : -1000 ≤ coord c a ∧ coord c a ≤ 1000 := by
  have h := pk_mem (c := c) (a := a + 4) (xs := [nx c a 20, nx c (a + 1) 20, nx c (a + 2) 20 - 10, nx c (a + 3) 300 * 3 - 400, 1000, -1000]) (by simp)
  have e0 := nx_in (c := c) (a := a) (n := 20) (by omega)
  have e1 := nx_in (c := c) (a := a + 1) (n := 20) (by omega)
  have e2 := nx_in (c := c) (a := a + 2) (n := 20) (by omega)
  have e3 := nx_in (c := c) (a := a + 3) (n := 300) (by omega)
  simp only [List.mem_cons, List.not_mem_nil, or_false] at h
  unfold coord
  rcases h with h | h | h | h | h | h <;> rw [h] <;> omega
def pointV (c : List Int) (a : Int) (d : Nat) : List Int := (List.range d).map fun (i : Nat) => coord c (a + 5 * i)
def rectLo (c : List Int) (a : Int) (d : Nat) : List Int := (List.range d).map fun (i : Nat) => coord c (a + 6 * i)
def rectHi (c : List Int) (a : Int) (d : Nat) : List Int := (List.range d).map fun (i : Nat) => min (coord c (a + 6 * i) + pk c (a + 6 * i + 5) [0, 1, 3, 8, 30]) 1000
def rectV (c : List Int) (a : Int) (d : Nat) : Rect := ⟨rectLo c a d, rectHi c a d⟩
theorem pk5_in (c : List Int) (a : Int) : 0 ≤ pk c a [0, 1, 3, 8, 30] ∧ pk c a [0, 1, 3, 8, 30] ≤ 30 := by
  have h := pk_mem (c := c) (a := a) (xs := [0, 1, 3, 8, 30]) (by simp)
  simp only [List.mem_cons, List.not_mem_nil, or_false] at h
  omega
theorem dims_in (c : List Int) (a : Int) : pk c a [2, 2, 3] = 2 ∨ pk c a [2, 2, 3] = 3 := by
  have h := pk_mem (c := c) (a := a) (xs := [2, 2, 3]) (by simp)
  simp only [List.mem_cons, List.not_mem_nil, or_false] at h
  omega
theorem rectV_hi (c : List Int) (a : Int) (d i : Nat) (h : i < d) : -1000 ≤ (rectHi c a d).getD i default ∧ (rectHi c a d).getD i default ≤ 1000 := by
  unfold rectHi
  rw [getD_lt (by simpa using h)]
  simp only [List.getElem_map, List.getElem_range]
  have h1 := coord_in c (a + 6 * i)
  have h2 := pk5_in c (a + 6 * i + 5)
  omega
def bentV (c : List Int) (a : Int) (d : Nat) : Rect :=
  if nx c (a + 6 * d) 14 = 0 then ⟨(rectLo c a d).set 0 (pk c (a + 6 * d + 1) [(rectHi c a d).getD 0 default + 1, -1001, 1001]), rectHi c a d⟩
  else if nx c (a + 6 * d) 14 = 1 then ⟨rectLo c a d, (rectHi c a d).drop 1⟩
  else if nx c (a + 6 * d) 14 = 2 then ⟨rectLo c a d ++ [0], rectHi c a d⟩
  else if nx c (a + 6 * d) 14 = 3 then ⟨rectLo c a d, (rectHi c a d).set 1 (pk c (a + 6 * d + 1) [1000, 1001, -1000])⟩
  else rectV c a d
def bentA (c : List Int) (a : Int) (d : Nat) : Int := if nx c (a + 6 * d) 14 = 0 ∨ nx c (a + 6 * d) 14 = 3 then a + 6 * d + 2 else a + 6 * d + 1
theorem bentA_in (c : List Int) (a : Int) (d : Nat) : a ≤ bentA c a d ∧ bentA c a d ≤ a + 6 * d + 2 := by unfold bentA; split <;> omega
def d0 (c : List Int) : Nat := (pk c 0 [2, 2, 3]).toNat
theorem d0_in (c : List Int) : d0 c = 2 ∨ d0 c = 3 := by
  have := dims_in c 0
  unfold d0; omega
theorem d0_eq (c : List Int) : pk c 0 [2, 2, 3] = (d0 c : Int) := by
  have := dims_in c 0
  unfold d0; omega
def unA (c : List Int) : Rect := bentV c 1 (d0 c)
def unP (c : List Int) : Int := bentA c 1 (d0 c)
theorem unP_in (c : List Int) : 0 ≤ unP c ∧ unP c ≤ 100 := by
  have h1 := bentA_in c 1 (d0 c)
  have h2 := d0_in c
  unfold unP; omega
def unQ (c : List Int) : List Int := [(d0 c : Int), d0 c, d0 c, d0 c, d0 c, 2]
def d1 (c : List Int) : Nat := (pk c (unP c + 1) (unQ c)).toNat
theorem d1_mem (c : List Int) : pk c (unP c + 1) (unQ c) = d0 c ∨ pk c (unP c + 1) (unQ c) = 2 := by
  have h := pk_mem (c := c) (a := unP c + 1) (xs := unQ c) (by simp [unQ])
  simp only [unQ, List.mem_cons, List.not_mem_nil, or_false] at h
  rcases h with h | h | h | h | h | h <;> simp [unQ, h]
theorem d1_in (c : List Int) : d1 c = 2 ∨ d1 c = 3 := by
  have := d1_mem c
  have := d0_in c
  unfold d1; omega
theorem d1_eq (c : List Int) : pk c (unP c + 1) (unQ c) = (d1 c : Int) := by
  have := d1_mem c
  have := d0_in c
  unfold d1; omega
def unB (c : List Int) : Rect :=
  if nx c (unP c) 4 = 0 ∧ rf (unA c) (d0 c) = 0 then ⟨(unA c).low, (unA c).high.set 0 (min ((unA c).high.getD 0 default + pk c (unP c + 1) [0, 1, 5]) 1000)⟩
  else bentV c (unP c + 2) (d1 c)
def dsN (c : List Int) : List Int := [((unA c).low.length : Int), (unA c).low.length, (unA c).low.length, 2]
def d2 (c : List Int) : Nat := (pk c 12 (dsN c)).toNat
theorem unA_low (c : List Int) : (unA c).low.length = d0 c ∨ (unA c).low.length = d0 c + 1 := by
  unfold unA bentV rectV
  (repeat' split) <;> simp [rectLo]
theorem d2_mem (c : List Int) : pk c 12 (dsN c) = (unA c).low.length ∨ pk c 12 (dsN c) = 2 := by
  have h := pk_mem (c := c) (a := 12) (xs := dsN c) (by simp [dsN])
  simp only [dsN, List.mem_cons, List.not_mem_nil, or_false] at h
  rcases h with h | h | h | h <;> simp [dsN, h]
theorem d2_eq (c : List Int) : pk c 12 (dsN c) = (d2 c : Int) := by
  have := d2_mem c
  unfold d2; omega
theorem d2_in (c : List Int) : 2 ≤ d2 c ∧ d2 c ≤ 4 := by
  have h1 := d2_mem c
  have h2 := unA_low c
  have h3 := d0_in c
  unfold d2; omega
def dsP (c : List Int) : List Int := pointV c 13 (d2 c)
theorem pf_iff {xs : List Int} {d : Int} : pf xs d = 0 ↔ 2 ≤ d ∧ d ≤ 3 ∧ (xs.length : Int) = d ∧ ∀ k, k < xs.length → -1000 ≤ xs.getD k default ∧ xs.getD k default ≤ 1000 := by
  constructor
  · intro h
    have h1 := pf_len h
    have h2 : inB d 2 3 = true := by unfold pf at h; (repeat' split at h) <;> simp_all
    simp [inB] at h2
    exact ⟨by omega, by omega, h1, fun k hk => pf_at h k hk⟩
  · rintro ⟨h1, h2, h3, h4⟩
    have ha : xs.all (inB · (-1000) 1000) = true := by
      rw [List.all_eq_true]
      intro x hx
      obtain ⟨k, hk, rfl⟩ := List.mem_iff_getElem.1 hx
      have := h4 k hk
      rw [getD_lt hk] at this
      simpa [inB] using this
    have hb : inB d 2 3 = true := by simp [inB]; omega
    unfold pf
    simp [ha, hb, h3]
theorem rf_iff {r : Rect} {d : Int} : rf r d = 0 ↔ 2 ≤ d ∧ d ≤ 3 ∧ (r.low.length : Int) = d ∧ (r.high.length : Int) = d ∧ ∀ k, k < r.low.length → -1000 ≤ r.low.getD k default ∧ r.low.getD k default ≤ r.high.getD k default ∧ r.high.getD k default ≤ 1000 := by
  constructor
  · intro h
    have h1 := rf_len h
    have h2 : pf r.low d = 0 := by unfold rf at h; split at h <;> simp_all
    have h3 := pf_iff.1 h2
    exact ⟨h3.1, h3.2.1, h1.1, h1.2, fun k hk => rf_at h k hk⟩
  · rintro ⟨h1, h2, h3, h4, h5⟩
    have e1 : pf r.low d = 0 := pf_iff.2 ⟨h1, h2, h3, fun k hk => by have := h5 k hk; omega⟩
    have e2 : pf r.high d = 0 := pf_iff.2 ⟨h1, h2, h4, fun k hk => by have := h5 k (by omega); omega⟩
    have e3 : lowHigh r = true := allLt_iff.2 fun k hk => by have := h5 k hk; simpa using this.2.1
    unfold rf
    rw [if_neg (by simpa using e1), if_neg (by simpa using e2), if_pos e3]
theorem two_iff {a b : Rect} : two a b = 0 ↔ rf a a.low.length = 0 ∧ rf b a.low.length = 0 := by
  unfold two
  split <;> simp_all
theorem un_at {a b : Rect} {k : Nat} (hk : k < a.low.length) : (un a b).low.getD k default = min (a.low.getD k default) (b.low.getD k default) ∧ (un a b).high.getD k default = max (a.high.getD k default) (b.high.getD k default) := by
  have h1 : k < (un a b).low.length := by simp [un]; exact hk
  have h2 : k < (un a b).high.length := by simp [un]; exact hk
  rw [getD_lt h1, getD_lt h2]
  simp [un]
theorem covers_iff {a b : Rect} : covers a b = true ↔ ∀ k, k < a.low.length → a.low.getD k default ≤ b.low.getD k default ∧ b.high.getD k default ≤ a.high.getD k default := by
  unfold covers
  rw [allLt_iff]
  refine forall_congr' fun k => forall_congr' fun _ => ?_
  simp [coversAt]
theorem meets_iff {a b : Rect} : meets a b = true ↔ ∀ k, k < a.low.length → a.low.getD k default ≤ b.high.getD k default ∧ b.low.getD k default ≤ a.high.getD k default := by
  unfold meets
  rw [allLt_iff]
  refine forall_congr' fun k => forall_congr' fun _ => ?_
  simp [meetsAt]
theorem un_low_len (a b : Rect) : (un a b).low.length = a.low.length := by simp [un]
theorem rf_un {a b : Rect} (h : two a b = 0) : rf (un a b) a.low.length = 0 := by
  obtain ⟨h1, h2⟩ := two_iff.1 h
  obtain ⟨a1, a2, a3, a4, a5⟩ := rf_iff.1 h1
  obtain ⟨b1, b2, b3, b4, b5⟩ := rf_iff.1 h2
  refine rf_iff.2 ⟨a1, a2, by rw [un_low_len], by rw [un_len, un_low_len], fun k hk => ?_⟩
  rw [un_low_len] at hk
  have e := un_at (b := b) hk
  have := a5 k hk
  have := b5 k (by omega)
  omega
theorem two_un_left {a b : Rect} (h : two a b = 0) : two (un a b) a = 0 ∧ covers (un a b) a = true := by
  obtain ⟨h1, h2⟩ := two_iff.1 h
  refine ⟨two_iff.2 ⟨by rw [un_low_len]; exact rf_un h, by rw [un_low_len]; exact h1⟩, covers_iff.2 fun k hk => ?_⟩
  rw [un_low_len] at hk
  have e := un_at (b := b) hk
  omega
theorem two_un_right {a b : Rect} (h : two a b = 0) : two (un a b) b = 0 ∧ covers (un a b) b = true := by
  obtain ⟨h1, h2⟩ := two_iff.1 h
  refine ⟨two_iff.2 ⟨by rw [un_low_len]; exact rf_un h, by rw [un_low_len]; exact h2⟩, covers_iff.2 fun k hk => ?_⟩
  rw [un_low_len] at hk
  have e := un_at (b := b) hk
  omega
theorem two_symm {a b : Rect} (h : two a b = 0) : two b a = 0 := by
  obtain ⟨h1, h2⟩ := two_iff.1 h
  have := rf_len h2
  exact two_iff.2 ⟨by rw [this.1]; exact h2, by rw [this.1]; exact h1⟩
theorem list_getD_ext {xs ys : List Int} (hl : xs.length = ys.length) (h : ∀ k, k < xs.length → xs.getD k default = ys.getD k default) : xs = ys := by
  refine List.ext_getElem hl fun k h1 h2 => ?_
  have := h k h1
  rwa [getD_lt h1, getD_lt h2] at this
theorem rect_ext {a b : Rect} (h1 : a.low.length = b.low.length) (h2 : a.high.length = b.high.length) (h3 : a.high.length = a.low.length) (h : ∀ k, k < a.low.length → a.low.getD k default = b.low.getD k default ∧ a.high.getD k default = b.high.getD k default) : a = b := by
  have e1 := list_getD_ext h1 fun k hk => (h k hk).1
  have e2 := list_getD_ext h2 fun k hk => (h k (by omega)).2
  cases a; cases b; simp_all
theorem un_symm {a b : Rect} (h : two a b = 0) : un b a = un a b := by
  have l := two_lens h
  refine rect_ext (by rw [un_low_len, un_low_len]; exact l.h2) (by rw [un_len, un_len, un_low_len, un_low_len]; exact l.h2) (by rw [un_len]) fun k hk => ?_
  rw [un_low_len] at hk
  have e1 := un_at (a := b) (b := a) hk
  have e2 := un_at (a := a) (b := b) (k := k) (by have := l.h2; omega)
  omega
theorem meets_symm {a b : Rect} (h : two a b = 0) : meets b a = meets a b := by
  have l := two_lens h
  rw [Bool.eq_iff_iff, meets_iff, meets_iff, l.h2]
  exact forall_congr' fun k => forall_congr' fun _ => ⟨fun h => ⟨h.2, h.1⟩, fun h => ⟨h.2, h.1⟩⟩
theorem covers_meets {a b : Rect} (h : two a b = 0) (hc : covers a b = true) : meets a b = true ∧ un a b = a := by
  have f := two_fit h
  have l := f.l
  have c := covers_iff.1 hc
  refine ⟨meets_iff.2 fun k hk => ?_, rect_ext (un_low_len a b) (by rw [un_len, un_low_len]; exact l.h1.symm) (un_len a b) fun k hk => ?_⟩
  · have := c k hk
    have := f.b1 k hk
    omega
  · rw [un_low_len] at hk
    have e := un_at (b := b) hk
    have := c k hk
    omega
def prodTo (r : Rect) : Nat → Int
  | 0 => 1
  | k + 1 => prodTo r k * (r.high.getD k default - r.low.getD k default)
theorem p2000 (k : Nat) : (0 : Int) ≤ 2000 ^ k := Int.pow_nonneg (by omega)
theorem prodTo_in {r : Rect} {n : Nat} (h : ∀ k, k < n → -1000 ≤ r.low.getD k default ∧ r.low.getD k default ≤ r.high.getD k default ∧ r.high.getD k default ≤ 1000) : ∀ k, k ≤ n → 0 ≤ prodTo r k ∧ prodTo r k ≤ 2000 ^ k
  | 0, _ => by simp [prodTo]
  | k + 1, hk => by
    obtain ⟨h1, h2⟩ := prodTo_in h k (by omega)
    have e := h k (by omega)
    simp only [prodTo]
    refine ⟨Int.mul_nonneg h1 (by omega), ?_⟩
    rw [Int.pow_succ]
    exact Int.mul_le_mul h2 (by omega) (by omega) (p2000 k)
theorem p2000_le {k : Nat} (h : k ≤ 3) : (2000 : Int) ^ k ≤ 8000000000 := by
  match k, h with
  | 0, _ => decide
  | 1, _ => decide
  | 2, _ => decide
  | 3, _ => decide
theorem areaTo_prod {r : Rect} {n : Nat} (hn : n ≤ 3) (h : ∀ k, k < n → -1000 ≤ r.low.getD k default ∧ r.low.getD k default ≤ r.high.getD k default ∧ r.high.getD k default ≤ 1000) : ∀ k, k ≤ n → areaTo r k = prodTo r k
  | 0, _ => rfl
  | k + 1, hk => by
    have e := h k (by omega)
    have p1 := prodTo_in h (k + 1) hk
    have p2 := p2000_le (k := k + 1) (by omega)
    have ih := areaTo_prod hn h k (by omega)
    show IntKind.i64.wrap (areaTo r k * IntKind.i64.wrap (r.high.getD k default - r.low.getD k default)) = prodTo r (k + 1)
    rw [ih, wr_small (n := r.high.getD k default - r.low.getD k default) (by omega)]
    have e2 : prodTo r k * (r.high.getD k default - r.low.getD k default) = prodTo r (k + 1) := rfl
    rw [e2]
    exact i64_in _ (by omega)
theorem prodTo_mono {a b : Rect} {n : Nat} (ha : ∀ k, k < n → -1000 ≤ a.low.getD k default ∧ a.low.getD k default ≤ a.high.getD k default ∧ a.high.getD k default ≤ 1000) (hb : ∀ k, k < n → b.low.getD k default ≤ a.low.getD k default ∧ a.high.getD k default ≤ b.high.getD k default) : ∀ k, k ≤ n → prodTo a k ≤ prodTo b k
  | 0, _ => Int.le_refl _
  | k + 1, hk => by
    have ih := prodTo_mono ha hb k (by omega)
    have p1 := (prodTo_in ha k (by omega)).1
    have e1 := ha k (by omega)
    have e2 := hb k (by omega)
    simp only [prodTo]
    exact Int.mul_le_mul ih (by omega) (by omega) (by omega)
theorem area_in {r : Rect} {d : Int} (h : rf r d = 0) : area r = prodTo r r.low.length ∧ 0 ≤ area r ∧ area r ≤ 8000000000 := by
  have h3 := rf_three h
  have e := areaTo_prod h3 (fun k hk => rf_at h k hk) _ (Nat.le_refl _)
  have p := prodTo_in (fun k hk => rf_at h k hk) _ (Nat.le_refl r.low.length)
  have q := p2000_le h3
  unfold area
  rw [e]
  exact ⟨rfl, p.1, by omega⟩
theorem area_mono {a b : Rect} (h : two a b = 0) (hc : covers a b = true) : area b ≤ area a := by
  have f := two_fit h
  obtain ⟨h1, h2⟩ := two_iff.1 h
  rw [(area_in h1).1, (area_in h2).1, f.l.h2]
  exact prodTo_mono f.b1 (fun k hk => covers_iff.1 hc k hk) _ (Nat.le_refl _)
theorem growth_in {a b : Rect} (h : two a b = 0) : 0 ≤ growth a b ∧ growth a b ≤ 8000000000 ∧ growth a b = area (un a b) - area a := by
  obtain ⟨u1, u2⟩ := two_un_left h
  have m := area_mono u1 u2
  obtain ⟨h1, h2⟩ := two_iff.1 h
  have e1 := area_in h1
  have e2 := area_in (rf_un h)
  have e : growth a b = area (un a b) - area a := i64_in _ (by omega)
  omega
def ovP (a b : Rect) : Nat → Int
  | 0 => 1
  | k + 1 => ovP a b k * ovAt a b k
theorem ovAt_in {a b : Rect} (f : Fit a b) {k : Nat} (hk : k < a.low.length) : 0 ≤ ovAt a b k ∧ ovAt a b k ≤ a.high.getD k default - a.low.getD k default ∧ ovAt a b k ≤ b.high.getD k default - b.low.getD k default ∧ ovAt b a k = ovAt a b k := by
  have e1 := f.a1 k hk
  have e2 := f.b1 k hk
  unfold ovAt
  omega
theorem ovP_in {a b : Rect} (f : Fit a b) : ∀ k, k ≤ a.low.length → 0 ≤ ovP a b k ∧ ovP a b k ≤ prodTo a k ∧ ovP a b k ≤ prodTo b k ∧ ovP b a k = ovP a b k ∧ ovTo a b k = ovP a b k
  | 0, _ => by simp [ovP, prodTo]
  | k + 1, hk => by
    obtain ⟨h1, h2, h3, h4, h5⟩ := ovP_in f k (by omega)
    obtain ⟨e1, e2, e3, e4⟩ := ovAt_in f (k := k) (by omega)
    have a1 := prodTo_in f.a1 k (by omega)
    have b1 := prodTo_in f.b1 k (by omega)
    have a2 := prodTo_in f.a1 (k + 1) hk
    have q := p2000_le (k := k + 1) (by have := f.n; omega)
    have g1 : ovP a b (k + 1) ≤ prodTo a (k + 1) := by simp only [ovP, prodTo]; exact Int.mul_le_mul h2 e2 e1 (by omega)
    have g2 : ovP a b (k + 1) ≤ prodTo b (k + 1) := by simp only [ovP, prodTo]; exact Int.mul_le_mul h3 e3 e1 (by omega)
    have g0 : 0 ≤ ovP a b (k + 1) := by simp only [ovP]; exact Int.mul_nonneg h1 e1
    refine ⟨g0, g1, g2, by simp only [ovP]; rw [h4, e4], ?_⟩
    show IntKind.i64.wrap (ovTo a b k * ovAt a b k) = ovP a b (k + 1)
    rw [h5]
    have : ovP a b k * ovAt a b k = ovP a b (k + 1) := rfl
    rw [this]
    exact i64_in _ (by omega)
theorem overlap_in {a b : Rect} (h : two a b = 0) : 0 ≤ overlap a b ∧ overlap a b ≤ area a ∧ overlap a b ≤ area b ∧ overlap b a = overlap a b := by
  have f := two_fit h
  have f' := two_fit (two_symm h)
  obtain ⟨h1, h2⟩ := two_iff.1 h
  obtain ⟨e1, e2, e3, e4, e5⟩ := ovP_in f _ (Nat.le_refl _)
  have e6 := (ovP_in f' _ (Nat.le_refl _)).2.2.2.2
  unfold overlap
  rw [(area_in h1).1, (area_in h2).1, e5, e6, f.l.h2, e4]
  exact ⟨e1, e2, e3, rfl⟩
theorem marginTo_mono {a b : Rect} {n : Nat} (hn : n ≤ 3) (ha : ∀ k, k < n → -1000 ≤ a.low.getD k default ∧ a.low.getD k default ≤ a.high.getD k default ∧ a.high.getD k default ≤ 1000) (hb : ∀ k, k < n → -1000 ≤ b.low.getD k default ∧ b.low.getD k default ≤ a.low.getD k default ∧ a.high.getD k default ≤ b.high.getD k default ∧ b.high.getD k default ≤ 1000) : ∀ k, k ≤ n → 0 ≤ marginTo a k ∧ marginTo a k ≤ marginTo b k ∧ marginTo b k ≤ 2000 * k
  | 0, _ => by simp
  | k + 1, hk => by
    obtain ⟨h1, h2, h3⟩ := marginTo_mono hn ha hb k (by omega)
    have e1 := ha k (by omega)
    have e2 := hb k (by omega)
    have w1 : marginTo a (k + 1) = marginTo a k + (a.high.getD k default - a.low.getD k default) := by
      show IntKind.i64.wrap _ = _
      exact wr_small (by omega)
    have w2 : marginTo b (k + 1) = marginTo b k + (b.high.getD k default - b.low.getD k default) := by
      show IntKind.i64.wrap _ = _
      exact wr_small (by omega)
    rw [w1, w2]
    omega
theorem margin_mono {a b : Rect} (h : two a b = 0) (hc : covers a b = true) : margin b ≤ margin a := by
  have f := two_fit h
  unfold margin
  rw [f.l.h2]
  exact (marginTo_mono f.n f.b1 (fun k hk => by have := f.a1 k hk; have := covers_iff.1 hc k hk; omega) _ (Nat.le_refl _)).2.1
theorem better_no {xs : List Entry} {r : Rect} {i j : Nat} (h : ¬ better xs r i j = true) : growth (xs.getD j default).rect r ≤ growth (xs.getD i default).rect r := by
  unfold better at h
  simp only [Bool.or_eq_true, Bool.and_eq_true, decide_eq_true_eq] at h
  omega
theorem better_yes {xs : List Entry} {r : Rect} {i j : Nat} (h : better xs r i j = true) : growth (xs.getD i default).rect r ≤ growth (xs.getD j default).rect r := by
  unfold better at h
  simp only [Bool.or_eq_true, Bool.and_eq_true, decide_eq_true_eq] at h
  omega
theorem choose_least (xs : List Entry) (r : Rect) : ∀ k j, j < k → growth (xs.getD (chooseTo xs r k) default).rect r ≤ growth (xs.getD j default).rect r
  | 0, j, h => by omega
  | k + 1, j, h => by
    by_cases hb : better xs r k (chooseTo xs r k) = true
    · rw [chooseTo_yes hb]
      rcases Nat.lt_or_ge j k with hlt | hge
      · exact Int.le_trans (better_yes hb) (choose_least xs r k j hlt)
      · obtain rfl : j = k := by omega
        exact Int.le_refl _
    · rw [chooseTo_no hb]
      rcases Nat.lt_or_ge j k with hlt | hge
      · exact choose_least xs r k j hlt
      · obtain rfl : j = k := by omega
        exact better_no hb
theorem chcode_zero {xs : List Entry} {d : Int} {r : Rect} (h : chcode xs d r = 0) : esf xs d = 0 ∧ rf r d = 0 ∧ 0 < xs.length := by
  unfold chcode at h
  (repeat' split at h) <;> omega
theorem two_of {a b : Rect} {d : Int} (h1 : rf a d = 0) (h2 : rf b d = 0) : two a b = 0 := by
  have := rf_len h1
  exact two_iff.2 ⟨by rw [this.1]; exact h1, by rw [this.1]; exact h2⟩
theorem firstF_all {α : Type} {f : α → Int} : ∀ {xs : List α}, (∀ x ∈ xs, f x = 0) → firstF f xs = 0
  | [], _ => rfl
  | x :: xs, h => by
    unfold firstF
    rw [if_pos (h x (by simp))]
    exact firstF_all fun y hy => h y (by simp [hy])
theorem dupAt_iff {xs : List Entry} {b : Nat} (hb : b < xs.length) : dupAt xs b = true ↔ ∃ a, a < b ∧ (xs.getD a default).ref = (xs.getD b default).ref := by
  unfold dupAt
  rw [List.any_eq_true]
  constructor
  · rintro ⟨x, hx, he⟩
    obtain ⟨a, ha, rfl⟩ := List.mem_iff_getElem.1 hx
    rw [List.length_take] at ha
    refine ⟨a, by omega, ?_⟩
    rw [getD_lt (show a < xs.length by omega)]
    simpa using he
  · rintro ⟨a, ha, he⟩
    have hl : a < (xs.take b).length := by rw [List.length_take]; omega
    refine ⟨(xs.take b)[a], List.getElem_mem hl, ?_⟩
    rw [List.getElem_take, ← getD_lt (show a < xs.length by omega)]
    simpa using he
theorem noDup_iff {xs : List Entry} : noDup xs = true ↔ ∀ a b, a < b → b < xs.length → (xs.getD a default).ref ≠ (xs.getD b default).ref := by
  unfold noDup
  rw [allLt_iff]
  constructor
  · intro h a b hab hb he
    have h1 := h b hb
    have h2 := (dupAt_iff hb).2 ⟨a, hab, he⟩
    rw [h2] at h1; cases h1
  · intro h b hb
    cases hq : dupAt xs b with
    | false => rfl
    | true =>
      obtain ⟨a, hab, he⟩ := (dupAt_iff hb).1 hq
      exact absurd he (h a b hab hb)
theorem noDup_nodup {xs : List Entry} : noDup xs = true ↔ (xs.map (·.ref)).Nodup := by
  rw [noDup_iff, List.nodup_iff_pairwise_ne, List.pairwise_iff_getElem]
  constructor
  · intro h i j hi hj hij
    rw [List.length_map] at hi hj
    have := h i j hij hj
    rw [getD_lt hi, getD_lt hj] at this
    simpa using this
  · intro h a b hab hb
    have := h a b (by rw [List.length_map]; omega) (by rw [List.length_map]; omega) hab
    rw [getD_lt (show a < xs.length by omega), getD_lt hb]
    simpa using this
theorem nf_iff {n : Node} {d : Int} : nf n d = 0 ↔ (inB d 2 3 && inB n.level 0 6 && inB n.nsn 0 100000 && inB n.right (-1) 39) = true ∧ n.entries.length ≤ 5 ∧ (∀ x ∈ n.entries, entryF d x = 0) ∧ (∀ x ∈ n.entries, fits n.level x = true) ∧ noDup n.entries = true := by
  constructor
  · intro h
    unfold nf at h
    split at h
    · omega
    rename_i h1
    split at h
    · omega
    rename_i h2
    split at h
    · rename_i h3; exact absurd h h3
    rename_i h3
    split at h
    · omega
    rename_i h4
    split at h
    · rename_i h5
      exact ⟨by rw [Bool.not_eq_false] at h1; exact h1, by omega, firstF_zero (by simpa using h3), by simpa using h4, h5⟩
    · omega
  · rintro ⟨h1, h2, h3, h4, h5⟩
    unfold nf
    rw [if_neg (by rw [h1]; simp), if_neg (by omega), if_neg (by rw [firstF_all h3]; simp), if_neg (by rw [List.all_eq_true.2 h4]; simp), if_pos h5]
theorem findRef_none {xs : List Entry} {r : Int} : findRef xs r < 0 ↔ ∀ x ∈ xs, x.ref ≠ r := by
  unfold findRef
  split
  · rename_i h
    obtain ⟨x, hx, he⟩ := List.any_eq_true.1 h
    constructor
    · intro h; omega
    · intro h; exact absurd (by simpa using he) (h x hx)
  · rename_i h
    constructor
    · intro _ x hx he
      exact h (List.any_eq_true.2 ⟨x, hx, by simpa using he⟩)
    · intro _; omega
theorem findRef_here {xs : List Entry} {i : Nat} {r : Int} (h : noDup xs = true) (hi : i < xs.length) (hr : (xs.getD i default).ref = r) : findRef xs r = i := by
  subst hr
  rw [findRef_self hi]
  cases hq : dupAt xs i with
  | false => rfl
  | true =>
    obtain ⟨a, ha, he⟩ := (dupAt_iff hi).1 hq
    exact absurd he (noDup_iff.1 h a i ha hi)
theorem weC_zero {n : Node} {d : Int} {e : Entry} (h : weC n d e = 0) : nf n d = 0 ∧ entryF d e = 0 ∧ fits n.level e = true ∧ findRef n.entries e.ref < 0 ∧ n.entries.length ≤ 4 := by
  unfold weC at h
  split at h
  · rename_i h1; exact absurd h h1
  rename_i h1
  split at h
  · rename_i h2; exact absurd h h2
  rename_i h2
  (repeat' split at h) <;> first | omega | skip
  rename_i h3 h4 h5
  exact ⟨by simpa using h1, by simpa using h2, by simpa using h3, by omega, by omega⟩
theorem nf_with {n : Node} {d : Int} {e : Entry} (h : weC n d e = 0) : nf ⟨n.level, n.nsn, n.right, n.entries ++ [e]⟩ d = 0 := by
  obtain ⟨h1, h2, h3, h4, h5⟩ := weC_zero h
  obtain ⟨g1, g2, g3, g4, g5⟩ := nf_iff.1 h1
  refine nf_iff.2 ⟨g1, by simp; omega, fun x hx => ?_, fun x hx => ?_, ?_⟩
  · rcases List.mem_append.1 hx with hx | hx
    · exact g3 x hx
    · rw [List.mem_singleton.1 hx]; exact h2
  · rcases List.mem_append.1 hx with hx | hx
    · exact g4 x hx
    · rw [List.mem_singleton.1 hx]; exact h3
  · rw [noDup_nodup] at g5 ⊢
    simp only [List.map_append, List.map_cons, List.map_nil]
    rw [List.nodup_append]
    refine ⟨g5, by simp, fun a ha b hb => ?_⟩
    obtain ⟨x, hx, rfl⟩ := List.mem_map.1 ha
    simp only [List.mem_cons, List.not_mem_nil, or_false] at hb
    subst hb
    exact findRef_none.1 h4 x hx
theorem without_sub (xs : List Entry) (i : Nat) : (xs.take i ++ xs.drop (i + 1)).Sublist xs := by
  conv => rhs; rw [← List.take_append_drop i xs]
  refine List.Sublist.append (List.Sublist.refl _) ?_
  have : xs.drop (i + 1) = (xs.drop i).drop 1 := by rw [List.drop_drop]
  rw [this]; exact List.drop_sublist _ _
theorem nf_without {n : Node} {d : Int} (i : Nat) (h : nf n d = 0) : nf ⟨n.level, n.nsn, n.right, n.entries.take i ++ n.entries.drop (i + 1)⟩ d = 0 := by
  obtain ⟨g1, g2, g3, g4, g5⟩ := nf_iff.1 h
  have hs := without_sub n.entries i
  exact nf_iff.2 ⟨g1, Nat.le_trans hs.length_le g2, fun x hx => g3 x (hs.subset hx), fun x hx => g4 x (hs.subset hx), noDup_nodup.2 ((hs.map _).nodup (noDup_nodup.1 g5))⟩
theorem without_gone {xs : List Entry} {i : Nat} {r : Int} (h : noDup xs = true) (hi : i < xs.length) (hr : (xs.getD i default).ref = r) : findRef (xs.take i ++ xs.drop (i + 1)) r < 0 := by
  rw [← filterE_one h hi hr, findRef_none]
  intro x hx
  simpa using (List.mem_filter.1 hx).2
theorem without_len {xs : List Entry} {i : Nat} (hi : i < xs.length) : (xs.take i ++ xs.drop (i + 1)).length = xs.length - 1 := by
  simp; omega
theorem boxTo_rf {xs : List Entry} {d : Int} (h : ∀ x ∈ xs, rf x.rect d = 0) : ∀ k, k < xs.length → rf (boxTo xs k) d = 0 ∧ (∀ i, i ≤ k → covers (boxTo xs k) (xs.getD i default).rect = true)
  | 0, hk => ⟨h _ (getD_mem hk), fun i hi => by
      obtain rfl : i = 0 := by omega
      exact covers_iff.2 fun j _ => ⟨Int.le_refl _, Int.le_refl _⟩⟩
  | k + 1, hk => by
    obtain ⟨h1, h2⟩ := boxTo_rf h k (by omega)
    have h3 := h _ (getD_mem (d := default) hk)
    have ht := two_of h1 h3
    have hl := rf_len h1
    refine ⟨by rw [boxTo_succ]; have := rf_un ht; rw [hl.1] at this; exact this, fun i hi => covers_iff.2 fun j hj => ?_⟩
    rw [boxTo_succ, un_low_len] at hj
    have e := un_at (a := boxTo xs k) (b := (xs.getD (k + 1) default).rect) hj
    rw [boxTo_succ]
    rcases Nat.lt_or_ge i (k + 1) with hlt | hge
    · have := covers_iff.1 (h2 i (by omega)) j hj
      omega
    · obtain rfl : i = k + 1 := by omega
      omega
theorem boxTo_least {xs : List Entry} {d : Int} {r : Rect} (h : ∀ x ∈ xs, rf x.rect d = 0) (hr : r.low.length = d.toNat) : ∀ k, k < xs.length → (∀ i, i ≤ k → covers r (xs.getD i default).rect = true) → covers r (boxTo xs k) = true
  | 0, hk, hc => hc 0 (Nat.le_refl _)
  | k + 1, hk, hc => by
    have ih := boxTo_least h hr k (by omega) fun i hi => hc i (by omega)
    have hl := rf_len (boxTo_rf h k (by omega)).1
    refine covers_iff.2 fun j hj => ?_
    have e := un_at (a := boxTo xs k) (b := (xs.getD (k + 1) default).rect) (k := j) (by omega)
    have a1 := covers_iff.1 ih j hj
    have a2 := covers_iff.1 (hc (k + 1) (Nat.le_refl _)) j hj
    rw [boxTo_succ]
    omega
theorem bx_rf {xs : List Entry} {d : Int} (h : ∀ x ∈ xs, rf x.rect d = 0) (h0 : 0 < xs.length) : rf (bx xs) d = 0 := (boxTo_rf h _ (by omega)).1
theorem bx_covers {xs : List Entry} {d : Int} (h : ∀ x ∈ xs, rf x.rect d = 0) {i : Nat} (hi : i < xs.length) : covers (bx xs) (xs.getD i default).rect = true := (boxTo_rf h (xs.length - 1) (by omega)).2 i (by omega)
theorem bx_least {xs : List Entry} {d : Int} {r : Rect} (h : ∀ x ∈ xs, rf x.rect d = 0) (hr : r.low.length = d.toNat) (h0 : 0 < xs.length) (hc : ∀ i, i < xs.length → covers r (xs.getD i default).rect = true) : covers r (bx xs) = true :=
  boxTo_least h hr _ (by omega) fun i hi => hc i (by omega)
theorem covers_trans {a b c : Rect} (hl : b.low.length = a.low.length) (h1 : covers a b = true) (h2 : covers b c = true) : covers a c = true := by
  refine covers_iff.2 fun k hk => ?_
  have := covers_iff.1 h1 k hk
  have := covers_iff.1 h2 k (by omega)
  omega
theorem nf_wider {n : Node} {d : Int} {b : Rect} {i : Nat} (h : nf n d = 0) (hb : rf b d = 0) (hi : i < n.entries.length) : nf ⟨n.level, n.nsn, n.right, n.entries.set i (wider (n.entries.getD i default) b)⟩ d = 0 := by
  obtain ⟨g1, g2, g3, g4, g5⟩ := nf_iff.1 h
  have hm := getD_mem (d := default) hi
  have hr := ef_rf (g3 _ hm)
  have hu : rf (un (n.entries.getD i default).rect b) d = 0 := by
    have h1 := rf_un (two_of hr hb)
    have h2 := rf_len hr
    rw [h2.1] at h1; exact h1
  refine nf_iff.2 ⟨g1, by simpa using g2, fun x hx => ?_, fun x hx => ?_, ?_⟩
  · rcases List.mem_or_eq_of_mem_set hx with hx | rfl
    · exact g3 x hx
    · have h1 := g3 _ hm
      unfold entryF at h1 ⊢
      rw [if_neg (by simpa using hr)] at h1
      rw [if_neg (by simpa [wider] using hu)]
      exact h1
  · rcases List.mem_or_eq_of_mem_set hx with hx | rfl
    · exact g4 x hx
    · exact (show fits n.level (n.entries.getD i default) = true from g4 _ hm)
  · rw [noDup_nodup] at g5 ⊢
    have e : (n.entries.set i (wider (n.entries.getD i default) b)).map (·.ref) = n.entries.map (·.ref) := by
      rw [List.map_set]
      refine List.ext_getElem (by simp) fun j h1 h2 => ?_
      rw [List.getElem_set]
      split
      · rename_i e; subst e
        rw [getD_lt hi]; simp [wider]
      · rfl
    rw [e]; exact g5
/-- Whether an entry may stand ahead of another one along an axis. -/
def leE (ax : Nat) (a b : Entry) : Bool := decide (a.rect.low.getD ax default < b.rect.low.getD ax default) || (decide (a.rect.low.getD ax default = b.rect.low.getD ax default) && decide (a.rect.high.getD ax default ≤ b.rect.high.getD ax default))
def sortE (ax : Nat) (xs : List Entry) : List Entry := sortL (leE ax) xs
def cmpE (ax : Nat) (a b : Entry) : Int := if cmpI (a.rect.low.getD ax default) (b.rect.low.getD ax default) ≠ 0 then cmpI (a.rect.low.getD ax default) (b.rect.low.getD ax default) else cmpI (a.rect.high.getD ax default) (b.rect.high.getD ax default)
theorem cmpI_neg (a b : Int) : cmpI a b < 0 ↔ a < b := by unfold cmpI; (repeat' split) <;> omega
theorem cmpI_zero (a b : Int) : cmpI a b = 0 ↔ a = b := by unfold cmpI; (repeat' split) <;> omega
theorem cmpE_neg (ax : Nat) (a b : Entry) : decide (cmpE ax a b < 0) = !leE ax b a := by
  unfold cmpE leE
  have h1 := cmpI_neg (a.rect.low.getD ax default) (b.rect.low.getD ax default)
  have h2 := cmpI_zero (a.rect.low.getD ax default) (b.rect.low.getD ax default)
  have h3 := cmpI_neg (a.rect.high.getD ax default) (b.rect.high.getD ax default)
  generalize cmpI (a.rect.low.getD ax default) (b.rect.low.getD ax default) = u at *
  generalize cmpI (a.rect.high.getD ax default) (b.rect.high.getD ax default) = v at *
  generalize a.rect.low.getD ax default = p at *
  generalize b.rect.low.getD ax default = q at *
  generalize a.rect.high.getD ax default = r at *
  generalize b.rect.high.getD ax default = s at *
  rw [Bool.eq_iff_iff]
  simp only [decide_eq_true_eq, Bool.not_eq_true', Bool.or_eq_false_iff, decide_eq_false_iff_not, Bool.and_eq_false_iff]
  split <;> omega
theorem leE_tr (ax : Nat) : ∀ x y z, leE ax x y = true → leE ax y z = true → leE ax x z = true := fun x y z h1 h2 => by
  unfold leE at *
  simp only [Bool.or_eq_true, Bool.and_eq_true, decide_eq_true_eq] at *
  omega
theorem leE_tot (ax : Nat) : ∀ x y, leE ax x y = false → leE ax y x = true := fun x y h => by
  unfold leE at *
  simp only [Bool.or_eq_true, Bool.and_eq_true, decide_eq_true_eq, Bool.or_eq_false_iff, decide_eq_false_iff_not, Bool.and_eq_false_iff] at *
  omega
theorem sortE_perm (ax : Nat) (xs : List Entry) : (sortE ax xs).Perm xs := sortL_perm xs
theorem sortE_len (ax : Nat) (xs : List Entry) : (sortE ax xs).length = xs.length := (sortE_perm ax xs).length_eq
theorem sortE_step (ax : Nat) {xs : List Entry} {k : Nat} (h : k < xs.length) : sortE ax (xs.take (k + 1)) = insL (leE ax) (sortE ax (xs.take k)) (xs.getD k default) := by
  rw [take_step (d := default) h]; exact sortL_snoc _ _
theorem cmpE_swo (ax : Nat) {α : Type} (f : α → Entry) : Go.Sort.SWO (ltOf fun i j : α => cmpE ax (f i) (f j)) where
  irrefl x := by show decide (cmpE ax _ _ < 0) = false; rw [cmpE_neg]; have := leE_tot ax (f x) (f x); cases h : leE ax (f x) (f x) <;> simp_all
  trans x y z h1 h2 := by
    show decide (cmpE ax _ _ < 0) = true
    have h1 : decide (cmpE ax (f x) (f y) < 0) = true := h1
    have h2 : decide (cmpE ax (f y) (f z) < 0) = true := h2
    rw [cmpE_neg] at *
    cases h : leE ax (f z) (f x) with
    | false => rfl
    | true =>
      have h3 := leE_tr ax _ _ _ h (leE_tot ax (f y) (f x) (by simpa using h1))
      rw [h3] at h2; cases h2
  ntrans x y z h1 h2 := by
    show decide (cmpE ax _ _ < 0) = false
    have h1 : decide (cmpE ax (f x) (f y) < 0) = false := h1
    have h2 : decide (cmpE ax (f y) (f z) < 0) = false := h2
    rw [cmpE_neg] at *
    have := leE_tr ax _ _ _ (show leE ax (f z) (f y) = true by simpa using h2) (by simpa using h1)
    simp [this]
end Go.Proofs.Ytmpndkhnajogkaa.W
