/- Contracts of functions that FnExactIsDone reaches: what each returns; it writes to nothing of old. No condition but those that each theorem states. -/
import Derived.Test.YtmpndkhnajogkaaQa0
open Go Go.Vm Go.Proofs Go.IntWalk Go.RowKit
set_option maxRecDepth 100000
set_option maxHeartbeats 4000000
set_option linter.unusedSimpArgs false
set_option linter.unusedVariables false
set_option linter.unusedSectionVars false
namespace Go.Proofs.Ytmpndkhnajogkaa.W
attribute [local irreducible] kJ ev evx vops vstep vgo vgd vget vcall vcallFn vcallA vcallB vts vres vcond vbin
def un (a b : Rect) : Rect := ⟨(List.range a.low.length).map fun j => min (a.low.getD j default) (b.low.getD j default), (List.range a.low.length).map fun j => max (a.high.getD j default) (b.high.getD j default)⟩
theorem un_len (a b : Rect) : (un a b).high.length = (un a b).low.length := by simp [un]
theorem mixF_full (f : Nat → Int) (xs : List Int) : mixF f xs xs.length = (List.range xs.length).map f := by
  refine List.ext_getElem (by simp) fun i h1 h2 => ?_
  simp only [mixF, List.getElem_map, List.getElem_range]
  rw [if_pos (by simpa using h1)]
/-- The first code of a list that is none of 0. -/
def firstF {α : Type} (f : α → Int) : List α → Int
  | [] => 0
  | x :: xs => if f x = 0 then firstF f xs else f x
theorem firstF_here {α : Type} {f : α → Int} : ∀ {xs : List α} {k : Nat} {d : α}, k < xs.length → allLt k (fun j => decide (f (xs.getD j d) = 0)) = true → f (xs.getD k d) ≠ 0 → firstF f xs = f (xs.getD k d)
  | x :: xs, 0, d, _, _, h => by simp only [List.getD_cons_zero] at h ⊢; unfold firstF; rw [if_neg h]
  | x :: xs, k + 1, d, h1, h2, h => by
    rw [allLt_iff] at h2
    have h0 := h2 0 (by omega)
    simp only [List.getD_cons_zero, decide_eq_true_eq] at h0
    simp only [List.getD_cons_succ] at h ⊢
    unfold firstF; rw [if_pos h0]
    exact firstF_here (by simpa using h1) (allLt_iff.mpr fun j hj => by simpa using h2 (j + 1) (by omega)) h
theorem firstF_done {α : Type} {f : α → Int} : ∀ {xs : List α} {k : Nat} {d : α}, xs.length ≤ k → allLt k (fun j => decide (f (xs.getD j d) = 0)) = true → firstF f xs = 0
  | [], _, _, _, _ => rfl
  | x :: xs, k, d, h1, h2 => by
    rw [allLt_iff] at h2
    have h0 := h2 0 (by simp at h1; omega)
    simp only [List.getD_cons_zero, decide_eq_true_eq] at h0
    unfold firstF; rw [if_pos h0]
    exact firstF_done (k := k - 1) (d := d) (by simp at h1; omega) (allLt_iff.mpr fun j hj => by simpa using h2 (j + 1) (by omega))
theorem firstF_zero {α : Type} {f : α → Int} : ∀ {xs : List α}, firstF f xs = 0 → ∀ x ∈ xs, f x = 0
  | [], _, _, hx => by cases hx
  | x :: xs, h, y, hy => by
    unfold firstF at h
    split at h
    · rename_i h0
      rcases List.mem_cons.1 hy with rfl | hy
      · exact h0
      · exact firstF_zero h y hy
    · rename_i h0; exact absurd h h0
def pairF (d : Int) (p : Pair) : Int := if inB p.id 0 999 then rf p.rect d else 3
theorem s_isId (a : Int) : Sat Try.prog 249 [aI a] true (rB (inB a 0 999)) := by
  refine sat_walk (fn := Try.f249) rfl rfl rfl (Nat.le_of_ble_eq_true rfl) fun fr hP hN hbnd => ?_
  have hE : (envOf fr Try.prog).Ok := envOf_ok hP
  have hM := follows_of hP
  have hS : ∀ {draw ops}, statB Try.f249.ntmps draw ops = true → statB (envOf fr Try.prog).fr.N draw ops = true := fun h => by rw [envOf_fr, hN]; exact h
  repeat' (first
    | exact True.intro
    | refine ev_seq ?_
    | ((first | refine vgd_go ?_ | refine ev_region hE hM (hS (by decide +kernel)) ?_ | refine ev_if ?_ | refine end_ret hE rfl rfl ?_ | refine end_norm hE rfl rfl ?_ | refine endG_ret [] hE rfl ?_ | refine endG_norm [] hE rfl ?_ | refine vcallB_of hP (s_within _ _ _) ?_ | refine vcall_A ?_); simp (maxSteps := 2000000) only [go_sem, hP, ↓reduceIte, Nat.reduceAdd, Nat.reduceMul, Nat.reduceEqDiff, Nat.reduceSub, Nat.reduceLeDiff, reduceCtorEq])
    | refine ev_skip ?_ | refine ev_block ?_ | refine ev_blk ?_ | refine ev_ret ?_ | refine ev_exit ?_ | refine evx_code_ret ?_ | refine evx_blk_ret ?_ | refine evx_lp_ret ?_
    | refine evx_code_exit ?_ | refine evx_lp_exit ?_ | refine evx_blk_hit ?_ | refine evx_blk_pass (by decide) ?_
    | refine And.intro ?_ ?_ | intro _ | decide +kernel | omega)
theorem s_pairFault (p : Pair) (d : Int) : Sat Try.prog 209 [aP p, aI d] true (rI (pairF d p)) := by
  refine sat_walk (fn := Try.f209) rfl rfl rfl (Nat.le_of_ble_eq_true rfl) fun fr hP hN hbnd => ?_
  have hE : (envOf fr Try.prog).Ok := envOf_ok hP
  have hM := follows_of hP
  have hS : ∀ {draw ops}, statB Try.f209.ntmps draw ops = true → statB (envOf fr Try.prog).fr.N draw ops = true := fun h => by rw [envOf_fr, hN]; exact h
  repeat' (first
    | exact True.intro
    | refine ev_seq ?_
    | ((first | refine vgd_go ?_ | refine ev_region hE hM (hS (by decide +kernel)) ?_ | refine ev_if ?_ | refine end_ret hE rfl rfl ?_ | refine end_norm hE rfl rfl ?_ | refine endG_ret [] hE rfl ?_ | refine endG_norm [] hE rfl ?_ | refine vcallB_of hP (s_isId _) ?_ | refine vcallB_of hP (s_implRectFault p.rect _) ?_ | refine vcall_A ?_); simp (maxSteps := 2000000) only [go_sem, hP, ↓reduceIte, Nat.reduceAdd, Nat.reduceMul, Nat.reduceEqDiff, Nat.reduceSub, Nat.reduceLeDiff, reduceCtorEq])
    | refine ev_skip ?_ | refine ev_block ?_ | refine ev_blk ?_ | refine ev_ret ?_ | refine ev_exit ?_ | refine evx_code_ret ?_ | refine evx_blk_ret ?_ | refine evx_lp_ret ?_
    | refine evx_code_exit ?_ | refine evx_lp_exit ?_ | refine evx_blk_hit ?_ | refine evx_blk_pass (by decide) ?_
    | refine And.intro ?_ ?_ | intro _ | decide +kernel | omega)
  all_goals (simp_all [pairF] <;> rfl)
theorem s_l2Pair (p : Pair) (d : Int) : Sat Try.prog 210 [.pv (eP p), aI d] true (rI (pairF d p)) := by
  refine sat_walk (fn := Try.f210) rfl rfl rfl (Nat.le_of_ble_eq_true rfl) fun fr hP hN hbnd => ?_
  have hE : (envOf fr Try.prog).Ok := envOf_ok hP
  have hM := follows_of hP
  have hS : ∀ {draw ops}, statB Try.f210.ntmps draw ops = true → statB (envOf fr Try.prog).fr.N draw ops = true := fun h => by rw [envOf_fr, hN]; exact h
  repeat' (first
    | exact True.intro
    | refine ev_seq ?_
    | ((first | refine vgd_go ?_ | refine ev_region hE hM (hS (by decide +kernel)) ?_ | refine ev_if ?_ | refine end_ret hE rfl rfl ?_ | refine end_norm hE rfl rfl ?_ | refine endG_ret [] hE rfl ?_ | refine endG_norm [] hE rfl ?_ | refine vcallB_of hP (s_l1In _ _ _) ?_ | refine vcallB_of hP (s_specRectFault p.rect _) ?_ | refine vcall_A ?_); simp (maxSteps := 2000000) only [go_sem, hP, ↓reduceIte, Nat.reduceAdd, Nat.reduceMul, Nat.reduceEqDiff, Nat.reduceSub, Nat.reduceLeDiff, reduceCtorEq])
    | refine ev_skip ?_ | refine ev_block ?_ | refine ev_blk ?_ | refine ev_ret ?_ | refine ev_exit ?_ | refine evx_code_ret ?_ | refine evx_blk_ret ?_ | refine evx_lp_ret ?_
    | refine evx_code_exit ?_ | refine evx_lp_exit ?_ | refine evx_blk_hit ?_ | refine evx_blk_pass (by decide) ?_
    | refine And.intro ?_ ?_ | intro _ | decide +kernel | omega)
  all_goals (simp_all [pairF] <;> rfl)
def risesAt (xs : List Pair) (j : Nat) : Bool := decide (j = 0) || decide ((xs.getD (j - 1) default).id < (xs.getD j default).id)
def mf (xs : List Pair) (d : Int) : Int :=
  if inB d 2 3 = false then 3 else if (60 : Int) < xs.length then 2 else if firstF (pairF d) xs ≠ 0 then firstF (pairF d) xs else if allLt xs.length (risesAt xs) then 0 else 1
def entryF (d : Int) (e : Entry) : Int := if rf e.rect d ≠ 0 then rf e.rect d else if inB e.ref 0 999 && inB e.nsn 0 100000 then 0 else 3
theorem s_isNsn (a : Int) : Sat Try.prog 191 [aI a] true (rB (inB a 0 100000)) := by
  refine sat_walk (fn := Try.f191) rfl rfl rfl (Nat.le_of_ble_eq_true rfl) fun fr hP hN hbnd => ?_
  have hE : (envOf fr Try.prog).Ok := envOf_ok hP
  have hM := follows_of hP
  have hS : ∀ {draw ops}, statB Try.f191.ntmps draw ops = true → statB (envOf fr Try.prog).fr.N draw ops = true := fun h => by rw [envOf_fr, hN]; exact h
  repeat' (first
    | exact True.intro
    | refine ev_seq ?_
    | ((first | refine vgd_go ?_ | refine ev_region hE hM (hS (by decide +kernel)) ?_ | refine ev_if ?_ | refine end_ret hE rfl rfl ?_ | refine end_norm hE rfl rfl ?_ | refine endG_ret [] hE rfl ?_ | refine endG_norm [] hE rfl ?_ | refine vcallB_of hP (s_within _ _ _) ?_ | refine vcall_A ?_); simp (maxSteps := 2000000) only [go_sem, hP, ↓reduceIte, Nat.reduceAdd, Nat.reduceMul, Nat.reduceEqDiff, Nat.reduceSub, Nat.reduceLeDiff, reduceCtorEq])
    | refine ev_skip ?_ | refine ev_block ?_ | refine ev_blk ?_ | refine ev_ret ?_ | refine ev_exit ?_ | refine evx_code_ret ?_ | refine evx_blk_ret ?_ | refine evx_lp_ret ?_
    | refine evx_code_exit ?_ | refine evx_lp_exit ?_ | refine evx_blk_hit ?_ | refine evx_blk_pass (by decide) ?_
    | refine And.intro ?_ ?_ | intro _ | decide +kernel | omega)
def findRef (xs : List Entry) (r : Int) : Int := if xs.any (fun e => decide (e.ref = r)) then (xs.findIdx (fun e => decide (e.ref = r)) : Int) else -1
def dupAt (xs : List Entry) (j : Nat) : Bool := (xs.take j).any (fun e => decide (e.ref = (xs.getD j default).ref))
def noDup (xs : List Entry) : Bool := allLt xs.length (fun j => !dupAt xs j)
theorem findRef_self {xs : List Entry} {k : Nat} (h : k < xs.length) : findRef xs (xs.getD k default).ref = k ↔ dupAt xs k = false := by
  have hy : xs.any (fun e => decide (e.ref = (xs.getD k default).ref)) = true := any_yes (d := default) h (by simp)
  unfold findRef dupAt; rw [if_pos hy]
  constructor
  · intro he
    have he : xs.findIdx (fun e => decide (e.ref = (xs.getD k default).ref)) = k := by omega
    rw [← Bool.not_eq_true]; intro ha
    obtain ⟨x, hx, hp⟩ := List.any_eq_true.1 ha
    obtain ⟨i, hi, rfl⟩ := List.mem_iff_getElem.1 hx
    simp only [List.length_take] at hi
    have hlt : i < xs.findIdx (fun e => decide (e.ref = (xs.getD k default).ref)) := by omega
    have := List.not_of_lt_findIdx hlt
    simp only [List.getElem_take] at hp
    simp_all
  · intro hn
    rw [findIdx_here (d := default) h hn (by simp)]
theorem findRef_nonneg {xs : List Entry} {r : Int} : decide (0 ≤ findRef xs r) = xs.any (fun e => decide (e.ref = r)) := by
  unfold findRef
  cases h : xs.any (fun e => decide (e.ref = r)) <;> simp
def esf (xs : List Entry) (d : Int) : Int :=
  if inB d 2 3 = false then 3 else if (8 : Int) < xs.length then 2 else if firstF (entryF d) xs ≠ 0 then firstF (entryF d) xs else if noDup xs then 0 else 6
def fits (l : Int) (e : Entry) : Bool := if l = 0 then decide (e.nsn = 0) else decide (e.ref < 40)
def nf (n : Node) (d : Int) : Int :=
  if (inB d 2 3 && inB n.level 0 6 && inB n.nsn 0 100000 && inB n.right (-1) 39) = false then 3 else if (5 : Int) < n.entries.length then 2 else
  if firstF (entryF d) n.entries ≠ 0 then firstF (entryF d) n.entries else if n.entries.all (fits n.level) = false then 1 else if noDup n.entries then 0 else 6
theorem lens_of {a b : Rect} {d : Int} (h1 : rf a d = 0) (h2 : rf b d = 0) : Lens a b := by
  have e1 := rf_len h1
  have e2 := rf_len h2
  exact ⟨by omega, by omega, by omega⟩
def qm (q : Query) (r : Rect) : Bool := if q.kind = 1 then meets q.rect r else if q.kind = 2 then covers q.rect r else if q.kind = 3 then decide (dist r q.point = 0) else true
def matchesAll (q : Query) (d : Int) (r : Rect) : Bool := decide (qf q d = 0) && decide (rf r d = 0) && qm q r
theorem qf_rect {q : Query} {d : Int} (h : qf q d = 0) (hk : q.kind = 1 ∨ q.kind = 2) : rf q.rect d = 0 := by
  have hb : boxed q.kind = true := by unfold boxed; rcases hk with h | h <;> simp [h]
  unfold qf at h
  (repeat' split at h) <;> simp_all
theorem qf_point {q : Query} {d : Int} (h : qf q d = 0) (hk : q.kind = 3 ∨ q.kind = 4) : pf q.point d = 0 := by
  have hb : boxed q.kind = false := by unfold boxed; rcases hk with h | h <;> simp [h]
  unfold qf at h
  (repeat' split at h) <;> simp_all
def markF (q : Query) (m : Mark) : Int := if (inB m.dist 0 10000 && inB m.id 0 39 && inB m.nsn 0 100000) = false then 3 else if m.dist ≠ 0 ∧ q.kind ≠ 4 then 1 else 0
def foundF (d : Int) (xs : List Pair) (j : Nat) : Int := if pairF d (xs.getD j default) ≠ 0 then pairF d (xs.getD j default) else if risesAt xs j then 0 else 1
def lf (l : Look) (d : Int) : Int :=
  if qf l.query d ≠ 0 then qf l.query d else if (20000 : Int) < l.front.length ∨ (1000 : Int) < l.found.length then 2 else
  if firstF (markF l.query) l.front ≠ 0 then firstF (markF l.query) l.front else firstF (foundF d l.found) (List.range l.found.length)
theorem range_getD {n k : Nat} (h : k < n) : (List.range n).getD k 0 = k := by simp [List.getD_eq_getElem?_getD, h]
theorem firstR_here {f : Nat → Int} {n k : Nat} (h : k < n) (h1 : allLt k (fun j => decide (f j = 0)) = true) (h2 : f k ≠ 0) : firstF f (List.range n) = f k := by
  have := firstF_here (f := f) (xs := List.range n) (k := k) (d := 0) (by simpa using h) (allLt_iff.mpr fun j hj => by rw [range_getD (by omega)]; exact allLt_iff.mp h1 j hj) (by rw [range_getD h]; exact h2)
  rw [range_getD h] at this; exact this
theorem firstR_done {f : Nat → Int} {n k : Nat} (h : n ≤ k) (h1 : allLt k (fun j => decide (f j = 0)) = true) : firstF f (List.range n) = 0 := by
  refine firstF_done (f := f) (xs := List.range n) (k := n) (d := 0) (by simp) (allLt_iff.mpr fun j hj => ?_)
  rw [range_getD hj]; exact allLt_iff.mp h1 j (by omega)
theorem lf_front {l : Look} {d : Int} (h1 : qf l.query d = 0) (h2 : (l.front.length : Int) ≤ 20000) (h3 : (l.found.length : Int) ≤ 1000) (h : firstF (markF l.query) l.front ≠ 0) : lf l d = firstF (markF l.query) l.front := by
  unfold lf; rw [if_neg (by omega), if_neg (by omega), if_pos h]
theorem lf_found {l : Look} {d : Int} (h1 : qf l.query d = 0) (h2 : (l.front.length : Int) ≤ 20000) (h3 : (l.found.length : Int) ≤ 1000) (h : firstF (markF l.query) l.front = 0) : lf l d = firstF (foundF d l.found) (List.range l.found.length) := by
  unfold lf; rw [if_neg (by omega), if_neg (by omega), if_neg (by omega)]
theorem lf_front_here {l : Look} {d : Int} (h1 : qf l.query d = 0) (h2 : (l.front.length : Int) ≤ 20000) (h3 : (l.found.length : Int) ≤ 1000) {k : Nat} (hk : k < l.front.length) (ha : allLt k (fun j => decide (markF l.query (l.front.getD j default) = 0)) = true) (c : Int)
    (h : markF l.query (l.front.getD k default) = c) (hc : c ≠ 0) : c = lf l d := by
  have e := firstF_here (f := markF l.query) hk ha (by rw [h]; exact hc)
  rw [lf_front h1 h2 h3 (by rw [e, h]; exact hc), e, h]
theorem lf_found_here {l : Look} {d : Int} (h1 : qf l.query d = 0) (h2 : (l.front.length : Int) ≤ 20000) (h3 : (l.found.length : Int) ≤ 1000) (h4 : firstF (markF l.query) l.front = 0) {k : Nat} (hk : k < l.found.length) (ha : allLt k (fun j => decide (foundF d l.found j = 0)) = true) (c : Int)
    (h : foundF d l.found k = c) (hc : c ≠ 0) : c = lf l d := by
  rw [lf_found h1 h2 h3 h4, firstR_here hk ha (by rw [h]; exact hc), h]
theorem s_specLookFault (l : Look) (d : Int) (h0 : wLook l ≤ 1048576) : Sat Try.prog 100 [aLook l, aI d] true (rI (lf l d)) := by
  refine sat_walk (fn := Try.f100) rfl rfl rfl (Nat.le_of_ble_eq_true rfl) fun fr hP hN hbnd => ?_
  have hE : (envOf fr Try.prog).Ok := envOf_ok hP
  have hM := follows_of hP
  have hS : ∀ {draw ops}, statB Try.f100.ntmps draw ops = true → statB (envOf fr Try.prog).fr.N draw ops = true := fun h => by rw [envOf_fr, hN]; exact h
  have hw : wQuery l.query ≤ 1048576 := by simp only [wLook] at h0; omega
  have hlen := bnd_Look hbnd
  repeat' (first
    | exact True.intro
    | refine ev_seq ?_
    | ((first | refine vgd_go ?_ | refine ev_region hE hM (hS (by decide +kernel)) ?_ | refine ev_if ?_ | refine end_ret hE rfl rfl ?_ | refine end_norm hE rfl rfl ?_ | refine endG_ret [] hE rfl ?_ | refine endG_norm [] hE rfl ?_ | refine vcallB_of hP (s_specQueryFault l.query _ hw) ?_ | refine vcall_A ?_); simp (maxSteps := 2000000) only [go_sem, hP, ↓reduceIte, Nat.reduceAdd, Nat.reduceMul, Nat.reduceEqDiff, Nat.reduceSub, Nat.reduceLeDiff, reduceCtorEq])
    | refine ev_skip ?_ | refine ev_block ?_ | refine ev_blk ?_ | refine ev_ret ?_ | refine ev_exit ?_ | refine evx_code_ret ?_ | refine evx_blk_ret ?_ | refine evx_lp_ret ?_
    | refine evx_code_exit ?_ | refine evx_lp_exit ?_ | refine evx_blk_hit ?_ | refine evx_blk_pass (by decide) ?_
    | refine And.intro ?_ ?_ | intro _ | decide +kernel | omega)
  all_goals first
    | (simp_all [lf]; done)
    | (simp_all [lf]; omega)
    | skip
  rename_i g1 g2 g3
  have e1 : qf l.query d = 0 := by simpa using g1
  have e2 : (l.front.length : Int) ≤ 20000 := by simpa using g2
  have e3 : (l.found.length : Int) ≤ 1000 := by simpa using g3
  refine ev_loop (ι := Nat) (fun k => [(1, .c (.int .i64 d)), (2, .ptr 0 0), (6, .c (.int .i64 k))]) (fun k => [(0, .box (((eLook l).map .c)))]) (fun _ => []) (fun k => k ≤ l.front.length ∧ allLt k (fun j => decide (markF l.query (l.front.getD j default) = 0)) = true) (fun k => l.front.length - k) 0 [] (by simp [allLt_zero] <;> omega) (by simp only [go_sem, hP, ↓reduceIte, Nat.reduceAdd, Nat.reduceMul, Nat.reduceEqDiff, Nat.reduceSub, Nat.reduceLeDiff, reduceCtorEq]; simp) ?_
  intro k hk
  repeat' (first
    | exact True.intro
    | refine ev_seq ?_
    | ((first | refine vgd_go ?_ | refine ev_region hE hM (hS (by decide +kernel)) ?_ | refine ev_if ?_ | refine end_ret hE rfl rfl ?_ | refine end_norm hE rfl rfl ?_ | refine endG_ret [] hE rfl ?_ | refine endG_norm [] hE rfl ?_ | refine vcallB_of hP (s_l1In _ _ _) ?_ | refine vcall_A ?_); simp (maxSteps := 2000000) only [go_sem, hP, ↓reduceIte, Nat.reduceAdd, Nat.reduceMul, Nat.reduceEqDiff, Nat.reduceSub, Nat.reduceLeDiff, reduceCtorEq])
    | refine ev_skip ?_ | refine ev_block ?_ | refine ev_blk ?_ | refine ev_ret ?_ | refine ev_exit ?_ | refine evx_code_ret ?_ | refine evx_blk_ret ?_ | refine evx_lp_ret ?_
    | refine evx_code_exit ?_ | refine evx_lp_exit ?_ | refine evx_blk_hit ?_ | refine evx_blk_pass (by decide) ?_
    | refine And.intro ?_ ?_ | intro _ | decide +kernel | omega)
  all_goals first
    | exact lf_front_here e1 e2 e3 (by omega) hk.2 3 (by simp_all [markF]; done) (by decide)
    | exact lf_front_here e1 e2 e3 (by omega) hk.2 1 (by simp_all [markF]; done) (by decide)
    | exact ev_lp (k + 1) [] ⟨by omega, allLt_step hk.2 (by simp_all [markF]; done)⟩ (by omega) (by simp only [go_sem, hP, ↓reduceIte, Nat.reduceAdd, Nat.reduceMul, Nat.reduceEqDiff, Nat.reduceSub, Nat.reduceLeDiff, reduceCtorEq]; simp; exact wrap_nat (by omega) hlen.2.2.2.1)
    | skip
  have e4 : firstF (markF l.query) l.front = 0 := firstF_done (by omega) hk.2
  clear hk
  refine ev_loop (ι := Nat) (fun k => [(1, .c (.int .i64 d)), (2, .ptr 0 0), (8, .c (.int .i64 k))]) (fun k => [(0, .box (((eLook l).map .c)))]) (fun _ => []) (fun k => k ≤ l.found.length ∧ allLt k (fun j => decide (foundF d l.found j = 0)) = true) (fun k => l.found.length - k) 0 [] (by simp [allLt_zero] <;> omega) (by simp only [go_sem, hP, ↓reduceIte, Nat.reduceAdd, Nat.reduceMul, Nat.reduceEqDiff, Nat.reduceSub, Nat.reduceLeDiff, reduceCtorEq]; simp) ?_
  intro k hk
  have hw1 : 0 < k → IntKind.i64.wrap ((k : Int) - 1) = ((k - 1 : Nat) : Int) := fun h => by rw [i64_in _ (by omega)]; omega
  repeat' (first
    | exact True.intro
    | refine ev_seq ?_
    | ((first | refine vgd_go ?_ | refine ev_region hE hM (hS (by decide +kernel)) ?_ | refine ev_if ?_ | refine end_ret hE rfl rfl ?_ | refine end_norm hE rfl rfl ?_ | refine endG_ret [] hE rfl ?_ | refine endG_norm [] hE rfl ?_ | refine vcallB_of hP (s_l2Pair (l.found.getD k default) _) ?_ | refine vcall_A ?_); simp (maxSteps := 2000000) only [go_sem, hP, ↓reduceIte, Nat.reduceAdd, Nat.reduceMul, Nat.reduceEqDiff, Nat.reduceSub, Nat.reduceLeDiff, reduceCtorEq])
    | refine ev_skip ?_ | refine ev_block ?_ | refine ev_blk ?_ | refine ev_ret ?_ | refine ev_exit ?_ | refine evx_code_ret ?_ | refine evx_blk_ret ?_ | refine evx_lp_ret ?_
    | refine evx_code_exit ?_ | refine evx_lp_exit ?_ | refine evx_blk_hit ?_ | refine evx_blk_pass (by decide) ?_
    | refine And.intro ?_ ?_ | intro _ | decide +kernel | omega)
  all_goals first
    | (rename_i h1 h2; have hz : pairF d (l.found.getD k default) ≠ 0 := by { simp only [bne_iff_ne, ne_eq] at h2; exact h2 }; exact lf_found_here e1 e2 e3 e4 (by omega) hk.2 _ (by unfold foundF; rw [if_pos hz]) hz)
    | (rename_i h1 h2 h3 h4
       rw [hw1 (by omega), Int.toNat_natCast] at h4
       have h0 : k ≠ 0 := by omega
       have hr : risesAt l.found k = false := by simp only [risesAt, Bool.or_eq_false_iff, decide_eq_false_iff_not]; exact ⟨h0, by omega⟩
       have hz : pairF d (l.found.getD k default) = 0 := by simpa using h2
       exact lf_found_here e1 e2 e3 e4 (by omega) hk.2 1 (by unfold foundF; rw [if_neg (by omega), hr]; rfl) (by decide))
    | (rename_i h1 h2 h3 h4
       rw [hw1 (by omega), Int.toNat_natCast] at h4
       have h0 : k ≠ 0 := by omega
       exact ev_lp (k + 1) [] ⟨by omega, allLt_step hk.2 (by simp_all [foundF, risesAt]; done)⟩ (by omega) (by simp only [go_sem, hP, ↓reduceIte, Nat.reduceAdd, Nat.reduceMul, Nat.reduceEqDiff, Nat.reduceSub, Nat.reduceLeDiff, reduceCtorEq]; simp; exact wrap_nat (by omega) hlen.2.2.2.2))
    | (rename_i h1 h2 h3
       have hz : pairF d (l.found.getD k default) = 0 := by { simp only [bne_eq_false_iff_eq] at h2; exact h2 }
       obtain rfl : k = 0 := by omega
       exact ev_lp (0 + 1) [] ⟨by omega, allLt_step hk.2 (by simp_all [foundF, risesAt]; done)⟩ (by omega) (by simp only [go_sem, hP, ↓reduceIte, Nat.reduceAdd, Nat.reduceMul, Nat.reduceEqDiff, Nat.reduceSub, Nat.reduceLeDiff, reduceCtorEq]; simp; exact wrap_nat (n := l.found.length) (by omega) hlen.2.2.2.2))
    | (have h9 := lf_found e1 e2 e3 e4
       rw [firstR_done (by omega) hk.2] at h9
       exact h9.symm)
theorem s_implLookFault (l : Look) (d : Int) : Sat Try.prog 105 [aLook l, aI d] true (rI (lf l d)) := by
  refine sat_walk (fn := Try.f105) rfl rfl rfl (Nat.le_of_ble_eq_true rfl) fun fr hP hN hbnd => ?_
  have hE : (envOf fr Try.prog).Ok := envOf_ok hP
  have hM := follows_of hP
  have hS : ∀ {draw ops}, statB Try.f105.ntmps draw ops = true → statB (envOf fr Try.prog).fr.N draw ops = true := fun h => by rw [envOf_fr, hN]; exact h
  have hlen := bnd_Look hbnd
  repeat' (first
    | exact True.intro
    | refine ev_seq ?_
    | ((first | refine vgd_go ?_ | refine ev_region hE hM (hS (by decide +kernel)) ?_ | refine ev_if ?_ | refine end_ret hE rfl rfl ?_ | refine end_norm hE rfl rfl ?_ | refine endG_ret [] hE rfl ?_ | refine endG_norm [] hE rfl ?_ | refine vcallB_of hP (s_implQueryFault l.query _) ?_ | refine vcall_A ?_); simp (maxSteps := 2000000) only [go_sem, hP, ↓reduceIte, Nat.reduceAdd, Nat.reduceMul, Nat.reduceEqDiff, Nat.reduceSub, Nat.reduceLeDiff, reduceCtorEq])
    | refine ev_skip ?_ | refine ev_block ?_ | refine ev_blk ?_ | refine ev_ret ?_ | refine ev_exit ?_ | refine evx_code_ret ?_ | refine evx_blk_ret ?_ | refine evx_lp_ret ?_
    | refine evx_code_exit ?_ | refine evx_lp_exit ?_ | refine evx_blk_hit ?_ | refine evx_blk_pass (by decide) ?_
    | refine And.intro ?_ ?_ | intro _ | decide +kernel | omega)
  all_goals first
    | (simp_all [lf]; done)
    | (simp_all [lf]; omega)
    | skip
  rename_i g1 g2 g3
  have e1 : qf l.query d = 0 := by simpa using g1
  have e2 : (l.front.length : Int) ≤ 20000 := by simpa using g2
  have e3 : (l.found.length : Int) ≤ 1000 := by simpa using g3
  refine ev_loop (ι := Nat) (fun k => [(1, .c (.int .i64 d)), (2, .ptr 0 0), (31, .c (sMarkS l.front)), (32, .c (.int .i64 l.front.length)), (33, .c (.int .i64 k))]) (fun k => [(0, .box (((eLook l).map .c)))]) (fun _ => []) (fun k => k ≤ l.front.length ∧ allLt k (fun j => decide (markF l.query (l.front.getD j default) = 0)) = true) (fun k => l.front.length - k) 0 [] (by simp [allLt_zero] <;> omega) (by simp only [go_sem, hP, ↓reduceIte, Nat.reduceAdd, Nat.reduceMul, Nat.reduceEqDiff, Nat.reduceSub, Nat.reduceLeDiff, reduceCtorEq]; simp) ?_
  intro k hk
  repeat' (first
    | exact True.intro
    | refine ev_seq ?_
    | ((first | refine vgd_go ?_ | refine ev_region hE hM (hS (by decide +kernel)) ?_ | refine ev_if ?_ | refine end_ret hE rfl rfl ?_ | refine end_norm hE rfl rfl ?_ | refine endG_ret [] hE rfl ?_ | refine endG_norm [] hE rfl ?_ | refine vcallB_of hP (s_within _ _ _) ?_ | refine vcallB_of hP (s_isNsn _) ?_ | refine vcall_A ?_); simp (maxSteps := 2000000) only [go_sem, hP, ↓reduceIte, Nat.reduceAdd, Nat.reduceMul, Nat.reduceEqDiff, Nat.reduceSub, Nat.reduceLeDiff, reduceCtorEq])
    | refine ev_skip ?_ | refine ev_block ?_ | refine ev_blk ?_ | refine ev_ret ?_ | refine ev_exit ?_ | refine evx_code_ret ?_ | refine evx_blk_ret ?_ | refine evx_lp_ret ?_
    | refine evx_code_exit ?_ | refine evx_lp_exit ?_ | refine evx_blk_hit ?_ | refine evx_blk_pass (by decide) ?_
    | refine And.intro ?_ ?_ | intro _ | decide +kernel | omega)
  all_goals first
    | exact lf_front_here e1 e2 e3 (by omega) hk.2 3 (by simp_all [markF]; done) (by decide)
    | exact lf_front_here e1 e2 e3 (by omega) hk.2 1 (by simp_all [markF]; done) (by decide)
    | exact ev_lp (k + 1) [] ⟨by omega, allLt_step hk.2 (by simp_all [markF]; done)⟩ (by omega) (by simp only [go_sem, hP, ↓reduceIte, Nat.reduceAdd, Nat.reduceMul, Nat.reduceEqDiff, Nat.reduceSub, Nat.reduceLeDiff, reduceCtorEq]; simp; exact wrap_nat (by omega) hlen.2.2.2.1)
    | skip
  have e4 : firstF (markF l.query) l.front = 0 := firstF_done (by omega) hk.2
  clear hk
  refine ev_loop (ι := Nat) (fun k => [(1, .c (.int .i64 d)), (2, .ptr 0 0), (64, .c (sP l.found)), (65, .c (.int .i64 l.found.length)), (66, .c (.int .i64 k))]) (fun k => [(0, .box (((eLook l).map .c)))]) (fun _ => []) (fun k => k ≤ l.found.length ∧ allLt k (fun j => decide (foundF d l.found j = 0)) = true) (fun k => l.found.length - k) 0 [] (by simp [allLt_zero] <;> omega) (by simp only [go_sem, hP, ↓reduceIte, Nat.reduceAdd, Nat.reduceMul, Nat.reduceEqDiff, Nat.reduceSub, Nat.reduceLeDiff, reduceCtorEq]; simp) ?_
  intro k hk
  have hw1 : 0 < k → IntKind.i64.wrap ((k : Int) - 1) = ((k - 1 : Nat) : Int) := fun h => by rw [i64_in _ (by omega)]; omega
  repeat' (first
    | exact True.intro
    | refine ev_seq ?_
    | ((first | refine vgd_go ?_ | refine ev_region hE hM (hS (by decide +kernel)) ?_ | refine ev_if ?_ | refine end_ret hE rfl rfl ?_ | refine end_norm hE rfl rfl ?_ | refine endG_ret [] hE rfl ?_ | refine endG_norm [] hE rfl ?_ | refine vcallB_of hP (s_pairFault (l.found.getD k default) _) ?_ | refine vcall_A ?_); simp (maxSteps := 2000000) only [go_sem, hP, ↓reduceIte, Nat.reduceAdd, Nat.reduceMul, Nat.reduceEqDiff, Nat.reduceSub, Nat.reduceLeDiff, reduceCtorEq])
    | refine ev_skip ?_ | refine ev_block ?_ | refine ev_blk ?_ | refine ev_ret ?_ | refine ev_exit ?_ | refine evx_code_ret ?_ | refine evx_blk_ret ?_ | refine evx_lp_ret ?_
    | refine evx_code_exit ?_ | refine evx_lp_exit ?_ | refine evx_blk_hit ?_ | refine evx_blk_pass (by decide) ?_
    | refine And.intro ?_ ?_ | intro _ | decide +kernel | omega)
  all_goals first
    | (rename_i h1 h2; have hz : pairF d (l.found.getD k default) ≠ 0 := by { simp only [bne_iff_ne, ne_eq] at h2; exact h2 }; exact lf_found_here e1 e2 e3 e4 (by omega) hk.2 _ (by unfold foundF; rw [if_pos hz]) hz)
    | (rename_i h1 h2 h3 h4
       rw [hw1 (by omega), Int.toNat_natCast] at h4
       have h0 : k ≠ 0 := by omega
       have hr : risesAt l.found k = false := by simp only [risesAt, Bool.or_eq_false_iff, decide_eq_false_iff_not]; exact ⟨h0, by omega⟩
       have hz : pairF d (l.found.getD k default) = 0 := by simpa using h2
       exact lf_found_here e1 e2 e3 e4 (by omega) hk.2 1 (by unfold foundF; rw [if_neg (by omega), hr]; rfl) (by decide))
    | (rename_i h1 h2 h3 h4
       rw [hw1 (by omega), Int.toNat_natCast] at h4
       have h0 : k ≠ 0 := by omega
       exact ev_lp (k + 1) [] ⟨by omega, allLt_step hk.2 (by simp_all [foundF, risesAt]; done)⟩ (by omega) (by simp only [go_sem, hP, ↓reduceIte, Nat.reduceAdd, Nat.reduceMul, Nat.reduceEqDiff, Nat.reduceSub, Nat.reduceLeDiff, reduceCtorEq]; simp; exact wrap_nat (by omega) hlen.2.2.2.2))
    | (rename_i h1 h2 h3
       have hz : pairF d (l.found.getD k default) = 0 := by { simp only [bne_eq_false_iff_eq] at h2; exact h2 }
       obtain rfl : k = 0 := by omega
       exact ev_lp (0 + 1) [] ⟨by omega, allLt_step hk.2 (by simp_all [foundF, risesAt]; done)⟩ (by omega) (by simp only [go_sem, hP, ↓reduceIte, Nat.reduceAdd, Nat.reduceMul, Nat.reduceEqDiff, Nat.reduceSub, Nat.reduceLeDiff, reduceCtorEq]; simp; exact wrap_nat (n := l.found.length) (by omega) hlen.2.2.2.2))
    | (have h9 := lf_found e1 e2 e3 e4
       rw [firstR_done (by omega) hk.2] at h9
       exact h9.symm)
def cmpI (a b : Int) : Int := if a < b then -1 else if b < a then 1 else 0
theorem s_Compare (a b : Int) : Sat Try.prog 234 [aI a, aI b] true (rI (cmpI a b)) := by
  refine sat_walk (fn := Try.f234) rfl rfl rfl (Nat.le_of_ble_eq_true rfl) fun fr hP hN hbnd => ?_
  have hE : (envOf fr Try.prog).Ok := envOf_ok hP
  have hM := follows_of hP
  have hS : ∀ {draw ops}, statB Try.f234.ntmps draw ops = true → statB (envOf fr Try.prog).fr.N draw ops = true := fun h => by rw [envOf_fr, hN]; exact h
  repeat' (first
    | exact True.intro
    | refine ev_seq ?_
    | ((first | refine vgd_go ?_ | refine ev_region hE hM (hS (by decide +kernel)) ?_ | refine ev_if ?_ | refine end_ret hE rfl rfl ?_ | refine end_norm hE rfl rfl ?_ | refine endG_ret [] hE rfl ?_ | refine endG_norm [] hE rfl ?_ | refine vcallB_of hP (s_isNaN _) ?_ | refine vcall_A ?_); simp (maxSteps := 2000000) only [go_sem, hP, ↓reduceIte, Nat.reduceAdd, Nat.reduceMul, Nat.reduceEqDiff, Nat.reduceSub, Nat.reduceLeDiff, reduceCtorEq])
    | refine ev_skip ?_ | refine ev_block ?_ | refine ev_blk ?_ | refine ev_ret ?_ | refine ev_exit ?_ | refine evx_code_ret ?_ | refine evx_blk_ret ?_ | refine evx_lp_ret ?_
    | refine evx_code_exit ?_ | refine evx_lp_exit ?_ | refine evx_blk_hit ?_ | refine evx_blk_pass (by decide) ?_
    | refine And.intro ?_ ?_ | intro _ | decide +kernel | omega)
  all_goals first
    | (simp_all [cmpI]; done)
    | (simp_all [cmpI]; omega)
theorem s_OrL (xs : List Int) : Sat Try.prog 233 [aL xs] true (rI (firstF id xs)) := by
  refine sat_walk (fn := Try.f233) rfl rfl rfl (Nat.le_of_ble_eq_true rfl) fun fr hP hN hbnd => ?_
  have hE : (envOf fr Try.prog).Ok := envOf_ok hP
  have hM := follows_of hP
  have hS : ∀ {draw ops}, statB Try.f233.ntmps draw ops = true → statB (envOf fr Try.prog).fr.N draw ops = true := fun h => by rw [envOf_fr, hN]; exact h
  have hlen := bndL hbnd
  repeat' (first
    | exact True.intro
    | refine ev_seq ?_
    | ((first | refine vgd_go ?_ | refine ev_region hE hM (hS (by decide +kernel)) ?_ | refine ev_if ?_ | refine end_ret hE rfl rfl ?_ | refine end_norm hE rfl rfl ?_ | refine endG_ret [] hE rfl ?_ | refine endG_norm [] hE rfl ?_ | refine vcall_A ?_); simp (maxSteps := 2000000) only [go_sem, hP, ↓reduceIte, Nat.reduceAdd, Nat.reduceMul, Nat.reduceEqDiff, Nat.reduceSub, Nat.reduceLeDiff, reduceCtorEq])
    | refine ev_skip ?_ | refine ev_block ?_ | refine ev_blk ?_ | refine ev_ret ?_ | refine ev_exit ?_ | refine evx_code_ret ?_ | refine evx_blk_ret ?_ | refine evx_lp_ret ?_
    | refine evx_code_exit ?_ | refine evx_lp_exit ?_ | refine evx_blk_hit ?_ | refine evx_blk_pass (by decide) ?_
    | refine And.intro ?_ ?_ | intro _ | decide +kernel | omega)
  refine ev_loop (ι := Nat) (fun k => [(3, .c (.int .i64 0)), (6, .c (sI xs)), (7, .c (.int .i64 xs.length)), (8, .c (.int .i64 k))]) (fun k => []) (fun _ => []) (fun k => k ≤ xs.length ∧ allLt k (fun j => decide (id (xs.getD j default) = 0)) = true) (fun k => xs.length - k) 0 [] (by simp [allLt_zero] <;> omega) (by simp only [go_sem, hP, ↓reduceIte, Nat.reduceAdd, Nat.reduceMul, Nat.reduceEqDiff, Nat.reduceSub, Nat.reduceLeDiff, reduceCtorEq]; simp) ?_
  intro k hk
  repeat' (first
    | exact True.intro
    | refine ev_seq ?_
    | ((first | refine vgd_go ?_ | refine ev_region hE hM (hS (by decide +kernel)) ?_ | refine ev_if ?_ | refine end_ret hE rfl rfl ?_ | refine end_norm hE rfl rfl ?_ | refine endG_ret [] hE rfl ?_ | refine endG_norm [] hE rfl ?_ | refine vcall_A ?_); simp (maxSteps := 2000000) only [go_sem, hP, ↓reduceIte, Nat.reduceAdd, Nat.reduceMul, Nat.reduceEqDiff, Nat.reduceSub, Nat.reduceLeDiff, reduceCtorEq])
    | refine ev_skip ?_ | refine ev_block ?_ | refine ev_blk ?_ | refine ev_ret ?_ | refine ev_exit ?_ | refine evx_code_ret ?_ | refine evx_blk_ret ?_ | refine evx_lp_ret ?_
    | refine evx_code_exit ?_ | refine evx_lp_exit ?_ | refine evx_blk_hit ?_ | refine evx_blk_pass (by decide) ?_
    | refine And.intro ?_ ?_ | intro _ | decide +kernel | omega)
  · rename_i h1 h2
    have hz : id (xs.getD k default) ≠ 0 := by simpa using h2
    exact (firstF_here (f := id) (by omega) hk.2 hz).symm
  · rename_i h1 h2
    exact ev_lp (k + 1) [] ⟨by omega, allLt_step hk.2 (by simpa using h2)⟩ (by omega) (by simp only [go_sem, hP, ↓reduceIte, Nat.reduceAdd, Nat.reduceMul, Nat.reduceEqDiff, Nat.reduceSub, Nat.reduceLeDiff, reduceCtorEq]; simp; exact wrap_nat (by omega) hlen)
  · exact (firstF_done (f := id) (by omega) hk.2).symm
theorem s_Or (a b : Int) : Sat Try.prog 233 [.d (false, [.sl none 1 [[.int .i64 a], [.int .i64 b]]])] true (rI (if a ≠ 0 then a else b)) := by
  have : Sat Try.prog 233 [.d (false, [.sl none 1 [[.int .i64 a], [.int .i64 b]]])] true (rI (firstF id [a, b])) := s_OrL [a, b]
  have e : firstF id [a, b] = if a ≠ 0 then a else b := by
    by_cases h : a = 0 <;> by_cases h' : b = 0 <;> simp [firstF, h, h']
  rwa [e] at this
theorem ef_rf {d : Int} {e : Entry} (h : entryF d e = 0) : rf e.rect d = 0 := by
  unfold entryF at h; split at h
  · rename_i h1; exact absurd h h1
  · rename_i h1; simpa using h1
theorem esf_rf {xs : List Entry} {d : Int} (h : esf xs d = 0) : ∀ x ∈ xs, rf x.rect d = 0 := by
  unfold esf at h
  (repeat' split at h) <;> try omega
  rename_i h1 _
  exact fun x hx => ef_rf (firstF_zero (by simpa using h1) x hx)
theorem esf_lens {xs : List Entry} {d : Int} {r : Rect} (h1 : esf xs d = 0) (h2 : rf r d = 0) : ∀ x ∈ xs, Lens x.rect r ∧ x.rect.low.length ≤ 1048576 := by
  intro x hx
  have h3 := esf_rf h1 x hx
  have := rf_three h3
  exact ⟨lens_of h3 h2, by omega⟩
/-- Numbers that rise from one on. -/
def markedI (k : Int) (n : Nat) : List Int := (List.range n).map fun (j : Nat) => k + j
@[simp] theorem markedI_length (k : Int) (n : Nat) : (markedI k n).length = n := by simp [markedI]
theorem markedI_getD {k : Int} {n j : Nat} (h : j < n) : (markedI k n).getD j default = k + j := by
  rw [getD_lt (by simpa using h)]; simp [markedI]
/-- A row of numbers that is given: the key's name is none of the walk's own (those are multiples of 8). -/
@[go_sem] abbrev gI (κ : Nat) (xs : List Int) : Nat × Blk := (κ, .arr true 2 1 (xs.map eI))
@[go_sem] abbrev iT (n : Int) : T := .c (.int .i64 n)
/-- How far marks may go. -/
abbrev mMax : Int := 1000000000000
def markedR (k : Int) (r : Rect) : Rect := ⟨markedI k r.low.length, markedI (k + r.low.length) r.high.length⟩
theorem markedR_w (k : Int) (r : Rect) : wR (markedR k r) = wR r := by simp [markedR, wR]
@[go_sem] abbrev tR (a b : Nat) : T := .agg [.ref a, .ref b]
@[go_sem] abbrev gR (a b : Nat) (r : Rect) : List (Nat × Blk) := [gI a r.low, gI b r.high]
def findId (xs : List Pair) (r : Int) : Int := if xs.any (fun e => decide (e.id = r)) then (xs.findIdx (fun e => decide (e.id = r)) : Int) else -1
theorem findId_get {xs : List Pair} {r : Int} (h : 0 ≤ findId xs r) : ∃ i : Nat, findId xs r = i ∧ i < xs.length ∧ (xs.getD i default).id = r := by
  unfold findId at h ⊢
  split at h
  · rename_i ha
    rw [if_pos ha]
    have hi : xs.findIdx (fun e => decide (e.id = r)) < xs.length := by
      rw [List.findIdx_lt_length]; simpa using ha
    refine ⟨_, rfl, hi, ?_⟩
    rw [getD_lt hi]
    have := List.findIdx_getElem (w := hi)
    simpa using this
  · omega
theorem wR_get {xs : List Pair} {i : Nat} (h : i < xs.length) (hw : wPs xs ≤ 1048576) : (xs.getD i default).rect.low.length ≤ 1048576 ∧ (xs.getD i default).rect.high.length ≤ 1048576 := by
  have := sumW_get (w := fun p : Pair => wR p.rect) (d := default) h
  unfold wPs at hw
  have e : wR (xs.getD i default).rect = (xs.getD i default).rect.low.length + (xs.getD i default).rect.high.length := rfl
  simp only [e] at this
  omega
/-- The pair with an id: code, and pair. -/
def fpC (xs : List Pair) (d r : Int) : Int := if mf xs d ≠ 0 then mf xs d else if findId xs r < 0 then 4 else 0
def fpV (xs : List Pair) (d r : Int) : Pair := if fpC xs d r = 0 then ⟨r, (xs.getD (findId xs r).toNat default).rect⟩ else ⟨0, [], []⟩
@[go_sem] abbrev aPR (c : Int) (p : Pair) : Arg := .d (true, [.int .i64 c, .int .i64 p.id, sI p.rect.low, sI p.rect.high])
@[go_sem] abbrev rPR (c : Int) (p : Pair) : List Dat := [(true, [.int .i64 c, .int .i64 p.id, oI p.rect.low, oI p.rect.high])]
@[go_sem] abbrev tPR (c i : Int) (a b : Nat) : T := .agg [iT c, iT i, .ref a, .ref b]
@[go_sem] abbrev tP (i : Int) (a b : Nat) : T := .agg [iT i, .ref a, .ref b]
theorem fpV_w {xs : List Pair} {d r : Int} : wR (fpV xs d r).rect ≤ wPs xs := by
  unfold fpV
  split
  · by_cases h : 0 ≤ findId xs r
    · obtain ⟨i, h1, h2, h3⟩ := findId_get h
      rw [h1]
      have := sumW_get (w := fun p : Pair => wR p.rect) (d := default) h2
      simp only [Int.toNat_natCast, wPs] at *
      omega
    · rename_i h2
      unfold fpC at h2
      rw [if_pos (show findId xs r < 0 by omega)] at h2
      split at h2 <;> simp_all
  · simp [wR]
theorem s_l1Ints (xs : List Int) (hx : xs.length ≤ 1048576) : Sat Try.prog 247 [aL xs] true (rL xs) := by
  refine sat_walk (fn := Try.f247) rfl rfl rfl (Nat.le_of_ble_eq_true rfl) fun fr hP hN hbnd => ?_
  have hE : (envOf fr Try.prog).Ok := envOf_ok hP
  have hM := follows_of hP
  have hS : ∀ {draw ops}, statB Try.f247.ntmps draw ops = true → statB (envOf fr Try.prog).fr.N draw ops = true := fun h => by rw [envOf_fr, hN]; exact h
  have hlen := bndL hbnd
  repeat' (first
    | exact True.intro
    | refine ev_seq ?_
    | ((first | refine vgd_go ?_ | refine ev_region hE hM (hS (by decide +kernel)) ?_ | refine ev_if ?_ | refine end_ret hE rfl rfl ?_ | refine end_norm hE rfl rfl ?_ | refine endG_ret [] hE rfl ?_ | refine endG_norm [] hE rfl ?_ | refine vcall_A ?_); simp (maxSteps := 2000000) only [go_sem, hP, ↓reduceIte, Nat.reduceAdd, Nat.reduceMul, Nat.reduceEqDiff, Nat.reduceSub, Nat.reduceLeDiff, reduceCtorEq, Bool.and_self])
    | refine ev_skip ?_ | refine ev_block ?_ | refine ev_blk ?_ | refine ev_ret ?_ | refine ev_exit ?_ | refine evx_code_ret ?_ | refine evx_blk_ret ?_ | refine evx_lp_ret ?_
    | refine evx_code_exit ?_ | refine evx_lp_exit ?_ | refine evx_blk_hit ?_ | refine evx_blk_pass (by decide) ?_
    | refine And.intro ?_ ?_ | intro _ | decide +kernel | omega)
  all_goals (simp_all; done)
theorem s_l1Copy (r : Rect) (h1 : r.low.length ≤ 1048576) (h2 : r.high.length ≤ 1048576) : Sat Try.prog 151 [pR r] true (rR r) := by
  refine sat_walk (fn := Try.f151) rfl rfl rfl (Nat.le_of_ble_eq_true rfl) fun fr hP hN hbnd => ?_
  have hE : (envOf fr Try.prog).Ok := envOf_ok hP
  have hM := follows_of hP
  have hS : ∀ {draw ops}, statB Try.f151.ntmps draw ops = true → statB (envOf fr Try.prog).fr.N draw ops = true := fun h => by rw [envOf_fr, hN]; exact h
  repeat' (first
    | exact True.intro
    | refine ev_seq ?_
    | ((first | refine vgd_go ?_ | refine ev_region hE hM (hS (by decide +kernel)) ?_ | refine ev_if ?_ | refine end_ret hE rfl rfl ?_ | refine end_norm hE rfl rfl ?_ | refine endG_ret [] hE rfl ?_ | refine endG_norm [] hE rfl ?_ | refine vcallB_of hP (s_l1Ints _ h1) ?_ | refine vcallB_of hP (s_l1Ints _ h2) ?_ | refine vcall_A ?_); simp (maxSteps := 2000000) only [go_sem, hP, ↓reduceIte, Nat.reduceAdd, Nat.reduceMul, Nat.reduceEqDiff, Nat.reduceSub, Nat.reduceLeDiff, reduceCtorEq])
    | refine ev_skip ?_ | refine ev_block ?_ | refine ev_blk ?_ | refine ev_ret ?_ | refine ev_exit ?_ | refine evx_code_ret ?_ | refine evx_blk_ret ?_ | refine evx_lp_ret ?_
    | refine evx_code_exit ?_ | refine evx_lp_exit ?_ | refine evx_blk_hit ?_ | refine evx_blk_pass (by decide) ?_
    | refine And.intro ?_ ?_ | intro _ | decide +kernel | omega)
theorem s_l2Copy (p : Pair) (h1 : p.rect.low.length ≤ 1048576) (h2 : p.rect.high.length ≤ 1048576) : Sat Try.prog 263 [.pv (eP p)] true (rP p) := by
  refine sat_walk (fn := Try.f263) rfl rfl rfl (Nat.le_of_ble_eq_true rfl) fun fr hP hN hbnd => ?_
  have hE : (envOf fr Try.prog).Ok := envOf_ok hP
  have hM := follows_of hP
  have hS : ∀ {draw ops}, statB Try.f263.ntmps draw ops = true → statB (envOf fr Try.prog).fr.N draw ops = true := fun h => by rw [envOf_fr, hN]; exact h
  repeat' (first
    | exact True.intro
    | refine ev_seq ?_
    | ((first | refine vgd_go ?_ | refine ev_region hE hM (hS (by decide +kernel)) ?_ | refine ev_if ?_ | refine end_ret hE rfl rfl ?_ | refine end_norm hE rfl rfl ?_ | refine endG_ret [] hE rfl ?_ | refine endG_norm [] hE rfl ?_ | refine vcallB_of hP (s_l1Copy p.rect h1 h2) ?_ | refine vcall_A ?_); simp (maxSteps := 2000000) only [go_sem, hP, ↓reduceIte, Nat.reduceAdd, Nat.reduceMul, Nat.reduceEqDiff, Nat.reduceSub, Nat.reduceLeDiff, reduceCtorEq])
    | refine ev_skip ?_ | refine ev_block ?_ | refine ev_blk ?_ | refine ev_ret ?_ | refine ev_exit ?_ | refine evx_code_ret ?_ | refine evx_blk_ret ?_ | refine evx_lp_ret ?_
    | refine evx_code_exit ?_ | refine evx_lp_exit ?_ | refine evx_blk_hit ?_ | refine evx_blk_pass (by decide) ?_
    | refine And.intro ?_ ?_ | intro _ | decide +kernel | omega)
def kP (k : Int) (xs : List Pair) (j : Nat) : Int := k + wPs (xs.take j)
def mP (k : Int) (xs : List Pair) (j : Nat) : Pair := ⟨kP k xs j, markedR (kP k xs j + 1) (xs.getD j default).rect⟩
def preP (k : Int) (xs : List Pair) (j : Nat) : List Pair := (List.range j).map (mP k xs)
def markedPs (k : Int) (xs : List Pair) : List Pair := preP k xs xs.length
@[simp] theorem preP_length (k : Int) (xs : List Pair) (j : Nat) : (preP k xs j).length = j := by simp [preP]
theorem preP_succ (k : Int) (xs : List Pair) (j : Nat) : preP k xs (j + 1) = preP k xs j ++ [mP k xs j] := by simp [preP, List.range_succ]
theorem kP_zero (k : Int) (xs : List Pair) : kP k xs 0 = k := by simp [kP, wPs, sumW]
theorem kP_succ {k : Int} {xs : List Pair} {j : Nat} (h : j < xs.length) : kP k xs (j + 1) = kP k xs j + 1 + (xs.getD j default).rect.low.length + (xs.getD j default).rect.high.length := by
  have := sumW_step (w := fun p : Pair => wR p.rect) (d := default) h
  have e : wR (xs.getD j default).rect = (xs.getD j default).rect.low.length + (xs.getD j default).rect.high.length := rfl
  have e1 : (xs.take (j + 1)).length = j + 1 := by rw [List.length_take]; omega
  have e2 : (xs.take j).length = j := by rw [List.length_take]; omega
  simp only [kP, wPs, this, e1, e2, e]
  omega
theorem kP_le {k : Int} {xs : List Pair} (j : Nat) : kP k xs j ≤ k + wPs xs := by
  have := sumW_le (w := fun p : Pair => wR p.rect) (xs := xs) j
  simp only [kP, wPs, List.length_take]
  omega
theorem kP_ge {k : Int} {xs : List Pair} (j : Nat) : k ≤ kP k xs j := by simp only [kP]; omega
theorem kP_done {k : Int} {xs : List Pair} : kP k xs xs.length = k + wPs xs := by simp [kP]
theorem drop_oP {xs : List Pair} {j : Nat} (h : j < xs.length) : (xs.drop j).map oP = oP (xs.getD j default) :: (xs.drop (j + 1)).map oP := by
  rw [List.drop_eq_getElem_cons h, getD_lt h]; rfl
@[go_sem] abbrev gPs (κ : Nat) (xs : List Pair) : Nat × Blk := (κ, .arr true 105 3 (xs.map oP))
/-- All boxes have as many numbers as n tells. -/
def Even (xs : List Entry) (n : Nat) : Prop := ∀ x ∈ xs, x.rect.low.length = n ∧ x.rect.high.length = n
theorem even_get {xs : List Entry} {n k : Nat} (h : Even xs n) (hk : k < xs.length) : (xs.getD k default).rect.low.length = n ∧ (xs.getD k default).rect.high.length = n := h _ (getD_mem hk)
theorem even_drop {xs : List Entry} {n k : Nat} (h : Even xs n) : Even (xs.drop k) n := fun x hx => h x (List.mem_of_mem_drop hx)
theorem even_take {xs : List Entry} {n k : Nat} (h : Even xs n) : Even (xs.take k) n := fun x hx => h x (List.mem_of_mem_take hx)
def boxTo (xs : List Entry) : Nat → Rect
  | 0 => (xs.getD 0 default).rect
  | k + 1 => un (boxTo xs k) (xs.getD (k + 1) default).rect
theorem boxTo_zero (xs : List Entry) : boxTo xs 0 = (xs.getD 0 default).rect := rfl
theorem boxTo_succ (xs : List Entry) (k : Nat) : boxTo xs (k + 1) = un (boxTo xs k) (xs.getD (k + 1) default).rect := rfl
def bx (xs : List Entry) : Rect := boxTo xs (xs.length - 1)
theorem un_size {a b : Rect} : (un a b).low.length = a.low.length ∧ (un a b).high.length = a.low.length := by simp [un]
theorem boxTo_size {xs : List Entry} {n : Nat} (h : Even xs n) : ∀ k, k < xs.length → (boxTo xs k).low.length = n ∧ (boxTo xs k).high.length = n
  | 0, hk => even_get h hk
  | k + 1, hk => by
    have := boxTo_size h k (by omega)
    rw [boxTo_succ]
    exact ⟨by rw [un_size.1]; exact this.1, by rw [un_size.2]; exact this.1⟩
theorem boxTo_lens {xs : List Entry} {n k : Nat} (h : Even xs n) (hk : k + 1 < xs.length) : Lens (boxTo xs k) (xs.getD (k + 1) default).rect := by
  have h1 := boxTo_size h k (by omega)
  have h2 := even_get h hk
  exact ⟨by omega, by omega, by omega⟩
theorem bx_size {xs : List Entry} {n : Nat} (h : Even xs n) (h0 : 0 < xs.length) : (bx xs).low.length = n ∧ (bx xs).high.length = n := boxTo_size h _ (by omega)
theorem nf_rf {n : Node} {d : Int} (h : nf n d = 0) : ∀ x ∈ n.entries, rf x.rect d = 0 := by
  unfold nf at h
  (repeat' split at h) <;> try omega
  all_goals first
    | (rename_i h1 h2 h3; exact fun x hx => ef_rf (firstF_zero (by simpa using ‹¬firstF (entryF d) n.entries ≠ 0›) x hx))
    | skip
theorem rf_even {xs : List Entry} {d : Int} (h : ∀ x ∈ xs, rf x.rect d = 0) : Even xs d.toNat := fun x hx => by
  have := rf_len (h x hx); omega
theorem rf_two {r : Rect} {d : Int} (h : rf r d = 0) : 2 ≤ d ∧ d ≤ 3 := by
  have h1 := rf_len h
  have h2 : pf r.low d = 0 := by unfold rf at h; split at h <;> simp_all
  have := pf_three h2
  unfold pf at h2; split at h2 <;> simp_all [inB]
theorem s_clonedPairs (xs : List Pair) (hw : wPs xs ≤ 1048576) : Sat Try.prog 261 [aPs xs] true (rPs xs) := by
  refine sat_walk (fn := Try.f261) rfl rfl rfl (Nat.le_of_ble_eq_true rfl) fun fr hP hN hbnd => ?_
  have hE : (envOf fr Try.prog).Ok := envOf_ok hP
  have hM := follows_of hP
  have hS : ∀ {draw ops}, statB Try.f261.ntmps draw ops = true → statB (envOf fr Try.prog).fr.N draw ops = true := fun h => by rw [envOf_fr, hN]; exact h
  have hlen : xs.length ≤ 1048576 := by unfold wPs at hw; omega
  repeat' (first
    | exact True.intro
    | refine ev_seq ?_
    | ((first | refine vgd_go ?_ | refine ev_region hE hM (hS (by decide +kernel)) ?_ | refine ev_if ?_ | refine end_ret hE rfl rfl ?_ | refine end_norm hE rfl rfl ?_ | refine endG_ret [] hE rfl ?_ | refine endG_norm [] hE rfl ?_ | refine vcall_A ?_); simp (maxSteps := 2000000) only [go_sem, hP, ↓reduceIte, Nat.reduceAdd, Nat.reduceMul, Nat.reduceEqDiff, Nat.reduceSub, Nat.reduceLeDiff, reduceCtorEq])
    | refine ev_skip ?_ | refine ev_block ?_ | refine ev_blk ?_ | refine ev_ret ?_ | refine ev_exit ?_ | refine evx_code_ret ?_ | refine evx_blk_ret ?_ | refine evx_lp_ret ?_
    | refine evx_code_exit ?_ | refine evx_lp_exit ?_ | refine evx_blk_hit ?_ | refine evx_blk_pass (by decide) ?_
    | refine And.intro ?_ ?_ | intro _ | decide +kernel | omega)
  refine ev_loop (ι := Nat) (fun k => [(3, .ref 100000), (7, .c (sP xs)), (8, iT xs.length), (9, iT k)]) (fun k => [(100000, .arr true 105 3 ((xs.take k).map oP))]) (fun _ => []) (fun k => k ≤ xs.length) (fun k => xs.length - k) 0 [(100000, some 4096)] (by omega) (by simp only [go_sem, hP, ↓reduceIte, Nat.reduceAdd, Nat.reduceMul, Nat.reduceEqDiff, Nat.reduceSub, Nat.reduceLeDiff, reduceCtorEq]; simp) ?_
  intro k hk
  have hw1 : k < xs.length → IntKind.i64.wrap ((k : Int) + 1) = k + 1 := fun h => i64_in _ (by omega)
  have htl : ((xs.take k).map oP).length = k := by simp; omega
  by_cases hlt : k < xs.length
  · have hg := wR_get hlt hw
    repeat' (first
      | exact True.intro
      | refine ev_seq ?_
      | ((first | refine vgd_go ?_ | refine ev_region hE hM (hS (by decide +kernel)) ?_ | refine ev_if ?_ | refine end_ret hE rfl rfl ?_ | refine end_norm hE rfl rfl ?_ | refine endG_ret [] hE rfl ?_ | refine endG_norm [] hE rfl ?_ | refine vcallB_of hP (s_cloned (xs.getD k default).rect hg.1 hg.2) ?_ | refine vcall_A ?_); simp (maxSteps := 2000000) only [go_sem, hP, ↓reduceIte, Nat.reduceAdd, Nat.reduceMul, Nat.reduceEqDiff, Nat.reduceSub, Nat.reduceLeDiff, reduceCtorEq, htl, Bool.and_self])
      | refine ev_skip ?_ | refine ev_block ?_ | refine ev_blk ?_ | refine ev_ret ?_ | refine ev_exit ?_ | refine evx_code_ret ?_ | refine evx_blk_ret ?_ | refine evx_lp_ret ?_
      | refine evx_code_exit ?_ | refine evx_lp_exit ?_ | refine evx_blk_hit ?_ | refine evx_blk_pass (by decide) ?_
      | refine And.intro ?_ ?_ | intro _ | decide +kernel | omega)
    all_goals first
      | exact ev_lp (k + 1) [(100000, some 20544)] (by omega) (by omega) (by simp only [go_sem, hP, ↓reduceIte, Nat.reduceAdd, Nat.reduceMul, Nat.reduceEqDiff, Nat.reduceSub, Nat.reduceLeDiff, reduceCtorEq]; rw [take_step (d := default) hlt]; simp [hw1 hlt, oP_eq])
      | (exfalso; omega)
      | (simp_all; done)
  · obtain rfl : k = xs.length := by omega
    repeat' (first
      | exact True.intro
      | refine ev_seq ?_
      | ((first | refine vgd_go ?_ | refine ev_region hE hM (hS (by decide +kernel)) ?_ | refine ev_if ?_ | refine end_ret hE rfl rfl ?_ | refine end_norm hE rfl rfl ?_ | refine endG_ret [] hE rfl ?_ | refine endG_norm [] hE rfl ?_ | refine vcall_A ?_); simp (maxSteps := 2000000) only [go_sem, hP, ↓reduceIte, Nat.reduceAdd, Nat.reduceMul, Nat.reduceEqDiff, Nat.reduceSub, Nat.reduceLeDiff, reduceCtorEq, htl, List.take_length])
      | refine ev_skip ?_ | refine ev_block ?_ | refine ev_blk ?_ | refine ev_ret ?_ | refine ev_exit ?_ | refine evx_code_ret ?_ | refine evx_blk_ret ?_ | refine evx_lp_ret ?_
      | refine evx_code_exit ?_ | refine evx_lp_exit ?_ | refine evx_blk_hit ?_ | refine evx_blk_pass (by decide) ?_
      | refine And.intro ?_ ?_ | intro _ | decide +kernel | omega)
    all_goals first
      | (exfalso; omega)
      | (simp_all; done)
/-- Where a pair is put among others. -/
def addAt (xs : List Pair) (p : Pair) : Nat := if xs.any (fun q => decide (p.id < q.id)) then xs.findIdx (fun q => decide (p.id < q.id)) else xs.length
def addV (xs : List Pair) (p : Pair) : List Pair := xs.take (addAt xs p) ++ [p] ++ xs.drop (addAt xs p)
theorem addAt_le (xs : List Pair) (p : Pair) : addAt xs p ≤ xs.length := by
  unfold addAt; split
  · exact List.findIdx_le_length
  · exact Nat.le_refl _
theorem addAt_lt {xs : List Pair} {p : Pair} {k : Nat} (h : k < addAt xs p) : ¬ p.id < (xs.getD k default).id := by
  have hl := addAt_le xs p
  unfold addAt at h
  split at h
  · have := List.not_of_lt_findIdx h
    have hx := List.findIdx_le_length (p := fun q : Pair => decide (p.id < q.id)) (xs := xs)
    rw [getD_lt (by omega)]
    simpa using this
  · rename_i ha
    have ha : xs.any (fun q => decide (p.id < q.id)) = false := by simpa using ha
    have := List.any_eq_false.1 ha _ (getD_mem (d := default) h)
    simpa using this
theorem addAt_eq {xs : List Pair} {p : Pair} (h : addAt xs p < xs.length) : p.id < (xs.getD (addAt xs p) default).id := by
  unfold addAt at h ⊢
  split at h
  · rename_i ha
    rw [if_pos ha, getD_lt h]
    have := List.findIdx_getElem (w := h)
    simpa using this
  · omega
/-- The row while it is made. -/
def addK (xs : List Pair) (p : Pair) (k : Nat) : List Pair := if k ≤ addAt xs p then xs.take k else xs.take (addAt xs p) ++ p :: (xs.take k).drop (addAt xs p)
theorem addK_lo {xs : List Pair} {p : Pair} {k : Nat} (h : k < addAt xs p) : addK xs p (k + 1) = addK xs p k ++ [xs.getD k default] := by
  have := addAt_le xs p
  unfold addK
  rw [if_pos (by omega), if_pos (by omega), take_step (d := default) (by omega)]
theorem addK_at {xs : List Pair} {p : Pair} (h : addAt xs p < xs.length) : addK xs p (addAt xs p + 1) = addK xs p (addAt xs p) ++ [p] ++ [xs.getD (addAt xs p) default] := by
  unfold addK
  rw [if_neg (by omega), if_pos (Nat.le_refl _), take_step (d := default) h]
  have e : (xs.take (addAt xs p)).length = addAt xs p := by rw [List.length_take]; omega
  rw [List.drop_append, e, Nat.sub_self, List.drop_zero, List.drop_eq_nil_of_le (by omega)]
  simp
theorem addK_hi {xs : List Pair} {p : Pair} {k : Nat} (h : addAt xs p < k) (hk : k < xs.length) : addK xs p (k + 1) = addK xs p k ++ [xs.getD k default] := by
  unfold addK
  rw [if_neg (by omega), if_neg (by omega), take_step (d := default) hk]
  have e : (xs.take k).length = k := by rw [List.length_take]; omega
  rw [List.drop_append, e, show addAt xs p - k = 0 by omega, List.drop_zero]
  simp
theorem addK_done {xs : List Pair} {p : Pair} (h : addAt xs p < xs.length) : addK xs p xs.length = addV xs p := by
  unfold addK addV
  rw [if_neg (by omega), List.take_length]; simp
theorem addK_last {xs : List Pair} {p : Pair} (h : ¬ addAt xs p < xs.length) : addK xs p xs.length ++ [p] = addV xs p := by
  have := addAt_le xs p
  have e : addAt xs p = xs.length := by omega
  unfold addK addV
  rw [e, if_pos (Nat.le_refl _)]; simp
theorem addK_zero (xs : List Pair) (p : Pair) : addK xs p 0 = [] := by unfold addK; rw [if_pos (Nat.zero_le _)]; rfl
theorem addK_len {xs : List Pair} {p : Pair} (k : Nat) : (addK xs p k).length ≤ k + 1 := by
  unfold addK; split
  · rw [List.length_take]; omega
  · simp; omega
theorem wPs_append (xs ys : List Pair) : wPs (xs ++ ys) = wPs xs + wPs ys := by unfold wPs sumW; simp; omega
theorem wPs_split (xs : List Pair) (i : Nat) : wPs (xs.take i) + wPs (xs.drop i) = wPs xs := by rw [← wPs_append, List.take_append_drop]
theorem addV_w (xs : List Pair) (p : Pair) : wPs (addV xs p) = wPs xs + 1 + wR p.rect := by
  have := wPs_split xs (addAt xs p)
  have e : wPs [p] = 1 + wR p.rect := by simp [wPs, sumW]
  unfold addV
  rw [wPs_append, wPs_append, e]; omega
def tpC (xs : List Pair) (d : Int) (p : Pair) : Int := if mf xs d ≠ 0 then mf xs d else if pairF d p ≠ 0 then pairF d p else if findId xs p.id < 0 ∨ ¬ (xs.getD (findId xs p.id).toNat default).rect = p.rect then 4 else 0
def tpV (xs : List Pair) (d : Int) (p : Pair) : List Pair := if tpC xs d p = 0 then xs.take (findId xs p.id).toNat ++ xs.drop ((findId xs p.id).toNat + 1) else []
def apC (xs : List Pair) (d : Int) (p : Pair) : Int := if mf xs d ≠ 0 then mf xs d else if pairF d p ≠ 0 then pairF d p else if 0 ≤ findId xs p.id then 6 else if (60 : Int) ≤ xs.length then 7 else 0
def apV (xs : List Pair) (d : Int) (p : Pair) : List Pair := if apC xs d p = 0 then addV xs p else []
def chC (xs : List Pair) (d : Int) (p : Pair) : Int := if mf xs d ≠ 0 then mf xs d else pairF d p
theorem mf_len {xs : List Pair} {d : Int} (h : mf xs d = 0) : xs.length ≤ 60 := by
  unfold mf at h; (repeat' split at h) <;> omega
theorem pairF_rf {p : Pair} {d : Int} (h : pairF d p = 0) : rf p.rect d = 0 := by
  unfold pairF at h; split at h <;> simp_all
theorem mf_rise {xs : List Pair} {d : Int} (h : mf xs d = 0) : ∀ i j, i < j → j < xs.length → (xs.getD i default).id < (xs.getD j default).id := by
  have h1 : allLt xs.length (risesAt xs) = true := by unfold mf at h; (repeat' split at h) <;> first | omega | assumption
  have h2 : ∀ j, j + 1 < xs.length → (xs.getD j default).id < (xs.getD (j + 1) default).id := fun j hj => by
    have := allLt_iff.mp h1 (j + 1) hj
    simpa [risesAt] using this
  intro i j hij
  induction j with
  | zero => omega
  | succ j ih =>
    intro hj
    by_cases e : i = j
    · subst e; exact h2 i hj
    · have := ih (by omega) (by omega); have := h2 j hj; omega
theorem rf_wR {r : Rect} {d : Int} (h : rf r d = 0) : wR r ≤ 6 := by
  have h1 := rf_len h
  have h2 := rf_two h
  unfold wR; omega
theorem mf_w {xs : List Pair} {d : Int} (h : mf xs d = 0) : wPs xs ≤ 7 * xs.length := by
  have h0 : firstF (pairF d) xs = 0 := by unfold mf at h; (repeat' split at h) <;> first | omega | simp_all
  have h1 := firstF_zero h0
  have : ∀ ys : List Pair, (∀ x ∈ ys, pairF d x = 0) → wPs ys ≤ 7 * ys.length := by
    intro ys
    induction ys with
    | nil => intro _; exact Nat.zero_le _
    | cons y ys ih =>
      intro hy
      have e : wPs (y :: ys) = 1 + wR y.rect + wPs ys := by unfold wPs sumW; simp; omega
      have h2 := rf_wR (pairF_rf (hy y (by simp)))
      have h3 := ih fun x hx => hy x (by simp [hx])
      rw [e, List.length_cons]; omega
  exact this xs h1
@[go_sem] abbrev eY (b : Int) : List C := [.int .u8 b]
@[go_sem] abbrev sY (xs : List Int) : C := .sl none 1 (xs.map eY)
@[go_sem] abbrev aY (xs : List Int) : Arg := .d (false, [sY xs])
/-- The source of a code's bytes. -/
@[go_sem] abbrev bSrc (c : List Int) (a : Int) : Blk := .box [.c (sY c), iT a]
def codeOk (c : List Int) : Prop := c.length ≤ 1048576 ∧ ∀ b ∈ c, 0 ≤ b ∧ b < 256
def nv (c : List Int) (a n : Int) : Int :=
  if n > 200 then (c.getD (a % c.length).toNat default + a / c.length * 37) * 251 + c.getD ((a + 1) % c.length).toNat default * 13 + a
  else c.getD (a % c.length).toNat default + a / c.length * 37
def nx (c : List Int) (a n : Int) : Int := if c.length = 0 then (a * 7) % n else nv c a n % n
theorem byte_get {c : List Int} (hc : codeOk c) (i : Nat) : 0 ≤ c.getD i default ∧ c.getD i default < 256 := by
  rw [List.getD_eq_getElem?_getD]
  rcases h : c[i]? with _ | x
  · exact ⟨by decide, by decide⟩
  · exact hc.2 x (List.mem_of_getElem? h)
theorem nx_in {c : List Int} {a n : Int} (hn : 1 ≤ n) : 0 ≤ nx c a n ∧ nx c a n < n := by
  unfold nx
  split <;> exact ⟨Int.emod_nonneg _ (by omega), Int.emod_lt_of_pos _ (by omega)⟩
theorem tmod_pos {a b : Int} (h : 0 ≤ a) : a.tmod b = a % b := Int.tmod_eq_emod_of_nonneg h
theorem tdiv_pos {a b : Int} (h : 0 ≤ a) : a.tdiv b = a / b := Int.tdiv_eq_ediv_of_nonneg h
section
variable {c : Cx} {i : Nat} {dst : Option Nat} {rest : List Oper} {acc : List (List Nat × List Nat)} {st : St} {f κ : Nat} {P : Program}
theorem vcallG_at {caps args ts : List T} {ats : List Nat} {hc' : List (Nat × Blk)} {rt : T} {b : Blk} (K : Nat) (ks : List Nat) (hst : st.h K = some b) (hP : c.E.fr.P = P) (hs : SatG P f false ts [(1, b)] rt hc') (h : vcallG c i dst rest acc st caps args ts [(1, b)] rt hc' P (rhoOf [(1, K)] κ) ks) :
    vcall c i dst rest acc st f caps args ats κ := vcallG_of [(1, K)] ks hP hs h
end
def pk (c : List Int) (a : Int) (xs : List Int) : Int := xs.getD (nx c a xs.length).toNat default
def coord (c : List Int) (a : Int) : Int := pk c (a + 4) [nx c a 20, nx c (a + 1) 20, nx c (a + 2) 20 - 10, nx c (a + 3) 300 * 3 - 400, 1000, -1000]
theorem pk_mem {c : List Int} {a : Int} {xs : List Int} (h : xs ≠ []) : pk c a xs ∈ xs := by
  have hl : 1 ≤ xs.length := List.length_pos_iff.2 h
  obtain ⟨p1, p2⟩ := nx_in (c := c) (a := a) (n := xs.length) (by omega)
  unfold pk
  rw [List.getD_eq_getElem?_getD, List.getElem?_eq_getElem (by omega)]
  exact List.getElem_mem _
theorem coord_in (c : List Int) (a : Int) : -1000 ≤ coord c a ∧ coord c a ≤ 1000 := by
  have h := pk_mem (c := c) (a := a + 4) (xs := [nx c a 20, nx c (a + 1) 20, nx c (a + 2) 20 - 10, nx c (a + 3) 300 * 3 - 400, 1000, -1000]) (by simp)
  have e0 := nx_in (c := c) (a := a) (n := 20) (by omega)
  have e1 := nx_in (c := c) (a := a + 1) (n := 20) (by omega)
  have e2 := nx_in (c := c) (a := a + 2) (n := 20) (by omega)
  have e3 := nx_in (c := c) (a := a + 3) (n := 300) (by omega)
  simp only [List.mem_cons, List.not_mem_nil, or_false] at h
  unfold coord
  rcases h with h | h | h | h | h | h <;> rw [h] <;> omega
def pointV (c : List Int) (a : Int) (d : Nat) : List Int := (List.range d).map fun (i : Nat) => coord c (a + 5 * i)
def rectLo (c : List Int) (a : Int) (d : Nat) : List Int := (List.range d).map fun (i : Nat) => coord c (a + 6 * i)
def rectHi (c : List Int) (a : Int) (d : Nat) : List Int := (List.range d).map fun (i : Nat) => min (coord c (a + 6 * i) + pk c (a + 6 * i + 5) [0, 1, 3, 8, 30]) 1000
def rectV (c : List Int) (a : Int) (d : Nat) : Rect := ⟨rectLo c a d, rectHi c a d⟩
theorem pk5_in (c : List Int) (a : Int) : 0 ≤ pk c a [0, 1, 3, 8, 30] ∧ pk c a [0, 1, 3, 8, 30] ≤ 30 := by
  have h := pk_mem (c := c) (a := a) (xs := [0, 1, 3, 8, 30]) (by simp)
  simp only [List.mem_cons, List.not_mem_nil, or_false] at h
  omega
theorem dims_in (c : List Int) (a : Int) : pk c a [2, 2, 3] = 2 ∨ pk c a [2, 2, 3] = 3 := by
  have h := pk_mem (c := c) (a := a) (xs := [2, 2, 3]) (by simp)
  simp only [List.mem_cons, List.not_mem_nil, or_false] at h
  omega
theorem rectV_hi (c : List Int) (a : Int) (d i : Nat) (h : i < d) : -1000 ≤ (rectHi c a d).getD i default ∧ (rectHi c a d).getD i default ≤ 1000 := by
  unfold rectHi
  rw [getD_lt (by simpa using h)]
  simp only [List.getElem_map, List.getElem_range]
  have h1 := coord_in c (a + 6 * i)
  have h2 := pk5_in c (a + 6 * i + 5)
  omega
def bentV (c : List Int) (a : Int) (d : Nat) : Rect :=
  if nx c (a + 6 * d) 14 = 0 then ⟨(rectLo c a d).set 0 (pk c (a + 6 * d + 1) [(rectHi c a d).getD 0 default + 1, -1001, 1001]), rectHi c a d⟩
  else if nx c (a + 6 * d) 14 = 1 then ⟨rectLo c a d, (rectHi c a d).drop 1⟩
  else if nx c (a + 6 * d) 14 = 2 then ⟨rectLo c a d ++ [0], rectHi c a d⟩
  else if nx c (a + 6 * d) 14 = 3 then ⟨rectLo c a d, (rectHi c a d).set 1 (pk c (a + 6 * d + 1) [1000, 1001, -1000])⟩
  else rectV c a d
def bentA (c : List Int) (a : Int) (d : Nat) : Int := if nx c (a + 6 * d) 14 = 0 ∨ nx c (a + 6 * d) 14 = 3 then a + 6 * d + 2 else a + 6 * d + 1
theorem bentA_in (c : List Int) (a : Int) (d : Nat) : a ≤ bentA c a d ∧ bentA c a d ≤ a + 6 * d + 2 := by unfold bentA; split <;> omega
def d0 (c : List Int) : Nat := (pk c 0 [2, 2, 3]).toNat
theorem d0_in (c : List Int) : d0 c = 2 ∨ d0 c = 3 := by
  have := dims_in c 0
  unfold d0; omega
theorem d0_eq (c : List Int) : pk c 0 [2, 2, 3] = (d0 c : Int) := by
  have := dims_in c 0
  unfold d0; omega
def unA (c : List Int) : Rect := bentV c 1 (d0 c)
def unP (c : List Int) : Int := bentA c 1 (d0 c)
theorem unP_in (c : List Int) : 0 ≤ unP c ∧ unP c ≤ 100 := by
  have h1 := bentA_in c 1 (d0 c)
  have h2 := d0_in c
  unfold unP; omega
def unQ (c : List Int) : List Int := [(d0 c : Int), d0 c, d0 c, d0 c, d0 c, 2]
def d1 (c : List Int) : Nat := (pk c (unP c + 1) (unQ c)).toNat
theorem d1_mem (c : List Int) : pk c (unP c + 1) (unQ c) = d0 c ∨ pk c (unP c + 1) (unQ c) = 2 := by
  have h := pk_mem (c := c) (a := unP c + 1) (xs := unQ c) (by simp [unQ])
  simp only [unQ, List.mem_cons, List.not_mem_nil, or_false] at h
  rcases h with h | h | h | h | h | h <;> simp [unQ, h]
theorem d1_in (c : List Int) : d1 c = 2 ∨ d1 c = 3 := by
  have := d1_mem c
  have := d0_in c
  unfold d1; omega
theorem d1_eq (c : List Int) : pk c (unP c + 1) (unQ c) = (d1 c : Int) := by
  have := d1_mem c
  have := d0_in c
  unfold d1; omega
def unB (c : List Int) : Rect :=
  if nx c (unP c) 4 = 0 ∧ rf (unA c) (d0 c) = 0 then ⟨(unA c).low, (unA c).high.set 0 (min ((unA c).high.getD 0 default + pk c (unP c + 1) [0, 1, 5]) 1000)⟩
  else bentV c (unP c + 2) (d1 c)
def dsN (c : List Int) : List Int := [((unA c).low.length : Int), (unA c).low.length, (unA c).low.length, 2]
def d2 (c : List Int) : Nat := (pk c 12 (dsN c)).toNat
theorem unA_low (c : List Int) : (unA c).low.length = d0 c ∨ (unA c).low.length = d0 c + 1 := by
  unfold unA bentV rectV
  (repeat' split) <;> simp [rectLo]
theorem d2_mem (c : List Int) : pk c 12 (dsN c) = (unA c).low.length ∨ pk c 12 (dsN c) = 2 := by
  have h := pk_mem (c := c) (a := 12) (xs := dsN c) (by simp [dsN])
  simp only [dsN, List.mem_cons, List.not_mem_nil, or_false] at h
  rcases h with h | h | h | h <;> simp [dsN, h]
theorem d2_eq (c : List Int) : pk c 12 (dsN c) = (d2 c : Int) := by
  have := d2_mem c
  unfold d2; omega
theorem d2_in (c : List Int) : 2 ≤ d2 c ∧ d2 c ≤ 4 := by
  have h1 := d2_mem c
  have h2 := unA_low c
  have h3 := d0_in c
  unfold d2; omega
def dsP (c : List Int) : List Int := pointV c 13 (d2 c)
/-- Whether an entry may stand ahead of another one along an axis. -/
def leE (ax : Nat) (a b : Entry) : Bool := decide (a.rect.low.getD ax default < b.rect.low.getD ax default) || (decide (a.rect.low.getD ax default = b.rect.low.getD ax default) && decide (a.rect.high.getD ax default ≤ b.rect.high.getD ax default))
def sortE (ax : Nat) (xs : List Entry) : List Entry := sortL (leE ax) xs
def cmpE (ax : Nat) (a b : Entry) : Int := if cmpI (a.rect.low.getD ax default) (b.rect.low.getD ax default) ≠ 0 then cmpI (a.rect.low.getD ax default) (b.rect.low.getD ax default) else cmpI (a.rect.high.getD ax default) (b.rect.high.getD ax default)
theorem cmpI_neg (a b : Int) : cmpI a b < 0 ↔ a < b := by unfold cmpI; (repeat' split) <;> omega
theorem cmpI_zero (a b : Int) : cmpI a b = 0 ↔ a = b := by unfold cmpI; (repeat' split) <;> omega
theorem cmpE_neg (ax : Nat) (a b : Entry) : decide (cmpE ax a b < 0) = !leE ax b a := by
  unfold cmpE leE
  have h1 := cmpI_neg (a.rect.low.getD ax default) (b.rect.low.getD ax default)
  have h2 := cmpI_zero (a.rect.low.getD ax default) (b.rect.low.getD ax default)
  have h3 := cmpI_neg (a.rect.high.getD ax default) (b.rect.high.getD ax default)
  generalize cmpI (a.rect.low.getD ax default) (b.rect.low.getD ax default) = u at *
  generalize cmpI (a.rect.high.getD ax default) (b.rect.high.getD ax default) = v at *
  generalize a.rect.low.getD ax default = p at *
  generalize b.rect.low.getD ax default = q at *
  generalize a.rect.high.getD ax default = r at *
  generalize b.rect.high.getD ax default = s at *
  rw [Bool.eq_iff_iff]
  simp only [decide_eq_true_eq, Bool.not_eq_true', Bool.or_eq_false_iff, decide_eq_false_iff_not, Bool.and_eq_false_iff]
  split <;> omega
theorem leE_tr (ax : Nat) : ∀ x y z, leE ax x y = true → leE ax y z = true → leE ax x z = true := fun x y z h1 h2 => by
  unfold leE at *
  simp only [Bool.or_eq_true, Bool.and_eq_true, decide_eq_true_eq] at *
  omega
theorem leE_tot (ax : Nat) : ∀ x y, leE ax x y = false → leE ax y x = true := fun x y h => by
  unfold leE at *
  simp only [Bool.or_eq_true, Bool.and_eq_true, decide_eq_true_eq, Bool.or_eq_false_iff, decide_eq_false_iff_not, Bool.and_eq_false_iff] at *
  omega
theorem sortE_perm (ax : Nat) (xs : List Entry) : (sortE ax xs).Perm xs := sortL_perm xs
theorem sortE_len (ax : Nat) (xs : List Entry) : (sortE ax xs).length = xs.length := (sortE_perm ax xs).length_eq
theorem sortE_step (ax : Nat) {xs : List Entry} {k : Nat} (h : k < xs.length) : sortE ax (xs.take (k + 1)) = insL (leE ax) (sortE ax (xs.take k)) (xs.getD k default) := by
  rw [take_step (d := default) h]; exact sortL_snoc _ _
/-- Whether a pair may stand ahead of another one, seen from a point. -/
def leP (p : List Int) (a b : Pair) : Bool := decide (dist a.rect p < dist b.rect p) || (decide (dist a.rect p = dist b.rect p) && decide (a.id ≤ b.id))
def sortP (p : List Int) (xs : List Pair) : List Pair := sortL (leP p) xs
def cmpP (p : List Int) (a b : Pair) : Int := if cmpI (dist a.rect p) (dist b.rect p) ≠ 0 then cmpI (dist a.rect p) (dist b.rect p) else cmpI a.id b.id
theorem cmpP_neg (p : List Int) (a b : Pair) : decide (cmpP p a b < 0) = !leP p b a := by
  unfold cmpP leP
  have h1 := cmpI_neg (dist a.rect p) (dist b.rect p)
  have h2 := cmpI_zero (dist a.rect p) (dist b.rect p)
  have h3 := cmpI_neg a.id b.id
  generalize cmpI (dist a.rect p) (dist b.rect p) = u at *
  generalize cmpI a.id b.id = v at *
  generalize dist a.rect p = x at *
  generalize dist b.rect p = y at *
  rw [Bool.eq_iff_iff]
  simp only [decide_eq_true_eq, Bool.not_eq_true', Bool.or_eq_false_iff, decide_eq_false_iff_not, Bool.and_eq_false_iff]
  split <;> omega
theorem leP_tr (p : List Int) : ∀ x y z, leP p x y = true → leP p y z = true → leP p x z = true := fun x y z h1 h2 => by
  unfold leP at *
  simp only [Bool.or_eq_true, Bool.and_eq_true, decide_eq_true_eq] at *
  omega
theorem leP_tot (p : List Int) : ∀ x y, leP p x y = false → leP p y x = true := fun x y h => by
  unfold leP at *
  simp only [Bool.or_eq_true, Bool.and_eq_true, decide_eq_true_eq, Bool.or_eq_false_iff, decide_eq_false_iff_not, Bool.and_eq_false_iff] at *
  omega
theorem leP_id {p : List Int} {a b : Pair} (h1 : leP p a b = true) (h2 : leP p b a = true) : a.id = b.id := by
  unfold leP at *
  simp only [Bool.or_eq_true, Bool.and_eq_true, decide_eq_true_eq] at *
  omega
theorem sortP_perm (p : List Int) (xs : List Pair) : (sortP p xs).Perm xs := sortL_perm xs
theorem sortP_len (p : List Int) (xs : List Pair) : (sortP p xs).length = xs.length := (sortP_perm p xs).length_eq
theorem sortP_step (p : List Int) {xs : List Pair} {k : Nat} (h : k < xs.length) : sortP p (xs.take (k + 1)) = insL (leP p) (sortP p (xs.take k)) (xs.getD k default) := by
  rw [take_step (d := default) h]; exact sortL_snoc _ _
/-- That no id occurs twice. -/
def Ids (xs : List Pair) : Prop := ∀ i j, i < j → j < xs.length → (xs.getD i default).id ≠ (xs.getD j default).id
def semP (p : List Int) (xs : List Pair) (ds rs : List Dat) : Prop := ∃ a ∈ xs, ∃ b ∈ xs, ds = [(true, eP a), (true, eP b)] ∧ rs = [(false, [.int .i64 (cmpP p a b)])]
theorem cmpP_swo (p : List Int) {α : Type} (f : α → Pair) : Go.Sort.SWO (ltOf fun i j : α => cmpP p (f i) (f j)) where
  irrefl x := by show decide (cmpP p _ _ < 0) = false; rw [cmpP_neg]; have := leP_tot p (f x) (f x); cases h : leP p (f x) (f x) <;> simp_all
  trans x y z h1 h2 := by
    show decide (cmpP p _ _ < 0) = true
    have h1 : decide (cmpP p (f x) (f y) < 0) = true := h1
    have h2 : decide (cmpP p (f y) (f z) < 0) = true := h2
    rw [cmpP_neg] at *
    cases h : leP p (f z) (f x) with
    | false => rfl
    | true =>
      have h3 := leP_tr p _ _ _ h (leP_tot p (f y) (f x) (by simpa using h1))
      rw [h3] at h2; cases h2
  ntrans x y z h1 h2 := by
    show decide (cmpP p _ _ < 0) = false
    have h1 : decide (cmpP p (f x) (f y) < 0) = false := h1
    have h2 : decide (cmpP p (f y) (f z) < 0) = false := h2
    rw [cmpP_neg] at *
    have := leP_tr p _ _ _ (show leP p (f z) (f y) = true by simpa using h2) (by simpa using h1)
    simp [this]
theorem s_SortPair (xs : List Pair) (p : List Int) (hi : Ids xs) (hb : xs.length ≤ 1048576) : SatG Try.prog 267 false [.ref 1, .fn (semP p xs)] [gPs 1 xs] (.tup []) [gPs 1 (sortP p xs)] := by
  by_cases hn : xs.length = 0
  · obtain rfl := List.eq_nil_of_length_eq_zero hn
    exact satG_sort0 ⟨_, rfl, rfl, rfl⟩ (fun A cap u W => AnyF.slices_SortFunc_none laysSortPair A cap u W)
  · haveI : Inhabited (Fin xs.length) := ⟨⟨0, by omega⟩⟩
    have key := k_sortPair (ty := 105) (n := xs.length) hb (es := xs.map oP) (sem := semP p xs) (by simp) (fun i j => cmpP p (xs.getD i.val default) (xs.getD j.val default)) (cmpP_swo p fun i : Fin xs.length => xs.getD i.val default) (fun x y h1 h2 => by
      have h1 : decide (cmpP p (xs.getD x.val default) (xs.getD y.val default) < 0) = false := h1
      have h2 : decide (cmpP p (xs.getD y.val default) (xs.getD x.val default) < 0) = false := h2
      rw [cmpP_neg] at h1 h2
      have e := leP_id (show leP p (xs.getD x.val default) (xs.getD y.val default) = true by simpa using h2) (by simpa using h1)
      rcases Nat.lt_trichotomy x.val y.val with h | h | h
      · exact absurd e (hi _ _ h y.isLt)
      · exact Fin.ext h
      · exact absurd e.symm (hi _ _ h x.isLt)) (fun i j => by
      have e : ∀ i : Fin xs.length, Cs.strip ((xs.map oP).getD i.val []) = eP (xs.getD i.val default) := fun i => by
        rw [List.getD_eq_getElem?_getD, List.getElem?_map, List.getElem?_eq_getElem i.isLt, getD_lt i.isLt]
        simp [stripC_oP]
      refine ⟨xs.getD i.val default, getD_mem i.isLt, xs.getD j.val default, getD_mem j.isLt, ?_, rfl⟩
      rw [e, e])
    have e1 := sortL_map (le := leP p) (le' := fun a b : Fin xs.length => !ltOf (fun i j : Fin xs.length => cmpP p (xs.getD i.val default) (xs.getD j.val default)) b a) (fun i : Fin xs.length => xs.getD i.val default) (fun a b => by
      show (!decide (cmpP p (xs.getD b.val default) (xs.getD a.val default) < 0)) = _
      rw [cmpP_neg]; simp) (Array.ofFn (fun i : Fin xs.length => i)).toList
    have e2 : (Array.ofFn (fun i : Fin xs.length => i)).toList.map (fun i : Fin xs.length => xs.getD i.val default) = xs := by
      refine List.ext_getElem (by simp) fun i h1 h2 => ?_
      simp only [List.getElem_map]
      rw [getD_lt (by simpa using h2)]
      simp
    rw [e2] at e1
    have e3 : (sortP p xs).map oP = ((sortL (fun a b : Fin xs.length => !ltOf (fun i j : Fin xs.length => cmpP p (xs.getD i.val default) (xs.getD j.val default)) b a) (Array.ofFn (fun i : Fin xs.length => i)).toList).map (fun i => i.val)).map fun i => (xs.map oP).getD i [] := by
      unfold sortP
      rw [← e1, List.map_map, List.map_map]
      refine List.map_congr_left fun i _ => ?_
      simp only [Function.comp]
      rw [List.getD_eq_getElem?_getD (l := xs.map oP), List.getElem?_map, List.getElem?_eq_getElem i.isLt, getD_lt i.isLt]; rfl
    show SatG _ _ _ _ _ _ [(1, .arr true _ 3 ((sortP p xs).map oP))]
    rw [e3]; exact key
theorem s_nearFirst1 (a b : Pair) (p : List Int) (g1 : Good a.rect p) (g2 : Good b.rect p) : Sat Try.prog 278 [.d (true, eP a), .d (true, eP b), .pv [sI p]] true (rI (cmpP p a b)) := by
  refine sat_walk (fn := Try.f278) rfl rfl rfl (Nat.le_of_ble_eq_true rfl) fun fr hP hN hbnd => ?_
  have hE : (envOf fr Try.prog).Ok := envOf_ok hP
  have hM := follows_of hP
  have hS : ∀ {draw ops}, statB Try.f278.ntmps draw ops = true → statB (envOf fr Try.prog).fr.N draw ops = true := fun h => by rw [envOf_fr, hN]; exact h
  have c0 := s_implDist a.rect p g1
  have c00 := s_implDist b.rect p g2
  have c1 := s_Compare (dist a.rect p) (dist b.rect p)
  have c2 := s_Compare a.id b.id
  have c3 := s_Or (cmpI (dist a.rect p) (dist b.rect p)) (cmpI a.id b.id)
  repeat' (first
    | exact True.intro
    | refine ev_seq ?_
    | ((first | refine vgd_go ?_ | refine ev_region hE hM (hS (by decide +kernel)) ?_ | refine ev_if ?_ | refine end_ret hE rfl rfl ?_ | refine end_norm hE rfl rfl ?_ | refine endG_ret [] hE rfl ?_ | refine endG_norm [] hE rfl ?_ | refine vcallB_of hP c0 ?_ | refine vcallB_of hP c00 ?_ | refine vcallB_of hP c1 ?_ | refine vcallB_of hP c2 ?_ | refine vcallB_of hP c3 ?_ | refine vcall_A ?_); simp (maxSteps := 2000000) only [go_sem, hP, ↓reduceIte, Nat.reduceAdd, Nat.reduceMul, Nat.reduceEqDiff, Nat.reduceSub, Nat.reduceLeDiff, reduceCtorEq])
    | refine ev_skip ?_ | refine ev_block ?_ | refine ev_blk ?_ | refine ev_ret ?_ | refine ev_exit ?_ | refine evx_code_ret ?_ | refine evx_blk_ret ?_ | refine evx_lp_ret ?_
    | refine evx_code_exit ?_ | refine evx_lp_exit ?_ | refine evx_blk_hit ?_ | refine evx_blk_pass (by decide) ?_
    | refine And.intro ?_ ?_ | intro _ | decide +kernel | omega)
  all_goals first | (simp [cmpP]; done) | omega | (simp_all; done) | trace_state
theorem s_nearFirst (p : List Int) : SatG Try.prog 268 false [.c (sI p)] [] (.clo 278 [.ptr 1 0]) [(1, .box [.c (sI p)])] := by
  refine satG_walk (fn := Try.f268) rfl rfl rfl (Nat.le_of_ble_eq_true rfl) (by simp) fun fr hP hN hdp hb1 hb2 => ?_
  have hE : (envOf fr Try.prog).Ok := envOf_ok hP
  have hM := follows_of hP
  have hS : ∀ {draw ops}, statB Try.f268.ntmps draw ops = true → statB (envOf fr Try.prog).fr.N draw ops = true := fun h => by rw [envOf_fr, hN]; exact h
  repeat' (first
    | exact True.intro
    | refine ev_seq ?_
    | ((first | refine endG_ret [(1, some 0)] hE rfl ?_ | refine vgd_go ?_ | refine ev_region hE hM (hS (by decide +kernel)) ?_ | refine ev_if ?_ | refine end_ret hE rfl rfl ?_ | refine end_norm hE rfl rfl ?_ | refine endG_ret [] hE rfl ?_ | refine endG_norm [] hE rfl ?_ | refine vcall_A ?_); simp (maxSteps := 2000000) only [go_sem, hP, ↓reduceIte, Nat.reduceAdd, Nat.reduceMul, Nat.reduceEqDiff, Nat.reduceSub, Nat.reduceLeDiff, reduceCtorEq])
    | refine ev_skip ?_ | refine ev_block ?_ | refine ev_blk ?_ | refine ev_ret ?_ | refine ev_exit ?_ | refine evx_code_ret ?_ | refine evx_blk_ret ?_ | refine evx_lp_ret ?_
    | refine evx_code_exit ?_ | refine evx_lp_exit ?_ | refine evx_blk_hit ?_ | refine evx_blk_pass (by decide) ?_
    | refine And.intro ?_ ?_ | intro _ | decide +kernel | omega)
  all_goals first | (simp [simTs, simT, lk, ren]; done) | trace_state
theorem s_l2Nearer (a b : Pair) (p : List Int) (g1 : Good a.rect p) (g2 : Good b.rect p) (hd : a.id ≠ b.id) : Sat Try.prog 275 [.d (false, [sI p]), .pv (eP a), .pv (eP b)] true (rB (leP p a b)) := by
  refine sat_walk (fn := Try.f275) rfl rfl rfl (Nat.le_of_ble_eq_true rfl) fun fr hP hN hbnd => ?_
  have hE : (envOf fr Try.prog).Ok := envOf_ok hP
  have hM := follows_of hP
  have hS : ∀ {draw ops}, statB Try.f275.ntmps draw ops = true → statB (envOf fr Try.prog).fr.N draw ops = true := fun h => by rw [envOf_fr, hN]; exact h
  have c0 := s_l1Dist a.rect p g1
  have c00 := s_l1Dist b.rect p g2
  have e : leP p a b = (decide (dist a.rect p < dist b.rect p) || (decide (dist a.rect p = dist b.rect p) && decide (a.id < b.id))) := by
    unfold leP
    have : decide (a.id ≤ b.id) = decide (a.id < b.id) := by rw [decide_eq_decide]; omega
    rw [this]
  rw [e]
  generalize dist a.rect p = x at *
  generalize dist b.rect p = y at *
  repeat' (first
    | exact True.intro
    | refine ev_seq ?_
    | ((first | refine vgd_go ?_ | refine ev_region hE hM (hS (by decide +kernel)) ?_ | refine ev_if ?_ | refine end_ret hE rfl rfl ?_ | refine end_norm hE rfl rfl ?_ | refine endG_ret [] hE rfl ?_ | refine endG_norm [] hE rfl ?_ | refine vcallB_of hP c0 ?_ | refine vcallB_of hP c00 ?_ | refine vcall_A ?_); simp (maxSteps := 2000000) only [go_sem, hP, ↓reduceIte, Nat.reduceAdd, Nat.reduceMul, Nat.reduceEqDiff, Nat.reduceSub, Nat.reduceLeDiff, reduceCtorEq])
    | refine ev_skip ?_ | refine ev_block ?_ | refine ev_blk ?_ | refine ev_ret ?_ | refine ev_exit ?_ | refine evx_code_ret ?_ | refine evx_blk_ret ?_ | refine evx_lp_ret ?_
    | refine evx_code_exit ?_ | refine evx_lp_exit ?_ | refine evx_blk_hit ?_ | refine evx_blk_pass (by decide) ?_
    | refine And.intro ?_ ?_ | intro _ | decide +kernel | omega)
  all_goals first | rfl | (simp_all; done) | trace_state
def nearV (l : Look) : List Pair := (sortP l.query.point l.found).take l.query.k.toNat
structure LkOk (l : Look) (d : Int) : Prop where
  q : qf l.query d = 0
  front : l.front.length ≤ 20000
  found : l.found.length ≤ 1000
  rf : ∀ x ∈ l.found, rf x.rect d = 0
  ids : Ids l.found
theorem rise_ids {xs : List Pair} (h : ∀ j, j < xs.length → risesAt xs j = true) : Ids xs := by
  have h2 : ∀ j, j + 1 < xs.length → (xs.getD j default).id < (xs.getD (j + 1) default).id := fun j hj => by
    have := h (j + 1) hj
    simpa [risesAt] using this
  have h3 : ∀ m i, i + m + 1 < xs.length → (xs.getD i default).id < (xs.getD (i + m + 1) default).id := fun m => by
    induction m with
    | zero => exact fun i hi => h2 i hi
    | succ m ih => exact fun i hi => Int.lt_trans (ih i (by omega)) (h2 (i + m + 1) (by omega))
  intro i j hij hj
  have := h3 (j - i - 1) i (by omega)
  rw [show i + (j - i - 1) + 1 = j by omega] at this
  omega
theorem lf_ok {l : Look} {d : Int} (h : lf l d = 0) : LkOk l d := by
  unfold lf at h
  split at h
  · omega
  split at h
  · omega
  split at h
  · omega
  rename_i h1 h2 h3
  have hf : ∀ j, j < l.found.length → foundF d l.found j = 0 := fun j hj => firstF_zero h j (List.mem_range.2 hj)
  refine ⟨by omega, by omega, by omega, fun x hx => ?_, rise_ids fun j hj => ?_⟩
  · obtain ⟨j, hj, e⟩ := List.mem_iff_getElem.1 hx
    have := hf j hj
    unfold foundF at this
    split at this
    · omega
    · rename_i hz
      rw [getD_lt hj, e] at hz
      exact pairF_rf (d := d) (by omega)
  · have := hf j hj
    unfold foundF at this
    split at this
    · omega
    · cases hr : risesAt l.found j with
      | true => rfl
      | false => rw [hr] at this; simp at this
theorem qf_k {q : Query} {d : Int} (h : qf q d = 0) (hk : q.kind = 4) : 1 ≤ q.k ∧ q.k ≤ 20 := by
  have hb : boxed q.kind = false := by unfold boxed; simp [hk]
  unfold qf at h
  split at h
  · omega
  split at h
  · omega
  rw [hb] at h
  simp only [Bool.false_eq_true, if_false] at h
  split at h
  · omega
  split at h
  · omega
  · rename_i h4; simp [inB, hk] at h4; omega
theorem pairs_w {xs : List Pair} {d : Int} (h : ∀ x ∈ xs, rf x.rect d = 0) (hd : d ≤ 3) : wPs xs ≤ 7 * xs.length := by
  unfold wPs
  induction xs with
  | nil => simp
  | cons x xs ih =>
    have h1 := ih (fun y hy => h y (List.mem_cons_of_mem _ hy))
    have h2 := rf_len (h x (List.mem_cons_self ..))
    have e : wR x.rect = x.rect.low.length + x.rect.high.length := rfl
    have e2 : sumW (fun p => wR p.rect) (x :: xs) = wR x.rect + sumW (fun p : Pair => wR p.rect) xs := rfl
    rw [e2, List.length_cons]
    omega
theorem near_good {l : Look} {d : Int} (h : LkOk l d) (hk : l.query.kind = 4) : ∀ x ∈ l.found, Good x.rect l.query.point := fun x hx => good_of (h.rf x hx) (qf_point h.q (Or.inr hk))
theorem qf_d {q : Query} {d : Int} (h : qf q d = 0) : 2 ≤ d ∧ d ≤ 3 := by
  unfold qf at h
  split at h
  · omega
  · rename_i h1; simp [inB] at h1; omega
theorem s_nearest (l : Look) (d : Int) (hz : LkOk l d) (hk : l.query.kind = 4) : Sat Try.prog 223 [aLook l] false [(false, [sP (nearV l)])] := by
  refine sat_walk (fn := Try.f223) rfl rfl rfl (Nat.le_of_ble_eq_true rfl) fun fr hP hN hbnd => ?_
  have hE : (envOf fr Try.prog).Ok := envOf_ok hP
  have hM := follows_of hP
  have hS : ∀ {draw ops}, statB Try.f223.ntmps draw ops = true → statB (envOf fr Try.prog).fr.N draw ops = true := fun h => by rw [envOf_fr, hN]; exact h
  have hd := qf_d hz.q
  have hw := pairs_w hz.rf hd.2
  have hf := hz.found
  have hK := qf_k hz.q hk
  have c1 := s_clonedPairs l.found (by omega)
  have c2 := s_SortPair l.found l.query.point hz.ids (by omega)
  have hg := near_good hz hk
  have kF : ∀ ds rs, semP l.query.point l.found ds rs → Sat Try.prog 278 (ds.map .d ++ [.pv [sI l.query.point]]) true rs := by
    rintro ds rs ⟨a, ha, b, hb, rfl, rfl⟩
    exact s_nearFirst1 a b _ (hg a ha) (hg b hb)
  repeat' (first
    | exact True.intro
    | exact kF
    | refine ev_seq ?_
    | ((first | refine ev_stop 3 ?_ | refine vgd_go ?_ | refine ev_region hE hM (hS (by decide +kernel)) ?_ | refine ev_if ?_ | refine end_ret hE rfl rfl ?_ | refine end_norm hE rfl rfl ?_ | refine endG_ret [] hE rfl ?_ | refine endG_norm [] hE rfl ?_ | refine vcallB_of hP c1 ?_ | refine vcallG_of (args := [.c (sI l.query.point)]) [] [] hP (s_nearFirst l.query.point) ?_ | refine vcallG_of (args := [.ref 4112, _]) [(1, 4112)] [] hP c2 ?_ | refine vcall_A ?_); simp (maxSteps := 2000000) only [go_sem, hP, ↓reduceIte, Nat.reduceAdd, Nat.reduceMul, Nat.reduceEqDiff, Nat.reduceSub, Nat.reduceLeDiff, reduceCtorEq])
    | refine ev_skip ?_ | refine ev_block ?_ | refine ev_blk ?_ | refine ev_ret ?_ | refine ev_exit ?_ | refine evx_code_ret ?_ | refine evx_blk_ret ?_ | refine evx_lp_ret ?_
    | refine evx_code_exit ?_ | refine evx_lp_exit ?_ | refine evx_blk_hit ?_ | refine evx_blk_pass (by decide) ?_
    | refine And.intro ?_ ?_ | intro _ | decide +kernel | omega)
  first | refine Stop.mk ?_ | skip
  refine ev_cut [(1, .ptr 0 0), (3, .ref 4112)] [(0, .box ((eLook l).map .c)), (4112, .fro 3 ((sortP l.query.point l.found).map eP))] [] [] (by simp only [go_sem, hP, ↓reduceIte, Nat.reduceAdd, Nat.reduceMul, Nat.reduceEqDiff, Nat.reduceSub, Nat.reduceLeDiff, reduceCtorEq]) ?_
  have hsl := sortP_len l.query.point l.found
  have w1 : IntKind.i64.wrap l.query.k = l.query.k := i64_in _ (by omega)
  have tm : (min l.query.k (l.found.length : Int)).toNat ≤ l.found.length := by omega
  have tt : nearV l = (sortP l.query.point l.found).take (min l.query.k (l.found.length : Int)).toNat := by
    unfold nearV
    rcases Int.le_total l.query.k l.found.length with h | h
    · rw [Int.min_eq_left h]
    · rw [Int.min_eq_right h, List.take_of_length_le (by omega), List.take_of_length_le (by omega)]
  rw [tt]
  repeat' (first
    | exact True.intro
    | refine ev_seq ?_
    | ((first | refine vgd_go ?_ | refine ev_region hE hM (hS (by decide +kernel)) ?_ | refine ev_if ?_ | refine end_ret hE rfl rfl ?_ | refine end_norm hE rfl rfl ?_ | refine endG_ret [] hE rfl ?_ | refine endG_norm [] hE rfl ?_ | refine vcall_A ?_); simp (maxSteps := 2000000) only [go_sem, hP, ↓reduceIte, Nat.reduceAdd, Nat.reduceMul, Nat.reduceEqDiff, Nat.reduceSub, Nat.reduceLeDiff, reduceCtorEq, hsl, w1, List.length_map])
    | refine ev_skip ?_ | refine ev_block ?_ | refine ev_blk ?_ | refine ev_ret ?_ | refine ev_exit ?_ | refine evx_code_ret ?_ | refine evx_blk_ret ?_ | refine evx_lp_ret ?_
    | refine evx_code_exit ?_ | refine evx_lp_exit ?_ | refine evx_blk_hit ?_ | refine evx_blk_pass (by decide) ?_
    | refine And.intro ?_ ?_ | intro _ | decide +kernel | omega)
  all_goals first | rfl | (exfalso; omega) | omega | (simp_all [List.map_take]; done) | trace_state
theorem idsN {xs : List Pair} {k : Nat} {p : List Int} (h : Ids xs) (hk : k < xs.length) : ∀ y ∈ sortP p (xs.take k), y.id ≠ (xs.getD k default).id := fun y hy => by
  have hm := (sortP_perm p _).mem_iff.1 hy
  obtain ⟨j, hj, e⟩ := List.mem_iff_getElem.1 hm
  rw [List.length_take] at hj
  have := h j k (by omega) hk
  rw [getD_lt (by omega)] at this
  rw [List.getElem_take] at e
  rwa [e] at this
theorem s_l2Near (xs : List Pair) (pt : List Int) (hg : ∀ x ∈ xs, Good x.rect pt) (hi : Ids xs) (hl : xs.length ≤ 1000) : Sat Try.prog 265 [aPs xs, aL pt] false [(false, [sP (sortP pt xs)])] := by
  refine sat_walk (fn := Try.f265) rfl rfl rfl (Nat.le_of_ble_eq_true rfl) fun fr hP hN hbnd => ?_
  have hE : (envOf fr Try.prog).Ok := envOf_ok hP
  have hM := follows_of hP
  have hS : ∀ {draw ops}, statB Try.f265.ntmps draw ops = true → statB (envOf fr Try.prog).fr.N draw ops = true := fun h => by rw [envOf_fr, hN]; exact h
  repeat' (first
    | exact True.intro
    | refine ev_seq ?_
    | ((first | refine vgd_go ?_ | refine ev_region hE hM (hS (by decide +kernel)) ?_ | refine ev_if ?_ | refine end_ret hE rfl rfl ?_ | refine end_norm hE rfl rfl ?_ | refine endG_ret [] hE rfl ?_ | refine endG_norm [] hE rfl ?_ | refine vcall_A ?_); simp (maxSteps := 2000000) only [go_sem, hP, ↓reduceIte, Nat.reduceAdd, Nat.reduceMul, Nat.reduceEqDiff, Nat.reduceSub, Nat.reduceLeDiff, reduceCtorEq])
    | refine ev_skip ?_ | refine ev_block ?_ | refine ev_blk ?_ | refine ev_ret ?_ | refine ev_exit ?_ | refine evx_code_ret ?_ | refine evx_blk_ret ?_ | refine evx_lp_ret ?_
    | refine evx_code_exit ?_ | refine evx_lp_exit ?_ | refine evx_blk_hit ?_ | refine evx_blk_pass (by decide) ?_
    | refine And.intro ?_ ?_ | intro _ | decide +kernel | omega)
  refine ev_loop (ι := Nat) (fun k => [(0, .c (sP xs)), (1, .c (sI pt)), (5, .ref 100000), (6, iT k)]) (fun k => [(100000, .arr (decide (k = 0)) 105 3 ((sortP pt (xs.take k)).map eP))]) (fun _ => []) (fun k => k ≤ xs.length) (fun k => xs.length - k) 0 [(100000, some 4096)] (by omega) (by simp only [go_sem, hP, ↓reduceIte, Nat.reduceAdd, Nat.reduceMul, Nat.reduceEqDiff, Nat.reduceSub, Nat.reduceLeDiff, reduceCtorEq]; simp [sortP, sortL]) ?_
  intro k hk
  have hw1 : k < xs.length → IntKind.i64.wrap ((k : Int) + 1) = k + 1 := fun h => i64_in _ (by omega)
  have hyl : (sortP pt (xs.take k)).length = k := by rw [sortP_len, List.length_take]; omega
  have hym : ∀ y ∈ sortP pt (xs.take k), y ∈ xs := fun y hy => List.mem_of_mem_take ((sortP_perm pt _).mem_iff.1 hy)
  by_cases hlt : k < xs.length
  · have hst := sortP_step pt hlt
    rw [insL_at] at hst
    have hid := idsN (p := pt) hi hlt
    have gx := hg _ (getD_mem (d := default) hlt)
    generalize sortP pt (xs.take k) = ys at *
    have hpl : ys.findIdx (fun y => !leP pt y (xs.getD k default)) ≤ ys.length := List.findIdx_le_length
    have hpy : ∀ j, j < ys.findIdx (fun y => !leP pt y (xs.getD k default)) → leP pt (ys.getD j default) (xs.getD k default) = true := fun j hj => by
      have := List.not_of_lt_findIdx hj
      rw [getD_lt (by omega)]
      simpa using this
    have hpn : ∀ j, j = ys.findIdx (fun y => !leP pt y (xs.getD k default)) → j < ys.length → leP pt (ys.getD j default) (xs.getD k default) = false := fun j hj hjl => by
      subst hj
      have := List.findIdx_getElem (w := hjl)
      rw [getD_lt hjl]
      simpa using this
    generalize ys.findIdx (fun y => !leP pt y (xs.getD k default)) = p at *
    have dl : decide ((k : Int) < (xs.length : Int)) = true := by simp only [decide_eq_true_eq]; omega
    repeat' (first
      | exact True.intro
      | refine ev_seq ?_
      | ((first | refine vgd_go ?_ | refine ev_region hE hM (hS (by decide +kernel)) ?_ | refine ev_if ?_ | refine end_ret hE rfl rfl ?_ | refine end_norm hE rfl rfl ?_ | refine endG_ret [] hE rfl ?_ | refine endG_norm [] hE rfl ?_ | refine vcall_A ?_); simp (maxSteps := 2000000) only [go_sem, hP, ↓reduceIte, Nat.reduceAdd, Nat.reduceMul, Nat.reduceEqDiff, Nat.reduceSub, Nat.reduceLeDiff, reduceCtorEq, dl, List.length_map])
      | refine ev_skip ?_ | refine ev_block ?_ | refine ev_blk ?_ | refine ev_ret ?_ | refine ev_exit ?_ | refine evx_code_ret ?_ | refine evx_blk_ret ?_ | refine evx_lp_ret ?_
      | refine evx_code_exit ?_ | refine evx_lp_exit ?_ | refine evx_blk_hit ?_ | refine evx_blk_pass (by decide) ?_
      | refine And.intro ?_ ?_ | intro _ | decide +kernel | omega)
    refine ev_loop (ι := Nat) (fun j => [(0, .c (sP xs)), (1, .c (sI pt)), (5, .ref 100000), (6, iT k), (7, iT j)]) (fun j => [(100000, .arr (decide (k = 0)) 105 3 (ys.map eP))]) (fun _ => []) (fun j => j ≤ p) (fun j => p - j) 0 [] (by omega) (by simp only [go_sem, hP, ↓reduceIte, Nat.reduceAdd, Nat.reduceMul, Nat.reduceEqDiff, Nat.reduceSub, Nat.reduceLeDiff, reduceCtorEq]; simp) ?_
    intro j hj
    have hw2 : IntKind.i64.wrap ((j : Int) + 1) = j + 1 := i64_in _ (by omega)
    have tj : Int.toNat (j : Int) = j := by simp
    have ht1 : List.take (ys.length - j) (List.drop j (ys.map eP)) = List.drop j (ys.map eP) := List.take_of_length_le (by simp)
    have ht2 : List.take ys.length (ys.map eP) = ys.map eP := List.take_of_length_le (by simp)
    by_cases hjl : j < ys.length
    · have d0 : decide ((j : Int) < (ys.length : Int)) = true := by simp only [decide_eq_true_eq]; omega
      have hjm := getD_mem (d := default) hjl
      have hm1 : (ys.map eP).getD j [] = eP (ys.getD j default) := by rw [List.getD_eq_getElem?_getD, List.getElem?_map, List.getElem?_eq_getElem hjl, getD_lt hjl]; rfl
      have cn := s_l2Nearer (ys.getD j default) (xs.getD k default) pt (hg _ (hym _ hjm)) gx (hid _ hjm)
      by_cases hj1 : j < p
      · have hle := hpy j hj1
        rw [hle] at cn
        repeat' (first
          | exact True.intro
          | refine ev_seq ?_
          | ((first | refine vgd_go ?_ | refine ev_region hE hM (hS (by decide +kernel)) ?_ | refine ev_if ?_ | refine end_ret hE rfl rfl ?_ | refine end_norm hE rfl rfl ?_ | refine endG_ret [] hE rfl ?_ | refine endG_norm [] hE rfl ?_ | refine vcallB_of hP cn ?_ | refine vcall_A ?_); simp (maxSteps := 2000000) only [go_sem, hP, ↓reduceIte, Nat.reduceAdd, Nat.reduceMul, Nat.reduceEqDiff, Nat.reduceSub, Nat.reduceLeDiff, reduceCtorEq, List.append_eq, List.cons_append, List.nil_append, Cs.strip, C.strip, Es.strip, strip_eI, Bool.and_false, Bool.and_self, Bool.false_and, Bool.false_eq_true, List.length_append, List.length_take, List.length_drop, List.length_cons, List.length_nil, Int.toNat_zero, ite_self, hjl, hm1, d0, ht1, ht2, List.length_map])
          | refine ev_skip ?_ | refine ev_block ?_ | refine ev_blk ?_ | refine ev_ret ?_ | refine ev_exit ?_ | refine evx_code_ret ?_ | refine evx_blk_ret ?_ | refine evx_lp_ret ?_
          | refine evx_code_exit ?_ | refine evx_lp_exit ?_ | refine evx_blk_hit ?_ | refine evx_blk_pass (by decide) ?_
          | refine And.intro ?_ ?_ | intro _ | decide +kernel | omega)
        all_goals first
          | exact ev_lp (j + 1) [] (by omega) (by omega) (by simp only [go_sem, hP, ↓reduceIte, Nat.reduceAdd, Nat.reduceMul, Nat.reduceEqDiff, Nat.reduceSub, Nat.reduceLeDiff, reduceCtorEq]; simp [hw2])
          | (exfalso; omega)
          | omega
          | (simp only [Nat.min_def]; split <;> omega)
          | (simp_all; done)
          | trace_state
      · obtain rfl : j = p := by omega
        have hle := hpn j rfl hjl
        rw [hle] at cn
        repeat' (first
          | exact True.intro
          | refine ev_seq ?_
          | ((first | refine vgd_go ?_ | refine ev_region hE hM (hS (by decide +kernel)) ?_ | refine ev_if ?_ | refine end_ret hE rfl rfl ?_ | refine end_norm hE rfl rfl ?_ | refine endG_ret [] hE rfl ?_ | refine endG_norm [] hE rfl ?_ | refine vcallB_of hP cn ?_ | refine vcall_A ?_); simp (maxSteps := 2000000) only [go_sem, hP, ↓reduceIte, Nat.reduceAdd, Nat.reduceMul, Nat.reduceEqDiff, Nat.reduceSub, Nat.reduceLeDiff, reduceCtorEq, List.append_eq, List.cons_append, List.nil_append, Cs.strip, C.strip, Es.strip, strip_eI, Bool.and_false, Bool.and_self, Bool.false_and, Bool.false_eq_true, List.length_append, List.length_take, List.length_drop, List.length_cons, List.length_nil, Int.toNat_zero, ite_self, hjl, hm1, d0, ht1, ht2, tj, List.length_map])
          | refine ev_skip ?_ | refine ev_block ?_ | refine ev_blk ?_ | refine ev_ret ?_ | refine ev_exit ?_ | refine evx_code_ret ?_ | refine evx_blk_ret ?_ | refine evx_lp_ret ?_
          | refine evx_code_exit ?_ | refine evx_lp_exit ?_ | refine evx_blk_hit ?_ | refine evx_blk_pass (by decide) ?_
          | refine And.intro ?_ ?_ | intro _ | decide +kernel | omega)
        all_goals first
          | exact ev_lp (k + 1) [(100000, some 40992)] (by omega) (by omega) (by simp only [go_sem, hP, ↓reduceIte, Nat.reduceAdd, Nat.reduceMul, Nat.reduceEqDiff, Nat.reduceSub, Nat.reduceLeDiff, reduceCtorEq]; rw [hst]; simp [hw1 hlt, Es.strip, eP_eq, show IntKind.i64.wrap 1 = 1 from rfl, List.map_take, List.map_drop, ht1, ht2])
          | (exfalso; omega)
          | omega
          | (simp only [Nat.min_def]; split <;> omega)
          | (simp_all; done)
          | trace_state
    · obtain rfl : j = p := by omega
      obtain rfl : j = ys.length := by omega
      have d0 : decide ((ys.length : Int) < (ys.length : Int)) = false := by simp
      by_cases h0 : k = 0
      · subst h0
        repeat' (first
          | exact True.intro
          | refine ev_seq ?_
          | ((first | refine vgd_go ?_ | refine ev_region hE hM (hS (by decide +kernel)) ?_ | refine ev_if ?_ | refine end_ret hE rfl rfl ?_ | refine end_norm hE rfl rfl ?_ | refine endG_ret [] hE rfl ?_ | refine endG_norm [] hE rfl ?_ | refine vcall_A ?_); simp (maxSteps := 2000000) only [go_sem, hP, ↓reduceIte, Nat.reduceAdd, Nat.reduceMul, Nat.reduceEqDiff, Nat.reduceSub, Nat.reduceLeDiff, reduceCtorEq, List.append_eq, List.cons_append, List.nil_append, Cs.strip, C.strip, Es.strip, strip_eI, Bool.and_false, Bool.and_self, Bool.false_and, Bool.false_eq_true, List.length_append, List.length_take, List.length_drop, List.length_cons, List.length_nil, Int.toNat_zero, ite_self, d0, ht1, ht2, tj, List.length_map])
          | refine ev_skip ?_ | refine ev_block ?_ | refine ev_blk ?_ | refine ev_ret ?_ | refine ev_exit ?_ | refine evx_code_ret ?_ | refine evx_blk_ret ?_ | refine evx_lp_ret ?_
          | refine evx_code_exit ?_ | refine evx_lp_exit ?_ | refine evx_blk_hit ?_ | refine evx_blk_pass (by decide) ?_
          | refine And.intro ?_ ?_ | intro _ | decide +kernel | omega)
        all_goals first
          | exact ev_lp 1 [(100000, some 40992)] (by omega) (by omega) (by simp only [go_sem, hP, ↓reduceIte, Nat.reduceAdd, Nat.reduceMul, Nat.reduceEqDiff, Nat.reduceSub, Nat.reduceLeDiff, reduceCtorEq]; rw [hst]; simp [hw1 hlt, Es.strip, eP_eq, show IntKind.i64.wrap 1 = 1 from rfl, List.map_take, List.map_drop, ht1, ht2])
          | (exfalso; omega)
          | omega
          | (simp_all; done)
          | trace_state
      · repeat' (first
          | exact True.intro
          | refine ev_seq ?_
          | ((first | refine vgd_go ?_ | refine ev_region hE hM (hS (by decide +kernel)) ?_ | refine ev_if ?_ | refine end_ret hE rfl rfl ?_ | refine end_norm hE rfl rfl ?_ | refine endG_ret [] hE rfl ?_ | refine endG_norm [] hE rfl ?_ | refine vcall_A ?_); simp (maxSteps := 2000000) only [go_sem, hP, ↓reduceIte, Nat.reduceAdd, Nat.reduceMul, Nat.reduceEqDiff, Nat.reduceSub, Nat.reduceLeDiff, reduceCtorEq, List.append_eq, List.cons_append, List.nil_append, Cs.strip, C.strip, Es.strip, strip_eI, Bool.and_false, Bool.and_self, Bool.false_and, Bool.false_eq_true, List.length_append, List.length_take, List.length_drop, List.length_cons, List.length_nil, Int.toNat_zero, ite_self, d0, ht1, ht2, tj, List.length_map])
          | refine ev_skip ?_ | refine ev_block ?_ | refine ev_blk ?_ | refine ev_ret ?_ | refine ev_exit ?_ | refine evx_code_ret ?_ | refine evx_blk_ret ?_ | refine evx_lp_ret ?_
          | refine evx_code_exit ?_ | refine evx_lp_exit ?_ | refine evx_blk_hit ?_ | refine evx_blk_pass (by decide) ?_
          | refine And.intro ?_ ?_ | intro _ | decide +kernel | omega)
        all_goals first
          | exact ev_lp (k + 1) [(100000, some 40992)] (by omega) (by omega) (by simp only [go_sem, hP, ↓reduceIte, Nat.reduceAdd, Nat.reduceMul, Nat.reduceEqDiff, Nat.reduceSub, Nat.reduceLeDiff, reduceCtorEq]; rw [hst]; simp [hw1 hlt, Es.strip, eP_eq, show IntKind.i64.wrap 1 = 1 from rfl, List.map_take, List.map_drop, ht1, ht2])
          | (exfalso; omega)
          | omega
          | (simp_all; done)
          | trace_state
  · have hke : k = xs.length := by omega
    subst hke
    have dl : decide ((xs.length : Int) < (xs.length : Int)) = false := by simp
    repeat' (first
      | exact True.intro
      | refine ev_seq ?_
      | ((first | refine vgd_go ?_ | refine ev_region hE hM (hS (by decide +kernel)) ?_ | refine ev_if ?_ | refine end_ret hE rfl rfl ?_ | refine end_norm hE rfl rfl ?_ | refine endG_ret [] hE rfl ?_ | refine endG_norm [] hE rfl ?_ | refine vcall_A ?_); simp (maxSteps := 2000000) only [go_sem, hP, ↓reduceIte, Nat.reduceAdd, Nat.reduceMul, Nat.reduceEqDiff, Nat.reduceSub, Nat.reduceLeDiff, reduceCtorEq, dl, List.take_length, List.length_map])
      | refine ev_skip ?_ | refine ev_block ?_ | refine ev_blk ?_ | refine ev_ret ?_ | refine ev_exit ?_ | refine evx_code_ret ?_ | refine evx_blk_ret ?_ | refine evx_lp_ret ?_
      | refine evx_code_exit ?_ | refine evx_lp_exit ?_ | refine evx_blk_hit ?_ | refine evx_blk_pass (by decide) ?_
      | refine And.intro ?_ ?_ | intro _ | decide +kernel | omega)
    all_goals first | (split <;> rfl) | (simp_all; done)
theorem s_l2CopiesF (xs : List Pair) (hw : wPs xs ≤ 1048576) : Sat Try.prog 205 [aPs xs] false [(false, [sP xs])] := by
  refine sat_walk (fn := Try.f205) rfl rfl rfl (Nat.le_of_ble_eq_true rfl) fun fr hP hN hbnd => ?_
  have hE : (envOf fr Try.prog).Ok := envOf_ok hP
  have hM := follows_of hP
  have hS : ∀ {draw ops}, statB Try.f205.ntmps draw ops = true → statB (envOf fr Try.prog).fr.N draw ops = true := fun h => by rw [envOf_fr, hN]; exact h
  have hlen : xs.length ≤ 1048576 := by unfold wPs at hw; omega
  repeat' (first
    | exact True.intro
    | refine ev_seq ?_
    | ((first | refine vgd_go ?_ | refine ev_region hE hM (hS (by decide +kernel)) ?_ | refine ev_if ?_ | refine end_ret hE rfl rfl ?_ | refine end_norm hE rfl rfl ?_ | refine endG_ret [] hE rfl ?_ | refine endG_norm [] hE rfl ?_ | refine vcall_A ?_); simp (maxSteps := 2000000) only [go_sem, hP, ↓reduceIte, Nat.reduceAdd, Nat.reduceMul, Nat.reduceEqDiff, Nat.reduceSub, Nat.reduceLeDiff, reduceCtorEq])
    | refine ev_skip ?_ | refine ev_block ?_ | refine ev_blk ?_ | refine ev_ret ?_ | refine ev_exit ?_ | refine evx_code_ret ?_ | refine evx_blk_ret ?_ | refine evx_lp_ret ?_
    | refine evx_code_exit ?_ | refine evx_lp_exit ?_ | refine evx_blk_hit ?_ | refine evx_blk_pass (by decide) ?_
    | refine And.intro ?_ ?_ | intro _ | decide +kernel | omega)
  refine ev_loop (ι := Nat) (fun k => [(0, .c (sP xs)), (3, .ref 100000), (4, iT k)]) (fun k => [(100000, .arr true 105 3 ((xs.take k).map oP))]) (fun _ => []) (fun k => k ≤ xs.length) (fun k => xs.length - k) 0 [(100000, some 4096)] (by omega) (by simp only [go_sem, hP, ↓reduceIte, Nat.reduceAdd, Nat.reduceMul, Nat.reduceEqDiff, Nat.reduceSub, Nat.reduceLeDiff, reduceCtorEq]; simp) ?_
  intro k hk
  have hw1 : k < xs.length → IntKind.i64.wrap ((k : Int) + 1) = k + 1 := fun h => i64_in _ (by omega)
  have htl : ((xs.take k).map oP).length = k := by simp; omega
  by_cases hlt : k < xs.length
  · have hg := wR_get hlt hw
    repeat' (first
      | exact True.intro
      | refine ev_seq ?_
      | ((first | refine vgd_go ?_ | refine ev_region hE hM (hS (by decide +kernel)) ?_ | refine ev_if ?_ | refine end_ret hE rfl rfl ?_ | refine end_norm hE rfl rfl ?_ | refine endG_ret [] hE rfl ?_ | refine endG_norm [] hE rfl ?_ | refine vcallB_of hP (s_l2Copy (xs.getD k default) hg.1 hg.2) ?_ | refine vcall_A ?_); simp (maxSteps := 2000000) only [go_sem, hP, ↓reduceIte, Nat.reduceAdd, Nat.reduceMul, Nat.reduceEqDiff, Nat.reduceSub, Nat.reduceLeDiff, reduceCtorEq, htl, Bool.and_self])
      | refine ev_skip ?_ | refine ev_block ?_ | refine ev_blk ?_ | refine ev_ret ?_ | refine ev_exit ?_ | refine evx_code_ret ?_ | refine evx_blk_ret ?_ | refine evx_lp_ret ?_
      | refine evx_code_exit ?_ | refine evx_lp_exit ?_ | refine evx_blk_hit ?_ | refine evx_blk_pass (by decide) ?_
      | refine And.intro ?_ ?_ | intro _ | decide +kernel | omega)
    all_goals first
      | exact ev_lp (k + 1) [(100000, some 20528)] (by omega) (by omega) (by simp only [go_sem, hP, ↓reduceIte, Nat.reduceAdd, Nat.reduceMul, Nat.reduceEqDiff, Nat.reduceSub, Nat.reduceLeDiff, reduceCtorEq]; rw [take_step (d := default) hlt]; simp [hw1 hlt, oP_eq])
      | (exfalso; omega)
      | (simp_all; done)
  · obtain rfl : k = xs.length := by omega
    repeat' (first
      | exact True.intro
      | refine ev_seq ?_
      | ((first | refine vgd_go ?_ | refine ev_region hE hM (hS (by decide +kernel)) ?_ | refine ev_if ?_ | refine end_ret hE rfl rfl ?_ | refine end_norm hE rfl rfl ?_ | refine endG_ret [] hE rfl ?_ | refine endG_norm [] hE rfl ?_ | refine vcall_A ?_); simp (maxSteps := 2000000) only [go_sem, hP, ↓reduceIte, Nat.reduceAdd, Nat.reduceMul, Nat.reduceEqDiff, Nat.reduceSub, Nat.reduceLeDiff, reduceCtorEq, htl, List.take_length])
      | refine ev_skip ?_ | refine ev_block ?_ | refine ev_blk ?_ | refine ev_ret ?_ | refine ev_exit ?_ | refine evx_code_ret ?_ | refine evx_blk_ret ?_ | refine evx_lp_ret ?_
      | refine evx_code_exit ?_ | refine evx_lp_exit ?_ | refine evx_blk_hit ?_ | refine evx_blk_pass (by decide) ?_
      | refine And.intro ?_ ?_ | intro _ | decide +kernel | omega)
    all_goals first
      | (exfalso; omega)
      | (simp_all; done)
def farV (l : Look) : Int := dist ((nearV l).getD ((nearV l).length - 1) default).rect l.query.point
def doneV (l : Look) : Bool :=
  if l.front.length = 0 then true else if l.query.kind ≠ 4 then false else if ((nearV l).length : Int) < l.query.k then false else !(l.front.any fun m => decide (m.dist ≤ farV l))
theorem nearV_len (l : Look) : (nearV l).length ≤ l.found.length := by
  unfold nearV; rw [List.length_take, sortP_len]; omega
theorem nearV_mem {l : Look} : ∀ x ∈ nearV l, x ∈ l.found := fun x hx => (sortP_perm _ _).mem_iff.1 (List.mem_of_mem_take hx)
theorem s_l9Answer (l : Look) (d : Int) (hz : LkOk l d) (hk : l.query.kind = 4) : Sat Try.prog 217 [pLook l] false [(false, [sP (nearV l)])] := by
  refine sat_walk (fn := Try.f217) rfl rfl rfl (Nat.le_of_ble_eq_true rfl) fun fr hP hN hbnd => ?_
  have hE : (envOf fr Try.prog).Ok := envOf_ok hP
  have hM := follows_of hP
  have hS : ∀ {draw ops}, statB Try.f217.ntmps draw ops = true → statB (envOf fr Try.prog).fr.N draw ops = true := fun h => by rw [envOf_fr, hN]; exact h
  have hd := qf_d hz.q
  have hw := pairs_w hz.rf hd.2
  have hf := hz.found
  have hK := qf_k hz.q hk
  have c1 := s_l2CopiesF l.found (by omega)
  have c2 := s_l2Near l.found l.query.point (near_good hz hk) hz.ids (by omega)
  have hsl := sortP_len l.query.point l.found
  have d1 : (l.query.kind == 4) = true := beq_iff_eq.2 hk
  have hn : nearV l = (sortP l.query.point l.found).take l.query.k.toNat := rfl
  by_cases h : l.query.k < (l.found.length : Int)
  · have d2 := decide_eq_true h
    rw [hn]
    repeat' (first
      | exact True.intro
      | refine ev_seq ?_
      | ((first | refine vgd_go ?_ | refine ev_region hE hM (hS (by decide +kernel)) ?_ | refine ev_if ?_ | refine end_ret hE rfl rfl ?_ | refine end_norm hE rfl rfl ?_ | refine endG_ret [] hE rfl ?_ | refine endG_norm [] hE rfl ?_ | refine vcallB_of hP c1 ?_ | refine vcallB_of hP c2 ?_ | refine vcall_A ?_); simp (maxSteps := 2000000) only [go_sem, hP, ↓reduceIte, Nat.reduceAdd, Nat.reduceMul, Nat.reduceEqDiff, Nat.reduceSub, Nat.reduceLeDiff, reduceCtorEq, d1, d2, hsl, List.length_map])
      | refine ev_skip ?_ | refine ev_block ?_ | refine ev_blk ?_ | refine ev_ret ?_ | refine ev_exit ?_ | refine evx_code_ret ?_ | refine evx_blk_ret ?_ | refine evx_lp_ret ?_
      | refine evx_code_exit ?_ | refine evx_lp_exit ?_ | refine evx_blk_hit ?_ | refine evx_blk_pass (by decide) ?_
      | refine And.intro ?_ ?_ | intro _ | decide +kernel | omega)
    all_goals first | rfl | (exfalso; omega) | omega | (simp_all [List.map_take]; done) | trace_state
  · have d2 := decide_eq_false h
    rw [hn, List.take_of_length_le (by omega)]
    repeat' (first
      | exact True.intro
      | refine ev_seq ?_
      | ((first | refine vgd_go ?_ | refine ev_region hE hM (hS (by decide +kernel)) ?_ | refine ev_if ?_ | refine end_ret hE rfl rfl ?_ | refine end_norm hE rfl rfl ?_ | refine endG_ret [] hE rfl ?_ | refine endG_norm [] hE rfl ?_ | refine vcallB_of hP c1 ?_ | refine vcallB_of hP c2 ?_ | refine vcall_A ?_); simp (maxSteps := 2000000) only [go_sem, hP, ↓reduceIte, Nat.reduceAdd, Nat.reduceMul, Nat.reduceEqDiff, Nat.reduceSub, Nat.reduceLeDiff, reduceCtorEq, d1, d2, hsl, List.length_map])
      | refine ev_skip ?_ | refine ev_block ?_ | refine ev_blk ?_ | refine ev_ret ?_ | refine ev_exit ?_ | refine evx_code_ret ?_ | refine evx_blk_ret ?_ | refine evx_lp_ret ?_
      | refine evx_code_exit ?_ | refine evx_lp_exit ?_ | refine evx_blk_hit ?_ | refine evx_blk_pass (by decide) ?_
      | refine And.intro ?_ ?_ | intro _ | decide +kernel | omega)
    all_goals first | rfl | (exfalso; omega) | omega | (simp_all; done) | trace_state
theorem s_l9Done (l : Look) (d : Int) (hz : LkOk l d) : Sat Try.prog 101 [pLook l] true (rB (doneV l)) := by
  refine sat_walk (fn := Try.f101) rfl rfl rfl (Nat.le_of_ble_eq_true rfl) fun fr hP hN hbnd => ?_
  have hE : (envOf fr Try.prog).Ok := envOf_ok hP
  have hM := follows_of hP
  have hS : ∀ {draw ops}, statB Try.f101.ntmps draw ops = true → statB (envOf fr Try.prog).fr.N draw ops = true := fun h => by rw [envOf_fr, hN]; exact h
  have hfr := hz.front
  unfold doneV
  by_cases h0 : l.front.length = 0
  · have d0 : ((l.front.length : Int) == 0) = true := by rw [h0]; rfl
    rw [if_pos h0]
    repeat' (first
      | exact True.intro
      | refine ev_seq ?_
      | ((first | refine vgd_go ?_ | refine ev_region hE hM (hS (by decide +kernel)) ?_ | refine ev_if ?_ | refine end_ret hE rfl rfl ?_ | refine end_norm hE rfl rfl ?_ | refine endG_ret [] hE rfl ?_ | refine endG_norm [] hE rfl ?_ | refine vcall_A ?_); simp (maxSteps := 2000000) only [go_sem, hP, ↓reduceIte, Nat.reduceAdd, Nat.reduceMul, Nat.reduceEqDiff, Nat.reduceSub, Nat.reduceLeDiff, reduceCtorEq, d0, List.length_map])
      | refine ev_skip ?_ | refine ev_block ?_ | refine ev_blk ?_ | refine ev_ret ?_ | refine ev_exit ?_ | refine evx_code_ret ?_ | refine evx_blk_ret ?_ | refine evx_lp_ret ?_
      | refine evx_code_exit ?_ | refine evx_lp_exit ?_ | refine evx_blk_hit ?_ | refine evx_blk_pass (by decide) ?_
      | refine And.intro ?_ ?_ | intro _ | decide +kernel | omega)
    all_goals first | rfl | (exfalso; simp_all; done) | (simp_all; done) | trace_state
  have d0 : ((l.front.length : Int) == 0) = false := beq_eq_false_iff_ne.2 (by omega)
  rw [if_neg h0]
  by_cases hk : l.query.kind = 4
  · have d1 : (l.query.kind != 4) = false := by simp [hk]
    rw [if_neg (by simp [hk])]
    have c1 := s_l9Answer l d hz hk
    have hK := qf_k hz.q hk
    have hgo := near_good hz hk
    have hnl := nearV_len l
    have hfd := hz.found
    have hnm := nearV_mem (l := l)
    have hfar : farV l = dist ((nearV l).getD ((nearV l).length - 1) default).rect l.query.point := rfl
    generalize farV l = far at *
    generalize nearV l = ys at *
    by_cases hl : (ys.length : Int) < l.query.k
    · have d2 := decide_eq_true hl
      rw [if_pos hl]
      repeat' (first
        | exact True.intro
        | refine ev_seq ?_
        | ((first | refine vgd_go ?_ | refine ev_region hE hM (hS (by decide +kernel)) ?_ | refine ev_if ?_ | refine end_ret hE rfl rfl ?_ | refine end_norm hE rfl rfl ?_ | refine endG_ret [] hE rfl ?_ | refine endG_norm [] hE rfl ?_ | refine vcallB_of hP c1 ?_ | refine vcall_A ?_); simp (maxSteps := 2000000) only [go_sem, hP, ↓reduceIte, Nat.reduceAdd, Nat.reduceMul, Nat.reduceEqDiff, Nat.reduceSub, Nat.reduceLeDiff, reduceCtorEq, d0, d1, d2, List.length_map])
        | refine ev_skip ?_ | refine ev_block ?_ | refine ev_blk ?_ | refine ev_ret ?_ | refine ev_exit ?_ | refine evx_code_ret ?_ | refine evx_blk_ret ?_ | refine evx_lp_ret ?_
        | refine evx_code_exit ?_ | refine evx_lp_exit ?_ | refine evx_blk_hit ?_ | refine evx_blk_pass (by decide) ?_
        | refine And.intro ?_ ?_ | intro _ | decide +kernel | omega)
      all_goals first | rfl | (exfalso; simp_all; done) | (simp_all; done) | trace_state
    · have d2 := decide_eq_false hl
      rw [if_neg hl]
      have hw : IntKind.i64.wrap ((ys.length : Int) - 1) = (ys.length - 1 : Nat) := by rw [i64_in _ (by omega)]; omega
      have c2 := s_l1Dist (ys.getD (ys.length - 1) default).rect l.query.point (hgo _ (hnm _ (getD_mem (by omega))))
      rw [← hfar] at c2
      repeat' (first
        | exact True.intro
        | refine ev_seq ?_
        | ((first | refine vgd_go ?_ | refine ev_region hE hM (hS (by decide +kernel)) ?_ | refine ev_if ?_ | refine end_ret hE rfl rfl ?_ | refine end_norm hE rfl rfl ?_ | refine endG_ret [] hE rfl ?_ | refine endG_norm [] hE rfl ?_ | refine vcallB_of hP c1 ?_ | refine vcallB_of hP c2 ?_ | refine vcall_A ?_); simp (maxSteps := 2000000) only [go_sem, hP, ↓reduceIte, Nat.reduceAdd, Nat.reduceMul, Nat.reduceEqDiff, Nat.reduceSub, Nat.reduceLeDiff, reduceCtorEq, d0, d1, d2, hw, List.length_map])
        | refine ev_skip ?_ | refine ev_block ?_ | refine ev_blk ?_ | refine ev_ret ?_ | refine ev_exit ?_ | refine evx_code_ret ?_ | refine evx_blk_ret ?_ | refine evx_lp_ret ?_
        | refine evx_code_exit ?_ | refine evx_lp_exit ?_ | refine evx_blk_hit ?_ | refine evx_blk_pass (by decide) ?_
        | refine And.intro ?_ ?_ | intro _ | decide +kernel | omega)
      all_goals first | (exfalso; omega) | omega | skip
      refine ev_loop (ι := Nat) (fun k => [(0, .pv (eLook l)), (4, iT far), (5, iT k)]) (fun _ => []) (fun _ => []) (fun k => k ≤ l.front.length ∧ (l.front.take k).any (fun m => decide (m.dist ≤ far)) = false) (fun k => l.front.length - k) 0 [] (by simp) (by simp only [go_sem, hP, ↓reduceIte, Nat.reduceAdd, Nat.reduceMul, Nat.reduceEqDiff, Nat.reduceSub, Nat.reduceLeDiff, reduceCtorEq]; simp [eLook]) ?_
      intro k hkk
      by_cases hlt : k < l.front.length
      · have hw1 : IntKind.i64.wrap ((k : Int) + 1) = k + 1 := i64_in _ (by omega)
        have d3 : decide ((k : Int) < (l.front.length : Int)) = true := decide_eq_true (by omega)
        by_cases hm : (l.front.getD k default).dist ≤ far
        · have d4 := decide_eq_true hm
          have ha : (l.front.any fun m => decide (m.dist ≤ far)) = true := any_yes (d := default) hlt d4
          rw [ha]
          repeat' (first
            | exact True.intro
            | refine ev_seq ?_
            | ((first | refine vgd_go ?_ | refine ev_region hE hM (hS (by decide +kernel)) ?_ | refine ev_if ?_ | refine end_ret hE rfl rfl ?_ | refine end_norm hE rfl rfl ?_ | refine endG_ret [] hE rfl ?_ | refine endG_norm [] hE rfl ?_ | refine vcall_A ?_); simp (maxSteps := 2000000) only [go_sem, hP, ↓reduceIte, Nat.reduceAdd, Nat.reduceMul, Nat.reduceEqDiff, Nat.reduceSub, Nat.reduceLeDiff, reduceCtorEq, d3, d4, List.length_map])
            | refine ev_skip ?_ | refine ev_block ?_ | refine ev_blk ?_ | refine ev_ret ?_ | refine ev_exit ?_ | refine evx_code_ret ?_ | refine evx_blk_ret ?_ | refine evx_lp_ret ?_
            | refine evx_code_exit ?_ | refine evx_lp_exit ?_ | refine evx_blk_hit ?_ | refine evx_blk_pass (by decide) ?_
            | refine And.intro ?_ ?_ | intro _ | decide +kernel | omega)
          all_goals first | rfl | (exfalso; omega) | omega | (simp_all; done) | trace_state
        · have d4 := decide_eq_false hm
          repeat' (first
            | exact True.intro
            | refine ev_seq ?_
            | ((first | refine vgd_go ?_ | refine ev_region hE hM (hS (by decide +kernel)) ?_ | refine ev_if ?_ | refine end_ret hE rfl rfl ?_ | refine end_norm hE rfl rfl ?_ | refine endG_ret [] hE rfl ?_ | refine endG_norm [] hE rfl ?_ | refine vcall_A ?_); simp (maxSteps := 2000000) only [go_sem, hP, ↓reduceIte, Nat.reduceAdd, Nat.reduceMul, Nat.reduceEqDiff, Nat.reduceSub, Nat.reduceLeDiff, reduceCtorEq, d3, d4, List.length_map])
            | refine ev_skip ?_ | refine ev_block ?_ | refine ev_blk ?_ | refine ev_ret ?_ | refine ev_exit ?_ | refine evx_code_ret ?_ | refine evx_blk_ret ?_ | refine evx_lp_ret ?_
            | refine evx_code_exit ?_ | refine evx_lp_exit ?_ | refine evx_blk_hit ?_ | refine evx_blk_pass (by decide) ?_
            | refine And.intro ?_ ?_ | intro _ | decide +kernel | omega)
          all_goals first
            | exact ev_lp (k + 1) [] ⟨by omega, any_step (d := default) hlt hkk.2 d4⟩ (by omega) (by simp only [go_sem, hP, ↓reduceIte, Nat.reduceAdd, Nat.reduceMul, Nat.reduceEqDiff, Nat.reduceSub, Nat.reduceLeDiff, reduceCtorEq]; simp [hw1, eLook])
            | (exfalso; omega)
            | omega
            | (simp_all; done)
            | trace_state
      · have d3 : decide ((k : Int) < (l.front.length : Int)) = false := decide_eq_false (by omega)
        have ha := any_done (by omega) hkk.2
        rw [ha]
        repeat' (first
          | exact True.intro
          | refine ev_seq ?_
          | ((first | refine vgd_go ?_ | refine ev_region hE hM (hS (by decide +kernel)) ?_ | refine ev_if ?_ | refine end_ret hE rfl rfl ?_ | refine end_norm hE rfl rfl ?_ | refine endG_ret [] hE rfl ?_ | refine endG_norm [] hE rfl ?_ | refine vcall_A ?_); simp (maxSteps := 2000000) only [go_sem, hP, ↓reduceIte, Nat.reduceAdd, Nat.reduceMul, Nat.reduceEqDiff, Nat.reduceSub, Nat.reduceLeDiff, reduceCtorEq, d3, List.length_map])
          | refine ev_skip ?_ | refine ev_block ?_ | refine ev_blk ?_ | refine ev_ret ?_ | refine ev_exit ?_ | refine evx_code_ret ?_ | refine evx_blk_ret ?_ | refine evx_lp_ret ?_
          | refine evx_code_exit ?_ | refine evx_lp_exit ?_ | refine evx_blk_hit ?_ | refine evx_blk_pass (by decide) ?_
          | refine And.intro ?_ ?_ | intro _ | decide +kernel | omega)
        all_goals first | rfl | (exfalso; omega) | omega | (simp_all; done) | trace_state
  · have d1 : (l.query.kind != 4) = true := by simp [hk]
    rw [if_pos hk]
    repeat' (first
      | exact True.intro
      | refine ev_seq ?_
      | ((first | refine vgd_go ?_ | refine ev_region hE hM (hS (by decide +kernel)) ?_ | refine ev_if ?_ | refine end_ret hE rfl rfl ?_ | refine end_norm hE rfl rfl ?_ | refine endG_ret [] hE rfl ?_ | refine endG_norm [] hE rfl ?_ | refine vcall_A ?_); simp (maxSteps := 2000000) only [go_sem, hP, ↓reduceIte, Nat.reduceAdd, Nat.reduceMul, Nat.reduceEqDiff, Nat.reduceSub, Nat.reduceLeDiff, reduceCtorEq, d0, d1, List.length_map])
      | refine ev_skip ?_ | refine ev_block ?_ | refine ev_blk ?_ | refine ev_ret ?_ | refine ev_exit ?_ | refine evx_code_ret ?_ | refine evx_blk_ret ?_ | refine evx_lp_ret ?_
      | refine evx_code_exit ?_ | refine evx_lp_exit ?_ | refine evx_blk_hit ?_ | refine evx_blk_pass (by decide) ?_
      | refine And.intro ?_ ?_ | intro _ | decide +kernel | omega)
    all_goals first | rfl | (exfalso; simp_all; done) | (simp_all; done) | trace_state
theorem s_isDone1 (m : Mark) (far : Int) : Sat Try.prog 225 [aMark m, .pv [.int .i64 far]] true (rB (decide (m.dist ≤ far))) := by
  refine sat_walk (fn := Try.f225) rfl rfl rfl (Nat.le_of_ble_eq_true rfl) fun fr hP hN hbnd => ?_
  have hE : (envOf fr Try.prog).Ok := envOf_ok hP
  have hM := follows_of hP
  have hS : ∀ {draw ops}, statB Try.f225.ntmps draw ops = true → statB (envOf fr Try.prog).fr.N draw ops = true := fun h => by rw [envOf_fr, hN]; exact h
  repeat' (first
    | exact True.intro
    | refine ev_seq ?_
    | ((first | refine vgd_go ?_ | refine ev_region hE hM (hS (by decide +kernel)) ?_ | refine ev_if ?_ | refine end_ret hE rfl rfl ?_ | refine end_norm hE rfl rfl ?_ | refine endG_ret [] hE rfl ?_ | refine endG_norm [] hE rfl ?_ | refine vcall_A ?_); simp (maxSteps := 2000000) only [go_sem, hP, ↓reduceIte, Nat.reduceAdd, Nat.reduceMul, Nat.reduceEqDiff, Nat.reduceSub, Nat.reduceLeDiff, reduceCtorEq])
    | refine ev_skip ?_ | refine ev_block ?_ | refine ev_blk ?_ | refine ev_ret ?_ | refine ev_exit ?_ | refine evx_code_ret ?_ | refine evx_blk_ret ?_ | refine evx_lp_ret ?_
    | refine evx_code_exit ?_ | refine evx_lp_exit ?_ | refine evx_blk_hit ?_ | refine evx_blk_pass (by decide) ?_
    | refine And.intro ?_ ?_ | intro _ | decide +kernel | omega)
end Go.Proofs.Ytmpndkhnajogkaa.W
