/- Contracts of functions that FnAnswers reaches: what each returns; it writes to nothing of old. No condition but those that each theorem states. -/
import Derived.Test.YtegohioalgikjaaQa0
open Go Go.Vm Go.Proofs Go.IntWalk Go.RowKit
set_option maxRecDepth 100000
set_option maxHeartbeats 4000000
set_option linter.unusedSimpArgs false
set_option linter.unusedVariables false
set_option linter.unusedSectionVars false
namespace Go.Proofs.Ytegohioalgikjaa.W
attribute [local irreducible] kJ ev evx vops vstep vgo vgd vget vcall vcallFn vcallA vcallB vts vres vcond vbin
theorem s_implModelFault (xs : List Pair) (d : Int) : Sat Try.prog 53 [aPs xs, aI d] true (rI (mf xs d)) := by
  refine sat_walk (fn := Try.f53) rfl rfl rfl (Nat.le_of_ble_eq_true rfl) fun fr hP hN hbnd => ?_
  have hE : (envOf fr Try.prog).Ok := envOf_ok hP
  have hM := follows_of hP
  have hS : ∀ {draw ops}, statB Try.f53.ntmps draw ops = true → statB (envOf fr Try.prog).fr.N draw ops = true := fun h => by rw [envOf_fr, hN]; exact h
  have hlen := (bndPs hbnd).1
  repeat' (first
    | exact True.intro
    | refine ev_seq ?_
    | ((first | refine vgd_go ?_ | refine ev_region hE hM (hS (by decide +kernel)) ?_ | refine ev_if ?_ | refine end_ret hE rfl rfl ?_ | refine end_norm hE rfl rfl ?_ | refine endG_ret [] hE rfl ?_ | refine endG_norm [] hE rfl ?_ | refine vcallB_of hP (s_isDims _) ?_ | refine vcall_A ?_); simp (maxSteps := 2000000) only [go_sem, hP, ↓reduceIte, Nat.reduceAdd, Nat.reduceMul, Nat.reduceEqDiff, Nat.reduceSub, Nat.reduceLeDiff, reduceCtorEq])
    | refine ev_skip ?_ | refine ev_block ?_ | refine ev_blk ?_ | refine ev_ret ?_ | refine ev_exit ?_ | refine evx_code_ret ?_ | refine evx_blk_ret ?_ | refine evx_lp_ret ?_
    | refine evx_code_exit ?_ | refine evx_lp_exit ?_ | refine evx_blk_hit ?_ | refine evx_blk_pass (by decide) ?_
    | refine And.intro ?_ ?_ | intro _ | decide +kernel | omega)
  · simp_all [mf]
  · simp_all [mf]
  refine ev_loop (ι := Nat) (fun k => [(0, .c (sP xs)), (1, .c (.int .i64 d)), (17, .c (sP xs)), (18, .c (.int .i64 xs.length)), (19, .c (.int .i64 k))]) (fun k => []) (fun _ => []) (fun k => k ≤ xs.length ∧ allLt k (fun j => decide (pairF d (xs.getD j default) = 0)) = true) (fun k => xs.length - k) 0 [] (by simp [allLt_zero] <;> omega) (by simp only [go_sem, hP, ↓reduceIte, Nat.reduceAdd, Nat.reduceMul, Nat.reduceEqDiff, Nat.reduceSub, Nat.reduceLeDiff, reduceCtorEq]; simp) ?_
  intro k hk
  repeat' (first
    | exact True.intro
    | refine ev_seq ?_
    | ((first | refine vgd_go ?_ | refine ev_region hE hM (hS (by decide +kernel)) ?_ | refine ev_if ?_ | refine end_ret hE rfl rfl ?_ | refine end_norm hE rfl rfl ?_ | refine endG_ret [] hE rfl ?_ | refine endG_norm [] hE rfl ?_ | refine vcallB_of hP (s_pairFault (xs.getD k default) _) ?_ | refine vcall_A ?_); simp (maxSteps := 2000000) only [go_sem, hP, ↓reduceIte, Nat.reduceAdd, Nat.reduceMul, Nat.reduceEqDiff, Nat.reduceSub, Nat.reduceLeDiff, reduceCtorEq])
    | refine ev_skip ?_ | refine ev_block ?_ | refine ev_blk ?_ | refine ev_ret ?_ | refine ev_exit ?_ | refine evx_code_ret ?_ | refine evx_blk_ret ?_ | refine evx_lp_ret ?_
    | refine evx_code_exit ?_ | refine evx_lp_exit ?_ | refine evx_blk_hit ?_ | refine evx_blk_pass (by decide) ?_
    | refine And.intro ?_ ?_ | intro _ | decide +kernel | omega)
  · rename_i h1 h2
    have h9 : firstF (pairF d) xs = pairF d (xs.getD k default) := firstF_here (k := k) (by omega) hk.2 (by simpa using h2)
    simp_all [mf] <;> first | omega | grind
  · rename_i h1 h2
    exact ev_lp (k + 1) [] ⟨by omega, allLt_step hk.2 (by simpa using h2)⟩ (by omega) (by simp only [go_sem, hP, ↓reduceIte, Nat.reduceAdd, Nat.reduceMul, Nat.reduceEqDiff, Nat.reduceSub, Nat.reduceLeDiff, reduceCtorEq]; simp; exact wrap_nat (by omega) hlen)
  rename_i h1
  have hz : firstF (pairF d) xs = 0 := firstF_done (by omega) hk.2
  clear h1 hk
  refine ev_loop (ι := Nat) (fun k => [(0, .c (sP xs)), (8, .c (.int .i64 k))]) (fun k => []) (fun _ => []) (fun k => 1 ≤ k ∧ k ≤ xs.length + 1 ∧ allLt k (risesAt xs) = true) (fun k => xs.length - k) 1 [] ⟨by omega, by omega, by simp [allLt, risesAt]⟩ (by simp only [go_sem, hP, ↓reduceIte, Nat.reduceAdd, Nat.reduceMul, Nat.reduceEqDiff, Nat.reduceSub, Nat.reduceLeDiff, reduceCtorEq]; simp) ?_
  intro k hk
  have hw : IntKind.i64.wrap ((k : Int) - 1) = ((k - 1 : Nat) : Int) := by rw [i64_in _ (by omega)]; omega
  repeat' (first
    | exact True.intro
    | refine ev_seq ?_
    | ((first | refine vgd_go ?_ | refine ev_region hE hM (hS (by decide +kernel)) ?_ | refine ev_if ?_ | refine end_ret hE rfl rfl ?_ | refine end_norm hE rfl rfl ?_ | refine endG_ret [] hE rfl ?_ | refine endG_norm [] hE rfl ?_ | refine vcall_A ?_); simp (maxSteps := 2000000) only [go_sem, hP, ↓reduceIte, Nat.reduceAdd, Nat.reduceMul, Nat.reduceEqDiff, Nat.reduceSub, Nat.reduceLeDiff, reduceCtorEq, hw])
    | refine ev_skip ?_ | refine ev_block ?_ | refine ev_blk ?_ | refine ev_ret ?_ | refine ev_exit ?_ | refine evx_code_ret ?_ | refine evx_blk_ret ?_ | refine evx_lp_ret ?_
    | refine evx_code_exit ?_ | refine evx_lp_exit ?_ | refine evx_blk_hit ?_ | refine evx_blk_pass (by decide) ?_
    | refine And.intro ?_ ?_ | intro _ | decide +kernel | omega)
  · rename_i h1 h2
    have h9 : allLt xs.length (risesAt xs) = false := allLt_not (k := k) (by omega) (by simp [risesAt] at h2 ⊢; omega)
    simp_all [mf] <;> first | omega | grind
  · rename_i h1 h2
    exact ev_lp (k + 1) [] ⟨by omega, by omega, allLt_step hk.2.2 (by simp [risesAt] at h2 ⊢; omega)⟩ (by omega) (by simp only [go_sem, hP, ↓reduceIte, Nat.reduceAdd, Nat.reduceMul, Nat.reduceEqDiff, Nat.reduceSub, Nat.reduceLeDiff, reduceCtorEq]; simp; exact wrap_nat (by omega) hlen)
  · have h9 : allLt xs.length (risesAt xs) = true := allLt_done (by omega) hk.2.2
    simp_all [mf] <;> first | omega | grind
def efcode (n : Node) (d r : Int) : Int := if nf n d ≠ 0 then nf n d else if findRef n.entries r < 0 then 4 else 0
def cmpI (a b : Int) : Int := if a < b then -1 else if b < a then 1 else 0
theorem s_Compare (a b : Int) : Sat Try.prog 78 [aI a, aI b] true (rI (cmpI a b)) := by
  refine sat_walk (fn := Try.f78) rfl rfl rfl (Nat.le_of_ble_eq_true rfl) fun fr hP hN hbnd => ?_
  have hE : (envOf fr Try.prog).Ok := envOf_ok hP
  have hM := follows_of hP
  have hS : ∀ {draw ops}, statB Try.f78.ntmps draw ops = true → statB (envOf fr Try.prog).fr.N draw ops = true := fun h => by rw [envOf_fr, hN]; exact h
  repeat' (first
    | exact True.intro
    | refine ev_seq ?_
    | ((first | refine vgd_go ?_ | refine ev_region hE hM (hS (by decide +kernel)) ?_ | refine ev_if ?_ | refine end_ret hE rfl rfl ?_ | refine end_norm hE rfl rfl ?_ | refine endG_ret [] hE rfl ?_ | refine endG_norm [] hE rfl ?_ | refine vcallB_of hP (s_isNaN _) ?_ | refine vcall_A ?_); simp (maxSteps := 2000000) only [go_sem, hP, ↓reduceIte, Nat.reduceAdd, Nat.reduceMul, Nat.reduceEqDiff, Nat.reduceSub, Nat.reduceLeDiff, reduceCtorEq])
    | refine ev_skip ?_ | refine ev_block ?_ | refine ev_blk ?_ | refine ev_ret ?_ | refine ev_exit ?_ | refine evx_code_ret ?_ | refine evx_blk_ret ?_ | refine evx_lp_ret ?_
    | refine evx_code_exit ?_ | refine evx_lp_exit ?_ | refine evx_blk_hit ?_ | refine evx_blk_pass (by decide) ?_
    | refine And.intro ?_ ?_ | intro _ | decide +kernel | omega)
  all_goals first
    | (simp_all [cmpI]; done)
    | (simp_all [cmpI]; omega)
theorem s_OrL (xs : List Int) : Sat Try.prog 77 [aL xs] true (rI (firstF id xs)) := by
  refine sat_walk (fn := Try.f77) rfl rfl rfl (Nat.le_of_ble_eq_true rfl) fun fr hP hN hbnd => ?_
  have hE : (envOf fr Try.prog).Ok := envOf_ok hP
  have hM := follows_of hP
  have hS : ∀ {draw ops}, statB Try.f77.ntmps draw ops = true → statB (envOf fr Try.prog).fr.N draw ops = true := fun h => by rw [envOf_fr, hN]; exact h
  have hlen := bndL hbnd
  repeat' (first
    | exact True.intro
    | refine ev_seq ?_
    | ((first | refine vgd_go ?_ | refine ev_region hE hM (hS (by decide +kernel)) ?_ | refine ev_if ?_ | refine end_ret hE rfl rfl ?_ | refine end_norm hE rfl rfl ?_ | refine endG_ret [] hE rfl ?_ | refine endG_norm [] hE rfl ?_ | refine vcall_A ?_); simp (maxSteps := 2000000) only [go_sem, hP, ↓reduceIte, Nat.reduceAdd, Nat.reduceMul, Nat.reduceEqDiff, Nat.reduceSub, Nat.reduceLeDiff, reduceCtorEq])
    | refine ev_skip ?_ | refine ev_block ?_ | refine ev_blk ?_ | refine ev_ret ?_ | refine ev_exit ?_ | refine evx_code_ret ?_ | refine evx_blk_ret ?_ | refine evx_lp_ret ?_
    | refine evx_code_exit ?_ | refine evx_lp_exit ?_ | refine evx_blk_hit ?_ | refine evx_blk_pass (by decide) ?_
    | refine And.intro ?_ ?_ | intro _ | decide +kernel | omega)
  refine ev_loop (ι := Nat) (fun k => [(3, .c (.int .i64 0)), (6, .c (sI xs)), (7, .c (.int .i64 xs.length)), (8, .c (.int .i64 k))]) (fun k => []) (fun _ => []) (fun k => k ≤ xs.length ∧ allLt k (fun j => decide (id (xs.getD j default) = 0)) = true) (fun k => xs.length - k) 0 [] (by simp [allLt_zero] <;> omega) (by simp only [go_sem, hP, ↓reduceIte, Nat.reduceAdd, Nat.reduceMul, Nat.reduceEqDiff, Nat.reduceSub, Nat.reduceLeDiff, reduceCtorEq]; simp) ?_
  intro k hk
  repeat' (first
    | exact True.intro
    | refine ev_seq ?_
    | ((first | refine vgd_go ?_ | refine ev_region hE hM (hS (by decide +kernel)) ?_ | refine ev_if ?_ | refine end_ret hE rfl rfl ?_ | refine end_norm hE rfl rfl ?_ | refine endG_ret [] hE rfl ?_ | refine endG_norm [] hE rfl ?_ | refine vcall_A ?_); simp (maxSteps := 2000000) only [go_sem, hP, ↓reduceIte, Nat.reduceAdd, Nat.reduceMul, Nat.reduceEqDiff, Nat.reduceSub, Nat.reduceLeDiff, reduceCtorEq])
    | refine ev_skip ?_ | refine ev_block ?_ | refine ev_blk ?_ | refine ev_ret ?_ | refine ev_exit ?_ | refine evx_code_ret ?_ | refine evx_blk_ret ?_ | refine evx_lp_ret ?_
    | refine evx_code_exit ?_ | refine evx_lp_exit ?_ | refine evx_blk_hit ?_ | refine evx_blk_pass (by decide) ?_
    | refine And.intro ?_ ?_ | intro _ | decide +kernel | omega)
  · rename_i h1 h2
    have hz : id (xs.getD k default) ≠ 0 := by simpa using h2
    exact (firstF_here (f := id) (by omega) hk.2 hz).symm
  · rename_i h1 h2
    exact ev_lp (k + 1) [] ⟨by omega, allLt_step hk.2 (by simpa using h2)⟩ (by omega) (by simp only [go_sem, hP, ↓reduceIte, Nat.reduceAdd, Nat.reduceMul, Nat.reduceEqDiff, Nat.reduceSub, Nat.reduceLeDiff, reduceCtorEq]; simp; exact wrap_nat (by omega) hlen)
  · exact (firstF_done (f := id) (by omega) hk.2).symm
theorem s_Or (a b : Int) : Sat Try.prog 77 [.d (false, [.sl none 1 [[.int .i64 a], [.int .i64 b]]])] true (rI (if a ≠ 0 then a else b)) := by
  have : Sat Try.prog 77 [.d (false, [.sl none 1 [[.int .i64 a], [.int .i64 b]]])] true (rI (firstF id [a, b])) := s_OrL [a, b]
  have e : firstF id [a, b] = if a ≠ 0 then a else b := by
    by_cases h : a = 0 <;> by_cases h' : b = 0 <;> simp [firstF, h, h']
  rwa [e] at this
theorem ef_rf {d : Int} {e : Entry} (h : entryF d e = 0) : rf e.rect d = 0 := by
  unfold entryF at h; split at h
  · rename_i h1; exact absurd h h1
  · rename_i h1; simpa using h1
theorem esf_rf {xs : List Entry} {d : Int} (h : esf xs d = 0) : ∀ x ∈ xs, rf x.rect d = 0 := by
  unfold esf at h
  (repeat' split at h) <;> try omega
  rename_i h1 _
  exact fun x hx => ef_rf (firstF_zero (by simpa using h1) x hx)
theorem esf_lens {xs : List Entry} {d : Int} {r : Rect} (h1 : esf xs d = 0) (h2 : rf r d = 0) : ∀ x ∈ xs, Lens x.rect r ∧ x.rect.low.length ≤ 1048576 := by
  intro x hx
  have h3 := esf_rf h1 x hx
  have := rf_three h3
  exact ⟨lens_of h3 h2, by omega⟩
def risesI (xs : List Int) (j : Nat) : Bool := decide (j = 0) || decide (xs.getD (j - 1) default < xs.getD j default)
def wf (xs : List Int) : Int := if (4 : Int) < xs.length then 2 else if xs.all (inB · 0 3) = false then 3 else if allLt xs.length (risesI xs) then 0 else 1
theorem wf_eq {xs : List Int} (h4 : ¬ (4 : Int) < xs.length) (ha : xs.all (inB · 0 3) = true) : wf xs = if allLt xs.length (risesI xs) then 0 else 1 := by
  unfold wf; rw [if_neg h4, if_neg (by rw [ha]; decide)]
theorem wf_3 {xs : List Int} (h4 : ¬ (4 : Int) < xs.length) (ha : xs.all (inB · 0 3) = false) : wf xs = 3 := by
  unfold wf; rw [if_neg h4, if_pos ha]
theorem any_nall {xs : List Int} {p : Int → Bool} : xs.any (fun n => !p n) = !xs.all p := by
  induction xs with
  | nil => rfl
  | cons x xs ih => simp [ih]
/-- Numbers that rise from one on. -/
def markedI (k : Int) (n : Nat) : List Int := (List.range n).map fun (j : Nat) => k + j
@[simp] theorem markedI_length (k : Int) (n : Nat) : (markedI k n).length = n := by simp [markedI]
theorem markedI_getD {k : Int} {n j : Nat} (h : j < n) : (markedI k n).getD j default = k + j := by
  rw [getD_lt (by simpa using h)]; simp [markedI]
/-- A row of numbers that is given: the key's name is none of the walk's own (those are multiples of 8). -/
@[go_sem] abbrev gI (κ : Nat) (xs : List Int) : Nat × Blk := (κ, .arr true 2 1 (xs.map eI))
@[go_sem] abbrev iT (n : Int) : T := .c (.int .i64 n)
/-- How far marks may go. -/
abbrev mMax : Int := 1000000000000
def findId (xs : List Pair) (r : Int) : Int := if xs.any (fun e => decide (e.id = r)) then (xs.findIdx (fun e => decide (e.id = r)) : Int) else -1
theorem findId_get {xs : List Pair} {r : Int} (h : 0 ≤ findId xs r) : ∃ i : Nat, findId xs r = i ∧ i < xs.length ∧ (xs.getD i default).id = r := by
  unfold findId at h ⊢
  split at h
  · rename_i ha
    rw [if_pos ha]
    have hi : xs.findIdx (fun e => decide (e.id = r)) < xs.length := by
      rw [List.findIdx_lt_length]; simpa using ha
    refine ⟨_, rfl, hi, ?_⟩
    rw [getD_lt hi]
    have := List.findIdx_getElem (w := hi)
    simpa using this
  · omega
theorem wR_get {xs : List Pair} {i : Nat} (h : i < xs.length) (hw : wPs xs ≤ 1048576) : (xs.getD i default).rect.low.length ≤ 1048576 ∧ (xs.getD i default).rect.high.length ≤ 1048576 := by
  have := sumW_get (w := fun p : Pair => wR p.rect) (d := default) h
  unfold wPs at hw
  have e : wR (xs.getD i default).rect = (xs.getD i default).rect.low.length + (xs.getD i default).rect.high.length := rfl
  simp only [e] at this
  omega
/-- The pair with an id: code, and pair. -/
def fpC (xs : List Pair) (d r : Int) : Int := if mf xs d ≠ 0 then mf xs d else if findId xs r < 0 then 4 else 0
def fpV (xs : List Pair) (d r : Int) : Pair := if fpC xs d r = 0 then ⟨r, (xs.getD (findId xs r).toNat default).rect⟩ else ⟨0, [], []⟩
@[go_sem] abbrev aPR (c : Int) (p : Pair) : Arg := .d (true, [.int .i64 c, .int .i64 p.id, sI p.rect.low, sI p.rect.high])
@[go_sem] abbrev rPR (c : Int) (p : Pair) : List Dat := [(true, [.int .i64 c, .int .i64 p.id, oI p.rect.low, oI p.rect.high])]
@[go_sem] abbrev tPR (c i : Int) (a b : Nat) : T := .agg [iT c, iT i, .ref a, .ref b]
@[go_sem] abbrev tP (i : Int) (a b : Nat) : T := .agg [iT i, .ref a, .ref b]
theorem fpV_w {xs : List Pair} {d r : Int} : wR (fpV xs d r).rect ≤ wPs xs := by
  unfold fpV
  split
  · by_cases h : 0 ≤ findId xs r
    · obtain ⟨i, h1, h2, h3⟩ := findId_get h
      rw [h1]
      have := sumW_get (w := fun p : Pair => wR p.rect) (d := default) h2
      simp only [Int.toNat_natCast, wPs] at *
      omega
    · rename_i h2
      unfold fpC at h2
      rw [if_pos (show findId xs r < 0 by omega)] at h2
      split at h2 <;> simp_all
  · simp [wR]
theorem s_l2At (xs : List Pair) (r : Int) : Sat Try.prog 118 [aPs xs, aI r] true (rI (findId xs r)) := by
  refine sat_walk (fn := Try.f118) rfl rfl rfl (Nat.le_of_ble_eq_true rfl) fun fr hP hN hbnd => ?_
  have hE : (envOf fr Try.prog).Ok := envOf_ok hP
  have hM := follows_of hP
  have hS : ∀ {draw ops}, statB Try.f118.ntmps draw ops = true → statB (envOf fr Try.prog).fr.N draw ops = true := fun h => by rw [envOf_fr, hN]; exact h
  have hlen := (bndPs hbnd).1
  repeat' (first
    | exact True.intro
    | refine ev_seq ?_
    | ((first | refine vgd_go ?_ | refine ev_region hE hM (hS (by decide +kernel)) ?_ | refine ev_if ?_ | refine end_ret hE rfl rfl ?_ | refine end_norm hE rfl rfl ?_ | refine endG_ret [] hE rfl ?_ | refine endG_norm [] hE rfl ?_ | refine vcall_A ?_); simp (maxSteps := 2000000) only [go_sem, hP, ↓reduceIte, Nat.reduceAdd, Nat.reduceMul, Nat.reduceEqDiff, Nat.reduceSub, Nat.reduceLeDiff, reduceCtorEq])
    | refine ev_skip ?_ | refine ev_block ?_ | refine ev_blk ?_ | refine ev_ret ?_ | refine ev_exit ?_ | refine evx_code_ret ?_ | refine evx_blk_ret ?_ | refine evx_lp_ret ?_
    | refine evx_code_exit ?_ | refine evx_lp_exit ?_ | refine evx_blk_hit ?_ | refine evx_blk_pass (by decide) ?_
    | refine And.intro ?_ ?_ | intro _ | decide +kernel | omega)
  refine ev_loop (ι := Nat) (fun k => [(0, .c (sP xs)), (1, .c (.int .i64 r)), (5, .c (.int .i64 k))]) (fun k => []) (fun _ => []) (fun k => k ≤ xs.length ∧ (xs.take k).any (fun e => decide (e.id = r)) = false) (fun k => xs.length - k) 0 [] (by simp [allLt_zero] <;> omega) (by simp only [go_sem, hP, ↓reduceIte, Nat.reduceAdd, Nat.reduceMul, Nat.reduceEqDiff, Nat.reduceSub, Nat.reduceLeDiff, reduceCtorEq]; simp) ?_
  intro k hk
  repeat' (first
    | exact True.intro
    | refine ev_seq ?_
    | ((first | refine vgd_go ?_ | refine ev_region hE hM (hS (by decide +kernel)) ?_ | refine ev_if ?_ | refine end_ret hE rfl rfl ?_ | refine end_norm hE rfl rfl ?_ | refine endG_ret [] hE rfl ?_ | refine endG_norm [] hE rfl ?_ | refine vcall_A ?_); simp (maxSteps := 2000000) only [go_sem, hP, ↓reduceIte, Nat.reduceAdd, Nat.reduceMul, Nat.reduceEqDiff, Nat.reduceSub, Nat.reduceLeDiff, reduceCtorEq])
    | refine ev_skip ?_ | refine ev_block ?_ | refine ev_blk ?_ | refine ev_ret ?_ | refine ev_exit ?_ | refine evx_code_ret ?_ | refine evx_blk_ret ?_ | refine evx_lp_ret ?_
    | refine evx_code_exit ?_ | refine evx_lp_exit ?_ | refine evx_blk_hit ?_ | refine evx_blk_pass (by decide) ?_
    | refine And.intro ?_ ?_ | intro _ | decide +kernel | omega)
  · rename_i h1 h2
    have h3 : (fun e : Pair => decide (e.id = r)) (xs.getD k default) = true := by simpa using h2
    unfold findId
    rw [any_yes (d := default) (by omega) h3, findIdx_here (d := default) (by omega) hk.2 h3]; rfl
  · rename_i h1 h2
    exact ev_lp (k + 1) [] ⟨by omega, any_step (d := default) (by omega) hk.2 (by simpa using h2)⟩ (by omega) (by simp only [go_sem, hP, ↓reduceIte, Nat.reduceAdd, Nat.reduceMul, Nat.reduceEqDiff, Nat.reduceSub, Nat.reduceLeDiff, reduceCtorEq]; simp; exact wrap_nat (by omega) hlen)
  · unfold findId
    rw [any_done (by omega) hk.2]; rfl
theorem s_l1Ints (xs : List Int) (hx : xs.length ≤ 1048576) : Sat Try.prog 116 [aL xs] true (rL xs) := by
  refine sat_walk (fn := Try.f116) rfl rfl rfl (Nat.le_of_ble_eq_true rfl) fun fr hP hN hbnd => ?_
  have hE : (envOf fr Try.prog).Ok := envOf_ok hP
  have hM := follows_of hP
  have hS : ∀ {draw ops}, statB Try.f116.ntmps draw ops = true → statB (envOf fr Try.prog).fr.N draw ops = true := fun h => by rw [envOf_fr, hN]; exact h
  have hlen := bndL hbnd
  repeat' (first
    | exact True.intro
    | refine ev_seq ?_
    | ((first | refine vgd_go ?_ | refine ev_region hE hM (hS (by decide +kernel)) ?_ | refine ev_if ?_ | refine end_ret hE rfl rfl ?_ | refine end_norm hE rfl rfl ?_ | refine endG_ret [] hE rfl ?_ | refine endG_norm [] hE rfl ?_ | refine vcall_A ?_); simp (maxSteps := 2000000) only [go_sem, hP, ↓reduceIte, Nat.reduceAdd, Nat.reduceMul, Nat.reduceEqDiff, Nat.reduceSub, Nat.reduceLeDiff, reduceCtorEq, Bool.and_self])
    | refine ev_skip ?_ | refine ev_block ?_ | refine ev_blk ?_ | refine ev_ret ?_ | refine ev_exit ?_ | refine evx_code_ret ?_ | refine evx_blk_ret ?_ | refine evx_lp_ret ?_
    | refine evx_code_exit ?_ | refine evx_lp_exit ?_ | refine evx_blk_hit ?_ | refine evx_blk_pass (by decide) ?_
    | refine And.intro ?_ ?_ | intro _ | decide +kernel | omega)
  all_goals (simp_all; done)
theorem s_l1Copy (r : Rect) (h1 : r.low.length ≤ 1048576) (h2 : r.high.length ≤ 1048576) : Sat Try.prog 84 [pR r] true (rR r) := by
  refine sat_walk (fn := Try.f84) rfl rfl rfl (Nat.le_of_ble_eq_true rfl) fun fr hP hN hbnd => ?_
  have hE : (envOf fr Try.prog).Ok := envOf_ok hP
  have hM := follows_of hP
  have hS : ∀ {draw ops}, statB Try.f84.ntmps draw ops = true → statB (envOf fr Try.prog).fr.N draw ops = true := fun h => by rw [envOf_fr, hN]; exact h
  repeat' (first
    | exact True.intro
    | refine ev_seq ?_
    | ((first | refine vgd_go ?_ | refine ev_region hE hM (hS (by decide +kernel)) ?_ | refine ev_if ?_ | refine end_ret hE rfl rfl ?_ | refine end_norm hE rfl rfl ?_ | refine endG_ret [] hE rfl ?_ | refine endG_norm [] hE rfl ?_ | refine vcallB_of hP (s_l1Ints _ h1) ?_ | refine vcallB_of hP (s_l1Ints _ h2) ?_ | refine vcall_A ?_); simp (maxSteps := 2000000) only [go_sem, hP, ↓reduceIte, Nat.reduceAdd, Nat.reduceMul, Nat.reduceEqDiff, Nat.reduceSub, Nat.reduceLeDiff, reduceCtorEq])
    | refine ev_skip ?_ | refine ev_block ?_ | refine ev_blk ?_ | refine ev_ret ?_ | refine ev_exit ?_ | refine evx_code_ret ?_ | refine evx_blk_ret ?_ | refine evx_lp_ret ?_
    | refine evx_code_exit ?_ | refine evx_lp_exit ?_ | refine evx_blk_hit ?_ | refine evx_blk_pass (by decide) ?_
    | refine And.intro ?_ ?_ | intro _ | decide +kernel | omega)
theorem s_l2Copy (p : Pair) (h1 : p.rect.low.length ≤ 1048576) (h2 : p.rect.high.length ≤ 1048576) : Sat Try.prog 127 [.pv (eP p)] true (rP p) := by
  refine sat_walk (fn := Try.f127) rfl rfl rfl (Nat.le_of_ble_eq_true rfl) fun fr hP hN hbnd => ?_
  have hE : (envOf fr Try.prog).Ok := envOf_ok hP
  have hM := follows_of hP
  have hS : ∀ {draw ops}, statB Try.f127.ntmps draw ops = true → statB (envOf fr Try.prog).fr.N draw ops = true := fun h => by rw [envOf_fr, hN]; exact h
  repeat' (first
    | exact True.intro
    | refine ev_seq ?_
    | ((first | refine vgd_go ?_ | refine ev_region hE hM (hS (by decide +kernel)) ?_ | refine ev_if ?_ | refine end_ret hE rfl rfl ?_ | refine end_norm hE rfl rfl ?_ | refine endG_ret [] hE rfl ?_ | refine endG_norm [] hE rfl ?_ | refine vcallB_of hP (s_l1Copy p.rect h1 h2) ?_ | refine vcall_A ?_); simp (maxSteps := 2000000) only [go_sem, hP, ↓reduceIte, Nat.reduceAdd, Nat.reduceMul, Nat.reduceEqDiff, Nat.reduceSub, Nat.reduceLeDiff, reduceCtorEq])
    | refine ev_skip ?_ | refine ev_block ?_ | refine ev_blk ?_ | refine ev_ret ?_ | refine ev_exit ?_ | refine evx_code_ret ?_ | refine evx_blk_ret ?_ | refine evx_lp_ret ?_
    | refine evx_code_exit ?_ | refine evx_lp_exit ?_ | refine evx_blk_hit ?_ | refine evx_blk_pass (by decide) ?_
    | refine And.intro ?_ ?_ | intro _ | decide +kernel | omega)
/-- All boxes have as many numbers as n tells. -/
def Even (xs : List Entry) (n : Nat) : Prop := ∀ x ∈ xs, x.rect.low.length = n ∧ x.rect.high.length = n
theorem even_get {xs : List Entry} {n k : Nat} (h : Even xs n) (hk : k < xs.length) : (xs.getD k default).rect.low.length = n ∧ (xs.getD k default).rect.high.length = n := h _ (getD_mem hk)
theorem even_drop {xs : List Entry} {n k : Nat} (h : Even xs n) : Even (xs.drop k) n := fun x hx => h x (List.mem_of_mem_drop hx)
theorem even_take {xs : List Entry} {n k : Nat} (h : Even xs n) : Even (xs.take k) n := fun x hx => h x (List.mem_of_mem_take hx)
def boxTo (xs : List Entry) : Nat → Rect
  | 0 => (xs.getD 0 default).rect
  | k + 1 => un (boxTo xs k) (xs.getD (k + 1) default).rect
theorem boxTo_zero (xs : List Entry) : boxTo xs 0 = (xs.getD 0 default).rect := rfl
theorem boxTo_succ (xs : List Entry) (k : Nat) : boxTo xs (k + 1) = un (boxTo xs k) (xs.getD (k + 1) default).rect := rfl
def bx (xs : List Entry) : Rect := boxTo xs (xs.length - 1)
theorem un_size {a b : Rect} : (un a b).low.length = a.low.length ∧ (un a b).high.length = a.low.length := by simp [un]
theorem boxTo_size {xs : List Entry} {n : Nat} (h : Even xs n) : ∀ k, k < xs.length → (boxTo xs k).low.length = n ∧ (boxTo xs k).high.length = n
  | 0, hk => even_get h hk
  | k + 1, hk => by
    have := boxTo_size h k (by omega)
    rw [boxTo_succ]
    exact ⟨by rw [un_size.1]; exact this.1, by rw [un_size.2]; exact this.1⟩
theorem boxTo_lens {xs : List Entry} {n k : Nat} (h : Even xs n) (hk : k + 1 < xs.length) : Lens (boxTo xs k) (xs.getD (k + 1) default).rect := by
  have h1 := boxTo_size h k (by omega)
  have h2 := even_get h hk
  exact ⟨by omega, by omega, by omega⟩
theorem bx_size {xs : List Entry} {n : Nat} (h : Even xs n) (h0 : 0 < xs.length) : (bx xs).low.length = n ∧ (bx xs).high.length = n := boxTo_size h _ (by omega)
theorem nf_rf {n : Node} {d : Int} (h : nf n d = 0) : ∀ x ∈ n.entries, rf x.rect d = 0 := by
  unfold nf at h
  (repeat' split at h) <;> try omega
  all_goals first
    | (rename_i h1 h2 h3; exact fun x hx => ef_rf (firstF_zero (by simpa using ‹¬firstF (entryF d) n.entries ≠ 0›) x hx))
    | skip
theorem rf_even {xs : List Entry} {d : Int} (h : ∀ x ∈ xs, rf x.rect d = 0) : Even xs d.toNat := fun x hx => by
  have := rf_len (h x hx); omega
theorem rf_two {r : Rect} {d : Int} (h : rf r d = 0) : 2 ≤ d ∧ d ≤ 3 := by
  have h1 := rf_len h
  have h2 : pf r.low d = 0 := by unfold rf at h; split at h <;> simp_all
  have := pf_three h2
  unfold pf at h2; split at h2 <;> simp_all [inB]
def weC (n : Node) (d : Int) (e : Entry) : Int := if nf n d ≠ 0 then nf n d else if entryF d e ≠ 0 then entryF d e else if fits n.level e = false then 1 else if 0 ≤ findRef n.entries e.ref then 6 else if (4 : Int) < n.entries.length then 7 else 0
def weV (n : Node) (d : Int) (e : Entry) : Node := if weC n d e = 0 then ⟨n.level, n.nsn, n.right, n.entries ++ [e]⟩ else ⟨0, 0, 0, []⟩
def wdC (n : Node) (d r : Int) (b : Rect) : Int := if nf n d ≠ 0 then nf n d else if rf b d ≠ 0 then rf b d else if findRef n.entries r < 0 then 4 else 0
def wider (e : Entry) (b : Rect) : Entry := ⟨un e.rect b, e.ref, e.nsn⟩
def wdV (n : Node) (d r : Int) (b : Rect) : Node := if wdC n d r b = 0 then ⟨n.level, n.nsn, n.right, n.entries.set (findRef n.entries r).toNat (wider (n.entries.getD (findRef n.entries r).toNat default) b)⟩ else ⟨0, 0, 0, []⟩
theorem nf_inB {n : Node} {d : Int} (h : nf n d = 0) : inB d 2 3 = true ∧ n.entries.length ≤ 5 := by
  unfold nf at h
  (repeat' split at h) <;> simp_all <;> omega
theorem nf_small {n : Node} {d : Int} (h : nf n d = 0) : d.toNat ≤ 1048576 := by
  have := (nf_inB h).1
  simp [inB] at this; omega
theorem esf_small {xs : List Entry} {d : Int} (h : esf xs d = 0) : d.toNat ≤ 1048576 := by
  unfold esf at h
  (repeat' split at h) <;> simp_all [inB] <;> omega
theorem even_w {xs : List Entry} {d : Int} (h : ∀ x ∈ xs, rf x.rect d = 0) : wEntryS xs ≤ 7 * xs.length := by
  unfold wEntryS
  have : ∀ ys : List Entry, (∀ x ∈ ys, rf x.rect d = 0) → sumW wEntry ys ≤ 6 * ys.length := by
    intro ys
    induction ys with
    | nil => intro _; exact Nat.zero_le _
    | cons y ys ih =>
      intro hy
      have e2 : sumW wEntry (y :: ys) = wEntry y + sumW wEntry ys := rfl
      have h1 := hy y (by simp)
      have h2 := rf_len h1
      have h3 := rf_two h1
      have h4 := ih fun x hx => hy x (by simp [hx])
      have e3 : wEntry y = y.rect.low.length + y.rect.high.length := rfl
      rw [e2, List.length_cons, e3]; omega
  have := this xs h
  omega
theorem nf_w {n : Node} {d : Int} (h : nf n d = 0) : wEntryS n.entries ≤ 35 := by
  have h1 := even_w (nf_rf h)
  have h2 := (nf_inB h).2
  omega
theorem findRef_get {xs : List Entry} {r : Int} (h : 0 ≤ findRef xs r) : ∃ i : Nat, findRef xs r = i ∧ i < xs.length ∧ (xs.getD i default).ref = r := by
  unfold findRef at h ⊢
  split at h
  · rename_i ha
    rw [if_pos ha]
    have hi : xs.findIdx (fun e => decide (e.ref = r)) < xs.length := by
      rw [List.findIdx_lt_length]; simpa using ha
    refine ⟨_, rfl, hi, ?_⟩
    rw [getD_lt hi]
    have := List.findIdx_getElem (w := hi)
    simpa using this
  · omega
@[go_sem] abbrev aPsR (c : Int) (xs : List Pair) : Arg := .d (true, [.int .i64 c, sP xs])
@[go_sem] abbrev rPsR (c : Int) (xs : List Pair) : List Dat := [(true, [.int .i64 c, oPs xs])]
@[go_sem] abbrev tPsR (c : Int) (a : Nat) : T := .agg [iT c, .ref a]
theorem s_l2Copies (xs : List Pair) (hw : wPs xs ≤ 1048576) : Sat Try.prog 102 [aPs xs] true (rPs xs) := by
  refine sat_walk (fn := Try.f102) rfl rfl rfl (Nat.le_of_ble_eq_true rfl) fun fr hP hN hbnd => ?_
  have hE : (envOf fr Try.prog).Ok := envOf_ok hP
  have hM := follows_of hP
  have hS : ∀ {draw ops}, statB Try.f102.ntmps draw ops = true → statB (envOf fr Try.prog).fr.N draw ops = true := fun h => by rw [envOf_fr, hN]; exact h
  have hlen : xs.length ≤ 1048576 := by unfold wPs at hw; omega
  repeat' (first
    | exact True.intro
    | refine ev_seq ?_
    | ((first | refine vgd_go ?_ | refine ev_region hE hM (hS (by decide +kernel)) ?_ | refine ev_if ?_ | refine end_ret hE rfl rfl ?_ | refine end_norm hE rfl rfl ?_ | refine endG_ret [] hE rfl ?_ | refine endG_norm [] hE rfl ?_ | refine vcall_A ?_); simp (maxSteps := 2000000) only [go_sem, hP, ↓reduceIte, Nat.reduceAdd, Nat.reduceMul, Nat.reduceEqDiff, Nat.reduceSub, Nat.reduceLeDiff, reduceCtorEq])
    | refine ev_skip ?_ | refine ev_block ?_ | refine ev_blk ?_ | refine ev_ret ?_ | refine ev_exit ?_ | refine evx_code_ret ?_ | refine evx_blk_ret ?_ | refine evx_lp_ret ?_
    | refine evx_code_exit ?_ | refine evx_lp_exit ?_ | refine evx_blk_hit ?_ | refine evx_blk_pass (by decide) ?_
    | refine And.intro ?_ ?_ | intro _ | decide +kernel | omega)
  refine ev_loop (ι := Nat) (fun k => [(0, .c (sP xs)), (3, .ref 100000), (4, iT k)]) (fun k => [(100000, .arr true 55 3 ((xs.take k).map oP))]) (fun _ => []) (fun k => k ≤ xs.length) (fun k => xs.length - k) 0 [(100000, some 4096)] (by omega) (by simp only [go_sem, hP, ↓reduceIte, Nat.reduceAdd, Nat.reduceMul, Nat.reduceEqDiff, Nat.reduceSub, Nat.reduceLeDiff, reduceCtorEq]; simp) ?_
  intro k hk
  have hw1 : k < xs.length → IntKind.i64.wrap ((k : Int) + 1) = k + 1 := fun h => i64_in _ (by omega)
  have htl : ((xs.take k).map oP).length = k := by simp; omega
  by_cases hlt : k < xs.length
  · have hg := wR_get hlt hw
    repeat' (first
      | exact True.intro
      | refine ev_seq ?_
      | ((first | refine vgd_go ?_ | refine ev_region hE hM (hS (by decide +kernel)) ?_ | refine ev_if ?_ | refine end_ret hE rfl rfl ?_ | refine end_norm hE rfl rfl ?_ | refine endG_ret [] hE rfl ?_ | refine endG_norm [] hE rfl ?_ | refine vcallB_of hP (s_l2Copy (xs.getD k default) hg.1 hg.2) ?_ | refine vcall_A ?_); simp (maxSteps := 2000000) only [go_sem, hP, ↓reduceIte, Nat.reduceAdd, Nat.reduceMul, Nat.reduceEqDiff, Nat.reduceSub, Nat.reduceLeDiff, reduceCtorEq, htl, Bool.and_self])
      | refine ev_skip ?_ | refine ev_block ?_ | refine ev_blk ?_ | refine ev_ret ?_ | refine ev_exit ?_ | refine evx_code_ret ?_ | refine evx_blk_ret ?_ | refine evx_lp_ret ?_
      | refine evx_code_exit ?_ | refine evx_lp_exit ?_ | refine evx_blk_hit ?_ | refine evx_blk_pass (by decide) ?_
      | refine And.intro ?_ ?_ | intro _ | decide +kernel | omega)
    all_goals first
      | exact ev_lp (k + 1) [(100000, some 20528)] (by omega) (by omega) (by simp only [go_sem, hP, ↓reduceIte, Nat.reduceAdd, Nat.reduceMul, Nat.reduceEqDiff, Nat.reduceSub, Nat.reduceLeDiff, reduceCtorEq]; rw [take_step (d := default) hlt]; simp [hw1 hlt, oP_eq])
      | (exfalso; omega)
      | (simp_all; done)
  · obtain rfl : k = xs.length := by omega
    repeat' (first
      | exact True.intro
      | refine ev_seq ?_
      | ((first | refine vgd_go ?_ | refine ev_region hE hM (hS (by decide +kernel)) ?_ | refine ev_if ?_ | refine end_ret hE rfl rfl ?_ | refine end_norm hE rfl rfl ?_ | refine endG_ret [] hE rfl ?_ | refine endG_norm [] hE rfl ?_ | refine vcall_A ?_); simp (maxSteps := 2000000) only [go_sem, hP, ↓reduceIte, Nat.reduceAdd, Nat.reduceMul, Nat.reduceEqDiff, Nat.reduceSub, Nat.reduceLeDiff, reduceCtorEq, htl, List.take_length])
      | refine ev_skip ?_ | refine ev_block ?_ | refine ev_blk ?_ | refine ev_ret ?_ | refine ev_exit ?_ | refine evx_code_ret ?_ | refine evx_blk_ret ?_ | refine evx_lp_ret ?_
      | refine evx_code_exit ?_ | refine evx_lp_exit ?_ | refine evx_blk_hit ?_ | refine evx_blk_pass (by decide) ?_
      | refine And.intro ?_ ?_ | intro _ | decide +kernel | omega)
    all_goals first
      | (exfalso; omega)
      | (simp_all; done)
/-- Where a pair is put among others. -/
def addAt (xs : List Pair) (p : Pair) : Nat := if xs.any (fun q => decide (p.id < q.id)) then xs.findIdx (fun q => decide (p.id < q.id)) else xs.length
def addV (xs : List Pair) (p : Pair) : List Pair := xs.take (addAt xs p) ++ [p] ++ xs.drop (addAt xs p)
theorem addAt_le (xs : List Pair) (p : Pair) : addAt xs p ≤ xs.length := by
  unfold addAt; split
  · exact List.findIdx_le_length
  · exact Nat.le_refl _
theorem addAt_lt {xs : List Pair} {p : Pair} {k : Nat} (h : k < addAt xs p) : ¬ p.id < (xs.getD k default).id := by
  have hl := addAt_le xs p
  unfold addAt at h
  split at h
  · have := List.not_of_lt_findIdx h
    have hx := List.findIdx_le_length (p := fun q : Pair => decide (p.id < q.id)) (xs := xs)
    rw [getD_lt (by omega)]
    simpa using this
  · rename_i ha
    have ha : xs.any (fun q => decide (p.id < q.id)) = false := by simpa using ha
    have := List.any_eq_false.1 ha _ (getD_mem (d := default) h)
    simpa using this
theorem addAt_eq {xs : List Pair} {p : Pair} (h : addAt xs p < xs.length) : p.id < (xs.getD (addAt xs p) default).id := by
  unfold addAt at h ⊢
  split at h
  · rename_i ha
    rw [if_pos ha, getD_lt h]
    have := List.findIdx_getElem (w := h)
    simpa using this
  · omega
/-- The row while it is made. -/
def addK (xs : List Pair) (p : Pair) (k : Nat) : List Pair := if k ≤ addAt xs p then xs.take k else xs.take (addAt xs p) ++ p :: (xs.take k).drop (addAt xs p)
theorem addK_lo {xs : List Pair} {p : Pair} {k : Nat} (h : k < addAt xs p) : addK xs p (k + 1) = addK xs p k ++ [xs.getD k default] := by
  have := addAt_le xs p
  unfold addK
  rw [if_pos (by omega), if_pos (by omega), take_step (d := default) (by omega)]
theorem addK_at {xs : List Pair} {p : Pair} (h : addAt xs p < xs.length) : addK xs p (addAt xs p + 1) = addK xs p (addAt xs p) ++ [p] ++ [xs.getD (addAt xs p) default] := by
  unfold addK
  rw [if_neg (by omega), if_pos (Nat.le_refl _), take_step (d := default) h]
  have e : (xs.take (addAt xs p)).length = addAt xs p := by rw [List.length_take]; omega
  rw [List.drop_append, e, Nat.sub_self, List.drop_zero, List.drop_eq_nil_of_le (by omega)]
  simp
theorem addK_hi {xs : List Pair} {p : Pair} {k : Nat} (h : addAt xs p < k) (hk : k < xs.length) : addK xs p (k + 1) = addK xs p k ++ [xs.getD k default] := by
  unfold addK
  rw [if_neg (by omega), if_neg (by omega), take_step (d := default) hk]
  have e : (xs.take k).length = k := by rw [List.length_take]; omega
  rw [List.drop_append, e, show addAt xs p - k = 0 by omega, List.drop_zero]
  simp
theorem addK_done {xs : List Pair} {p : Pair} (h : addAt xs p < xs.length) : addK xs p xs.length = addV xs p := by
  unfold addK addV
  rw [if_neg (by omega), List.take_length]; simp
theorem addK_last {xs : List Pair} {p : Pair} (h : ¬ addAt xs p < xs.length) : addK xs p xs.length ++ [p] = addV xs p := by
  have := addAt_le xs p
  have e : addAt xs p = xs.length := by omega
  unfold addK addV
  rw [e, if_pos (Nat.le_refl _)]; simp
theorem addK_zero (xs : List Pair) (p : Pair) : addK xs p 0 = [] := by unfold addK; rw [if_pos (Nat.zero_le _)]; rfl
theorem addK_len {xs : List Pair} {p : Pair} (k : Nat) : (addK xs p k).length ≤ k + 1 := by
  unfold addK; split
  · rw [List.length_take]; omega
  · simp; omega
theorem wPs_append (xs ys : List Pair) : wPs (xs ++ ys) = wPs xs + wPs ys := by unfold wPs sumW; simp; omega
theorem wPs_split (xs : List Pair) (i : Nat) : wPs (xs.take i) + wPs (xs.drop i) = wPs xs := by rw [← wPs_append, List.take_append_drop]
theorem addV_w (xs : List Pair) (p : Pair) : wPs (addV xs p) = wPs xs + 1 + wR p.rect := by
  have := wPs_split xs (addAt xs p)
  have e : wPs [p] = 1 + wR p.rect := by simp [wPs, sumW]
  unfold addV
  rw [wPs_append, wPs_append, e]; omega
def tpC (xs : List Pair) (d : Int) (p : Pair) : Int := if mf xs d ≠ 0 then mf xs d else if pairF d p ≠ 0 then pairF d p else if findId xs p.id < 0 ∨ ¬ (xs.getD (findId xs p.id).toNat default).rect = p.rect then 4 else 0
def tpV (xs : List Pair) (d : Int) (p : Pair) : List Pair := if tpC xs d p = 0 then xs.take (findId xs p.id).toNat ++ xs.drop ((findId xs p.id).toNat + 1) else []
def apC (xs : List Pair) (d : Int) (p : Pair) : Int := if mf xs d ≠ 0 then mf xs d else if pairF d p ≠ 0 then pairF d p else if 0 ≤ findId xs p.id then 6 else if (60 : Int) ≤ xs.length then 7 else 0
def apV (xs : List Pair) (d : Int) (p : Pair) : List Pair := if apC xs d p = 0 then addV xs p else []
def chC (xs : List Pair) (d : Int) (p : Pair) : Int := if mf xs d ≠ 0 then mf xs d else pairF d p
theorem mf_len {xs : List Pair} {d : Int} (h : mf xs d = 0) : xs.length ≤ 60 := by
  unfold mf at h; (repeat' split at h) <;> omega
theorem pairF_rf {p : Pair} {d : Int} (h : pairF d p = 0) : rf p.rect d = 0 := by
  unfold pairF at h; split at h <;> simp_all
theorem mf_rise {xs : List Pair} {d : Int} (h : mf xs d = 0) : ∀ i j, i < j → j < xs.length → (xs.getD i default).id < (xs.getD j default).id := by
  have h1 : allLt xs.length (risesAt xs) = true := by unfold mf at h; (repeat' split at h) <;> first | omega | assumption
  have h2 : ∀ j, j + 1 < xs.length → (xs.getD j default).id < (xs.getD (j + 1) default).id := fun j hj => by
    have := allLt_iff.mp h1 (j + 1) hj
    simpa [risesAt] using this
  intro i j hij
  induction j with
  | zero => omega
  | succ j ih =>
    intro hj
    by_cases e : i = j
    · subst e; exact h2 i hj
    · have := ih (by omega) (by omega); have := h2 j hj; omega
theorem rf_wR {r : Rect} {d : Int} (h : rf r d = 0) : wR r ≤ 6 := by
  have h1 := rf_len h
  have h2 := rf_two h
  unfold wR; omega
theorem mf_w {xs : List Pair} {d : Int} (h : mf xs d = 0) : wPs xs ≤ 7 * xs.length := by
  have h0 : firstF (pairF d) xs = 0 := by unfold mf at h; (repeat' split at h) <;> first | omega | simp_all
  have h1 := firstF_zero h0
  have : ∀ ys : List Pair, (∀ x ∈ ys, pairF d x = 0) → wPs ys ≤ 7 * ys.length := by
    intro ys
    induction ys with
    | nil => intro _; exact Nat.zero_le _
    | cons y ys ih =>
      intro hy
      have e : wPs (y :: ys) = 1 + wR y.rect + wPs ys := by unfold wPs sumW; simp; omega
      have h2 := rf_wR (pairF_rf (hy y (by simp)))
      have h3 := ih fun x hx => hy x (by simp [hx])
      rw [e, List.length_cons]; omega
  exact this xs h1
theorem filter_one {xs : List Pair} {d r : Int} {i : Nat} (h : mf xs d = 0) (hi : i < xs.length) (hr : (xs.getD i default).id = r) : xs.filter (fun p => decide (p.id ≠ r)) = xs.take i ++ xs.drop (i + 1) := by
  have hm := mf_rise h
  conv => lhs; rw [← List.take_append_drop i xs, List.drop_eq_getElem_cons hi]
  rw [List.filter_append, List.filter_cons]
  have e0 : xs[i] = xs.getD i default := (getD_lt hi).symm
  have e1 : (xs.take i).filter (fun p => decide (p.id ≠ r)) = xs.take i := by
    rw [List.filter_eq_self]
    intro p hp
    obtain ⟨k, hk, rfl⟩ := List.mem_iff_getElem.1 hp
    rw [List.length_take] at hk
    have := hm k i (by omega) hi
    rw [getD_lt (show k < xs.length by omega), hr] at this
    rw [List.getElem_take]
    simp; omega
  have e2 : (xs.drop (i + 1)).filter (fun p => decide (p.id ≠ r)) = xs.drop (i + 1) := by
    rw [List.filter_eq_self]
    intro p hp
    obtain ⟨k, hk, rfl⟩ := List.mem_iff_getElem.1 hp
    rw [List.length_drop] at hk
    have := hm i (i + 1 + k) (by omega) (by omega)
    rw [getD_lt (show i + 1 + k < xs.length by omega), hr] at this
    rw [List.getElem_drop]
    simp; omega
  have e3 : decide (xs[i].id ≠ r) = false := by rw [e0, hr]; simp
  rw [e1, e2, e3]; rfl
theorem drop_w (xs : List Pair) (i : Nat) : wPs (xs.take i ++ xs.drop (i + 1)) ≤ wPs xs := by
  rw [wPs_append]
  have h1 := wPs_split xs i
  have h2 := wPs_split (xs.drop i) 1
  rw [List.drop_drop] at h2
  omega
theorem apV_w (xs : List Pair) (d : Int) (p : Pair) : wPs (apV xs d p) ≤ wPs xs + 1 + wR p.rect := by
  unfold apV; split
  · rw [addV_w]; exact Nat.le_refl _
  · exact Nat.zero_le _
theorem tpV_w (xs : List Pair) (d : Int) (p : Pair) : wPs (tpV xs d p) ≤ wPs xs := by
  unfold tpV; split
  · exact drop_w _ _
  · exact Nat.zero_le _
theorem tpC_zero {xs : List Pair} {d : Int} {p : Pair} (h : tpC xs d p = 0) : mf xs d = 0 ∧ pairF d p = 0 ∧ 0 ≤ findId xs p.id ∧ (xs.getD (findId xs p.id).toNat default).rect = p.rect := by
  unfold tpC at h
  (repeat' split at h) <;> try omega
  rename_i h1 h2 h3
  refine ⟨by simpa using h1, by simpa using h2, ?_, ?_⟩
  · rcases Int.lt_or_le (findId xs p.id) 0 with h4 | h4
    · exact absurd (.inl h4) h3
    · exact h4
  · exact Classical.byContradiction fun h4 => h3 (.inr h4)
def woV (n : Node) (d r : Int) : Node := if efcode n d r = 0 then ⟨n.level, n.nsn, n.right, n.entries.take (findRef n.entries r).toNat ++ n.entries.drop ((findRef n.entries r).toNat + 1)⟩ else ⟨0, 0, 0, []⟩
theorem ef_zero {n : Node} {d r : Int} (h : efcode n d r = 0) : nf n d = 0 ∧ 0 ≤ findRef n.entries r := by
  unfold efcode at h
  (repeat' split at h) <;> omega
theorem nf_dup {n : Node} {d : Int} (h : nf n d = 0) : noDup n.entries = true := by
  unfold nf at h; (repeat' split at h) <;> first | omega | assumption
theorem wES_append (xs ys : List Entry) : wEntryS (xs ++ ys) = wEntryS xs + wEntryS ys := by unfold wEntryS sumW; simp; omega
theorem dropE_w (xs : List Entry) (i : Nat) : wEntryS (xs.take i ++ xs.drop (i + 1)) ≤ wEntryS xs := by
  have h1 : wEntryS (xs.take i) + wEntryS (xs.drop i) = wEntryS xs := by rw [← wES_append, List.take_append_drop]
  have h2 : wEntryS ((xs.drop i).take 1) + wEntryS ((xs.drop i).drop 1) = wEntryS (xs.drop i) := by rw [← wES_append, List.take_append_drop]
  rw [List.drop_drop] at h2
  rw [wES_append]; omega
theorem woV_w (n : Node) (d r : Int) : wEntryS (woV n d r).entries ≤ 50 := by
  unfold woV; split
  · rename_i h
    have h1 := nf_w (ef_zero h).1
    have h2 := dropE_w n.entries (findRef n.entries r).toNat
    exact Nat.le_trans h2 (by omega)
  · exact Nat.zero_le _
theorem filterE_one {xs : List Entry} {r : Int} {i : Nat} (h : noDup xs = true) (hi : i < xs.length) (hr : (xs.getD i default).ref = r) : xs.filter (fun p => decide (p.ref ≠ r)) = xs.take i ++ xs.drop (i + 1) := by
  have hd : ∀ a b, a < b → b < xs.length → (xs.getD a default).ref ≠ (xs.getD b default).ref := fun a b hab hb he => by
    have h1 := allLt_iff.mp h b hb
    have h2 : dupAt xs b = true := by
      unfold dupAt
      rw [List.any_eq_true]
      have hl : a < (xs.take b).length := by rw [List.length_take]; omega
      refine ⟨(xs.take b)[a], List.getElem_mem hl, ?_⟩
      rw [List.getElem_take, ← getD_lt (show a < xs.length by omega)]
      simpa using he
    rw [h2] at h1; cases h1
  conv => lhs; rw [← List.take_append_drop i xs, List.drop_eq_getElem_cons hi]
  rw [List.filter_append, List.filter_cons]
  have e0 : xs[i] = xs.getD i default := (getD_lt hi).symm
  have e1 : (xs.take i).filter (fun p => decide (p.ref ≠ r)) = xs.take i := by
    rw [List.filter_eq_self]
    intro p hp
    obtain ⟨k, hk, rfl⟩ := List.mem_iff_getElem.1 hp
    rw [List.length_take] at hk
    have := hd k i (by omega) hi
    rw [getD_lt (show k < xs.length by omega), hr] at this
    rw [List.getElem_take]
    simpa using this
  have e2 : (xs.drop (i + 1)).filter (fun p => decide (p.ref ≠ r)) = xs.drop (i + 1) := by
    rw [List.filter_eq_self]
    intro p hp
    obtain ⟨k, hk, rfl⟩ := List.mem_iff_getElem.1 hp
    rw [List.length_drop] at hk
    have := hd i (i + 1 + k) (by omega) (by omega)
    rw [getD_lt (show i + 1 + k < xs.length by omega), hr] at this
    rw [List.getElem_drop]
    simpa using Ne.symm this
  have e3 : decide (xs[i].ref ≠ r) = false := by rw [e0, hr]; simp
  rw [e1, e2, e3]; rfl
@[go_sem] abbrev eY (b : Int) : List C := [.int .u8 b]
@[go_sem] abbrev sY (xs : List Int) : C := .sl none 1 (xs.map eY)
@[go_sem] abbrev aY (xs : List Int) : Arg := .d (false, [sY xs])
/-- The source of a code's bytes. -/
@[go_sem] abbrev bSrc (c : List Int) (a : Int) : Blk := .box [.c (sY c), iT a]
def codeOk (c : List Int) : Prop := c.length ≤ 1048576 ∧ ∀ b ∈ c, 0 ≤ b ∧ b < 256
def nv (c : List Int) (a n : Int) : Int :=
  if n > 200 then (c.getD (a % c.length).toNat default + a / c.length * 37) * 251 + c.getD ((a + 1) % c.length).toNat default * 13 + a
  else c.getD (a % c.length).toNat default + a / c.length * 37
def nx (c : List Int) (a n : Int) : Int := if c.length = 0 then (a * 7) % n else nv c a n % n
theorem byte_get {c : List Int} (hc : codeOk c) (i : Nat) : 0 ≤ c.getD i default ∧ c.getD i default < 256 := by
  rw [List.getD_eq_getElem?_getD]
  rcases h : c[i]? with _ | x
  · exact ⟨by decide, by decide⟩
  · exact hc.2 x (List.mem_of_getElem? h)
theorem nx_in {c : List Int} {a n : Int} (hn : 1 ≤ n) : 0 ≤ nx c a n ∧ nx c a n < n := by
  unfold nx
  split <;> exact ⟨Int.emod_nonneg _ (by omega), Int.emod_lt_of_pos _ (by omega)⟩
theorem tmod_pos {a b : Int} (h : 0 ≤ a) : a.tmod b = a % b := Int.tmod_eq_emod_of_nonneg h
theorem tdiv_pos {a b : Int} (h : 0 ≤ a) : a.tdiv b = a / b := Int.tdiv_eq_ediv_of_nonneg h
section
variable {c : Cx} {i : Nat} {dst : Option Nat} {rest : List Oper} {acc : List (List Nat × List Nat)} {st : St} {f κ : Nat} {P : Program}
theorem vcallG_at {caps args ts : List T} {ats : List Nat} {hc' : List (Nat × Blk)} {rt : T} {b : Blk} (K : Nat) (ks : List Nat) (hst : st.h K = some b) (hP : c.E.fr.P = P) (hs : SatG P f false ts [(1, b)] rt hc') (h : vcallG c i dst rest acc st caps args ts [(1, b)] rt hc' P (rhoOf [(1, K)] κ) ks) :
    vcall c i dst rest acc st f caps args ats κ := vcallG_of [(1, K)] ks hP hs h
end
theorem s_l1Next (c : List Int) (a n : Int) (hc : codeOk c) (h0 : 0 ≤ a) (h1 : a ≤ 1073741824) (h2 : 1 ≤ n) (h3 : n ≤ 60000) : SatG Try.prog 69 false [.ptr 1 0, iT n] [(1, bSrc c a)] (iT (nx c a n)) [(1, bSrc c (a + 1))] := by
  refine satG_walk (fn := Try.f69) rfl rfl rfl (Nat.le_of_ble_eq_true rfl) (by simp) fun fr hP hN hdp hb1 hb2 => ?_
  have hE : (envOf fr Try.prog).Ok := envOf_ok hP
  have hM := follows_of hP
  have hS : ∀ {draw ops}, statB Try.f69.ntmps draw ops = true → statB (envOf fr Try.prog).fr.N draw ops = true := fun h => by rw [envOf_fr, hN]; exact h
  have w1 : IntKind.i64.wrap (a + 1) = a + 1 := i64_in _ (by omega)
  have w2 : IntKind.i64.wrap (a + 1 - 1) = a := by rw [i64_in _ (by omega)]; omega
  have n0 : (n = 0) = False := eq_false (by omega)
  have n1 : decide (n < 1) = false := by simp; omega
  have n6 : decide (60000 < n) = false := by simp; omega
  by_cases hz : c.length = 0
  · have w3 : IntKind.i64.wrap (a * 7) = a * 7 := i64_in _ (by omega)
    have e : nx c a n = (a * 7).tmod n := by unfold nx; rw [if_pos hz, tmod_pos (by omega)]
    rw [e]
    repeat' (first
      | exact True.intro
      | refine ev_seq ?_
      | ((first | refine vgd_go ?_ | refine ev_region hE hM (hS (by decide +kernel)) ?_ | refine ev_if ?_ | refine end_ret hE rfl rfl ?_ | refine end_norm hE rfl rfl ?_ | refine endG_ret [] hE rfl ?_ | refine endG_norm [] hE rfl ?_ | refine vcall_A ?_); simp (maxSteps := 2000000) only [go_sem, hP, ↓reduceIte, Nat.reduceAdd, Nat.reduceMul, Nat.reduceEqDiff, Nat.reduceSub, Nat.reduceLeDiff, reduceCtorEq, w1, w2, w3, hz, n0, n1])
      | refine ev_skip ?_ | refine ev_block ?_ | refine ev_blk ?_ | refine ev_ret ?_ | refine ev_exit ?_ | refine evx_code_ret ?_ | refine evx_blk_ret ?_ | refine evx_lp_ret ?_
      | refine evx_code_exit ?_ | refine evx_lp_exit ?_ | refine evx_blk_hit ?_ | refine evx_blk_pass (by decide) ?_
      | refine And.intro ?_ ?_ | intro _ | decide +kernel | omega)
    all_goals first | (exfalso; omega) | (simp_all; done)
  · have k0 : ((c.length : Int) = 0) = False := eq_false (by omega)
    have k1 : ((c.length : Int) == 0) = false := beq_eq_false_iff_ne.2 (by omega)
    have hk := hc.1
    have e1 := tmod_pos (b := c.length) h0
    have e2 := tdiv_pos (b := c.length) h0
    have e3 := tmod_pos (a := a + 1) (b := c.length) (by omega)
    have m1 := Int.emod_nonneg a (b := c.length) (by omega)
    have m2 := Int.emod_lt_of_pos a (b := c.length) (by omega)
    have m3 := Int.emod_nonneg (a + 1) (b := c.length) (by omega)
    have m4 := Int.emod_lt_of_pos (a + 1) (b := c.length) (by omega)
    have d1 : 0 ≤ a / c.length := Int.ediv_nonneg h0 (by omega)
    have d2 : a / c.length ≤ a := Int.ediv_le_self _ h0
    obtain ⟨b1, b2⟩ := byte_get hc (a % c.length).toNat
    obtain ⟨b3, b4⟩ := byte_get hc ((a + 1) % c.length).toNat
    have ev : nx c a n = (nv c a n).tmod n := by unfold nx; rw [if_neg hz, tmod_pos]; unfold nv; split <;> omega
    rw [ev]
    unfold nv
    generalize hx : c.getD (a % c.length).toNat default = x at *
    generalize hy : c.getD ((a + 1) % c.length).toNat default = y at *
    generalize hq : a / c.length = q at *
    generalize hr : a % c.length = r at *
    generalize hs : (a + 1) % c.length = s at *
    have w3 : IntKind.i64.wrap q = q := i64_in _ (by omega)
    have w4 : IntKind.i64.wrap (q * 37) = q * 37 := i64_in _ (by omega)
    have w5 : IntKind.i64.wrap x = x := i64_in _ (by omega)
    have w6 : IntKind.i64.wrap (x + q * 37) = x + q * 37 := i64_in _ (by omega)
    have w7 : IntKind.i64.wrap ((x + q * 37) * 251) = (x + q * 37) * 251 := i64_in _ (by omega)
    have w8 : IntKind.i64.wrap y = y := i64_in _ (by omega)
    have w9 : IntKind.i64.wrap (y * 13) = y * 13 := i64_in _ (by omega)
    have wa : IntKind.i64.wrap ((x + q * 37) * 251 + y * 13) = (x + q * 37) * 251 + y * 13 := i64_in _ (by omega)
    have wb : IntKind.i64.wrap ((x + q * 37) * 251 + y * 13 + a) = (x + q * 37) * 251 + y * 13 + a := i64_in _ (by omega)
    by_cases h2 : n > 200
    · rw [if_pos h2]
      have n2 : decide (200 < n) = true := by simp; omega
      repeat' (first
        | exact True.intro
        | refine ev_seq ?_
        | ((first | refine vgd_go ?_ | refine ev_region hE hM (hS (by decide +kernel)) ?_ | refine ev_if ?_ | refine end_ret hE rfl rfl ?_ | refine end_norm hE rfl rfl ?_ | refine endG_ret [] hE rfl ?_ | refine endG_norm [] hE rfl ?_ | refine vcall_A ?_); simp (maxSteps := 2000000) only [go_sem, hP, ↓reduceIte, Nat.reduceAdd, Nat.reduceMul, Nat.reduceEqDiff, Nat.reduceSub, Nat.reduceLeDiff, reduceCtorEq, w1, w2, w3, w4, w5, w6, w7, w8, w9, wa, wb, e1, e2, e3, hx, hy, hq, hr, hs, k0, k1, n0, n1, n2, n6])
        | refine ev_skip ?_ | refine ev_block ?_ | refine ev_blk ?_ | refine ev_ret ?_ | refine ev_exit ?_ | refine evx_code_ret ?_ | refine evx_blk_ret ?_ | refine evx_lp_ret ?_
        | refine evx_code_exit ?_ | refine evx_lp_exit ?_ | refine evx_blk_hit ?_ | refine evx_blk_pass (by decide) ?_
        | refine And.intro ?_ ?_ | intro _ | decide +kernel | omega)
      all_goals first | (exfalso; omega) | omega | (simp_all; done)
    · rw [if_neg h2]
      have n2 : decide (200 < n) = false := by simp; omega
      repeat' (first
        | exact True.intro
        | refine ev_seq ?_
        | ((first | refine vgd_go ?_ | refine ev_region hE hM (hS (by decide +kernel)) ?_ | refine ev_if ?_ | refine end_ret hE rfl rfl ?_ | refine end_norm hE rfl rfl ?_ | refine endG_ret [] hE rfl ?_ | refine endG_norm [] hE rfl ?_ | refine vcall_A ?_); simp (maxSteps := 2000000) only [go_sem, hP, ↓reduceIte, Nat.reduceAdd, Nat.reduceMul, Nat.reduceEqDiff, Nat.reduceSub, Nat.reduceLeDiff, reduceCtorEq, w1, w2, w3, w4, w5, w6, e1, e2, hx, hq, hr, k0, k1, n0, n1, n2, n6])
        | refine ev_skip ?_ | refine ev_block ?_ | refine ev_blk ?_ | refine ev_ret ?_ | refine ev_exit ?_ | refine evx_code_ret ?_ | refine evx_blk_ret ?_ | refine evx_lp_ret ?_
        | refine evx_code_exit ?_ | refine evx_lp_exit ?_ | refine evx_blk_hit ?_ | refine evx_blk_pass (by decide) ?_
        | refine And.intro ?_ ?_ | intro _ | decide +kernel | omega)
      all_goals first | (exfalso; omega) | omega | (simp_all; done)
def pk (c : List Int) (a : Int) (xs : List Int) : Int := xs.getD (nx c a xs.length).toNat default
def coord (c : List Int) (a : Int) : Int := pk c (a + 4) [nx c a 20, nx c (a + 1) 20, nx c (a + 2) 20 - 10, nx c (a + 3) 300 * 3 - 400, 1000, -1000]
theorem pk_mem {c : List Int} {a : Int} {xs : List Int} (h : xs ≠ []) : pk c a xs ∈ xs := by
  have hl : 1 ≤ xs.length := List.length_pos_iff.2 h
  obtain ⟨p1, p2⟩ := nx_in (c := c) (a := a) (n := xs.length) (by omega)
  unfold pk
  rw [List.getD_eq_getElem?_getD, List.getElem?_eq_getElem (by omega)]
  exact List.getElem_mem _
theorem coord_in (c : List Int) (a : Int) : -1000 ≤ coord c a ∧ coord c a ≤ 1000 := by
  have h := pk_mem (c := c) (a := a + 4) (xs := [nx c a 20, nx c (a + 1) 20, nx c (a + 2) 20 - 10, nx c (a + 3) 300 * 3 - 400, 1000, -1000]) (by simp)
  have e0 := nx_in (c := c) (a := a) (n := 20) (by omega)
  have e1 := nx_in (c := c) (a := a + 1) (n := 20) (by omega)
  have e2 := nx_in (c := c) (a := a + 2) (n := 20) (by omega)
  have e3 := nx_in (c := c) (a := a + 3) (n := 300) (by omega)
  simp only [List.mem_cons, List.not_mem_nil, or_false] at h
  unfold coord
  rcases h with h | h | h | h | h | h <;> rw [h] <;> omega
def pointV (c : List Int) (a : Int) (d : Nat) : List Int := (List.range d).map fun (i : Nat) => coord c (a + 5 * i)
def rectLo (c : List Int) (a : Int) (d : Nat) : List Int := (List.range d).map fun (i : Nat) => coord c (a + 6 * i)
def rectHi (c : List Int) (a : Int) (d : Nat) : List Int := (List.range d).map fun (i : Nat) => min (coord c (a + 6 * i) + pk c (a + 6 * i + 5) [0, 1, 3, 8, 30]) 1000
def rectV (c : List Int) (a : Int) (d : Nat) : Rect := ⟨rectLo c a d, rectHi c a d⟩
theorem pk5_in (c : List Int) (a : Int) : 0 ≤ pk c a [0, 1, 3, 8, 30] ∧ pk c a [0, 1, 3, 8, 30] ≤ 30 := by
  have h := pk_mem (c := c) (a := a) (xs := [0, 1, 3, 8, 30]) (by simp)
  simp only [List.mem_cons, List.not_mem_nil, or_false] at h
  omega
theorem dims_in (c : List Int) (a : Int) : pk c a [2, 2, 3] = 2 ∨ pk c a [2, 2, 3] = 3 := by
  have h := pk_mem (c := c) (a := a) (xs := [2, 2, 3]) (by simp)
  simp only [List.mem_cons, List.not_mem_nil, or_false] at h
  omega
theorem rectV_hi (c : List Int) (a : Int) (d i : Nat) (h : i < d) : -1000 ≤ (rectHi c a d).getD i default ∧ (rectHi c a d).getD i default ≤ 1000 := by
  unfold rectHi
  rw [getD_lt (by simpa using h)]
  simp only [List.getElem_map, List.getElem_range]
  have h1 := coord_in c (a + 6 * i)
  have h2 := pk5_in c (a + 6 * i + 5)
  omega
def bentV (c : List Int) (a : Int) (d : Nat) : Rect :=
  if nx c (a + 6 * d) 14 = 0 then ⟨(rectLo c a d).set 0 (pk c (a + 6 * d + 1) [(rectHi c a d).getD 0 default + 1, -1001, 1001]), rectHi c a d⟩
  else if nx c (a + 6 * d) 14 = 1 then ⟨rectLo c a d, (rectHi c a d).drop 1⟩
  else if nx c (a + 6 * d) 14 = 2 then ⟨rectLo c a d ++ [0], rectHi c a d⟩
  else if nx c (a + 6 * d) 14 = 3 then ⟨rectLo c a d, (rectHi c a d).set 1 (pk c (a + 6 * d + 1) [1000, 1001, -1000])⟩
  else rectV c a d
def bentA (c : List Int) (a : Int) (d : Nat) : Int := if nx c (a + 6 * d) 14 = 0 ∨ nx c (a + 6 * d) 14 = 3 then a + 6 * d + 2 else a + 6 * d + 1
theorem bentA_in (c : List Int) (a : Int) (d : Nat) : a ≤ bentA c a d ∧ bentA c a d ≤ a + 6 * d + 2 := by unfold bentA; split <;> omega
theorem s_l1Chance (c : List Int) (a n : Int) (hc : codeOk c) (h0 : 0 ≤ a) (h1 : a ≤ 1073741824) (h2 : 1 ≤ n) (h3 : n ≤ 60000) : SatG Try.prog 68 false [.ptr 1 0, iT n] [(1, bSrc c a)] (.c (.bool (nx c a n == 0))) [(1, bSrc c (a + 1))] := by
  refine satG_walk (fn := Try.f68) rfl rfl rfl (Nat.le_of_ble_eq_true rfl) (by simp) fun fr hP hN hdp hb1 hb2 => ?_
  have hE : (envOf fr Try.prog).Ok := envOf_ok hP
  have hM := follows_of hP
  have hS : ∀ {draw ops}, statB Try.f68.ntmps draw ops = true → statB (envOf fr Try.prog).fr.N draw ops = true := fun h => by rw [envOf_fr, hN]; exact h
  repeat' (first
    | exact True.intro
    | refine ev_seq ?_
    | ((first | refine vgd_go ?_ | refine ev_region hE hM (hS (by decide +kernel)) ?_ | refine ev_if ?_ | refine end_ret hE rfl rfl ?_ | refine end_norm hE rfl rfl ?_ | refine endG_ret [] hE rfl ?_ | refine endG_norm [] hE rfl ?_ | refine vcallG_at (args := [.ptr 1 0, iT n]) 1 [] rfl hP (s_l1Next c _ n hc (by omega) (by omega) (by omega) (by omega)) ?_ | refine vcall_A ?_); simp (maxSteps := 2000000) only [go_sem, hP, ↓reduceIte, Nat.reduceAdd, Nat.reduceMul, Nat.reduceEqDiff, Nat.reduceSub, Nat.reduceLeDiff, reduceCtorEq])
    | refine ev_skip ?_ | refine ev_block ?_ | refine ev_blk ?_ | refine ev_ret ?_ | refine ev_exit ?_ | refine evx_code_ret ?_ | refine evx_blk_ret ?_ | refine evx_lp_ret ?_
    | refine evx_code_exit ?_ | refine evx_lp_exit ?_ | refine evx_blk_hit ?_ | refine evx_blk_pass (by decide) ?_
    | refine And.intro ?_ ?_ | intro _ | decide +kernel | omega)
theorem s_l1Pick (c : List Int) (a : Int) (xs : List Int) (hc : codeOk c) (h0 : 0 ≤ a) (h1 : a ≤ 1073741824) (h2 : 1 ≤ xs.length) (h3 : xs.length ≤ 60000) : SatG Try.prog 27 false [.ptr 1 0, .c (.sl none 1 (xs.map eI))] [(1, bSrc c a)] (iT (pk c a xs)) [(1, bSrc c (a + 1))] := by
  refine satG_walk (fn := Try.f27) rfl rfl rfl (Nat.le_of_ble_eq_true rfl) (by simp) fun fr hP hN hdp hb1 hb2 => ?_
  have hE : (envOf fr Try.prog).Ok := envOf_ok hP
  have hM := follows_of hP
  have hS : ∀ {draw ops}, statB Try.f27.ntmps draw ops = true → statB (envOf fr Try.prog).fr.N draw ops = true := fun h => by rw [envOf_fr, hN]; exact h
  obtain ⟨p1, p2⟩ := nx_in (c := c) (a := a) (n := xs.length) (by omega)
  unfold pk
  repeat' (first
    | exact True.intro
    | refine ev_seq ?_
    | ((first | refine vgd_go ?_ | refine ev_region hE hM (hS (by decide +kernel)) ?_ | refine ev_if ?_ | refine end_ret hE rfl rfl ?_ | refine end_norm hE rfl rfl ?_ | refine endG_ret [] hE rfl ?_ | refine endG_norm [] hE rfl ?_ | refine vcallG_at (args := [.ptr 1 0, iT xs.length]) 1 [] rfl hP (s_l1Next c _ xs.length hc (by omega) (by omega) (by omega) (by omega)) ?_ | refine vcall_A ?_); simp (maxSteps := 2000000) only [go_sem, hP, ↓reduceIte, Nat.reduceAdd, Nat.reduceMul, Nat.reduceEqDiff, Nat.reduceSub, Nat.reduceLeDiff, reduceCtorEq, List.length_map])
    | refine ev_skip ?_ | refine ev_block ?_ | refine ev_blk ?_ | refine ev_ret ?_ | refine ev_exit ?_ | refine evx_code_ret ?_ | refine evx_blk_ret ?_ | refine evx_lp_ret ?_
    | refine evx_code_exit ?_ | refine evx_lp_exit ?_ | refine evx_blk_hit ?_ | refine evx_blk_pass (by decide) ?_
    | refine And.intro ?_ ?_ | intro _ | decide +kernel | omega)
theorem s_l1Coord (c : List Int) (a : Int) (hc : codeOk c) (h0 : 0 ≤ a) (h1 : a ≤ 1073741800) : SatG Try.prog 108 false [.ptr 1 0] [(1, bSrc c a)] (iT (coord c a)) [(1, bSrc c (a + 5))] := by
  refine satG_walk (fn := Try.f108) rfl rfl rfl (Nat.le_of_ble_eq_true rfl) (by simp) fun fr hP hN hdp hb1 hb2 => ?_
  have hE : (envOf fr Try.prog).Ok := envOf_ok hP
  have hM := follows_of hP
  have hS : ∀ {draw ops}, statB Try.f108.ntmps draw ops = true → statB (envOf fr Try.prog).fr.N draw ops = true := fun h => by rw [envOf_fr, hN]; exact h
  obtain ⟨p1, p2⟩ := nx_in (c := c) (a := a + 2) (n := 20) (by omega)
  obtain ⟨p3, p4⟩ := nx_in (c := c) (a := a + 3) (n := 300) (by omega)
  have w1 : IntKind.i64.wrap (nx c (a + 2) 20 - 10) = nx c (a + 2) 20 - 10 := i64_in _ (by omega)
  have w2 : IntKind.i64.wrap (nx c (a + 3) 300 * 3) = nx c (a + 3) 300 * 3 := i64_in _ (by omega)
  have w3 : IntKind.i64.wrap (nx c (a + 3) 300 * 3 - 400) = nx c (a + 3) 300 * 3 - 400 := i64_in _ (by omega)
  unfold coord
  repeat' (first
    | exact True.intro
    | refine ev_seq ?_
    | ((first | refine vgd_go ?_ | refine ev_region hE hM (hS (by decide +kernel)) ?_ | refine ev_if ?_ | refine end_ret hE rfl rfl ?_ | refine end_norm hE rfl rfl ?_ | refine endG_ret [] hE rfl ?_ | refine endG_norm [] hE rfl ?_ | refine vcallG_at (args := [.ptr 1 0, iT 20]) 1 [] rfl hP (s_l1Next c _ 20 hc (by omega) (by omega) (by omega) (by omega)) ?_ | refine vcallG_at (args := [.ptr 1 0, iT 300]) 1 [] rfl hP (s_l1Next c _ 300 hc (by omega) (by omega) (by omega) (by omega)) ?_ | refine vcallG_at (args := [.ptr 1 0, .ref 4192]) 1 [4192] rfl hP (s_l1Pick c _ [nx c a 20, nx c (a + 1) 20, nx c (a + 2) 20 - 10, nx c (a + 3) 300 * 3 - 400, 1000, -1000] hc (by omega) (by omega) (by simp) (by simp)) ?_ | refine vcall_A ?_); simp (maxSteps := 2000000) only [go_sem, hP, ↓reduceIte, Nat.reduceAdd, Nat.reduceMul, Nat.reduceEqDiff, Nat.reduceSub, Nat.reduceLeDiff, reduceCtorEq, Int.add_assoc, Int.reduceAdd, w1, w2, w3])
    | refine ev_skip ?_ | refine ev_block ?_ | refine ev_blk ?_ | refine ev_ret ?_ | refine ev_exit ?_ | refine evx_code_ret ?_ | refine evx_blk_ret ?_ | refine evx_lp_ret ?_
    | refine evx_code_exit ?_ | refine evx_lp_exit ?_ | refine evx_blk_hit ?_ | refine evx_blk_pass (by decide) ?_
    | refine And.intro ?_ ?_ | intro _ | decide +kernel | omega)
  all_goals first | rfl | simp
theorem s_l1Dims (c : List Int) (a : Int) (hc : codeOk c) (h0 : 0 ≤ a) (h1 : a ≤ 1073741800) : SatG Try.prog 66 false [.ptr 1 0] [(1, bSrc c a)] (iT (pk c a [2, 2, 3])) [(1, bSrc c (a + 1))] := by
  refine satG_walk (fn := Try.f66) rfl rfl rfl (Nat.le_of_ble_eq_true rfl) (by simp) fun fr hP hN hdp hb1 hb2 => ?_
  have hE : (envOf fr Try.prog).Ok := envOf_ok hP
  have hM := follows_of hP
  have hS : ∀ {draw ops}, statB Try.f66.ntmps draw ops = true → statB (envOf fr Try.prog).fr.N draw ops = true := fun h => by rw [envOf_fr, hN]; exact h
  repeat' (first
    | exact True.intro
    | refine ev_seq ?_
    | ((first | refine vgd_go ?_ | refine ev_region hE hM (hS (by decide +kernel)) ?_ | refine ev_if ?_ | refine end_ret hE rfl rfl ?_ | refine end_norm hE rfl rfl ?_ | refine endG_ret [] hE rfl ?_ | refine endG_norm [] hE rfl ?_ | refine vcallG_at (args := [.ptr 1 0, .ref 4104]) 1 [4104] rfl hP (s_l1Pick c _ [2, 2, 3] hc (by omega) (by omega) (by simp) (by simp)) ?_ | refine vcall_A ?_); simp (maxSteps := 2000000) only [go_sem, hP, ↓reduceIte, Nat.reduceAdd, Nat.reduceMul, Nat.reduceEqDiff, Nat.reduceSub, Nat.reduceLeDiff, reduceCtorEq])
    | refine ev_skip ?_ | refine ev_block ?_ | refine ev_blk ?_ | refine ev_ret ?_ | refine ev_exit ?_ | refine evx_code_ret ?_ | refine evx_blk_ret ?_ | refine evx_lp_ret ?_
    | refine evx_code_exit ?_ | refine evx_lp_exit ?_ | refine evx_blk_hit ?_ | refine evx_blk_pass (by decide) ?_
    | refine And.intro ?_ ?_ | intro _ | decide +kernel | omega)
  all_goals rfl
theorem s_l1Source (c : List Int) : SatG Try.prog 25 false [.c (sY c)] [] (.ptr 1 0) [(1, bSrc c 0)] := by
  refine satG_walk (fn := Try.f25) rfl rfl rfl (Nat.le_of_ble_eq_true rfl) (by simp) fun fr hP hN hdp hb1 hb2 => ?_
  have hE : (envOf fr Try.prog).Ok := envOf_ok hP
  have hM := follows_of hP
  have hS : ∀ {draw ops}, statB Try.f25.ntmps draw ops = true → statB (envOf fr Try.prog).fr.N draw ops = true := fun h => by rw [envOf_fr, hN]; exact h
  repeat' (first
    | exact True.intro
    | refine ev_seq ?_
    | ((first | refine endG_ret [(1, some 4112)] hE rfl ?_ | refine vgd_go ?_ | refine ev_region hE hM (hS (by decide +kernel)) ?_ | refine ev_if ?_ | refine end_ret hE rfl rfl ?_ | refine end_norm hE rfl rfl ?_ | refine endG_ret [] hE rfl ?_ | refine endG_norm [] hE rfl ?_ | refine vcall_A ?_); simp (maxSteps := 2000000) only [go_sem, hP, ↓reduceIte, Nat.reduceAdd, Nat.reduceMul, Nat.reduceEqDiff, Nat.reduceSub, Nat.reduceLeDiff, reduceCtorEq])
    | refine ev_skip ?_ | refine ev_block ?_ | refine ev_blk ?_ | refine ev_ret ?_ | refine ev_exit ?_ | refine evx_code_ret ?_ | refine evx_blk_ret ?_ | refine evx_lp_ret ?_
    | refine evx_code_exit ?_ | refine evx_lp_exit ?_ | refine evx_blk_hit ?_ | refine evx_blk_pass (by decide) ?_
    | refine And.intro ?_ ?_ | intro _ | decide +kernel | omega)
theorem s_l1PointR (c : List Int) (a : Int) (d : Nat) (hc : codeOk c) (h0 : 0 ≤ a) (h1 : a ≤ 1073000000) (hd : d ≤ 100) : SatG Try.prog 93 false [.ptr 1 0, iT d] [(1, bSrc c a)] (.ref 2) [(1, bSrc c (a + 5 * d)), (2, .fro 1 ((pointV c a d).map eI))] := by
  refine satG_walk (fn := Try.f93) rfl rfl rfl (Nat.le_of_ble_eq_true rfl) (by simp) fun fr hP hN hdp hb1 hb2 => ?_
  have hE : (envOf fr Try.prog).Ok := envOf_ok hP
  have hM := follows_of hP
  have hS : ∀ {draw ops}, statB Try.f93.ntmps draw ops = true → statB (envOf fr Try.prog).fr.N draw ops = true := fun h => by rw [envOf_fr, hN]; exact h
  repeat' (first
    | exact True.intro
    | refine ev_seq ?_
    | ((first | refine vgd_go ?_ | refine ev_region hE hM (hS (by decide +kernel)) ?_ | refine ev_if ?_ | refine end_ret hE rfl rfl ?_ | refine end_norm hE rfl rfl ?_ | refine endG_ret [] hE rfl ?_ | refine endG_norm [] hE rfl ?_ | refine vcall_A ?_); simp (maxSteps := 2000000) only [go_sem, hP, ↓reduceIte, Nat.reduceAdd, Nat.reduceMul, Nat.reduceEqDiff, Nat.reduceSub, Nat.reduceLeDiff, reduceCtorEq])
    | refine ev_skip ?_ | refine ev_block ?_ | refine ev_blk ?_ | refine ev_ret ?_ | refine ev_exit ?_ | refine evx_code_ret ?_ | refine evx_blk_ret ?_ | refine evx_lp_ret ?_
    | refine evx_code_exit ?_ | refine evx_lp_exit ?_ | refine evx_blk_hit ?_ | refine evx_blk_pass (by decide) ?_
    | refine And.intro ?_ ?_ | intro _ | decide +kernel | omega)
  refine ev_loop (ι := Nat) (fun k => [(0, .ptr 1 0), (1, iT d), (5, .ref 100000), (6, iT k)]) (fun k => [(1, bSrc c (a + 5 * k)), (100000, .arr true 2 1 ((pointV c a k).map eI))]) (fun _ => [(0, .ref 1)]) (fun k => k ≤ d) (fun k => d - k) 0 [(100000, some 4096)] (by omega) (by simp only [go_sem, hP, ↓reduceIte, Nat.reduceAdd, Nat.reduceMul, Nat.reduceEqDiff, Nat.reduceSub, Nat.reduceLeDiff, reduceCtorEq]; simp [pointV]) ?_
  intro k hk
  have hw1 : k < d → IntKind.i64.wrap ((k : Int) + 1) = k + 1 := fun h => i64_in _ (by omega)
  have hl : (pointV c a k).length = k := by simp [pointV]
  by_cases hlt : k < d
  · repeat' (first
      | exact True.intro
      | refine ev_seq ?_
      | ((first | refine vgd_go ?_ | refine ev_region hE hM (hS (by decide +kernel)) ?_ | refine ev_if ?_ | refine end_ret hE rfl rfl ?_ | refine end_norm hE rfl rfl ?_ | refine endG_ret [] hE rfl ?_ | refine endG_norm [] hE rfl ?_ | refine vcallG_at (args := [.ptr 1 0]) 1 [] rfl hP (s_l1Coord c _ hc (by omega) (by omega)) ?_ | refine vcall_A ?_); simp (maxSteps := 2000000) only [go_sem, hP, ↓reduceIte, Nat.reduceAdd, Nat.reduceMul, Nat.reduceEqDiff, Nat.reduceSub, Nat.reduceLeDiff, reduceCtorEq, Bool.and_self, List.length_map, hl])
      | refine ev_skip ?_ | refine ev_block ?_ | refine ev_blk ?_ | refine ev_ret ?_ | refine ev_exit ?_ | refine evx_code_ret ?_ | refine evx_blk_ret ?_ | refine evx_lp_ret ?_
      | refine evx_code_exit ?_ | refine evx_lp_exit ?_ | refine evx_blk_hit ?_ | refine evx_blk_pass (by decide) ?_
      | refine And.intro ?_ ?_ | intro _ | decide +kernel | omega)
    all_goals first
      | exact ev_lp (k + 1) [(100000, some 20512)] (by omega) (by omega) (by simp only [go_sem, hP, ↓reduceIte, Nat.reduceAdd, Nat.reduceMul, Nat.reduceEqDiff, Nat.reduceSub, Nat.reduceLeDiff, reduceCtorEq]; simp [hw1 hlt, pointV, List.range_succ]; exact ⟨by omega, rfl⟩)
      | (exfalso; omega)
      | omega
      | (simp_all; done)
  · have hke : k = d := by omega
    subst hke
    repeat' (first
      | exact True.intro
      | refine ev_seq ?_
      | ((first | refine endG_ret [(2, some 100000)] hE rfl ?_ | refine vgd_go ?_ | refine ev_region hE hM (hS (by decide +kernel)) ?_ | refine ev_if ?_ | refine end_ret hE rfl rfl ?_ | refine end_norm hE rfl rfl ?_ | refine endG_ret [] hE rfl ?_ | refine endG_norm [] hE rfl ?_ | refine vcall_A ?_); simp (maxSteps := 2000000) only [go_sem, hP, ↓reduceIte, Nat.reduceAdd, Nat.reduceMul, Nat.reduceEqDiff, Nat.reduceSub, Nat.reduceLeDiff, reduceCtorEq])
      | refine ev_skip ?_ | refine ev_block ?_ | refine ev_blk ?_ | refine ev_ret ?_ | refine ev_exit ?_ | refine evx_code_ret ?_ | refine evx_blk_ret ?_ | refine evx_lp_ret ?_
      | refine evx_code_exit ?_ | refine evx_lp_exit ?_ | refine evx_blk_hit ?_ | refine evx_blk_pass (by decide) ?_
      | refine And.intro ?_ ?_ | intro _ | decide +kernel | omega)
    all_goals first
      | (exfalso; omega)
      | (simp_all; done)
theorem s_l1Point (c : List Int) (a : Int) (d : Nat) (hc : codeOk c) (h0 : 0 ≤ a) (h1 : a ≤ 1073000000) (hd : d ≤ 100) : SatG Try.prog 93 false [.ptr 1 0, iT d] [(1, bSrc c a)] (.c (.sl none 1 ((pointV c a d).map eI))) [(1, bSrc c (a + 5 * d))] :=
  satG_data (fz := [(2, .fro 1 ((pointV c a d).map eI))]) (fun κ h => by simp only [lk] at h; split at h <;> simp_all) trivial rfl (s_l1PointR c a d hc h0 h1 hd)
theorem s_l1RectR (c : List Int) (a : Int) (d : Nat) (hc : codeOk c) (h0 : 0 ≤ a) (h1 : a ≤ 1073000000) (hd0 : 0 < d) (hd : d ≤ 100) : SatG Try.prog 71 false [.ptr 1 0, iT d] [(1, bSrc c a)] (.agg [.ref 2, .ref 3]) [(1, bSrc c (a + 6 * d)), (2, .arr true 2 1 ((rectLo c a d).map eI)), (3, .arr true 2 1 ((rectHi c a d).map eI))] := by
  refine satG_walk (fn := Try.f71) rfl rfl rfl (Nat.le_of_ble_eq_true rfl) (by simp) fun fr hP hN hdp hb1 hb2 => ?_
  have hE : (envOf fr Try.prog).Ok := envOf_ok hP
  have hM := follows_of hP
  have hS : ∀ {draw ops}, statB Try.f71.ntmps draw ops = true → statB (envOf fr Try.prog).fr.N draw ops = true := fun h => by rw [envOf_fr, hN]; exact h
  repeat' (first
    | exact True.intro
    | refine ev_seq ?_
    | ((first | refine vgd_go ?_ | refine ev_region hE hM (hS (by decide +kernel)) ?_ | refine ev_if ?_ | refine end_ret hE rfl rfl ?_ | refine end_norm hE rfl rfl ?_ | refine endG_ret [] hE rfl ?_ | refine endG_norm [] hE rfl ?_ | refine vcall_A ?_); simp (maxSteps := 2000000) only [go_sem, hP, ↓reduceIte, Nat.reduceAdd, Nat.reduceMul, Nat.reduceEqDiff, Nat.reduceSub, Nat.reduceLeDiff, reduceCtorEq])
    | refine ev_skip ?_ | refine ev_block ?_ | refine ev_blk ?_ | refine ev_ret ?_ | refine ev_exit ?_ | refine evx_code_ret ?_ | refine evx_blk_ret ?_ | refine evx_lp_ret ?_
    | refine evx_code_exit ?_ | refine evx_lp_exit ?_ | refine evx_blk_hit ?_ | refine evx_blk_pass (by decide) ?_
    | refine And.intro ?_ ?_ | intro _ | decide +kernel | omega)
  refine ev_loop (ι := Nat) (fun k => [(0, .ptr 1 0), (1, iT d), (4, .ptr 0 0), (5, .ptr 4104 0), (6, iT k)]) (fun k => [(1, bSrc c (a + 6 * k)), (0, .box [.nilS, .nilS]), (4104, .box [.ref 100000, .ref 100001]), (100000, .arr true 2 1 ((rectLo c a k).map eI)), (100001, .arr true 2 1 ((rectHi c a k).map eI))]) (fun _ => [(0, .ref 1)]) (fun k => k ≤ d) (fun k => d - k) 0 [(100000, none), (100001, none)] (by omega) (by simp only [go_sem, hP, ↓reduceIte, Nat.reduceAdd, Nat.reduceMul, Nat.reduceEqDiff, Nat.reduceSub, Nat.reduceLeDiff, reduceCtorEq]; simp [rectLo, rectHi]) ?_
  intro k hk
  have hw1 : k < d → IntKind.i64.wrap ((k : Int) + 1) = k + 1 := fun h => i64_in _ (by omega)
  have hl1 : (rectLo c a k).length = k := by simp [rectLo]
  have hl2 : (rectHi c a k).length = k := by simp [rectHi]
  have q1 := coord_in c (a + 6 * k)
  have q2 := pk5_in c (a + 6 * k + 5)
  have hw2 : IntKind.i64.wrap (coord c (a + 6 * k) + pk c (a + 6 * k + 5) [0, 1, 3, 8, 30]) = coord c (a + 6 * k) + pk c (a + 6 * k + 5) [0, 1, 3, 8, 30] := i64_in _ (by omega)
  by_cases hlt : k < d
  · repeat' (first
      | exact True.intro
      | refine ev_seq ?_
      | ((first | refine vgd_go ?_ | refine ev_region hE hM (hS (by decide +kernel)) ?_ | refine ev_if ?_ | refine end_ret hE rfl rfl ?_ | refine end_norm hE rfl rfl ?_ | refine endG_ret [] hE rfl ?_ | refine endG_norm [] hE rfl ?_ | refine vcallG_at (args := [.ptr 1 0]) 1 [] rfl hP (s_l1Coord c _ hc (by omega) (by omega)) ?_ | refine vcallG_at (args := [.ptr 1 0, .ref 24592]) 1 [24592] rfl hP (s_l1Pick c _ [0, 1, 3, 8, 30] hc (by omega) (by omega) (by simp) (by simp)) ?_ | refine vcallB_of hP (s_l1Min _ _) ?_ | refine vcall_A ?_); simp (maxSteps := 2000000) only [go_sem, hP, ↓reduceIte, Nat.reduceAdd, Nat.reduceMul, Nat.reduceEqDiff, Nat.reduceSub, Nat.reduceLeDiff, reduceCtorEq, Bool.and_self, List.length_map, hl1, hl2, hw2])
      | refine ev_skip ?_ | refine ev_block ?_ | refine ev_blk ?_ | refine ev_ret ?_ | refine ev_exit ?_ | refine evx_code_ret ?_ | refine evx_blk_ret ?_ | refine evx_lp_ret ?_
      | refine evx_code_exit ?_ | refine evx_lp_exit ?_ | refine evx_blk_hit ?_ | refine evx_blk_pass (by decide) ?_
      | refine And.intro ?_ ?_ | intro _ | decide +kernel | omega)
    all_goals first
      | exact ev_lp (k + 1) [(100000, some 28704), (100001, some 32800)] (by omega) (by omega) (by simp only [go_sem, hP, ↓reduceIte, Nat.reduceAdd, Nat.reduceMul, Nat.reduceEqDiff, Nat.reduceSub, Nat.reduceLeDiff, reduceCtorEq]; simp [hw1 hlt, rectLo, rectHi, List.range_succ]; exact ⟨by omega, rfl, rfl⟩)
      | (exfalso; omega)
      | rfl
      | omega
      | (simp_all; done)
  · have hke : k = d := by omega
    subst hke
    repeat' (first
      | exact True.intro
      | refine ev_seq ?_
      | ((first | refine endG_ret [(2, some 100000), (3, some 100001)] hE rfl ?_ | refine vgd_go ?_ | refine ev_region hE hM (hS (by decide +kernel)) ?_ | refine ev_if ?_ | refine end_ret hE rfl rfl ?_ | refine end_norm hE rfl rfl ?_ | refine endG_ret [] hE rfl ?_ | refine endG_norm [] hE rfl ?_ | refine vcall_A ?_); simp (maxSteps := 2000000) only [go_sem, hP, ↓reduceIte, Nat.reduceAdd, Nat.reduceMul, Nat.reduceEqDiff, Nat.reduceSub, Nat.reduceLeDiff, reduceCtorEq])
      | refine ev_skip ?_ | refine ev_block ?_ | refine ev_blk ?_ | refine ev_ret ?_ | refine ev_exit ?_ | refine evx_code_ret ?_ | refine evx_blk_ret ?_ | refine evx_lp_ret ?_
      | refine evx_code_exit ?_ | refine evx_lp_exit ?_ | refine evx_blk_hit ?_ | refine evx_blk_pass (by decide) ?_
      | refine And.intro ?_ ?_ | intro _ | decide +kernel | omega)
    all_goals first
      | (exfalso; omega)
      | (simp_all; done)
theorem s_l1Rect (c : List Int) (a : Int) (d : Nat) (hc : codeOk c) (h0 : 0 ≤ a) (h1 : a ≤ 1073000000) (hd0 : 0 < d) (hd : d ≤ 100) : SatG Try.prog 71 false [.ptr 1 0, iT d] [(1, bSrc c a)] (.agg [.c (sI (rectLo c a d)), .c (sI (rectHi c a d))]) [(1, bSrc c (a + 6 * d))] := by
  have h := satG_weak (rt' := .agg [.ref 2, .ref 3]) (hl2 := [(1, bSrc c (a + 6 * d)), (2, .fro 1 ((rectLo c a d).map eI)), (3, .fro 1 ((rectHi c a d).map eI))]) [] (s_l1RectR c a d hc h0 h1 hd0 hd) (by simp only [go_sem, ↓reduceIte, reduceCtorEq]; simp [strip_eI]) (by simp only [go_sem, ↓reduceIte, reduceCtorEq]; simp) (fun κ _ => rfl)
  exact satG_data (fz := [(2, .fro 1 ((rectLo c a d).map eI)), (3, .fro 1 ((rectHi c a d).map eI))]) (fun κ h => by simp only [lk] at h; split at h <;> simp_all) trivial rfl h
theorem s_l1Bent0 (c : List Int) (a : Int) (d : Nat) (hc : codeOk c) (h0 : 0 ≤ a) (h1 : a ≤ 1073000000 - 100000) (hd0 : 2 ≤ d) (hd : d ≤ 100) (hv : nx c (a + 6 * d) 14 = 0) : SatG Try.prog 70 false [.ptr 1 0, iT d] [(1, bSrc c a)] (.agg [.c (sI (bentV c a d).low), .c (sI (bentV c a d).high)]) [(1, bSrc c (bentA c a d))] := by
  have ev : bentV c a d = ⟨(rectLo c a d).set 0 (pk c (a + 6 * d + 1) [(rectHi c a d).getD 0 default + 1, -1001, 1001]), rectHi c a d⟩ := by unfold bentV; simp [hv, rectV]
  have ea : bentA c a d = a + 6 * d + 2 := by unfold bentA; simp [hv]
  rw [ev, ea]
  have h : SatG Try.prog 70 false [.ptr 1 0, iT d] [(1, bSrc c a)] (.agg [.ref 2, .ref 3]) ((1, bSrc c (a + 6 * d + 2)) :: [(2, .fro 1 (((rectLo c a d).set 0 (pk c (a + 6 * d + 1) [(rectHi c a d).getD 0 default + 1, -1001, 1001])).map eI)), (3, .fro 1 ((rectHi c a d).map eI))]) := by
    refine satG_walk (fn := Try.f70) rfl rfl rfl (Nat.le_of_ble_eq_true rfl) (by simp) fun fr hP hN hdp hb1 hb2 => ?_
    have hE : (envOf fr Try.prog).Ok := envOf_ok hP
    have hM := follows_of hP
    have hS : ∀ {draw ops}, statB Try.f70.ntmps draw ops = true → statB (envOf fr Try.prog).fr.N draw ops = true := fun h => by rw [envOf_fr, hN]; exact h
    have q0 := rectV_hi c a d 0 (by omega)
    have q1 := rectV_hi c a d 1 (by omega)
    have hl1 : (rectLo c a d).length = d := by simp [rectLo]
    have hl2 : (rectHi c a d).length = d := by simp [rectHi]
    have hw0 : IntKind.i64.wrap ((rectHi c a d).getD 0 default + 1) = (rectHi c a d).getD 0 default + 1 := i64_in _ (by omega)
    have hp : a + 6 * (d : Int) + 1 + 1 = a + 6 * d + 2 := by omega
    have t0 : Int.toNat 0 = 0 := rfl
    have t1 : Int.toNat 1 = 1 := rfl
    repeat' (first
      | exact True.intro
      | refine ev_seq ?_
      | ((first | refine endG_ret [(2, some 2101264), (3, some 3149840)] hE rfl ?_ | refine vgd_go ?_ | refine ev_region hE hM (hS (by decide +kernel)) ?_ | refine ev_if ?_ | refine end_ret hE rfl rfl ?_ | refine end_norm hE rfl rfl ?_ | refine endG_ret [] hE rfl ?_ | refine endG_norm [] hE rfl ?_ | refine vcallG_at (args := [.ptr 1 0, iT d]) 1 [] rfl hP (s_l1RectR c _ d hc (by omega) (by omega) (by omega) hd) ?_ | refine vcallG_at (args := [.ptr 1 0, iT 14]) 1 [] rfl hP (s_l1Next c _ 14 hc (by omega) (by omega) (by omega) (by omega)) ?_ | refine vcallG_at (args := [.ptr 1 0, .ref 16448]) 1 [16448] rfl hP (s_l1Pick c (a + 6 * d + 1) [(rectHi c a d).getD 0 default + 1, -1001, 1001] hc (by omega) (by omega) (by simp) (by simp)) ?_ | refine vcall_A ?_); simp (maxSteps := 2000000) only [go_sem, hP, ↓reduceIte, Nat.reduceAdd, Nat.reduceMul, Nat.reduceEqDiff, Nat.reduceSub, Nat.reduceLeDiff, reduceCtorEq, hp, List.length_map, List.length_set, hl1, hl2, hw0, t0, t1, Int.reduceBEq, hv])
      | refine ev_skip ?_ | refine ev_block ?_ | refine ev_blk ?_ | refine ev_ret ?_ | refine ev_exit ?_ | refine evx_code_ret ?_ | refine evx_blk_ret ?_ | refine evx_lp_ret ?_
      | refine evx_code_exit ?_ | refine evx_lp_exit ?_ | refine evx_blk_hit ?_ | refine evx_blk_pass (by decide) ?_
      | refine And.intro ?_ ?_ | intro _ | decide +kernel | omega)
    all_goals first
      | (exfalso; omega)
      | rfl
      | omega
      | (simp [List.map_set, List.map_drop, Es.strip_map]; done)
      | (simp [Es.strip_map]; exact ⟨fun _ _ => rfl, rfl⟩)
      | (rw [← strip_eI, List.map_set]; rfl)
      | (rw [List.take_of_length_le (by simp [hl2]), List.map_drop])
      | (rename_i h; exact h.symm)
      | trace_state
  exact satG_data (fz := [(2, .fro 1 (((rectLo c a d).set 0 (pk c (a + 6 * d + 1) [(rectHi c a d).getD 0 default + 1, -1001, 1001])).map eI)), (3, .fro 1 ((rectHi c a d).map eI))]) (fun κ h => by simp only [lk] at h; split at h <;> simp_all) trivial rfl h
theorem s_l1Bent1 (c : List Int) (a : Int) (d : Nat) (hc : codeOk c) (h0 : 0 ≤ a) (h1 : a ≤ 1073000000 - 100000) (hd0 : 2 ≤ d) (hd : d ≤ 100) (hv : nx c (a + 6 * d) 14 = 1) : SatG Try.prog 70 false [.ptr 1 0, iT d] [(1, bSrc c a)] (.agg [.c (sI (bentV c a d).low), .c (sI (bentV c a d).high)]) [(1, bSrc c (bentA c a d))] := by
  have ev : bentV c a d = ⟨rectLo c a d, (rectHi c a d).drop 1⟩ := by unfold bentV; simp [hv, rectV]
  have ea : bentA c a d = a + 6 * d + 1 := by unfold bentA; simp [hv]
  rw [ev, ea]
  have h : SatG Try.prog 70 false [.ptr 1 0, iT d] [(1, bSrc c a)] (.agg [.ref 2, .c (sI ((rectHi c a d).drop 1))]) ((1, bSrc c (a + 6 * d + 1)) :: [(2, .fro 1 ((rectLo c a d).map eI))]) := by
    refine satG_walk (fn := Try.f70) rfl rfl rfl (Nat.le_of_ble_eq_true rfl) (by simp) fun fr hP hN hdp hb1 hb2 => ?_
    have hE : (envOf fr Try.prog).Ok := envOf_ok hP
    have hM := follows_of hP
    have hS : ∀ {draw ops}, statB Try.f70.ntmps draw ops = true → statB (envOf fr Try.prog).fr.N draw ops = true := fun h => by rw [envOf_fr, hN]; exact h
    have q0 := rectV_hi c a d 0 (by omega)
    have q1 := rectV_hi c a d 1 (by omega)
    have hl1 : (rectLo c a d).length = d := by simp [rectLo]
    have hl2 : (rectHi c a d).length = d := by simp [rectHi]
    have hw0 : IntKind.i64.wrap ((rectHi c a d).getD 0 default + 1) = (rectHi c a d).getD 0 default + 1 := i64_in _ (by omega)
    have hp : a + 6 * (d : Int) + 1 + 1 = a + 6 * d + 2 := by omega
    have t0 : Int.toNat 0 = 0 := rfl
    have t1 : Int.toNat 1 = 1 := rfl
    repeat' (first
      | exact True.intro
      | refine ev_seq ?_
      | ((first | refine endG_ret [(2, some 2101264)] hE rfl ?_ | refine vgd_go ?_ | refine ev_region hE hM (hS (by decide +kernel)) ?_ | refine ev_if ?_ | refine end_ret hE rfl rfl ?_ | refine end_norm hE rfl rfl ?_ | refine endG_ret [] hE rfl ?_ | refine endG_norm [] hE rfl ?_ | refine vcallG_at (args := [.ptr 1 0, iT d]) 1 [] rfl hP (s_l1RectR c _ d hc (by omega) (by omega) (by omega) hd) ?_ | refine vcallG_at (args := [.ptr 1 0, iT 14]) 1 [] rfl hP (s_l1Next c _ 14 hc (by omega) (by omega) (by omega) (by omega)) ?_ | refine vcall_A ?_); simp (maxSteps := 2000000) only [go_sem, hP, ↓reduceIte, Nat.reduceAdd, Nat.reduceMul, Nat.reduceEqDiff, Nat.reduceSub, Nat.reduceLeDiff, reduceCtorEq, hp, List.length_map, List.length_set, hl1, hl2, hw0, t0, t1, Int.reduceBEq, hv])
      | refine ev_skip ?_ | refine ev_block ?_ | refine ev_blk ?_ | refine ev_ret ?_ | refine ev_exit ?_ | refine evx_code_ret ?_ | refine evx_blk_ret ?_ | refine evx_lp_ret ?_
      | refine evx_code_exit ?_ | refine evx_lp_exit ?_ | refine evx_blk_hit ?_ | refine evx_blk_pass (by decide) ?_
      | refine And.intro ?_ ?_ | intro _ | decide +kernel | omega)
    all_goals first
      | (exfalso; omega)
      | rfl
      | omega
      | (simp [List.map_set, List.map_drop, Es.strip_map]; done)
      | (simp [Es.strip_map]; exact ⟨fun _ _ => rfl, rfl⟩)
      | (rw [← strip_eI, List.map_set]; rfl)
      | (rw [List.take_of_length_le (by simp [hl2]), List.map_drop])
      | (rename_i h; exact h.symm)
      | trace_state
  exact satG_data (fz := [(2, .fro 1 ((rectLo c a d).map eI))]) (fun κ h => by simp only [lk] at h; split at h <;> simp_all) trivial rfl h
theorem s_l1Bent2 (c : List Int) (a : Int) (d : Nat) (hc : codeOk c) (h0 : 0 ≤ a) (h1 : a ≤ 1073000000 - 100000) (hd0 : 2 ≤ d) (hd : d ≤ 100) (hv : nx c (a + 6 * d) 14 = 2) : SatG Try.prog 70 false [.ptr 1 0, iT d] [(1, bSrc c a)] (.agg [.c (sI (bentV c a d).low), .c (sI (bentV c a d).high)]) [(1, bSrc c (bentA c a d))] := by
  have ev : bentV c a d = ⟨rectLo c a d ++ [0], rectHi c a d⟩ := by unfold bentV; simp [hv, rectV]
  have ea : bentA c a d = a + 6 * d + 1 := by unfold bentA; simp [hv]
  rw [ev, ea]
  have h : SatG Try.prog 70 false [.ptr 1 0, iT d] [(1, bSrc c a)] (.agg [.ref 2, .ref 3]) ((1, bSrc c (a + 6 * d + 1)) :: [(2, .fro 1 ((rectLo c a d ++ [0]).map eI)), (3, .fro 1 ((rectHi c a d).map eI))]) := by
    refine satG_walk (fn := Try.f70) rfl rfl rfl (Nat.le_of_ble_eq_true rfl) (by simp) fun fr hP hN hdp hb1 hb2 => ?_
    have hE : (envOf fr Try.prog).Ok := envOf_ok hP
    have hM := follows_of hP
    have hS : ∀ {draw ops}, statB Try.f70.ntmps draw ops = true → statB (envOf fr Try.prog).fr.N draw ops = true := fun h => by rw [envOf_fr, hN]; exact h
    have q0 := rectV_hi c a d 0 (by omega)
    have q1 := rectV_hi c a d 1 (by omega)
    have hl1 : (rectLo c a d).length = d := by simp [rectLo]
    have hl2 : (rectHi c a d).length = d := by simp [rectHi]
    have hw0 : IntKind.i64.wrap ((rectHi c a d).getD 0 default + 1) = (rectHi c a d).getD 0 default + 1 := i64_in _ (by omega)
    have hp : a + 6 * (d : Int) + 1 + 1 = a + 6 * d + 2 := by omega
    have t0 : Int.toNat 0 = 0 := rfl
    have t1 : Int.toNat 1 = 1 := rfl
    repeat' (first
      | exact True.intro
      | refine ev_seq ?_
      | ((first | refine endG_ret [(2, some 32792), (3, some 3149840)] hE rfl ?_ | refine vgd_go ?_ | refine ev_region hE hM (hS (by decide +kernel)) ?_ | refine ev_if ?_ | refine end_ret hE rfl rfl ?_ | refine end_norm hE rfl rfl ?_ | refine endG_ret [] hE rfl ?_ | refine endG_norm [] hE rfl ?_ | refine vcallG_at (args := [.ptr 1 0, iT d]) 1 [] rfl hP (s_l1RectR c _ d hc (by omega) (by omega) (by omega) hd) ?_ | refine vcallG_at (args := [.ptr 1 0, iT 14]) 1 [] rfl hP (s_l1Next c _ 14 hc (by omega) (by omega) (by omega) (by omega)) ?_ | refine vcall_A ?_); simp (maxSteps := 2000000) only [go_sem, hP, ↓reduceIte, Nat.reduceAdd, Nat.reduceMul, Nat.reduceEqDiff, Nat.reduceSub, Nat.reduceLeDiff, reduceCtorEq, hp, List.length_map, List.length_set, hl1, hl2, hw0, t0, t1, Int.reduceBEq, hv])
      | refine ev_skip ?_ | refine ev_block ?_ | refine ev_blk ?_ | refine ev_ret ?_ | refine ev_exit ?_ | refine evx_code_ret ?_ | refine evx_blk_ret ?_ | refine evx_lp_ret ?_
      | refine evx_code_exit ?_ | refine evx_lp_exit ?_ | refine evx_blk_hit ?_ | refine evx_blk_pass (by decide) ?_
      | refine And.intro ?_ ?_ | intro _ | decide +kernel | omega)
    all_goals first
      | (exfalso; omega)
      | rfl
      | omega
      | (simp [List.map_set, List.map_drop, Es.strip_map]; done)
      | (simp [Es.strip_map]; exact ⟨fun _ _ => rfl, rfl⟩)
      | (rw [← strip_eI, List.map_set]; rfl)
      | (rw [List.take_of_length_le (by simp [hl2]), List.map_drop])
      | (rename_i h; exact h.symm)
      | trace_state
  exact satG_data (fz := [(2, .fro 1 ((rectLo c a d ++ [0]).map eI)), (3, .fro 1 ((rectHi c a d).map eI))]) (fun κ h => by simp only [lk] at h; split at h <;> simp_all) trivial rfl h
theorem s_l1Bent3 (c : List Int) (a : Int) (d : Nat) (hc : codeOk c) (h0 : 0 ≤ a) (h1 : a ≤ 1073000000 - 100000) (hd0 : 2 ≤ d) (hd : d ≤ 100) (hv : nx c (a + 6 * d) 14 = 3) : SatG Try.prog 70 false [.ptr 1 0, iT d] [(1, bSrc c a)] (.agg [.c (sI (bentV c a d).low), .c (sI (bentV c a d).high)]) [(1, bSrc c (bentA c a d))] := by
  have ev : bentV c a d = ⟨rectLo c a d, (rectHi c a d).set 1 (pk c (a + 6 * d + 1) [1000, 1001, -1000])⟩ := by unfold bentV; simp [hv, rectV]
  have ea : bentA c a d = a + 6 * d + 2 := by unfold bentA; simp [hv]
  rw [ev, ea]
  have h : SatG Try.prog 70 false [.ptr 1 0, iT d] [(1, bSrc c a)] (.agg [.ref 2, .ref 3]) ((1, bSrc c (a + 6 * d + 2)) :: [(2, .fro 1 ((rectLo c a d).map eI)), (3, .fro 1 (((rectHi c a d).set 1 (pk c (a + 6 * d + 1) [1000, 1001, -1000])).map eI))]) := by
    refine satG_walk (fn := Try.f70) rfl rfl rfl (Nat.le_of_ble_eq_true rfl) (by simp) fun fr hP hN hdp hb1 hb2 => ?_
    have hE : (envOf fr Try.prog).Ok := envOf_ok hP
    have hM := follows_of hP
    have hS : ∀ {draw ops}, statB Try.f70.ntmps draw ops = true → statB (envOf fr Try.prog).fr.N draw ops = true := fun h => by rw [envOf_fr, hN]; exact h
    have q0 := rectV_hi c a d 0 (by omega)
    have q1 := rectV_hi c a d 1 (by omega)
    have hl1 : (rectLo c a d).length = d := by simp [rectLo]
    have hl2 : (rectHi c a d).length = d := by simp [rectHi]
    have hw0 : IntKind.i64.wrap ((rectHi c a d).getD 0 default + 1) = (rectHi c a d).getD 0 default + 1 := i64_in _ (by omega)
    have hp : a + 6 * (d : Int) + 1 + 1 = a + 6 * d + 2 := by omega
    have t0 : Int.toNat 0 = 0 := rfl
    have t1 : Int.toNat 1 = 1 := rfl
    repeat' (first
      | exact True.intro
      | refine ev_seq ?_
      | ((first | refine endG_ret [(2, some 2101264), (3, some 3149840)] hE rfl ?_ | refine vgd_go ?_ | refine ev_region hE hM (hS (by decide +kernel)) ?_ | refine ev_if ?_ | refine end_ret hE rfl rfl ?_ | refine end_norm hE rfl rfl ?_ | refine endG_ret [] hE rfl ?_ | refine endG_norm [] hE rfl ?_ | refine vcallG_at (args := [.ptr 1 0, iT d]) 1 [] rfl hP (s_l1RectR c _ d hc (by omega) (by omega) (by omega) hd) ?_ | refine vcallG_at (args := [.ptr 1 0, iT 14]) 1 [] rfl hP (s_l1Next c _ 14 hc (by omega) (by omega) (by omega) (by omega)) ?_ | refine vcallG_at (args := [.ptr 1 0, .ref 40984]) 1 [40984] rfl hP (s_l1Pick c (a + 6 * d + 1) [1000, 1001, -1000] hc (by omega) (by omega) (by simp) (by simp)) ?_ | refine vcall_A ?_); simp (maxSteps := 2000000) only [go_sem, hP, ↓reduceIte, Nat.reduceAdd, Nat.reduceMul, Nat.reduceEqDiff, Nat.reduceSub, Nat.reduceLeDiff, reduceCtorEq, hp, List.length_map, List.length_set, hl1, hl2, hw0, t0, t1, Int.reduceBEq, hv])
      | refine ev_skip ?_ | refine ev_block ?_ | refine ev_blk ?_ | refine ev_ret ?_ | refine ev_exit ?_ | refine evx_code_ret ?_ | refine evx_blk_ret ?_ | refine evx_lp_ret ?_
      | refine evx_code_exit ?_ | refine evx_lp_exit ?_ | refine evx_blk_hit ?_ | refine evx_blk_pass (by decide) ?_
      | refine And.intro ?_ ?_ | intro _ | decide +kernel | omega)
    all_goals first
      | (exfalso; omega)
      | rfl
      | omega
      | (simp [List.map_set, List.map_drop, Es.strip_map]; done)
      | (simp [Es.strip_map]; exact ⟨fun _ _ => rfl, rfl⟩)
      | (rw [← strip_eI, List.map_set]; rfl)
      | (rw [List.take_of_length_le (by simp [hl2]), List.map_drop])
      | (rename_i h; exact h.symm)
      | trace_state
  exact satG_data (fz := [(2, .fro 1 ((rectLo c a d).map eI)), (3, .fro 1 (((rectHi c a d).set 1 (pk c (a + 6 * d + 1) [1000, 1001, -1000])).map eI))]) (fun κ h => by simp only [lk] at h; split at h <;> simp_all) trivial rfl h
theorem s_l1Bent4 (c : List Int) (a : Int) (d : Nat) (hc : codeOk c) (h0 : 0 ≤ a) (h1 : a ≤ 1073000000 - 100000) (hd0 : 2 ≤ d) (hd : d ≤ 100) (g0 : nx c (a + 6 * d) 14 ≠ 0) (g1 : nx c (a + 6 * d) 14 ≠ 1) (g2 : nx c (a + 6 * d) 14 ≠ 2) (g3 : nx c (a + 6 * d) 14 ≠ 3) : SatG Try.prog 70 false [.ptr 1 0, iT d] [(1, bSrc c a)] (.agg [.c (sI (bentV c a d).low), .c (sI (bentV c a d).high)]) [(1, bSrc c (bentA c a d))] := by
  have ev : bentV c a d = ⟨rectLo c a d, rectHi c a d⟩ := by unfold bentV; simp [g0, g1, g2, g3, rectV]
  have ea : bentA c a d = a + 6 * d + 1 := by unfold bentA; simp [g0, g3]
  rw [ev, ea]
  have h : SatG Try.prog 70 false [.ptr 1 0, iT d] [(1, bSrc c a)] (.agg [.ref 2, .ref 3]) ((1, bSrc c (a + 6 * d + 1)) :: [(2, .fro 1 ((rectLo c a d).map eI)), (3, .fro 1 ((rectHi c a d).map eI))]) := by
    refine satG_walk (fn := Try.f70) rfl rfl rfl (Nat.le_of_ble_eq_true rfl) (by simp) fun fr hP hN hdp hb1 hb2 => ?_
    have hE : (envOf fr Try.prog).Ok := envOf_ok hP
    have hM := follows_of hP
    have hS : ∀ {draw ops}, statB Try.f70.ntmps draw ops = true → statB (envOf fr Try.prog).fr.N draw ops = true := fun h => by rw [envOf_fr, hN]; exact h
    have q0 := rectV_hi c a d 0 (by omega)
    have q1 := rectV_hi c a d 1 (by omega)
    have hl1 : (rectLo c a d).length = d := by simp [rectLo]
    have hl2 : (rectHi c a d).length = d := by simp [rectHi]
    have hw0 : IntKind.i64.wrap ((rectHi c a d).getD 0 default + 1) = (rectHi c a d).getD 0 default + 1 := i64_in _ (by omega)
    have hp : a + 6 * (d : Int) + 1 + 1 = a + 6 * d + 2 := by omega
    have t0 : Int.toNat 0 = 0 := rfl
    have t1 : Int.toNat 1 = 1 := rfl
    have b0 : (nx c (a + 6 * d) 14 == 0) = false := beq_eq_false_iff_ne.2 g0
    have b1 : (nx c (a + 6 * d) 14 == 1) = false := beq_eq_false_iff_ne.2 g1
    have b2 : (nx c (a + 6 * d) 14 == 2) = false := beq_eq_false_iff_ne.2 g2
    have b3 : (nx c (a + 6 * d) 14 == 3) = false := beq_eq_false_iff_ne.2 g3
    repeat' (first
      | exact True.intro
      | refine ev_seq ?_
      | ((first | refine endG_ret [(2, some 2101264), (3, some 3149840)] hE rfl ?_ | refine vgd_go ?_ | refine ev_region hE hM (hS (by decide +kernel)) ?_ | refine ev_if ?_ | refine end_ret hE rfl rfl ?_ | refine end_norm hE rfl rfl ?_ | refine endG_ret [] hE rfl ?_ | refine endG_norm [] hE rfl ?_ | refine vcallG_at (args := [.ptr 1 0, iT d]) 1 [] rfl hP (s_l1RectR c _ d hc (by omega) (by omega) (by omega) hd) ?_ | refine vcallG_at (args := [.ptr 1 0, iT 14]) 1 [] rfl hP (s_l1Next c _ 14 hc (by omega) (by omega) (by omega) (by omega)) ?_ | refine vcall_A ?_); simp (maxSteps := 2000000) only [go_sem, hP, ↓reduceIte, Nat.reduceAdd, Nat.reduceMul, Nat.reduceEqDiff, Nat.reduceSub, Nat.reduceLeDiff, reduceCtorEq, hp, List.length_map, List.length_set, hl1, hl2, hw0, t0, t1, Int.reduceBEq, b0, b1, b2, b3])
      | refine ev_skip ?_ | refine ev_block ?_ | refine ev_blk ?_ | refine ev_ret ?_ | refine ev_exit ?_ | refine evx_code_ret ?_ | refine evx_blk_ret ?_ | refine evx_lp_ret ?_
      | refine evx_code_exit ?_ | refine evx_lp_exit ?_ | refine evx_blk_hit ?_ | refine evx_blk_pass (by decide) ?_
      | refine And.intro ?_ ?_ | intro _ | decide +kernel | omega)
    all_goals first
      | (exfalso; omega)
      | rfl
      | omega
      | (simp [List.map_set, List.map_drop, Es.strip_map]; done)
      | (simp [Es.strip_map]; exact ⟨fun _ _ => rfl, rfl⟩)
      | (rw [← strip_eI, List.map_set]; rfl)
      | (rw [List.take_of_length_le (by simp [hl2]), List.map_drop])
      | (rename_i h; exact h.symm)
      | trace_state
  exact satG_data (fz := [(2, .fro 1 ((rectLo c a d).map eI)), (3, .fro 1 ((rectHi c a d).map eI))]) (fun κ h => by simp only [lk] at h; split at h <;> simp_all) trivial rfl h
theorem s_l1Bent (c : List Int) (a : Int) (d : Nat) (hc : codeOk c) (h0 : 0 ≤ a) (h1 : a ≤ 1073000000 - 100000) (hd0 : 2 ≤ d) (hd : d ≤ 100) : SatG Try.prog 70 false [.ptr 1 0, iT d] [(1, bSrc c a)] (.agg [.c (sI (bentV c a d).low), .c (sI (bentV c a d).high)]) [(1, bSrc c (bentA c a d))] := by
  by_cases g0 : nx c (a + 6 * d) 14 = 0
  · exact s_l1Bent0 c a d hc h0 h1 hd0 hd g0
  · by_cases g1 : nx c (a + 6 * d) 14 = 1
    · exact s_l1Bent1 c a d hc h0 h1 hd0 hd g1
    · by_cases g2 : nx c (a + 6 * d) 14 = 2
      · exact s_l1Bent2 c a d hc h0 h1 hd0 hd g2
      · by_cases g3 : nx c (a + 6 * d) 14 = 3
        · exact s_l1Bent3 c a d hc h0 h1 hd0 hd g3
        · exact s_l1Bent4 c a d hc h0 h1 hd0 hd g0 g1 g2 g3
def d0 (c : List Int) : Nat := (pk c 0 [2, 2, 3]).toNat
theorem d0_in (c : List Int) : d0 c = 2 ∨ d0 c = 3 := by
  have := dims_in c 0
  unfold d0; omega
theorem d0_eq (c : List Int) : pk c 0 [2, 2, 3] = (d0 c : Int) := by
  have := dims_in c 0
  unfold d0; omega
def unA (c : List Int) : Rect := bentV c 1 (d0 c)
def unP (c : List Int) : Int := bentA c 1 (d0 c)
theorem unP_in (c : List Int) : 0 ≤ unP c ∧ unP c ≤ 100 := by
  have h1 := bentA_in c 1 (d0 c)
  have h2 := d0_in c
  unfold unP; omega
def unQ (c : List Int) : List Int := [(d0 c : Int), d0 c, d0 c, d0 c, d0 c, 2]
def d1 (c : List Int) : Nat := (pk c (unP c + 1) (unQ c)).toNat
theorem d1_mem (c : List Int) : pk c (unP c + 1) (unQ c) = d0 c ∨ pk c (unP c + 1) (unQ c) = 2 := by
  have h := pk_mem (c := c) (a := unP c + 1) (xs := unQ c) (by simp [unQ])
  simp only [unQ, List.mem_cons, List.not_mem_nil, or_false] at h
  rcases h with h | h | h | h | h | h <;> simp [unQ, h]
theorem d1_in (c : List Int) : d1 c = 2 ∨ d1 c = 3 := by
  have := d1_mem c
  have := d0_in c
  unfold d1; omega
theorem d1_eq (c : List Int) : pk c (unP c + 1) (unQ c) = (d1 c : Int) := by
  have := d1_mem c
  have := d0_in c
  unfold d1; omega
def unB (c : List Int) : Rect :=
  if nx c (unP c) 4 = 0 ∧ rf (unA c) (d0 c) = 0 then ⟨(unA c).low, (unA c).high.set 0 (min ((unA c).high.getD 0 default + pk c (unP c + 1) [0, 1, 5]) 1000)⟩
  else bentV c (unP c + 2) (d1 c)
def dsN (c : List Int) : List Int := [((unA c).low.length : Int), (unA c).low.length, (unA c).low.length, 2]
def d2 (c : List Int) : Nat := (pk c 12 (dsN c)).toNat
theorem unA_low (c : List Int) : (unA c).low.length = d0 c ∨ (unA c).low.length = d0 c + 1 := by
  unfold unA bentV rectV
  (repeat' split) <;> simp [rectLo]
theorem d2_mem (c : List Int) : pk c 12 (dsN c) = (unA c).low.length ∨ pk c 12 (dsN c) = 2 := by
  have h := pk_mem (c := c) (a := 12) (xs := dsN c) (by simp [dsN])
  simp only [dsN, List.mem_cons, List.not_mem_nil, or_false] at h
  rcases h with h | h | h | h <;> simp [dsN, h]
theorem d2_eq (c : List Int) : pk c 12 (dsN c) = (d2 c : Int) := by
  have := d2_mem c
  unfold d2; omega
theorem d2_in (c : List Int) : 2 ≤ d2 c ∧ d2 c ≤ 4 := by
  have h1 := d2_mem c
  have h2 := unA_low c
  have h3 := d0_in c
  unfold d2; omega
def dsP (c : List Int) : List Int := pointV c 13 (d2 c)
theorem wf_u8 {n : Int} (h : (Lit.int .u8 n).wf = true) : 0 ≤ n ∧ n < 256 := by
  simp [Lit.wf, IntKind.has, IntKind.min, IntKind.max, IntKind.signed, IntKind.bits] at h
  omega
theorem shp_Y {n t : Nat} {cs : List C} (ht : Try.prog.underlying t = some (.slice 5)) (h : shp Try.prog (n + 2) t cs) : ∃ xs : List Int, cs = [sY xs] ∧ ∀ b ∈ xs, 0 ≤ b ∧ b < 256 := by
  obtain ⟨xs, rfl, _, h2⟩ := shp_rows (f := eY) (q := fun b => 0 ≤ b ∧ b < 256) (sz := 1) ht rfl (fun x hx => by
    simp only [shp] at hx
    obtain ⟨m, hm, hw⟩ := hx
    exact ⟨m, hm, wf_u8 hw⟩) h
  exact ⟨xs, rfl, h2⟩
theorem s_lwBig (c : List Int) : Sat Try.prog 5 [aY c] true (rB (decide (1048576 < c.length))) := by
  refine sat_walk (fn := Try.f5) rfl rfl rfl (Nat.le_of_ble_eq_true rfl) fun fr hP hN hbnd => ?_
  have hE : (envOf fr Try.prog).Ok := envOf_ok hP
  have hM := follows_of hP
  have hS : ∀ {draw ops}, statB Try.f5.ntmps draw ops = true → statB (envOf fr Try.prog).fr.N draw ops = true := fun h => by rw [envOf_fr, hN]; exact h
  have e : decide ((1048576 : Int) < (c.length : Int)) = decide (1048576 < c.length) := by simp; omega
  repeat' (first
    | exact True.intro
    | refine ev_seq ?_
    | ((first | refine vgd_go ?_ | refine ev_region hE hM (hS (by decide +kernel)) ?_ | refine ev_if ?_ | refine end_ret hE rfl rfl ?_ | refine end_norm hE rfl rfl ?_ | refine endG_ret [] hE rfl ?_ | refine endG_norm [] hE rfl ?_ | refine vcall_A ?_); simp (maxSteps := 2000000) only [go_sem, hP, ↓reduceIte, Nat.reduceAdd, Nat.reduceMul, Nat.reduceEqDiff, Nat.reduceSub, Nat.reduceLeDiff, reduceCtorEq, List.length_map, e])
    | refine ev_skip ?_ | refine ev_block ?_ | refine ev_blk ?_ | refine ev_ret ?_ | refine ev_exit ?_ | refine evx_code_ret ?_ | refine evx_blk_ret ?_ | refine evx_lp_ret ?_
    | refine evx_code_exit ?_ | refine evx_lp_exit ?_ | refine evx_blk_hit ?_ | refine evx_blk_pass (by decide) ?_
    | refine And.intro ?_ ?_ | intro _ | decide +kernel | omega)
/-- How many numbers an entry takes. -/
def lw (d : Nat) (leaf : Bool) : Int := if leaf then 6 * d + 1 else 6 * d + 2
def entV (c : List Int) (p : Int) (d : Nat) (leaf : Bool) : Entry := ⟨rectV c p d, nx c (p + 6 * d) 30, if leaf then 0 else nx c (p + 6 * d + 1) 9⟩
def listV (c : List Int) (a : Int) (d : Nat) (leaf : Bool) : Nat → List Entry
  | 0 => []
  | k + 1 => if findRef (listV c a d leaf k) (entV c (a + lw d leaf * k) d leaf).ref < 0 then listV c a d leaf k ++ [entV c (a + lw d leaf * k) d leaf] else listV c a d leaf k
theorem listV_len (c : List Int) (a : Int) (d : Nat) (leaf : Bool) : ∀ k, (listV c a d leaf k).length ≤ k
  | 0 => Nat.le_refl 0
  | k + 1 => by
    have := listV_len c a d leaf k
    simp only [listV]
    split
    · simp; omega
    · omega
theorem s_l3ListT (c : List Int) (a : Int) (d n : Nat) (hc : codeOk c) (h0 : 0 ≤ a) (h1 : a ≤ 1072000000) (hd0 : 0 < d) (hd : d ≤ 100) (hn : n ≤ 100) : SatG Try.prog 67 false [.ptr 1 0, iT d, iT n, .c (.bool true)] [(1, bSrc c a)] (.ref 2) [(1, bSrc c (a + (6 * d + 1) * n)), (2, .arr true 41 4 ((listV c a d true n).map oEntry))] := by
  refine satG_walk (fn := Try.f67) rfl rfl rfl (Nat.le_of_ble_eq_true rfl) (by simp) fun fr hP hN hdp hb1 hb2 => ?_
  have hE : (envOf fr Try.prog).Ok := envOf_ok hP
  have hM := follows_of hP
  have hS : ∀ {draw ops}, statB Try.f67.ntmps draw ops = true → statB (envOf fr Try.prog).fr.N draw ops = true := fun h => by rw [envOf_fr, hN]; exact h
  repeat' (first
    | exact True.intro
    | refine ev_seq ?_
    | ((first | refine vgd_go ?_ | refine ev_region hE hM (hS (by decide +kernel)) ?_ | refine ev_if ?_ | refine end_ret hE rfl rfl ?_ | refine end_norm hE rfl rfl ?_ | refine endG_ret [] hE rfl ?_ | refine endG_norm [] hE rfl ?_ | refine vcall_A ?_); simp (maxSteps := 2000000) only [go_sem, hP, ↓reduceIte, Nat.reduceAdd, Nat.reduceMul, Nat.reduceEqDiff, Nat.reduceSub, Nat.reduceLeDiff, reduceCtorEq])
    | refine ev_skip ?_ | refine ev_block ?_ | refine ev_blk ?_ | refine ev_ret ?_ | refine ev_exit ?_ | refine evx_code_ret ?_ | refine evx_blk_ret ?_ | refine evx_lp_ret ?_
    | refine evx_code_exit ?_ | refine evx_lp_exit ?_ | refine evx_blk_hit ?_ | refine evx_blk_pass (by decide) ?_
    | refine And.intro ?_ ?_ | intro _ | decide +kernel | omega)
  refine ev_loop (ι := Nat) (fun k => [(0, .ptr 1 0), (1, iT d), (2, iT ((n - k : Nat) : Int)), (3, .c (.bool true)), (9, .ref 100000)]) (fun k => [(1, bSrc c (a + (6 * d + 1) * k)), (100000, .arr true 41 4 ((listV c a d true k).map oEntry))]) (fun _ => [(0, .ref 1)]) (fun k => k ≤ n) (fun k => n - k) 0 [(100000, some 4096)] (by omega) (by simp only [go_sem, hP, ↓reduceIte, Nat.reduceAdd, Nat.reduceMul, Nat.reduceEqDiff, Nat.reduceSub, Nat.reduceLeDiff, reduceCtorEq]; simp [listV]) ?_
  intro k hk
  have hl := listV_len c a d true k
  have hp : (6 * (d : Int) + 1) * k ≤ 601 * 100 := Int.mul_le_mul (by omega) (by omega) (by omega) (by omega)
  have hp0 : 0 ≤ (6 * (d : Int) + 1) * k := Int.mul_nonneg (by omega) (by omega)
  have hnx : a + (6 * (d : Int) + 1) * k + 6 * d + 1 = a + (6 * d + 1) * (k + 1) := by rw [Int.mul_add]; omega
  have hlw : lw d true = 6 * d + 1 := rfl
  by_cases hlt : k < n
  · have hw1 : IntKind.i64.wrap (((n - k : Nat) : Int) - 1) = ((n - (k + 1) : Nat) : Int) := by rw [i64_in _ (by omega)]; omega
    have hg : decide ((0 : Int) < ((n - k : Nat) : Int)) = true := by simp; omega
    generalize hpp : a + (6 * (d : Int) + 1) * k = p at *
    have he : entV c (a + lw d true * k) d true = ⟨rectV c p d, nx c (p + 6 * d) 30, 0⟩ := by rw [hlw, hpp]; rfl
    by_cases hf : findRef (listV c a d true k) (nx c (p + 6 * d) 30) < 0
    · have hf' : decide (findRef (listV c a d true k) (nx c (p + 6 * d) 30) < 0) = true := by simpa using hf
      have hst : listV c a d true (k + 1) = listV c a d true k ++ [⟨rectV c p d, nx c (p + 6 * d) 30, 0⟩] := by simp only [listV]; rw [he, if_pos hf]
      generalize listV c a d true k = ys at *
      repeat' (first
        | exact True.intro
        | refine ev_seq ?_
        | ((first | refine vgd_go ?_ | refine ev_region hE hM (hS (by decide +kernel)) ?_ | refine ev_if ?_ | refine end_ret hE rfl rfl ?_ | refine end_norm hE rfl rfl ?_ | refine endG_ret [] hE rfl ?_ | refine endG_norm [] hE rfl ?_ | refine vcallG_at (args := [.ptr 1 0, iT d]) 1 [] rfl hP (s_l1RectR c p d hc (by omega) (by omega) hd0 hd) ?_ | refine vcallG_at (args := [.ptr 1 0, iT 30]) 1 [] rfl hP (s_l1Next c _ 30 hc (by omega) (by omega) (by omega) (by omega)) ?_ | refine vcallB_of hP (s_l3Find ys (nx c (p + 6 * d) 30)) ?_ | refine vcall_A ?_); simp (maxSteps := 2000000) only [go_sem, hP, ↓reduceIte, Nat.reduceAdd, Nat.reduceMul, Nat.reduceEqDiff, Nat.reduceSub, Nat.reduceLeDiff, reduceCtorEq, hg, hf', Bool.and_self, List.length_map])
        | refine ev_skip ?_ | refine ev_block ?_ | refine ev_blk ?_ | refine ev_ret ?_ | refine ev_exit ?_ | refine evx_code_ret ?_ | refine evx_blk_ret ?_ | refine evx_lp_ret ?_
        | refine evx_code_exit ?_ | refine evx_lp_exit ?_ | refine evx_blk_hit ?_ | refine evx_blk_pass (by decide) ?_
        | refine And.intro ?_ ?_ | intro _ | decide +kernel | omega)
      all_goals first
        | exact ev_lp (k + 1) [(100000, some 32792)] (by omega) (by omega) (by simp only [go_sem, hP, ↓reduceIte, Nat.reduceAdd, Nat.reduceMul, Nat.reduceEqDiff, Nat.reduceSub, Nat.reduceLeDiff, reduceCtorEq]; rw [hst]; simp [hw1, hnx, oEntry_eq, rectV])
        | (exfalso; omega)
        | omega
        | (simp_all; done)
    · have hf' : decide (findRef (listV c a d true k) (nx c (p + 6 * d) 30) < 0) = false := by simpa using hf
      have hst : listV c a d true (k + 1) = listV c a d true k := by simp only [listV]; rw [he, if_neg hf]
      generalize listV c a d true k = ys at *
      repeat' (first
        | exact True.intro
        | refine ev_seq ?_
        | ((first | refine vgd_go ?_ | refine ev_region hE hM (hS (by decide +kernel)) ?_ | refine ev_if ?_ | refine end_ret hE rfl rfl ?_ | refine end_norm hE rfl rfl ?_ | refine endG_ret [] hE rfl ?_ | refine endG_norm [] hE rfl ?_ | refine vcallG_at (args := [.ptr 1 0, iT d]) 1 [] rfl hP (s_l1RectR c p d hc (by omega) (by omega) hd0 hd) ?_ | refine vcallG_at (args := [.ptr 1 0, iT 30]) 1 [] rfl hP (s_l1Next c _ 30 hc (by omega) (by omega) (by omega) (by omega)) ?_ | refine vcallB_of hP (s_l3Find ys (nx c (p + 6 * d) 30)) ?_ | refine vcall_A ?_); simp (maxSteps := 2000000) only [go_sem, hP, ↓reduceIte, Nat.reduceAdd, Nat.reduceMul, Nat.reduceEqDiff, Nat.reduceSub, Nat.reduceLeDiff, reduceCtorEq, hg, hf', Bool.and_self, List.length_map])
        | refine ev_skip ?_ | refine ev_block ?_ | refine ev_blk ?_ | refine ev_ret ?_ | refine ev_exit ?_ | refine evx_code_ret ?_ | refine evx_blk_ret ?_ | refine evx_lp_ret ?_
        | refine evx_code_exit ?_ | refine evx_lp_exit ?_ | refine evx_blk_hit ?_ | refine evx_blk_pass (by decide) ?_
        | refine And.intro ?_ ?_ | intro _ | decide +kernel | omega)
      all_goals first
        | exact ev_lp (k + 1) [(100000, some 100000)] (by omega) (by omega) (by simp only [go_sem, hP, ↓reduceIte, Nat.reduceAdd, Nat.reduceMul, Nat.reduceEqDiff, Nat.reduceSub, Nat.reduceLeDiff, reduceCtorEq]; rw [hst]; simp [hw1, hnx])
        | (exfalso; omega)
        | omega
        | (simp_all; done)
  · have hke : k = n := by omega
    subst hke
    have hg : decide ((0 : Int) < ((k - k : Nat) : Int)) = false := by simp
    repeat' (first
      | exact True.intro
      | refine ev_seq ?_
      | ((first | refine endG_ret [(2, some 100000)] hE rfl ?_ | refine vgd_go ?_ | refine ev_region hE hM (hS (by decide +kernel)) ?_ | refine ev_if ?_ | refine end_ret hE rfl rfl ?_ | refine end_norm hE rfl rfl ?_ | refine endG_ret [] hE rfl ?_ | refine endG_norm [] hE rfl ?_ | refine vcall_A ?_); simp (maxSteps := 2000000) only [go_sem, hP, ↓reduceIte, Nat.reduceAdd, Nat.reduceMul, Nat.reduceEqDiff, Nat.reduceSub, Nat.reduceLeDiff, reduceCtorEq, hg])
      | refine ev_skip ?_ | refine ev_block ?_ | refine ev_blk ?_ | refine ev_ret ?_ | refine ev_exit ?_ | refine evx_code_ret ?_ | refine evx_blk_ret ?_ | refine evx_lp_ret ?_
      | refine evx_code_exit ?_ | refine evx_lp_exit ?_ | refine evx_blk_hit ?_ | refine evx_blk_pass (by decide) ?_
      | refine And.intro ?_ ?_ | intro _ | decide +kernel | omega)
    all_goals first
      | (exfalso; omega)
      | (simp_all; done)
theorem s_l3ListF (c : List Int) (a : Int) (d n : Nat) (hc : codeOk c) (h0 : 0 ≤ a) (h1 : a ≤ 1072000000) (hd0 : 0 < d) (hd : d ≤ 100) (hn : n ≤ 100) : SatG Try.prog 67 false [.ptr 1 0, iT d, iT n, .c (.bool false)] [(1, bSrc c a)] (.ref 2) [(1, bSrc c (a + (6 * d + 2) * n)), (2, .arr true 41 4 ((listV c a d false n).map oEntry))] := by
  refine satG_walk (fn := Try.f67) rfl rfl rfl (Nat.le_of_ble_eq_true rfl) (by simp) fun fr hP hN hdp hb1 hb2 => ?_
  have hE : (envOf fr Try.prog).Ok := envOf_ok hP
  have hM := follows_of hP
  have hS : ∀ {draw ops}, statB Try.f67.ntmps draw ops = true → statB (envOf fr Try.prog).fr.N draw ops = true := fun h => by rw [envOf_fr, hN]; exact h
  repeat' (first
    | exact True.intro
    | refine ev_seq ?_
    | ((first | refine vgd_go ?_ | refine ev_region hE hM (hS (by decide +kernel)) ?_ | refine ev_if ?_ | refine end_ret hE rfl rfl ?_ | refine end_norm hE rfl rfl ?_ | refine endG_ret [] hE rfl ?_ | refine endG_norm [] hE rfl ?_ | refine vcall_A ?_); simp (maxSteps := 2000000) only [go_sem, hP, ↓reduceIte, Nat.reduceAdd, Nat.reduceMul, Nat.reduceEqDiff, Nat.reduceSub, Nat.reduceLeDiff, reduceCtorEq])
    | refine ev_skip ?_ | refine ev_block ?_ | refine ev_blk ?_ | refine ev_ret ?_ | refine ev_exit ?_ | refine evx_code_ret ?_ | refine evx_blk_ret ?_ | refine evx_lp_ret ?_
    | refine evx_code_exit ?_ | refine evx_lp_exit ?_ | refine evx_blk_hit ?_ | refine evx_blk_pass (by decide) ?_
    | refine And.intro ?_ ?_ | intro _ | decide +kernel | omega)
  refine ev_loop (ι := Nat) (fun k => [(0, .ptr 1 0), (1, iT d), (2, iT ((n - k : Nat) : Int)), (3, .c (.bool false)), (9, .ref 100000)]) (fun k => [(1, bSrc c (a + (6 * d + 2) * k)), (100000, .arr true 41 4 ((listV c a d false k).map oEntry))]) (fun _ => [(0, .ref 1)]) (fun k => k ≤ n) (fun k => n - k) 0 [(100000, some 4096)] (by omega) (by simp only [go_sem, hP, ↓reduceIte, Nat.reduceAdd, Nat.reduceMul, Nat.reduceEqDiff, Nat.reduceSub, Nat.reduceLeDiff, reduceCtorEq]; simp [listV]) ?_
  intro k hk
  have hl := listV_len c a d false k
  have hp : (6 * (d : Int) + 2) * k ≤ 602 * 100 := Int.mul_le_mul (by omega) (by omega) (by omega) (by omega)
  have hp0 : 0 ≤ (6 * (d : Int) + 2) * k := Int.mul_nonneg (by omega) (by omega)
  have hnx : a + (6 * (d : Int) + 2) * k + 6 * d + 1 + 1 = a + (6 * d + 2) * (k + 1) := by rw [Int.mul_add]; omega
  have hlw : lw d false = 6 * d + 2 := rfl
  by_cases hlt : k < n
  · have hw1 : IntKind.i64.wrap (((n - k : Nat) : Int) - 1) = ((n - (k + 1) : Nat) : Int) := by rw [i64_in _ (by omega)]; omega
    have hg : decide ((0 : Int) < ((n - k : Nat) : Int)) = true := by simp; omega
    generalize hpp : a + (6 * (d : Int) + 2) * k = p at *
    have he : entV c (a + lw d false * k) d false = ⟨rectV c p d, nx c (p + 6 * d) 30, nx c (p + 6 * d + 1) 9⟩ := by rw [hlw, hpp]; rfl
    by_cases hf : findRef (listV c a d false k) (nx c (p + 6 * d) 30) < 0
    · have hf' : decide (findRef (listV c a d false k) (nx c (p + 6 * d) 30) < 0) = true := by simpa using hf
      have hst : listV c a d false (k + 1) = listV c a d false k ++ [⟨rectV c p d, nx c (p + 6 * d) 30, nx c (p + 6 * d + 1) 9⟩] := by simp only [listV]; rw [he, if_pos hf]
      generalize listV c a d false k = ys at *
      repeat' (first
        | exact True.intro
        | refine ev_seq ?_
        | ((first | refine vgd_go ?_ | refine ev_region hE hM (hS (by decide +kernel)) ?_ | refine ev_if ?_ | refine end_ret hE rfl rfl ?_ | refine end_norm hE rfl rfl ?_ | refine endG_ret [] hE rfl ?_ | refine endG_norm [] hE rfl ?_ | refine vcallG_at (args := [.ptr 1 0, iT d]) 1 [] rfl hP (s_l1RectR c p d hc (by omega) (by omega) hd0 hd) ?_ | refine vcallG_at (args := [.ptr 1 0, iT 30]) 1 [] rfl hP (s_l1Next c _ 30 hc (by omega) (by omega) (by omega) (by omega)) ?_ | refine vcallG_at (args := [.ptr 1 0, iT 9]) 1 [] rfl hP (s_l1Next c _ 9 hc (by omega) (by omega) (by omega) (by omega)) ?_ | refine vcallB_of hP (s_l3Find ys (nx c (p + 6 * d) 30)) ?_ | refine vcall_A ?_); simp (maxSteps := 2000000) only [go_sem, hP, ↓reduceIte, Nat.reduceAdd, Nat.reduceMul, Nat.reduceEqDiff, Nat.reduceSub, Nat.reduceLeDiff, reduceCtorEq, hg, hf', Bool.and_self, List.length_map])
        | refine ev_skip ?_ | refine ev_block ?_ | refine ev_blk ?_ | refine ev_ret ?_ | refine ev_exit ?_ | refine evx_code_ret ?_ | refine evx_blk_ret ?_ | refine evx_lp_ret ?_
        | refine evx_code_exit ?_ | refine evx_lp_exit ?_ | refine evx_blk_hit ?_ | refine evx_blk_pass (by decide) ?_
        | refine And.intro ?_ ?_ | intro _ | decide +kernel | omega)
      all_goals first
        | exact ev_lp (k + 1) [(100000, some 32792)] (by omega) (by omega) (by simp only [go_sem, hP, ↓reduceIte, Nat.reduceAdd, Nat.reduceMul, Nat.reduceEqDiff, Nat.reduceSub, Nat.reduceLeDiff, reduceCtorEq]; rw [hst]; simp [hw1, hnx, oEntry_eq, rectV])
        | (exfalso; omega)
        | omega
        | (simp_all; done)
    · have hf' : decide (findRef (listV c a d false k) (nx c (p + 6 * d) 30) < 0) = false := by simpa using hf
      have hst : listV c a d false (k + 1) = listV c a d false k := by simp only [listV]; rw [he, if_neg hf]
      generalize listV c a d false k = ys at *
      repeat' (first
        | exact True.intro
        | refine ev_seq ?_
        | ((first | refine vgd_go ?_ | refine ev_region hE hM (hS (by decide +kernel)) ?_ | refine ev_if ?_ | refine end_ret hE rfl rfl ?_ | refine end_norm hE rfl rfl ?_ | refine endG_ret [] hE rfl ?_ | refine endG_norm [] hE rfl ?_ | refine vcallG_at (args := [.ptr 1 0, iT d]) 1 [] rfl hP (s_l1RectR c p d hc (by omega) (by omega) hd0 hd) ?_ | refine vcallG_at (args := [.ptr 1 0, iT 30]) 1 [] rfl hP (s_l1Next c _ 30 hc (by omega) (by omega) (by omega) (by omega)) ?_ | refine vcallG_at (args := [.ptr 1 0, iT 9]) 1 [] rfl hP (s_l1Next c _ 9 hc (by omega) (by omega) (by omega) (by omega)) ?_ | refine vcallB_of hP (s_l3Find ys (nx c (p + 6 * d) 30)) ?_ | refine vcall_A ?_); simp (maxSteps := 2000000) only [go_sem, hP, ↓reduceIte, Nat.reduceAdd, Nat.reduceMul, Nat.reduceEqDiff, Nat.reduceSub, Nat.reduceLeDiff, reduceCtorEq, hg, hf', Bool.and_self, List.length_map])
        | refine ev_skip ?_ | refine ev_block ?_ | refine ev_blk ?_ | refine ev_ret ?_ | refine ev_exit ?_ | refine evx_code_ret ?_ | refine evx_blk_ret ?_ | refine evx_lp_ret ?_
        | refine evx_code_exit ?_ | refine evx_lp_exit ?_ | refine evx_blk_hit ?_ | refine evx_blk_pass (by decide) ?_
        | refine And.intro ?_ ?_ | intro _ | decide +kernel | omega)
      all_goals first
        | exact ev_lp (k + 1) [(100000, some 100000)] (by omega) (by omega) (by simp only [go_sem, hP, ↓reduceIte, Nat.reduceAdd, Nat.reduceMul, Nat.reduceEqDiff, Nat.reduceSub, Nat.reduceLeDiff, reduceCtorEq]; rw [hst]; simp [hw1, hnx])
        | (exfalso; omega)
        | omega
        | (simp_all; done)
  · have hke : k = n := by omega
    subst hke
    have hg : decide ((0 : Int) < ((k - k : Nat) : Int)) = false := by simp
    repeat' (first
      | exact True.intro
      | refine ev_seq ?_
      | ((first | refine endG_ret [(2, some 100000)] hE rfl ?_ | refine vgd_go ?_ | refine ev_region hE hM (hS (by decide +kernel)) ?_ | refine ev_if ?_ | refine end_ret hE rfl rfl ?_ | refine end_norm hE rfl rfl ?_ | refine endG_ret [] hE rfl ?_ | refine endG_norm [] hE rfl ?_ | refine vcall_A ?_); simp (maxSteps := 2000000) only [go_sem, hP, ↓reduceIte, Nat.reduceAdd, Nat.reduceMul, Nat.reduceEqDiff, Nat.reduceSub, Nat.reduceLeDiff, reduceCtorEq, hg])
      | refine ev_skip ?_ | refine ev_block ?_ | refine ev_blk ?_ | refine ev_ret ?_ | refine ev_exit ?_ | refine evx_code_ret ?_ | refine evx_blk_ret ?_ | refine evx_lp_ret ?_
      | refine evx_code_exit ?_ | refine evx_lp_exit ?_ | refine evx_blk_hit ?_ | refine evx_blk_pass (by decide) ?_
      | refine And.intro ?_ ?_ | intro _ | decide +kernel | omega)
    all_goals first
      | (exfalso; omega)
      | (simp_all; done)
theorem s_l3List (c : List Int) (a : Int) (d n : Nat) (leaf : Bool) (hc : codeOk c) (h0 : 0 ≤ a) (h1 : a ≤ 1072000000) (hd0 : 0 < d) (hd : d ≤ 100) (hn : n ≤ 100) : SatG Try.prog 67 false [.ptr 1 0, iT d, iT n, .c (.bool leaf)] [(1, bSrc c a)] (.ref 2) [(1, bSrc c (a + lw d leaf * n)), (2, .arr true 41 4 ((listV c a d leaf n).map oEntry))] := by
  cases leaf with
  | true => exact s_l3ListT c a d n hc h0 h1 hd0 hd hn
  | false => exact s_l3ListF c a d n hc h0 h1 hd0 hd hn
theorem lw_in (d n : Nat) (leaf : Bool) (hd : d ≤ 100) (hn : n ≤ 100) : 0 ≤ lw d leaf * n ∧ lw d leaf * n ≤ 60200 := by
  have h1 : 0 ≤ lw d leaf ∧ lw d leaf ≤ 602 := by unfold lw; split <;> omega
  have h2 : lw d leaf * n ≤ 602 * 100 := Int.mul_le_mul h1.2 (by omega) (by omega) (by omega)
  exact ⟨Int.mul_nonneg h1.1 (by omega), by omega⟩
def dnL (c : List Int) (a : Int) : Int := pk c a [0, 0, 1, 2]
def dnC (c : List Int) (a : Int) : Nat := (pk c (a + 3) [0, 1, 2, 3, 4, 5]).toNat
theorem dnC_in (c : List Int) (a : Int) : pk c (a + 3) [0, 1, 2, 3, 4, 5] = (dnC c a : Int) ∧ dnC c a ≤ 5 := by
  have h := pk_mem (c := c) (a := a + 3) (xs := [0, 1, 2, 3, 4, 5]) (by simp)
  simp only [List.mem_cons, List.not_mem_nil, or_false] at h
  unfold dnC; omega
def dnE (c : List Int) (a : Int) (d : Nat) : List Entry := listV c (a + 4) d (dnL c a == 0) (dnC c a)
def dnA (c : List Int) (a : Int) (d : Nat) : Int := a + 4 + lw d (dnL c a == 0) * dnC c a
theorem dnA_in (c : List Int) (a : Int) (d : Nat) (hd : d ≤ 100) : a ≤ dnA c a d ∧ dnA c a d ≤ a + 60300 := by
  have h1 := (dnC_in c a).2
  have := lw_in d (dnC c a) (dnL c a == 0) hd (by omega)
  unfold dnA; omega
theorem dnE_len (c : List Int) (a : Int) (d : Nat) : (dnE c a d).length ≤ 5 := Nat.le_trans (listV_len _ _ _ _ _) (dnC_in c a).2
/-- A node that may be wrong, the number of its dimensions, and where the code is read on. -/
structure BN where
  n : Node
  d : Int
  p : Int
def b3d (c : List Int) (a : Int) : Nat := (pk c a [2, 2, 3]).toNat
theorem b3d_in (c : List Int) (a : Int) : pk c a [2, 2, 3] = (b3d c a : Int) ∧ (b3d c a = 2 ∨ b3d c a = 3) := by
  have := dims_in c a
  unfold b3d; omega
def b3n (c : List Int) (a : Int) : Node := ⟨dnL c (a + 1), nx c (a + 2) 9, pk c (a + 3) [-1, -1, 3], dnE c (a + 1) (b3d c a)⟩
def b3q (c : List Int) (a : Int) : Int := dnA c (a + 1) (b3d c a) + 1
def b3v (c : List Int) (a : Int) : Int := nx c (dnA c (a + 1) (b3d c a)) 20
theorem b3q_in (c : List Int) (a : Int) : a ≤ b3q c a ∧ b3q c a ≤ a + 60400 := by
  have h1 := (b3d_in c a).2
  have := dnA_in c (a + 1) (b3d c a) (by omega)
  unfold b3q; omega
def bn (c : List Int) (a : Int) : BN :=
  if b3v c a = 0 then ⟨{ b3n c a with level := pk c (b3q c a) [-1, 6, 7] }, b3d c a, b3q c a + 1⟩
  else if b3v c a = 1 then ⟨{ b3n c a with nsn := pk c (b3q c a) [-1, 100000, 100001] }, b3d c a, b3q c a + 1⟩
  else if b3v c a = 2 then ⟨{ b3n c a with right := pk c (b3q c a) [-2, 39, 40] }, b3d c a, b3q c a + 1⟩
  else if b3v c a = 3 then ⟨{ b3n c a with entries := listV c (b3q c a) (b3d c a) true 9 }, b3d c a, b3q c a + lw (b3d c a) true * 9⟩
  else if b3v c a = 4 then ⟨{ b3n c a with entries := (b3n c a).entries ++ [(⟨bentV c (b3q c a) (b3d c a), pk c (bentA c (b3q c a) (b3d c a)) [50, -1, 1000], pk c (bentA c (b3q c a) (b3d c a) + 1) [0, 1]⟩ : Entry)] }, b3d c a, bentA c (b3q c a) (b3d c a) + 2⟩
  else if b3v c a = 5 then ⟨{ b3n c a with entries := if (b3n c a).entries.length = 0 then [] else (b3n c a).entries ++ [(b3n c a).entries.getD 0 default] }, b3d c a, b3q c a⟩
  else if b3v c a = 6 then ⟨b3n c a, pk c (b3q c a) [1, 2, 3, 4], b3q c a + 1⟩
  else ⟨b3n c a, b3d c a, b3q c a⟩
/-- Entries that may be wrong, the number of their dimensions, and where the code is read on. -/
structure BL where
  l : List Entry
  d : Int
  p : Int
def b5c (c : List Int) (a : Int) : Nat := (pk c (a + 1) [5, 5, 6, 8, 4, 3, 0]).toNat
theorem b5c_in (c : List Int) (a : Int) : pk c (a + 1) [5, 5, 6, 8, 4, 3, 0] = (b5c c a : Int) ∧ b5c c a ≤ 8 := by
  have h := pk_mem (c := c) (a := a + 1) (xs := [5, 5, 6, 8, 4, 3, 0]) (by simp)
  simp only [List.mem_cons, List.not_mem_nil, or_false] at h
  unfold b5c; omega
def b5f (c : List Int) (a : Int) : Bool := nx c (a + 2) 2 == 0
def b5e (c : List Int) (a : Int) : List Entry := listV c (a + 3) (b3d c a) (b5f c a) (b5c c a)
theorem b5e_len (c : List Int) (a : Int) : (b5e c a).length ≤ 8 := Nat.le_trans (listV_len _ _ _ _ _) (b5c_in c a).2
def b5p (c : List Int) (a : Int) : Int := a + 3 + lw (b3d c a) (b5f c a) * b5c c a
def b5v (c : List Int) (a : Int) : Int := nx c (b5p c a) 18
theorem b5p_in (c : List Int) (a : Int) : a ≤ b5p c a ∧ b5p c a ≤ a + 60300 := by
  have h1 := (b5c_in c a).2
  have h2 := (b3d_in c a).2
  have := lw_in (b3d c a) (b5c c a) (b5f c a) (by omega) (by omega)
  unfold b5p; omega
def sixV (c : List Int) (q : Int) (d k : Nat) : List Entry := (List.range k).map fun (i : Nat) => ⟨rectV c (q + 6 * d * i) d, 100 + i, 0⟩
def bl (c : List Int) (a : Int) : BL :=
  if b5v c a = 0 then ⟨b5e c a ++ [⟨bentV c (b5p c a + 1) (b3d c a), pk c (bentA c (b5p c a + 1) (b3d c a)) [40, 1000, -1], 0⟩], b3d c a, bentA c (b5p c a + 1) (b3d c a) + 1⟩
  else if b5v c a = 1 then ⟨if (b5e c a).length = 0 then [] else b5e c a ++ [(b5e c a).getD 0 default], b3d c a, b5p c a + 1⟩
  else if b5v c a = 2 then ⟨b5e c a ++ sixV c (b5p c a + 1) (b3d c a) 6, b3d c a, b5p c a + 1 + 6 * b3d c a * 6⟩
  else if b5v c a = 3 then ⟨b5e c a, pk c (b5p c a + 1) [1, 2, 3, 4], b5p c a + 2⟩
  else ⟨b5e c a, b3d c a, b5p c a + 1⟩
theorem bl_p (c : List Int) (a : Int) : a ≤ (bl c a).p ∧ (bl c a).p ≤ a + 61000 := by
  have h1 := b5p_in c a
  have h2 := (b3d_in c a).2
  have h3 := bentA_in c (b5p c a + 1) (b3d c a)
  unfold bl
  (repeat' split) <;> simp only <;> omega
def clD (d : Int) : Nat := (min (max d 2) 3).toNat
theorem clD_in (d : Int) : clD d = 2 ∨ clD d = 3 := by unfold clD; omega
theorem clD_eq (d : Int) : min (max d 2) 3 = (clD d : Int) := by unfold clD; omega
def ceR (c : List Int) : Rect := bentV c (bl c 0).p (clD (bl c 0).d)
end Go.Proofs.Ytegohioalgikjaa.W
