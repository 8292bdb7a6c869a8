/- Contracts of functions that FnExactSplitStar reaches: what each returns; it writes to nothing of old. No condition but those that each theorem states. -/
import Derived.Test.YtmpndkhnajogkaaQa1
open Go Go.Vm Go.Proofs Go.IntWalk Go.RowKit
set_option maxRecDepth 100000
set_option maxHeartbeats 4000000
set_option linter.unusedSimpArgs false
set_option linter.unusedVariables false
set_option linter.unusedSectionVars false
namespace Go.Proofs.Ytmpndkhnajogkaa.W
attribute [local irreducible] kJ ev evx vops vstep vgo vgd vget vcall vcallFn vcallA vcallB vts vres vcond vbin
theorem even_wt {n : Nat} : ∀ {xs : List Entry}, Even xs n → wEntryS xs = (2 * n + 1) * xs.length
  | [], _ => rfl
  | x :: xs, h => by
    have ih := even_wt (xs := xs) fun y hy => h y (List.mem_cons_of_mem _ hy)
    have e := h x (List.mem_cons_self ..)
    have e2 : wEntryS (x :: xs) = wEntry x + wEntryS xs + 1 := by unfold wEntryS; rw [show sumW wEntry (x :: xs) = wEntry x + sumW wEntry xs from rfl, List.length_cons]; omega
    have e3 : wEntry x = x.rect.low.length + x.rect.high.length := rfl
    rw [e2, ih, e3, e.1, e.2, List.length_cons, Nat.mul_add]; omega
theorem even_small {n : Nat} {xs : List Entry} (h : Even xs n) (hn : n ≤ 3) (hl : xs.length ≤ 100) : wEntryS xs ≤ 1048576 := by
  have h1 := even_wt h
  have h2 : (2 * n + 1) * xs.length ≤ 7 * 100 := Nat.mul_le_mul (by omega) hl
  omega
def semE (ax : Nat) (xs : List Entry) (ds rs : List Dat) : Prop := ∃ a ∈ xs, ∃ b ∈ xs, ds = [(true, eEntry a), (true, eEntry b)] ∧ rs = [(false, [.int .i64 (cmpE ax a b)])]
theorem s_insertionEntry (xs : List Entry) (ax : Nat) (hb : xs.length ≤ 1048576) : SatG Try.prog 279 false [.ref 1, iT 0, iT xs.length, .fn (semE ax xs)] [gEs 1 xs] (.tup []) [gEs 1 (sortE ax xs)] := by
  by_cases hn : xs.length = 0
  · obtain rfl := List.eq_nil_of_length_eq_zero hn
    refine satG_walk (fn := Try.f279) rfl rfl rfl (Nat.le_of_ble_eq_true rfl) (by simp) fun fr hP hN hdp hb1 hb2 => ?_
    have hE : (envOf fr Try.prog).Ok := envOf_ok hP
    have hM := follows_of hP
    have hS : ∀ {draw ops}, statB Try.f279.ntmps draw ops = true → statB (envOf fr Try.prog).fr.N draw ops = true := fun h => by rw [envOf_fr, hN]; exact h
    repeat' (first
      | exact True.intro
      | refine ev_seq ?_
      | ((first | refine vgd_go ?_ | refine ev_region hE hM (hS (by decide +kernel)) ?_ | refine ev_if ?_ | refine end_ret hE rfl rfl ?_ | refine end_norm hE rfl rfl ?_ | refine endG_ret [] hE rfl ?_ | refine endG_norm [] hE rfl ?_ | refine vcall_A ?_); simp (maxSteps := 2000000) only [go_sem, hP, ↓reduceIte, Nat.reduceAdd, Nat.reduceMul, Nat.reduceEqDiff, Nat.reduceSub, Nat.reduceLeDiff, reduceCtorEq])
      | refine ev_skip ?_ | refine ev_block ?_ | refine ev_blk ?_ | refine ev_ret ?_ | refine ev_exit ?_ | refine evx_code_ret ?_ | refine evx_blk_ret ?_ | refine evx_lp_ret ?_
      | refine evx_code_exit ?_ | refine evx_lp_exit ?_ | refine evx_blk_hit ?_ | refine evx_blk_pass (by decide) ?_
      | refine And.intro ?_ ?_ | intro _ | decide +kernel | omega)
    refine ev_loop (ι := Nat) (fun k => [(0, .ref 1), (2, iT 0), (8, iT 1)]) (fun k => [gEs 1 []]) (fun _ => [(0, .ref 1)]) (fun k => True) (fun k => 0) 0 [] trivial (by simp only [go_sem, hP, ↓reduceIte, Nat.reduceAdd, Nat.reduceMul, Nat.reduceEqDiff, Nat.reduceSub, Nat.reduceLeDiff, reduceCtorEq]; simp [show IntKind.i64.wrap 1 = 1 from rfl]) ?_
    intro k hk
    have d1 : decide ((1 : Int) < 0) = false := rfl
    repeat' (first
      | exact True.intro
      | refine ev_seq ?_
      | ((first | refine vgd_go ?_ | refine ev_region hE hM (hS (by decide +kernel)) ?_ | refine ev_if ?_ | refine end_ret hE rfl rfl ?_ | refine end_norm hE rfl rfl ?_ | refine endG_ret [] hE rfl ?_ | refine endG_norm [] hE rfl ?_ | refine vcall_A ?_); simp (maxSteps := 2000000) only [go_sem, hP, ↓reduceIte, Nat.reduceAdd, Nat.reduceMul, Nat.reduceEqDiff, Nat.reduceSub, Nat.reduceLeDiff, reduceCtorEq, d1])
      | refine ev_skip ?_ | refine ev_block ?_ | refine ev_blk ?_ | refine ev_ret ?_ | refine ev_exit ?_ | refine evx_code_ret ?_ | refine evx_blk_ret ?_ | refine evx_lp_ret ?_
      | refine evx_code_exit ?_ | refine evx_lp_exit ?_ | refine evx_blk_hit ?_ | refine evx_blk_pass (by decide) ?_
      | refine And.intro ?_ ?_ | intro _ | decide +kernel | omega)
    all_goals first | rfl | trace_state
  · haveI : Inhabited (Fin xs.length) := ⟨⟨0, by omega⟩⟩
    have key := k_insertionEntry (ty := 85) (n := xs.length) hb (es := xs.map oEntry) (sem := semE ax xs) (by simp) (fun i j => cmpE ax (xs.getD i.val default) (xs.getD j.val default)) (cmpE_swo ax fun i : Fin xs.length => xs.getD i.val default) (fun i j => by
      have e : ∀ i : Fin xs.length, Cs.strip ((xs.map oEntry).getD i.val []) = eEntry (xs.getD i.val default) := fun i => by
        rw [List.getD_eq_getElem?_getD, List.getElem?_map, List.getElem?_eq_getElem i.isLt, getD_lt i.isLt]
        simp [stripC_oEntry]
      refine ⟨xs.getD i.val default, getD_mem i.isLt, xs.getD j.val default, getD_mem j.isLt, ?_, rfl⟩
      rw [e, e])
    have e1 := sortL_map (le := leE ax) (le' := fun a b : Fin xs.length => !ltOf (fun i j : Fin xs.length => cmpE ax (xs.getD i.val default) (xs.getD j.val default)) b a) (fun i : Fin xs.length => xs.getD i.val default) (fun a b => by
      show (!decide (cmpE ax (xs.getD b.val default) (xs.getD a.val default) < 0)) = _
      rw [cmpE_neg]; simp) (Array.ofFn (fun i : Fin xs.length => i)).toList
    have e2 : (Array.ofFn (fun i : Fin xs.length => i)).toList.map (fun i : Fin xs.length => xs.getD i.val default) = xs := by
      refine List.ext_getElem (by simp) fun i h1 h2 => ?_
      simp only [List.getElem_map]
      rw [getD_lt (by simpa using h2)]
      simp
    rw [e2] at e1
    have e3 : (sortE ax xs).map oEntry = ((sortL (fun a b : Fin xs.length => !ltOf (fun i j : Fin xs.length => cmpE ax (xs.getD i.val default) (xs.getD j.val default)) b a) (Array.ofFn (fun i : Fin xs.length => i)).toList).map (fun i => i.val)).map fun i => (xs.map oEntry).getD i [] := by
      unfold sortE
      rw [← e1, List.map_map, List.map_map]
      refine List.map_congr_left fun i _ => ?_
      simp only [Function.comp]
      rw [List.getD_eq_getElem?_getD (l := xs.map oEntry), List.getElem?_map, List.getElem?_eq_getElem i.isLt, getD_lt i.isLt]; rfl
    show SatG _ _ _ _ _ _ [(1, .arr true _ 4 ((sortE ax xs).map oEntry))]
    rw [e3]; exact key
theorem s_stableEntry (xs : List Entry) (ax : Nat) (hb : xs.length ≤ 19) : SatG Try.prog 270 false [.ref 1, iT xs.length, .fn (semE ax xs)] [gEs 1 xs] (.tup []) [gEs 1 (sortE ax xs)] := by
  refine satG_walk (fn := Try.f270) rfl rfl rfl (Nat.le_of_ble_eq_true rfl) (by simp) fun fr hP hN hdp hb1 hb2 => ?_
  have hE : (envOf fr Try.prog).Ok := envOf_ok hP
  have hM := follows_of hP
  have hS : ∀ {draw ops}, statB Try.f270.ntmps draw ops = true → statB (envOf fr Try.prog).fr.N draw ops = true := fun h => by rw [envOf_fr, hN]; exact h
  have c1 := s_insertionEntry xs ax (by omega)
  repeat' (first
    | exact True.intro
    | refine ev_seq ?_
    | ((first | refine vgd_go ?_ | refine ev_region hE hM (hS (by decide +kernel)) ?_ | refine ev_if ?_ | refine end_ret hE rfl rfl ?_ | refine end_norm hE rfl rfl ?_ | refine endG_ret [] hE rfl ?_ | refine endG_norm [] hE rfl ?_ | refine vcall_A ?_); simp (maxSteps := 2000000) only [go_sem, hP, ↓reduceIte, Nat.reduceAdd, Nat.reduceMul, Nat.reduceEqDiff, Nat.reduceSub, Nat.reduceLeDiff, reduceCtorEq])
    | refine ev_skip ?_ | refine ev_block ?_ | refine ev_blk ?_ | refine ev_ret ?_ | refine ev_exit ?_ | refine evx_code_ret ?_ | refine evx_blk_ret ?_ | refine evx_lp_ret ?_
    | refine evx_code_exit ?_ | refine evx_lp_exit ?_ | refine evx_blk_hit ?_ | refine evx_blk_pass (by decide) ?_
    | refine And.intro ?_ ?_ | intro _ | decide +kernel | omega)
  refine ev_loop (ι := Nat) (fun k => [(0, .ref 1), (1, iT xs.length), (2, .fn (semE ax xs)), (6, iT 20), (7, iT 0), (8, iT 20)]) (fun k => [gEs 1 xs]) (fun _ => [(0, .ref 1)]) (fun k => True) (fun k => 0) 0 [] trivial (by simp only [go_sem, hP, ↓reduceIte, Nat.reduceAdd, Nat.reduceMul, Nat.reduceEqDiff, Nat.reduceSub, Nat.reduceLeDiff, reduceCtorEq]) ?_
  intro k hk
  have d1 : decide ((20 : Int) ≤ (xs.length : Int)) = false := by simp only [decide_eq_false_iff_not]; omega
  repeat' (first
    | exact True.intro
    | refine ev_seq ?_
    | ((first | refine vgd_go ?_ | refine ev_region hE hM (hS (by decide +kernel)) ?_ | refine ev_if ?_ | refine end_ret hE rfl rfl ?_ | refine end_norm hE rfl rfl ?_ | refine endG_ret [] hE rfl ?_ | refine endG_norm [] hE rfl ?_ | refine vcallG_of (args := [.ref 1, _, _, _]) [(1, 1)] [] hP c1 ?_ | refine vcall_A ?_); simp (maxSteps := 2000000) only [go_sem, hP, ↓reduceIte, Nat.reduceAdd, Nat.reduceMul, Nat.reduceEqDiff, Nat.reduceSub, Nat.reduceLeDiff, reduceCtorEq, d1])
    | refine ev_skip ?_ | refine ev_block ?_ | refine ev_blk ?_ | refine ev_ret ?_ | refine ev_exit ?_ | refine evx_code_ret ?_ | refine evx_blk_ret ?_ | refine evx_lp_ret ?_
    | refine evx_code_exit ?_ | refine evx_lp_exit ?_ | refine evx_blk_hit ?_ | refine evx_blk_pass (by decide) ?_
    | refine And.intro ?_ ?_ | intro _ | decide +kernel | omega)
  refine ev_loop (ι := Nat) (fun k => [(0, .ref 1), (1, iT xs.length), (6, iT 20)]) (fun k => [gEs 1 (sortE ax xs)]) (fun _ => [(0, .ref 1)]) (fun k => True) (fun k => 0) 0 [] trivial (by simp only [go_sem, hP, ↓reduceIte, Nat.reduceAdd, Nat.reduceMul, Nat.reduceEqDiff, Nat.reduceSub, Nat.reduceLeDiff, reduceCtorEq]) ?_
  intro k hk
  have d2 : decide ((20 : Int) < (xs.length : Int)) = false := by simp only [decide_eq_false_iff_not]; omega
  repeat' (first
    | exact True.intro
    | refine ev_seq ?_
    | ((first | refine vgd_go ?_ | refine ev_region hE hM (hS (by decide +kernel)) ?_ | refine ev_if ?_ | refine end_ret hE rfl rfl ?_ | refine end_norm hE rfl rfl ?_ | refine endG_ret [] hE rfl ?_ | refine endG_norm [] hE rfl ?_ | refine vcall_A ?_); simp (maxSteps := 2000000) only [go_sem, hP, ↓reduceIte, Nat.reduceAdd, Nat.reduceMul, Nat.reduceEqDiff, Nat.reduceSub, Nat.reduceLeDiff, reduceCtorEq, d2])
    | refine ev_skip ?_ | refine ev_block ?_ | refine ev_blk ?_ | refine ev_ret ?_ | refine ev_exit ?_ | refine evx_code_ret ?_ | refine evx_blk_ret ?_ | refine evx_lp_ret ?_
    | refine evx_code_exit ?_ | refine evx_lp_exit ?_ | refine evx_blk_hit ?_ | refine evx_blk_pass (by decide) ?_
    | refine And.intro ?_ ?_ | intro _ | decide +kernel | omega)
theorem s_SortStableEntry (xs : List Entry) (ax : Nat) (hb : xs.length ≤ 19) : SatG Try.prog 231 false [.ref 1, .fn (semE ax xs)] [gEs 1 xs] (.tup []) [gEs 1 (sortE ax xs)] := by
  refine satG_walk (fn := Try.f231) rfl rfl rfl (Nat.le_of_ble_eq_true rfl) (by simp) fun fr hP hN hdp hb1 hb2 => ?_
  have hE : (envOf fr Try.prog).Ok := envOf_ok hP
  have hM := follows_of hP
  have hS : ∀ {draw ops}, statB Try.f231.ntmps draw ops = true → statB (envOf fr Try.prog).fr.N draw ops = true := fun h => by rw [envOf_fr, hN]; exact h
  have c1 := s_stableEntry xs ax hb
  repeat' (first
    | exact True.intro
    | refine ev_seq ?_
    | ((first | refine vgd_go ?_ | refine ev_region hE hM (hS (by decide +kernel)) ?_ | refine ev_if ?_ | refine end_ret hE rfl rfl ?_ | refine end_norm hE rfl rfl ?_ | refine endG_ret [] hE rfl ?_ | refine endG_norm [] hE rfl ?_ | refine vcallG_of (args := [.ref 1, _, _]) [(1, 1)] [] hP c1 ?_ | refine vcall_A ?_); simp (maxSteps := 2000000) only [go_sem, hP, ↓reduceIte, Nat.reduceAdd, Nat.reduceMul, Nat.reduceEqDiff, Nat.reduceSub, Nat.reduceLeDiff, reduceCtorEq, List.length_map])
    | refine ev_skip ?_ | refine ev_block ?_ | refine ev_blk ?_ | refine ev_ret ?_ | refine ev_exit ?_ | refine evx_code_ret ?_ | refine evx_blk_ret ?_ | refine evx_lp_ret ?_
    | refine evx_code_exit ?_ | refine evx_lp_exit ?_ | refine evx_blk_hit ?_ | refine evx_blk_pass (by decide) ?_
    | refine And.intro ?_ ?_ | intro _ | decide +kernel | omega)
theorem s_sorted1 (a b : Entry) (ax : Nat) (h1 : ax < a.rect.low.length) (h2 : ax < a.rect.high.length) (h3 : ax < b.rect.low.length) (h4 : ax < b.rect.high.length) : Sat Try.prog 232 [aEntry a, aEntry b, .pv [.int .i64 ax]] true (rI (cmpE ax a b)) := by
  refine sat_walk (fn := Try.f232) rfl rfl rfl (Nat.le_of_ble_eq_true rfl) fun fr hP hN hbnd => ?_
  have hE : (envOf fr Try.prog).Ok := envOf_ok hP
  have hM := follows_of hP
  have hS : ∀ {draw ops}, statB Try.f232.ntmps draw ops = true → statB (envOf fr Try.prog).fr.N draw ops = true := fun h => by rw [envOf_fr, hN]; exact h
  have c1 := s_Compare (a.rect.low.getD ax default) (b.rect.low.getD ax default)
  have c2 := s_Compare (a.rect.high.getD ax default) (b.rect.high.getD ax default)
  have c3 := s_Or (cmpI (a.rect.low.getD ax default) (b.rect.low.getD ax default)) (cmpI (a.rect.high.getD ax default) (b.rect.high.getD ax default))
  repeat' (first
    | exact True.intro
    | refine ev_seq ?_
    | ((first | refine vgd_go ?_ | refine ev_region hE hM (hS (by decide +kernel)) ?_ | refine ev_if ?_ | refine end_ret hE rfl rfl ?_ | refine end_norm hE rfl rfl ?_ | refine endG_ret [] hE rfl ?_ | refine endG_norm [] hE rfl ?_ | refine vcallB_of hP c1 ?_ | refine vcallB_of hP c2 ?_ | refine vcallB_of hP c3 ?_ | refine vcall_A ?_); simp (maxSteps := 2000000) only [go_sem, hP, ↓reduceIte, Nat.reduceAdd, Nat.reduceMul, Nat.reduceEqDiff, Nat.reduceSub, Nat.reduceLeDiff, reduceCtorEq])
    | refine ev_skip ?_ | refine ev_block ?_ | refine ev_blk ?_ | refine ev_ret ?_ | refine ev_exit ?_ | refine evx_code_ret ?_ | refine evx_blk_ret ?_ | refine evx_lp_ret ?_
    | refine evx_code_exit ?_ | refine evx_lp_exit ?_ | refine evx_blk_hit ?_ | refine evx_blk_pass (by decide) ?_
    | refine And.intro ?_ ?_ | intro _ | decide +kernel | omega)
  all_goals first | (simp [cmpE]; done) | omega | (simp_all; done)
theorem s_sorted (xs : List Entry) (ax n : Nat) (h : Even xs n) (hax : ax < n) (hb : xs.length ≤ 19) (hn : n ≤ 3) : Sat Try.prog 123 [aEntryS xs, aI ax] true (rEntryS (sortE ax xs)) := by
  refine sat_walk (fn := Try.f123) rfl rfl rfl (Nat.le_of_ble_eq_true rfl) fun fr hP hN hbnd => ?_
  have hE : (envOf fr Try.prog).Ok := envOf_ok hP
  have hM := follows_of hP
  have hS : ∀ {draw ops}, statB Try.f123.ntmps draw ops = true → statB (envOf fr Try.prog).fr.N draw ops = true := fun h => by rw [envOf_fr, hN]; exact h
  have c1 := s_clonedEntries xs (even_small h hn (by omega))
  have c2 := s_SortStableEntry xs ax hb
  have kF : ∀ ds rs, semE ax xs ds rs → Sat Try.prog 232 (ds.map .d ++ [.pv [.int .i64 ax]]) true rs := by
    rintro ds rs ⟨a, ha, b, hb, rfl, rfl⟩
    have e1 := h a ha
    have e2 := h b hb
    exact s_sorted1 a b ax (by omega) (by omega) (by omega) (by omega)
  repeat' (first
    | exact True.intro
    | exact kF
    | refine ev_seq ?_
    | ((first | refine vgd_go ?_ | refine ev_region hE hM (hS (by decide +kernel)) ?_ | refine ev_if ?_ | refine end_ret hE rfl rfl ?_ | refine end_norm hE rfl rfl ?_ | refine endG_ret [] hE rfl ?_ | refine endG_norm [] hE rfl ?_ | refine vcallB_of hP c1 ?_ | refine vcallG_of (args := [.ref 4104, _]) [(1, 4104)] [] hP c2 ?_ | refine vcall_A ?_); simp (maxSteps := 2000000) only [go_sem, hP, ↓reduceIte, Nat.reduceAdd, Nat.reduceMul, Nat.reduceEqDiff, Nat.reduceSub, Nat.reduceLeDiff, reduceCtorEq])
    | refine ev_skip ?_ | refine ev_block ?_ | refine ev_blk ?_ | refine ev_ret ?_ | refine ev_exit ?_ | refine evx_code_ret ?_ | refine evx_blk_ret ?_ | refine evx_lp_ret ?_
    | refine evx_code_exit ?_ | refine evx_lp_exit ?_ | refine evx_blk_hit ?_ | refine evx_blk_pass (by decide) ?_
    | refine And.intro ?_ ?_ | intro _ | decide +kernel | omega)
  all_goals trace_state
theorem s_l5Sort (xs : List Entry) (ax n : Nat) (h : Even xs n) (hax : ax < n) (hl : xs.length ≤ 1000) (hn : n ≤ 1000) : Sat Try.prog 121 [aEntryS xs, aI ax] false [(false, [sEntryS (sortE ax xs)])] := by
  refine sat_walk (fn := Try.f121) rfl rfl rfl (Nat.le_of_ble_eq_true rfl) fun fr hP hN hbnd => ?_
  have hE : (envOf fr Try.prog).Ok := envOf_ok hP
  have hM := follows_of hP
  have hS : ∀ {draw ops}, statB Try.f121.ntmps draw ops = true → statB (envOf fr Try.prog).fr.N draw ops = true := fun h => by rw [envOf_fr, hN]; exact h
  repeat' (first
    | exact True.intro
    | refine ev_seq ?_
    | ((first | refine vgd_go ?_ | refine ev_region hE hM (hS (by decide +kernel)) ?_ | refine ev_if ?_ | refine end_ret hE rfl rfl ?_ | refine end_norm hE rfl rfl ?_ | refine endG_ret [] hE rfl ?_ | refine endG_norm [] hE rfl ?_ | refine vcall_A ?_); simp (maxSteps := 2000000) only [go_sem, hP, ↓reduceIte, Nat.reduceAdd, Nat.reduceMul, Nat.reduceEqDiff, Nat.reduceSub, Nat.reduceLeDiff, reduceCtorEq])
    | refine ev_skip ?_ | refine ev_block ?_ | refine ev_blk ?_ | refine ev_ret ?_ | refine ev_exit ?_ | refine evx_code_ret ?_ | refine evx_blk_ret ?_ | refine evx_lp_ret ?_
    | refine evx_code_exit ?_ | refine evx_lp_exit ?_ | refine evx_blk_hit ?_ | refine evx_blk_pass (by decide) ?_
    | refine And.intro ?_ ?_ | intro _ | decide +kernel | omega)
  refine ev_loop (ι := Nat) (fun k => [(0, .c (sEntryS xs)), (1, iT ax), (5, .ref 100000), (6, iT k)]) (fun k => [(100000, .arr (decide (k = 0)) 85 4 ((sortE ax (xs.take k)).map eEntry))]) (fun _ => []) (fun k => k ≤ xs.length) (fun k => xs.length - k) 0 [(100000, some 4096)] (by omega) (by simp only [go_sem, hP, ↓reduceIte, Nat.reduceAdd, Nat.reduceMul, Nat.reduceEqDiff, Nat.reduceSub, Nat.reduceLeDiff, reduceCtorEq]; simp [sortE, sortL]) ?_
  intro k hk
  have hw1 : k < xs.length → IntKind.i64.wrap ((k : Int) + 1) = k + 1 := fun h => i64_in _ (by omega)
  have hyl : (sortE ax (xs.take k)).length = k := by rw [sortE_len, List.length_take]; omega
  have hev : Even (sortE ax (xs.take k)) n := fun y hy => h y (List.mem_of_mem_take ((sortE_perm ax _).mem_iff.1 hy))
  by_cases hlt : k < xs.length
  · have hst := sortE_step ax hlt
    rw [insL_at] at hst
    have hx := even_get h hlt
    generalize sortE ax (xs.take k) = ys at *
    have hpl : ys.findIdx (fun y => !leE ax y (xs.getD k default)) ≤ ys.length := List.findIdx_le_length
    have hpy : ∀ j, j < ys.findIdx (fun y => !leE ax y (xs.getD k default)) → leE ax (ys.getD j default) (xs.getD k default) = true := fun j hj => by
      have := List.not_of_lt_findIdx hj
      rw [getD_lt (by omega)]
      simpa using this
    have hpn : ∀ j, j = ys.findIdx (fun y => !leE ax y (xs.getD k default)) → j < ys.length → leE ax (ys.getD j default) (xs.getD k default) = false := fun j hj hjl => by
      subst hj
      have := List.findIdx_getElem (w := hjl)
      rw [getD_lt hjl]
      simpa using this
    generalize ys.findIdx (fun y => !leE ax y (xs.getD k default)) = p at *
    have dl : decide ((k : Int) < (xs.length : Int)) = true := by simp only [decide_eq_true_eq]; omega
    repeat' (first
      | exact True.intro
      | refine ev_seq ?_
      | ((first | refine vgd_go ?_ | refine ev_region hE hM (hS (by decide +kernel)) ?_ | refine ev_if ?_ | refine end_ret hE rfl rfl ?_ | refine end_norm hE rfl rfl ?_ | refine endG_ret [] hE rfl ?_ | refine endG_norm [] hE rfl ?_ | refine vcall_A ?_); simp (maxSteps := 2000000) only [go_sem, hP, ↓reduceIte, Nat.reduceAdd, Nat.reduceMul, Nat.reduceEqDiff, Nat.reduceSub, Nat.reduceLeDiff, reduceCtorEq, dl, List.length_map])
      | refine ev_skip ?_ | refine ev_block ?_ | refine ev_blk ?_ | refine ev_ret ?_ | refine ev_exit ?_ | refine evx_code_ret ?_ | refine evx_blk_ret ?_ | refine evx_lp_ret ?_
      | refine evx_code_exit ?_ | refine evx_lp_exit ?_ | refine evx_blk_hit ?_ | refine evx_blk_pass (by decide) ?_
      | refine And.intro ?_ ?_ | intro _ | decide +kernel | omega)
    refine ev_loop (ι := Nat) (fun j => [(0, .c (sEntryS xs)), (1, iT ax), (5, .ref 100000), (6, iT k), (7, iT j)]) (fun j => [(100000, .arr (decide (k = 0)) 85 4 (ys.map eEntry))]) (fun _ => []) (fun j => j ≤ p) (fun j => p - j) 0 [] (by omega) (by simp only [go_sem, hP, ↓reduceIte, Nat.reduceAdd, Nat.reduceMul, Nat.reduceEqDiff, Nat.reduceSub, Nat.reduceLeDiff, reduceCtorEq]; simp) ?_
    intro j hj
    have hw2 : IntKind.i64.wrap ((j : Int) + 1) = j + 1 := i64_in _ (by omega)
    have tj : Int.toNat (j : Int) = j := by simp
    have ht1 : List.take (ys.length - j) (List.drop j (ys.map eEntry)) = List.drop j (ys.map eEntry) := List.take_of_length_le (by simp)
    have ht2 : List.take ys.length (ys.map eEntry) = ys.map eEntry := List.take_of_length_le (by simp)
    by_cases hjl : j < ys.length
    · have d0 : decide ((j : Int) < (ys.length : Int)) = true := by simp only [decide_eq_true_eq]; omega
      have hy := even_get hev hjl
      by_cases hj1 : j < p
      · have hle := hpy j hj1
        unfold leE at hle
        simp only [Bool.or_eq_true, Bool.and_eq_true, decide_eq_true_eq] at hle
        by_cases hc : (ys.getD j default).rect.low.getD ax default < (xs.getD k default).rect.low.getD ax default
        · have e1 := decide_eq_true hc
          repeat' (first
            | exact True.intro
            | refine ev_seq ?_
            | ((first | refine vgd_go ?_ | refine ev_region hE hM (hS (by decide +kernel)) ?_ | refine ev_if ?_ | refine end_ret hE rfl rfl ?_ | refine end_norm hE rfl rfl ?_ | refine endG_ret [] hE rfl ?_ | refine endG_norm [] hE rfl ?_ | refine vcall_A ?_); simp (maxSteps := 2000000) only [go_sem, hP, ↓reduceIte, Nat.reduceAdd, Nat.reduceMul, Nat.reduceEqDiff, Nat.reduceSub, Nat.reduceLeDiff, reduceCtorEq, List.append_eq, List.cons_append, List.nil_append, Cs.strip, C.strip, Es.strip, strip_eI, Bool.and_false, Bool.and_self, Bool.false_and, Bool.false_eq_true, List.length_append, List.length_take, List.length_drop, List.length_cons, List.length_nil, Int.toNat_zero, ite_self, d0, ht1, ht2,  e1, List.length_map])
            | refine ev_skip ?_ | refine ev_block ?_ | refine ev_blk ?_ | refine ev_ret ?_ | refine ev_exit ?_ | refine evx_code_ret ?_ | refine evx_blk_ret ?_ | refine evx_lp_ret ?_
            | refine evx_code_exit ?_ | refine evx_lp_exit ?_ | refine evx_blk_hit ?_ | refine evx_blk_pass (by decide) ?_
            | refine And.intro ?_ ?_ | intro _ | decide +kernel | omega)
          all_goals first
            | exact ev_lp (j + 1) [] (by omega) (by omega) (by simp only [go_sem, hP, ↓reduceIte, Nat.reduceAdd, Nat.reduceMul, Nat.reduceEqDiff, Nat.reduceSub, Nat.reduceLeDiff, reduceCtorEq]; simp [hw2])
            | (exfalso; omega)
            | omega
            | (simp only [Nat.min_def]; split <;> omega)
            | (simp_all; done)
            | trace_state
        · have e1 := decide_eq_false hc
          have hle2 := hle.resolve_left hc
          have e2 : ((ys.getD j default).rect.low.getD ax default == (xs.getD k default).rect.low.getD ax default) = true := beq_iff_eq.2 hle2.1
          have e3 := decide_eq_true hle2.2
          repeat' (first
            | exact True.intro
            | refine ev_seq ?_
            | ((first | refine vgd_go ?_ | refine ev_region hE hM (hS (by decide +kernel)) ?_ | refine ev_if ?_ | refine end_ret hE rfl rfl ?_ | refine end_norm hE rfl rfl ?_ | refine endG_ret [] hE rfl ?_ | refine endG_norm [] hE rfl ?_ | refine vcall_A ?_); simp (maxSteps := 2000000) only [go_sem, hP, ↓reduceIte, Nat.reduceAdd, Nat.reduceMul, Nat.reduceEqDiff, Nat.reduceSub, Nat.reduceLeDiff, reduceCtorEq, List.append_eq, List.cons_append, List.nil_append, Cs.strip, C.strip, Es.strip, strip_eI, Bool.and_false, Bool.and_self, Bool.false_and, Bool.false_eq_true, List.length_append, List.length_take, List.length_drop, List.length_cons, List.length_nil, Int.toNat_zero, ite_self, d0, ht1, ht2,  e1, e2, e3, List.length_map])
            | refine ev_skip ?_ | refine ev_block ?_ | refine ev_blk ?_ | refine ev_ret ?_ | refine ev_exit ?_ | refine evx_code_ret ?_ | refine evx_blk_ret ?_ | refine evx_lp_ret ?_
            | refine evx_code_exit ?_ | refine evx_lp_exit ?_ | refine evx_blk_hit ?_ | refine evx_blk_pass (by decide) ?_
            | refine And.intro ?_ ?_ | intro _ | decide +kernel | omega)
          all_goals first
            | exact ev_lp (j + 1) [] (by omega) (by omega) (by simp only [go_sem, hP, ↓reduceIte, Nat.reduceAdd, Nat.reduceMul, Nat.reduceEqDiff, Nat.reduceSub, Nat.reduceLeDiff, reduceCtorEq]; simp [hw2])
            | (exfalso; omega)
            | omega
            | (simp only [Nat.min_def]; split <;> omega)
            | (simp_all; done)
            | trace_state
      · obtain rfl : j = p := by omega
        have hle := hpn j rfl hjl
        unfold leE at hle
        simp only [Bool.or_eq_false_iff, Bool.and_eq_false_iff, decide_eq_false_iff_not] at hle
        have e1 := decide_eq_false hle.1
        by_cases hq : (ys.getD j default).rect.low.getD ax default = (xs.getD k default).rect.low.getD ax default
        · have e2 : ((ys.getD j default).rect.low.getD ax default == (xs.getD k default).rect.low.getD ax default) = true := beq_iff_eq.2 hq
          have e3 : decide ((ys.getD j default).rect.high.getD ax default ≤ (xs.getD k default).rect.high.getD ax default) = false := decide_eq_false (by omega)
          repeat' (first
            | exact True.intro
            | refine ev_seq ?_
            | ((first | refine vgd_go ?_ | refine ev_region hE hM (hS (by decide +kernel)) ?_ | refine ev_if ?_ | refine end_ret hE rfl rfl ?_ | refine end_norm hE rfl rfl ?_ | refine endG_ret [] hE rfl ?_ | refine endG_norm [] hE rfl ?_ | refine vcall_A ?_); simp (maxSteps := 2000000) only [go_sem, hP, ↓reduceIte, Nat.reduceAdd, Nat.reduceMul, Nat.reduceEqDiff, Nat.reduceSub, Nat.reduceLeDiff, reduceCtorEq, List.append_eq, List.cons_append, List.nil_append, Cs.strip, C.strip, Es.strip, strip_eI, Bool.and_false, Bool.and_self, Bool.false_and, Bool.false_eq_true, List.length_append, List.length_take, List.length_drop, List.length_cons, List.length_nil, Int.toNat_zero, ite_self, d0, ht1, ht2,  e1, e2, e3, tj, List.length_map])
            | refine ev_skip ?_ | refine ev_block ?_ | refine ev_blk ?_ | refine ev_ret ?_ | refine ev_exit ?_ | refine evx_code_ret ?_ | refine evx_blk_ret ?_ | refine evx_lp_ret ?_
            | refine evx_code_exit ?_ | refine evx_lp_exit ?_ | refine evx_blk_hit ?_ | refine evx_blk_pass (by decide) ?_
            | refine And.intro ?_ ?_ | intro _ | decide +kernel | omega)
          all_goals first
            | exact ev_lp (k + 1) [(100000, some 40992)] (by omega) (by omega) (by simp only [go_sem, hP, ↓reduceIte, Nat.reduceAdd, Nat.reduceMul, Nat.reduceEqDiff, Nat.reduceSub, Nat.reduceLeDiff, reduceCtorEq]; rw [hst]; simp [hw1 hlt, Es.strip, eEntry_eq, show IntKind.i64.wrap 1 = 1 from rfl, List.map_take, List.map_drop, ht1, ht2])
            | (exfalso; omega)
            | omega
            | (simp only [Nat.min_def]; split <;> omega)
            | (simp_all; done)
            | trace_state
        · have e2 : ((ys.getD j default).rect.low.getD ax default == (xs.getD k default).rect.low.getD ax default) = false := beq_eq_false_iff_ne.2 hq
          repeat' (first
            | exact True.intro
            | refine ev_seq ?_
            | ((first | refine vgd_go ?_ | refine ev_region hE hM (hS (by decide +kernel)) ?_ | refine ev_if ?_ | refine end_ret hE rfl rfl ?_ | refine end_norm hE rfl rfl ?_ | refine endG_ret [] hE rfl ?_ | refine endG_norm [] hE rfl ?_ | refine vcall_A ?_); simp (maxSteps := 2000000) only [go_sem, hP, ↓reduceIte, Nat.reduceAdd, Nat.reduceMul, Nat.reduceEqDiff, Nat.reduceSub, Nat.reduceLeDiff, reduceCtorEq, List.append_eq, List.cons_append, List.nil_append, Cs.strip, C.strip, Es.strip, strip_eI, Bool.and_false, Bool.and_self, Bool.false_and, Bool.false_eq_true, List.length_append, List.length_take, List.length_drop, List.length_cons, List.length_nil, Int.toNat_zero, ite_self, d0, ht1, ht2,  e1, e2, tj, List.length_map])
            | refine ev_skip ?_ | refine ev_block ?_ | refine ev_blk ?_ | refine ev_ret ?_ | refine ev_exit ?_ | refine evx_code_ret ?_ | refine evx_blk_ret ?_ | refine evx_lp_ret ?_
            | refine evx_code_exit ?_ | refine evx_lp_exit ?_ | refine evx_blk_hit ?_ | refine evx_blk_pass (by decide) ?_
            | refine And.intro ?_ ?_ | intro _ | decide +kernel | omega)
          all_goals first
            | exact ev_lp (k + 1) [(100000, some 40992)] (by omega) (by omega) (by simp only [go_sem, hP, ↓reduceIte, Nat.reduceAdd, Nat.reduceMul, Nat.reduceEqDiff, Nat.reduceSub, Nat.reduceLeDiff, reduceCtorEq]; rw [hst]; simp [hw1 hlt, Es.strip, eEntry_eq, show IntKind.i64.wrap 1 = 1 from rfl, List.map_take, List.map_drop, ht1, ht2])
            | (exfalso; omega)
            | omega
            | (simp only [Nat.min_def]; split <;> omega)
            | (simp_all; done)
            | trace_state
    · obtain rfl : j = p := by omega
      obtain rfl : j = ys.length := by omega
      have d0 : decide ((ys.length : Int) < (ys.length : Int)) = false := by simp
      by_cases h0 : k = 0
      · subst h0
        repeat' (first
          | exact True.intro
          | refine ev_seq ?_
          | ((first | refine vgd_go ?_ | refine ev_region hE hM (hS (by decide +kernel)) ?_ | refine ev_if ?_ | refine end_ret hE rfl rfl ?_ | refine end_norm hE rfl rfl ?_ | refine endG_ret [] hE rfl ?_ | refine endG_norm [] hE rfl ?_ | refine vcall_A ?_); simp (maxSteps := 2000000) only [go_sem, hP, ↓reduceIte, Nat.reduceAdd, Nat.reduceMul, Nat.reduceEqDiff, Nat.reduceSub, Nat.reduceLeDiff, reduceCtorEq, List.append_eq, List.cons_append, List.nil_append, Cs.strip, C.strip, Es.strip, strip_eI, Bool.and_false, Bool.and_self, Bool.false_and, Bool.false_eq_true, List.length_append, List.length_take, List.length_drop, List.length_cons, List.length_nil, Int.toNat_zero, ite_self, d0, ht1, ht2,  tj, List.length_map])
          | refine ev_skip ?_ | refine ev_block ?_ | refine ev_blk ?_ | refine ev_ret ?_ | refine ev_exit ?_ | refine evx_code_ret ?_ | refine evx_blk_ret ?_ | refine evx_lp_ret ?_
          | refine evx_code_exit ?_ | refine evx_lp_exit ?_ | refine evx_blk_hit ?_ | refine evx_blk_pass (by decide) ?_
          | refine And.intro ?_ ?_ | intro _ | decide +kernel | omega)
        all_goals first
          | exact ev_lp 1 [(100000, some 40992)] (by omega) (by omega) (by simp only [go_sem, hP, ↓reduceIte, Nat.reduceAdd, Nat.reduceMul, Nat.reduceEqDiff, Nat.reduceSub, Nat.reduceLeDiff, reduceCtorEq]; rw [hst]; simp [hw1 hlt, Es.strip, eEntry_eq, show IntKind.i64.wrap 1 = 1 from rfl, List.map_take, List.map_drop, ht1, ht2])
          | (exfalso; omega)
          | omega
          | (simp_all; done)
          | trace_state
      · repeat' (first
          | exact True.intro
          | refine ev_seq ?_
          | ((first | refine vgd_go ?_ | refine ev_region hE hM (hS (by decide +kernel)) ?_ | refine ev_if ?_ | refine end_ret hE rfl rfl ?_ | refine end_norm hE rfl rfl ?_ | refine endG_ret [] hE rfl ?_ | refine endG_norm [] hE rfl ?_ | refine vcall_A ?_); simp (maxSteps := 2000000) only [go_sem, hP, ↓reduceIte, Nat.reduceAdd, Nat.reduceMul, Nat.reduceEqDiff, Nat.reduceSub, Nat.reduceLeDiff, reduceCtorEq, List.append_eq, List.cons_append, List.nil_append, Cs.strip, C.strip, Es.strip, strip_eI, Bool.and_false, Bool.and_self, Bool.false_and, Bool.false_eq_true, List.length_append, List.length_take, List.length_drop, List.length_cons, List.length_nil, Int.toNat_zero, ite_self, d0, ht1, ht2,  tj, List.length_map])
          | refine ev_skip ?_ | refine ev_block ?_ | refine ev_blk ?_ | refine ev_ret ?_ | refine ev_exit ?_ | refine evx_code_ret ?_ | refine evx_blk_ret ?_ | refine evx_lp_ret ?_
          | refine evx_code_exit ?_ | refine evx_lp_exit ?_ | refine evx_blk_hit ?_ | refine evx_blk_pass (by decide) ?_
          | refine And.intro ?_ ?_ | intro _ | decide +kernel | omega)
        all_goals first
          | exact ev_lp (k + 1) [(100000, some 40992)] (by omega) (by omega) (by simp only [go_sem, hP, ↓reduceIte, Nat.reduceAdd, Nat.reduceMul, Nat.reduceEqDiff, Nat.reduceSub, Nat.reduceLeDiff, reduceCtorEq]; rw [hst]; simp [hw1 hlt, Es.strip, eEntry_eq, show IntKind.i64.wrap 1 = 1 from rfl, List.map_take, List.map_drop, ht1, ht2])
          | (exfalso; omega)
          | omega
          | (simp_all; done)
          | trace_state
  · have hke : k = xs.length := by omega
    subst hke
    have dl : decide ((xs.length : Int) < (xs.length : Int)) = false := by simp
    repeat' (first
      | exact True.intro
      | refine ev_seq ?_
      | ((first | refine vgd_go ?_ | refine ev_region hE hM (hS (by decide +kernel)) ?_ | refine ev_if ?_ | refine end_ret hE rfl rfl ?_ | refine end_norm hE rfl rfl ?_ | refine endG_ret [] hE rfl ?_ | refine endG_norm [] hE rfl ?_ | refine vcall_A ?_); simp (maxSteps := 2000000) only [go_sem, hP, ↓reduceIte, Nat.reduceAdd, Nat.reduceMul, Nat.reduceEqDiff, Nat.reduceSub, Nat.reduceLeDiff, reduceCtorEq, dl, List.take_length, List.length_map])
      | refine ev_skip ?_ | refine ev_block ?_ | refine ev_blk ?_ | refine ev_ret ?_ | refine ev_exit ?_ | refine evx_code_ret ?_ | refine evx_blk_ret ?_ | refine evx_lp_ret ?_
      | refine evx_code_exit ?_ | refine evx_lp_exit ?_ | refine evx_blk_hit ?_ | refine evx_blk_pass (by decide) ?_
      | refine And.intro ?_ ?_ | intro _ | decide +kernel | omega)
    all_goals first | (split <;> rfl) | (simp_all; done)
def saC (xs : List Entry) (d ax : Int) : Int := if esf xs d ≠ 0 then esf xs d else if inB ax 0 (d - 1) = false then 3 else 0
def saV (xs : List Entry) (d ax : Int) : List Entry := if saC xs d ax = 0 then sortE ax.toNat xs else []
theorem esf_len {xs : List Entry} {d : Int} (h : esf xs d = 0) : xs.length ≤ 10 ∧ 2 ≤ d ∧ d ≤ 3 := by
  unfold esf at h
  (repeat' split at h) <;> simp_all [inB] <;> omega
theorem saC_zero {xs : List Entry} {d ax : Int} (h : saC xs d ax = 0) : esf xs d = 0 ∧ 0 ≤ ax ∧ ax < d := by
  unfold saC at h
  split at h
  · rename_i h1; exact absurd h h1
  · split at h
    · omega
    · rename_i h1 h2; simp [inB] at h2; exact ⟨by simpa using h1, by omega⟩
theorem wEntryS_perm {xs ys : List Entry} (h : xs.Perm ys) : wEntryS xs = wEntryS ys := by
  unfold wEntryS
  have : ∀ xs ys : List Entry, xs.Perm ys → sumW wEntry xs = sumW wEntry ys := by
    intro xs ys h
    induction h with
    | nil => rfl
    | cons x _ ih => rw [show ∀ l, sumW wEntry (x :: l) = wEntry x + sumW wEntry l from fun _ => rfl, show ∀ l, sumW wEntry (x :: l) = wEntry x + sumW wEntry l from fun _ => rfl, ih]
    | swap x y l =>
      have e : ∀ (a : Entry) l, sumW wEntry (a :: l) = wEntry a + sumW wEntry l := fun _ _ => rfl
      rw [e, e, e, e]; omega
    | trans _ _ h1 h2 => rw [h1, h2]
  rw [this xs ys h, h.length_eq]
theorem saV_w (xs : List Entry) (d ax : Int) : wEntryS (saV xs d ax) ≤ 100 := by
  unfold saV; split
  · rename_i h
    have h1 := (saC_zero h).1
    have h2 := even_w (esf_rf h1)
    have h3 := esf_len h1
    rw [wEntryS_perm (sortE_perm _ _)]; omega
  · exact Nat.zero_le _
theorem marginTo_in {r : Rect} {n : Nat} (hn : n ≤ 3) (h : ∀ k, k < n → -1000 ≤ r.low.getD k default ∧ r.low.getD k default ≤ r.high.getD k default ∧ r.high.getD k default ≤ 1000) : ∀ k, k ≤ n → 0 ≤ marginTo r k ∧ marginTo r k ≤ 2000 * k := fun k hk => by
  have := marginTo_mono (a := r) (b := r) hn h (fun k hk => by have := h k hk; omega) k hk
  omega
theorem margin_in {r : Rect} {d : Int} (h : rf r d = 0) : 0 ≤ margin r ∧ margin r ≤ 6000 := by
  have h3 := rf_three h
  have := marginTo_in h3 (fun k hk => rf_at h k hk) _ (Nat.le_refl _)
  unfold margin
  omega
def mgTo (ys : List Entry) : Nat → Int
  | 0 => 0
  | k + 1 => mgTo ys k + (margin (bx (ys.take (k + 2))) + margin (bx (ys.drop (k + 2))))
def mgF (xs : List Entry) (a : Nat) : Int := mgTo (sortE a xs) (xs.length - 3)
/-- The axis with the least margins among the first. -/
def bA (xs : List Entry) : Nat → Nat
  | 0 => 0
  | k + 1 => if k = 0 then 0 else if mgF xs k < mgF xs (bA xs k) then k else bA xs k
theorem mg_step {ys : List Entry} {d : Int} {k : Nat} (h : ∀ x ∈ ys, rf x.rect d = 0) (hk : k + 4 ≤ ys.length) :
    rf (bx (ys.take (k + 2))) d = 0 ∧ rf (bx (ys.drop (k + 2))) d = 0 ∧ 0 ≤ margin (bx (ys.take (k + 2))) ∧ margin (bx (ys.take (k + 2))) ≤ 6000 ∧ 0 ≤ margin (bx (ys.drop (k + 2))) ∧ margin (bx (ys.drop (k + 2))) ≤ 6000 := by
  have r1 := bx_rf (xs := ys.take (k + 2)) (d := d) (fun x hx => h x (List.mem_of_mem_take hx)) (by simp; omega)
  have r2 := bx_rf (xs := ys.drop (k + 2)) (d := d) (fun x hx => h x (List.mem_of_mem_drop hx)) (by simp; omega)
  exact ⟨r1, r2, (margin_in r1).1, (margin_in r1).2, (margin_in r2).1, (margin_in r2).2⟩
theorem mgTo_in {ys : List Entry} {d : Int} (h : ∀ x ∈ ys, rf x.rect d = 0) : ∀ k, k + 3 ≤ ys.length → 0 ≤ mgTo ys k ∧ mgTo ys k ≤ 12000 * k
  | 0, _ => by simp [mgTo]
  | k + 1, hk => by
    have ih := mgTo_in h k (by omega)
    have := mg_step (k := k) h (by omega)
    simp only [mgTo]
    omega
theorem sortE_rf {xs : List Entry} {d : Int} (ax : Nat) (h : ∀ x ∈ xs, rf x.rect d = 0) : ∀ x ∈ sortE ax xs, rf x.rect d = 0 := fun x hx => h x ((sortE_perm ax xs).mem_iff.1 hx)
theorem mgF_in {xs : List Entry} {d : Int} (h : ∀ x ∈ xs, rf x.rect d = 0) (h4 : 4 ≤ xs.length) (a : Nat) : 0 ≤ mgF xs a ∧ mgF xs a ≤ 12000 * (xs.length - 3 : Nat) := by
  unfold mgF
  exact mgTo_in (sortE_rf a h) _ (by rw [sortE_len]; omega)
theorem bA_lt (xs : List Entry) : ∀ k, 0 < k → bA xs k < k
  | 0, h => by omega
  | 1, _ => by simp [bA]
  | k + 2, _ => by
    have := bA_lt xs (k + 1) (by omega)
    unfold bA
    rw [if_neg (by omega)]
    split <;> omega
theorem s_l5Axis (xs : List Entry) (d : Int) (hz : esf xs d = 0) (h4 : 4 ≤ xs.length) : Sat Try.prog 112 [aEntryS xs, aI d] true (rI (bA xs d.toNat)) := by
  refine sat_walk (fn := Try.f112) rfl rfl rfl (Nat.le_of_ble_eq_true rfl) fun fr hP hN hbnd => ?_
  have hE : (envOf fr Try.prog).Ok := envOf_ok hP
  have hM := follows_of hP
  have hS : ∀ {draw ops}, statB Try.f112.ntmps draw ops = true → statB (envOf fr Try.prog).fr.N draw ops = true := fun h => by rw [envOf_fr, hN]; exact h
  have hz1 := esf_len hz
  have hrf := esf_rf hz
  have hev := rf_even hrf
  repeat' (first
    | exact True.intro
    | refine ev_seq ?_
    | ((first | refine vgd_go ?_ | refine ev_region hE hM (hS (by decide +kernel)) ?_ | refine ev_if ?_ | refine end_ret hE rfl rfl ?_ | refine end_norm hE rfl rfl ?_ | refine endG_ret [] hE rfl ?_ | refine endG_norm [] hE rfl ?_ | refine vcall_A ?_); simp (maxSteps := 2000000) only [go_sem, hP, ↓reduceIte, Nat.reduceAdd, Nat.reduceMul, Nat.reduceEqDiff, Nat.reduceSub, Nat.reduceLeDiff, reduceCtorEq])
    | refine ev_skip ?_ | refine ev_block ?_ | refine ev_blk ?_ | refine ev_ret ?_ | refine ev_exit ?_ | refine evx_code_ret ?_ | refine evx_blk_ret ?_ | refine evx_lp_ret ?_
    | refine evx_code_exit ?_ | refine evx_lp_exit ?_ | refine evx_blk_hit ?_ | refine evx_blk_pass (by decide) ?_
    | refine And.intro ?_ ?_ | intro _ | decide +kernel | omega)
  refine ev_loop (ι := Nat) (fun a => [(0, .c (sEntryS xs)), (1, iT d), (5, iT (bA xs a)), (6, iT (if a = 0 then -1 else mgF xs (bA xs a))), (7, iT a)]) (fun _ => []) (fun _ => []) (fun a => (a : Int) ≤ d) (fun a => d.toNat - a) 0 [] (by omega) (by simp only [go_sem, hP, ↓reduceIte, Nat.reduceAdd, Nat.reduceMul, Nat.reduceEqDiff, Nat.reduceSub, Nat.reduceLeDiff, reduceCtorEq]; simp [bA]) ?_
  intro a ha
  by_cases hlt : (a : Int) < d
  · have hw1 : IntKind.i64.wrap ((a : Int) + 1) = a + 1 := i64_in _ (by omega)
    have hw2 : IntKind.i64.wrap ((xs.length : Int) - 2) = xs.length - 2 := i64_in _ (by omega)
    have dl : decide ((a : Int) < d) = true := by simp only [decide_eq_true_eq]; exact hlt
    have c1 := s_l5Sort xs a d.toNat hev (by omega) (by omega) (by omega)
    have hyr := sortE_rf a hrf
    have hye := rf_even hyr
    have hyl := sortE_len a xs
    have hF : mgF xs a = mgTo (sortE a xs) (xs.length - 3) := rfl
    have hf1 := mgF_in hrf h4 a
    have hf2 := mgF_in hrf h4 (bA xs a)
    generalize sortE a xs = ys at *
    repeat' (first
      | exact True.intro
      | refine ev_seq ?_
      | ((first | refine vgd_go ?_ | refine ev_region hE hM (hS (by decide +kernel)) ?_ | refine ev_if ?_ | refine end_ret hE rfl rfl ?_ | refine end_norm hE rfl rfl ?_ | refine endG_ret [] hE rfl ?_ | refine endG_norm [] hE rfl ?_ | refine vcallB_of hP c1 ?_ | refine vcall_A ?_); simp (maxSteps := 2000000) only [go_sem, hP, ↓reduceIte, Nat.reduceAdd, Nat.reduceMul, Nat.reduceEqDiff, Nat.reduceSub, Nat.reduceLeDiff, reduceCtorEq, dl])
      | refine ev_skip ?_ | refine ev_block ?_ | refine ev_blk ?_ | refine ev_ret ?_ | refine ev_exit ?_ | refine evx_code_ret ?_ | refine evx_blk_ret ?_ | refine evx_lp_ret ?_
      | refine evx_code_exit ?_ | refine evx_lp_exit ?_ | refine evx_blk_hit ?_ | refine evx_blk_pass (by decide) ?_
      | refine And.intro ?_ ?_ | intro _ | decide +kernel | omega)
    refine ev_loop (ι := Nat) (fun k => [(0, .c (sEntryS xs)), (1, iT d), (5, iT (bA xs a)), (6, iT (if a = 0 then -1 else mgF xs (bA xs a))), (7, iT a), (8, .c (sEntryS ys)), (9, iT (mgTo ys k)), (10, iT (k + 2 : Nat))]) (fun _ => []) (fun _ => []) (fun k => k + 3 ≤ xs.length) (fun k => xs.length - k) 0 [] (by omega) (by simp only [go_sem, hP, ↓reduceIte, Nat.reduceAdd, Nat.reduceMul, Nat.reduceEqDiff, Nat.reduceSub, Nat.reduceLeDiff, reduceCtorEq]; simp [mgTo]) ?_
    intro k hk
    by_cases hk4 : k + 4 ≤ xs.length
    · obtain ⟨r1, r2, m1, m2, m3, m4⟩ := mg_step (k := k) hyr (by omega)
      have mi := mgTo_in hyr k (by omega)
      have dk : decide (((k + 2 : Nat) : Int) ≤ (xs.length : Int) - 2) = true := by simp only [decide_eq_true_eq]; omega
      have hw3 : IntKind.i64.wrap (((k + 2 : Nat) : Int) + 1) = (k + 1 + 2 : Nat) := by rw [i64_in _ (by omega)]; omega
      have l1 := rf_len r1
      have l2 := rf_len r2
      have b1 := s_l3Box (ys.take (k + 2)) d.toNat (even_take hye) (by simp; omega) (by omega)
      have b2 := s_l3Box (ys.drop (k + 2)) d.toNat (even_drop hye) (by simp; omega) (by omega)
      have g1 := s_l1Margin (bx (ys.take (k + 2))) (by omega)
      have g2 := s_l1Margin (bx (ys.drop (k + 2))) (by omega)
      have w1 : IntKind.i64.wrap (mgTo ys k + margin (bx (ys.take (k + 2)))) = mgTo ys k + margin (bx (ys.take (k + 2))) := i64_in _ (by omega)
      have w2 : IntKind.i64.wrap (mgTo ys k + margin (bx (ys.take (k + 2))) + margin (bx (ys.drop (k + 2)))) = mgTo ys (k + 1) := by rw [i64_in _ (by omega)]; simp only [mgTo]; omega
      have t1 : List.take (k + 2 - Int.toNat 0) (List.drop (Int.toNat 0) (ys.map eEntry)) = (ys.take (k + 2)).map eEntry := by rw [show Int.toNat 0 = 0 from rfl, Nat.sub_zero, List.drop_zero, List.map_take]
      have t2 : List.take (ys.length - (k + 2)) (List.drop (k + 2) (ys.map eEntry)) = (ys.drop (k + 2)).map eEntry := by rw [← List.map_drop, List.take_of_length_le (by simp)]
      generalize bx (ys.take (k + 2)) = p1 at *
      generalize bx (ys.drop (k + 2)) = p2 at *
      repeat' (first
        | exact True.intro
        | refine ev_seq ?_
        | ((first | refine vgd_go ?_ | refine ev_region hE hM (hS (by decide +kernel)) ?_ | refine ev_if ?_ | refine end_ret hE rfl rfl ?_ | refine end_norm hE rfl rfl ?_ | refine endG_ret [] hE rfl ?_ | refine endG_norm [] hE rfl ?_ | refine vcallB_of hP b1 ?_ | refine vcallB_of hP b2 ?_ | refine vcallB_of hP g1 ?_ | refine vcallB_of hP g2 ?_ | refine vcall_A ?_); simp (maxSteps := 2000000) only [go_sem, hP, ↓reduceIte, Nat.reduceAdd, Nat.reduceMul, Nat.reduceEqDiff, Nat.reduceSub, Nat.reduceLeDiff, reduceCtorEq, hw2, dk, w1, w2, t1, t2, List.length_map])
        | refine ev_skip ?_ | refine ev_block ?_ | refine ev_blk ?_ | refine ev_ret ?_ | refine ev_exit ?_ | refine evx_code_ret ?_ | refine evx_blk_ret ?_ | refine evx_lp_ret ?_
        | refine evx_code_exit ?_ | refine evx_lp_exit ?_ | refine evx_blk_hit ?_ | refine evx_blk_pass (by decide) ?_
        | refine And.intro ?_ ?_ | intro _ | decide +kernel | omega)
      all_goals first
        | exact ev_lp (k + 1) [] (by omega) (by omega) (by simp only [go_sem, hP, ↓reduceIte, Nat.reduceAdd, Nat.reduceMul, Nat.reduceEqDiff, Nat.reduceSub, Nat.reduceLeDiff, reduceCtorEq]; exact hw3)
        | (exfalso; omega)
        | omega
        | (simp_all; done)
        | trace_state
    · obtain rfl : k = xs.length - 3 := by omega
      have dk : decide (((xs.length - 3 + 2 : Nat) : Int) ≤ (xs.length : Int) - 2) = false := by simp only [decide_eq_false_iff_not]; omega
      rw [← hF]
      by_cases h0 : a = 0
      · subst h0
        repeat' (first
          | exact True.intro
          | refine ev_seq ?_
          | ((first | refine vgd_go ?_ | refine ev_region hE hM (hS (by decide +kernel)) ?_ | refine ev_if ?_ | refine end_ret hE rfl rfl ?_ | refine end_norm hE rfl rfl ?_ | refine endG_ret [] hE rfl ?_ | refine endG_norm [] hE rfl ?_ | refine vcall_A ?_); simp (maxSteps := 2000000) only [go_sem, hP, ↓reduceIte, Nat.reduceAdd, Nat.reduceMul, Nat.reduceEqDiff, Nat.reduceSub, Nat.reduceLeDiff, reduceCtorEq, hw2, dk, List.length_map])
          | refine ev_skip ?_ | refine ev_block ?_ | refine ev_blk ?_ | refine ev_ret ?_ | refine ev_exit ?_ | refine evx_code_ret ?_ | refine evx_blk_ret ?_ | refine evx_lp_ret ?_
          | refine evx_code_exit ?_ | refine evx_lp_exit ?_ | refine evx_blk_hit ?_ | refine evx_blk_pass (by decide) ?_
          | refine And.intro ?_ ?_ | intro _ | decide +kernel | omega)
        all_goals first
          | exact ev_lp 1 [] (by omega) (by omega) (by simp only [go_sem, hP, ↓reduceIte, Nat.reduceAdd, Nat.reduceMul, Nat.reduceEqDiff, Nat.reduceSub, Nat.reduceLeDiff, reduceCtorEq]; simp [hw1, bA, show IntKind.i64.wrap 1 = 1 from rfl])
          | (exfalso; omega)
          | omega
          | (simp_all; done)
          | trace_state
      · have d0 : decide (mgF xs (bA xs a) < 0) = false := by simp only [decide_eq_false_iff_not]; omega
        by_cases hc : mgF xs a < mgF xs (bA xs a)
        · have d1 := decide_eq_true hc
          have e : bA xs (a + 1) = a := by show (if a = 0 then 0 else if mgF xs a < mgF xs (bA xs a) then a else bA xs a) = a; rw [if_neg h0, if_pos hc]
          repeat' (first
            | exact True.intro
            | refine ev_seq ?_
            | ((first | refine vgd_go ?_ | refine ev_region hE hM (hS (by decide +kernel)) ?_ | refine ev_if ?_ | refine end_ret hE rfl rfl ?_ | refine end_norm hE rfl rfl ?_ | refine endG_ret [] hE rfl ?_ | refine endG_norm [] hE rfl ?_ | refine vcall_A ?_); simp (maxSteps := 2000000) only [go_sem, hP, ↓reduceIte, Nat.reduceAdd, Nat.reduceMul, Nat.reduceEqDiff, Nat.reduceSub, Nat.reduceLeDiff, reduceCtorEq, hw2, dk, d0, d1, h0, List.length_map])
            | refine ev_skip ?_ | refine ev_block ?_ | refine ev_blk ?_ | refine ev_ret ?_ | refine ev_exit ?_ | refine evx_code_ret ?_ | refine evx_blk_ret ?_ | refine evx_lp_ret ?_
            | refine evx_code_exit ?_ | refine evx_lp_exit ?_ | refine evx_blk_hit ?_ | refine evx_blk_pass (by decide) ?_
            | refine And.intro ?_ ?_ | intro _ | decide +kernel | omega)
          all_goals first
            | exact ev_lp (a + 1) [] (by omega) (by omega) (by simp only [go_sem, hP, ↓reduceIte, Nat.reduceAdd, Nat.reduceMul, Nat.reduceEqDiff, Nat.reduceSub, Nat.reduceLeDiff, reduceCtorEq]; simp [hw1, e])
            | (exfalso; omega)
            | omega
            | (simp_all; done)
            | trace_state
        · have d1 := decide_eq_false hc
          have e : bA xs (a + 1) = bA xs a := by show (if a = 0 then 0 else if mgF xs a < mgF xs (bA xs a) then a else bA xs a) = _; rw [if_neg h0, if_neg hc]
          repeat' (first
            | exact True.intro
            | refine ev_seq ?_
            | ((first | refine vgd_go ?_ | refine ev_region hE hM (hS (by decide +kernel)) ?_ | refine ev_if ?_ | refine end_ret hE rfl rfl ?_ | refine end_norm hE rfl rfl ?_ | refine endG_ret [] hE rfl ?_ | refine endG_norm [] hE rfl ?_ | refine vcall_A ?_); simp (maxSteps := 2000000) only [go_sem, hP, ↓reduceIte, Nat.reduceAdd, Nat.reduceMul, Nat.reduceEqDiff, Nat.reduceSub, Nat.reduceLeDiff, reduceCtorEq, hw2, dk, d0, d1, h0, List.length_map])
            | refine ev_skip ?_ | refine ev_block ?_ | refine ev_blk ?_ | refine ev_ret ?_ | refine ev_exit ?_ | refine evx_code_ret ?_ | refine evx_blk_ret ?_ | refine evx_lp_ret ?_
            | refine evx_code_exit ?_ | refine evx_lp_exit ?_ | refine evx_blk_hit ?_ | refine evx_blk_pass (by decide) ?_
            | refine And.intro ?_ ?_ | intro _ | decide +kernel | omega)
          all_goals first
            | exact ev_lp (a + 1) [] (by omega) (by omega) (by simp only [go_sem, hP, ↓reduceIte, Nat.reduceAdd, Nat.reduceMul, Nat.reduceEqDiff, Nat.reduceSub, Nat.reduceLeDiff, reduceCtorEq]; simp [hw1, e, h0])
            | (exfalso; omega)
            | omega
            | (simp_all; done)
            | trace_state
  · have hae : (a : Int) = d := by omega
    have dl : decide ((a : Int) < d) = false := by simp only [decide_eq_false_iff_not]; exact hlt
    have he : d.toNat = a := by omega
    rw [he]
    repeat' (first
      | exact True.intro
      | refine ev_seq ?_
      | ((first | refine vgd_go ?_ | refine ev_region hE hM (hS (by decide +kernel)) ?_ | refine ev_if ?_ | refine end_ret hE rfl rfl ?_ | refine end_norm hE rfl rfl ?_ | refine endG_ret [] hE rfl ?_ | refine endG_norm [] hE rfl ?_ | refine vcall_A ?_); simp (maxSteps := 2000000) only [go_sem, hP, ↓reduceIte, Nat.reduceAdd, Nat.reduceMul, Nat.reduceEqDiff, Nat.reduceSub, Nat.reduceLeDiff, reduceCtorEq, dl])
      | refine ev_skip ?_ | refine ev_block ?_ | refine ev_blk ?_ | refine ev_ret ?_ | refine ev_exit ?_ | refine evx_code_ret ?_ | refine evx_blk_ret ?_ | refine evx_lp_ret ?_
      | refine evx_code_exit ?_ | refine evx_lp_exit ?_ | refine evx_blk_hit ?_ | refine evx_blk_pass (by decide) ?_
      | refine And.intro ?_ ?_ | intro _ | decide +kernel | omega)
    all_goals first | rfl | (exfalso; omega) | (simp_all; done) | trace_state
theorem s_bestAxis (xs : List Entry) (d : Int) (hz : esf xs d = 0) (h4 : 4 ≤ xs.length) : Sat Try.prog 117 [aEntryS xs] true (rI (bA xs d.toNat)) := by
  refine sat_walk (fn := Try.f117) rfl rfl rfl (Nat.le_of_ble_eq_true rfl) fun fr hP hN hbnd => ?_
  have hE : (envOf fr Try.prog).Ok := envOf_ok hP
  have hM := follows_of hP
  have hS : ∀ {draw ops}, statB Try.f117.ntmps draw ops = true → statB (envOf fr Try.prog).fr.N draw ops = true := fun h => by rw [envOf_fr, hN]; exact h
  have hz1 := esf_len hz
  have hrf := esf_rf hz
  have hev := rf_even hrf
  have e0 := (rf_len (hrf _ (getD_mem (d := default) (show 0 < xs.length by omega)))).1
  have k0 := s_ownDims (xs.getD 0 default).rect
  rw [e0] at k0
  repeat' (first
    | exact True.intro
    | refine ev_seq ?_
    | ((first | refine vgd_go ?_ | refine ev_region hE hM (hS (by decide +kernel)) ?_ | refine ev_if ?_ | refine end_ret hE rfl rfl ?_ | refine end_norm hE rfl rfl ?_ | refine endG_ret [] hE rfl ?_ | refine endG_norm [] hE rfl ?_ | refine vcallB_of hP k0 ?_ | refine vcall_A ?_); simp (maxSteps := 2000000) only [go_sem, hP, ↓reduceIte, Nat.reduceAdd, Nat.reduceMul, Nat.reduceEqDiff, Nat.reduceSub, Nat.reduceLeDiff, reduceCtorEq, List.length_map])
    | refine ev_skip ?_ | refine ev_block ?_ | refine ev_blk ?_ | refine ev_ret ?_ | refine ev_exit ?_ | refine evx_code_ret ?_ | refine evx_blk_ret ?_ | refine evx_lp_ret ?_
    | refine evx_code_exit ?_ | refine evx_lp_exit ?_ | refine evx_blk_hit ?_ | refine evx_blk_pass (by decide) ?_
    | refine And.intro ?_ ?_ | intro _ | decide +kernel | omega)
  all_goals first | (exfalso; omega) | omega | skip
  refine ev_loop (ι := Nat) (fun a => [(0, .c (sEntryS xs)), (3, iT (if a = 0 then -1 else (bA xs a : Int))), (4, iT (if a = 0 then 0 else mgF xs (bA xs a))), (13, iT d), (14, iT a)]) (fun _ => []) (fun _ => []) (fun a => (a : Int) ≤ d) (fun a => d.toNat - a) 0 [] (by omega) (by simp only [go_sem, hP, ↓reduceIte, Nat.reduceAdd, Nat.reduceMul, Nat.reduceEqDiff, Nat.reduceSub, Nat.reduceLeDiff, reduceCtorEq]; simp) ?_
  intro a ha
  by_cases hlt : (a : Int) < d
  · have hw1 : IntKind.i64.wrap ((a : Int) + 1) = a + 1 := i64_in _ (by omega)
    have hw2 : IntKind.i64.wrap ((xs.length : Int) - 2) = xs.length - 2 := i64_in _ (by omega)
    have dl : decide ((a : Int) < d) = true := by simp only [decide_eq_true_eq]; exact hlt
    have c1 := s_sorted xs a d.toNat hev (by omega) (by omega) (by omega)
    have hyr := sortE_rf a hrf
    have hye := rf_even hyr
    have hyl := sortE_len a xs
    have hF : mgF xs a = mgTo (sortE a xs) (xs.length - 3) := rfl
    have hf1 := mgF_in hrf h4 a
    have hf2 := mgF_in hrf h4 (bA xs a)
    generalize sortE a xs = ys at *
    repeat' (first
      | exact True.intro
      | refine ev_seq ?_
      | ((first | refine vgd_go ?_ | refine ev_region hE hM (hS (by decide +kernel)) ?_ | refine ev_if ?_ | refine end_ret hE rfl rfl ?_ | refine end_norm hE rfl rfl ?_ | refine endG_ret [] hE rfl ?_ | refine endG_norm [] hE rfl ?_ | refine vcallB_of hP c1 ?_ | refine vcall_A ?_); simp (maxSteps := 2000000) only [go_sem, hP, ↓reduceIte, Nat.reduceAdd, Nat.reduceMul, Nat.reduceEqDiff, Nat.reduceSub, Nat.reduceLeDiff, reduceCtorEq, dl])
      | refine ev_skip ?_ | refine ev_block ?_ | refine ev_blk ?_ | refine ev_ret ?_ | refine ev_exit ?_ | refine evx_code_ret ?_ | refine evx_blk_ret ?_ | refine evx_lp_ret ?_
      | refine evx_code_exit ?_ | refine evx_lp_exit ?_ | refine evx_blk_hit ?_ | refine evx_blk_pass (by decide) ?_
      | refine And.intro ?_ ?_ | intro _ | decide +kernel | omega)
    refine ev_loop (ι := Nat) (fun k => [(0, .c (sEntryS xs)), (3, iT (if a = 0 then -1 else (bA xs a : Int))), (4, iT (if a = 0 then 0 else mgF xs (bA xs a))), (13, iT d), (14, iT a), (5, iT a), (6, .ref 100000), (7, iT (mgTo ys k)), (8, iT (k + 2 : Nat))]) (fun _ => [(100000, .fro 4 (ys.map eEntry))]) (fun _ => []) (fun k => k + 3 ≤ xs.length) (fun k => xs.length - k) 0 [(100000, some 20496)] (by omega) (by simp only [go_sem, hP, ↓reduceIte, Nat.reduceAdd, Nat.reduceMul, Nat.reduceEqDiff, Nat.reduceSub, Nat.reduceLeDiff, reduceCtorEq]; simp [mgTo]) ?_
    intro k hk
    by_cases hk4 : k + 4 ≤ xs.length
    · obtain ⟨r1, r2, m1, m2, m3, m4⟩ := mg_step (k := k) hyr (by omega)
      have mi := mgTo_in hyr k (by omega)
      have dk : decide (((k + 2 : Nat) : Int) ≤ (xs.length : Int) - 2) = true := by simp only [decide_eq_true_eq]; omega
      have hw3 : IntKind.i64.wrap (((k + 2 : Nat) : Int) + 1) = (k + 1 + 2 : Nat) := by rw [i64_in _ (by omega)]; omega
      have l1 := rf_len r1
      have l2 := rf_len r2
      have b1 := s_box (ys.take (k + 2)) d.toNat (even_take hye) (by simp; omega) (by omega)
      have b2 := s_box (ys.drop (k + 2)) d.toNat (even_drop hye) (by simp; omega) (by omega)
      have g1 := s_implmargin (bx (ys.take (k + 2))) (by omega)
      have g2 := s_implmargin (bx (ys.drop (k + 2))) (by omega)
      have w1 : IntKind.i64.wrap (margin (bx (ys.take (k + 2))) + margin (bx (ys.drop (k + 2)))) = margin (bx (ys.take (k + 2))) + margin (bx (ys.drop (k + 2))) := i64_in _ (by omega)
      have w2 : IntKind.i64.wrap (mgTo ys k + (margin (bx (ys.take (k + 2))) + margin (bx (ys.drop (k + 2))))) = mgTo ys (k + 1) := by rw [i64_in _ (by omega)]; simp only [mgTo]
      have t1 : List.take (k + 2 - Int.toNat 0) (List.drop (Int.toNat 0) (ys.map eEntry)) = (ys.take (k + 2)).map eEntry := by rw [show Int.toNat 0 = 0 from rfl, Nat.sub_zero, List.drop_zero, List.map_take]
      have t2 : List.take (ys.length - (k + 2)) (List.drop (k + 2) (ys.map eEntry)) = (ys.drop (k + 2)).map eEntry := by rw [← List.map_drop, List.take_of_length_le (by simp)]
      generalize bx (ys.take (k + 2)) = p1 at *
      generalize bx (ys.drop (k + 2)) = p2 at *
      repeat' (first
        | exact True.intro
        | refine ev_seq ?_
        | ((first | refine vgd_go ?_ | refine ev_region hE hM (hS (by decide +kernel)) ?_ | refine ev_if ?_ | refine end_ret hE rfl rfl ?_ | refine end_norm hE rfl rfl ?_ | refine endG_ret [] hE rfl ?_ | refine endG_norm [] hE rfl ?_ | refine vcallB_of hP b1 ?_ | refine vcallB_of hP b2 ?_ | refine vcallB_of hP g1 ?_ | refine vcallB_of hP g2 ?_ | refine vcall_A ?_); simp (maxSteps := 2000000) only [go_sem, hP, ↓reduceIte, Nat.reduceAdd, Nat.reduceMul, Nat.reduceEqDiff, Nat.reduceSub, Nat.reduceLeDiff, reduceCtorEq, hw2, dk, w1, w2, t1, t2, List.length_map])
        | refine ev_skip ?_ | refine ev_block ?_ | refine ev_blk ?_ | refine ev_ret ?_ | refine ev_exit ?_ | refine evx_code_ret ?_ | refine evx_blk_ret ?_ | refine evx_lp_ret ?_
        | refine evx_code_exit ?_ | refine evx_lp_exit ?_ | refine evx_blk_hit ?_ | refine evx_blk_pass (by decide) ?_
        | refine And.intro ?_ ?_ | intro _ | decide +kernel | omega)
      all_goals first
        | exact ev_lp (k + 1) [] (by omega) (by omega) (by simp only [go_sem, hP, ↓reduceIte, Nat.reduceAdd, Nat.reduceMul, Nat.reduceEqDiff, Nat.reduceSub, Nat.reduceLeDiff, reduceCtorEq]; exact hw3)
        | (exfalso; omega)
        | omega
        | (simp_all; done)
        | trace_state
    · obtain rfl : k = xs.length - 3 := by omega
      have dk : decide (((xs.length - 3 + 2 : Nat) : Int) ≤ (xs.length : Int) - 2) = false := by simp only [decide_eq_false_iff_not]; omega
      rw [← hF]
      by_cases h0 : a = 0
      · subst h0
        repeat' (first
          | exact True.intro
          | refine ev_seq ?_
          | ((first | refine vgd_go ?_ | refine ev_region hE hM (hS (by decide +kernel)) ?_ | refine ev_if ?_ | refine end_ret hE rfl rfl ?_ | refine end_norm hE rfl rfl ?_ | refine endG_ret [] hE rfl ?_ | refine endG_norm [] hE rfl ?_ | refine vcall_A ?_); simp (maxSteps := 2000000) only [go_sem, hP, ↓reduceIte, Nat.reduceAdd, Nat.reduceMul, Nat.reduceEqDiff, Nat.reduceSub, Nat.reduceLeDiff, reduceCtorEq, hw2, dk, List.length_map])
          | refine ev_skip ?_ | refine ev_block ?_ | refine ev_blk ?_ | refine ev_ret ?_ | refine ev_exit ?_ | refine evx_code_ret ?_ | refine evx_blk_ret ?_ | refine evx_lp_ret ?_
          | refine evx_code_exit ?_ | refine evx_lp_exit ?_ | refine evx_blk_hit ?_ | refine evx_blk_pass (by decide) ?_
          | refine And.intro ?_ ?_ | intro _ | decide +kernel | omega)
        all_goals first
          | exact ev_lp 1 [] (by omega) (by omega) (by simp only [go_sem, hP, ↓reduceIte, Nat.reduceAdd, Nat.reduceMul, Nat.reduceEqDiff, Nat.reduceSub, Nat.reduceLeDiff, reduceCtorEq]; simp [hw1, bA, show IntKind.i64.wrap 1 = 1 from rfl])
          | (exfalso; omega)
          | omega
          | (simp_all; done)
          | trace_state
      · have d0 : decide ((bA xs a : Int) < 0) = false := by simp only [decide_eq_false_iff_not]; omega
        by_cases hc : mgF xs a < mgF xs (bA xs a)
        · have d1 := decide_eq_true hc
          have e : bA xs (a + 1) = a := by show (if a = 0 then 0 else if mgF xs a < mgF xs (bA xs a) then a else bA xs a) = a; rw [if_neg h0, if_pos hc]
          repeat' (first
            | exact True.intro
            | refine ev_seq ?_
            | ((first | refine vgd_go ?_ | refine ev_region hE hM (hS (by decide +kernel)) ?_ | refine ev_if ?_ | refine end_ret hE rfl rfl ?_ | refine end_norm hE rfl rfl ?_ | refine endG_ret [] hE rfl ?_ | refine endG_norm [] hE rfl ?_ | refine vcall_A ?_); simp (maxSteps := 2000000) only [go_sem, hP, ↓reduceIte, Nat.reduceAdd, Nat.reduceMul, Nat.reduceEqDiff, Nat.reduceSub, Nat.reduceLeDiff, reduceCtorEq, hw2, dk, d0, d1, h0, List.length_map])
            | refine ev_skip ?_ | refine ev_block ?_ | refine ev_blk ?_ | refine ev_ret ?_ | refine ev_exit ?_ | refine evx_code_ret ?_ | refine evx_blk_ret ?_ | refine evx_lp_ret ?_
            | refine evx_code_exit ?_ | refine evx_lp_exit ?_ | refine evx_blk_hit ?_ | refine evx_blk_pass (by decide) ?_
            | refine And.intro ?_ ?_ | intro _ | decide +kernel | omega)
          all_goals first
            | exact ev_lp (a + 1) [] (by omega) (by omega) (by simp only [go_sem, hP, ↓reduceIte, Nat.reduceAdd, Nat.reduceMul, Nat.reduceEqDiff, Nat.reduceSub, Nat.reduceLeDiff, reduceCtorEq]; simp [hw1, e])
            | (exfalso; omega)
            | omega
            | (simp_all; done)
            | trace_state
        · have d1 := decide_eq_false hc
          have e : bA xs (a + 1) = bA xs a := by show (if a = 0 then 0 else if mgF xs a < mgF xs (bA xs a) then a else bA xs a) = _; rw [if_neg h0, if_neg hc]
          repeat' (first
            | exact True.intro
            | refine ev_seq ?_
            | ((first | refine vgd_go ?_ | refine ev_region hE hM (hS (by decide +kernel)) ?_ | refine ev_if ?_ | refine end_ret hE rfl rfl ?_ | refine end_norm hE rfl rfl ?_ | refine endG_ret [] hE rfl ?_ | refine endG_norm [] hE rfl ?_ | refine vcall_A ?_); simp (maxSteps := 2000000) only [go_sem, hP, ↓reduceIte, Nat.reduceAdd, Nat.reduceMul, Nat.reduceEqDiff, Nat.reduceSub, Nat.reduceLeDiff, reduceCtorEq, hw2, dk, d0, d1, h0, List.length_map])
            | refine ev_skip ?_ | refine ev_block ?_ | refine ev_blk ?_ | refine ev_ret ?_ | refine ev_exit ?_ | refine evx_code_ret ?_ | refine evx_blk_ret ?_ | refine evx_lp_ret ?_
            | refine evx_code_exit ?_ | refine evx_lp_exit ?_ | refine evx_blk_hit ?_ | refine evx_blk_pass (by decide) ?_
            | refine And.intro ?_ ?_ | intro _ | decide +kernel | omega)
          all_goals first
            | exact ev_lp (a + 1) [] (by omega) (by omega) (by simp only [go_sem, hP, ↓reduceIte, Nat.reduceAdd, Nat.reduceMul, Nat.reduceEqDiff, Nat.reduceSub, Nat.reduceLeDiff, reduceCtorEq]; simp [hw1, e, h0])
            | (exfalso; omega)
            | omega
            | (simp_all; done)
            | trace_state
  · have hae : (a : Int) = d := by omega
    have dl : decide ((a : Int) < d) = false := by simp only [decide_eq_false_iff_not]; exact hlt
    have he : d.toNat = a := by omega
    have h0 : ¬ a = 0 := by omega
    rw [he]
    repeat' (first
      | exact True.intro
      | refine ev_seq ?_
      | ((first | refine vgd_go ?_ | refine ev_region hE hM (hS (by decide +kernel)) ?_ | refine ev_if ?_ | refine end_ret hE rfl rfl ?_ | refine end_norm hE rfl rfl ?_ | refine endG_ret [] hE rfl ?_ | refine endG_norm [] hE rfl ?_ | refine vcall_A ?_); simp (maxSteps := 2000000) only [go_sem, hP, ↓reduceIte, Nat.reduceAdd, Nat.reduceMul, Nat.reduceEqDiff, Nat.reduceSub, Nat.reduceLeDiff, reduceCtorEq, dl, h0])
      | refine ev_skip ?_ | refine ev_block ?_ | refine ev_blk ?_ | refine ev_ret ?_ | refine ev_exit ?_ | refine evx_code_ret ?_ | refine evx_blk_ret ?_ | refine evx_lp_ret ?_
      | refine evx_code_exit ?_ | refine evx_lp_exit ?_ | refine evx_blk_hit ?_ | refine evx_blk_pass (by decide) ?_
      | refine And.intro ?_ ?_ | intro _ | decide +kernel | omega)
    all_goals first | rfl | (exfalso; omega) | (simp_all; done) | trace_state
theorem s_l5Parts (xs ys : List Entry) (h1 : wEntryS xs ≤ 1048576) (h2 : wEntryS ys ≤ 1048576) : Sat Try.prog 126 [aEntryS xs, aEntryS ys] true [(true, [.int .i64 0, oEntryS xs, oEntryS ys])] := by
  refine sat_walk (fn := Try.f126) rfl rfl rfl (Nat.le_of_ble_eq_true rfl) fun fr hP hN hbnd => ?_
  have hE : (envOf fr Try.prog).Ok := envOf_ok hP
  have hM := follows_of hP
  have hS : ∀ {draw ops}, statB Try.f126.ntmps draw ops = true → statB (envOf fr Try.prog).fr.N draw ops = true := fun h => by rw [envOf_fr, hN]; exact h
  repeat' (first
    | exact True.intro
    | refine ev_seq ?_
    | ((first | refine vgd_go ?_ | refine ev_region hE hM (hS (by decide +kernel)) ?_ | refine ev_if ?_ | refine end_ret hE rfl rfl ?_ | refine end_norm hE rfl rfl ?_ | refine endG_ret [] hE rfl ?_ | refine endG_norm [] hE rfl ?_ | refine vcallB_of hP (s_l3Entries xs h1) ?_ | refine vcallB_of hP (s_l3Entries ys h2) ?_ | refine vcall_A ?_); simp (maxSteps := 2000000) only [go_sem, hP, ↓reduceIte, Nat.reduceAdd, Nat.reduceMul, Nat.reduceEqDiff, Nat.reduceSub, Nat.reduceLeDiff, reduceCtorEq])
    | refine ev_skip ?_ | refine ev_block ?_ | refine ev_blk ?_ | refine ev_ret ?_ | refine ev_exit ?_ | refine evx_code_ret ?_ | refine evx_blk_ret ?_ | refine evx_lp_ret ?_
    | refine evx_code_exit ?_ | refine evx_lp_exit ?_ | refine evx_blk_hit ?_ | refine evx_blk_pass (by decide) ?_
    | refine And.intro ?_ ?_ | intro _ | decide +kernel | omega)
@[go_sem] abbrev aPtR (c : Int) (xs ys : List Entry) : Arg := .d (true, [.int .i64 c, sEntryS xs, sEntryS ys])
@[go_sem] abbrev rPtR (c : Int) (xs ys : List Entry) : List Dat := [(true, [.int .i64 c, oEntryS xs, oEntryS ys])]
@[go_sem] abbrev tPtR (c : Int) (a b : Nat) : T := .agg [iT c, .ref a, .ref b]
theorem s_parted (c : Int) (zs xs ys : List Entry) (sem : List Dat → List Dat → Prop) (hs : c = 0 → sem [(false, [sEntryS zs])] [(false, [oEntryS xs]), (false, [oEntryS ys])]) (h0 : c ≠ 0 → xs = [] ∧ ys = []) :
    Sat Try.prog 128 [aI c, aEntryS zs, .fn sem] true (rPtR c xs ys) := by
  refine sat_walk (fn := Try.f128) rfl rfl rfl (Nat.le_of_ble_eq_true rfl) fun fr hP hN hbnd => ?_
  have hE : (envOf fr Try.prog).Ok := envOf_ok hP
  have hM := follows_of hP
  have hS : ∀ {draw ops}, statB Try.f128.ntmps draw ops = true → statB (envOf fr Try.prog).fr.N draw ops = true := fun h => by rw [envOf_fr, hN]; exact h
  by_cases hc : c = 0
  · subst hc
    repeat' (first
      | exact True.intro
      | refine ev_seq ?_
      | ((first | refine vgd_go ?_ | refine ev_region hE hM (hS (by decide +kernel)) ?_ | refine ev_if ?_ | refine end_ret hE rfl rfl ?_ | refine end_norm hE rfl rfl ?_ | refine endG_ret [] hE rfl ?_ | refine endG_norm [] hE rfl ?_ | refine vcallFn_of [(false, [sEntryS zs])] [] [(false, [oEntryS xs]), (false, [oEntryS ys])] (by simp only [go_sem, hP, ↓reduceIte, Nat.reduceAdd, Nat.reduceMul, Nat.reduceEqDiff, Nat.reduceSub, Nat.reduceLeDiff, reduceCtorEq]) (hs rfl) ?_ | refine vcall_A ?_); simp (maxSteps := 2000000) only [go_sem, hP, ↓reduceIte, Nat.reduceAdd, Nat.reduceMul, Nat.reduceEqDiff, Nat.reduceSub, Nat.reduceLeDiff, reduceCtorEq])
      | refine ev_skip ?_ | refine ev_block ?_ | refine ev_blk ?_ | refine ev_ret ?_ | refine ev_exit ?_ | refine evx_code_ret ?_ | refine evx_blk_ret ?_ | refine evx_lp_ret ?_
      | refine evx_code_exit ?_ | refine evx_lp_exit ?_ | refine evx_blk_hit ?_ | refine evx_blk_pass (by decide) ?_
      | refine And.intro ?_ ?_ | intro _ | decide +kernel | omega)
    all_goals first | rfl | (simp_all; done) | trace_state
  · obtain ⟨rfl, rfl⟩ := h0 hc
    have d0 : (c != 0) = true := by simpa using hc
    repeat' (first
      | exact True.intro
      | refine ev_seq ?_
      | ((first | refine vgd_go ?_ | refine ev_region hE hM (hS (by decide +kernel)) ?_ | refine ev_if ?_ | refine end_ret hE rfl rfl ?_ | refine end_norm hE rfl rfl ?_ | refine endG_ret [] hE rfl ?_ | refine endG_norm [] hE rfl ?_ | refine vcall_A ?_); simp (maxSteps := 2000000) only [go_sem, hP, ↓reduceIte, Nat.reduceAdd, Nat.reduceMul, Nat.reduceEqDiff, Nat.reduceSub, Nat.reduceLeDiff, reduceCtorEq, d0])
      | refine ev_skip ?_ | refine ev_block ?_ | refine ev_blk ?_ | refine ev_ret ?_ | refine ev_exit ?_ | refine evx_code_ret ?_ | refine evx_blk_ret ?_ | refine evx_lp_ret ?_
      | refine evx_code_exit ?_ | refine evx_lp_exit ?_ | refine evx_blk_hit ?_ | refine evx_blk_pass (by decide) ?_
      | refine And.intro ?_ ?_ | intro _ | decide +kernel | omega)
    all_goals first | rfl | (simp_all; done) | trace_state
theorem s_eqPartsResult (c c' : Int) (xs ys xs' ys' : List Entry) : Sat Try.prog 34 [aPtR c xs ys, aPtR c' xs' ys'] true (rB (decide (c = c' ∧ xs = xs' ∧ ys = ys'))) := by
  refine sat_walk (fn := Try.f34) rfl rfl rfl (Nat.le_of_ble_eq_true rfl) fun fr hP hN hbnd => ?_
  have hE : (envOf fr Try.prog).Ok := envOf_ok hP
  have hM := follows_of hP
  have hS : ∀ {draw ops}, statB Try.f34.ntmps draw ops = true → statB (envOf fr Try.prog).fr.N draw ops = true := fun h => by rw [envOf_fr, hN]; exact h
  repeat' (first
    | exact True.intro
    | refine ev_seq ?_
    | ((first | refine vgd_go ?_ | refine ev_region hE hM (hS (by decide +kernel)) ?_ | refine ev_if ?_ | refine end_ret hE rfl rfl ?_ | refine end_norm hE rfl rfl ?_ | refine endG_ret [] hE rfl ?_ | refine endG_norm [] hE rfl ?_ | refine vcallB_of hP (s_eqEntryS xs xs') ?_ | refine vcallB_of hP (s_eqEntryS ys ys') ?_ | refine vcall_A ?_); simp (maxSteps := 2000000) only [go_sem, hP, ↓reduceIte, Nat.reduceAdd, Nat.reduceMul, Nat.reduceEqDiff, Nat.reduceSub, Nat.reduceLeDiff, reduceCtorEq])
    | refine ev_skip ?_ | refine ev_block ?_ | refine ev_blk ?_ | refine ev_ret ?_ | refine ev_exit ?_ | refine evx_code_ret ?_ | refine evx_blk_ret ?_ | refine evx_lp_ret ?_
    | refine evx_code_exit ?_ | refine evx_lp_exit ?_ | refine evx_blk_hit ?_ | refine evx_blk_pass (by decide) ?_
    | refine And.intro ?_ ?_ | intro _ | decide +kernel | omega)
  all_goals simp_all
theorem s_markPartsResult (c : Int) (xs ys : List Entry) (k : Int) (h0 : 0 ≤ k) (h1 : k + sumW mwEntry xs + sumW mwEntry ys ≤ mMax) : SatG Try.prog 35 true [tPtR c 1 2, iT k] [gEs 1 xs, gEs 2 ys] (iT (k + sumW mwEntry xs + sumW mwEntry ys)) [gEs 1 (markedEs k xs), gEs 2 (markedEs (k + sumW mwEntry xs) ys)] := by
  refine satG_walk (fn := Try.f35) rfl rfl rfl (Nat.le_of_ble_eq_true rfl) (by simp) fun fr hP hN hdp hb1 hb2 => ?_
  have hE : (envOf fr Try.prog).Ok := envOf_ok hP
  have hM := follows_of hP
  have hS : ∀ {draw ops}, statB Try.f35.ntmps draw ops = true → statB (envOf fr Try.prog).fr.N draw ops = true := fun h => by rw [envOf_fr, hN]; exact h
  have hY : ∀ b, (envOf fr Try.prog).fr.Y b → (envOf fr Try.prog).fr.X b := fun b hb => hdp rfl b hb
  have c1 := s_markEntryS xs k h0 (by omega)
  have c2 := s_markEntryS ys (k + sumW mwEntry xs) (by omega) h1
  repeat' (first
    | exact True.intro
    | refine ev_seq ?_
    | ((first | refine ev_stop 1 ?_ | refine vgd_go ?_ | refine ev_region hE hM (hS (by decide +kernel)) ?_ | refine ev_if ?_ | refine end_ret hE rfl rfl ?_ | refine end_norm hE rfl rfl ?_ | refine endG_ret [] hE rfl ?_ | refine endG_norm [] hE rfl ?_ | refine vcall_A ?_); simp (maxSteps := 2000000) only [go_sem, hP, ↓reduceIte, Nat.reduceAdd, Nat.reduceMul, Nat.reduceEqDiff, Nat.reduceSub, Nat.reduceLeDiff, reduceCtorEq])
    | refine ev_skip ?_ | refine ev_block ?_ | refine ev_blk ?_ | refine ev_ret ?_ | refine ev_exit ?_ | refine evx_code_ret ?_ | refine evx_blk_ret ?_ | refine evx_lp_ret ?_
    | refine evx_code_exit ?_ | refine evx_lp_exit ?_ | refine evx_blk_hit ?_ | refine evx_blk_pass (by decide) ?_
    | refine And.intro ?_ ?_ | intro _ | decide +kernel | omega)
  first | refine Stop.mk ?_ | skip
  refine ev_cut [(1, iT k), (2, .ptr 0 0)] [(0, .box [iT c, .ref 1, .ref 2]), gEs 1 xs, gEs 2 ys] [(0, .ref 1), (1, .ref 2)] [] (by simp only [go_sem, hP, ↓reduceIte, Nat.reduceAdd, Nat.reduceMul, Nat.reduceEqDiff, Nat.reduceSub, Nat.reduceLeDiff, reduceCtorEq]) ?_
  repeat' (first
    | exact True.intro
    | refine ev_seq ?_
    | ((first | refine ev_regionC (id := 1) (pre := [_, _, _]) hE rfl (hS (by decide +kernel)) ?_ | refine vgd_go ?_ | refine ev_region hE hM (hS (by decide +kernel)) ?_ | refine ev_if ?_ | refine end_ret hE rfl rfl ?_ | refine end_norm hE rfl rfl ?_ | refine endG_ret [] hE rfl ?_ | refine endG_norm [] hE rfl ?_ | refine vcall_A ?_); simp (maxSteps := 2000000) only [go_sem, hP, ↓reduceIte, Nat.reduceAdd, Nat.reduceMul, Nat.reduceEqDiff, Nat.reduceSub, Nat.reduceLeDiff, reduceCtorEq])
    | refine ev_skip ?_ | refine ev_block ?_ | refine ev_blk ?_ | refine ev_ret ?_ | refine ev_exit ?_ | refine evx_code_ret ?_ | refine evx_blk_ret ?_ | refine evx_lp_ret ?_
    | refine evx_code_exit ?_ | refine evx_lp_exit ?_ | refine evx_blk_hit ?_ | refine evx_blk_pass (by decide) ?_
    | refine And.intro ?_ ?_ | intro _ | decide +kernel | omega)
  refine callM_of [(1, 1)] [] [(2, .ptr 0 0), (6, .ref 1), (7, iT k)] [(0, .box [iT c, .ref 1, .ref 2]), gEs 1 xs, gEs 2 ys] [(0, .ref 1), (1, .ref 2)] hP c1 hY rfl rfl (by rw [envOf_fr, hN]; decide) (by simp only [go_sem, hP, ↓reduceIte, Nat.reduceAdd, Nat.reduceMul, Nat.reduceEqDiff, Nat.reduceSub, Nat.reduceLeDiff, reduceCtorEq]) rfl rfl (by simp only [go_sem, hP, ↓reduceIte, Nat.reduceAdd, Nat.reduceMul, Nat.reduceEqDiff, Nat.reduceSub, Nat.reduceLeDiff, reduceCtorEq] <;> simp) (by simp only [go_sem, hP, ↓reduceIte, Nat.reduceAdd, Nat.reduceMul, Nat.reduceEqDiff, Nat.reduceSub, Nat.reduceLeDiff, reduceCtorEq] <;> simp) ?_
  simp only [go_sem, hP, ↓reduceIte, Nat.reduceAdd, Nat.reduceMul, Nat.reduceEqDiff, Nat.reduceSub, Nat.reduceLeDiff, reduceCtorEq]
  repeat' (first
    | exact True.intro
    | refine ev_seq ?_
    | ((first | refine ev_stop 2 ?_ | refine vgd_go ?_ | refine ev_region hE hM (hS (by decide +kernel)) ?_ | refine ev_if ?_ | refine end_ret hE rfl rfl ?_ | refine end_norm hE rfl rfl ?_ | refine endG_ret [] hE rfl ?_ | refine endG_norm [] hE rfl ?_ | refine vcall_A ?_); simp (maxSteps := 2000000) only [go_sem, hP, ↓reduceIte, Nat.reduceAdd, Nat.reduceMul, Nat.reduceEqDiff, Nat.reduceSub, Nat.reduceLeDiff, reduceCtorEq])
    | refine ev_skip ?_ | refine ev_block ?_ | refine ev_blk ?_ | refine ev_ret ?_ | refine ev_exit ?_ | refine evx_code_ret ?_ | refine evx_blk_ret ?_ | refine evx_lp_ret ?_
    | refine evx_code_exit ?_ | refine evx_lp_exit ?_ | refine evx_blk_hit ?_ | refine evx_blk_pass (by decide) ?_
    | refine And.intro ?_ ?_ | intro _ | decide +kernel | omega)
  first | refine Stop.mk ?_ | skip
  refine ev_cut [(1, iT (k + sumW mwEntry xs)), (2, .ptr 0 0)] [(0, .box [iT c, .ref 1, .ref 2]), gEs 1 (markedEs k xs), gEs 2 ys] [(0, .ref 1), (1, .ref 2)] [] (by simp only [go_sem, hP, ↓reduceIte, Nat.reduceAdd, Nat.reduceMul, Nat.reduceEqDiff, Nat.reduceSub, Nat.reduceLeDiff, reduceCtorEq]) ?_
  repeat' (first
    | exact True.intro
    | refine ev_seq ?_
    | ((first | refine ev_regionC (id := 2) (pre := [_, _, _]) hE rfl (hS (by decide +kernel)) ?_ | refine vgd_go ?_ | refine ev_region hE hM (hS (by decide +kernel)) ?_ | refine ev_if ?_ | refine end_ret hE rfl rfl ?_ | refine end_norm hE rfl rfl ?_ | refine endG_ret [] hE rfl ?_ | refine endG_norm [] hE rfl ?_ | refine vcall_A ?_); simp (maxSteps := 2000000) only [go_sem, hP, ↓reduceIte, Nat.reduceAdd, Nat.reduceMul, Nat.reduceEqDiff, Nat.reduceSub, Nat.reduceLeDiff, reduceCtorEq])
    | refine ev_skip ?_ | refine ev_block ?_ | refine ev_blk ?_ | refine ev_ret ?_ | refine ev_exit ?_ | refine evx_code_ret ?_ | refine evx_blk_ret ?_ | refine evx_lp_ret ?_
    | refine evx_code_exit ?_ | refine evx_lp_exit ?_ | refine evx_blk_hit ?_ | refine evx_blk_pass (by decide) ?_
    | refine And.intro ?_ ?_ | intro _ | decide +kernel | omega)
  refine callM_of [(1, 2)] [] [(2, .ptr 0 0), (10, .ref 2), (11, iT (k + sumW mwEntry xs))] [(0, .box [iT c, .ref 1, .ref 2]), gEs 1 (markedEs k xs), gEs 2 ys] [(0, .ref 1), (1, .ref 2)] hP c2 hY rfl rfl (by rw [envOf_fr, hN]; decide) (by simp only [go_sem, hP, ↓reduceIte, Nat.reduceAdd, Nat.reduceMul, Nat.reduceEqDiff, Nat.reduceSub, Nat.reduceLeDiff, reduceCtorEq]) rfl rfl (by simp only [go_sem, hP, ↓reduceIte, Nat.reduceAdd, Nat.reduceMul, Nat.reduceEqDiff, Nat.reduceSub, Nat.reduceLeDiff, reduceCtorEq] <;> simp) (by simp only [go_sem, hP, ↓reduceIte, Nat.reduceAdd, Nat.reduceMul, Nat.reduceEqDiff, Nat.reduceSub, Nat.reduceLeDiff, reduceCtorEq] <;> simp) ?_
  simp only [go_sem, hP, ↓reduceIte, Nat.reduceAdd, Nat.reduceMul, Nat.reduceEqDiff, Nat.reduceSub, Nat.reduceLeDiff, reduceCtorEq]
  repeat' (first
    | exact True.intro
    | refine ev_seq ?_
    | ((first | refine vgd_go ?_ | refine ev_region hE hM (hS (by decide +kernel)) ?_ | refine ev_if ?_ | refine end_ret hE rfl rfl ?_ | refine end_norm hE rfl rfl ?_ | refine endG_ret [] hE rfl ?_ | refine endG_norm [] hE rfl ?_ | refine vcall_A ?_); simp (maxSteps := 2000000) only [go_sem, hP, ↓reduceIte, Nat.reduceAdd, Nat.reduceMul, Nat.reduceEqDiff, Nat.reduceSub, Nat.reduceLeDiff, reduceCtorEq])
    | refine ev_skip ?_ | refine ev_block ?_ | refine ev_blk ?_ | refine ev_ret ?_ | refine ev_exit ?_ | refine evx_code_ret ?_ | refine evx_blk_ret ?_ | refine evx_lp_ret ?_
    | refine evx_code_exit ?_ | refine evx_lp_exit ?_ | refine evx_blk_hit ?_ | refine evx_blk_pass (by decide) ?_
    | refine And.intro ?_ ?_ | intro _ | decide +kernel | omega)
theorem s_heldPartsResult (c : Int) (xs ys : List Entry) (k : Int) (h0 : 0 ≤ k) (h1 : k + sumW mwEntry xs + sumW mwEntry ys ≤ mMax) : Sat Try.prog 36 [aPtR c (markedEs k xs) (markedEs (k + sumW mwEntry xs) ys), aI k] true (rI (k + sumW mwEntry xs + sumW mwEntry ys)) := by
  refine sat_walk (fn := Try.f36) rfl rfl rfl (Nat.le_of_ble_eq_true rfl) fun fr hP hN hbnd => ?_
  have hE : (envOf fr Try.prog).Ok := envOf_ok hP
  have hM := follows_of hP
  have hS : ∀ {draw ops}, statB Try.f36.ntmps draw ops = true → statB (envOf fr Try.prog).fr.N draw ops = true := fun h => by rw [envOf_fr, hN]; exact h
  repeat' (first
    | exact True.intro
    | refine ev_seq ?_
    | ((first | refine vgd_go ?_ | refine ev_region hE hM (hS (by decide +kernel)) ?_ | refine ev_if ?_ | refine end_ret hE rfl rfl ?_ | refine end_norm hE rfl rfl ?_ | refine endG_ret [] hE rfl ?_ | refine endG_norm [] hE rfl ?_ | refine vcallB_of hP (s_heldEntryS xs k h0 (by omega)) ?_ | refine vcallB_of hP (s_heldEntryS ys (k + sumW mwEntry xs) (by omega) h1) ?_ | refine vcall_A ?_); simp (maxSteps := 2000000) only [go_sem, hP, ↓reduceIte, Nat.reduceAdd, Nat.reduceMul, Nat.reduceEqDiff, Nat.reduceSub, Nat.reduceLeDiff, reduceCtorEq])
    | refine ev_skip ?_ | refine ev_block ?_ | refine ev_blk ?_ | refine ev_ret ?_ | refine ev_exit ?_ | refine evx_code_ret ?_ | refine evx_blk_ret ?_ | refine evx_lp_ret ?_
    | refine evx_code_exit ?_ | refine evx_lp_exit ?_ | refine evx_blk_hit ?_ | refine evx_blk_pass (by decide) ?_
    | refine And.intro ?_ ?_ | intro _ | decide +kernel | omega)
  all_goals (exfalso; omega)
def oF (ys : List Entry) (c : Nat) : Int := overlap (bx (ys.take c)) (bx (ys.drop c))
def aF (ys : List Entry) (c : Nat) : Int := area (bx (ys.take c)) + area (bx (ys.drop c))
def bC (ys : List Entry) : Nat → Nat
  | 0 => 0
  | k + 1 => if k = 0 ∨ oF ys (k + 2) < oF ys (bC ys k) ∨ oF ys (k + 2) = oF ys (bC ys k) ∧ aF ys (k + 2) < aF ys (bC ys k) then k + 2 else bC ys k
theorem bC_in (ys : List Entry) : ∀ k, 0 < k → 2 ≤ bC ys k ∧ bC ys k ≤ k + 1
  | 0, h => by omega
  | k + 1, _ => by
    unfold bC
    split
    · omega
    · rename_i h
      have := bC_in ys k (by omega)
      omega
def starY (xs : List Entry) (d : Int) : List Entry := sortE (bA xs d.toNat) xs
def starC (xs : List Entry) (d : Int) : Nat := bC (starY xs d) (xs.length - 3)
def stC (ys : List Entry) (a b : Nat) : Int := if cmpI (oF ys a) (oF ys b) ≠ 0 then cmpI (oF ys a) (oF ys b) else cmpI (aF ys a) (aF ys b)
theorem stC_neg (ys : List Entry) (a b : Nat) : stC ys a b < 0 ↔ oF ys a < oF ys b ∨ oF ys a = oF ys b ∧ aF ys a < aF ys b := by
  unfold stC cmpI
  (repeat' split) <;> omega
theorem cut_in {ys : List Entry} {d : Int} {c : Nat} (h : ∀ x ∈ ys, rf x.rect d = 0) (h0 : 0 < c) (h1 : c < ys.length) :
    rf (bx (ys.take c)) d = 0 ∧ rf (bx (ys.drop c)) d = 0 ∧ 0 ≤ area (bx (ys.take c)) ∧ area (bx (ys.take c)) ≤ 8000000000 ∧ 0 ≤ area (bx (ys.drop c)) ∧ area (bx (ys.drop c)) ≤ 8000000000 := by
  have r1 := bx_rf (xs := ys.take c) (d := d) (fun x hx => h x (List.mem_of_mem_take hx)) (by simp; omega)
  have r2 := bx_rf (xs := ys.drop c) (d := d) (fun x hx => h x (List.mem_of_mem_drop hx)) (by simp; omega)
  have a1 := area_in r1
  have a2 := area_in r2
  exact ⟨r1, r2, a1.2.1, a1.2.2, a2.2.1, a2.2.2⟩
theorem s_Star1 (ys : List Entry) (d : Int) (a b : Nat) (hr : ∀ x ∈ ys, rf x.rect d = 0) (ha : 0 < a) (ha' : a < ys.length) (hb : 0 < b) (hb' : b < ys.length) (hl : ys.length ≤ 1000) : Sat Try.prog 243 [aI a, aI b, .pv [sEntryS ys]] true (rI (stC ys a b)) := by
  refine sat_walk (fn := Try.f243) rfl rfl rfl (Nat.le_of_ble_eq_true rfl) fun fr hP hN hbnd => ?_
  have hE : (envOf fr Try.prog).Ok := envOf_ok hP
  have hM := follows_of hP
  have hS : ∀ {draw ops}, statB Try.f243.ntmps draw ops = true → statB (envOf fr Try.prog).fr.N draw ops = true := fun h => by rw [envOf_fr, hN]; exact h
  have hev := rf_even hr
  obtain ⟨r1, r2, m1, m2, m3, m4⟩ := cut_in hr ha ha'
  obtain ⟨r3, r4, m5, m6, m7, m8⟩ := cut_in hr hb hb'
  have d2 := rf_two r1
  have b1 := s_box (ys.take a) d.toNat (even_take hev) (by simp; omega) (by omega)
  have b2 := s_box (ys.drop a) d.toNat (even_drop hev) (by simp; omega) (by omega)
  have b3 := s_box (ys.take b) d.toNat (even_take hev) (by simp; omega) (by omega)
  have b4 := s_box (ys.drop b) d.toNat (even_drop hev) (by simp; omega) (by omega)
  have ov1 := s_overlap (bx (ys.take a)) (bx (ys.drop a)) (two_fit (two_of r1 r2))
  have ov2 := s_overlap (bx (ys.take b)) (bx (ys.drop b)) (two_fit (two_of r3 r4))
  have q1 := s_implarea (bx (ys.take a)) (by have := rf_len r1; omega)
  have q2 := s_implarea (bx (ys.drop a)) (by have := rf_len r2; omega)
  have q3 := s_implarea (bx (ys.take b)) (by have := rf_len r3; omega)
  have q4 := s_implarea (bx (ys.drop b)) (by have := rf_len r4; omega)
  have w1 : IntKind.i64.wrap (area (bx (ys.take a)) + area (bx (ys.drop a))) = aF ys a := i64_in _ (by omega)
  have w2 : IntKind.i64.wrap (area (bx (ys.take b)) + area (bx (ys.drop b))) = aF ys b := i64_in _ (by omega)
  have t1 : List.take (a - Int.toNat 0) (List.drop (Int.toNat 0) (ys.map eEntry)) = (ys.take a).map eEntry := by rw [show Int.toNat 0 = 0 from rfl, Nat.sub_zero, List.drop_zero, List.map_take]
  have t2 : List.take (ys.length - a) (List.drop a (ys.map eEntry)) = (ys.drop a).map eEntry := by rw [← List.map_drop, List.take_of_length_le (by simp)]
  have t3 : List.take (b - Int.toNat 0) (List.drop (Int.toNat 0) (ys.map eEntry)) = (ys.take b).map eEntry := by rw [show Int.toNat 0 = 0 from rfl, Nat.sub_zero, List.drop_zero, List.map_take]
  have t4 : List.take (ys.length - b) (List.drop b (ys.map eEntry)) = (ys.drop b).map eEntry := by rw [← List.map_drop, List.take_of_length_le (by simp)]
  have e : stC ys a b = if cmpI (oF ys a) (oF ys b) ≠ 0 then cmpI (oF ys a) (oF ys b) else cmpI (aF ys a) (aF ys b) := rfl
  have c1 := s_Compare (oF ys a) (oF ys b)
  have c2 := s_Compare (aF ys a) (aF ys b)
  have c3 := s_Or (cmpI (oF ys a) (oF ys b)) (cmpI (aF ys a) (aF ys b))
  rw [← e] at c3
  rw [show overlap (bx (ys.take a)) (bx (ys.drop a)) = oF ys a from rfl] at ov1
  rw [show overlap (bx (ys.take b)) (bx (ys.drop b)) = oF ys b from rfl] at ov2
  generalize oF ys a = o1 at *
  generalize oF ys b = o2 at *
  generalize aF ys a = z1 at *
  generalize aF ys b = z2 at *
  generalize stC ys a b = z at *
  generalize bx (ys.take a) = p1 at *
  generalize bx (ys.drop a) = p2 at *
  generalize bx (ys.take b) = p3 at *
  generalize bx (ys.drop b) = p4 at *
  repeat' (first
    | exact True.intro
    | refine ev_seq ?_
    | ((first | refine vgd_go ?_ | refine ev_region hE hM (hS (by decide +kernel)) ?_ | refine ev_if ?_ | refine end_ret hE rfl rfl ?_ | refine end_norm hE rfl rfl ?_ | refine endG_ret [] hE rfl ?_ | refine endG_norm [] hE rfl ?_ | refine vcallB_of hP b1 ?_ | refine vcallB_of hP b2 ?_ | refine vcallB_of hP b3 ?_ | refine vcallB_of hP b4 ?_ | refine vcallB_of hP ov1 ?_ | refine vcallB_of hP ov2 ?_ | refine vcallB_of hP q1 ?_ | refine vcallB_of hP q2 ?_ | refine vcallB_of hP q3 ?_ | refine vcallB_of hP q4 ?_ | refine vcallB_of hP c1 ?_ | refine vcallB_of hP c2 ?_ | refine vcallB_of hP c3 ?_ | refine vcall_A ?_); simp (maxSteps := 2000000) only [go_sem, hP, ↓reduceIte, Nat.reduceAdd, Nat.reduceMul, Nat.reduceEqDiff, Nat.reduceSub, Nat.reduceLeDiff, reduceCtorEq, t1, t2, t3, t4, w1, w2, List.length_map])
    | refine ev_skip ?_ | refine ev_block ?_ | refine ev_blk ?_ | refine ev_ret ?_ | refine ev_exit ?_ | refine evx_code_ret ?_ | refine evx_blk_ret ?_ | refine evx_lp_ret ?_
    | refine evx_code_exit ?_ | refine evx_lp_exit ?_ | refine evx_blk_hit ?_ | refine evx_blk_pass (by decide) ?_
    | refine And.intro ?_ ?_ | intro _ | decide +kernel | omega)
  all_goals first | rfl | (exfalso; omega) | omega | (simp_all; done) | trace_state
theorem s_splitStar (xs : List Entry) (d : Int) (hz : esf xs d = 0) (h4 : 4 ≤ xs.length) : Sat Try.prog 131 [aEntryS xs] true [(false, [oEntryS ((starY xs d).take (starC xs d))]), (false, [oEntryS ((starY xs d).drop (starC xs d))])] := by
  refine sat_walk (fn := Try.f131) rfl rfl rfl (Nat.le_of_ble_eq_true rfl) fun fr hP hN hbnd => ?_
  have hE : (envOf fr Try.prog).Ok := envOf_ok hP
  have hM := follows_of hP
  have hS : ∀ {draw ops}, statB Try.f131.ntmps draw ops = true → statB (envOf fr Try.prog).fr.N draw ops = true := fun h => by rw [envOf_fr, hN]; exact h
  have hz1 := esf_len hz
  have hrf := esf_rf hz
  have hev := rf_even hrf
  have hba := bA_lt xs d.toNat (by omega)
  have k1 := s_bestAxis xs d hz h4
  have k2 := s_sorted xs (bA xs d.toNat) d.toNat hev hba (by omega) (by omega)
  have hyr := sortE_rf (bA xs d.toNat) hrf
  have hyl := sortE_len (bA xs d.toNat) xs
  have hC : starC xs d = bC (starY xs d) (xs.length - 3) := rfl
  rw [show sortE (bA xs d.toNat) xs = starY xs d from rfl] at k2 hyr hyl
  generalize starY xs d = ys at *
  have hw2 : IntKind.i64.wrap ((xs.length : Int) - 2) = xs.length - 2 := i64_in _ (by omega)
  repeat' (first
    | exact True.intro
    | refine ev_seq ?_
    | ((first | refine vgd_go ?_ | refine ev_region hE hM (hS (by decide +kernel)) ?_ | refine ev_if ?_ | refine end_ret hE rfl rfl ?_ | refine end_norm hE rfl rfl ?_ | refine endG_ret [] hE rfl ?_ | refine endG_norm [] hE rfl ?_ | refine vcallB_of hP k1 ?_ | refine vcallB_of hP k2 ?_ | refine vcall_A ?_); simp (maxSteps := 2000000) only [go_sem, hP, ↓reduceIte, Nat.reduceAdd, Nat.reduceMul, Nat.reduceEqDiff, Nat.reduceSub, Nat.reduceLeDiff, reduceCtorEq])
    | refine ev_skip ?_ | refine ev_block ?_ | refine ev_blk ?_ | refine ev_ret ?_ | refine ev_exit ?_ | refine evx_code_ret ?_ | refine evx_blk_ret ?_ | refine evx_lp_ret ?_
    | refine evx_code_exit ?_ | refine evx_lp_exit ?_ | refine evx_blk_hit ?_ | refine evx_blk_pass (by decide) ?_
    | refine And.intro ?_ ?_ | intro _ | decide +kernel | omega)
  refine ev_loop (ι := Nat) (fun k => [(0, .c (sEntryS xs)), (4, .ptr 4128 0), (5, iT (bC ys k)), (6, .clo 243 [.ptr 4128 0]), (7, iT (k + 2 : Nat))]) (fun _ => [(4128, .box [.ref 4120]), (4120, .fro 4 (ys.map eEntry))]) (fun _ => []) (fun k => k + 3 ≤ xs.length) (fun k => xs.length - k) 0 [] (by omega) (by simp only [go_sem, hP, ↓reduceIte, Nat.reduceAdd, Nat.reduceMul, Nat.reduceEqDiff, Nat.reduceSub, Nat.reduceLeDiff, reduceCtorEq]; simp [bC, simTs, simT, lk, ren]) ?_
  intro k hk
  by_cases hk4 : k + 4 ≤ xs.length
  · have dk : decide (((k + 2 : Nat) : Int) ≤ (xs.length : Int) - 2) = true := by simp only [decide_eq_true_eq]; omega
    have hw3 : IntKind.i64.wrap (((k + 2 : Nat) : Int) + 1) = (k + 1 + 2 : Nat) := by rw [i64_in _ (by omega)]; omega
    by_cases h0 : k = 0
    · subst h0
      have e1 : bC ys 1 = 2 := by simp [bC]
      have d0 : ((bC ys 0 : Int) == 0) = true := rfl
      repeat' (first
        | exact True.intro
        | refine ev_seq ?_
        | ((first | refine vgd_go ?_ | refine ev_region hE hM (hS (by decide +kernel)) ?_ | refine ev_if ?_ | refine end_ret hE rfl rfl ?_ | refine end_norm hE rfl rfl ?_ | refine endG_ret [] hE rfl ?_ | refine endG_norm [] hE rfl ?_ | refine vcall_A ?_); simp (maxSteps := 2000000) only [go_sem, hP, ↓reduceIte, Nat.reduceAdd, Nat.reduceMul, Nat.reduceEqDiff, Nat.reduceSub, Nat.reduceLeDiff, reduceCtorEq, hw2, dk, d0, List.length_map])
        | refine ev_skip ?_ | refine ev_block ?_ | refine ev_blk ?_ | refine ev_ret ?_ | refine ev_exit ?_ | refine evx_code_ret ?_ | refine evx_blk_ret ?_ | refine evx_lp_ret ?_
        | refine evx_code_exit ?_ | refine evx_lp_exit ?_ | refine evx_blk_hit ?_ | refine evx_blk_pass (by decide) ?_
        | refine And.intro ?_ ?_ | intro _ | decide +kernel | omega)
      all_goals first
        | exact ev_lp 1 [] (by omega) (by omega) (by simp only [go_sem, hP, ↓reduceIte, Nat.reduceAdd, Nat.reduceMul, Nat.reduceEqDiff, Nat.reduceSub, Nat.reduceLeDiff, reduceCtorEq]; rw [e1]; simp [simTs, simT, lk, ren]; exact hw3)
        | (exfalso; omega)
        | omega
        | (simp_all; done)
        | trace_state
    · have hb := bC_in ys k (by omega)
      have d0 : ((bC ys k : Int) == 0) = false := beq_eq_false_iff_ne.2 (by omega)
      have c1 := s_Star1 ys d (k + 2) (bC ys k) hyr (by omega) (by omega) (by omega) (by omega) (by omega)
      have hn := stC_neg ys (k + 2) (bC ys k)
      have e : bC ys (k + 1) = if k = 0 ∨ oF ys (k + 2) < oF ys (bC ys k) ∨ oF ys (k + 2) = oF ys (bC ys k) ∧ aF ys (k + 2) < aF ys (bC ys k) then k + 2 else bC ys k := rfl
      by_cases hc : stC ys (k + 2) (bC ys k) < 0
      · have d1 := decide_eq_true hc
        rw [if_pos (Or.inr (hn.1 hc))] at e
        generalize stC ys (k + 2) (bC ys k) = v at *
        repeat' (first
          | exact True.intro
          | refine ev_seq ?_
          | ((first | refine vgd_go ?_ | refine ev_region hE hM (hS (by decide +kernel)) ?_ | refine ev_if ?_ | refine end_ret hE rfl rfl ?_ | refine end_norm hE rfl rfl ?_ | refine endG_ret [] hE rfl ?_ | refine endG_norm [] hE rfl ?_ | refine vcallB_of hP c1 ?_ | refine vcall_A ?_); simp (maxSteps := 2000000) only [go_sem, hP, ↓reduceIte, Nat.reduceAdd, Nat.reduceMul, Nat.reduceEqDiff, Nat.reduceSub, Nat.reduceLeDiff, reduceCtorEq, hw2, dk, d0, d1, List.length_map])
          | refine ev_skip ?_ | refine ev_block ?_ | refine ev_blk ?_ | refine ev_ret ?_ | refine ev_exit ?_ | refine evx_code_ret ?_ | refine evx_blk_ret ?_ | refine evx_lp_ret ?_
          | refine evx_code_exit ?_ | refine evx_lp_exit ?_ | refine evx_blk_hit ?_ | refine evx_blk_pass (by decide) ?_
          | refine And.intro ?_ ?_ | intro _ | decide +kernel | omega)
        all_goals first
          | exact ev_lp (k + 1) [] (by omega) (by omega) (by simp only [go_sem, hP, ↓reduceIte, Nat.reduceAdd, Nat.reduceMul, Nat.reduceEqDiff, Nat.reduceSub, Nat.reduceLeDiff, reduceCtorEq]; rw [e]; simp [simTs, simT, lk, ren]; exact hw3)
          | (exfalso; omega)
          | omega
          | (simp_all; done)
          | trace_state
      · have d1 := decide_eq_false hc
        rw [if_neg (fun hh => hc (hn.2 (hh.resolve_left h0)))] at e
        generalize stC ys (k + 2) (bC ys k) = v at *
        repeat' (first
          | exact True.intro
          | refine ev_seq ?_
          | ((first | refine vgd_go ?_ | refine ev_region hE hM (hS (by decide +kernel)) ?_ | refine ev_if ?_ | refine end_ret hE rfl rfl ?_ | refine end_norm hE rfl rfl ?_ | refine endG_ret [] hE rfl ?_ | refine endG_norm [] hE rfl ?_ | refine vcallB_of hP c1 ?_ | refine vcall_A ?_); simp (maxSteps := 2000000) only [go_sem, hP, ↓reduceIte, Nat.reduceAdd, Nat.reduceMul, Nat.reduceEqDiff, Nat.reduceSub, Nat.reduceLeDiff, reduceCtorEq, hw2, dk, d0, d1, List.length_map])
          | refine ev_skip ?_ | refine ev_block ?_ | refine ev_blk ?_ | refine ev_ret ?_ | refine ev_exit ?_ | refine evx_code_ret ?_ | refine evx_blk_ret ?_ | refine evx_lp_ret ?_
          | refine evx_code_exit ?_ | refine evx_lp_exit ?_ | refine evx_blk_hit ?_ | refine evx_blk_pass (by decide) ?_
          | refine And.intro ?_ ?_ | intro _ | decide +kernel | omega)
        all_goals first
          | exact ev_lp (k + 1) [] (by omega) (by omega) (by simp only [go_sem, hP, ↓reduceIte, Nat.reduceAdd, Nat.reduceMul, Nat.reduceEqDiff, Nat.reduceSub, Nat.reduceLeDiff, reduceCtorEq]; rw [e]; simp [simTs, simT, lk, ren]; exact hw3)
          | (exfalso; omega)
          | omega
          | (simp_all; done)
          | trace_state
  · obtain rfl : k = xs.length - 3 := by omega
    have dk : decide (((xs.length - 3 + 2 : Nat) : Int) ≤ (xs.length : Int) - 2) = false := by simp only [decide_eq_false_iff_not]; omega
    have hb := bC_in ys (xs.length - 3) (by omega)
    rw [← hC] at hb ⊢
    generalize starC xs d = c at *
    have t1 : List.take (c - Int.toNat 0) (List.drop (Int.toNat 0) (ys.map eEntry)) = (ys.take c).map eEntry := by rw [show Int.toNat 0 = 0 from rfl, Nat.sub_zero, List.drop_zero, List.map_take]
    have t2 : List.take (ys.length - c) (List.drop c (ys.map eEntry)) = (ys.drop c).map eEntry := by rw [← List.map_drop, List.take_of_length_le (by simp)]
    have g1 := even_w (xs := ys.take c) (d := d) (fun e he => hyr e (List.mem_of_mem_take he))
    have g2 := even_w (xs := ys.drop c) (d := d) (fun e he => hyr e (List.mem_of_mem_drop he))
    rw [List.length_take] at g1
    rw [List.length_drop] at g2
    have w1 := s_clonedEntries (ys.take c) (by omega)
    have w2 := s_clonedEntries (ys.drop c) (by omega)
    repeat' (first
      | exact True.intro
      | refine ev_seq ?_
      | ((first | refine vgd_go ?_ | refine ev_region hE hM (hS (by decide +kernel)) ?_ | refine ev_if ?_ | refine end_ret hE rfl rfl ?_ | refine end_norm hE rfl rfl ?_ | refine endG_ret [] hE rfl ?_ | refine endG_norm [] hE rfl ?_ | refine vcallB_of hP w1 ?_ | refine vcallB_of hP w2 ?_ | refine vcall_A ?_); simp (maxSteps := 2000000) only [go_sem, hP, ↓reduceIte, Nat.reduceAdd, Nat.reduceMul, Nat.reduceEqDiff, Nat.reduceSub, Nat.reduceLeDiff, reduceCtorEq, hw2, dk, t1, t2, List.length_map])
      | refine ev_skip ?_ | refine ev_block ?_ | refine ev_blk ?_ | refine ev_ret ?_ | refine ev_exit ?_ | refine evx_code_ret ?_ | refine evx_blk_ret ?_ | refine evx_lp_ret ?_
      | refine evx_code_exit ?_ | refine evx_lp_exit ?_ | refine evx_blk_hit ?_ | refine evx_blk_pass (by decide) ?_
      | refine And.intro ?_ ?_ | intro _ | decide +kernel | omega)
    all_goals first | rfl | (exfalso; omega) | omega | (simp_all; done) | trace_state
theorem s_l5Star (xs : List Entry) (d : Int) (hz : esf xs d = 0) (h4 : 4 ≤ xs.length) : Sat Try.prog 130 [aEntryS xs, aI d] false [(false, [sEntryS ((starY xs d).take (starC xs d))]), (false, [sEntryS ((starY xs d).drop (starC xs d))])] := by
  refine sat_walk (fn := Try.f130) rfl rfl rfl (Nat.le_of_ble_eq_true rfl) fun fr hP hN hbnd => ?_
  have hE : (envOf fr Try.prog).Ok := envOf_ok hP
  have hM := follows_of hP
  have hS : ∀ {draw ops}, statB Try.f130.ntmps draw ops = true → statB (envOf fr Try.prog).fr.N draw ops = true := fun h => by rw [envOf_fr, hN]; exact h
  have hz1 := esf_len hz
  have hrf := esf_rf hz
  have hev := rf_even hrf
  have hba := bA_lt xs d.toNat (by omega)
  have k1 := s_l5Axis xs d hz h4
  have k2 := s_l5Sort xs (bA xs d.toNat) d.toNat hev hba (by omega) (by omega)
  have hyr := sortE_rf (bA xs d.toNat) hrf
  have hyl := sortE_len (bA xs d.toNat) xs
  have hC : starC xs d = bC (starY xs d) (xs.length - 3) := rfl
  rw [show sortE (bA xs d.toNat) xs = starY xs d from rfl] at k2 hyr hyl
  generalize starY xs d = ys at *
  have hye := rf_even hyr
  have hw2 : IntKind.i64.wrap ((xs.length : Int) - 2) = xs.length - 2 := i64_in _ (by omega)
  repeat' (first
    | exact True.intro
    | refine ev_seq ?_
    | ((first | refine vgd_go ?_ | refine ev_region hE hM (hS (by decide +kernel)) ?_ | refine ev_if ?_ | refine end_ret hE rfl rfl ?_ | refine end_norm hE rfl rfl ?_ | refine endG_ret [] hE rfl ?_ | refine endG_norm [] hE rfl ?_ | refine vcallB_of hP k1 ?_ | refine vcallB_of hP k2 ?_ | refine vcall_A ?_); simp (maxSteps := 2000000) only [go_sem, hP, ↓reduceIte, Nat.reduceAdd, Nat.reduceMul, Nat.reduceEqDiff, Nat.reduceSub, Nat.reduceLeDiff, reduceCtorEq])
    | refine ev_skip ?_ | refine ev_block ?_ | refine ev_blk ?_ | refine ev_ret ?_ | refine ev_exit ?_ | refine evx_code_ret ?_ | refine evx_blk_ret ?_ | refine evx_lp_ret ?_
    | refine evx_code_exit ?_ | refine evx_lp_exit ?_ | refine evx_blk_hit ?_ | refine evx_blk_pass (by decide) ?_
    | refine And.intro ?_ ?_ | intro _ | decide +kernel | omega)
  refine ev_loop (ι := Nat) (fun k => [(0, .c (sEntryS xs)), (6, .c (sEntryS ys)), (7, iT (bC ys k)), (8, iT (if k = 0 then 0 else oF ys (bC ys k))), (9, iT (if k = 0 then 0 else aF ys (bC ys k))), (10, iT (k + 2 : Nat))]) (fun _ => []) (fun _ => []) (fun k => k + 3 ≤ xs.length) (fun k => xs.length - k) 0 [] (by omega) (by simp only [go_sem, hP, ↓reduceIte, Nat.reduceAdd, Nat.reduceMul, Nat.reduceEqDiff, Nat.reduceSub, Nat.reduceLeDiff, reduceCtorEq]; simp [bC]) ?_
  intro k hk
  by_cases hk4 : k + 4 ≤ xs.length
  · have dk : decide (((k + 2 : Nat) : Int) ≤ (xs.length : Int) - 2) = true := by simp only [decide_eq_true_eq]; omega
    have hw3 : IntKind.i64.wrap (((k + 2 : Nat) : Int) + 1) = (k + 1 + 2 : Nat) := by rw [i64_in _ (by omega)]; omega
    obtain ⟨r1, r2, m1, m2, m3, m4⟩ := cut_in (c := k + 2) hyr (by omega) (by omega)
    have b1 := s_l3Box (ys.take (k + 2)) d.toNat (even_take hye) (by simp; omega) (by omega)
    have b2 := s_l3Box (ys.drop (k + 2)) d.toNat (even_drop hye) (by simp; omega) (by omega)
    have ov1 := s_l1Overlap (bx (ys.take (k + 2))) (bx (ys.drop (k + 2))) (two_fit (two_of r1 r2))
    have q1 := s_l1Area (bx (ys.take (k + 2))) (by have := rf_len r1; omega)
    have q2 := s_l1Area (bx (ys.drop (k + 2))) (by have := rf_len r2; omega)
    have w1 : IntKind.i64.wrap (area (bx (ys.take (k + 2))) + area (bx (ys.drop (k + 2)))) = aF ys (k + 2) := i64_in _ (by omega)
    have t1 : List.take (k + 2 - Int.toNat 0) (List.drop (Int.toNat 0) (ys.map eEntry)) = (ys.take (k + 2)).map eEntry := by rw [show Int.toNat 0 = 0 from rfl, Nat.sub_zero, List.drop_zero, List.map_take]
    have t2 : List.take (ys.length - (k + 2)) (List.drop (k + 2) (ys.map eEntry)) = (ys.drop (k + 2)).map eEntry := by rw [← List.map_drop, List.take_of_length_le (by simp)]
    rw [show overlap (bx (ys.take (k + 2))) (bx (ys.drop (k + 2))) = oF ys (k + 2) from rfl] at ov1
    have e : bC ys (k + 1) = if k = 0 ∨ oF ys (k + 2) < oF ys (bC ys k) ∨ oF ys (k + 2) = oF ys (bC ys k) ∧ aF ys (k + 2) < aF ys (bC ys k) then k + 2 else bC ys k := rfl
    generalize bx (ys.take (k + 2)) = p1 at *
    generalize bx (ys.drop (k + 2)) = p2 at *
    by_cases h0 : k = 0
    · subst h0
      have e1 : bC ys 1 = 2 := by simp [bC]
      have d0 : ((bC ys 0 : Int) == 0) = true := rfl
      repeat' (first
        | exact True.intro
        | refine ev_seq ?_
        | ((first | refine vgd_go ?_ | refine ev_region hE hM (hS (by decide +kernel)) ?_ | refine ev_if ?_ | refine end_ret hE rfl rfl ?_ | refine end_norm hE rfl rfl ?_ | refine endG_ret [] hE rfl ?_ | refine endG_norm [] hE rfl ?_ | refine vcallB_of hP b1 ?_ | refine vcallB_of hP b2 ?_ | refine vcallB_of hP ov1 ?_ | refine vcallB_of hP q1 ?_ | refine vcallB_of hP q2 ?_ | refine vcall_A ?_); simp (maxSteps := 2000000) only [go_sem, hP, ↓reduceIte, Nat.reduceAdd, Nat.reduceMul, Nat.reduceEqDiff, Nat.reduceSub, Nat.reduceLeDiff, reduceCtorEq, hw2, dk, d0, w1, t1, t2, List.length_map])
        | refine ev_skip ?_ | refine ev_block ?_ | refine ev_blk ?_ | refine ev_ret ?_ | refine ev_exit ?_ | refine evx_code_ret ?_ | refine evx_blk_ret ?_ | refine evx_lp_ret ?_
        | refine evx_code_exit ?_ | refine evx_lp_exit ?_ | refine evx_blk_hit ?_ | refine evx_blk_pass (by decide) ?_
        | refine And.intro ?_ ?_ | intro _ | decide +kernel | omega)
      all_goals first
        | exact ev_lp 1 [] (by omega) (by omega) (by simp only [go_sem, hP, ↓reduceIte, Nat.reduceAdd, Nat.reduceMul, Nat.reduceEqDiff, Nat.reduceSub, Nat.reduceLeDiff, reduceCtorEq]; rw [e1]; exact ⟨rfl, rfl, rfl, hw3⟩)
        | (exfalso; omega)
        | omega
        | (simp_all; done)
        | trace_state
    · have hb := bC_in ys k (by omega)
      have d0 : ((bC ys k : Int) == 0) = false := beq_eq_false_iff_ne.2 (by omega)
      have eo : (if k = 0 then 0 else oF ys (bC ys k)) = oF ys (bC ys k) := if_neg h0
      have ea : (if k = 0 then 0 else aF ys (bC ys k)) = aF ys (bC ys k) := if_neg h0
      rw [eo, ea]
      by_cases c1 : oF ys (k + 2) < oF ys (bC ys k)
      · have d1 := decide_eq_true c1
        rw [if_pos (Or.inr (Or.inl c1))] at e
        repeat' (first
          | exact True.intro
          | refine ev_seq ?_
          | ((first | refine vgd_go ?_ | refine ev_region hE hM (hS (by decide +kernel)) ?_ | refine ev_if ?_ | refine end_ret hE rfl rfl ?_ | refine end_norm hE rfl rfl ?_ | refine endG_ret [] hE rfl ?_ | refine endG_norm [] hE rfl ?_ | refine vcallB_of hP b1 ?_ | refine vcallB_of hP b2 ?_ | refine vcallB_of hP ov1 ?_ | refine vcallB_of hP q1 ?_ | refine vcallB_of hP q2 ?_ | refine vcall_A ?_); simp (maxSteps := 2000000) only [go_sem, hP, ↓reduceIte, Nat.reduceAdd, Nat.reduceMul, Nat.reduceEqDiff, Nat.reduceSub, Nat.reduceLeDiff, reduceCtorEq, hw2, dk, w1, t1, t2, d0, d1, List.length_map])
          | refine ev_skip ?_ | refine ev_block ?_ | refine ev_blk ?_ | refine ev_ret ?_ | refine ev_exit ?_ | refine evx_code_ret ?_ | refine evx_blk_ret ?_ | refine evx_lp_ret ?_
          | refine evx_code_exit ?_ | refine evx_lp_exit ?_ | refine evx_blk_hit ?_ | refine evx_blk_pass (by decide) ?_
          | refine And.intro ?_ ?_ | intro _ | decide +kernel | omega)
        all_goals first
          | exact ev_lp (k + 1) [] (by omega) (by omega) (by simp only [go_sem, hP, ↓reduceIte, Nat.reduceAdd, Nat.reduceMul, Nat.reduceEqDiff, Nat.reduceSub, Nat.reduceLeDiff, reduceCtorEq]; rw [e]; first | exact ⟨rfl, rfl, rfl, hw3⟩ | exact ⟨rfl, hw3⟩ | exact hw3 | (simp; exact hw3))
          | (exfalso; omega)
          | omega
          | (simp_all; done)
          | trace_state
      · have d1 := decide_eq_false c1
        by_cases c2 : oF ys (k + 2) = oF ys (bC ys k)
        · have d2 : (oF ys (k + 2) == oF ys (bC ys k)) = true := beq_iff_eq.2 c2
          by_cases c3 : aF ys (k + 2) < aF ys (bC ys k)
          · have d3 := decide_eq_true c3
            rw [if_pos (Or.inr (Or.inr ⟨c2, c3⟩))] at e
            repeat' (first
              | exact True.intro
              | refine ev_seq ?_
              | ((first | refine vgd_go ?_ | refine ev_region hE hM (hS (by decide +kernel)) ?_ | refine ev_if ?_ | refine end_ret hE rfl rfl ?_ | refine end_norm hE rfl rfl ?_ | refine endG_ret [] hE rfl ?_ | refine endG_norm [] hE rfl ?_ | refine vcallB_of hP b1 ?_ | refine vcallB_of hP b2 ?_ | refine vcallB_of hP ov1 ?_ | refine vcallB_of hP q1 ?_ | refine vcallB_of hP q2 ?_ | refine vcall_A ?_); simp (maxSteps := 2000000) only [go_sem, hP, ↓reduceIte, Nat.reduceAdd, Nat.reduceMul, Nat.reduceEqDiff, Nat.reduceSub, Nat.reduceLeDiff, reduceCtorEq, hw2, dk, w1, t1, t2, d0, d1, d2, d3, List.length_map])
              | refine ev_skip ?_ | refine ev_block ?_ | refine ev_blk ?_ | refine ev_ret ?_ | refine ev_exit ?_ | refine evx_code_ret ?_ | refine evx_blk_ret ?_ | refine evx_lp_ret ?_
              | refine evx_code_exit ?_ | refine evx_lp_exit ?_ | refine evx_blk_hit ?_ | refine evx_blk_pass (by decide) ?_
              | refine And.intro ?_ ?_ | intro _ | decide +kernel | omega)
            all_goals first
              | exact ev_lp (k + 1) [] (by omega) (by omega) (by simp only [go_sem, hP, ↓reduceIte, Nat.reduceAdd, Nat.reduceMul, Nat.reduceEqDiff, Nat.reduceSub, Nat.reduceLeDiff, reduceCtorEq]; rw [e]; first | exact ⟨rfl, rfl, rfl, hw3⟩ | exact ⟨rfl, hw3⟩ | exact hw3 | (simp; exact hw3))
              | (exfalso; omega)
              | omega
              | (simp_all; done)
              | trace_state
          · have d3 := decide_eq_false c3
            rw [if_neg (by omega)] at e
            repeat' (first
              | exact True.intro
              | refine ev_seq ?_
              | ((first | refine vgd_go ?_ | refine ev_region hE hM (hS (by decide +kernel)) ?_ | refine ev_if ?_ | refine end_ret hE rfl rfl ?_ | refine end_norm hE rfl rfl ?_ | refine endG_ret [] hE rfl ?_ | refine endG_norm [] hE rfl ?_ | refine vcallB_of hP b1 ?_ | refine vcallB_of hP b2 ?_ | refine vcallB_of hP ov1 ?_ | refine vcallB_of hP q1 ?_ | refine vcallB_of hP q2 ?_ | refine vcall_A ?_); simp (maxSteps := 2000000) only [go_sem, hP, ↓reduceIte, Nat.reduceAdd, Nat.reduceMul, Nat.reduceEqDiff, Nat.reduceSub, Nat.reduceLeDiff, reduceCtorEq, hw2, dk, w1, t1, t2, d0, d1, d2, d3, List.length_map])
              | refine ev_skip ?_ | refine ev_block ?_ | refine ev_blk ?_ | refine ev_ret ?_ | refine ev_exit ?_ | refine evx_code_ret ?_ | refine evx_blk_ret ?_ | refine evx_lp_ret ?_
              | refine evx_code_exit ?_ | refine evx_lp_exit ?_ | refine evx_blk_hit ?_ | refine evx_blk_pass (by decide) ?_
              | refine And.intro ?_ ?_ | intro _ | decide +kernel | omega)
            all_goals first
              | exact ev_lp (k + 1) [] (by omega) (by omega) (by simp only [go_sem, hP, ↓reduceIte, Nat.reduceAdd, Nat.reduceMul, Nat.reduceEqDiff, Nat.reduceSub, Nat.reduceLeDiff, reduceCtorEq]; rw [e]; first | exact ⟨rfl, rfl, rfl, hw3⟩ | exact ⟨rfl, hw3⟩ | exact hw3 | (simp; exact hw3))
              | (exfalso; omega)
              | omega
              | (simp_all; done)
              | trace_state
        · have d2 : (oF ys (k + 2) == oF ys (bC ys k)) = false := beq_eq_false_iff_ne.2 c2
          rw [if_neg (by omega)] at e
          repeat' (first
            | exact True.intro
            | refine ev_seq ?_
            | ((first | refine vgd_go ?_ | refine ev_region hE hM (hS (by decide +kernel)) ?_ | refine ev_if ?_ | refine end_ret hE rfl rfl ?_ | refine end_norm hE rfl rfl ?_ | refine endG_ret [] hE rfl ?_ | refine endG_norm [] hE rfl ?_ | refine vcallB_of hP b1 ?_ | refine vcallB_of hP b2 ?_ | refine vcallB_of hP ov1 ?_ | refine vcallB_of hP q1 ?_ | refine vcallB_of hP q2 ?_ | refine vcall_A ?_); simp (maxSteps := 2000000) only [go_sem, hP, ↓reduceIte, Nat.reduceAdd, Nat.reduceMul, Nat.reduceEqDiff, Nat.reduceSub, Nat.reduceLeDiff, reduceCtorEq, hw2, dk, w1, t1, t2, d0, d1, d2, List.length_map])
            | refine ev_skip ?_ | refine ev_block ?_ | refine ev_blk ?_ | refine ev_ret ?_ | refine ev_exit ?_ | refine evx_code_ret ?_ | refine evx_blk_ret ?_ | refine evx_lp_ret ?_
            | refine evx_code_exit ?_ | refine evx_lp_exit ?_ | refine evx_blk_hit ?_ | refine evx_blk_pass (by decide) ?_
            | refine And.intro ?_ ?_ | intro _ | decide +kernel | omega)
          all_goals first
            | exact ev_lp (k + 1) [] (by omega) (by omega) (by simp only [go_sem, hP, ↓reduceIte, Nat.reduceAdd, Nat.reduceMul, Nat.reduceEqDiff, Nat.reduceSub, Nat.reduceLeDiff, reduceCtorEq]; rw [e]; first | exact ⟨rfl, rfl, rfl, hw3⟩ | exact ⟨rfl, hw3⟩ | exact hw3 | (simp; exact hw3))
            | (exfalso; omega)
            | omega
            | (simp_all; done)
            | trace_state
  · obtain rfl : k = xs.length - 3 := by omega
    have dk : decide (((xs.length - 3 + 2 : Nat) : Int) ≤ (xs.length : Int) - 2) = false := by simp only [decide_eq_false_iff_not]; omega
    have hb := bC_in ys (xs.length - 3) (by omega)
    rw [← hC] at hb ⊢
    generalize starC xs d = c at *
    have t1 : List.take (c - Int.toNat 0) (List.drop (Int.toNat 0) (ys.map eEntry)) = (ys.take c).map eEntry := by rw [show Int.toNat 0 = 0 from rfl, Nat.sub_zero, List.drop_zero, List.map_take]
    have t2 : List.take (ys.length - c) (List.drop c (ys.map eEntry)) = (ys.drop c).map eEntry := by rw [← List.map_drop, List.take_of_length_le (by simp)]
    repeat' (first
      | exact True.intro
      | refine ev_seq ?_
      | ((first | refine vgd_go ?_ | refine ev_region hE hM (hS (by decide +kernel)) ?_ | refine ev_if ?_ | refine end_ret hE rfl rfl ?_ | refine end_norm hE rfl rfl ?_ | refine endG_ret [] hE rfl ?_ | refine endG_norm [] hE rfl ?_ | refine vcall_A ?_); simp (maxSteps := 2000000) only [go_sem, hP, ↓reduceIte, Nat.reduceAdd, Nat.reduceMul, Nat.reduceEqDiff, Nat.reduceSub, Nat.reduceLeDiff, reduceCtorEq, hw2, dk, t1, t2, List.length_map])
      | refine ev_skip ?_ | refine ev_block ?_ | refine ev_blk ?_ | refine ev_ret ?_ | refine ev_exit ?_ | refine evx_code_ret ?_ | refine evx_blk_ret ?_ | refine evx_lp_ret ?_
      | refine evx_code_exit ?_ | refine evx_lp_exit ?_ | refine evx_blk_hit ?_ | refine evx_blk_pass (by decide) ?_
      | refine And.intro ?_ ?_ | intro _ | decide +kernel | omega)
    all_goals first | rfl | (exfalso; omega) | omega | (simp_all; done) | trace_state
def ssA (xs : List Entry) (d : Int) : List Entry := if sfC xs d = 0 then (starY xs d).take (starC xs d) else []
def ssB (xs : List Entry) (d : Int) : List Entry := if sfC xs d = 0 then (starY xs d).drop (starC xs d) else []
theorem star_w {xs : List Entry} {d : Int} (h : esf xs d = 0) : wEntryS ((starY xs d).take (starC xs d)) ≤ 70 ∧ wEntryS ((starY xs d).drop (starC xs d)) ≤ 70 := by
  have h1 := esf_len h
  have hr := sortE_rf (bA xs d.toNat) (esf_rf h)
  have hl := sortE_len (bA xs d.toNat) xs
  have g1 := even_w (xs := (starY xs d).take (starC xs d)) (d := d) (fun e he => hr e (List.mem_of_mem_take he))
  have g2 := even_w (xs := (starY xs d).drop (starC xs d)) (d := d) (fun e he => hr e (List.mem_of_mem_drop he))
  rw [List.length_take] at g1
  rw [List.length_drop] at g2
  unfold starY at g1 g2 ⊢
  omega
theorem ssA_w (xs : List Entry) (d : Int) : wEntryS (ssA xs d) ≤ 70 := by
  unfold ssA; split
  · rename_i h; exact (star_w (sfC_zero h).1).1
  · exact Nat.zero_le _
theorem ssB_w (xs : List Entry) (d : Int) : wEntryS (ssB xs d) ≤ 70 := by
  unfold ssB; split
  · rename_i h; exact (star_w (sfC_zero h).1).2
  · exact Nat.zero_le _
theorem s_specSplitStar (xs : List Entry) (d : Int) : Sat Try.prog 37 [aEntryS xs, aI d] true (rPtR (sfC xs d) (ssA xs d) (ssB xs d)) := by
  refine sat_walk (fn := Try.f37) rfl rfl rfl (Nat.le_of_ble_eq_true rfl) fun fr hP hN hbnd => ?_
  have hE : (envOf fr Try.prog).Ok := envOf_ok hP
  have hM := follows_of hP
  have hS : ∀ {draw ops}, statB Try.f37.ntmps draw ops = true → statB (envOf fr Try.prog).fr.N draw ops = true := fun h => by rw [envOf_fr, hN]; exact h
  by_cases hz : sfC xs d = 0
  · have h1 := sfC_zero hz
    have e1 : ssA xs d = (starY xs d).take (starC xs d) := if_pos hz
    have e2 : ssB xs d = (starY xs d).drop (starC xs d) := if_pos hz
    have w := star_w h1.1
    rw [e1, e2, hz]
    repeat' (first
      | exact True.intro
      | refine ev_seq ?_
      | ((first | refine vgd_go ?_ | refine ev_region hE hM (hS (by decide +kernel)) ?_ | refine ev_if ?_ | refine end_ret hE rfl rfl ?_ | refine end_norm hE rfl rfl ?_ | refine endG_ret [] hE rfl ?_ | refine endG_norm [] hE rfl ?_ | refine vcallB_of hP (s_l5Enough xs d) ?_ | refine vcallB_of hP (s_l5Star xs d h1.1 h1.2) ?_ | refine vcallB_of hP (s_l5Parts _ _ (Nat.le_trans w.1 (by omega)) (Nat.le_trans w.2 (by omega))) ?_ | refine vcall_A ?_); simp (maxSteps := 2000000) only [go_sem, hP, ↓reduceIte, Nat.reduceAdd, Nat.reduceMul, Nat.reduceEqDiff, Nat.reduceSub, Nat.reduceLeDiff, reduceCtorEq, hz])
      | refine ev_skip ?_ | refine ev_block ?_ | refine ev_blk ?_ | refine ev_ret ?_ | refine ev_exit ?_ | refine evx_code_ret ?_ | refine evx_blk_ret ?_ | refine evx_lp_ret ?_
      | refine evx_code_exit ?_ | refine evx_lp_exit ?_ | refine evx_blk_hit ?_ | refine evx_blk_pass (by decide) ?_
      | refine And.intro ?_ ?_ | intro _ | decide +kernel | omega)
    all_goals first | rfl | (exfalso; simp_all; done) | (simp_all; done) | trace_state
  · have e1 : ssA xs d = [] := if_neg hz
    have e2 : ssB xs d = [] := if_neg hz
    rw [e1, e2]
    repeat' (first
      | exact True.intro
      | refine ev_seq ?_
      | ((first | refine vgd_go ?_ | refine ev_region hE hM (hS (by decide +kernel)) ?_ | refine ev_if ?_ | refine end_ret hE rfl rfl ?_ | refine end_norm hE rfl rfl ?_ | refine endG_ret [] hE rfl ?_ | refine endG_norm [] hE rfl ?_ | refine vcallB_of hP (s_l5Enough xs d) ?_ | refine vcall_A ?_); simp (maxSteps := 2000000) only [go_sem, hP, ↓reduceIte, Nat.reduceAdd, Nat.reduceMul, Nat.reduceEqDiff, Nat.reduceSub, Nat.reduceLeDiff, reduceCtorEq])
      | refine ev_skip ?_ | refine ev_block ?_ | refine ev_blk ?_ | refine ev_ret ?_ | refine ev_exit ?_ | refine evx_code_ret ?_ | refine evx_blk_ret ?_ | refine evx_lp_ret ?_
      | refine evx_code_exit ?_ | refine evx_lp_exit ?_ | refine evx_blk_hit ?_ | refine evx_blk_pass (by decide) ?_
      | refine And.intro ?_ ?_ | intro _ | decide +kernel | omega)
    all_goals first | rfl | (exfalso; simp_all; done) | (simp_all; done) | trace_state
theorem s_implSplitStar (xs : List Entry) (d : Int) : Sat Try.prog 38 [aEntryS xs, aI d] true (rPtR (sfC xs d) (ssA xs d) (ssB xs d)) := by
  refine sat_walk (fn := Try.f38) rfl rfl rfl (Nat.le_of_ble_eq_true rfl) fun fr hP hN hbnd => ?_
  have hE : (envOf fr Try.prog).Ok := envOf_ok hP
  have hM := follows_of hP
  have hS : ∀ {draw ops}, statB Try.f38.ntmps draw ops = true → statB (envOf fr Try.prog).fr.N draw ops = true := fun h => by rw [envOf_fr, hN]; exact h
  repeat' (first
    | exact True.intro
    | refine ev_seq ?_
    | ((first | refine vgd_go ?_ | refine ev_region hE hM (hS (by decide +kernel)) ?_ | refine ev_if ?_ | refine end_ret hE rfl rfl ?_ | refine end_norm hE rfl rfl ?_ | refine endG_ret [] hE rfl ?_ | refine endG_norm [] hE rfl ?_ | refine vcallB_of hP (s_splitFault xs d) ?_ | refine vcallB_of hP (s_parted (sfC xs d) xs (ssA xs d) (ssB xs d) _ (fun h => by rw [show ssA xs d = (starY xs d).take (starC xs d) from if_pos h, show ssB xs d = (starY xs d).drop (starC xs d) from if_pos h]; exact s_splitStar xs d (sfC_zero h).1 (sfC_zero h).2) (fun h => ⟨if_neg h, if_neg h⟩)) ?_ | refine vcall_A ?_); simp (maxSteps := 2000000) only [go_sem, hP, ↓reduceIte, Nat.reduceAdd, Nat.reduceMul, Nat.reduceEqDiff, Nat.reduceSub, Nat.reduceLeDiff, reduceCtorEq])
    | refine ev_skip ?_ | refine ev_block ?_ | refine ev_blk ?_ | refine ev_ret ?_ | refine ev_exit ?_ | refine evx_code_ret ?_ | refine evx_blk_ret ?_ | refine evx_lp_ret ?_
    | refine evx_code_exit ?_ | refine evx_lp_exit ?_ | refine evx_blk_hit ?_ | refine evx_blk_pass (by decide) ?_
    | refine And.intro ?_ ?_ | intro _ | decide +kernel | omega)
  all_goals first | rfl | (exfalso; simp_all; done) | (simp_all; done) | trace_state
end Go.Proofs.Ytmpndkhnajogkaa.W
