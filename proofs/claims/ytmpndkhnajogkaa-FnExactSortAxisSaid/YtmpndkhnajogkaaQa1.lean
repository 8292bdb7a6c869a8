/- Contracts of functions that FnExactSortAxis reaches: what each returns; it writes to nothing of old. No condition but those that each theorem states. -/
import Derived.Test.YtmpndkhnajogkaaQa0
open Go Go.Vm Go.Proofs Go.IntWalk Go.RowKit
set_option maxRecDepth 100000
set_option maxHeartbeats 4000000
set_option linter.unusedSimpArgs false
set_option linter.unusedVariables false
set_option linter.unusedSectionVars false
namespace Go.Proofs.Ytmpndkhnajogkaa.W
attribute [local irreducible] kJ ev evx vops vstep vgo vgd vget vcall vcallFn vcallA vcallB vts vres vcond vbin
/-- How far the marks are, ahead of the j-th element; the first elements, marked. -/
def kS {α : Type} (w : α → Nat) (k : Int) (xs : List α) (j : Nat) : Int := k + sumW w (xs.take j)
def preS {α : Type} [Inhabited α] (f : Int → α → α) (w : α → Nat) (k : Int) (xs : List α) (j : Nat) : List α := (List.range j).map fun i => f (kS w k xs i) (xs.getD i default)
section
variable {α : Type} [Inhabited α] {f : Int → α → α} {w : α → Nat} {k : Int} {xs : List α} {j : Nat}
@[simp] theorem preS_length : (preS f w k xs j).length = j := by simp [preS]
theorem preS_zero : preS f w k xs 0 = [] := rfl
theorem preS_succ : preS f w k xs (j + 1) = preS f w k xs j ++ [f (kS w k xs j) (xs.getD j default)] := by simp [preS, List.range_succ]
theorem preS_getD {n : Nat} (h : j < n) : (preS f w k xs n).getD j default = f (kS w k xs j) (xs.getD j default) := by
  rw [getD_lt (by simpa using h)]; simp [preS]
theorem kS_zero : kS w k xs 0 = k := by simp [kS, sumW]
theorem kS_succ (h : j < xs.length) : kS w k xs (j + 1) = kS w k xs j + w (xs.getD j default) := by
  have := sumW_step (w := w) (d := default) h
  simp only [kS, this]; omega
theorem kS_le (j : Nat) : kS w k xs j ≤ k + sumW w xs := by
  have := sumW_le (w := w) (xs := xs) j
  simp only [kS]; omega
theorem kS_ge (j : Nat) : k ≤ kS w k xs j := by simp only [kS]; omega
theorem kS_done : kS w k xs xs.length = k + sumW w xs := by simp [kS]
theorem drop_map {β : Type} {g : α → β} (h : j < xs.length) : (xs.drop j).map g = g (xs.getD j default) :: (xs.drop (j + 1)).map g := by
  rw [List.drop_eq_getElem_cons h, getD_lt h]; rfl
end
def mwEntry (e : Entry) : Nat := wR e.rect + 2
def mkEntry (k : Int) (e : Entry) : Entry := ⟨markedR k e.rect, k + e.rect.low.length + e.rect.high.length, k + e.rect.low.length + e.rect.high.length + 1⟩
def markedEs (k : Int) (xs : List Entry) : List Entry := preS mkEntry mwEntry k xs xs.length
@[go_sem] abbrev gEs (κ : Nat) (xs : List Entry) : Nat × Blk := (κ, .arr true 85 4 (xs.map oEntry))
theorem s_markEntryS (xs : List Entry) (k : Int) (h0 : 0 ≤ k) (h1 : k + sumW mwEntry xs ≤ mMax) : SatG Try.prog 29 true [.ref 1, iT k] [gEs 1 xs] (iT (k + sumW mwEntry xs)) [gEs 1 (markedEs k xs)] := by
  refine satG_walk (fn := Try.f29) rfl rfl rfl (Nat.le_of_ble_eq_true rfl) (by simp) fun fr hP hN hdp hb1 hb2 => ?_
  have hE : (envOf fr Try.prog).Ok := envOf_ok hP
  have hM := follows_of hP
  have hS : ∀ {draw ops}, statB Try.f29.ntmps draw ops = true → statB (envOf fr Try.prog).fr.N draw ops = true := fun h => by rw [envOf_fr, hN]; exact h
  simp only [mMax] at h1
  have hY : ∀ b, (envOf fr Try.prog).fr.Y b → (envOf fr Try.prog).fr.X b := fun b hb => hdp rfl b hb
  have hlen : xs.length ≤ maxLen := by have := hb2.1.1; simpa using this
  repeat' (first
    | exact True.intro
    | refine ev_seq ?_
    | ((first | refine vgd_go ?_ | refine ev_region hE hM (hS (by decide +kernel)) ?_ | refine ev_if ?_ | refine end_ret hE rfl rfl ?_ | refine end_norm hE rfl rfl ?_ | refine endG_ret [] hE rfl ?_ | refine endG_norm [] hE rfl ?_ | refine vcall_A ?_); simp (maxSteps := 2000000) only [go_sem, hP, ↓reduceIte, Nat.reduceAdd, Nat.reduceMul, Nat.reduceEqDiff, Nat.reduceSub, Nat.reduceLeDiff, reduceCtorEq])
    | refine ev_skip ?_ | refine ev_block ?_ | refine ev_blk ?_ | refine ev_ret ?_ | refine ev_exit ?_ | refine evx_code_ret ?_ | refine evx_blk_ret ?_ | refine evx_lp_ret ?_
    | refine evx_code_exit ?_ | refine evx_lp_exit ?_ | refine evx_blk_hit ?_ | refine evx_blk_pass (by decide) ?_
    | refine And.intro ?_ ?_ | intro _ | decide +kernel | omega)
  refine ev_loop (ι := Nat) (fun j => [(0, .ref 1), (1, iT (kS mwEntry k xs j)), (5, iT j)]) (fun j => [(1, .arr true 85 4 ((preS mkEntry mwEntry k xs j).map oEntry ++ (xs.drop j).map oEntry))]) (fun _ => [(0, .ref 1)]) (fun j => j ≤ xs.length) (fun j => xs.length - j) 0 [] (by omega) (by simp only [go_sem, hP, ↓reduceIte, Nat.reduceAdd, Nat.reduceMul, Nat.reduceEqDiff, Nat.reduceSub, Nat.reduceLeDiff, reduceCtorEq]; simp [kS_zero, preS_zero]) ?_
  intro j hj
  have hrow : ((preS mkEntry mwEntry k xs j).map oEntry ++ (xs.drop j).map oEntry).length = xs.length := by simp; omega
  repeat' (first
    | exact True.intro
    | refine ev_seq ?_
    | ((first | refine ev_stop 4 ?_ | refine vgd_go ?_ | refine ev_region hE hM (hS (by decide +kernel)) ?_ | refine ev_if ?_ | refine end_ret hE rfl rfl ?_ | refine end_norm hE rfl rfl ?_ | refine endG_ret [] hE rfl ?_ | refine endG_norm [] hE rfl ?_ | refine vcall_A ?_); simp (maxSteps := 2000000) only [go_sem, hP, ↓reduceIte, Nat.reduceAdd, Nat.reduceMul, Nat.reduceEqDiff, Nat.reduceSub, Nat.reduceLeDiff, reduceCtorEq, hrow])
    | refine ev_skip ?_ | refine ev_block ?_ | refine ev_blk ?_ | refine ev_ret ?_ | refine ev_exit ?_ | refine evx_code_ret ?_ | refine evx_blk_ret ?_ | refine evx_lp_ret ?_
    | refine evx_code_exit ?_ | refine evx_lp_exit ?_ | refine evx_blk_hit ?_ | refine evx_blk_pass (by decide) ?_
    | refine And.intro ?_ ?_ | intro _ | decide +kernel | omega)
  · rename_i hlt
    have hlt' : j < xs.length := by omega
    have g1 := kS_le (w := mwEntry) (k := k) (xs := xs) (j + 1)
    have g2 := kS_succ (w := mwEntry) (k := k) hlt'
    have g3 := kS_ge (w := mwEntry) (k := k) (xs := xs) j
    have g4 : mwEntry (xs.getD j default) = (xs.getD j default).rect.low.length + (xs.getD j default).rect.high.length + 2 := rfl
    have g6 : kS mwEntry k xs (j + 1) = kS mwEntry k xs j + (xs.getD j default).rect.low.length + (xs.getD j default).rect.high.length + 1 + 1 := by omega
    have hw1 : IntKind.i64.wrap (kS mwEntry k xs j + (xs.getD j default).rect.low.length + (xs.getD j default).rect.high.length + 1) = kS mwEntry k xs j + (xs.getD j default).rect.low.length + (xs.getD j default).rect.high.length + 1 := i64_in _ (by omega)
    have hw2 : IntKind.i64.wrap (kS mwEntry k xs j + (xs.getD j default).rect.low.length + (xs.getD j default).rect.high.length + 1 + 1) = kS mwEntry k xs j + (xs.getD j default).rect.low.length + (xs.getD j default).rect.high.length + 1 + 1 := i64_in _ (by omega)
    have c1 := s_markInt64S (xs.getD j default).rect.low (kS mwEntry k xs j) (by omega) (by simp only [mMax]; omega)
    have c2 := s_markInt64S (xs.getD j default).rect.high (kS mwEntry k xs j + (xs.getD j default).rect.low.length) (by omega) (by simp only [mMax]; omega)
    first | refine Stop.mk ?_ | skip
    refine ev_cut [(0, .ref 1), (1, iT (kS mwEntry k xs j)), (5, iT j)] [(1, .arr true 85 4 ((preS mkEntry mwEntry k xs j).map oEntry ++ oEntry (xs.getD j default) :: (xs.drop (j + 1)).map oEntry))] [(0, .ref 1)] [] (by simp only [go_sem, hP, ↓reduceIte, Nat.reduceAdd, Nat.reduceMul, Nat.reduceEqDiff, Nat.reduceSub, Nat.reduceLeDiff, reduceCtorEq]; simp [drop_map hlt', oEntry_eq]) ?_
    refine ev_open 1 3 ((preS mkEntry mwEntry k xs j).map oEntry) ((xs.drop (j + 1)).map oEntry) (oEntry (xs.getD j default)) hY rfl (by simp only [go_sem, hP, ↓reduceIte, Nat.reduceAdd, Nat.reduceMul, Nat.reduceEqDiff, Nat.reduceSub, Nat.reduceLeDiff, reduceCtorEq] <;> simp) (by simp only [go_sem, hP, ↓reduceIte, Nat.reduceAdd, Nat.reduceMul, Nat.reduceEqDiff, Nat.reduceSub, Nat.reduceLeDiff, reduceCtorEq] <;> simp) ?_
    repeat' (first
      | exact True.intro
      | refine ev_seq ?_
      | ((first | refine vgd_go ?_ | refine ev_region hE hM (hS (by decide +kernel)) ?_ | refine ev_if ?_ | refine end_ret hE rfl rfl ?_ | refine end_norm hE rfl rfl ?_ | refine endG_ret [] hE rfl ?_ | refine endG_norm [] hE rfl ?_ | refine vcallG_of (args := [.ref 3, _]) [(1, 3)] [] hP c1 ?_ | refine vcallG_of (args := [.ref 1048579, _]) [(1, 1048579)] [] hP c2 ?_ | refine vcall_A ?_); simp (maxSteps := 2000000) only [go_sem, hP, ↓reduceIte, Nat.reduceAdd, Nat.reduceMul, Nat.reduceEqDiff, Nat.reduceSub, Nat.reduceLeDiff, reduceCtorEq, hw1, hw2, List.length_map, preS_length, List.length_drop])
      | refine ev_skip ?_ | refine ev_block ?_ | refine ev_blk ?_ | refine ev_ret ?_ | refine ev_exit ?_ | refine evx_code_ret ?_ | refine evx_blk_ret ?_ | refine evx_lp_ret ?_
      | refine evx_code_exit ?_ | refine evx_lp_exit ?_ | refine evx_blk_hit ?_ | refine evx_blk_pass (by decide) ?_
      | refine And.intro ?_ ?_ | intro _ | decide +kernel | omega)
    refine ev_cut [(0, .ref 1), (1, iT (kS mwEntry k xs (j + 1))), (5, iT (j + 1 : Nat))] [(1, .opn 85 4 ((preS mkEntry mwEntry k xs j).map oEntry) [.ref 3, .ref 1048579, iT (kS mwEntry k xs j + (xs.getD j default).rect.low.length + (xs.getD j default).rect.high.length), iT (kS mwEntry k xs j + (xs.getD j default).rect.low.length + (xs.getD j default).rect.high.length + 1)] ((xs.drop (j + 1)).map oEntry)), gI 3 (markedI (kS mwEntry k xs j) (xs.getD j default).rect.low.length), gI 1048579 (markedI (kS mwEntry k xs j + (xs.getD j default).rect.low.length) (xs.getD j default).rect.high.length)] [(0, .ref 1)] [] (by simp only [go_sem, hP, ↓reduceIte, Nat.reduceAdd, Nat.reduceMul, Nat.reduceEqDiff, Nat.reduceSub, Nat.reduceLeDiff, reduceCtorEq]; simp [g6, wrap_nat hlt' hlen]) ?_
    refine ev_close 1 [(0, 0), (0, 0), (0, 0), (0, 0)] (oEntry (mkEntry (kS mwEntry k xs j) (xs.getD j default))) [3, 1048579] rfl rfl (by decide) (by decide) ?_
    exact ev_lp (j + 1) [] (by omega) (by omega) (by simp only [go_sem, hP, ↓reduceIte, Nat.reduceAdd, Nat.reduceMul, Nat.reduceEqDiff, Nat.reduceSub, Nat.reduceLeDiff, reduceCtorEq]; simp [preS_succ, oEntry_eq])
  · obtain rfl : j = xs.length := by omega
    exact kS_done
  · obtain rfl : j = xs.length := by omega
    simp [markedEs]
theorem s_heldEntryS (xs : List Entry) (k : Int) (h0 : 0 ≤ k) (h1 : k + sumW mwEntry xs ≤ mMax) : Sat Try.prog 125 [aEntryS (markedEs k xs), aI k] true (rI (k + sumW mwEntry xs)) := by
  refine sat_walk (fn := Try.f125) rfl rfl rfl (Nat.le_of_ble_eq_true rfl) fun fr hP hN hbnd => ?_
  have hE : (envOf fr Try.prog).Ok := envOf_ok hP
  have hM := follows_of hP
  have hS : ∀ {draw ops}, statB Try.f125.ntmps draw ops = true → statB (envOf fr Try.prog).fr.N draw ops = true := fun h => by rw [envOf_fr, hN]; exact h
  simp only [mMax] at h1
  have hlen := bnd_EntryS hbnd
  have hl : (markedEs k xs).length = xs.length := by simp [markedEs]
  repeat' (first
    | exact True.intro
    | refine ev_seq ?_
    | ((first | refine vgd_go ?_ | refine ev_region hE hM (hS (by decide +kernel)) ?_ | refine ev_if ?_ | refine end_ret hE rfl rfl ?_ | refine end_norm hE rfl rfl ?_ | refine endG_ret [] hE rfl ?_ | refine endG_norm [] hE rfl ?_ | refine vcall_A ?_); simp (maxSteps := 2000000) only [go_sem, hP, ↓reduceIte, Nat.reduceAdd, Nat.reduceMul, Nat.reduceEqDiff, Nat.reduceSub, Nat.reduceLeDiff, reduceCtorEq])
    | refine ev_skip ?_ | refine ev_block ?_ | refine ev_blk ?_ | refine ev_ret ?_ | refine ev_exit ?_ | refine evx_code_ret ?_ | refine evx_blk_ret ?_ | refine evx_lp_ret ?_
    | refine evx_code_exit ?_ | refine evx_lp_exit ?_ | refine evx_blk_hit ?_ | refine evx_blk_pass (by decide) ?_
    | refine And.intro ?_ ?_ | intro _ | decide +kernel | omega)
  refine ev_loop (ι := Nat) (fun j => [(0, .c (sEntryS (markedEs k xs))), (1, iT (kS mwEntry k xs j)), (5, iT j)]) (fun j => []) (fun _ => []) (fun j => j ≤ xs.length) (fun j => xs.length - j) 0 [] (by omega) (by simp only [go_sem, hP, ↓reduceIte, Nat.reduceAdd, Nat.reduceMul, Nat.reduceEqDiff, Nat.reduceSub, Nat.reduceLeDiff, reduceCtorEq]; simp [kS_zero]) ?_
  intro j hj
  by_cases hlt' : j < xs.length
  · have g0 : (markedEs k xs).getD j default = mkEntry (kS mwEntry k xs j) (xs.getD j default) := preS_getD hlt'
    have g1 := kS_le (w := mwEntry) (k := k) (xs := xs) (j + 1)
    have g2 := kS_succ (w := mwEntry) (k := k) hlt'
    have g3 := kS_ge (w := mwEntry) (k := k) (xs := xs) j
    have g4 : mwEntry (xs.getD j default) = (xs.getD j default).rect.low.length + (xs.getD j default).rect.high.length + 2 := rfl
    have g6 : kS mwEntry k xs (j + 1) = kS mwEntry k xs j + (xs.getD j default).rect.low.length + (xs.getD j default).rect.high.length + 1 + 1 := by omega
    have g5 : wR (xs.getD j default).rect = (xs.getD j default).rect.low.length + (xs.getD j default).rect.high.length := rfl
    have hw1 : IntKind.i64.wrap (kS mwEntry k xs j + (xs.getD j default).rect.low.length + (xs.getD j default).rect.high.length + 1) = kS mwEntry k xs j + (xs.getD j default).rect.low.length + (xs.getD j default).rect.high.length + 1 := i64_in _ (by omega)
    have hw2 : IntKind.i64.wrap (kS mwEntry k xs j + (xs.getD j default).rect.low.length + (xs.getD j default).rect.high.length + 1 + 1) = kS mwEntry k xs j + (xs.getD j default).rect.low.length + (xs.getD j default).rect.high.length + 1 + 1 := i64_in _ (by omega)
    have c1 := s_heldInt64S (xs.getD j default).rect.low.length (kS mwEntry k xs j) (by omega) (by simp only [mMax]; omega)
    have c2 := s_heldInt64S (xs.getD j default).rect.high.length (kS mwEntry k xs j + (xs.getD j default).rect.low.length) (by omega) (by simp only [mMax]; omega)
    repeat' (first
      | exact True.intro
      | refine ev_seq ?_
      | ((first | refine vgd_go ?_ | refine ev_region hE hM (hS (by decide +kernel)) ?_ | refine ev_if ?_ | refine end_ret hE rfl rfl ?_ | refine end_norm hE rfl rfl ?_ | refine endG_ret [] hE rfl ?_ | refine endG_norm [] hE rfl ?_ | refine vcallB_of hP c1 ?_ | refine vcallB_of hP c2 ?_ | refine vcall_A ?_); simp (maxSteps := 2000000) only [go_sem, hP, ↓reduceIte, Nat.reduceAdd, Nat.reduceMul, Nat.reduceEqDiff, Nat.reduceSub, Nat.reduceLeDiff, reduceCtorEq, g0, mkEntry, markedI_length, markedR, hl, hw1, hw2])
      | refine ev_skip ?_ | refine ev_block ?_ | refine ev_blk ?_ | refine ev_ret ?_ | refine ev_exit ?_ | refine evx_code_ret ?_ | refine evx_blk_ret ?_ | refine evx_lp_ret ?_
      | refine evx_code_exit ?_ | refine evx_lp_exit ?_ | refine evx_blk_hit ?_ | refine evx_blk_pass (by decide) ?_
      | refine And.intro ?_ ?_ | intro _ | decide +kernel | omega)
    all_goals first
      | exact ev_lp (j + 1) [] (by omega) (by omega) (by simp only [go_sem, hP, ↓reduceIte, Nat.reduceAdd, Nat.reduceMul, Nat.reduceEqDiff, Nat.reduceSub, Nat.reduceLeDiff, reduceCtorEq]; simp [g6, wrap_nat hlt' (by omega : xs.length ≤ maxLen)])
      | (exfalso; simp_all [bne_iff_ne] <;> omega)
  · obtain rfl : j = xs.length := by omega
    repeat' (first
      | exact True.intro
      | refine ev_seq ?_
      | ((first | refine vgd_go ?_ | refine ev_region hE hM (hS (by decide +kernel)) ?_ | refine ev_if ?_ | refine end_ret hE rfl rfl ?_ | refine end_norm hE rfl rfl ?_ | refine endG_ret [] hE rfl ?_ | refine endG_norm [] hE rfl ?_ | refine vcall_A ?_); simp (maxSteps := 2000000) only [go_sem, hP, ↓reduceIte, Nat.reduceAdd, Nat.reduceMul, Nat.reduceEqDiff, Nat.reduceSub, Nat.reduceLeDiff, reduceCtorEq, hl])
      | refine ev_skip ?_ | refine ev_block ?_ | refine ev_blk ?_ | refine ev_ret ?_ | refine ev_exit ?_ | refine evx_code_ret ?_ | refine evx_blk_ret ?_ | refine evx_lp_ret ?_
      | refine evx_code_exit ?_ | refine evx_lp_exit ?_ | refine evx_blk_hit ?_ | refine evx_blk_pass (by decide) ?_
      | refine And.intro ?_ ?_ | intro _ | decide +kernel | omega)
    all_goals first
      | exact kS_done
      | (exfalso; omega)
theorem wE_get {xs : List Entry} {i : Nat} (h : i < xs.length) (hw : wEntryS xs ≤ 1048576) : (xs.getD i default).rect.low.length ≤ 1048576 ∧ (xs.getD i default).rect.high.length ≤ 1048576 := by
  have := sumW_get (w := wEntry) (d := default) h
  have e : wEntry (xs.getD i default) = (xs.getD i default).rect.low.length + (xs.getD i default).rect.high.length := rfl
  unfold wEntryS at hw
  omega
theorem s_clonedEntries (xs : List Entry) (hw : wEntryS xs ≤ 1048576) : Sat Try.prog 230 [aEntryS xs] true (rEntryS xs) := by
  refine sat_walk (fn := Try.f230) rfl rfl rfl (Nat.le_of_ble_eq_true rfl) fun fr hP hN hbnd => ?_
  have hE : (envOf fr Try.prog).Ok := envOf_ok hP
  have hM := follows_of hP
  have hS : ∀ {draw ops}, statB Try.f230.ntmps draw ops = true → statB (envOf fr Try.prog).fr.N draw ops = true := fun h => by rw [envOf_fr, hN]; exact h
  have hlen : xs.length ≤ 1048576 := by unfold wEntryS at hw; omega
  repeat' (first
    | exact True.intro
    | refine ev_seq ?_
    | ((first | refine vgd_go ?_ | refine ev_region hE hM (hS (by decide +kernel)) ?_ | refine ev_if ?_ | refine end_ret hE rfl rfl ?_ | refine end_norm hE rfl rfl ?_ | refine endG_ret [] hE rfl ?_ | refine endG_norm [] hE rfl ?_ | refine vcall_A ?_); simp (maxSteps := 2000000) only [go_sem, hP, ↓reduceIte, Nat.reduceAdd, Nat.reduceMul, Nat.reduceEqDiff, Nat.reduceSub, Nat.reduceLeDiff, reduceCtorEq])
    | refine ev_skip ?_ | refine ev_block ?_ | refine ev_blk ?_ | refine ev_ret ?_ | refine ev_exit ?_ | refine evx_code_ret ?_ | refine evx_blk_ret ?_ | refine evx_lp_ret ?_
    | refine evx_code_exit ?_ | refine evx_lp_exit ?_ | refine evx_blk_hit ?_ | refine evx_blk_pass (by decide) ?_
    | refine And.intro ?_ ?_ | intro _ | decide +kernel | omega)
  refine ev_loop (ι := Nat) (fun k => [(3, .ref 100000), (7, .c (sEntryS xs)), (8, iT xs.length), (9, iT k)]) (fun k => [(100000, .arr true 85 4 ((xs.take k).map oEntry))]) (fun _ => []) (fun k => k ≤ xs.length) (fun k => xs.length - k) 0 [(100000, some 4096)] (by omega) (by simp only [go_sem, hP, ↓reduceIte, Nat.reduceAdd, Nat.reduceMul, Nat.reduceEqDiff, Nat.reduceSub, Nat.reduceLeDiff, reduceCtorEq]; simp) ?_
  intro k hk
  have hw1 : k < xs.length → IntKind.i64.wrap ((k : Int) + 1) = k + 1 := fun h => i64_in _ (by omega)
  have htl : ((xs.take k).map oEntry).length = k := by simp; omega
  by_cases hlt : k < xs.length
  · have hg := wE_get hlt hw
    repeat' (first
      | exact True.intro
      | refine ev_seq ?_
      | ((first | refine vgd_go ?_ | refine ev_region hE hM (hS (by decide +kernel)) ?_ | refine ev_if ?_ | refine end_ret hE rfl rfl ?_ | refine end_norm hE rfl rfl ?_ | refine endG_ret [] hE rfl ?_ | refine endG_norm [] hE rfl ?_ | refine vcallB_of hP (s_cloned (xs.getD k default).rect hg.1 hg.2) ?_ | refine vcall_A ?_); simp (maxSteps := 2000000) only [go_sem, hP, ↓reduceIte, Nat.reduceAdd, Nat.reduceMul, Nat.reduceEqDiff, Nat.reduceSub, Nat.reduceLeDiff, reduceCtorEq, htl, Bool.and_self])
      | refine ev_skip ?_ | refine ev_block ?_ | refine ev_blk ?_ | refine ev_ret ?_ | refine ev_exit ?_ | refine evx_code_ret ?_ | refine evx_blk_ret ?_ | refine evx_lp_ret ?_
      | refine evx_code_exit ?_ | refine evx_lp_exit ?_ | refine evx_blk_hit ?_ | refine evx_blk_pass (by decide) ?_
      | refine And.intro ?_ ?_ | intro _ | decide +kernel | omega)
    all_goals first
      | exact ev_lp (k + 1) [(100000, some 20560)] (by omega) (by omega) (by simp only [go_sem, hP, ↓reduceIte, Nat.reduceAdd, Nat.reduceMul, Nat.reduceEqDiff, Nat.reduceSub, Nat.reduceLeDiff, reduceCtorEq]; rw [take_step (d := default) hlt]; simp [hw1 hlt, oEntry_eq])
      | (exfalso; omega)
      | (simp_all; done)
  · obtain rfl : k = xs.length := by omega
    repeat' (first
      | exact True.intro
      | refine ev_seq ?_
      | ((first | refine vgd_go ?_ | refine ev_region hE hM (hS (by decide +kernel)) ?_ | refine ev_if ?_ | refine end_ret hE rfl rfl ?_ | refine end_norm hE rfl rfl ?_ | refine endG_ret [] hE rfl ?_ | refine endG_norm [] hE rfl ?_ | refine vcall_A ?_); simp (maxSteps := 2000000) only [go_sem, hP, ↓reduceIte, Nat.reduceAdd, Nat.reduceMul, Nat.reduceEqDiff, Nat.reduceSub, Nat.reduceLeDiff, reduceCtorEq, htl, List.take_length])
      | refine ev_skip ?_ | refine ev_block ?_ | refine ev_blk ?_ | refine ev_ret ?_ | refine ev_exit ?_ | refine evx_code_ret ?_ | refine evx_blk_ret ?_ | refine evx_lp_ret ?_
      | refine evx_code_exit ?_ | refine evx_lp_exit ?_ | refine evx_blk_hit ?_ | refine evx_blk_pass (by decide) ?_
      | refine And.intro ?_ ?_ | intro _ | decide +kernel | omega)
    all_goals first
      | (exfalso; omega)
      | (simp_all; done)
theorem s_l3Entries (xs : List Entry) (hw : wEntryS xs ≤ 1048576) : Sat Try.prog 120 [aEntryS xs] true (rEntryS xs) := by
  refine sat_walk (fn := Try.f120) rfl rfl rfl (Nat.le_of_ble_eq_true rfl) fun fr hP hN hbnd => ?_
  have hE : (envOf fr Try.prog).Ok := envOf_ok hP
  have hM := follows_of hP
  have hS : ∀ {draw ops}, statB Try.f120.ntmps draw ops = true → statB (envOf fr Try.prog).fr.N draw ops = true := fun h => by rw [envOf_fr, hN]; exact h
  have hlen : xs.length ≤ 1048576 := by unfold wEntryS at hw; omega
  repeat' (first
    | exact True.intro
    | refine ev_seq ?_
    | ((first | refine vgd_go ?_ | refine ev_region hE hM (hS (by decide +kernel)) ?_ | refine ev_if ?_ | refine end_ret hE rfl rfl ?_ | refine end_norm hE rfl rfl ?_ | refine endG_ret [] hE rfl ?_ | refine endG_norm [] hE rfl ?_ | refine vcall_A ?_); simp (maxSteps := 2000000) only [go_sem, hP, ↓reduceIte, Nat.reduceAdd, Nat.reduceMul, Nat.reduceEqDiff, Nat.reduceSub, Nat.reduceLeDiff, reduceCtorEq])
    | refine ev_skip ?_ | refine ev_block ?_ | refine ev_blk ?_ | refine ev_ret ?_ | refine ev_exit ?_ | refine evx_code_ret ?_ | refine evx_blk_ret ?_ | refine evx_lp_ret ?_
    | refine evx_code_exit ?_ | refine evx_lp_exit ?_ | refine evx_blk_hit ?_ | refine evx_blk_pass (by decide) ?_
    | refine And.intro ?_ ?_ | intro _ | decide +kernel | omega)
  refine ev_loop (ι := Nat) (fun k => [(0, .c (sEntryS xs)), (3, .ref 100000), (4, iT k)]) (fun k => [(100000, .arr true 85 4 ((xs.take k).map oEntry))]) (fun _ => []) (fun k => k ≤ xs.length) (fun k => xs.length - k) 0 [(100000, some 4096)] (by omega) (by simp only [go_sem, hP, ↓reduceIte, Nat.reduceAdd, Nat.reduceMul, Nat.reduceEqDiff, Nat.reduceSub, Nat.reduceLeDiff, reduceCtorEq]; simp) ?_
  intro k hk
  have hw1 : k < xs.length → IntKind.i64.wrap ((k : Int) + 1) = k + 1 := fun h => i64_in _ (by omega)
  have htl : ((xs.take k).map oEntry).length = k := by simp; omega
  by_cases hlt : k < xs.length
  · have hg := wE_get hlt hw
    repeat' (first
      | exact True.intro
      | refine ev_seq ?_
      | ((first | refine vgd_go ?_ | refine ev_region hE hM (hS (by decide +kernel)) ?_ | refine ev_if ?_ | refine end_ret hE rfl rfl ?_ | refine end_norm hE rfl rfl ?_ | refine endG_ret [] hE rfl ?_ | refine endG_norm [] hE rfl ?_ | refine vcallB_of hP (s_l1Copy (xs.getD k default).rect hg.1 hg.2) ?_ | refine vcall_A ?_); simp (maxSteps := 2000000) only [go_sem, hP, ↓reduceIte, Nat.reduceAdd, Nat.reduceMul, Nat.reduceEqDiff, Nat.reduceSub, Nat.reduceLeDiff, reduceCtorEq, htl, Bool.and_self])
      | refine ev_skip ?_ | refine ev_block ?_ | refine ev_blk ?_ | refine ev_ret ?_ | refine ev_exit ?_ | refine evx_code_ret ?_ | refine evx_blk_ret ?_ | refine evx_lp_ret ?_
      | refine evx_code_exit ?_ | refine evx_lp_exit ?_ | refine evx_blk_hit ?_ | refine evx_blk_pass (by decide) ?_
      | refine And.intro ?_ ?_ | intro _ | decide +kernel | omega)
    all_goals first
      | exact ev_lp (k + 1) [(100000, some 28696)] (by omega) (by omega) (by simp only [go_sem, hP, ↓reduceIte, Nat.reduceAdd, Nat.reduceMul, Nat.reduceEqDiff, Nat.reduceSub, Nat.reduceLeDiff, reduceCtorEq]; rw [take_step (d := default) hlt]; simp [hw1 hlt, oEntry_eq])
      | (exfalso; omega)
      | (simp_all; done)
  · obtain rfl : k = xs.length := by omega
    repeat' (first
      | exact True.intro
      | refine ev_seq ?_
      | ((first | refine vgd_go ?_ | refine ev_region hE hM (hS (by decide +kernel)) ?_ | refine ev_if ?_ | refine end_ret hE rfl rfl ?_ | refine end_norm hE rfl rfl ?_ | refine endG_ret [] hE rfl ?_ | refine endG_norm [] hE rfl ?_ | refine vcall_A ?_); simp (maxSteps := 2000000) only [go_sem, hP, ↓reduceIte, Nat.reduceAdd, Nat.reduceMul, Nat.reduceEqDiff, Nat.reduceSub, Nat.reduceLeDiff, reduceCtorEq, htl, List.take_length])
      | refine ev_skip ?_ | refine ev_block ?_ | refine ev_blk ?_ | refine ev_ret ?_ | refine ev_exit ?_ | refine evx_code_ret ?_ | refine evx_blk_ret ?_ | refine evx_lp_ret ?_
      | refine evx_code_exit ?_ | refine evx_lp_exit ?_ | refine evx_blk_hit ?_ | refine evx_blk_pass (by decide) ?_
      | refine And.intro ?_ ?_ | intro _ | decide +kernel | omega)
    all_goals first
      | (exfalso; omega)
      | (simp_all; done)
/-- All boxes have as many numbers as n tells. -/
def Even (xs : List Entry) (n : Nat) : Prop := ∀ x ∈ xs, x.rect.low.length = n ∧ x.rect.high.length = n
theorem even_get {xs : List Entry} {n k : Nat} (h : Even xs n) (hk : k < xs.length) : (xs.getD k default).rect.low.length = n ∧ (xs.getD k default).rect.high.length = n := h _ (getD_mem hk)
theorem even_drop {xs : List Entry} {n k : Nat} (h : Even xs n) : Even (xs.drop k) n := fun x hx => h x (List.mem_of_mem_drop hx)
theorem even_take {xs : List Entry} {n k : Nat} (h : Even xs n) : Even (xs.take k) n := fun x hx => h x (List.mem_of_mem_take hx)
def boxTo (xs : List Entry) : Nat → Rect
  | 0 => (xs.getD 0 default).rect
  | k + 1 => un (boxTo xs k) (xs.getD (k + 1) default).rect
theorem boxTo_zero (xs : List Entry) : boxTo xs 0 = (xs.getD 0 default).rect := rfl
theorem boxTo_succ (xs : List Entry) (k : Nat) : boxTo xs (k + 1) = un (boxTo xs k) (xs.getD (k + 1) default).rect := rfl
def bx (xs : List Entry) : Rect := boxTo xs (xs.length - 1)
theorem un_size {a b : Rect} : (un a b).low.length = a.low.length ∧ (un a b).high.length = a.low.length := by simp [un]
theorem boxTo_size {xs : List Entry} {n : Nat} (h : Even xs n) : ∀ k, k < xs.length → (boxTo xs k).low.length = n ∧ (boxTo xs k).high.length = n
  | 0, hk => even_get h hk
  | k + 1, hk => by
    have := boxTo_size h k (by omega)
    rw [boxTo_succ]
    exact ⟨by rw [un_size.1]; exact this.1, by rw [un_size.2]; exact this.1⟩
theorem boxTo_lens {xs : List Entry} {n k : Nat} (h : Even xs n) (hk : k + 1 < xs.length) : Lens (boxTo xs k) (xs.getD (k + 1) default).rect := by
  have h1 := boxTo_size h k (by omega)
  have h2 := even_get h hk
  exact ⟨by omega, by omega, by omega⟩
theorem bx_size {xs : List Entry} {n : Nat} (h : Even xs n) (h0 : 0 < xs.length) : (bx xs).low.length = n ∧ (bx xs).high.length = n := boxTo_size h _ (by omega)
theorem nf_rf {n : Node} {d : Int} (h : nf n d = 0) : ∀ x ∈ n.entries, rf x.rect d = 0 := by
  unfold nf at h
  (repeat' split at h) <;> try omega
  all_goals first
    | (rename_i h1 h2 h3; exact fun x hx => ef_rf (firstF_zero (by simpa using ‹¬firstF (entryF d) n.entries ≠ 0›) x hx))
    | skip
theorem rf_even {xs : List Entry} {d : Int} (h : ∀ x ∈ xs, rf x.rect d = 0) : Even xs d.toNat := fun x hx => by
  have := rf_len (h x hx); omega
theorem rf_two {r : Rect} {d : Int} (h : rf r d = 0) : 2 ≤ d ∧ d ≤ 3 := by
  have h1 := rf_len h
  have h2 : pf r.low d = 0 := by unfold rf at h; split at h <;> simp_all
  have := pf_three h2
  unfold pf at h2; split at h2 <;> simp_all [inB]
def weC (n : Node) (d : Int) (e : Entry) : Int := if nf n d ≠ 0 then nf n d else if entryF d e ≠ 0 then entryF d e else if fits n.level e = false then 1 else if 0 ≤ findRef n.entries e.ref then 6 else if (4 : Int) < n.entries.length then 7 else 0
def weV (n : Node) (d : Int) (e : Entry) : Node := if weC n d e = 0 then ⟨n.level, n.nsn, n.right, n.entries ++ [e]⟩ else ⟨0, 0, 0, []⟩
def wdC (n : Node) (d r : Int) (b : Rect) : Int := if nf n d ≠ 0 then nf n d else if rf b d ≠ 0 then rf b d else if findRef n.entries r < 0 then 4 else 0
def wider (e : Entry) (b : Rect) : Entry := ⟨un e.rect b, e.ref, e.nsn⟩
def wdV (n : Node) (d r : Int) (b : Rect) : Node := if wdC n d r b = 0 then ⟨n.level, n.nsn, n.right, n.entries.set (findRef n.entries r).toNat (wider (n.entries.getD (findRef n.entries r).toNat default) b)⟩ else ⟨0, 0, 0, []⟩
theorem nf_inB {n : Node} {d : Int} (h : nf n d = 0) : inB d 2 3 = true ∧ n.entries.length ≤ 5 := by
  unfold nf at h
  (repeat' split at h) <;> simp_all <;> omega
theorem nf_small {n : Node} {d : Int} (h : nf n d = 0) : d.toNat ≤ 1048576 := by
  have := (nf_inB h).1
  simp [inB] at this; omega
theorem esf_small {xs : List Entry} {d : Int} (h : esf xs d = 0) : d.toNat ≤ 1048576 := by
  unfold esf at h
  (repeat' split at h) <;> simp_all [inB] <;> omega
theorem even_w {xs : List Entry} {d : Int} (h : ∀ x ∈ xs, rf x.rect d = 0) : wEntryS xs ≤ 7 * xs.length := by
  unfold wEntryS
  have : ∀ ys : List Entry, (∀ x ∈ ys, rf x.rect d = 0) → sumW wEntry ys ≤ 6 * ys.length := by
    intro ys
    induction ys with
    | nil => intro _; exact Nat.zero_le _
    | cons y ys ih =>
      intro hy
      have e2 : sumW wEntry (y :: ys) = wEntry y + sumW wEntry ys := rfl
      have h1 := hy y (by simp)
      have h2 := rf_len h1
      have h3 := rf_two h1
      have h4 := ih fun x hx => hy x (by simp [hx])
      have e3 : wEntry y = y.rect.low.length + y.rect.high.length := rfl
      rw [e2, List.length_cons, e3]; omega
  have := this xs h
  omega
theorem nf_w {n : Node} {d : Int} (h : nf n d = 0) : wEntryS n.entries ≤ 35 := by
  have h1 := even_w (nf_rf h)
  have h2 := (nf_inB h).2
  omega
theorem findRef_get {xs : List Entry} {r : Int} (h : 0 ≤ findRef xs r) : ∃ i : Nat, findRef xs r = i ∧ i < xs.length ∧ (xs.getD i default).ref = r := by
  unfold findRef at h ⊢
  split at h
  · rename_i ha
    rw [if_pos ha]
    have hi : xs.findIdx (fun e => decide (e.ref = r)) < xs.length := by
      rw [List.findIdx_lt_length]; simpa using ha
    refine ⟨_, rfl, hi, ?_⟩
    rw [getD_lt hi]
    have := List.findIdx_getElem (w := hi)
    simpa using this
  · omega
theorem mwE_le {xs : List Entry} : sumW mwEntry xs ≤ 2 * wEntryS xs := by
  have : ∀ ys : List Entry, sumW mwEntry ys = sumW wEntry ys + 2 * ys.length := by
    intro ys
    induction ys with
    | nil => rfl
    | cons y ys ih =>
      have e1 : sumW mwEntry (y :: ys) = mwEntry y + sumW mwEntry ys := rfl
      have e2 : sumW wEntry (y :: ys) = wEntry y + sumW wEntry ys := rfl
      rw [e1, e2, ih, List.length_cons]; simp only [mwEntry, wEntry]; omega
  rw [this]; unfold wEntryS; omega
@[go_sem] abbrev eY (b : Int) : List C := [.int .u8 b]
@[go_sem] abbrev sY (xs : List Int) : C := .sl none 1 (xs.map eY)
@[go_sem] abbrev aY (xs : List Int) : Arg := .d (false, [sY xs])
/-- The source of a code's bytes. -/
@[go_sem] abbrev bSrc (c : List Int) (a : Int) : Blk := .box [.c (sY c), iT a]
def codeOk (c : List Int) : Prop := c.length ≤ 1048576 ∧ ∀ b ∈ c, 0 ≤ b ∧ b < 256
def nv (c : List Int) (a n : Int) : Int :=
  if n > 200 then (c.getD (a % c.length).toNat default + a / c.length * 37) * 251 + c.getD ((a + 1) % c.length).toNat default * 13 + a
  else c.getD (a % c.length).toNat default + a / c.length * 37
def nx (c : List Int) (a n : Int) : Int := if c.length = 0 then (a * 7) % n else nv c a n % n
theorem byte_get {c : List Int} (hc : codeOk c) (i : Nat) : 0 ≤ c.getD i default ∧ c.getD i default < 256 := by
  rw [List.getD_eq_getElem?_getD]
  rcases h : c[i]? with _ | x
  · exact ⟨by decide, by decide⟩
  · exact hc.2 x (List.mem_of_getElem? h)
theorem nx_in {c : List Int} {a n : Int} (hn : 1 ≤ n) : 0 ≤ nx c a n ∧ nx c a n < n := by
  unfold nx
  split <;> exact ⟨Int.emod_nonneg _ (by omega), Int.emod_lt_of_pos _ (by omega)⟩
theorem tmod_pos {a b : Int} (h : 0 ≤ a) : a.tmod b = a % b := Int.tmod_eq_emod_of_nonneg h
theorem tdiv_pos {a b : Int} (h : 0 ≤ a) : a.tdiv b = a / b := Int.tdiv_eq_ediv_of_nonneg h
section
variable {c : Cx} {i : Nat} {dst : Option Nat} {rest : List Oper} {acc : List (List Nat × List Nat)} {st : St} {f κ : Nat} {P : Program}
theorem vcallG_at {caps args ts : List T} {ats : List Nat} {hc' : List (Nat × Blk)} {rt : T} {b : Blk} (K : Nat) (ks : List Nat) (hst : st.h K = some b) (hP : c.E.fr.P = P) (hs : SatG P f false ts [(1, b)] rt hc') (h : vcallG c i dst rest acc st caps args ts [(1, b)] rt hc' P (rhoOf [(1, K)] κ) ks) :
    vcall c i dst rest acc st f caps args ats κ := vcallG_of [(1, K)] ks hP hs h
end
def pk (c : List Int) (a : Int) (xs : List Int) : Int := xs.getD (nx c a xs.length).toNat default
def coord (c : List Int) (a : Int) : Int := pk c (a + 4) [nx c a 20, nx c (a + 1) 20, nx c (a + 2) 20 - 10, nx c (a + 3) 300 * 3 - 400, 1000, -1000]
theorem pk_mem {c : List Int} {a : Int} {xs : List Int} (h : xs ≠ []) : pk c a xs ∈ xs := by
  have hl : 1 ≤ xs.length := List.length_pos_iff.2 h
  obtain ⟨p1, p2⟩ := nx_in (c := c) (a := a) (n := xs.length) (by omega)
  unfold pk
  rw [List.getD_eq_getElem?_getD, List.getElem?_eq_getElem (by omega)]
  exact List.getElem_mem _
theorem coord_in (c : List Int) (a : Int) : -1000 ≤ coord c a ∧ coord c a ≤ 1000 := by
  have h := pk_mem (c := c) (a := a + 4) (xs := [nx c a 20, nx c (a + 1) 20, nx c (a + 2) 20 - 10, nx c (a + 3) 300 * 3 - 400, 1000, -1000]) (by simp)
  have e0 := nx_in (c := c) (a := a) (n := 20) (by omega)
  have e1 := nx_in (c := c) (a := a + 1) (n := 20) (by omega)
  have e2 := nx_in (c := c) (a := a + 2) (n := 20) (by omega)
  have e3 := nx_in (c := c) (a := a + 3) (n := 300) (by omega)
  simp only [List.mem_cons, List.not_mem_nil, or_false] at h
  unfold coord
  rcases h with h | h | h | h | h | h <;> rw [h] <;> omega
def pointV (c : List Int) (a : Int) (d : Nat) : List Int := (List.range d).map fun (i : Nat) => coord c (a + 5 * i)
def rectLo (c : List Int) (a : Int) (d : Nat) : List Int := (List.range d).map fun (i : Nat) => coord c (a + 6 * i)
def rectHi (c : List Int) (a : Int) (d : Nat) : List Int := (List.range d).map fun (i : Nat) => min (coord c (a + 6 * i) + pk c (a + 6 * i + 5) [0, 1, 3, 8, 30]) 1000
def rectV (c : List Int) (a : Int) (d : Nat) : Rect := ⟨rectLo c a d, rectHi c a d⟩
theorem pk5_in (c : List Int) (a : Int) : 0 ≤ pk c a [0, 1, 3, 8, 30] ∧ pk c a [0, 1, 3, 8, 30] ≤ 30 := by
  have h := pk_mem (c := c) (a := a) (xs := [0, 1, 3, 8, 30]) (by simp)
  simp only [List.mem_cons, List.not_mem_nil, or_false] at h
  omega
theorem dims_in (c : List Int) (a : Int) : pk c a [2, 2, 3] = 2 ∨ pk c a [2, 2, 3] = 3 := by
  have h := pk_mem (c := c) (a := a) (xs := [2, 2, 3]) (by simp)
  simp only [List.mem_cons, List.not_mem_nil, or_false] at h
  omega
theorem rectV_hi (c : List Int) (a : Int) (d i : Nat) (h : i < d) : -1000 ≤ (rectHi c a d).getD i default ∧ (rectHi c a d).getD i default ≤ 1000 := by
  unfold rectHi
  rw [getD_lt (by simpa using h)]
  simp only [List.getElem_map, List.getElem_range]
  have h1 := coord_in c (a + 6 * i)
  have h2 := pk5_in c (a + 6 * i + 5)
  omega
def bentV (c : List Int) (a : Int) (d : Nat) : Rect :=
  if nx c (a + 6 * d) 14 = 0 then ⟨(rectLo c a d).set 0 (pk c (a + 6 * d + 1) [(rectHi c a d).getD 0 default + 1, -1001, 1001]), rectHi c a d⟩
  else if nx c (a + 6 * d) 14 = 1 then ⟨rectLo c a d, (rectHi c a d).drop 1⟩
  else if nx c (a + 6 * d) 14 = 2 then ⟨rectLo c a d ++ [0], rectHi c a d⟩
  else if nx c (a + 6 * d) 14 = 3 then ⟨rectLo c a d, (rectHi c a d).set 1 (pk c (a + 6 * d + 1) [1000, 1001, -1000])⟩
  else rectV c a d
def bentA (c : List Int) (a : Int) (d : Nat) : Int := if nx c (a + 6 * d) 14 = 0 ∨ nx c (a + 6 * d) 14 = 3 then a + 6 * d + 2 else a + 6 * d + 1
theorem bentA_in (c : List Int) (a : Int) (d : Nat) : a ≤ bentA c a d ∧ bentA c a d ≤ a + 6 * d + 2 := by unfold bentA; split <;> omega
def d0 (c : List Int) : Nat := (pk c 0 [2, 2, 3]).toNat
theorem d0_in (c : List Int) : d0 c = 2 ∨ d0 c = 3 := by
  have := dims_in c 0
  unfold d0; omega
theorem d0_eq (c : List Int) : pk c 0 [2, 2, 3] = (d0 c : Int) := by
  have := dims_in c 0
  unfold d0; omega
def unA (c : List Int) : Rect := bentV c 1 (d0 c)
def unP (c : List Int) : Int := bentA c 1 (d0 c)
theorem unP_in (c : List Int) : 0 ≤ unP c ∧ unP c ≤ 100 := by
  have h1 := bentA_in c 1 (d0 c)
  have h2 := d0_in c
  unfold unP; omega
def unQ (c : List Int) : List Int := [(d0 c : Int), d0 c, d0 c, d0 c, d0 c, 2]
def d1 (c : List Int) : Nat := (pk c (unP c + 1) (unQ c)).toNat
theorem d1_mem (c : List Int) : pk c (unP c + 1) (unQ c) = d0 c ∨ pk c (unP c + 1) (unQ c) = 2 := by
  have h := pk_mem (c := c) (a := unP c + 1) (xs := unQ c) (by simp [unQ])
  simp only [unQ, List.mem_cons, List.not_mem_nil, or_false] at h
  rcases h with h | h | h | h | h | h <;> simp [unQ, h]
theorem d1_in (c : List Int) : d1 c = 2 ∨ d1 c = 3 := by
  have := d1_mem c
  have := d0_in c
  unfold d1; omega
theorem d1_eq (c : List Int) : pk c (unP c + 1) (unQ c) = (d1 c : Int) := by
  have := d1_mem c
  have := d0_in c
  unfold d1; omega
def unB (c : List Int) : Rect :=
  if nx c (unP c) 4 = 0 ∧ rf (unA c) (d0 c) = 0 then ⟨(unA c).low, (unA c).high.set 0 (min ((unA c).high.getD 0 default + pk c (unP c + 1) [0, 1, 5]) 1000)⟩
  else bentV c (unP c + 2) (d1 c)
def dsN (c : List Int) : List Int := [((unA c).low.length : Int), (unA c).low.length, (unA c).low.length, 2]
def d2 (c : List Int) : Nat := (pk c 12 (dsN c)).toNat
theorem unA_low (c : List Int) : (unA c).low.length = d0 c ∨ (unA c).low.length = d0 c + 1 := by
  unfold unA bentV rectV
  (repeat' split) <;> simp [rectLo]
theorem d2_mem (c : List Int) : pk c 12 (dsN c) = (unA c).low.length ∨ pk c 12 (dsN c) = 2 := by
  have h := pk_mem (c := c) (a := 12) (xs := dsN c) (by simp [dsN])
  simp only [dsN, List.mem_cons, List.not_mem_nil, or_false] at h
  rcases h with h | h | h | h <;> simp [dsN, h]
theorem d2_eq (c : List Int) : pk c 12 (dsN c) = (d2 c : Int) := by
  have := d2_mem c
  unfold d2; omega
theorem d2_in (c : List Int) : 2 ≤ d2 c ∧ d2 c ≤ 4 := by
  have h1 := d2_mem c
  have h2 := unA_low c
  have h3 := d0_in c
  unfold d2; omega
def dsP (c : List Int) : List Int := pointV c 13 (d2 c)
/-- Whether an entry may stand ahead of another one along an axis. -/
def leE (ax : Nat) (a b : Entry) : Bool := decide (a.rect.low.getD ax default < b.rect.low.getD ax default) || (decide (a.rect.low.getD ax default = b.rect.low.getD ax default) && decide (a.rect.high.getD ax default ≤ b.rect.high.getD ax default))
def sortE (ax : Nat) (xs : List Entry) : List Entry := sortL (leE ax) xs
def cmpE (ax : Nat) (a b : Entry) : Int := if cmpI (a.rect.low.getD ax default) (b.rect.low.getD ax default) ≠ 0 then cmpI (a.rect.low.getD ax default) (b.rect.low.getD ax default) else cmpI (a.rect.high.getD ax default) (b.rect.high.getD ax default)
theorem cmpI_neg (a b : Int) : cmpI a b < 0 ↔ a < b := by unfold cmpI; (repeat' split) <;> omega
theorem cmpI_zero (a b : Int) : cmpI a b = 0 ↔ a = b := by unfold cmpI; (repeat' split) <;> omega
theorem cmpE_neg (ax : Nat) (a b : Entry) : decide (cmpE ax a b < 0) = !leE ax b a := by
  unfold cmpE leE
  have h1 := cmpI_neg (a.rect.low.getD ax default) (b.rect.low.getD ax default)
  have h2 := cmpI_zero (a.rect.low.getD ax default) (b.rect.low.getD ax default)
  have h3 := cmpI_neg (a.rect.high.getD ax default) (b.rect.high.getD ax default)
  generalize cmpI (a.rect.low.getD ax default) (b.rect.low.getD ax default) = u at *
  generalize cmpI (a.rect.high.getD ax default) (b.rect.high.getD ax default) = v at *
  generalize a.rect.low.getD ax default = p at *
  generalize b.rect.low.getD ax default = q at *
  generalize a.rect.high.getD ax default = r at *
  generalize b.rect.high.getD ax default = s at *
  rw [Bool.eq_iff_iff]
  simp only [decide_eq_true_eq, Bool.not_eq_true', Bool.or_eq_false_iff, decide_eq_false_iff_not, Bool.and_eq_false_iff]
  split <;> omega
theorem leE_tr (ax : Nat) : ∀ x y z, leE ax x y = true → leE ax y z = true → leE ax x z = true := fun x y z h1 h2 => by
  unfold leE at *
  simp only [Bool.or_eq_true, Bool.and_eq_true, decide_eq_true_eq] at *
  omega
theorem leE_tot (ax : Nat) : ∀ x y, leE ax x y = false → leE ax y x = true := fun x y h => by
  unfold leE at *
  simp only [Bool.or_eq_true, Bool.and_eq_true, decide_eq_true_eq, Bool.or_eq_false_iff, decide_eq_false_iff_not, Bool.and_eq_false_iff] at *
  omega
theorem sortE_perm (ax : Nat) (xs : List Entry) : (sortE ax xs).Perm xs := sortL_perm xs
theorem sortE_len (ax : Nat) (xs : List Entry) : (sortE ax xs).length = xs.length := (sortE_perm ax xs).length_eq
theorem sortE_step (ax : Nat) {xs : List Entry} {k : Nat} (h : k < xs.length) : sortE ax (xs.take (k + 1)) = insL (leE ax) (sortE ax (xs.take k)) (xs.getD k default) := by
  rw [take_step (d := default) h]; exact sortL_snoc _ _
theorem cmpE_swo (ax : Nat) {α : Type} (f : α → Entry) : Go.Sort.SWO (ltOf fun i j : α => cmpE ax (f i) (f j)) where
  irrefl x := by show decide (cmpE ax _ _ < 0) = false; rw [cmpE_neg]; have := leE_tot ax (f x) (f x); cases h : leE ax (f x) (f x) <;> simp_all
  trans x y z h1 h2 := by
    show decide (cmpE ax _ _ < 0) = true
    have h1 : decide (cmpE ax (f x) (f y) < 0) = true := h1
    have h2 : decide (cmpE ax (f y) (f z) < 0) = true := h2
    rw [cmpE_neg] at *
    cases h : leE ax (f z) (f x) with
    | false => rfl
    | true =>
      have h3 := leE_tr ax _ _ _ h (leE_tot ax (f y) (f x) (by simpa using h1))
      rw [h3] at h2; cases h2
  ntrans x y z h1 h2 := by
    show decide (cmpE ax _ _ < 0) = false
    have h1 : decide (cmpE ax (f x) (f y) < 0) = false := h1
    have h2 : decide (cmpE ax (f y) (f z) < 0) = false := h2
    rw [cmpE_neg] at *
    have := leE_tr ax _ _ _ (show leE ax (f z) (f y) = true by simpa using h2) (by simpa using h1)
    simp [this]
theorem even_wt {n : Nat} : ∀ {xs : List Entry}, Even xs n → wEntryS xs = (2 * n + 1) * xs.length
  | [], _ => rfl
  | x :: xs, h => by
    have ih := even_wt (xs := xs) fun y hy => h y (List.mem_cons_of_mem _ hy)
    have e := h x (List.mem_cons_self ..)
    have e2 : wEntryS (x :: xs) = wEntry x + wEntryS xs + 1 := by unfold wEntryS; rw [show sumW wEntry (x :: xs) = wEntry x + sumW wEntry xs from rfl, List.length_cons]; omega
    have e3 : wEntry x = x.rect.low.length + x.rect.high.length := rfl
    rw [e2, ih, e3, e.1, e.2, List.length_cons, Nat.mul_add]; omega
theorem even_small {n : Nat} {xs : List Entry} (h : Even xs n) (hn : n ≤ 3) (hl : xs.length ≤ 100) : wEntryS xs ≤ 1048576 := by
  have h1 := even_wt h
  have h2 : (2 * n + 1) * xs.length ≤ 7 * 100 := Nat.mul_le_mul (by omega) hl
  omega
def semE (ax : Nat) (xs : List Entry) (ds rs : List Dat) : Prop := ∃ a ∈ xs, ∃ b ∈ xs, ds = [(true, eEntry a), (true, eEntry b)] ∧ rs = [(false, [.int .i64 (cmpE ax a b)])]
theorem s_insertionEntry (xs : List Entry) (ax : Nat) (hb : xs.length ≤ 1048576) : SatG Try.prog 279 false [.ref 1, iT 0, iT xs.length, .fn (semE ax xs)] [gEs 1 xs] (.tup []) [gEs 1 (sortE ax xs)] := by
  by_cases hn : xs.length = 0
  · obtain rfl := List.eq_nil_of_length_eq_zero hn
    refine satG_walk (fn := Try.f279) rfl rfl rfl (Nat.le_of_ble_eq_true rfl) (by simp) fun fr hP hN hdp hb1 hb2 => ?_
    have hE : (envOf fr Try.prog).Ok := envOf_ok hP
    have hM := follows_of hP
    have hS : ∀ {draw ops}, statB Try.f279.ntmps draw ops = true → statB (envOf fr Try.prog).fr.N draw ops = true := fun h => by rw [envOf_fr, hN]; exact h
    repeat' (first
      | exact True.intro
      | refine ev_seq ?_
      | ((first | refine vgd_go ?_ | refine ev_region hE hM (hS (by decide +kernel)) ?_ | refine ev_if ?_ | refine end_ret hE rfl rfl ?_ | refine end_norm hE rfl rfl ?_ | refine endG_ret [] hE rfl ?_ | refine endG_norm [] hE rfl ?_ | refine vcall_A ?_); simp (maxSteps := 2000000) only [go_sem, hP, ↓reduceIte, Nat.reduceAdd, Nat.reduceMul, Nat.reduceEqDiff, Nat.reduceSub, Nat.reduceLeDiff, reduceCtorEq])
      | refine ev_skip ?_ | refine ev_block ?_ | refine ev_blk ?_ | refine ev_ret ?_ | refine ev_exit ?_ | refine evx_code_ret ?_ | refine evx_blk_ret ?_ | refine evx_lp_ret ?_
      | refine evx_code_exit ?_ | refine evx_lp_exit ?_ | refine evx_blk_hit ?_ | refine evx_blk_pass (by decide) ?_
      | refine And.intro ?_ ?_ | intro _ | decide +kernel | omega)
    refine ev_loop (ι := Nat) (fun k => [(0, .ref 1), (2, iT 0), (8, iT 1)]) (fun k => [gEs 1 []]) (fun _ => [(0, .ref 1)]) (fun k => True) (fun k => 0) 0 [] trivial (by simp only [go_sem, hP, ↓reduceIte, Nat.reduceAdd, Nat.reduceMul, Nat.reduceEqDiff, Nat.reduceSub, Nat.reduceLeDiff, reduceCtorEq]; simp [show IntKind.i64.wrap 1 = 1 from rfl]) ?_
    intro k hk
    have d1 : decide ((1 : Int) < 0) = false := rfl
    repeat' (first
      | exact True.intro
      | refine ev_seq ?_
      | ((first | refine vgd_go ?_ | refine ev_region hE hM (hS (by decide +kernel)) ?_ | refine ev_if ?_ | refine end_ret hE rfl rfl ?_ | refine end_norm hE rfl rfl ?_ | refine endG_ret [] hE rfl ?_ | refine endG_norm [] hE rfl ?_ | refine vcall_A ?_); simp (maxSteps := 2000000) only [go_sem, hP, ↓reduceIte, Nat.reduceAdd, Nat.reduceMul, Nat.reduceEqDiff, Nat.reduceSub, Nat.reduceLeDiff, reduceCtorEq, d1])
      | refine ev_skip ?_ | refine ev_block ?_ | refine ev_blk ?_ | refine ev_ret ?_ | refine ev_exit ?_ | refine evx_code_ret ?_ | refine evx_blk_ret ?_ | refine evx_lp_ret ?_
      | refine evx_code_exit ?_ | refine evx_lp_exit ?_ | refine evx_blk_hit ?_ | refine evx_blk_pass (by decide) ?_
      | refine And.intro ?_ ?_ | intro _ | decide +kernel | omega)
    all_goals first | rfl | trace_state
  · haveI : Inhabited (Fin xs.length) := ⟨⟨0, by omega⟩⟩
    have key := k_insertionEntry (ty := 85) (n := xs.length) hb (es := xs.map oEntry) (sem := semE ax xs) (by simp) (fun i j => cmpE ax (xs.getD i.val default) (xs.getD j.val default)) (cmpE_swo ax fun i : Fin xs.length => xs.getD i.val default) (fun i j => by
      have e : ∀ i : Fin xs.length, Cs.strip ((xs.map oEntry).getD i.val []) = eEntry (xs.getD i.val default) := fun i => by
        rw [List.getD_eq_getElem?_getD, List.getElem?_map, List.getElem?_eq_getElem i.isLt, getD_lt i.isLt]
        simp [stripC_oEntry]
      refine ⟨xs.getD i.val default, getD_mem i.isLt, xs.getD j.val default, getD_mem j.isLt, ?_, rfl⟩
      rw [e, e])
    have e1 := sortL_map (le := leE ax) (le' := fun a b : Fin xs.length => !ltOf (fun i j : Fin xs.length => cmpE ax (xs.getD i.val default) (xs.getD j.val default)) b a) (fun i : Fin xs.length => xs.getD i.val default) (fun a b => by
      show (!decide (cmpE ax (xs.getD b.val default) (xs.getD a.val default) < 0)) = _
      rw [cmpE_neg]; simp) (Array.ofFn (fun i : Fin xs.length => i)).toList
    have e2 : (Array.ofFn (fun i : Fin xs.length => i)).toList.map (fun i : Fin xs.length => xs.getD i.val default) = xs := by
      refine List.ext_getElem (by simp) fun i h1 h2 => ?_
      simp only [List.getElem_map]
      rw [getD_lt (by simpa using h2)]
      simp
    rw [e2] at e1
    have e3 : (sortE ax xs).map oEntry = ((sortL (fun a b : Fin xs.length => !ltOf (fun i j : Fin xs.length => cmpE ax (xs.getD i.val default) (xs.getD j.val default)) b a) (Array.ofFn (fun i : Fin xs.length => i)).toList).map (fun i => i.val)).map fun i => (xs.map oEntry).getD i [] := by
      unfold sortE
      rw [← e1, List.map_map, List.map_map]
      refine List.map_congr_left fun i _ => ?_
      simp only [Function.comp]
      rw [List.getD_eq_getElem?_getD (l := xs.map oEntry), List.getElem?_map, List.getElem?_eq_getElem i.isLt, getD_lt i.isLt]; rfl
    show SatG _ _ _ _ _ _ [(1, .arr true _ 4 ((sortE ax xs).map oEntry))]
    rw [e3]; exact key
theorem s_stableEntry (xs : List Entry) (ax : Nat) (hb : xs.length ≤ 19) : SatG Try.prog 270 false [.ref 1, iT xs.length, .fn (semE ax xs)] [gEs 1 xs] (.tup []) [gEs 1 (sortE ax xs)] := by
  refine satG_walk (fn := Try.f270) rfl rfl rfl (Nat.le_of_ble_eq_true rfl) (by simp) fun fr hP hN hdp hb1 hb2 => ?_
  have hE : (envOf fr Try.prog).Ok := envOf_ok hP
  have hM := follows_of hP
  have hS : ∀ {draw ops}, statB Try.f270.ntmps draw ops = true → statB (envOf fr Try.prog).fr.N draw ops = true := fun h => by rw [envOf_fr, hN]; exact h
  have c1 := s_insertionEntry xs ax (by omega)
  repeat' (first
    | exact True.intro
    | refine ev_seq ?_
    | ((first | refine vgd_go ?_ | refine ev_region hE hM (hS (by decide +kernel)) ?_ | refine ev_if ?_ | refine end_ret hE rfl rfl ?_ | refine end_norm hE rfl rfl ?_ | refine endG_ret [] hE rfl ?_ | refine endG_norm [] hE rfl ?_ | refine vcall_A ?_); simp (maxSteps := 2000000) only [go_sem, hP, ↓reduceIte, Nat.reduceAdd, Nat.reduceMul, Nat.reduceEqDiff, Nat.reduceSub, Nat.reduceLeDiff, reduceCtorEq])
    | refine ev_skip ?_ | refine ev_block ?_ | refine ev_blk ?_ | refine ev_ret ?_ | refine ev_exit ?_ | refine evx_code_ret ?_ | refine evx_blk_ret ?_ | refine evx_lp_ret ?_
    | refine evx_code_exit ?_ | refine evx_lp_exit ?_ | refine evx_blk_hit ?_ | refine evx_blk_pass (by decide) ?_
    | refine And.intro ?_ ?_ | intro _ | decide +kernel | omega)
  refine ev_loop (ι := Nat) (fun k => [(0, .ref 1), (1, iT xs.length), (2, .fn (semE ax xs)), (6, iT 20), (7, iT 0), (8, iT 20)]) (fun k => [gEs 1 xs]) (fun _ => [(0, .ref 1)]) (fun k => True) (fun k => 0) 0 [] trivial (by simp only [go_sem, hP, ↓reduceIte, Nat.reduceAdd, Nat.reduceMul, Nat.reduceEqDiff, Nat.reduceSub, Nat.reduceLeDiff, reduceCtorEq]) ?_
  intro k hk
  have d1 : decide ((20 : Int) ≤ (xs.length : Int)) = false := by simp only [decide_eq_false_iff_not]; omega
  repeat' (first
    | exact True.intro
    | refine ev_seq ?_
    | ((first | refine vgd_go ?_ | refine ev_region hE hM (hS (by decide +kernel)) ?_ | refine ev_if ?_ | refine end_ret hE rfl rfl ?_ | refine end_norm hE rfl rfl ?_ | refine endG_ret [] hE rfl ?_ | refine endG_norm [] hE rfl ?_ | refine vcallG_of (args := [.ref 1, _, _, _]) [(1, 1)] [] hP c1 ?_ | refine vcall_A ?_); simp (maxSteps := 2000000) only [go_sem, hP, ↓reduceIte, Nat.reduceAdd, Nat.reduceMul, Nat.reduceEqDiff, Nat.reduceSub, Nat.reduceLeDiff, reduceCtorEq, d1])
    | refine ev_skip ?_ | refine ev_block ?_ | refine ev_blk ?_ | refine ev_ret ?_ | refine ev_exit ?_ | refine evx_code_ret ?_ | refine evx_blk_ret ?_ | refine evx_lp_ret ?_
    | refine evx_code_exit ?_ | refine evx_lp_exit ?_ | refine evx_blk_hit ?_ | refine evx_blk_pass (by decide) ?_
    | refine And.intro ?_ ?_ | intro _ | decide +kernel | omega)
  refine ev_loop (ι := Nat) (fun k => [(0, .ref 1), (1, iT xs.length), (6, iT 20)]) (fun k => [gEs 1 (sortE ax xs)]) (fun _ => [(0, .ref 1)]) (fun k => True) (fun k => 0) 0 [] trivial (by simp only [go_sem, hP, ↓reduceIte, Nat.reduceAdd, Nat.reduceMul, Nat.reduceEqDiff, Nat.reduceSub, Nat.reduceLeDiff, reduceCtorEq]) ?_
  intro k hk
  have d2 : decide ((20 : Int) < (xs.length : Int)) = false := by simp only [decide_eq_false_iff_not]; omega
  repeat' (first
    | exact True.intro
    | refine ev_seq ?_
    | ((first | refine vgd_go ?_ | refine ev_region hE hM (hS (by decide +kernel)) ?_ | refine ev_if ?_ | refine end_ret hE rfl rfl ?_ | refine end_norm hE rfl rfl ?_ | refine endG_ret [] hE rfl ?_ | refine endG_norm [] hE rfl ?_ | refine vcall_A ?_); simp (maxSteps := 2000000) only [go_sem, hP, ↓reduceIte, Nat.reduceAdd, Nat.reduceMul, Nat.reduceEqDiff, Nat.reduceSub, Nat.reduceLeDiff, reduceCtorEq, d2])
    | refine ev_skip ?_ | refine ev_block ?_ | refine ev_blk ?_ | refine ev_ret ?_ | refine ev_exit ?_ | refine evx_code_ret ?_ | refine evx_blk_ret ?_ | refine evx_lp_ret ?_
    | refine evx_code_exit ?_ | refine evx_lp_exit ?_ | refine evx_blk_hit ?_ | refine evx_blk_pass (by decide) ?_
    | refine And.intro ?_ ?_ | intro _ | decide +kernel | omega)
theorem s_SortStableEntry (xs : List Entry) (ax : Nat) (hb : xs.length ≤ 19) : SatG Try.prog 231 false [.ref 1, .fn (semE ax xs)] [gEs 1 xs] (.tup []) [gEs 1 (sortE ax xs)] := by
  refine satG_walk (fn := Try.f231) rfl rfl rfl (Nat.le_of_ble_eq_true rfl) (by simp) fun fr hP hN hdp hb1 hb2 => ?_
  have hE : (envOf fr Try.prog).Ok := envOf_ok hP
  have hM := follows_of hP
  have hS : ∀ {draw ops}, statB Try.f231.ntmps draw ops = true → statB (envOf fr Try.prog).fr.N draw ops = true := fun h => by rw [envOf_fr, hN]; exact h
  have c1 := s_stableEntry xs ax hb
  repeat' (first
    | exact True.intro
    | refine ev_seq ?_
    | ((first | refine vgd_go ?_ | refine ev_region hE hM (hS (by decide +kernel)) ?_ | refine ev_if ?_ | refine end_ret hE rfl rfl ?_ | refine end_norm hE rfl rfl ?_ | refine endG_ret [] hE rfl ?_ | refine endG_norm [] hE rfl ?_ | refine vcallG_of (args := [.ref 1, _, _]) [(1, 1)] [] hP c1 ?_ | refine vcall_A ?_); simp (maxSteps := 2000000) only [go_sem, hP, ↓reduceIte, Nat.reduceAdd, Nat.reduceMul, Nat.reduceEqDiff, Nat.reduceSub, Nat.reduceLeDiff, reduceCtorEq, List.length_map])
    | refine ev_skip ?_ | refine ev_block ?_ | refine ev_blk ?_ | refine ev_ret ?_ | refine ev_exit ?_ | refine evx_code_ret ?_ | refine evx_blk_ret ?_ | refine evx_lp_ret ?_
    | refine evx_code_exit ?_ | refine evx_lp_exit ?_ | refine evx_blk_hit ?_ | refine evx_blk_pass (by decide) ?_
    | refine And.intro ?_ ?_ | intro _ | decide +kernel | omega)
theorem s_sorted1 (a b : Entry) (ax : Nat) (h1 : ax < a.rect.low.length) (h2 : ax < a.rect.high.length) (h3 : ax < b.rect.low.length) (h4 : ax < b.rect.high.length) : Sat Try.prog 232 [aEntry a, aEntry b, .pv [.int .i64 ax]] true (rI (cmpE ax a b)) := by
  refine sat_walk (fn := Try.f232) rfl rfl rfl (Nat.le_of_ble_eq_true rfl) fun fr hP hN hbnd => ?_
  have hE : (envOf fr Try.prog).Ok := envOf_ok hP
  have hM := follows_of hP
  have hS : ∀ {draw ops}, statB Try.f232.ntmps draw ops = true → statB (envOf fr Try.prog).fr.N draw ops = true := fun h => by rw [envOf_fr, hN]; exact h
  have c1 := s_Compare (a.rect.low.getD ax default) (b.rect.low.getD ax default)
  have c2 := s_Compare (a.rect.high.getD ax default) (b.rect.high.getD ax default)
  have c3 := s_Or (cmpI (a.rect.low.getD ax default) (b.rect.low.getD ax default)) (cmpI (a.rect.high.getD ax default) (b.rect.high.getD ax default))
  repeat' (first
    | exact True.intro
    | refine ev_seq ?_
    | ((first | refine vgd_go ?_ | refine ev_region hE hM (hS (by decide +kernel)) ?_ | refine ev_if ?_ | refine end_ret hE rfl rfl ?_ | refine end_norm hE rfl rfl ?_ | refine endG_ret [] hE rfl ?_ | refine endG_norm [] hE rfl ?_ | refine vcallB_of hP c1 ?_ | refine vcallB_of hP c2 ?_ | refine vcallB_of hP c3 ?_ | refine vcall_A ?_); simp (maxSteps := 2000000) only [go_sem, hP, ↓reduceIte, Nat.reduceAdd, Nat.reduceMul, Nat.reduceEqDiff, Nat.reduceSub, Nat.reduceLeDiff, reduceCtorEq])
    | refine ev_skip ?_ | refine ev_block ?_ | refine ev_blk ?_ | refine ev_ret ?_ | refine ev_exit ?_ | refine evx_code_ret ?_ | refine evx_blk_ret ?_ | refine evx_lp_ret ?_
    | refine evx_code_exit ?_ | refine evx_lp_exit ?_ | refine evx_blk_hit ?_ | refine evx_blk_pass (by decide) ?_
    | refine And.intro ?_ ?_ | intro _ | decide +kernel | omega)
  all_goals first | (simp [cmpE]; done) | omega | (simp_all; done)
theorem s_sorted (xs : List Entry) (ax n : Nat) (h : Even xs n) (hax : ax < n) (hb : xs.length ≤ 19) (hn : n ≤ 3) : Sat Try.prog 123 [aEntryS xs, aI ax] true (rEntryS (sortE ax xs)) := by
  refine sat_walk (fn := Try.f123) rfl rfl rfl (Nat.le_of_ble_eq_true rfl) fun fr hP hN hbnd => ?_
  have hE : (envOf fr Try.prog).Ok := envOf_ok hP
  have hM := follows_of hP
  have hS : ∀ {draw ops}, statB Try.f123.ntmps draw ops = true → statB (envOf fr Try.prog).fr.N draw ops = true := fun h => by rw [envOf_fr, hN]; exact h
  have c1 := s_clonedEntries xs (even_small h hn (by omega))
  have c2 := s_SortStableEntry xs ax hb
  have kF : ∀ ds rs, semE ax xs ds rs → Sat Try.prog 232 (ds.map .d ++ [.pv [.int .i64 ax]]) true rs := by
    rintro ds rs ⟨a, ha, b, hb, rfl, rfl⟩
    have e1 := h a ha
    have e2 := h b hb
    exact s_sorted1 a b ax (by omega) (by omega) (by omega) (by omega)
  repeat' (first
    | exact True.intro
    | exact kF
    | refine ev_seq ?_
    | ((first | refine vgd_go ?_ | refine ev_region hE hM (hS (by decide +kernel)) ?_ | refine ev_if ?_ | refine end_ret hE rfl rfl ?_ | refine end_norm hE rfl rfl ?_ | refine endG_ret [] hE rfl ?_ | refine endG_norm [] hE rfl ?_ | refine vcallB_of hP c1 ?_ | refine vcallG_of (args := [.ref 4104, _]) [(1, 4104)] [] hP c2 ?_ | refine vcall_A ?_); simp (maxSteps := 2000000) only [go_sem, hP, ↓reduceIte, Nat.reduceAdd, Nat.reduceMul, Nat.reduceEqDiff, Nat.reduceSub, Nat.reduceLeDiff, reduceCtorEq])
    | refine ev_skip ?_ | refine ev_block ?_ | refine ev_blk ?_ | refine ev_ret ?_ | refine ev_exit ?_ | refine evx_code_ret ?_ | refine evx_blk_ret ?_ | refine evx_lp_ret ?_
    | refine evx_code_exit ?_ | refine evx_lp_exit ?_ | refine evx_blk_hit ?_ | refine evx_blk_pass (by decide) ?_
    | refine And.intro ?_ ?_ | intro _ | decide +kernel | omega)
  all_goals trace_state
theorem s_l5Sort (xs : List Entry) (ax n : Nat) (h : Even xs n) (hax : ax < n) (hl : xs.length ≤ 1000) (hn : n ≤ 1000) : Sat Try.prog 121 [aEntryS xs, aI ax] false [(false, [sEntryS (sortE ax xs)])] := by
  refine sat_walk (fn := Try.f121) rfl rfl rfl (Nat.le_of_ble_eq_true rfl) fun fr hP hN hbnd => ?_
  have hE : (envOf fr Try.prog).Ok := envOf_ok hP
  have hM := follows_of hP
  have hS : ∀ {draw ops}, statB Try.f121.ntmps draw ops = true → statB (envOf fr Try.prog).fr.N draw ops = true := fun h => by rw [envOf_fr, hN]; exact h
  repeat' (first
    | exact True.intro
    | refine ev_seq ?_
    | ((first | refine vgd_go ?_ | refine ev_region hE hM (hS (by decide +kernel)) ?_ | refine ev_if ?_ | refine end_ret hE rfl rfl ?_ | refine end_norm hE rfl rfl ?_ | refine endG_ret [] hE rfl ?_ | refine endG_norm [] hE rfl ?_ | refine vcall_A ?_); simp (maxSteps := 2000000) only [go_sem, hP, ↓reduceIte, Nat.reduceAdd, Nat.reduceMul, Nat.reduceEqDiff, Nat.reduceSub, Nat.reduceLeDiff, reduceCtorEq])
    | refine ev_skip ?_ | refine ev_block ?_ | refine ev_blk ?_ | refine ev_ret ?_ | refine ev_exit ?_ | refine evx_code_ret ?_ | refine evx_blk_ret ?_ | refine evx_lp_ret ?_
    | refine evx_code_exit ?_ | refine evx_lp_exit ?_ | refine evx_blk_hit ?_ | refine evx_blk_pass (by decide) ?_
    | refine And.intro ?_ ?_ | intro _ | decide +kernel | omega)
  refine ev_loop (ι := Nat) (fun k => [(0, .c (sEntryS xs)), (1, iT ax), (5, .ref 100000), (6, iT k)]) (fun k => [(100000, .arr (decide (k = 0)) 85 4 ((sortE ax (xs.take k)).map eEntry))]) (fun _ => []) (fun k => k ≤ xs.length) (fun k => xs.length - k) 0 [(100000, some 4096)] (by omega) (by simp only [go_sem, hP, ↓reduceIte, Nat.reduceAdd, Nat.reduceMul, Nat.reduceEqDiff, Nat.reduceSub, Nat.reduceLeDiff, reduceCtorEq]; simp [sortE, sortL]) ?_
  intro k hk
  have hw1 : k < xs.length → IntKind.i64.wrap ((k : Int) + 1) = k + 1 := fun h => i64_in _ (by omega)
  have hyl : (sortE ax (xs.take k)).length = k := by rw [sortE_len, List.length_take]; omega
  have hev : Even (sortE ax (xs.take k)) n := fun y hy => h y (List.mem_of_mem_take ((sortE_perm ax _).mem_iff.1 hy))
  by_cases hlt : k < xs.length
  · have hst := sortE_step ax hlt
    rw [insL_at] at hst
    have hx := even_get h hlt
    generalize sortE ax (xs.take k) = ys at *
    have hpl : ys.findIdx (fun y => !leE ax y (xs.getD k default)) ≤ ys.length := List.findIdx_le_length
    have hpy : ∀ j, j < ys.findIdx (fun y => !leE ax y (xs.getD k default)) → leE ax (ys.getD j default) (xs.getD k default) = true := fun j hj => by
      have := List.not_of_lt_findIdx hj
      rw [getD_lt (by omega)]
      simpa using this
    have hpn : ∀ j, j = ys.findIdx (fun y => !leE ax y (xs.getD k default)) → j < ys.length → leE ax (ys.getD j default) (xs.getD k default) = false := fun j hj hjl => by
      subst hj
      have := List.findIdx_getElem (w := hjl)
      rw [getD_lt hjl]
      simpa using this
    generalize ys.findIdx (fun y => !leE ax y (xs.getD k default)) = p at *
    have dl : decide ((k : Int) < (xs.length : Int)) = true := by simp only [decide_eq_true_eq]; omega
    repeat' (first
      | exact True.intro
      | refine ev_seq ?_
      | ((first | refine vgd_go ?_ | refine ev_region hE hM (hS (by decide +kernel)) ?_ | refine ev_if ?_ | refine end_ret hE rfl rfl ?_ | refine end_norm hE rfl rfl ?_ | refine endG_ret [] hE rfl ?_ | refine endG_norm [] hE rfl ?_ | refine vcall_A ?_); simp (maxSteps := 2000000) only [go_sem, hP, ↓reduceIte, Nat.reduceAdd, Nat.reduceMul, Nat.reduceEqDiff, Nat.reduceSub, Nat.reduceLeDiff, reduceCtorEq, dl, List.length_map])
      | refine ev_skip ?_ | refine ev_block ?_ | refine ev_blk ?_ | refine ev_ret ?_ | refine ev_exit ?_ | refine evx_code_ret ?_ | refine evx_blk_ret ?_ | refine evx_lp_ret ?_
      | refine evx_code_exit ?_ | refine evx_lp_exit ?_ | refine evx_blk_hit ?_ | refine evx_blk_pass (by decide) ?_
      | refine And.intro ?_ ?_ | intro _ | decide +kernel | omega)
    refine ev_loop (ι := Nat) (fun j => [(0, .c (sEntryS xs)), (1, iT ax), (5, .ref 100000), (6, iT k), (7, iT j)]) (fun j => [(100000, .arr (decide (k = 0)) 85 4 (ys.map eEntry))]) (fun _ => []) (fun j => j ≤ p) (fun j => p - j) 0 [] (by omega) (by simp only [go_sem, hP, ↓reduceIte, Nat.reduceAdd, Nat.reduceMul, Nat.reduceEqDiff, Nat.reduceSub, Nat.reduceLeDiff, reduceCtorEq]; simp) ?_
    intro j hj
    have hw2 : IntKind.i64.wrap ((j : Int) + 1) = j + 1 := i64_in _ (by omega)
    have tj : Int.toNat (j : Int) = j := by simp
    have ht1 : List.take (ys.length - j) (List.drop j (ys.map eEntry)) = List.drop j (ys.map eEntry) := List.take_of_length_le (by simp)
    have ht2 : List.take ys.length (ys.map eEntry) = ys.map eEntry := List.take_of_length_le (by simp)
    by_cases hjl : j < ys.length
    · have d0 : decide ((j : Int) < (ys.length : Int)) = true := by simp only [decide_eq_true_eq]; omega
      have hy := even_get hev hjl
      by_cases hj1 : j < p
      · have hle := hpy j hj1
        unfold leE at hle
        simp only [Bool.or_eq_true, Bool.and_eq_true, decide_eq_true_eq] at hle
        by_cases hc : (ys.getD j default).rect.low.getD ax default < (xs.getD k default).rect.low.getD ax default
        · have e1 := decide_eq_true hc
          repeat' (first
            | exact True.intro
            | refine ev_seq ?_
            | ((first | refine vgd_go ?_ | refine ev_region hE hM (hS (by decide +kernel)) ?_ | refine ev_if ?_ | refine end_ret hE rfl rfl ?_ | refine end_norm hE rfl rfl ?_ | refine endG_ret [] hE rfl ?_ | refine endG_norm [] hE rfl ?_ | refine vcall_A ?_); simp (maxSteps := 2000000) only [go_sem, hP, ↓reduceIte, Nat.reduceAdd, Nat.reduceMul, Nat.reduceEqDiff, Nat.reduceSub, Nat.reduceLeDiff, reduceCtorEq, List.append_eq, List.cons_append, List.nil_append, Cs.strip, C.strip, Es.strip, strip_eI, Bool.and_false, Bool.and_self, Bool.false_and, Bool.false_eq_true, List.length_append, List.length_take, List.length_drop, List.length_cons, List.length_nil, Int.toNat_zero, ite_self, d0, ht1, ht2,  e1, List.length_map])
            | refine ev_skip ?_ | refine ev_block ?_ | refine ev_blk ?_ | refine ev_ret ?_ | refine ev_exit ?_ | refine evx_code_ret ?_ | refine evx_blk_ret ?_ | refine evx_lp_ret ?_
            | refine evx_code_exit ?_ | refine evx_lp_exit ?_ | refine evx_blk_hit ?_ | refine evx_blk_pass (by decide) ?_
            | refine And.intro ?_ ?_ | intro _ | decide +kernel | omega)
          all_goals first
            | exact ev_lp (j + 1) [] (by omega) (by omega) (by simp only [go_sem, hP, ↓reduceIte, Nat.reduceAdd, Nat.reduceMul, Nat.reduceEqDiff, Nat.reduceSub, Nat.reduceLeDiff, reduceCtorEq]; simp [hw2])
            | (exfalso; omega)
            | omega
            | (simp only [Nat.min_def]; split <;> omega)
            | (simp_all; done)
            | trace_state
        · have e1 := decide_eq_false hc
          have hle2 := hle.resolve_left hc
          have e2 : ((ys.getD j default).rect.low.getD ax default == (xs.getD k default).rect.low.getD ax default) = true := beq_iff_eq.2 hle2.1
          have e3 := decide_eq_true hle2.2
          repeat' (first
            | exact True.intro
            | refine ev_seq ?_
            | ((first | refine vgd_go ?_ | refine ev_region hE hM (hS (by decide +kernel)) ?_ | refine ev_if ?_ | refine end_ret hE rfl rfl ?_ | refine end_norm hE rfl rfl ?_ | refine endG_ret [] hE rfl ?_ | refine endG_norm [] hE rfl ?_ | refine vcall_A ?_); simp (maxSteps := 2000000) only [go_sem, hP, ↓reduceIte, Nat.reduceAdd, Nat.reduceMul, Nat.reduceEqDiff, Nat.reduceSub, Nat.reduceLeDiff, reduceCtorEq, List.append_eq, List.cons_append, List.nil_append, Cs.strip, C.strip, Es.strip, strip_eI, Bool.and_false, Bool.and_self, Bool.false_and, Bool.false_eq_true, List.length_append, List.length_take, List.length_drop, List.length_cons, List.length_nil, Int.toNat_zero, ite_self, d0, ht1, ht2,  e1, e2, e3, List.length_map])
            | refine ev_skip ?_ | refine ev_block ?_ | refine ev_blk ?_ | refine ev_ret ?_ | refine ev_exit ?_ | refine evx_code_ret ?_ | refine evx_blk_ret ?_ | refine evx_lp_ret ?_
            | refine evx_code_exit ?_ | refine evx_lp_exit ?_ | refine evx_blk_hit ?_ | refine evx_blk_pass (by decide) ?_
            | refine And.intro ?_ ?_ | intro _ | decide +kernel | omega)
          all_goals first
            | exact ev_lp (j + 1) [] (by omega) (by omega) (by simp only [go_sem, hP, ↓reduceIte, Nat.reduceAdd, Nat.reduceMul, Nat.reduceEqDiff, Nat.reduceSub, Nat.reduceLeDiff, reduceCtorEq]; simp [hw2])
            | (exfalso; omega)
            | omega
            | (simp only [Nat.min_def]; split <;> omega)
            | (simp_all; done)
            | trace_state
      · obtain rfl : j = p := by omega
        have hle := hpn j rfl hjl
        unfold leE at hle
        simp only [Bool.or_eq_false_iff, Bool.and_eq_false_iff, decide_eq_false_iff_not] at hle
        have e1 := decide_eq_false hle.1
        by_cases hq : (ys.getD j default).rect.low.getD ax default = (xs.getD k default).rect.low.getD ax default
        · have e2 : ((ys.getD j default).rect.low.getD ax default == (xs.getD k default).rect.low.getD ax default) = true := beq_iff_eq.2 hq
          have e3 : decide ((ys.getD j default).rect.high.getD ax default ≤ (xs.getD k default).rect.high.getD ax default) = false := decide_eq_false (by omega)
          repeat' (first
            | exact True.intro
            | refine ev_seq ?_
            | ((first | refine vgd_go ?_ | refine ev_region hE hM (hS (by decide +kernel)) ?_ | refine ev_if ?_ | refine end_ret hE rfl rfl ?_ | refine end_norm hE rfl rfl ?_ | refine endG_ret [] hE rfl ?_ | refine endG_norm [] hE rfl ?_ | refine vcall_A ?_); simp (maxSteps := 2000000) only [go_sem, hP, ↓reduceIte, Nat.reduceAdd, Nat.reduceMul, Nat.reduceEqDiff, Nat.reduceSub, Nat.reduceLeDiff, reduceCtorEq, List.append_eq, List.cons_append, List.nil_append, Cs.strip, C.strip, Es.strip, strip_eI, Bool.and_false, Bool.and_self, Bool.false_and, Bool.false_eq_true, List.length_append, List.length_take, List.length_drop, List.length_cons, List.length_nil, Int.toNat_zero, ite_self, d0, ht1, ht2,  e1, e2, e3, tj, List.length_map])
            | refine ev_skip ?_ | refine ev_block ?_ | refine ev_blk ?_ | refine ev_ret ?_ | refine ev_exit ?_ | refine evx_code_ret ?_ | refine evx_blk_ret ?_ | refine evx_lp_ret ?_
            | refine evx_code_exit ?_ | refine evx_lp_exit ?_ | refine evx_blk_hit ?_ | refine evx_blk_pass (by decide) ?_
            | refine And.intro ?_ ?_ | intro _ | decide +kernel | omega)
          all_goals first
            | exact ev_lp (k + 1) [(100000, some 40992)] (by omega) (by omega) (by simp only [go_sem, hP, ↓reduceIte, Nat.reduceAdd, Nat.reduceMul, Nat.reduceEqDiff, Nat.reduceSub, Nat.reduceLeDiff, reduceCtorEq]; rw [hst]; simp [hw1 hlt, Es.strip, eEntry_eq, show IntKind.i64.wrap 1 = 1 from rfl, List.map_take, List.map_drop, ht1, ht2])
            | (exfalso; omega)
            | omega
            | (simp only [Nat.min_def]; split <;> omega)
            | (simp_all; done)
            | trace_state
        · have e2 : ((ys.getD j default).rect.low.getD ax default == (xs.getD k default).rect.low.getD ax default) = false := beq_eq_false_iff_ne.2 hq
          repeat' (first
            | exact True.intro
            | refine ev_seq ?_
            | ((first | refine vgd_go ?_ | refine ev_region hE hM (hS (by decide +kernel)) ?_ | refine ev_if ?_ | refine end_ret hE rfl rfl ?_ | refine end_norm hE rfl rfl ?_ | refine endG_ret [] hE rfl ?_ | refine endG_norm [] hE rfl ?_ | refine vcall_A ?_); simp (maxSteps := 2000000) only [go_sem, hP, ↓reduceIte, Nat.reduceAdd, Nat.reduceMul, Nat.reduceEqDiff, Nat.reduceSub, Nat.reduceLeDiff, reduceCtorEq, List.append_eq, List.cons_append, List.nil_append, Cs.strip, C.strip, Es.strip, strip_eI, Bool.and_false, Bool.and_self, Bool.false_and, Bool.false_eq_true, List.length_append, List.length_take, List.length_drop, List.length_cons, List.length_nil, Int.toNat_zero, ite_self, d0, ht1, ht2,  e1, e2, tj, List.length_map])
            | refine ev_skip ?_ | refine ev_block ?_ | refine ev_blk ?_ | refine ev_ret ?_ | refine ev_exit ?_ | refine evx_code_ret ?_ | refine evx_blk_ret ?_ | refine evx_lp_ret ?_
            | refine evx_code_exit ?_ | refine evx_lp_exit ?_ | refine evx_blk_hit ?_ | refine evx_blk_pass (by decide) ?_
            | refine And.intro ?_ ?_ | intro _ | decide +kernel | omega)
          all_goals first
            | exact ev_lp (k + 1) [(100000, some 40992)] (by omega) (by omega) (by simp only [go_sem, hP, ↓reduceIte, Nat.reduceAdd, Nat.reduceMul, Nat.reduceEqDiff, Nat.reduceSub, Nat.reduceLeDiff, reduceCtorEq]; rw [hst]; simp [hw1 hlt, Es.strip, eEntry_eq, show IntKind.i64.wrap 1 = 1 from rfl, List.map_take, List.map_drop, ht1, ht2])
            | (exfalso; omega)
            | omega
            | (simp only [Nat.min_def]; split <;> omega)
            | (simp_all; done)
            | trace_state
    · obtain rfl : j = p := by omega
      obtain rfl : j = ys.length := by omega
      have d0 : decide ((ys.length : Int) < (ys.length : Int)) = false := by simp
      by_cases h0 : k = 0
      · subst h0
        repeat' (first
          | exact True.intro
          | refine ev_seq ?_
          | ((first | refine vgd_go ?_ | refine ev_region hE hM (hS (by decide +kernel)) ?_ | refine ev_if ?_ | refine end_ret hE rfl rfl ?_ | refine end_norm hE rfl rfl ?_ | refine endG_ret [] hE rfl ?_ | refine endG_norm [] hE rfl ?_ | refine vcall_A ?_); simp (maxSteps := 2000000) only [go_sem, hP, ↓reduceIte, Nat.reduceAdd, Nat.reduceMul, Nat.reduceEqDiff, Nat.reduceSub, Nat.reduceLeDiff, reduceCtorEq, List.append_eq, List.cons_append, List.nil_append, Cs.strip, C.strip, Es.strip, strip_eI, Bool.and_false, Bool.and_self, Bool.false_and, Bool.false_eq_true, List.length_append, List.length_take, List.length_drop, List.length_cons, List.length_nil, Int.toNat_zero, ite_self, d0, ht1, ht2,  tj, List.length_map])
          | refine ev_skip ?_ | refine ev_block ?_ | refine ev_blk ?_ | refine ev_ret ?_ | refine ev_exit ?_ | refine evx_code_ret ?_ | refine evx_blk_ret ?_ | refine evx_lp_ret ?_
          | refine evx_code_exit ?_ | refine evx_lp_exit ?_ | refine evx_blk_hit ?_ | refine evx_blk_pass (by decide) ?_
          | refine And.intro ?_ ?_ | intro _ | decide +kernel | omega)
        all_goals first
          | exact ev_lp 1 [(100000, some 40992)] (by omega) (by omega) (by simp only [go_sem, hP, ↓reduceIte, Nat.reduceAdd, Nat.reduceMul, Nat.reduceEqDiff, Nat.reduceSub, Nat.reduceLeDiff, reduceCtorEq]; rw [hst]; simp [hw1 hlt, Es.strip, eEntry_eq, show IntKind.i64.wrap 1 = 1 from rfl, List.map_take, List.map_drop, ht1, ht2])
          | (exfalso; omega)
          | omega
          | (simp_all; done)
          | trace_state
      · repeat' (first
          | exact True.intro
          | refine ev_seq ?_
          | ((first | refine vgd_go ?_ | refine ev_region hE hM (hS (by decide +kernel)) ?_ | refine ev_if ?_ | refine end_ret hE rfl rfl ?_ | refine end_norm hE rfl rfl ?_ | refine endG_ret [] hE rfl ?_ | refine endG_norm [] hE rfl ?_ | refine vcall_A ?_); simp (maxSteps := 2000000) only [go_sem, hP, ↓reduceIte, Nat.reduceAdd, Nat.reduceMul, Nat.reduceEqDiff, Nat.reduceSub, Nat.reduceLeDiff, reduceCtorEq, List.append_eq, List.cons_append, List.nil_append, Cs.strip, C.strip, Es.strip, strip_eI, Bool.and_false, Bool.and_self, Bool.false_and, Bool.false_eq_true, List.length_append, List.length_take, List.length_drop, List.length_cons, List.length_nil, Int.toNat_zero, ite_self, d0, ht1, ht2,  tj, List.length_map])
          | refine ev_skip ?_ | refine ev_block ?_ | refine ev_blk ?_ | refine ev_ret ?_ | refine ev_exit ?_ | refine evx_code_ret ?_ | refine evx_blk_ret ?_ | refine evx_lp_ret ?_
          | refine evx_code_exit ?_ | refine evx_lp_exit ?_ | refine evx_blk_hit ?_ | refine evx_blk_pass (by decide) ?_
          | refine And.intro ?_ ?_ | intro _ | decide +kernel | omega)
        all_goals first
          | exact ev_lp (k + 1) [(100000, some 40992)] (by omega) (by omega) (by simp only [go_sem, hP, ↓reduceIte, Nat.reduceAdd, Nat.reduceMul, Nat.reduceEqDiff, Nat.reduceSub, Nat.reduceLeDiff, reduceCtorEq]; rw [hst]; simp [hw1 hlt, Es.strip, eEntry_eq, show IntKind.i64.wrap 1 = 1 from rfl, List.map_take, List.map_drop, ht1, ht2])
          | (exfalso; omega)
          | omega
          | (simp_all; done)
          | trace_state
  · have hke : k = xs.length := by omega
    subst hke
    have dl : decide ((xs.length : Int) < (xs.length : Int)) = false := by simp
    repeat' (first
      | exact True.intro
      | refine ev_seq ?_
      | ((first | refine vgd_go ?_ | refine ev_region hE hM (hS (by decide +kernel)) ?_ | refine ev_if ?_ | refine end_ret hE rfl rfl ?_ | refine end_norm hE rfl rfl ?_ | refine endG_ret [] hE rfl ?_ | refine endG_norm [] hE rfl ?_ | refine vcall_A ?_); simp (maxSteps := 2000000) only [go_sem, hP, ↓reduceIte, Nat.reduceAdd, Nat.reduceMul, Nat.reduceEqDiff, Nat.reduceSub, Nat.reduceLeDiff, reduceCtorEq, dl, List.take_length, List.length_map])
      | refine ev_skip ?_ | refine ev_block ?_ | refine ev_blk ?_ | refine ev_ret ?_ | refine ev_exit ?_ | refine evx_code_ret ?_ | refine evx_blk_ret ?_ | refine evx_lp_ret ?_
      | refine evx_code_exit ?_ | refine evx_lp_exit ?_ | refine evx_blk_hit ?_ | refine evx_blk_pass (by decide) ?_
      | refine And.intro ?_ ?_ | intro _ | decide +kernel | omega)
    all_goals first | (split <;> rfl) | (simp_all; done)
def saC (xs : List Entry) (d ax : Int) : Int := if esf xs d ≠ 0 then esf xs d else if inB ax 0 (d - 1) = false then 3 else 0
def saV (xs : List Entry) (d ax : Int) : List Entry := if saC xs d ax = 0 then sortE ax.toNat xs else []
theorem esf_len {xs : List Entry} {d : Int} (h : esf xs d = 0) : xs.length ≤ 10 ∧ 2 ≤ d ∧ d ≤ 3 := by
  unfold esf at h
  (repeat' split at h) <;> simp_all [inB] <;> omega
theorem saC_zero {xs : List Entry} {d ax : Int} (h : saC xs d ax = 0) : esf xs d = 0 ∧ 0 ≤ ax ∧ ax < d := by
  unfold saC at h
  split at h
  · rename_i h1; exact absurd h h1
  · split at h
    · omega
    · rename_i h1 h2; simp [inB] at h2; exact ⟨by simpa using h1, by omega⟩
theorem wEntryS_perm {xs ys : List Entry} (h : xs.Perm ys) : wEntryS xs = wEntryS ys := by
  unfold wEntryS
  have : ∀ xs ys : List Entry, xs.Perm ys → sumW wEntry xs = sumW wEntry ys := by
    intro xs ys h
    induction h with
    | nil => rfl
    | cons x _ ih => rw [show ∀ l, sumW wEntry (x :: l) = wEntry x + sumW wEntry l from fun _ => rfl, show ∀ l, sumW wEntry (x :: l) = wEntry x + sumW wEntry l from fun _ => rfl, ih]
    | swap x y l =>
      have e : ∀ (a : Entry) l, sumW wEntry (a :: l) = wEntry a + sumW wEntry l := fun _ _ => rfl
      rw [e, e, e, e]; omega
    | trans _ _ h1 h2 => rw [h1, h2]
  rw [this xs ys h, h.length_eq]
theorem saV_w (xs : List Entry) (d ax : Int) : wEntryS (saV xs d ax) ≤ 100 := by
  unfold saV; split
  · rename_i h
    have h1 := (saC_zero h).1
    have h2 := even_w (esf_rf h1)
    have h3 := esf_len h1
    rw [wEntryS_perm (sortE_perm _ _)]; omega
  · exact Nat.zero_le _
@[go_sem] abbrev aEsR (c : Int) (xs : List Entry) : Arg := .d (true, [.int .i64 c, sEntryS xs])
@[go_sem] abbrev rEsR (c : Int) (xs : List Entry) : List Dat := [(true, [.int .i64 c, oEntryS xs])]
@[go_sem] abbrev tEsR (c : Int) (a : Nat) : T := .agg [iT c, .ref a]
theorem s_specSortAxis (xs : List Entry) (d ax : Int) : Sat Try.prog 26 [aEntryS xs, aI d, aI ax] true (rEsR (saC xs d ax) (saV xs d ax)) := by
  refine sat_walk (fn := Try.f26) rfl rfl rfl (Nat.le_of_ble_eq_true rfl) fun fr hP hN hbnd => ?_
  have hE : (envOf fr Try.prog).Ok := envOf_ok hP
  have hM := follows_of hP
  have hS : ∀ {draw ops}, statB Try.f26.ntmps draw ops = true → statB (envOf fr Try.prog).fr.N draw ops = true := fun h => by rw [envOf_fr, hN]; exact h
  by_cases hz : esf xs d = 0
  · have h1 := esf_len hz
    have hw : IntKind.i64.wrap (d - 1) = d - 1 := i64_in _ (by omega)
    by_cases hq : inB ax 0 (d - 1) = true
    · have h2 : 0 ≤ ax ∧ ax ≤ d - 1 := by simpa [inB] using hq
      obtain ⟨a, rfl⟩ : ∃ a : Nat, ax = a := ⟨ax.toNat, by omega⟩
      have c1 := s_l5Sort xs a d.toNat (rf_even (esf_rf hz)) (by omega) (by omega) (by omega)
      have hs : saC xs d a = 0 := by unfold saC; rw [if_neg (by simpa using hz), if_neg (by simpa using hq)]
      have hv : saV xs d a = sortE a xs := by unfold saV; rw [if_pos hs]; simp
      have c2 := s_l3Entries (sortE a xs) (by rw [wEntryS_perm (sortE_perm _ _)]; have := even_w (esf_rf hz); omega)
      rw [hs, hv]
      repeat' (first
        | exact True.intro
        | refine ev_seq ?_
        | ((first | refine vgd_go ?_ | refine ev_region hE hM (hS (by decide +kernel)) ?_ | refine ev_if ?_ | refine end_ret hE rfl rfl ?_ | refine end_norm hE rfl rfl ?_ | refine endG_ret [] hE rfl ?_ | refine endG_norm [] hE rfl ?_ | refine vcallB_of hP (s_specEntriesFault xs d) ?_ | refine vcallB_of hP (s_l1In _ _ _) ?_ | refine vcallB_of hP c1 ?_ | refine vcallB_of hP c2 ?_ | refine vcall_A ?_); simp (maxSteps := 2000000) only [go_sem, hP, ↓reduceIte, Nat.reduceAdd, Nat.reduceMul, Nat.reduceEqDiff, Nat.reduceSub, Nat.reduceLeDiff, reduceCtorEq, hz, hw, hq])
        | refine ev_skip ?_ | refine ev_block ?_ | refine ev_blk ?_ | refine ev_ret ?_ | refine ev_exit ?_ | refine evx_code_ret ?_ | refine evx_blk_ret ?_ | refine evx_lp_ret ?_
        | refine evx_code_exit ?_ | refine evx_lp_exit ?_ | refine evx_blk_hit ?_ | refine evx_blk_pass (by decide) ?_
        | refine And.intro ?_ ?_ | intro _ | decide +kernel | omega)
      all_goals first | (exfalso; simp_all; done) | (simp_all; done)
    · have hs : saC xs d ax = 3 := by unfold saC; rw [if_neg (by simpa using hz), if_pos (by simpa using hq)]
      have hv : saV xs d ax = [] := by unfold saV; rw [if_neg (by omega)]
      have hq2 : inB ax 0 (d - 1) = false := by simpa using hq
      rw [hs, hv]
      repeat' (first
        | exact True.intro
        | refine ev_seq ?_
        | ((first | refine vgd_go ?_ | refine ev_region hE hM (hS (by decide +kernel)) ?_ | refine ev_if ?_ | refine end_ret hE rfl rfl ?_ | refine end_norm hE rfl rfl ?_ | refine endG_ret [] hE rfl ?_ | refine endG_norm [] hE rfl ?_ | refine vcallB_of hP (s_specEntriesFault xs d) ?_ | refine vcallB_of hP (s_l1In _ _ _) ?_ | refine vcall_A ?_); simp (maxSteps := 2000000) only [go_sem, hP, ↓reduceIte, Nat.reduceAdd, Nat.reduceMul, Nat.reduceEqDiff, Nat.reduceSub, Nat.reduceLeDiff, reduceCtorEq, hz, hw, hq2])
        | refine ev_skip ?_ | refine ev_block ?_ | refine ev_blk ?_ | refine ev_ret ?_ | refine ev_exit ?_ | refine evx_code_ret ?_ | refine evx_blk_ret ?_ | refine evx_lp_ret ?_
        | refine evx_code_exit ?_ | refine evx_lp_exit ?_ | refine evx_blk_hit ?_ | refine evx_blk_pass (by decide) ?_
        | refine And.intro ?_ ?_ | intro _ | decide +kernel | omega)
      all_goals first | (exfalso; simp_all; done) | (simp_all; done)
  · have hs : saC xs d ax = esf xs d := by unfold saC; rw [if_pos hz]
    have hv : saV xs d ax = [] := by unfold saV; rw [if_neg (by omega)]
    rw [hs, hv]
    repeat' (first
      | exact True.intro
      | refine ev_seq ?_
      | ((first | refine vgd_go ?_ | refine ev_region hE hM (hS (by decide +kernel)) ?_ | refine ev_if ?_ | refine end_ret hE rfl rfl ?_ | refine end_norm hE rfl rfl ?_ | refine endG_ret [] hE rfl ?_ | refine endG_norm [] hE rfl ?_ | refine vcallB_of hP (s_specEntriesFault xs d) ?_ | refine vcall_A ?_); simp (maxSteps := 2000000) only [go_sem, hP, ↓reduceIte, Nat.reduceAdd, Nat.reduceMul, Nat.reduceEqDiff, Nat.reduceSub, Nat.reduceLeDiff, reduceCtorEq])
      | refine ev_skip ?_ | refine ev_block ?_ | refine ev_blk ?_ | refine ev_ret ?_ | refine ev_exit ?_ | refine evx_code_ret ?_ | refine evx_blk_ret ?_ | refine evx_lp_ret ?_
      | refine evx_code_exit ?_ | refine evx_lp_exit ?_ | refine evx_blk_hit ?_ | refine evx_blk_pass (by decide) ?_
      | refine And.intro ?_ ?_ | intro _ | decide +kernel | omega)
    all_goals first | (exfalso; simp_all; done) | (simp_all; done)
theorem s_implSortAxis (xs : List Entry) (d ax : Int) : Sat Try.prog 27 [aEntryS xs, aI d, aI ax] true (rEsR (saC xs d ax) (saV xs d ax)) := by
  refine sat_walk (fn := Try.f27) rfl rfl rfl (Nat.le_of_ble_eq_true rfl) fun fr hP hN hbnd => ?_
  have hE : (envOf fr Try.prog).Ok := envOf_ok hP
  have hM := follows_of hP
  have hS : ∀ {draw ops}, statB Try.f27.ntmps draw ops = true → statB (envOf fr Try.prog).fr.N draw ops = true := fun h => by rw [envOf_fr, hN]; exact h
  by_cases hz : esf xs d = 0
  · have h1 := esf_len hz
    have hw : IntKind.i64.wrap (d - 1) = d - 1 := i64_in _ (by omega)
    by_cases hq : inB ax 0 (d - 1) = true
    · have h2 : 0 ≤ ax ∧ ax ≤ d - 1 := by simpa [inB] using hq
      obtain ⟨a, rfl⟩ : ∃ a : Nat, ax = a := ⟨ax.toNat, by omega⟩
      have c1 := s_sorted xs a d.toNat (rf_even (esf_rf hz)) (by omega) (by omega) (by omega)
      have hs : saC xs d a = 0 := by unfold saC; rw [if_neg (by simpa using hz), if_neg (by simpa using hq)]
      have hv : saV xs d a = sortE a xs := by unfold saV; rw [if_pos hs]; simp
      rw [hs, hv]
      repeat' (first
        | exact True.intro
        | refine ev_seq ?_
        | ((first | refine vgd_go ?_ | refine ev_region hE hM (hS (by decide +kernel)) ?_ | refine ev_if ?_ | refine end_ret hE rfl rfl ?_ | refine end_norm hE rfl rfl ?_ | refine endG_ret [] hE rfl ?_ | refine endG_norm [] hE rfl ?_ | refine vcallB_of hP (s_implEntriesFault xs d) ?_ | refine vcallB_of hP (s_within _ _ _) ?_ | refine vcallB_of hP c1 ?_ | refine vcall_A ?_); simp (maxSteps := 2000000) only [go_sem, hP, ↓reduceIte, Nat.reduceAdd, Nat.reduceMul, Nat.reduceEqDiff, Nat.reduceSub, Nat.reduceLeDiff, reduceCtorEq, hz, hw, hq])
        | refine ev_skip ?_ | refine ev_block ?_ | refine ev_blk ?_ | refine ev_ret ?_ | refine ev_exit ?_ | refine evx_code_ret ?_ | refine evx_blk_ret ?_ | refine evx_lp_ret ?_
        | refine evx_code_exit ?_ | refine evx_lp_exit ?_ | refine evx_blk_hit ?_ | refine evx_blk_pass (by decide) ?_
        | refine And.intro ?_ ?_ | intro _ | decide +kernel | omega)
      all_goals first | (exfalso; simp_all; done) | (simp_all; done)
    · have hs : saC xs d ax = 3 := by unfold saC; rw [if_neg (by simpa using hz), if_pos (by simpa using hq)]
      have hv : saV xs d ax = [] := by unfold saV; rw [if_neg (by omega)]
      have hq2 : inB ax 0 (d - 1) = false := by simpa using hq
      rw [hs, hv]
      repeat' (first
        | exact True.intro
        | refine ev_seq ?_
        | ((first | refine vgd_go ?_ | refine ev_region hE hM (hS (by decide +kernel)) ?_ | refine ev_if ?_ | refine end_ret hE rfl rfl ?_ | refine end_norm hE rfl rfl ?_ | refine endG_ret [] hE rfl ?_ | refine endG_norm [] hE rfl ?_ | refine vcallB_of hP (s_implEntriesFault xs d) ?_ | refine vcallB_of hP (s_within _ _ _) ?_ | refine vcall_A ?_); simp (maxSteps := 2000000) only [go_sem, hP, ↓reduceIte, Nat.reduceAdd, Nat.reduceMul, Nat.reduceEqDiff, Nat.reduceSub, Nat.reduceLeDiff, reduceCtorEq, hz, hw, hq2])
        | refine ev_skip ?_ | refine ev_block ?_ | refine ev_blk ?_ | refine ev_ret ?_ | refine ev_exit ?_ | refine evx_code_ret ?_ | refine evx_blk_ret ?_ | refine evx_lp_ret ?_
        | refine evx_code_exit ?_ | refine evx_lp_exit ?_ | refine evx_blk_hit ?_ | refine evx_blk_pass (by decide) ?_
        | refine And.intro ?_ ?_ | intro _ | decide +kernel | omega)
      all_goals first | (exfalso; simp_all; done) | (simp_all; done)
  · have hs : saC xs d ax = esf xs d := by unfold saC; rw [if_pos hz]
    have hv : saV xs d ax = [] := by unfold saV; rw [if_neg (by omega)]
    rw [hs, hv]
    repeat' (first
      | exact True.intro
      | refine ev_seq ?_
      | ((first | refine vgd_go ?_ | refine ev_region hE hM (hS (by decide +kernel)) ?_ | refine ev_if ?_ | refine end_ret hE rfl rfl ?_ | refine end_norm hE rfl rfl ?_ | refine endG_ret [] hE rfl ?_ | refine endG_norm [] hE rfl ?_ | refine vcallB_of hP (s_implEntriesFault xs d) ?_ | refine vcall_A ?_); simp (maxSteps := 2000000) only [go_sem, hP, ↓reduceIte, Nat.reduceAdd, Nat.reduceMul, Nat.reduceEqDiff, Nat.reduceSub, Nat.reduceLeDiff, reduceCtorEq])
      | refine ev_skip ?_ | refine ev_block ?_ | refine ev_blk ?_ | refine ev_ret ?_ | refine ev_exit ?_ | refine evx_code_ret ?_ | refine evx_blk_ret ?_ | refine evx_lp_ret ?_
      | refine evx_code_exit ?_ | refine evx_lp_exit ?_ | refine evx_blk_hit ?_ | refine evx_blk_pass (by decide) ?_
      | refine And.intro ?_ ?_ | intro _ | decide +kernel | omega)
    all_goals first | (exfalso; simp_all; done) | (simp_all; done)
theorem s_eqEntriesResult (c c' : Int) (xs ys : List Entry) : Sat Try.prog 28 [aEsR c xs, aEsR c' ys] true (rB (decide (c = c' ∧ xs = ys))) := by
  refine sat_walk (fn := Try.f28) rfl rfl rfl (Nat.le_of_ble_eq_true rfl) fun fr hP hN hbnd => ?_
  have hE : (envOf fr Try.prog).Ok := envOf_ok hP
  have hM := follows_of hP
  have hS : ∀ {draw ops}, statB Try.f28.ntmps draw ops = true → statB (envOf fr Try.prog).fr.N draw ops = true := fun h => by rw [envOf_fr, hN]; exact h
  repeat' (first
    | exact True.intro
    | refine ev_seq ?_
    | ((first | refine vgd_go ?_ | refine ev_region hE hM (hS (by decide +kernel)) ?_ | refine ev_if ?_ | refine end_ret hE rfl rfl ?_ | refine end_norm hE rfl rfl ?_ | refine endG_ret [] hE rfl ?_ | refine endG_norm [] hE rfl ?_ | refine vcallB_of hP (s_eqEntryS xs ys) ?_ | refine vcall_A ?_); simp (maxSteps := 2000000) only [go_sem, hP, ↓reduceIte, Nat.reduceAdd, Nat.reduceMul, Nat.reduceEqDiff, Nat.reduceSub, Nat.reduceLeDiff, reduceCtorEq])
    | refine ev_skip ?_ | refine ev_block ?_ | refine ev_blk ?_ | refine ev_ret ?_ | refine ev_exit ?_ | refine evx_code_ret ?_ | refine evx_blk_ret ?_ | refine evx_lp_ret ?_
    | refine evx_code_exit ?_ | refine evx_lp_exit ?_ | refine evx_blk_hit ?_ | refine evx_blk_pass (by decide) ?_
    | refine And.intro ?_ ?_ | intro _ | decide +kernel | omega)
  all_goals simp_all
theorem s_markEntriesResult (c : Int) (xs : List Entry) (k : Int) (h0 : 0 ≤ k) (h1 : k + sumW mwEntry xs ≤ mMax) : SatG Try.prog 30 true [tEsR c 1, iT k] [gEs 1 xs] (iT (k + sumW mwEntry xs)) [gEs 1 (markedEs k xs)] := by
  refine satG_walk (fn := Try.f30) rfl rfl rfl (Nat.le_of_ble_eq_true rfl) (by simp) fun fr hP hN hdp hb1 hb2 => ?_
  have hE : (envOf fr Try.prog).Ok := envOf_ok hP
  have hM := follows_of hP
  have hS : ∀ {draw ops}, statB Try.f30.ntmps draw ops = true → statB (envOf fr Try.prog).fr.N draw ops = true := fun h => by rw [envOf_fr, hN]; exact h
  have hY : ∀ b, (envOf fr Try.prog).fr.Y b → (envOf fr Try.prog).fr.X b := fun b hb => hdp rfl b hb
  have c1 := s_markEntryS xs k h0 h1
  repeat' (first
    | exact True.intro
    | refine ev_seq ?_
    | ((first | refine ev_stop 1 ?_ | refine vgd_go ?_ | refine ev_region hE hM (hS (by decide +kernel)) ?_ | refine ev_if ?_ | refine end_ret hE rfl rfl ?_ | refine end_norm hE rfl rfl ?_ | refine endG_ret [] hE rfl ?_ | refine endG_norm [] hE rfl ?_ | refine vcall_A ?_); simp (maxSteps := 2000000) only [go_sem, hP, ↓reduceIte, Nat.reduceAdd, Nat.reduceMul, Nat.reduceEqDiff, Nat.reduceSub, Nat.reduceLeDiff, reduceCtorEq])
    | refine ev_skip ?_ | refine ev_block ?_ | refine ev_blk ?_ | refine ev_ret ?_ | refine ev_exit ?_ | refine evx_code_ret ?_ | refine evx_blk_ret ?_ | refine evx_lp_ret ?_
    | refine evx_code_exit ?_ | refine evx_lp_exit ?_ | refine evx_blk_hit ?_ | refine evx_blk_pass (by decide) ?_
    | refine And.intro ?_ ?_ | intro _ | decide +kernel | omega)
  first | refine Stop.mk ?_ | skip
  refine ev_cut [(1, iT k), (2, .ptr 0 0)] [(0, .box [iT c, .ref 1]), gEs 1 xs] [(0, .ref 1)] [] (by simp only [go_sem, hP, ↓reduceIte, Nat.reduceAdd, Nat.reduceMul, Nat.reduceEqDiff, Nat.reduceSub, Nat.reduceLeDiff, reduceCtorEq]) ?_
  repeat' (first
    | exact True.intro
    | refine ev_seq ?_
    | ((first | refine ev_regionC (id := 1) (pre := [_, _, _]) hE rfl (hS (by decide +kernel)) ?_ | refine vgd_go ?_ | refine ev_region hE hM (hS (by decide +kernel)) ?_ | refine ev_if ?_ | refine end_ret hE rfl rfl ?_ | refine end_norm hE rfl rfl ?_ | refine endG_ret [] hE rfl ?_ | refine endG_norm [] hE rfl ?_ | refine vcall_A ?_); simp (maxSteps := 2000000) only [go_sem, hP, ↓reduceIte, Nat.reduceAdd, Nat.reduceMul, Nat.reduceEqDiff, Nat.reduceSub, Nat.reduceLeDiff, reduceCtorEq])
    | refine ev_skip ?_ | refine ev_block ?_ | refine ev_blk ?_ | refine ev_ret ?_ | refine ev_exit ?_ | refine evx_code_ret ?_ | refine evx_blk_ret ?_ | refine evx_lp_ret ?_
    | refine evx_code_exit ?_ | refine evx_lp_exit ?_ | refine evx_blk_hit ?_ | refine evx_blk_pass (by decide) ?_
    | refine And.intro ?_ ?_ | intro _ | decide +kernel | omega)
  refine callM_of [(1, 1)] [] [(2, .ptr 0 0), (6, .ref 1), (7, iT k)] [(0, .box [iT c, .ref 1]), gEs 1 xs] [(0, .ref 1)] hP c1 hY rfl rfl (by rw [envOf_fr, hN]; decide) (by simp only [go_sem, hP, ↓reduceIte, Nat.reduceAdd, Nat.reduceMul, Nat.reduceEqDiff, Nat.reduceSub, Nat.reduceLeDiff, reduceCtorEq]) rfl rfl (by simp only [go_sem, hP, ↓reduceIte, Nat.reduceAdd, Nat.reduceMul, Nat.reduceEqDiff, Nat.reduceSub, Nat.reduceLeDiff, reduceCtorEq] <;> simp) (by simp only [go_sem, hP, ↓reduceIte, Nat.reduceAdd, Nat.reduceMul, Nat.reduceEqDiff, Nat.reduceSub, Nat.reduceLeDiff, reduceCtorEq] <;> simp) ?_
  simp only [go_sem, hP, ↓reduceIte, Nat.reduceAdd, Nat.reduceMul, Nat.reduceEqDiff, Nat.reduceSub, Nat.reduceLeDiff, reduceCtorEq]
  repeat' (first
    | exact True.intro
    | refine ev_seq ?_
    | ((first | refine vgd_go ?_ | refine ev_region hE hM (hS (by decide +kernel)) ?_ | refine ev_if ?_ | refine end_ret hE rfl rfl ?_ | refine end_norm hE rfl rfl ?_ | refine endG_ret [] hE rfl ?_ | refine endG_norm [] hE rfl ?_ | refine vcall_A ?_); simp (maxSteps := 2000000) only [go_sem, hP, ↓reduceIte, Nat.reduceAdd, Nat.reduceMul, Nat.reduceEqDiff, Nat.reduceSub, Nat.reduceLeDiff, reduceCtorEq])
    | refine ev_skip ?_ | refine ev_block ?_ | refine ev_blk ?_ | refine ev_ret ?_ | refine ev_exit ?_ | refine evx_code_ret ?_ | refine evx_blk_ret ?_ | refine evx_lp_ret ?_
    | refine evx_code_exit ?_ | refine evx_lp_exit ?_ | refine evx_blk_hit ?_ | refine evx_blk_pass (by decide) ?_
    | refine And.intro ?_ ?_ | intro _ | decide +kernel | omega)
theorem s_heldEntriesResult (c : Int) (xs : List Entry) (k : Int) (h0 : 0 ≤ k) (h1 : k + sumW mwEntry xs ≤ mMax) : Sat Try.prog 31 [aEsR c (markedEs k xs), aI k] true (rI (k + sumW mwEntry xs)) := by
  refine sat_walk (fn := Try.f31) rfl rfl rfl (Nat.le_of_ble_eq_true rfl) fun fr hP hN hbnd => ?_
  have hE : (envOf fr Try.prog).Ok := envOf_ok hP
  have hM := follows_of hP
  have hS : ∀ {draw ops}, statB Try.f31.ntmps draw ops = true → statB (envOf fr Try.prog).fr.N draw ops = true := fun h => by rw [envOf_fr, hN]; exact h
  repeat' (first
    | exact True.intro
    | refine ev_seq ?_
    | ((first | refine vgd_go ?_ | refine ev_region hE hM (hS (by decide +kernel)) ?_ | refine ev_if ?_ | refine end_ret hE rfl rfl ?_ | refine end_norm hE rfl rfl ?_ | refine endG_ret [] hE rfl ?_ | refine endG_norm [] hE rfl ?_ | refine vcallB_of hP (s_heldEntryS xs k h0 h1) ?_ | refine vcall_A ?_); simp (maxSteps := 2000000) only [go_sem, hP, ↓reduceIte, Nat.reduceAdd, Nat.reduceMul, Nat.reduceEqDiff, Nat.reduceSub, Nat.reduceLeDiff, reduceCtorEq])
    | refine ev_skip ?_ | refine ev_block ?_ | refine ev_blk ?_ | refine ev_ret ?_ | refine ev_exit ?_ | refine evx_code_ret ?_ | refine evx_blk_ret ?_ | refine evx_lp_ret ?_
    | refine evx_code_exit ?_ | refine evx_lp_exit ?_ | refine evx_blk_hit ?_ | refine evx_blk_pass (by decide) ?_
    | refine And.intro ?_ ?_ | intro _ | decide +kernel | omega)
  all_goals (exfalso; omega)
theorem l_SortAxis (a : List Entry) (b : Int) (c : Int) : Sat Try.prog 5 [aEntryS a, aI b, aI c] true (rB true) := by
  refine sat_walkB (fn := Try.f5) rfl rfl rfl (Nat.le_of_ble_eq_true rfl) fun fr hP hN hYX hbnd => ?_
  have hE : (envOf fr Try.prog).Ok := envOf_ok hP
  have hM := follows_of hP
  have hS : ∀ {draw ops}, statB Try.f5.ntmps draw ops = true → statB (envOf fr Try.prog).fr.N draw ops = true := fun h => by rw [envOf_fr, hN]; exact h
  repeat' (first
    | exact True.intro
    | refine ev_seq ?_
    | ((first | refine ev_stop 13 ?_ | refine vgd_go ?_ | refine ev_region hE hM (hS (by decide +kernel)) ?_ | refine ev_if ?_ | refine end_ret hE rfl rfl ?_ | refine end_norm hE rfl rfl ?_ | refine endG_ret [] hE rfl ?_ | refine endG_norm [] hE rfl ?_ | refine vcallB_of hP (s_szEntryS a _ (by omega) (by omega)) ?_ | refine vcallB_of hP (s_toEntryS a (by simp only [lessN] at *; omega)) ?_ | refine vcallB_of hP (s_specSortAxis a b c) ?_ | refine vcallB_of hP (s_implSortAxis a b c) ?_ | refine vcallB_of hP (s_eqEntryS a a) ?_ | refine vcallB_of hP (s_eqEntriesResult _ _ _ _) ?_ | refine vcall_A ?_); simp (maxSteps := 2000000) only [go_sem, hP, ↓reduceIte, Nat.reduceAdd, Nat.reduceMul, Nat.reduceEqDiff, Nat.reduceSub, Nat.reduceLeDiff, reduceCtorEq])
    | refine ev_skip ?_ | refine ev_block ?_ | refine ev_blk ?_ | refine ev_ret ?_ | refine ev_exit ?_ | refine evx_code_ret ?_ | refine evx_blk_ret ?_ | refine evx_lp_ret ?_
    | refine evx_code_exit ?_ | refine evx_lp_exit ?_ | refine evx_blk_hit ?_ | refine evx_blk_pass (by decide) ?_
    | refine And.intro ?_ ?_ | intro _ | decide +kernel | omega)
  all_goals first | (exfalso; simp_all; done) | skip
  first | refine Stop.mk ?_ | skip
  have hw0 : wEntryS a ≤ 1048576 := by simp only [lessN] at *; omega
  have hv := saV_w a b c
  have hm := mwE_le (xs := a)
  have hr := mwE_le (xs := saV a b c)
  have x0 := s_markEntryS a 1 (by omega) (by simp only [mMax]; omega)
  have r1 := s_markEntriesResult (saC a b c) (saV a b c) 1 (by omega) (by simp only [mMax]; omega)
  have r2 := s_heldEntriesResult (saC a b c) (saV a b c) 1 (by omega) (by simp only [mMax]; omega)
  refine ev_cut [(0, .ca (sEntryS a)), (1, iT b), (2, iT c), (6, .c (.bool false)), (8, .ptr 20520 0), (9, .ref 24584), (10, .ptr 28704 0), (11, iT 1)] [(20520, .box [iT (saC a b c), .ref 1069088]), gEs 1069088 (saV a b c), gEs 24584 a, (28704, .box [iT (saC a b c), .ref 1077272]), gEs 1077272 (saV a b c)] [] [] (by simp only [go_sem, hP, ↓reduceIte, Nat.reduceAdd, Nat.reduceMul, Nat.reduceEqDiff, Nat.reduceSub, Nat.reduceLeDiff, reduceCtorEq, List.cons_append, List.nil_append]) ?_
  repeat' (first
    | exact True.intro
    | refine ev_seq ?_
    | ((first | refine ev_regionC (id := 13) (pre := [_, _]) hE rfl (hS (by decide +kernel)) ?_ | refine vgd_go ?_ | refine ev_region hE hM (hS (by decide +kernel)) ?_ | refine ev_if ?_ | refine end_ret hE rfl rfl ?_ | refine end_norm hE rfl rfl ?_ | refine endG_ret [] hE rfl ?_ | refine endG_norm [] hE rfl ?_ | refine vcall_A ?_); simp (maxSteps := 2000000) only [go_sem, hP, ↓reduceIte, Nat.reduceAdd, Nat.reduceMul, Nat.reduceEqDiff, Nat.reduceSub, Nat.reduceLeDiff, reduceCtorEq, List.cons_append, List.nil_append])
    | refine ev_skip ?_ | refine ev_block ?_ | refine ev_blk ?_ | refine ev_ret ?_ | refine ev_exit ?_ | refine evx_code_ret ?_ | refine evx_blk_ret ?_ | refine evx_lp_ret ?_
    | refine evx_code_exit ?_ | refine evx_lp_exit ?_ | refine evx_blk_hit ?_ | refine evx_blk_pass (by decide) ?_
    | refine And.intro ?_ ?_ | intro _ | decide +kernel | omega)
  refine callM_of [(1, 24584)] [] [(0, .ca (sEntryS a)), (1, iT b), (2, iT c), (6, .c (.bool false)), (8, .ptr 20520 0), (9, .ref 24584), (10, .ptr 28704 0), (40, .ref 24584), (41, iT 1)] [(20520, .box [iT (saC a b c), .ref 1069088]), gEs 1069088 (saV a b c), gEs 24584 a, (28704, .box [iT (saC a b c), .ref 1077272]), gEs 1077272 (saV a b c)] [] hP x0 hYX rfl rfl (by rw [envOf_fr, hN]; decide) (by simp only [go_sem, hP, ↓reduceIte, Nat.reduceAdd, Nat.reduceMul, Nat.reduceEqDiff, Nat.reduceSub, Nat.reduceLeDiff, reduceCtorEq, List.cons_append, List.nil_append]) rfl rfl (by simp only [go_sem, hP, ↓reduceIte, Nat.reduceAdd, Nat.reduceMul, Nat.reduceEqDiff, Nat.reduceSub, Nat.reduceLeDiff, reduceCtorEq, List.cons_append, List.nil_append] <;> simp) (by simp only [go_sem, hP, ↓reduceIte, Nat.reduceAdd, Nat.reduceMul, Nat.reduceEqDiff, Nat.reduceSub, Nat.reduceLeDiff, reduceCtorEq] <;> simp) ?_
  simp only [go_sem, hP, ↓reduceIte, Nat.reduceAdd, Nat.reduceMul, Nat.reduceEqDiff, Nat.reduceSub, Nat.reduceLeDiff, reduceCtorEq, List.cons_append, List.nil_append]
  repeat' (first
    | exact True.intro
    | refine ev_seq ?_
    | ((first | refine ev_stop 17 ?_ | refine vgd_go ?_ | refine ev_region hE hM (hS (by decide +kernel)) ?_ | refine ev_if ?_ | refine end_ret hE rfl rfl ?_ | refine end_norm hE rfl rfl ?_ | refine endG_ret [] hE rfl ?_ | refine endG_norm [] hE rfl ?_ | refine vcallB_of hP (s_toEntryS a (by simp only [lessN] at *; omega)) ?_ | refine vcallB_of hP (s_implSortAxis a b c) ?_ | refine vcallB_of hP (s_eqEntriesResult _ _ _ _) ?_ | refine vcall_A ?_); simp (maxSteps := 2000000) only [go_sem, hP, ↓reduceIte, Nat.reduceAdd, Nat.reduceMul, Nat.reduceEqDiff, Nat.reduceSub, Nat.reduceLeDiff, reduceCtorEq, List.cons_append, List.nil_append])
    | refine ev_skip ?_ | refine ev_block ?_ | refine ev_blk ?_ | refine ev_ret ?_ | refine ev_exit ?_ | refine evx_code_ret ?_ | refine evx_blk_ret ?_ | refine evx_lp_ret ?_
    | refine evx_code_exit ?_ | refine evx_lp_exit ?_ | refine evx_blk_hit ?_ | refine evx_blk_pass (by decide) ?_
    | refine And.intro ?_ ?_ | intro _ | decide +kernel | omega)
  all_goals first | (exfalso; simp_all; done) | skip
  first | refine Stop.mk ?_ | skip
  refine ev_cut [(0, .ca (sEntryS a)), (1, iT b), (2, iT c), (6, .c (.bool false)), (8, .ptr 20520 0), (10, .ptr 28704 0), (12, iT 1)] [(20520, .box [iT (saC a b c), .ref 1069088]), gEs 1069088 (saV a b c), (28704, .box [iT (saC a b c), .ref 1077272]), gEs 1077272 (saV a b c)] [] [] (by simp only [go_sem, hP, ↓reduceIte, Nat.reduceAdd, Nat.reduceMul, Nat.reduceEqDiff, Nat.reduceSub, Nat.reduceLeDiff, reduceCtorEq, List.cons_append, List.nil_append]) ?_
  repeat' (first
    | exact True.intro
    | refine ev_seq ?_
    | ((first | refine ev_regionC (id := 17) (pre := [_, _]) hE rfl (hS (by decide +kernel)) ?_ | refine vgd_go ?_ | refine ev_region hE hM (hS (by decide +kernel)) ?_ | refine ev_if ?_ | refine end_ret hE rfl rfl ?_ | refine end_norm hE rfl rfl ?_ | refine endG_ret [] hE rfl ?_ | refine endG_norm [] hE rfl ?_ | refine vcall_A ?_); simp (maxSteps := 2000000) only [go_sem, hP, ↓reduceIte, Nat.reduceAdd, Nat.reduceMul, Nat.reduceEqDiff, Nat.reduceSub, Nat.reduceLeDiff, reduceCtorEq, List.cons_append, List.nil_append])
    | refine ev_skip ?_ | refine ev_block ?_ | refine ev_blk ?_ | refine ev_ret ?_ | refine ev_exit ?_ | refine evx_code_ret ?_ | refine evx_blk_ret ?_ | refine evx_lp_ret ?_
    | refine evx_code_exit ?_ | refine evx_lp_exit ?_ | refine evx_blk_hit ?_ | refine evx_blk_pass (by decide) ?_
    | refine And.intro ?_ ?_ | intro _ | decide +kernel | omega)
  refine callM_of [(1, 1077272)] [] [(0, .ca (sEntryS a)), (1, iT b), (2, iT c), (6, .c (.bool false)), (8, .ptr 20520 0), (10, .ptr 28704 0), (51, .agg [iT (saC a b c), .ref 1077272]), (52, iT 1)] [(20520, .box [iT (saC a b c), .ref 1069088]), gEs 1069088 (saV a b c), (28704, .box [iT (saC a b c), .ref 1077272]), gEs 1077272 (saV a b c)] [] hP r1 hYX rfl rfl (by rw [envOf_fr, hN]; decide) (by simp only [go_sem, hP, ↓reduceIte, Nat.reduceAdd, Nat.reduceMul, Nat.reduceEqDiff, Nat.reduceSub, Nat.reduceLeDiff, reduceCtorEq, List.cons_append, List.nil_append]) rfl rfl (by simp only [go_sem, hP, ↓reduceIte, Nat.reduceAdd, Nat.reduceMul, Nat.reduceEqDiff, Nat.reduceSub, Nat.reduceLeDiff, reduceCtorEq, List.cons_append, List.nil_append] <;> simp) (by simp only [go_sem, hP, ↓reduceIte, Nat.reduceAdd, Nat.reduceMul, Nat.reduceEqDiff, Nat.reduceSub, Nat.reduceLeDiff, reduceCtorEq] <;> simp) ?_
  simp only [go_sem, hP, ↓reduceIte, Nat.reduceAdd, Nat.reduceMul, Nat.reduceEqDiff, Nat.reduceSub, Nat.reduceLeDiff, reduceCtorEq, List.cons_append, List.nil_append]
  repeat' (first
    | exact True.intro
    | refine ev_seq ?_
    | ((first | refine vgd_go ?_ | refine ev_region hE hM (hS (by decide +kernel)) ?_ | refine ev_if ?_ | refine end_ret hE rfl rfl ?_ | refine end_norm hE rfl rfl ?_ | refine endG_ret [] hE rfl ?_ | refine endG_norm [] hE rfl ?_ | refine vcallB_of hP (s_toEntryS a (by simp only [lessN] at *; omega)) ?_ | refine vcallB_of hP (s_implSortAxis a b c) ?_ | refine vcallB_of hP (s_eqEntriesResult _ _ _ _) ?_ | refine vcallB_of hP r2 ?_ | refine vcall_A ?_); simp (maxSteps := 2000000) only [go_sem, hP, ↓reduceIte, Nat.reduceAdd, Nat.reduceMul, Nat.reduceEqDiff, Nat.reduceSub, Nat.reduceLeDiff, reduceCtorEq, List.cons_append, List.nil_append])
    | refine ev_skip ?_ | refine ev_block ?_ | refine ev_blk ?_ | refine ev_ret ?_ | refine ev_exit ?_ | refine evx_code_ret ?_ | refine evx_blk_ret ?_ | refine evx_lp_ret ?_
    | refine evx_code_exit ?_ | refine evx_lp_exit ?_ | refine evx_blk_hit ?_ | refine evx_blk_pass (by decide) ?_
    | refine And.intro ?_ ?_ | intro _ | decide +kernel | omega)
  all_goals (simp_all; done)
theorem all_SortAxis (gs : List Arg) (h : shpA Try.prog 12 [43, 2, 2] gs) : Sat Try.prog 5 gs true (rB true) := by
  obtain ⟨x0, gs, rfl, h0, x1, gs, rfl, h1, x2, gs, rfl, h2, rfl⟩ := h
  obtain ⟨a, rfl⟩ := shp_EntryS (n := 7) rfl h0
  obtain ⟨b, rfl, _⟩ := shp_i64 (n := 11) rfl h1
  obtain ⟨c, rfl, _⟩ := shp_i64 (n := 11) rfl h2
  exact l_SortAxis a b c
end Go.Proofs.Ytmpndkhnajogkaa.W
