/- Contracts of functions that FnSorts reaches: what each returns; it writes to nothing of old. No condition but those that each theorem states. -/
import Derived.Test.YtegohioalgikjaaQa0
open Go Go.Vm Go.Proofs Go.IntWalk Go.RowKit
set_option maxRecDepth 100000
set_option maxHeartbeats 4000000
set_option linter.unusedSimpArgs false
set_option linter.unusedVariables false
set_option linter.unusedSectionVars false
namespace Go.Proofs.Ytegohioalgikjaa.W
attribute [local irreducible] kJ ev evx vops vstep vgo vgd vget vcall vcallFn vcallA vcallB vts vres vcond vbin
theorem s_l1Ints (xs : List Int) (hx : xs.length ≤ 1048576) : Sat Try.prog 116 [aL xs] true (rL xs) := by
  refine sat_walk (fn := Try.f116) rfl rfl rfl (Nat.le_of_ble_eq_true rfl) fun fr hP hN hbnd => ?_
  have hE : (envOf fr Try.prog).Ok := envOf_ok hP
  have hM := follows_of hP
  have hS : ∀ {draw ops}, statB Try.f116.ntmps draw ops = true → statB (envOf fr Try.prog).fr.N draw ops = true := fun h => by rw [envOf_fr, hN]; exact h
  have hlen := bndL hbnd
  repeat' (first
    | exact True.intro
    | refine ev_seq ?_
    | ((first | refine vgd_go ?_ | refine ev_region hE hM (hS (by decide +kernel)) ?_ | refine ev_if ?_ | refine end_ret hE rfl rfl ?_ | refine end_norm hE rfl rfl ?_ | refine endG_ret [] hE rfl ?_ | refine endG_norm [] hE rfl ?_ | refine vcall_A ?_); simp (maxSteps := 2000000) only [go_sem, hP, ↓reduceIte, Nat.reduceAdd, Nat.reduceMul, Nat.reduceEqDiff, Nat.reduceSub, Nat.reduceLeDiff, reduceCtorEq, Bool.and_self])
    | refine ev_skip ?_ | refine ev_block ?_ | refine ev_blk ?_ | refine ev_ret ?_ | refine ev_exit ?_ | refine evx_code_ret ?_ | refine evx_blk_ret ?_ | refine evx_lp_ret ?_
    | refine evx_code_exit ?_ | refine evx_lp_exit ?_ | refine evx_blk_hit ?_ | refine evx_blk_pass (by decide) ?_
    | refine And.intro ?_ ?_ | intro _ | decide +kernel | omega)
  all_goals (simp_all; done)
theorem s_l1Copy (r : Rect) (h1 : r.low.length ≤ 1048576) (h2 : r.high.length ≤ 1048576) : Sat Try.prog 84 [pR r] true (rR r) := by
  refine sat_walk (fn := Try.f84) rfl rfl rfl (Nat.le_of_ble_eq_true rfl) fun fr hP hN hbnd => ?_
  have hE : (envOf fr Try.prog).Ok := envOf_ok hP
  have hM := follows_of hP
  have hS : ∀ {draw ops}, statB Try.f84.ntmps draw ops = true → statB (envOf fr Try.prog).fr.N draw ops = true := fun h => by rw [envOf_fr, hN]; exact h
  repeat' (first
    | exact True.intro
    | refine ev_seq ?_
    | ((first | refine vgd_go ?_ | refine ev_region hE hM (hS (by decide +kernel)) ?_ | refine ev_if ?_ | refine end_ret hE rfl rfl ?_ | refine end_norm hE rfl rfl ?_ | refine endG_ret [] hE rfl ?_ | refine endG_norm [] hE rfl ?_ | refine vcallB_of hP (s_l1Ints _ h1) ?_ | refine vcallB_of hP (s_l1Ints _ h2) ?_ | refine vcall_A ?_); simp (maxSteps := 2000000) only [go_sem, hP, ↓reduceIte, Nat.reduceAdd, Nat.reduceMul, Nat.reduceEqDiff, Nat.reduceSub, Nat.reduceLeDiff, reduceCtorEq])
    | refine ev_skip ?_ | refine ev_block ?_ | refine ev_blk ?_ | refine ev_ret ?_ | refine ev_exit ?_ | refine evx_code_ret ?_ | refine evx_blk_ret ?_ | refine evx_lp_ret ?_
    | refine evx_code_exit ?_ | refine evx_lp_exit ?_ | refine evx_blk_hit ?_ | refine evx_blk_pass (by decide) ?_
    | refine And.intro ?_ ?_ | intro _ | decide +kernel | omega)
/-- How far the marks are, ahead of the j-th element; the first elements, marked. -/
def kS {α : Type} (w : α → Nat) (k : Int) (xs : List α) (j : Nat) : Int := k + sumW w (xs.take j)
def preS {α : Type} [Inhabited α] (f : Int → α → α) (w : α → Nat) (k : Int) (xs : List α) (j : Nat) : List α := (List.range j).map fun i => f (kS w k xs i) (xs.getD i default)
section
variable {α : Type} [Inhabited α] {f : Int → α → α} {w : α → Nat} {k : Int} {xs : List α} {j : Nat}
@[simp] theorem preS_length : (preS f w k xs j).length = j := by simp [preS]
theorem preS_zero : preS f w k xs 0 = [] := rfl
theorem preS_succ : preS f w k xs (j + 1) = preS f w k xs j ++ [f (kS w k xs j) (xs.getD j default)] := by simp [preS, List.range_succ]
theorem preS_getD {n : Nat} (h : j < n) : (preS f w k xs n).getD j default = f (kS w k xs j) (xs.getD j default) := by
  rw [getD_lt (by simpa using h)]; simp [preS]
theorem kS_zero : kS w k xs 0 = k := by simp [kS, sumW]
theorem kS_succ (h : j < xs.length) : kS w k xs (j + 1) = kS w k xs j + w (xs.getD j default) := by
  have := sumW_step (w := w) (d := default) h
  simp only [kS, this]; omega
theorem kS_le (j : Nat) : kS w k xs j ≤ k + sumW w xs := by
  have := sumW_le (w := w) (xs := xs) j
  simp only [kS]; omega
theorem kS_ge (j : Nat) : k ≤ kS w k xs j := by simp only [kS]; omega
theorem kS_done : kS w k xs xs.length = k + sumW w xs := by simp [kS]
theorem drop_map {β : Type} {g : α → β} (h : j < xs.length) : (xs.drop j).map g = g (xs.getD j default) :: (xs.drop (j + 1)).map g := by
  rw [List.drop_eq_getElem_cons h, getD_lt h]; rfl
end
def mwEntry (e : Entry) : Nat := wR e.rect + 2
def mkEntry (k : Int) (e : Entry) : Entry := ⟨markedR k e.rect, k + e.rect.low.length + e.rect.high.length, k + e.rect.low.length + e.rect.high.length + 1⟩
def markedEs (k : Int) (xs : List Entry) : List Entry := preS mkEntry mwEntry k xs xs.length
@[go_sem] abbrev gEs (κ : Nat) (xs : List Entry) : Nat × Blk := (κ, .arr true 41 4 (xs.map oEntry))
theorem wE_get {xs : List Entry} {i : Nat} (h : i < xs.length) (hw : wEntryS xs ≤ 1048576) : (xs.getD i default).rect.low.length ≤ 1048576 ∧ (xs.getD i default).rect.high.length ≤ 1048576 := by
  have := sumW_get (w := wEntry) (d := default) h
  have e : wEntry (xs.getD i default) = (xs.getD i default).rect.low.length + (xs.getD i default).rect.high.length := rfl
  unfold wEntryS at hw
  omega
theorem s_clonedEntries (xs : List Entry) (hw : wEntryS xs ≤ 1048576) : Sat Try.prog 74 [aEntryS xs] true (rEntryS xs) := by
  refine sat_walk (fn := Try.f74) rfl rfl rfl (Nat.le_of_ble_eq_true rfl) fun fr hP hN hbnd => ?_
  have hE : (envOf fr Try.prog).Ok := envOf_ok hP
  have hM := follows_of hP
  have hS : ∀ {draw ops}, statB Try.f74.ntmps draw ops = true → statB (envOf fr Try.prog).fr.N draw ops = true := fun h => by rw [envOf_fr, hN]; exact h
  have hlen : xs.length ≤ 1048576 := by unfold wEntryS at hw; omega
  repeat' (first
    | exact True.intro
    | refine ev_seq ?_
    | ((first | refine vgd_go ?_ | refine ev_region hE hM (hS (by decide +kernel)) ?_ | refine ev_if ?_ | refine end_ret hE rfl rfl ?_ | refine end_norm hE rfl rfl ?_ | refine endG_ret [] hE rfl ?_ | refine endG_norm [] hE rfl ?_ | refine vcall_A ?_); simp (maxSteps := 2000000) only [go_sem, hP, ↓reduceIte, Nat.reduceAdd, Nat.reduceMul, Nat.reduceEqDiff, Nat.reduceSub, Nat.reduceLeDiff, reduceCtorEq])
    | refine ev_skip ?_ | refine ev_block ?_ | refine ev_blk ?_ | refine ev_ret ?_ | refine ev_exit ?_ | refine evx_code_ret ?_ | refine evx_blk_ret ?_ | refine evx_lp_ret ?_
    | refine evx_code_exit ?_ | refine evx_lp_exit ?_ | refine evx_blk_hit ?_ | refine evx_blk_pass (by decide) ?_
    | refine And.intro ?_ ?_ | intro _ | decide +kernel | omega)
  refine ev_loop (ι := Nat) (fun k => [(3, .ref 100000), (7, .c (sEntryS xs)), (8, iT xs.length), (9, iT k)]) (fun k => [(100000, .arr true 41 4 ((xs.take k).map oEntry))]) (fun _ => []) (fun k => k ≤ xs.length) (fun k => xs.length - k) 0 [(100000, some 4096)] (by omega) (by simp only [go_sem, hP, ↓reduceIte, Nat.reduceAdd, Nat.reduceMul, Nat.reduceEqDiff, Nat.reduceSub, Nat.reduceLeDiff, reduceCtorEq]; simp) ?_
  intro k hk
  have hw1 : k < xs.length → IntKind.i64.wrap ((k : Int) + 1) = k + 1 := fun h => i64_in _ (by omega)
  have htl : ((xs.take k).map oEntry).length = k := by simp; omega
  by_cases hlt : k < xs.length
  · have hg := wE_get hlt hw
    repeat' (first
      | exact True.intro
      | refine ev_seq ?_
      | ((first | refine vgd_go ?_ | refine ev_region hE hM (hS (by decide +kernel)) ?_ | refine ev_if ?_ | refine end_ret hE rfl rfl ?_ | refine end_norm hE rfl rfl ?_ | refine endG_ret [] hE rfl ?_ | refine endG_norm [] hE rfl ?_ | refine vcallB_of hP (s_cloned (xs.getD k default).rect hg.1 hg.2) ?_ | refine vcall_A ?_); simp (maxSteps := 2000000) only [go_sem, hP, ↓reduceIte, Nat.reduceAdd, Nat.reduceMul, Nat.reduceEqDiff, Nat.reduceSub, Nat.reduceLeDiff, reduceCtorEq, htl, Bool.and_self])
      | refine ev_skip ?_ | refine ev_block ?_ | refine ev_blk ?_ | refine ev_ret ?_ | refine ev_exit ?_ | refine evx_code_ret ?_ | refine evx_blk_ret ?_ | refine evx_lp_ret ?_
      | refine evx_code_exit ?_ | refine evx_lp_exit ?_ | refine evx_blk_hit ?_ | refine evx_blk_pass (by decide) ?_
      | refine And.intro ?_ ?_ | intro _ | decide +kernel | omega)
    all_goals first
      | exact ev_lp (k + 1) [(100000, some 20560)] (by omega) (by omega) (by simp only [go_sem, hP, ↓reduceIte, Nat.reduceAdd, Nat.reduceMul, Nat.reduceEqDiff, Nat.reduceSub, Nat.reduceLeDiff, reduceCtorEq]; rw [take_step (d := default) hlt]; simp [hw1 hlt, oEntry_eq])
      | (exfalso; omega)
      | (simp_all; done)
  · obtain rfl : k = xs.length := by omega
    repeat' (first
      | exact True.intro
      | refine ev_seq ?_
      | ((first | refine vgd_go ?_ | refine ev_region hE hM (hS (by decide +kernel)) ?_ | refine ev_if ?_ | refine end_ret hE rfl rfl ?_ | refine end_norm hE rfl rfl ?_ | refine endG_ret [] hE rfl ?_ | refine endG_norm [] hE rfl ?_ | refine vcall_A ?_); simp (maxSteps := 2000000) only [go_sem, hP, ↓reduceIte, Nat.reduceAdd, Nat.reduceMul, Nat.reduceEqDiff, Nat.reduceSub, Nat.reduceLeDiff, reduceCtorEq, htl, List.take_length])
      | refine ev_skip ?_ | refine ev_block ?_ | refine ev_blk ?_ | refine ev_ret ?_ | refine ev_exit ?_ | refine evx_code_ret ?_ | refine evx_blk_ret ?_ | refine evx_lp_ret ?_
      | refine evx_code_exit ?_ | refine evx_lp_exit ?_ | refine evx_blk_hit ?_ | refine evx_blk_pass (by decide) ?_
      | refine And.intro ?_ ?_ | intro _ | decide +kernel | omega)
    all_goals first
      | (exfalso; omega)
      | (simp_all; done)
theorem s_l3Entries (xs : List Entry) (hw : wEntryS xs ≤ 1048576) : Sat Try.prog 38 [aEntryS xs] true (rEntryS xs) := by
  refine sat_walk (fn := Try.f38) rfl rfl rfl (Nat.le_of_ble_eq_true rfl) fun fr hP hN hbnd => ?_
  have hE : (envOf fr Try.prog).Ok := envOf_ok hP
  have hM := follows_of hP
  have hS : ∀ {draw ops}, statB Try.f38.ntmps draw ops = true → statB (envOf fr Try.prog).fr.N draw ops = true := fun h => by rw [envOf_fr, hN]; exact h
  have hlen : xs.length ≤ 1048576 := by unfold wEntryS at hw; omega
  repeat' (first
    | exact True.intro
    | refine ev_seq ?_
    | ((first | refine vgd_go ?_ | refine ev_region hE hM (hS (by decide +kernel)) ?_ | refine ev_if ?_ | refine end_ret hE rfl rfl ?_ | refine end_norm hE rfl rfl ?_ | refine endG_ret [] hE rfl ?_ | refine endG_norm [] hE rfl ?_ | refine vcall_A ?_); simp (maxSteps := 2000000) only [go_sem, hP, ↓reduceIte, Nat.reduceAdd, Nat.reduceMul, Nat.reduceEqDiff, Nat.reduceSub, Nat.reduceLeDiff, reduceCtorEq])
    | refine ev_skip ?_ | refine ev_block ?_ | refine ev_blk ?_ | refine ev_ret ?_ | refine ev_exit ?_ | refine evx_code_ret ?_ | refine evx_blk_ret ?_ | refine evx_lp_ret ?_
    | refine evx_code_exit ?_ | refine evx_lp_exit ?_ | refine evx_blk_hit ?_ | refine evx_blk_pass (by decide) ?_
    | refine And.intro ?_ ?_ | intro _ | decide +kernel | omega)
  refine ev_loop (ι := Nat) (fun k => [(0, .c (sEntryS xs)), (3, .ref 100000), (4, iT k)]) (fun k => [(100000, .arr true 41 4 ((xs.take k).map oEntry))]) (fun _ => []) (fun k => k ≤ xs.length) (fun k => xs.length - k) 0 [(100000, some 4096)] (by omega) (by simp only [go_sem, hP, ↓reduceIte, Nat.reduceAdd, Nat.reduceMul, Nat.reduceEqDiff, Nat.reduceSub, Nat.reduceLeDiff, reduceCtorEq]; simp) ?_
  intro k hk
  have hw1 : k < xs.length → IntKind.i64.wrap ((k : Int) + 1) = k + 1 := fun h => i64_in _ (by omega)
  have htl : ((xs.take k).map oEntry).length = k := by simp; omega
  by_cases hlt : k < xs.length
  · have hg := wE_get hlt hw
    repeat' (first
      | exact True.intro
      | refine ev_seq ?_
      | ((first | refine vgd_go ?_ | refine ev_region hE hM (hS (by decide +kernel)) ?_ | refine ev_if ?_ | refine end_ret hE rfl rfl ?_ | refine end_norm hE rfl rfl ?_ | refine endG_ret [] hE rfl ?_ | refine endG_norm [] hE rfl ?_ | refine vcallB_of hP (s_l1Copy (xs.getD k default).rect hg.1 hg.2) ?_ | refine vcall_A ?_); simp (maxSteps := 2000000) only [go_sem, hP, ↓reduceIte, Nat.reduceAdd, Nat.reduceMul, Nat.reduceEqDiff, Nat.reduceSub, Nat.reduceLeDiff, reduceCtorEq, htl, Bool.and_self])
      | refine ev_skip ?_ | refine ev_block ?_ | refine ev_blk ?_ | refine ev_ret ?_ | refine ev_exit ?_ | refine evx_code_ret ?_ | refine evx_blk_ret ?_ | refine evx_lp_ret ?_
      | refine evx_code_exit ?_ | refine evx_lp_exit ?_ | refine evx_blk_hit ?_ | refine evx_blk_pass (by decide) ?_
      | refine And.intro ?_ ?_ | intro _ | decide +kernel | omega)
    all_goals first
      | exact ev_lp (k + 1) [(100000, some 28696)] (by omega) (by omega) (by simp only [go_sem, hP, ↓reduceIte, Nat.reduceAdd, Nat.reduceMul, Nat.reduceEqDiff, Nat.reduceSub, Nat.reduceLeDiff, reduceCtorEq]; rw [take_step (d := default) hlt]; simp [hw1 hlt, oEntry_eq])
      | (exfalso; omega)
      | (simp_all; done)
  · obtain rfl : k = xs.length := by omega
    repeat' (first
      | exact True.intro
      | refine ev_seq ?_
      | ((first | refine vgd_go ?_ | refine ev_region hE hM (hS (by decide +kernel)) ?_ | refine ev_if ?_ | refine end_ret hE rfl rfl ?_ | refine end_norm hE rfl rfl ?_ | refine endG_ret [] hE rfl ?_ | refine endG_norm [] hE rfl ?_ | refine vcall_A ?_); simp (maxSteps := 2000000) only [go_sem, hP, ↓reduceIte, Nat.reduceAdd, Nat.reduceMul, Nat.reduceEqDiff, Nat.reduceSub, Nat.reduceLeDiff, reduceCtorEq, htl, List.take_length])
      | refine ev_skip ?_ | refine ev_block ?_ | refine ev_blk ?_ | refine ev_ret ?_ | refine ev_exit ?_ | refine evx_code_ret ?_ | refine evx_blk_ret ?_ | refine evx_lp_ret ?_
      | refine evx_code_exit ?_ | refine evx_lp_exit ?_ | refine evx_blk_hit ?_ | refine evx_blk_pass (by decide) ?_
      | refine And.intro ?_ ?_ | intro _ | decide +kernel | omega)
    all_goals first
      | (exfalso; omega)
      | (simp_all; done)
/-- All boxes have as many numbers as n tells. -/
def Even (xs : List Entry) (n : Nat) : Prop := ∀ x ∈ xs, x.rect.low.length = n ∧ x.rect.high.length = n
theorem even_get {xs : List Entry} {n k : Nat} (h : Even xs n) (hk : k < xs.length) : (xs.getD k default).rect.low.length = n ∧ (xs.getD k default).rect.high.length = n := h _ (getD_mem hk)
theorem even_drop {xs : List Entry} {n k : Nat} (h : Even xs n) : Even (xs.drop k) n := fun x hx => h x (List.mem_of_mem_drop hx)
theorem even_take {xs : List Entry} {n k : Nat} (h : Even xs n) : Even (xs.take k) n := fun x hx => h x (List.mem_of_mem_take hx)
def boxTo (xs : List Entry) : Nat → Rect
  | 0 => (xs.getD 0 default).rect
  | k + 1 => un (boxTo xs k) (xs.getD (k + 1) default).rect
theorem boxTo_zero (xs : List Entry) : boxTo xs 0 = (xs.getD 0 default).rect := rfl
theorem boxTo_succ (xs : List Entry) (k : Nat) : boxTo xs (k + 1) = un (boxTo xs k) (xs.getD (k + 1) default).rect := rfl
def bx (xs : List Entry) : Rect := boxTo xs (xs.length - 1)
theorem un_size {a b : Rect} : (un a b).low.length = a.low.length ∧ (un a b).high.length = a.low.length := by simp [un]
theorem boxTo_size {xs : List Entry} {n : Nat} (h : Even xs n) : ∀ k, k < xs.length → (boxTo xs k).low.length = n ∧ (boxTo xs k).high.length = n
  | 0, hk => even_get h hk
  | k + 1, hk => by
    have := boxTo_size h k (by omega)
    rw [boxTo_succ]
    exact ⟨by rw [un_size.1]; exact this.1, by rw [un_size.2]; exact this.1⟩
theorem boxTo_lens {xs : List Entry} {n k : Nat} (h : Even xs n) (hk : k + 1 < xs.length) : Lens (boxTo xs k) (xs.getD (k + 1) default).rect := by
  have h1 := boxTo_size h k (by omega)
  have h2 := even_get h hk
  exact ⟨by omega, by omega, by omega⟩
theorem bx_size {xs : List Entry} {n : Nat} (h : Even xs n) (h0 : 0 < xs.length) : (bx xs).low.length = n ∧ (bx xs).high.length = n := boxTo_size h _ (by omega)
theorem nf_rf {n : Node} {d : Int} (h : nf n d = 0) : ∀ x ∈ n.entries, rf x.rect d = 0 := by
  unfold nf at h
  (repeat' split at h) <;> try omega
  all_goals first
    | (rename_i h1 h2 h3; exact fun x hx => ef_rf (firstF_zero (by simpa using ‹¬firstF (entryF d) n.entries ≠ 0›) x hx))
    | skip
theorem rf_even {xs : List Entry} {d : Int} (h : ∀ x ∈ xs, rf x.rect d = 0) : Even xs d.toNat := fun x hx => by
  have := rf_len (h x hx); omega
theorem rf_two {r : Rect} {d : Int} (h : rf r d = 0) : 2 ≤ d ∧ d ≤ 3 := by
  have h1 := rf_len h
  have h2 : pf r.low d = 0 := by unfold rf at h; split at h <;> simp_all
  have := pf_three h2
  unfold pf at h2; split at h2 <;> simp_all [inB]
def waste (xs : List Entry) (i j : Nat) : Int := IntKind.i64.wrap (growth (xs.getD i default).rect (xs.getD j default).rect - area (xs.getD j default).rect)
structure Sd where
  x : Int
  y : Int
  most : Int
def sdStep (xs : List Entry) (i j : Nat) (s : Sd) : Sd := if s.most < waste xs i j then ⟨i, j, waste xs i j⟩ else s
def sdIn (xs : List Entry) (i : Nat) (s : Sd) : Nat → Sd
  | 0 => s
  | m + 1 => sdStep xs i (i + 1 + m) (sdIn xs i s m)
def sdOut (xs : List Entry) : Nat → Sd
  | 0 => ⟨0, 1, waste xs 0 1⟩
  | i + 1 => sdIn xs i (sdOut xs i) (xs.length - 1 - i)
def sd (xs : List Entry) : Sd := sdOut xs xs.length
/-- The same as the program sees it: none at the start. -/
def sdI (xs : List Entry) (i m : Nat) : Sd := if i = 0 ∧ m = 0 then ⟨-1, -1, 0⟩ else sdIn xs i (sdOut xs i) m
theorem sdStep_yes {xs : List Entry} {i j : Nat} {s : Sd} (h : s.most < waste xs i j) : sdStep xs i j s = ⟨i, j, waste xs i j⟩ := if_pos h
theorem sdStep_no {xs : List Entry} {i j : Nat} {s : Sd} (h : ¬ s.most < waste xs i j) : sdStep xs i j s = s := if_neg h
/-- The seeds lie in the list, one ahead of the other. -/
def SdOk (n : Nat) (s : Sd) : Prop := ∃ x y : Nat, s.x = x ∧ s.y = y ∧ x < y ∧ y < n
theorem sdStep_ok {xs : List Entry} {i j : Nat} {s : Sd} (h : SdOk xs.length s) (h1 : i < j) (h2 : j < xs.length) : SdOk xs.length (sdStep xs i j s) := by
  unfold sdStep; split
  · exact ⟨i, j, rfl, rfl, h1, h2⟩
  · exact h
theorem sdIn_ok {xs : List Entry} {i : Nat} {s : Sd} (h : SdOk xs.length s) : ∀ m, i + m < xs.length → SdOk xs.length (sdIn xs i s m)
  | 0, _ => h
  | m + 1, hm => sdStep_ok (sdIn_ok h m (by omega)) (by omega) (by omega)
theorem sdOut_ok {xs : List Entry} (h : 2 ≤ xs.length) : ∀ i, i ≤ xs.length → SdOk xs.length (sdOut xs i)
  | 0, _ => ⟨0, 1, rfl, rfl, by omega, by omega⟩
  | i + 1, hi => sdIn_ok (sdOut_ok h i (by omega)) _ (by omega)
theorem sd_ok {xs : List Entry} (h : 2 ≤ xs.length) : SdOk xs.length (sd xs) := sdOut_ok h _ (Nat.le_refl _)
theorem sdI_first {xs : List Entry} : sdI xs 0 0 = ⟨-1, -1, 0⟩ := rfl
theorem sdI_later {xs : List Entry} {i m : Nat} (h : ¬ (i = 0 ∧ m = 0)) : sdI xs i m = sdIn xs i (sdOut xs i) m := if_neg h
theorem sdI_neg {xs : List Entry} {i m : Nat} (h2 : 2 ≤ xs.length) (hi : i + m < xs.length) : (sdI xs i m).x < 0 ↔ i = 0 ∧ m = 0 := by
  by_cases h : i = 0 ∧ m = 0
  · obtain ⟨rfl, rfl⟩ := h; simp [sdI_first]
  · rw [sdI_later h]
    obtain ⟨x, y, e1, e2, e3, e4⟩ := sdIn_ok (i := i) (sdOut_ok h2 i (by omega)) m hi
    simp only [h, iff_false]; omega
theorem sdI_yes {xs : List Entry} {i m : Nat} (h2 : 2 ≤ xs.length) (hi : i + 1 + m < xs.length) (h : (sdI xs i m).x < 0 ∨ (sdI xs i m).most < waste xs i (i + 1 + m)) : sdI xs i (m + 1) = ⟨i, (i + 1 + m : Nat), waste xs i (i + 1 + m)⟩ := by
  by_cases h0 : i = 0 ∧ m = 0
  · obtain ⟨rfl, rfl⟩ := h0
    show sdStep xs 0 1 ⟨0, 1, waste xs 0 1⟩ = _
    rw [sdStep_no (by simp)]; rfl
  · have h1 : ¬ (sdI xs i m).x < 0 := fun h3 => h0 ((sdI_neg h2 (by omega)).mp h3)
    have h3 := h.resolve_left h1
    rw [sdI_later h0] at h3
    rw [sdI_later (by omega)]
    exact sdStep_yes h3
theorem sdI_no {xs : List Entry} {i m : Nat} (h2 : 2 ≤ xs.length) (hi : i + 1 + m < xs.length) (h : ¬ ((sdI xs i m).x < 0 ∨ (sdI xs i m).most < waste xs i (i + 1 + m))) : sdI xs i (m + 1) = sdI xs i m := by
  have h0 : ¬ (i = 0 ∧ m = 0) := fun h3 => h (.inl ((sdI_neg h2 (by omega)).mpr h3))
  rw [sdI_later h0] at h ⊢
  rw [sdI_later (by omega)]
  exact sdStep_no (fun h3 => h (.inr h3))
theorem sdI_next {xs : List Entry} {i : Nat} (h2 : 2 ≤ xs.length) (hi : i < xs.length) : sdI xs (i + 1) 0 = sdI xs i (xs.length - 1 - i) := by
  rw [sdI_later (by omega), sdI_later (by omega)]; rfl
theorem sdI_last {xs : List Entry} (h2 : 2 ≤ xs.length) : sdI xs xs.length 0 = sd xs := by
  rw [sdI_later (by omega)]; rfl
def weC (n : Node) (d : Int) (e : Entry) : Int := if nf n d ≠ 0 then nf n d else if entryF d e ≠ 0 then entryF d e else if fits n.level e = false then 1 else if 0 ≤ findRef n.entries e.ref then 6 else if (4 : Int) < n.entries.length then 7 else 0
def weV (n : Node) (d : Int) (e : Entry) : Node := if weC n d e = 0 then ⟨n.level, n.nsn, n.right, n.entries ++ [e]⟩ else ⟨0, 0, 0, []⟩
def wdC (n : Node) (d r : Int) (b : Rect) : Int := if nf n d ≠ 0 then nf n d else if rf b d ≠ 0 then rf b d else if findRef n.entries r < 0 then 4 else 0
def wider (e : Entry) (b : Rect) : Entry := ⟨un e.rect b, e.ref, e.nsn⟩
def wdV (n : Node) (d r : Int) (b : Rect) : Node := if wdC n d r b = 0 then ⟨n.level, n.nsn, n.right, n.entries.set (findRef n.entries r).toNat (wider (n.entries.getD (findRef n.entries r).toNat default) b)⟩ else ⟨0, 0, 0, []⟩
theorem nf_inB {n : Node} {d : Int} (h : nf n d = 0) : inB d 2 3 = true ∧ n.entries.length ≤ 5 := by
  unfold nf at h
  (repeat' split at h) <;> simp_all <;> omega
theorem nf_small {n : Node} {d : Int} (h : nf n d = 0) : d.toNat ≤ 1048576 := by
  have := (nf_inB h).1
  simp [inB] at this; omega
theorem esf_small {xs : List Entry} {d : Int} (h : esf xs d = 0) : d.toNat ≤ 1048576 := by
  unfold esf at h
  (repeat' split at h) <;> simp_all [inB] <;> omega
theorem even_w {xs : List Entry} {d : Int} (h : ∀ x ∈ xs, rf x.rect d = 0) : wEntryS xs ≤ 7 * xs.length := by
  unfold wEntryS
  have : ∀ ys : List Entry, (∀ x ∈ ys, rf x.rect d = 0) → sumW wEntry ys ≤ 6 * ys.length := by
    intro ys
    induction ys with
    | nil => intro _; exact Nat.zero_le _
    | cons y ys ih =>
      intro hy
      have e2 : sumW wEntry (y :: ys) = wEntry y + sumW wEntry ys := rfl
      have h1 := hy y (by simp)
      have h2 := rf_len h1
      have h3 := rf_two h1
      have h4 := ih fun x hx => hy x (by simp [hx])
      have e3 : wEntry y = y.rect.low.length + y.rect.high.length := rfl
      rw [e2, List.length_cons, e3]; omega
  have := this xs h
  omega
theorem nf_w {n : Node} {d : Int} (h : nf n d = 0) : wEntryS n.entries ≤ 35 := by
  have h1 := even_w (nf_rf h)
  have h2 := (nf_inB h).2
  omega
theorem findRef_get {xs : List Entry} {r : Int} (h : 0 ≤ findRef xs r) : ∃ i : Nat, findRef xs r = i ∧ i < xs.length ∧ (xs.getD i default).ref = r := by
  unfold findRef at h ⊢
  split at h
  · rename_i ha
    rw [if_pos ha]
    have hi : xs.findIdx (fun e => decide (e.ref = r)) < xs.length := by
      rw [List.findIdx_lt_length]; simpa using ha
    refine ⟨_, rfl, hi, ?_⟩
    rw [getD_lt hi]
    have := List.findIdx_getElem (w := hi)
    simpa using this
  · omega
theorem s_l3Box (xs : List Entry) (n : Nat) (h : Even xs n) (h0 : 0 < xs.length) (hn : n ≤ 1048576) : Sat Try.prog 85 [aEntryS xs] true (rR (bx xs)) := by
  refine sat_walk (fn := Try.f85) rfl rfl rfl (Nat.le_of_ble_eq_true rfl) fun fr hP hN hbnd => ?_
  have hE : (envOf fr Try.prog).Ok := envOf_ok hP
  have hM := follows_of hP
  have hS : ∀ {draw ops}, statB Try.f85.ntmps draw ops = true → statB (envOf fr Try.prog).fr.N draw ops = true := fun h => by rw [envOf_fr, hN]; exact h
  have hlen := bnd_EntryS hbnd
  have g0 := even_get h h0
  repeat' (first
    | exact True.intro
    | refine ev_seq ?_
    | ((first | refine vgd_go ?_ | refine ev_region hE hM (hS (by decide +kernel)) ?_ | refine ev_if ?_ | refine end_ret hE rfl rfl ?_ | refine end_norm hE rfl rfl ?_ | refine endG_ret [] hE rfl ?_ | refine endG_norm [] hE rfl ?_ | refine vcallB_of hP (s_l1Copy (xs.getD 0 default).rect (by omega) (by omega)) ?_ | refine vcall_A ?_); simp (maxSteps := 2000000) only [go_sem, hP, ↓reduceIte, Nat.reduceAdd, Nat.reduceMul, Nat.reduceEqDiff, Nat.reduceSub, Nat.reduceLeDiff, reduceCtorEq])
    | refine ev_skip ?_ | refine ev_block ?_ | refine ev_blk ?_ | refine ev_ret ?_ | refine ev_exit ?_ | refine evx_code_ret ?_ | refine evx_blk_ret ?_ | refine evx_lp_ret ?_
    | refine evx_code_exit ?_ | refine evx_lp_exit ?_ | refine evx_blk_hit ?_ | refine evx_blk_pass (by decide) ?_
    | refine And.intro ?_ ?_ | intro _ | decide +kernel | omega)
  all_goals first | (exfalso; omega) | skip
  refine ev_loop (ι := Nat) (fun k => [(0, .c (sEntryS xs)), (2, .ptr 0 0), (3, .ptr 4128 0), (4, iT (k + 1))]) (fun k => [(0, .box [.nilS, .nilS]), (4128, .box [.ref 100000, .ref 100001]), (100000, .arr true 2 1 ((boxTo xs k).low.map eI)), (100001, .arr true 2 1 ((boxTo xs k).high.map eI))]) (fun _ => []) (fun k => k + 1 ≤ xs.length) (fun k => xs.length - k) 0 [(100000, some 4120), (100001, some 1052696)] (by omega) (by simp only [go_sem, hP, ↓reduceIte, Nat.reduceAdd, Nat.reduceMul, Nat.reduceEqDiff, Nat.reduceSub, Nat.reduceLeDiff, reduceCtorEq]; simp [boxTo_zero]) ?_
  intro k hk
  by_cases hlt : k + 1 < xs.length
  · have hw : IntKind.i64.wrap ((k : Int) + 1 + 1) = k + 1 + 1 := i64_in _ (by have : maxLen = 9223372036854775807 := rfl; omega)
    have hs := boxTo_size h k (by omega)
    have hk1 : Int.toNat ((k : Int) + 1) = k + 1 := by omega
    repeat' (first
      | exact True.intro
      | refine ev_seq ?_
      | ((first | refine vgd_go ?_ | refine ev_region hE hM (hS (by decide +kernel)) ?_ | refine ev_if ?_ | refine end_ret hE rfl rfl ?_ | refine end_norm hE rfl rfl ?_ | refine endG_ret [] hE rfl ?_ | refine endG_norm [] hE rfl ?_ | refine vcallB_of hP (s_l1Union (boxTo xs k) (xs.getD (k + 1) default).rect (boxTo_lens h hlt) (by omega)) ?_ | refine vcall_A ?_); simp (maxSteps := 2000000) only [go_sem, hP, ↓reduceIte, Nat.reduceAdd, Nat.reduceMul, Nat.reduceEqDiff, Nat.reduceSub, Nat.reduceLeDiff, reduceCtorEq, hk1])
      | refine ev_skip ?_ | refine ev_block ?_ | refine ev_blk ?_ | refine ev_ret ?_ | refine ev_exit ?_ | refine evx_code_ret ?_ | refine evx_blk_ret ?_ | refine evx_lp_ret ?_
      | refine evx_code_exit ?_ | refine evx_lp_exit ?_ | refine evx_blk_hit ?_ | refine evx_blk_pass (by decide) ?_
      | refine And.intro ?_ ?_ | intro _ | decide +kernel | omega)
    all_goals first
      | exact ev_lp (k + 1) [(100000, some 20512), (100001, some 1069088)] (by omega) (by omega) (by simp only [go_sem, hP, ↓reduceIte, Nat.reduceAdd, Nat.reduceMul, Nat.reduceEqDiff, Nat.reduceSub, Nat.reduceLeDiff, reduceCtorEq]; simp [hw, boxTo_succ])
      | (exfalso; omega)
      | (simp_all; done)
  · repeat' (first
      | exact True.intro
      | refine ev_seq ?_
      | ((first | refine vgd_go ?_ | refine ev_region hE hM (hS (by decide +kernel)) ?_ | refine ev_if ?_ | refine end_ret hE rfl rfl ?_ | refine end_norm hE rfl rfl ?_ | refine endG_ret [] hE rfl ?_ | refine endG_norm [] hE rfl ?_ | refine vcall_A ?_); simp (maxSteps := 2000000) only [go_sem, hP, ↓reduceIte, Nat.reduceAdd, Nat.reduceMul, Nat.reduceEqDiff, Nat.reduceSub, Nat.reduceLeDiff, reduceCtorEq])
      | refine ev_skip ?_ | refine ev_block ?_ | refine ev_blk ?_ | refine ev_ret ?_ | refine ev_exit ?_ | refine evx_code_ret ?_ | refine evx_blk_ret ?_ | refine evx_lp_ret ?_
      | refine evx_code_exit ?_ | refine evx_lp_exit ?_ | refine evx_blk_hit ?_ | refine evx_blk_pass (by decide) ?_
      | refine And.intro ?_ ?_ | intro _ | decide +kernel | omega)
    all_goals first
      | (exfalso; omega)
      | (have e : xs.length - 1 = k := by omega
         simp [bx, e]; done)
      | (simp_all; done)
theorem s_box (xs : List Entry) (n : Nat) (h : Even xs n) (h0 : 0 < xs.length) (hn : n ≤ 1048576) : Sat Try.prog 81 [aEntryS xs] true (rR (bx xs)) := by
  refine sat_walk (fn := Try.f81) rfl rfl rfl (Nat.le_of_ble_eq_true rfl) fun fr hP hN hbnd => ?_
  have hE : (envOf fr Try.prog).Ok := envOf_ok hP
  have hM := follows_of hP
  have hS : ∀ {draw ops}, statB Try.f81.ntmps draw ops = true → statB (envOf fr Try.prog).fr.N draw ops = true := fun h => by rw [envOf_fr, hN]; exact h
  have hlen := bnd_EntryS hbnd
  have hm : maxLen = 9223372036854775807 := rfl
  have g0 := even_get h h0
  have hdr : List.take (xs.length - Int.toNat 1) (List.drop (Int.toNat 1) (List.map eEntry xs)) = (xs.drop 1).map eEntry := by rw [show Int.toNat 1 = 1 from rfl, ← List.map_drop, List.take_of_length_le (by simp)]
  repeat' (first
    | exact True.intro
    | refine ev_seq ?_
    | ((first | refine vgd_go ?_ | refine ev_region hE hM (hS (by decide +kernel)) ?_ | refine ev_if ?_ | refine end_ret hE rfl rfl ?_ | refine end_norm hE rfl rfl ?_ | refine endG_ret [] hE rfl ?_ | refine endG_norm [] hE rfl ?_ | refine vcallB_of hP (s_cloned (xs.getD 0 default).rect (by omega) (by omega)) ?_ | refine vcall_A ?_); simp (maxSteps := 2000000) only [go_sem, hP, ↓reduceIte, Nat.reduceAdd, Nat.reduceMul, Nat.reduceEqDiff, Nat.reduceSub, Nat.reduceLeDiff, reduceCtorEq, hdr])
    | refine ev_skip ?_ | refine ev_block ?_ | refine ev_blk ?_ | refine ev_ret ?_ | refine ev_exit ?_ | refine evx_code_ret ?_ | refine evx_blk_ret ?_ | refine evx_lp_ret ?_
    | refine evx_code_exit ?_ | refine evx_lp_exit ?_ | refine evx_blk_hit ?_ | refine evx_blk_pass (by decide) ?_
    | refine And.intro ?_ ?_ | intro _ | decide +kernel | omega)
  all_goals first | (exfalso; omega) | skip
  refine ev_loop (ι := Nat) (fun k => [(2, .ptr 0 0), (3, .ptr 4136 0), (12, .c (sEntryS (xs.drop 1))), (13, iT (xs.length - 1 : Nat)), (14, iT k)]) (fun k => [(0, .box [.nilS, .nilS]), (4136, .box [.ref 100000, .ref 100001]), (100000, .arr true 2 1 ((boxTo xs k).low.map eI)), (100001, .arr true 2 1 ((boxTo xs k).high.map eI))]) (fun _ => []) (fun k => k + 1 ≤ xs.length) (fun k => xs.length - k) 0 [(100000, some 4128), (100001, some 1052704)] (by omega) (by simp only [go_sem, hP, ↓reduceIte, Nat.reduceAdd, Nat.reduceMul, Nat.reduceEqDiff, Nat.reduceSub, Nat.reduceLeDiff, reduceCtorEq]; simp [boxTo_zero]) ?_
  intro k hk
  by_cases hlt : k + 1 < xs.length
  · have hw : IntKind.i64.wrap ((k : Int) + 1) = k + 1 := i64_in _ (by omega)
    have hs := boxTo_size h k (by omega)
    have hg : (xs.drop 1).getD k default = xs.getD (k + 1) default := by simp [List.getD_eq_getElem?_getD, Nat.add_comm]
    repeat' (first
      | exact True.intro
      | refine ev_seq ?_
      | ((first | refine vgd_go ?_ | refine ev_region hE hM (hS (by decide +kernel)) ?_ | refine ev_if ?_ | refine end_ret hE rfl rfl ?_ | refine end_norm hE rfl rfl ?_ | refine endG_ret [] hE rfl ?_ | refine endG_norm [] hE rfl ?_ | refine vcallB_of hP (s_union (boxTo xs k) (xs.getD (k + 1) default).rect (boxTo_lens h hlt) (by omega)) ?_ | refine vcall_A ?_); simp (maxSteps := 2000000) only [go_sem, hP, ↓reduceIte, Nat.reduceAdd, Nat.reduceMul, Nat.reduceEqDiff, Nat.reduceSub, Nat.reduceLeDiff, reduceCtorEq, hg])
      | refine ev_skip ?_ | refine ev_block ?_ | refine ev_blk ?_ | refine ev_ret ?_ | refine ev_exit ?_ | refine evx_code_ret ?_ | refine evx_blk_ret ?_ | refine evx_lp_ret ?_
      | refine evx_code_exit ?_ | refine evx_lp_exit ?_ | refine evx_blk_hit ?_ | refine evx_blk_pass (by decide) ?_
      | refine And.intro ?_ ?_ | intro _ | decide +kernel | omega)
    all_goals first
      | exact ev_lp (k + 1) [(100000, some 20504), (100001, some 1069080)] (by omega) (by omega) (by simp only [go_sem, hP, ↓reduceIte, Nat.reduceAdd, Nat.reduceMul, Nat.reduceEqDiff, Nat.reduceSub, Nat.reduceLeDiff, reduceCtorEq]; simp [hw, boxTo_succ])
      | (exfalso; simp_all; omega)
      | (simp_all; done)
  · repeat' (first
      | exact True.intro
      | refine ev_seq ?_
      | ((first | refine vgd_go ?_ | refine ev_region hE hM (hS (by decide +kernel)) ?_ | refine ev_if ?_ | refine end_ret hE rfl rfl ?_ | refine end_norm hE rfl rfl ?_ | refine endG_ret [] hE rfl ?_ | refine endG_norm [] hE rfl ?_ | refine vcall_A ?_); simp (maxSteps := 2000000) only [go_sem, hP, ↓reduceIte, Nat.reduceAdd, Nat.reduceMul, Nat.reduceEqDiff, Nat.reduceSub, Nat.reduceLeDiff, reduceCtorEq])
      | refine ev_skip ?_ | refine ev_block ?_ | refine ev_blk ?_ | refine ev_ret ?_ | refine ev_exit ?_ | refine evx_code_ret ?_ | refine evx_blk_ret ?_ | refine evx_lp_ret ?_
      | refine evx_code_exit ?_ | refine evx_lp_exit ?_ | refine evx_blk_hit ?_ | refine evx_blk_pass (by decide) ?_
      | refine And.intro ?_ ?_ | intro _ | decide +kernel | omega)
    all_goals first
      | (exfalso; omega)
      | (have e : xs.length - 1 = k := by omega
         simp [bx, e]; done)
      | (simp_all; done)
theorem s_l5Seeds (xs : List Entry) (n : Nat) (h : Even xs n) (h2 : 2 ≤ xs.length) (hn : n ≤ 1048576) : Sat Try.prog 42 [aEntryS xs] true [(false, [.int .i64 (sd xs).x]), (false, [.int .i64 (sd xs).y])] := by
  refine sat_walk (fn := Try.f42) rfl rfl rfl (Nat.le_of_ble_eq_true rfl) fun fr hP hN hbnd => ?_
  have hE : (envOf fr Try.prog).Ok := envOf_ok hP
  have hM := follows_of hP
  have hS : ∀ {draw ops}, statB Try.f42.ntmps draw ops = true → statB (envOf fr Try.prog).fr.N draw ops = true := fun h => by rw [envOf_fr, hN]; exact h
  have hlen := bnd_EntryS hbnd
  have hm : maxLen = 9223372036854775807 := rfl
  have hl : ∀ i j, i < xs.length → j < xs.length → Lens (xs.getD i default).rect (xs.getD j default).rect := fun i j hi hj => by
    have a := even_get h hi; have b := even_get h hj; exact ⟨by omega, by omega, by omega⟩
  have hz : ∀ i, i < xs.length → (xs.getD i default).rect.low.length ≤ 1048576 := fun i hi => by have a := even_get h hi; omega
  repeat' (first
    | exact True.intro
    | refine ev_seq ?_
    | ((first | refine vgd_go ?_ | refine ev_region hE hM (hS (by decide +kernel)) ?_ | refine ev_if ?_ | refine end_ret hE rfl rfl ?_ | refine end_norm hE rfl rfl ?_ | refine endG_ret [] hE rfl ?_ | refine endG_norm [] hE rfl ?_ | refine vcallB_of hP (s_l1Growth (xs.getD 0 default).rect (xs.getD 1 default).rect (hl 0 1 (by omega) (by omega)) (hz 0 (by omega))) ?_ | refine vcallB_of hP (s_l1Area (xs.getD 1 default).rect (hl 1 1 (by omega) (by omega)).h1) ?_ | refine vcall_A ?_); simp (maxSteps := 2000000) only [go_sem, hP, ↓reduceIte, Nat.reduceAdd, Nat.reduceMul, Nat.reduceEqDiff, Nat.reduceSub, Nat.reduceLeDiff, reduceCtorEq])
    | refine ev_skip ?_ | refine ev_block ?_ | refine ev_blk ?_ | refine ev_ret ?_ | refine ev_exit ?_ | refine evx_code_ret ?_ | refine evx_blk_ret ?_ | refine evx_lp_ret ?_
    | refine evx_code_exit ?_ | refine evx_lp_exit ?_ | refine evx_blk_hit ?_ | refine evx_blk_pass (by decide) ?_
    | refine And.intro ?_ ?_ | intro _ | decide +kernel | omega)
  all_goals first | (exfalso; omega) | skip
  refine ev_loop (ι := Nat) (fun i => [(0, .c (sEntryS xs)), (4, iT (sdOut xs i).x), (5, iT (sdOut xs i).y), (6, iT (sdOut xs i).most), (7, iT i)]) (fun _ => []) (fun _ => []) (fun i => i ≤ xs.length) (fun i => xs.length - i) 0 [] (by omega) (by simp only [go_sem, hP, ↓reduceIte, Nat.reduceAdd, Nat.reduceMul, Nat.reduceEqDiff, Nat.reduceSub, Nat.reduceLeDiff, reduceCtorEq]; simp [sdOut, waste]) ?_
  intro i hi
  repeat' (first
    | exact True.intro
    | refine ev_seq ?_
    | ((first | refine vgd_go ?_ | refine ev_region hE hM (hS (by decide +kernel)) ?_ | refine ev_if ?_ | refine end_ret hE rfl rfl ?_ | refine end_norm hE rfl rfl ?_ | refine endG_ret [] hE rfl ?_ | refine endG_norm [] hE rfl ?_ | refine vcall_A ?_); simp (maxSteps := 2000000) only [go_sem, hP, ↓reduceIte, Nat.reduceAdd, Nat.reduceMul, Nat.reduceEqDiff, Nat.reduceSub, Nat.reduceLeDiff, reduceCtorEq])
    | refine ev_skip ?_ | refine ev_block ?_ | refine ev_blk ?_ | refine ev_ret ?_ | refine ev_exit ?_ | refine evx_code_ret ?_ | refine evx_blk_ret ?_ | refine evx_lp_ret ?_
    | refine evx_code_exit ?_ | refine evx_lp_exit ?_ | refine evx_blk_hit ?_ | refine evx_blk_pass (by decide) ?_
    | refine And.intro ?_ ?_ | intro _ | decide +kernel | omega)
  · rename_i hlt
    have hlt : i < xs.length := by omega
    have hw1 : IntKind.i64.wrap ((i : Int) + 1) = i + 1 := i64_in _ (by omega)
    refine ev_loop (ι := Nat) (fun m => [(0, .c (sEntryS xs)), (4, iT (sdIn xs i (sdOut xs i) m).x), (5, iT (sdIn xs i (sdOut xs i) m).y), (6, iT (sdIn xs i (sdOut xs i) m).most), (7, iT i), (8, iT (i + 1 + m : Nat))]) (fun _ => []) (fun _ => []) (fun m => i + 1 + m ≤ xs.length) (fun m => xs.length - m) 0 [] (by omega) (by simp only [go_sem, hP, ↓reduceIte, Nat.reduceAdd, Nat.reduceMul, Nat.reduceEqDiff, Nat.reduceSub, Nat.reduceLeDiff, reduceCtorEq]; simp [sdIn, hw1]) ?_
    intro m hm2
    have hw2 : i + 1 + m < xs.length → IntKind.i64.wrap ((i + 1 + m : Nat) + 1) = (i + 1 + (m + 1) : Nat) := fun h => by rw [i64_in _ (by omega)]; omega
    by_cases hj : i + 1 + m < xs.length
    · repeat' (first
        | exact True.intro
        | refine ev_seq ?_
        | ((first | refine vgd_go ?_ | refine ev_region hE hM (hS (by decide +kernel)) ?_ | refine ev_if ?_ | refine end_ret hE rfl rfl ?_ | refine end_norm hE rfl rfl ?_ | refine endG_ret [] hE rfl ?_ | refine endG_norm [] hE rfl ?_ | refine vcallB_of hP (s_l1Growth (xs.getD i default).rect (xs.getD (i + 1 + m) default).rect (hl _ _ hlt hj) (hz _ hlt)) ?_ | refine vcallB_of hP (s_l1Area (xs.getD (i + 1 + m) default).rect (hl _ _ hj hj).h1) ?_ | refine vcall_A ?_); simp (maxSteps := 2000000) only [go_sem, hP, ↓reduceIte, Nat.reduceAdd, Nat.reduceMul, Nat.reduceEqDiff, Nat.reduceSub, Nat.reduceLeDiff, reduceCtorEq])
        | refine ev_skip ?_ | refine ev_block ?_ | refine ev_blk ?_ | refine ev_ret ?_ | refine ev_exit ?_ | refine evx_code_ret ?_ | refine evx_blk_ret ?_ | refine evx_lp_ret ?_
        | refine evx_code_exit ?_ | refine evx_lp_exit ?_ | refine evx_blk_hit ?_ | refine evx_blk_pass (by decide) ?_
        | refine And.intro ?_ ?_ | intro _ | decide +kernel | omega)
      all_goals first
        | (have hs := sdStep_yes (xs := xs) (i := i) (j := i + 1 + m) (s := sdIn xs i (sdOut xs i) m) (by assumption)
           exact ev_lp (m + 1) [] (by omega) (by omega) (by simp only [go_sem, hP, ↓reduceIte, Nat.reduceAdd, Nat.reduceMul, Nat.reduceEqDiff, Nat.reduceSub, Nat.reduceLeDiff, reduceCtorEq]; simp [sdIn, hs, waste]; simpa using hw2 hj))
        | (have hs := sdStep_no (xs := xs) (i := i) (j := i + 1 + m) (s := sdIn xs i (sdOut xs i) m) (by assumption)
           exact ev_lp (m + 1) [] (by omega) (by omega) (by simp only [go_sem, hP, ↓reduceIte, Nat.reduceAdd, Nat.reduceMul, Nat.reduceEqDiff, Nat.reduceSub, Nat.reduceLeDiff, reduceCtorEq]; simp [sdIn, hs]; simpa using hw2 hj))
        | (exfalso; omega)
    · have e : m = xs.length - 1 - i := by omega
      repeat' (first
        | exact True.intro
        | refine ev_seq ?_
        | ((first | refine vgd_go ?_ | refine ev_region hE hM (hS (by decide +kernel)) ?_ | refine ev_if ?_ | refine end_ret hE rfl rfl ?_ | refine end_norm hE rfl rfl ?_ | refine endG_ret [] hE rfl ?_ | refine endG_norm [] hE rfl ?_ | refine vcall_A ?_); simp (maxSteps := 2000000) only [go_sem, hP, ↓reduceIte, Nat.reduceAdd, Nat.reduceMul, Nat.reduceEqDiff, Nat.reduceSub, Nat.reduceLeDiff, reduceCtorEq])
        | refine ev_skip ?_ | refine ev_block ?_ | refine ev_blk ?_ | refine ev_ret ?_ | refine ev_exit ?_ | refine evx_code_ret ?_ | refine evx_blk_ret ?_ | refine evx_lp_ret ?_
        | refine evx_code_exit ?_ | refine evx_lp_exit ?_ | refine evx_blk_hit ?_ | refine evx_blk_pass (by decide) ?_
        | refine And.intro ?_ ?_ | intro _ | decide +kernel | omega)
      all_goals first
        | (exfalso; omega)
        | (subst e; exact ev_lp (i + 1) [] (by omega) (by omega) (by simp only [go_sem, hP, ↓reduceIte, Nat.reduceAdd, Nat.reduceMul, Nat.reduceEqDiff, Nat.reduceSub, Nat.reduceLeDiff, reduceCtorEq]; simp [sdOut]; exact hw1))
  all_goals (obtain rfl : i = xs.length := (by omega); rfl)
theorem s_seeds (xs : List Entry) (n : Nat) (h : Even xs n) (h2 : 2 ≤ xs.length) (hn : n ≤ 1048576) : Sat Try.prog 32 [aEntryS xs] true [(false, [.int .i64 (sd xs).x]), (false, [.int .i64 (sd xs).y])] := by
  refine sat_walk (fn := Try.f32) rfl rfl rfl (Nat.le_of_ble_eq_true rfl) fun fr hP hN hbnd => ?_
  have hE : (envOf fr Try.prog).Ok := envOf_ok hP
  have hM := follows_of hP
  have hS : ∀ {draw ops}, statB Try.f32.ntmps draw ops = true → statB (envOf fr Try.prog).fr.N draw ops = true := fun h => by rw [envOf_fr, hN]; exact h
  have hlen := bnd_EntryS hbnd
  have hm : maxLen = 9223372036854775807 := rfl
  have hl : ∀ i j, i < xs.length → j < xs.length → Lens (xs.getD i default).rect (xs.getD j default).rect := fun i j hi hj => by
    have a := even_get h hi; have b := even_get h hj; exact ⟨by omega, by omega, by omega⟩
  have hz : ∀ i, i < xs.length → (xs.getD i default).rect.low.length ≤ 1048576 := fun i hi => by have a := even_get h hi; omega
  repeat' (first
    | exact True.intro
    | refine ev_seq ?_
    | ((first | refine vgd_go ?_ | refine ev_region hE hM (hS (by decide +kernel)) ?_ | refine ev_if ?_ | refine end_ret hE rfl rfl ?_ | refine end_norm hE rfl rfl ?_ | refine endG_ret [] hE rfl ?_ | refine endG_norm [] hE rfl ?_ | refine vcall_A ?_); simp (maxSteps := 2000000) only [go_sem, hP, ↓reduceIte, Nat.reduceAdd, Nat.reduceMul, Nat.reduceEqDiff, Nat.reduceSub, Nat.reduceLeDiff, reduceCtorEq])
    | refine ev_skip ?_ | refine ev_block ?_ | refine ev_blk ?_ | refine ev_ret ?_ | refine ev_exit ?_ | refine evx_code_ret ?_ | refine evx_blk_ret ?_ | refine evx_lp_ret ?_
    | refine evx_code_exit ?_ | refine evx_lp_exit ?_ | refine evx_blk_hit ?_ | refine evx_blk_pass (by decide) ?_
    | refine And.intro ?_ ?_ | intro _ | decide +kernel | omega)
  refine ev_loop (ι := Nat) (fun i => [(0, .c (sEntryS xs)), (4, iT (sdI xs i 0).x), (5, iT (sdI xs i 0).y), (6, iT (sdI xs i 0).most), (11, iT xs.length), (12, iT i)]) (fun _ => []) (fun _ => []) (fun i => i ≤ xs.length) (fun i => xs.length - i) 0 [] (by omega) (by simp only [go_sem, hP, ↓reduceIte, Nat.reduceAdd, Nat.reduceMul, Nat.reduceEqDiff, Nat.reduceSub, Nat.reduceLeDiff, reduceCtorEq]; simp [sdI_first]) ?_
  intro i hi
  repeat' (first
    | exact True.intro
    | refine ev_seq ?_
    | ((first | refine vgd_go ?_ | refine ev_region hE hM (hS (by decide +kernel)) ?_ | refine ev_if ?_ | refine end_ret hE rfl rfl ?_ | refine end_norm hE rfl rfl ?_ | refine endG_ret [] hE rfl ?_ | refine endG_norm [] hE rfl ?_ | refine vcall_A ?_); simp (maxSteps := 2000000) only [go_sem, hP, ↓reduceIte, Nat.reduceAdd, Nat.reduceMul, Nat.reduceEqDiff, Nat.reduceSub, Nat.reduceLeDiff, reduceCtorEq])
    | refine ev_skip ?_ | refine ev_block ?_ | refine ev_blk ?_ | refine ev_ret ?_ | refine ev_exit ?_ | refine evx_code_ret ?_ | refine evx_blk_ret ?_ | refine evx_lp_ret ?_
    | refine evx_code_exit ?_ | refine evx_lp_exit ?_ | refine evx_blk_hit ?_ | refine evx_blk_pass (by decide) ?_
    | refine And.intro ?_ ?_ | intro _ | decide +kernel | omega)
  · rename_i hlt
    have hlt : i < xs.length := by omega
    have hw1 : IntKind.i64.wrap ((i : Int) + 1) = i + 1 := i64_in _ (by omega)
    refine ev_loop (ι := Nat) (fun m => [(0, .c (sEntryS xs)), (4, iT (sdI xs i m).x), (5, iT (sdI xs i m).y), (6, iT (sdI xs i m).most), (7, iT i), (8, iT (i + 1 + m : Nat)), (11, iT xs.length), (12, iT i)]) (fun _ => []) (fun _ => []) (fun m => i + 1 + m ≤ xs.length) (fun m => xs.length - m) 0 [] (by omega) (by simp only [go_sem, hP, ↓reduceIte, Nat.reduceAdd, Nat.reduceMul, Nat.reduceEqDiff, Nat.reduceSub, Nat.reduceLeDiff, reduceCtorEq]; simp [hw1]) ?_
    intro m hm2
    have hw2 : i + 1 + m < xs.length → IntKind.i64.wrap ((i + 1 + m : Nat) + 1) = (i + 1 + (m + 1) : Nat) := fun h => by rw [i64_in _ (by omega)]; omega
    by_cases hj : i + 1 + m < xs.length
    · repeat' (first
        | exact True.intro
        | refine ev_seq ?_
        | ((first | refine vgd_go ?_ | refine ev_region hE hM (hS (by decide +kernel)) ?_ | refine ev_if ?_ | refine end_ret hE rfl rfl ?_ | refine end_norm hE rfl rfl ?_ | refine endG_ret [] hE rfl ?_ | refine endG_norm [] hE rfl ?_ | refine vcallB_of hP (s_union (xs.getD i default).rect (xs.getD (i + 1 + m) default).rect (hl _ _ hlt hj) (hz _ hlt)) ?_ | refine vcallB_of hP (s_implarea (un (xs.getD i default).rect (xs.getD (i + 1 + m) default).rect) (un_len _ _)) ?_ | refine vcallB_of hP (s_implarea (xs.getD i default).rect (hl _ _ hlt hlt).h1) ?_ | refine vcallB_of hP (s_implarea (xs.getD (i + 1 + m) default).rect (hl _ _ hj hj).h1) ?_ | refine vcall_A ?_); simp (maxSteps := 2000000) only [go_sem, hP, ↓reduceIte, Nat.reduceAdd, Nat.reduceMul, Nat.reduceEqDiff, Nat.reduceSub, Nat.reduceLeDiff, reduceCtorEq])
        | refine ev_skip ?_ | refine ev_block ?_ | refine ev_blk ?_ | refine ev_ret ?_ | refine ev_exit ?_ | refine evx_code_ret ?_ | refine evx_blk_ret ?_ | refine evx_lp_ret ?_
        | refine evx_code_exit ?_ | refine evx_lp_exit ?_ | refine evx_blk_hit ?_ | refine evx_blk_pass (by decide) ?_
        | refine And.intro ?_ ?_ | intro _ | decide +kernel | omega)
      all_goals first
        | (have hs := sdI_yes (xs := xs) (i := i) (m := m) h2 hj (.inl (by assumption))
           exact ev_lp (m + 1) [] (by omega) (by omega) (by simp only [go_sem, hP, ↓reduceIte, Nat.reduceAdd, Nat.reduceMul, Nat.reduceEqDiff, Nat.reduceSub, Nat.reduceLeDiff, reduceCtorEq]; simp [hs, waste, growth]; simpa using hw2 hj))
        | (have hs := sdI_yes (xs := xs) (i := i) (m := m) h2 hj (.inr (by assumption))
           exact ev_lp (m + 1) [] (by omega) (by omega) (by simp only [go_sem, hP, ↓reduceIte, Nat.reduceAdd, Nat.reduceMul, Nat.reduceEqDiff, Nat.reduceSub, Nat.reduceLeDiff, reduceCtorEq]; simp [hs, waste, growth]; simpa using hw2 hj))
        | (have hs := sdI_no (xs := xs) (i := i) (m := m) h2 hj (fun h => h.elim (by assumption) (by assumption))
           exact ev_lp (m + 1) [] (by omega) (by omega) (by simp only [go_sem, hP, ↓reduceIte, Nat.reduceAdd, Nat.reduceMul, Nat.reduceEqDiff, Nat.reduceSub, Nat.reduceLeDiff, reduceCtorEq]; simp [hs]; simpa using hw2 hj))
        | (exfalso; omega)
    · have e : m = xs.length - 1 - i := by omega
      repeat' (first
        | exact True.intro
        | refine ev_seq ?_
        | ((first | refine vgd_go ?_ | refine ev_region hE hM (hS (by decide +kernel)) ?_ | refine ev_if ?_ | refine end_ret hE rfl rfl ?_ | refine end_norm hE rfl rfl ?_ | refine endG_ret [] hE rfl ?_ | refine endG_norm [] hE rfl ?_ | refine vcall_A ?_); simp (maxSteps := 2000000) only [go_sem, hP, ↓reduceIte, Nat.reduceAdd, Nat.reduceMul, Nat.reduceEqDiff, Nat.reduceSub, Nat.reduceLeDiff, reduceCtorEq])
        | refine ev_skip ?_ | refine ev_block ?_ | refine ev_blk ?_ | refine ev_ret ?_ | refine ev_exit ?_ | refine evx_code_ret ?_ | refine evx_blk_ret ?_ | refine evx_lp_ret ?_
        | refine evx_code_exit ?_ | refine evx_lp_exit ?_ | refine evx_blk_hit ?_ | refine evx_blk_pass (by decide) ?_
        | refine And.intro ?_ ?_ | intro _ | decide +kernel | omega)
      all_goals first
        | (exfalso; omega)
        | (subst e; exact ev_lp (i + 1) [] (by omega) (by omega) (by simp only [go_sem, hP, ↓reduceIte, Nat.reduceAdd, Nat.reduceMul, Nat.reduceEqDiff, Nat.reduceSub, Nat.reduceLeDiff, reduceCtorEq]; simp [sdI_next h2 hlt]; exact hw1))
  all_goals (obtain rfl : i = xs.length := (by omega); rw [sdI_last h2])
@[go_sem] abbrev aLR (c : Int) (xs : List Int) : Arg := .d (true, [.int .i64 c, sI xs])
@[go_sem] abbrev rLR (c : Int) (xs : List Int) : List Dat := [(true, [.int .i64 c, oI xs])]
@[go_sem] abbrev tLR (c : Int) (a : Nat) : T := .agg [iT c, .ref a]
def sfC (xs : List Entry) (d : Int) : Int := if esf xs d ≠ 0 then esf xs d else if (xs.length : Int) < 4 then 2 else 0
def sdL (xs : List Entry) (d : Int) : List Int := if sfC xs d = 0 then [(sd xs).x, (sd xs).y] else []
theorem sdL_len (xs : List Entry) (d : Int) : (sdL xs d).length ≤ 2 := by unfold sdL; split <;> simp
theorem sfC_zero {xs : List Entry} {d : Int} (h : sfC xs d = 0) : esf xs d = 0 ∧ 4 ≤ xs.length := by
  unfold sfC at h; (repeat' split at h) <;> simp_all <;> omega
theorem s_splitFault (xs : List Entry) (d : Int) : Sat Try.prog 31 [aEntryS xs, aI d] true (rI (sfC xs d)) := by
  refine sat_walk (fn := Try.f31) rfl rfl rfl (Nat.le_of_ble_eq_true rfl) fun fr hP hN hbnd => ?_
  have hE : (envOf fr Try.prog).Ok := envOf_ok hP
  have hM := follows_of hP
  have hS : ∀ {draw ops}, statB Try.f31.ntmps draw ops = true → statB (envOf fr Try.prog).fr.N draw ops = true := fun h => by rw [envOf_fr, hN]; exact h
  repeat' (first
    | exact True.intro
    | refine ev_seq ?_
    | ((first | refine vgd_go ?_ | refine ev_region hE hM (hS (by decide +kernel)) ?_ | refine ev_if ?_ | refine end_ret hE rfl rfl ?_ | refine end_norm hE rfl rfl ?_ | refine endG_ret [] hE rfl ?_ | refine endG_norm [] hE rfl ?_ | refine vcallB_of hP (s_implEntriesFault xs d) ?_ | refine vcall_A ?_); simp (maxSteps := 2000000) only [go_sem, hP, ↓reduceIte, Nat.reduceAdd, Nat.reduceMul, Nat.reduceEqDiff, Nat.reduceSub, Nat.reduceLeDiff, reduceCtorEq])
    | refine ev_skip ?_ | refine ev_block ?_ | refine ev_blk ?_ | refine ev_ret ?_ | refine ev_exit ?_ | refine evx_code_ret ?_ | refine evx_blk_ret ?_ | refine evx_lp_ret ?_
    | refine evx_code_exit ?_ | refine evx_lp_exit ?_ | refine evx_blk_hit ?_ | refine evx_blk_pass (by decide) ?_
    | refine And.intro ?_ ?_ | intro _ | decide +kernel | omega)
  all_goals (simp_all [sfC]; done)
theorem s_l5Enough (xs : List Entry) (d : Int) : Sat Try.prog 40 [aEntryS xs, aI d] true (rI (sfC xs d)) := by
  refine sat_walk (fn := Try.f40) rfl rfl rfl (Nat.le_of_ble_eq_true rfl) fun fr hP hN hbnd => ?_
  have hE : (envOf fr Try.prog).Ok := envOf_ok hP
  have hM := follows_of hP
  have hS : ∀ {draw ops}, statB Try.f40.ntmps draw ops = true → statB (envOf fr Try.prog).fr.N draw ops = true := fun h => by rw [envOf_fr, hN]; exact h
  repeat' (first
    | exact True.intro
    | refine ev_seq ?_
    | ((first | refine vgd_go ?_ | refine ev_region hE hM (hS (by decide +kernel)) ?_ | refine ev_if ?_ | refine end_ret hE rfl rfl ?_ | refine end_norm hE rfl rfl ?_ | refine endG_ret [] hE rfl ?_ | refine endG_norm [] hE rfl ?_ | refine vcallB_of hP (s_specEntriesFault xs d) ?_ | refine vcall_A ?_); simp (maxSteps := 2000000) only [go_sem, hP, ↓reduceIte, Nat.reduceAdd, Nat.reduceMul, Nat.reduceEqDiff, Nat.reduceSub, Nat.reduceLeDiff, reduceCtorEq])
    | refine ev_skip ?_ | refine ev_block ?_ | refine ev_blk ?_ | refine ev_ret ?_ | refine ev_exit ?_ | refine evx_code_ret ?_ | refine evx_blk_ret ?_ | refine evx_lp_ret ?_
    | refine evx_code_exit ?_ | refine evx_lp_exit ?_ | refine evx_blk_hit ?_ | refine evx_blk_pass (by decide) ?_
    | refine And.intro ?_ ?_ | intro _ | decide +kernel | omega)
  all_goals (simp_all [sfC]; done)
theorem s_specSeedsOf (xs : List Entry) (d : Int) : Sat Try.prog 12 [aEntryS xs, aI d] true (rLR (sfC xs d) (sdL xs d)) := by
  refine sat_walk (fn := Try.f12) rfl rfl rfl (Nat.le_of_ble_eq_true rfl) fun fr hP hN hbnd => ?_
  have hE : (envOf fr Try.prog).Ok := envOf_ok hP
  have hM := follows_of hP
  have hS : ∀ {draw ops}, statB Try.f12.ntmps draw ops = true → statB (envOf fr Try.prog).fr.N draw ops = true := fun h => by rw [envOf_fr, hN]; exact h
  by_cases hz : sfC xs d = 0
  · have h1 := sfC_zero hz
    have c := s_l5Seeds xs d.toNat (rf_even (esf_rf h1.1)) (by omega) (esf_small h1.1)
    repeat' (first
      | exact True.intro
      | refine ev_seq ?_
      | ((first | refine vgd_go ?_ | refine ev_region hE hM (hS (by decide +kernel)) ?_ | refine ev_if ?_ | refine end_ret hE rfl rfl ?_ | refine end_norm hE rfl rfl ?_ | refine endG_ret [] hE rfl ?_ | refine endG_norm [] hE rfl ?_ | refine vcallB_of hP (s_l5Enough xs d) ?_ | refine vcallB_of hP c ?_ | refine vcall_A ?_); simp (maxSteps := 2000000) only [go_sem, hP, ↓reduceIte, Nat.reduceAdd, Nat.reduceMul, Nat.reduceEqDiff, Nat.reduceSub, Nat.reduceLeDiff, reduceCtorEq])
      | refine ev_skip ?_ | refine ev_block ?_ | refine ev_blk ?_ | refine ev_ret ?_ | refine ev_exit ?_ | refine evx_code_ret ?_ | refine evx_blk_ret ?_ | refine evx_lp_ret ?_
      | refine evx_code_exit ?_ | refine evx_lp_exit ?_ | refine evx_blk_hit ?_ | refine evx_blk_pass (by decide) ?_
      | refine And.intro ?_ ?_ | intro _ | decide +kernel | omega)
    all_goals (simp_all [sdL, eI]; done)
  · repeat' (first
      | exact True.intro
      | refine ev_seq ?_
      | ((first | refine vgd_go ?_ | refine ev_region hE hM (hS (by decide +kernel)) ?_ | refine ev_if ?_ | refine end_ret hE rfl rfl ?_ | refine end_norm hE rfl rfl ?_ | refine endG_ret [] hE rfl ?_ | refine endG_norm [] hE rfl ?_ | refine vcallB_of hP (s_l5Enough xs d) ?_ | refine vcall_A ?_); simp (maxSteps := 2000000) only [go_sem, hP, ↓reduceIte, Nat.reduceAdd, Nat.reduceMul, Nat.reduceEqDiff, Nat.reduceSub, Nat.reduceLeDiff, reduceCtorEq])
      | refine ev_skip ?_ | refine ev_block ?_ | refine ev_blk ?_ | refine ev_ret ?_ | refine ev_exit ?_ | refine evx_code_ret ?_ | refine evx_blk_ret ?_ | refine evx_lp_ret ?_
      | refine evx_code_exit ?_ | refine evx_lp_exit ?_ | refine evx_blk_hit ?_ | refine evx_blk_pass (by decide) ?_
      | refine And.intro ?_ ?_ | intro _ | decide +kernel | omega)
    all_goals (simp_all [sdL, eI]; done)
theorem s_implSeedsOf (xs : List Entry) (d : Int) : Sat Try.prog 8 [aEntryS xs, aI d] true (rLR (sfC xs d) (sdL xs d)) := by
  refine sat_walk (fn := Try.f8) rfl rfl rfl (Nat.le_of_ble_eq_true rfl) fun fr hP hN hbnd => ?_
  have hE : (envOf fr Try.prog).Ok := envOf_ok hP
  have hM := follows_of hP
  have hS : ∀ {draw ops}, statB Try.f8.ntmps draw ops = true → statB (envOf fr Try.prog).fr.N draw ops = true := fun h => by rw [envOf_fr, hN]; exact h
  by_cases hz : sfC xs d = 0
  · have h1 := sfC_zero hz
    have c := s_seeds xs d.toNat (rf_even (esf_rf h1.1)) (by omega) (esf_small h1.1)
    repeat' (first
      | exact True.intro
      | refine ev_seq ?_
      | ((first | refine vgd_go ?_ | refine ev_region hE hM (hS (by decide +kernel)) ?_ | refine ev_if ?_ | refine end_ret hE rfl rfl ?_ | refine end_norm hE rfl rfl ?_ | refine endG_ret [] hE rfl ?_ | refine endG_norm [] hE rfl ?_ | refine vcallB_of hP (s_splitFault xs d) ?_ | refine vcallB_of hP c ?_ | refine vcall_A ?_); simp (maxSteps := 2000000) only [go_sem, hP, ↓reduceIte, Nat.reduceAdd, Nat.reduceMul, Nat.reduceEqDiff, Nat.reduceSub, Nat.reduceLeDiff, reduceCtorEq])
      | refine ev_skip ?_ | refine ev_block ?_ | refine ev_blk ?_ | refine ev_ret ?_ | refine ev_exit ?_ | refine evx_code_ret ?_ | refine evx_blk_ret ?_ | refine evx_lp_ret ?_
      | refine evx_code_exit ?_ | refine evx_lp_exit ?_ | refine evx_blk_hit ?_ | refine evx_blk_pass (by decide) ?_
      | refine And.intro ?_ ?_ | intro _ | decide +kernel | omega)
    all_goals (simp_all [sdL, eI]; done)
  · repeat' (first
      | exact True.intro
      | refine ev_seq ?_
      | ((first | refine vgd_go ?_ | refine ev_region hE hM (hS (by decide +kernel)) ?_ | refine ev_if ?_ | refine end_ret hE rfl rfl ?_ | refine end_norm hE rfl rfl ?_ | refine endG_ret [] hE rfl ?_ | refine endG_norm [] hE rfl ?_ | refine vcallB_of hP (s_splitFault xs d) ?_ | refine vcall_A ?_); simp (maxSteps := 2000000) only [go_sem, hP, ↓reduceIte, Nat.reduceAdd, Nat.reduceMul, Nat.reduceEqDiff, Nat.reduceSub, Nat.reduceLeDiff, reduceCtorEq])
      | refine ev_skip ?_ | refine ev_block ?_ | refine ev_blk ?_ | refine ev_ret ?_ | refine ev_exit ?_ | refine evx_code_ret ?_ | refine evx_blk_ret ?_ | refine evx_lp_ret ?_
      | refine evx_code_exit ?_ | refine evx_lp_exit ?_ | refine evx_blk_hit ?_ | refine evx_blk_pass (by decide) ?_
      | refine And.intro ?_ ?_ | intro _ | decide +kernel | omega)
    all_goals (simp_all [sdL, eI]; done)
def woV (n : Node) (d r : Int) : Node := if efcode n d r = 0 then ⟨n.level, n.nsn, n.right, n.entries.take (findRef n.entries r).toNat ++ n.entries.drop ((findRef n.entries r).toNat + 1)⟩ else ⟨0, 0, 0, []⟩
theorem ef_zero {n : Node} {d r : Int} (h : efcode n d r = 0) : nf n d = 0 ∧ 0 ≤ findRef n.entries r := by
  unfold efcode at h
  (repeat' split at h) <;> omega
theorem nf_dup {n : Node} {d : Int} (h : nf n d = 0) : noDup n.entries = true := by
  unfold nf at h; (repeat' split at h) <;> first | omega | assumption
theorem wES_append (xs ys : List Entry) : wEntryS (xs ++ ys) = wEntryS xs + wEntryS ys := by unfold wEntryS sumW; simp; omega
theorem dropE_w (xs : List Entry) (i : Nat) : wEntryS (xs.take i ++ xs.drop (i + 1)) ≤ wEntryS xs := by
  have h1 : wEntryS (xs.take i) + wEntryS (xs.drop i) = wEntryS xs := by rw [← wES_append, List.take_append_drop]
  have h2 : wEntryS ((xs.drop i).take 1) + wEntryS ((xs.drop i).drop 1) = wEntryS (xs.drop i) := by rw [← wES_append, List.take_append_drop]
  rw [List.drop_drop] at h2
  rw [wES_append]; omega
theorem woV_w (n : Node) (d r : Int) : wEntryS (woV n d r).entries ≤ 50 := by
  unfold woV; split
  · rename_i h
    have h1 := nf_w (ef_zero h).1
    have h2 := dropE_w n.entries (findRef n.entries r).toNat
    exact Nat.le_trans h2 (by omega)
  · exact Nat.zero_le _
theorem filterE_one {xs : List Entry} {r : Int} {i : Nat} (h : noDup xs = true) (hi : i < xs.length) (hr : (xs.getD i default).ref = r) : xs.filter (fun p => decide (p.ref ≠ r)) = xs.take i ++ xs.drop (i + 1) := by
  have hd : ∀ a b, a < b → b < xs.length → (xs.getD a default).ref ≠ (xs.getD b default).ref := fun a b hab hb he => by
    have h1 := allLt_iff.mp h b hb
    have h2 : dupAt xs b = true := by
      unfold dupAt
      rw [List.any_eq_true]
      have hl : a < (xs.take b).length := by rw [List.length_take]; omega
      refine ⟨(xs.take b)[a], List.getElem_mem hl, ?_⟩
      rw [List.getElem_take, ← getD_lt (show a < xs.length by omega)]
      simpa using he
    rw [h2] at h1; cases h1
  conv => lhs; rw [← List.take_append_drop i xs, List.drop_eq_getElem_cons hi]
  rw [List.filter_append, List.filter_cons]
  have e0 : xs[i] = xs.getD i default := (getD_lt hi).symm
  have e1 : (xs.take i).filter (fun p => decide (p.ref ≠ r)) = xs.take i := by
    rw [List.filter_eq_self]
    intro p hp
    obtain ⟨k, hk, rfl⟩ := List.mem_iff_getElem.1 hp
    rw [List.length_take] at hk
    have := hd k i (by omega) hi
    rw [getD_lt (show k < xs.length by omega), hr] at this
    rw [List.getElem_take]
    simpa using this
  have e2 : (xs.drop (i + 1)).filter (fun p => decide (p.ref ≠ r)) = xs.drop (i + 1) := by
    rw [List.filter_eq_self]
    intro p hp
    obtain ⟨k, hk, rfl⟩ := List.mem_iff_getElem.1 hp
    rw [List.length_drop] at hk
    have := hd i (i + 1 + k) (by omega) (by omega)
    rw [getD_lt (show i + 1 + k < xs.length by omega), hr] at this
    rw [List.getElem_drop]
    simpa using Ne.symm this
  have e3 : decide (xs[i].ref ≠ r) = false := by rw [e0, hr]; simp
  rw [e1, e2, e3]; rfl
@[go_sem] abbrev eY (b : Int) : List C := [.int .u8 b]
@[go_sem] abbrev sY (xs : List Int) : C := .sl none 1 (xs.map eY)
@[go_sem] abbrev aY (xs : List Int) : Arg := .d (false, [sY xs])
/-- The source of a code's bytes. -/
@[go_sem] abbrev bSrc (c : List Int) (a : Int) : Blk := .box [.c (sY c), iT a]
def codeOk (c : List Int) : Prop := c.length ≤ 1048576 ∧ ∀ b ∈ c, 0 ≤ b ∧ b < 256
def nv (c : List Int) (a n : Int) : Int :=
  if n > 200 then (c.getD (a % c.length).toNat default + a / c.length * 37) * 251 + c.getD ((a + 1) % c.length).toNat default * 13 + a
  else c.getD (a % c.length).toNat default + a / c.length * 37
def nx (c : List Int) (a n : Int) : Int := if c.length = 0 then (a * 7) % n else nv c a n % n
theorem byte_get {c : List Int} (hc : codeOk c) (i : Nat) : 0 ≤ c.getD i default ∧ c.getD i default < 256 := by
  rw [List.getD_eq_getElem?_getD]
  rcases h : c[i]? with _ | x
  · exact ⟨by decide, by decide⟩
  · exact hc.2 x (List.mem_of_getElem? h)
theorem nx_in {c : List Int} {a n : Int} (hn : 1 ≤ n) : 0 ≤ nx c a n ∧ nx c a n < n := by
  unfold nx
  split <;> exact ⟨Int.emod_nonneg _ (by omega), Int.emod_lt_of_pos _ (by omega)⟩
theorem tmod_pos {a b : Int} (h : 0 ≤ a) : a.tmod b = a % b := Int.tmod_eq_emod_of_nonneg h
theorem tdiv_pos {a b : Int} (h : 0 ≤ a) : a.tdiv b = a / b := Int.tdiv_eq_ediv_of_nonneg h
section
variable {c : Cx} {i : Nat} {dst : Option Nat} {rest : List Oper} {acc : List (List Nat × List Nat)} {st : St} {f κ : Nat} {P : Program}
theorem vcallG_at {caps args ts : List T} {ats : List Nat} {hc' : List (Nat × Blk)} {rt : T} {b : Blk} (K : Nat) (ks : List Nat) (hst : st.h K = some b) (hP : c.E.fr.P = P) (hs : SatG P f false ts [(1, b)] rt hc') (h : vcallG c i dst rest acc st caps args ts [(1, b)] rt hc' P (rhoOf [(1, K)] κ) ks) :
    vcall c i dst rest acc st f caps args ats κ := vcallG_of [(1, K)] ks hP hs h
end
theorem s_l1Next (c : List Int) (a n : Int) (hc : codeOk c) (h0 : 0 ≤ a) (h1 : a ≤ 1073741824) (h2 : 1 ≤ n) (h3 : n ≤ 60000) : SatG Try.prog 69 false [.ptr 1 0, iT n] [(1, bSrc c a)] (iT (nx c a n)) [(1, bSrc c (a + 1))] := by
  refine satG_walk (fn := Try.f69) rfl rfl rfl (Nat.le_of_ble_eq_true rfl) (by simp) fun fr hP hN hdp hb1 hb2 => ?_
  have hE : (envOf fr Try.prog).Ok := envOf_ok hP
  have hM := follows_of hP
  have hS : ∀ {draw ops}, statB Try.f69.ntmps draw ops = true → statB (envOf fr Try.prog).fr.N draw ops = true := fun h => by rw [envOf_fr, hN]; exact h
  have w1 : IntKind.i64.wrap (a + 1) = a + 1 := i64_in _ (by omega)
  have w2 : IntKind.i64.wrap (a + 1 - 1) = a := by rw [i64_in _ (by omega)]; omega
  have n0 : (n = 0) = False := eq_false (by omega)
  have n1 : decide (n < 1) = false := by simp; omega
  have n6 : decide (60000 < n) = false := by simp; omega
  by_cases hz : c.length = 0
  · have w3 : IntKind.i64.wrap (a * 7) = a * 7 := i64_in _ (by omega)
    have e : nx c a n = (a * 7).tmod n := by unfold nx; rw [if_pos hz, tmod_pos (by omega)]
    rw [e]
    repeat' (first
      | exact True.intro
      | refine ev_seq ?_
      | ((first | refine vgd_go ?_ | refine ev_region hE hM (hS (by decide +kernel)) ?_ | refine ev_if ?_ | refine end_ret hE rfl rfl ?_ | refine end_norm hE rfl rfl ?_ | refine endG_ret [] hE rfl ?_ | refine endG_norm [] hE rfl ?_ | refine vcall_A ?_); simp (maxSteps := 2000000) only [go_sem, hP, ↓reduceIte, Nat.reduceAdd, Nat.reduceMul, Nat.reduceEqDiff, Nat.reduceSub, Nat.reduceLeDiff, reduceCtorEq, w1, w2, w3, hz, n0, n1])
      | refine ev_skip ?_ | refine ev_block ?_ | refine ev_blk ?_ | refine ev_ret ?_ | refine ev_exit ?_ | refine evx_code_ret ?_ | refine evx_blk_ret ?_ | refine evx_lp_ret ?_
      | refine evx_code_exit ?_ | refine evx_lp_exit ?_ | refine evx_blk_hit ?_ | refine evx_blk_pass (by decide) ?_
      | refine And.intro ?_ ?_ | intro _ | decide +kernel | omega)
    all_goals first | (exfalso; omega) | (simp_all; done)
  · have k0 : ((c.length : Int) = 0) = False := eq_false (by omega)
    have k1 : ((c.length : Int) == 0) = false := beq_eq_false_iff_ne.2 (by omega)
    have hk := hc.1
    have e1 := tmod_pos (b := c.length) h0
    have e2 := tdiv_pos (b := c.length) h0
    have e3 := tmod_pos (a := a + 1) (b := c.length) (by omega)
    have m1 := Int.emod_nonneg a (b := c.length) (by omega)
    have m2 := Int.emod_lt_of_pos a (b := c.length) (by omega)
    have m3 := Int.emod_nonneg (a + 1) (b := c.length) (by omega)
    have m4 := Int.emod_lt_of_pos (a + 1) (b := c.length) (by omega)
    have d1 : 0 ≤ a / c.length := Int.ediv_nonneg h0 (by omega)
    have d2 : a / c.length ≤ a := Int.ediv_le_self _ h0
    obtain ⟨b1, b2⟩ := byte_get hc (a % c.length).toNat
    obtain ⟨b3, b4⟩ := byte_get hc ((a + 1) % c.length).toNat
    have ev : nx c a n = (nv c a n).tmod n := by unfold nx; rw [if_neg hz, tmod_pos]; unfold nv; split <;> omega
    rw [ev]
    unfold nv
    generalize hx : c.getD (a % c.length).toNat default = x at *
    generalize hy : c.getD ((a + 1) % c.length).toNat default = y at *
    generalize hq : a / c.length = q at *
    generalize hr : a % c.length = r at *
    generalize hs : (a + 1) % c.length = s at *
    have w3 : IntKind.i64.wrap q = q := i64_in _ (by omega)
    have w4 : IntKind.i64.wrap (q * 37) = q * 37 := i64_in _ (by omega)
    have w5 : IntKind.i64.wrap x = x := i64_in _ (by omega)
    have w6 : IntKind.i64.wrap (x + q * 37) = x + q * 37 := i64_in _ (by omega)
    have w7 : IntKind.i64.wrap ((x + q * 37) * 251) = (x + q * 37) * 251 := i64_in _ (by omega)
    have w8 : IntKind.i64.wrap y = y := i64_in _ (by omega)
    have w9 : IntKind.i64.wrap (y * 13) = y * 13 := i64_in _ (by omega)
    have wa : IntKind.i64.wrap ((x + q * 37) * 251 + y * 13) = (x + q * 37) * 251 + y * 13 := i64_in _ (by omega)
    have wb : IntKind.i64.wrap ((x + q * 37) * 251 + y * 13 + a) = (x + q * 37) * 251 + y * 13 + a := i64_in _ (by omega)
    by_cases h2 : n > 200
    · rw [if_pos h2]
      have n2 : decide (200 < n) = true := by simp; omega
      repeat' (first
        | exact True.intro
        | refine ev_seq ?_
        | ((first | refine vgd_go ?_ | refine ev_region hE hM (hS (by decide +kernel)) ?_ | refine ev_if ?_ | refine end_ret hE rfl rfl ?_ | refine end_norm hE rfl rfl ?_ | refine endG_ret [] hE rfl ?_ | refine endG_norm [] hE rfl ?_ | refine vcall_A ?_); simp (maxSteps := 2000000) only [go_sem, hP, ↓reduceIte, Nat.reduceAdd, Nat.reduceMul, Nat.reduceEqDiff, Nat.reduceSub, Nat.reduceLeDiff, reduceCtorEq, w1, w2, w3, w4, w5, w6, w7, w8, w9, wa, wb, e1, e2, e3, hx, hy, hq, hr, hs, k0, k1, n0, n1, n2, n6])
        | refine ev_skip ?_ | refine ev_block ?_ | refine ev_blk ?_ | refine ev_ret ?_ | refine ev_exit ?_ | refine evx_code_ret ?_ | refine evx_blk_ret ?_ | refine evx_lp_ret ?_
        | refine evx_code_exit ?_ | refine evx_lp_exit ?_ | refine evx_blk_hit ?_ | refine evx_blk_pass (by decide) ?_
        | refine And.intro ?_ ?_ | intro _ | decide +kernel | omega)
      all_goals first | (exfalso; omega) | omega | (simp_all; done)
    · rw [if_neg h2]
      have n2 : decide (200 < n) = false := by simp; omega
      repeat' (first
        | exact True.intro
        | refine ev_seq ?_
        | ((first | refine vgd_go ?_ | refine ev_region hE hM (hS (by decide +kernel)) ?_ | refine ev_if ?_ | refine end_ret hE rfl rfl ?_ | refine end_norm hE rfl rfl ?_ | refine endG_ret [] hE rfl ?_ | refine endG_norm [] hE rfl ?_ | refine vcall_A ?_); simp (maxSteps := 2000000) only [go_sem, hP, ↓reduceIte, Nat.reduceAdd, Nat.reduceMul, Nat.reduceEqDiff, Nat.reduceSub, Nat.reduceLeDiff, reduceCtorEq, w1, w2, w3, w4, w5, w6, e1, e2, hx, hq, hr, k0, k1, n0, n1, n2, n6])
        | refine ev_skip ?_ | refine ev_block ?_ | refine ev_blk ?_ | refine ev_ret ?_ | refine ev_exit ?_ | refine evx_code_ret ?_ | refine evx_blk_ret ?_ | refine evx_lp_ret ?_
        | refine evx_code_exit ?_ | refine evx_lp_exit ?_ | refine evx_blk_hit ?_ | refine evx_blk_pass (by decide) ?_
        | refine And.intro ?_ ?_ | intro _ | decide +kernel | omega)
      all_goals first | (exfalso; omega) | omega | (simp_all; done)
def pk (c : List Int) (a : Int) (xs : List Int) : Int := xs.getD (nx c a xs.length).toNat default
def coord (c : List Int) (a : Int) : Int := pk c (a + 4) [nx c a 20, nx c (a + 1) 20, nx c (a + 2) 20 - 10, nx c (a + 3) 300 * 3 - 400, 1000, -1000]
theorem pk_mem {c : List Int} {a : Int} {xs : List Int} (h : xs ≠ []) : pk c a xs ∈ xs := by
  have hl : 1 ≤ xs.length := List.length_pos_iff.2 h
  obtain ⟨p1, p2⟩ := nx_in (c := c) (a := a) (n := xs.length) (by omega)
  unfold pk
  rw [List.getD_eq_getElem?_getD, List.getElem?_eq_getElem (by omega)]
  exact List.getElem_mem _
theorem coord_in (c : List Int) (a : Int) : -1000 ≤ coord c a ∧ coord c a ≤ 1000 := by
  have h := pk_mem (c := c) (a := a + 4) (xs := [nx c a 20, nx c (a + 1) 20, nx c (a + 2) 20 - 10, nx c (a + 3) 300 * 3 - 400, 1000, -1000]) (by simp)
  have e0 := nx_in (c := c) (a := a) (n := 20) (by omega)
  have e1 := nx_in (c := c) (a := a + 1) (n := 20) (by omega)
  have e2 := nx_in (c := c) (a := a + 2) (n := 20) (by omega)
  have e3 := nx_in (c := c) (a := a + 3) (n := 300) (by omega)
  simp only [List.mem_cons, List.not_mem_nil, or_false] at h
  unfold coord
  rcases h with h | h | h | h | h | h <;> rw [h] <;> omega
def pointV (c : List Int) (a : Int) (d : Nat) : List Int := (List.range d).map fun (i : Nat) => coord c (a + 5 * i)
def rectLo (c : List Int) (a : Int) (d : Nat) : List Int := (List.range d).map fun (i : Nat) => coord c (a + 6 * i)
def rectHi (c : List Int) (a : Int) (d : Nat) : List Int := (List.range d).map fun (i : Nat) => min (coord c (a + 6 * i) + pk c (a + 6 * i + 5) [0, 1, 3, 8, 30]) 1000
def rectV (c : List Int) (a : Int) (d : Nat) : Rect := ⟨rectLo c a d, rectHi c a d⟩
theorem pk5_in (c : List Int) (a : Int) : 0 ≤ pk c a [0, 1, 3, 8, 30] ∧ pk c a [0, 1, 3, 8, 30] ≤ 30 := by
  have h := pk_mem (c := c) (a := a) (xs := [0, 1, 3, 8, 30]) (by simp)
  simp only [List.mem_cons, List.not_mem_nil, or_false] at h
  omega
theorem dims_in (c : List Int) (a : Int) : pk c a [2, 2, 3] = 2 ∨ pk c a [2, 2, 3] = 3 := by
  have h := pk_mem (c := c) (a := a) (xs := [2, 2, 3]) (by simp)
  simp only [List.mem_cons, List.not_mem_nil, or_false] at h
  omega
theorem rectV_hi (c : List Int) (a : Int) (d i : Nat) (h : i < d) : -1000 ≤ (rectHi c a d).getD i default ∧ (rectHi c a d).getD i default ≤ 1000 := by
  unfold rectHi
  rw [getD_lt (by simpa using h)]
  simp only [List.getElem_map, List.getElem_range]
  have h1 := coord_in c (a + 6 * i)
  have h2 := pk5_in c (a + 6 * i + 5)
  omega
def bentV (c : List Int) (a : Int) (d : Nat) : Rect :=
  if nx c (a + 6 * d) 14 = 0 then ⟨(rectLo c a d).set 0 (pk c (a + 6 * d + 1) [(rectHi c a d).getD 0 default + 1, -1001, 1001]), rectHi c a d⟩
  else if nx c (a + 6 * d) 14 = 1 then ⟨rectLo c a d, (rectHi c a d).drop 1⟩
  else if nx c (a + 6 * d) 14 = 2 then ⟨rectLo c a d ++ [0], rectHi c a d⟩
  else if nx c (a + 6 * d) 14 = 3 then ⟨rectLo c a d, (rectHi c a d).set 1 (pk c (a + 6 * d + 1) [1000, 1001, -1000])⟩
  else rectV c a d
def bentA (c : List Int) (a : Int) (d : Nat) : Int := if nx c (a + 6 * d) 14 = 0 ∨ nx c (a + 6 * d) 14 = 3 then a + 6 * d + 2 else a + 6 * d + 1
theorem bentA_in (c : List Int) (a : Int) (d : Nat) : a ≤ bentA c a d ∧ bentA c a d ≤ a + 6 * d + 2 := by unfold bentA; split <;> omega
theorem s_l1Chance (c : List Int) (a n : Int) (hc : codeOk c) (h0 : 0 ≤ a) (h1 : a ≤ 1073741824) (h2 : 1 ≤ n) (h3 : n ≤ 60000) : SatG Try.prog 68 false [.ptr 1 0, iT n] [(1, bSrc c a)] (.c (.bool (nx c a n == 0))) [(1, bSrc c (a + 1))] := by
  refine satG_walk (fn := Try.f68) rfl rfl rfl (Nat.le_of_ble_eq_true rfl) (by simp) fun fr hP hN hdp hb1 hb2 => ?_
  have hE : (envOf fr Try.prog).Ok := envOf_ok hP
  have hM := follows_of hP
  have hS : ∀ {draw ops}, statB Try.f68.ntmps draw ops = true → statB (envOf fr Try.prog).fr.N draw ops = true := fun h => by rw [envOf_fr, hN]; exact h
  repeat' (first
    | exact True.intro
    | refine ev_seq ?_
    | ((first | refine vgd_go ?_ | refine ev_region hE hM (hS (by decide +kernel)) ?_ | refine ev_if ?_ | refine end_ret hE rfl rfl ?_ | refine end_norm hE rfl rfl ?_ | refine endG_ret [] hE rfl ?_ | refine endG_norm [] hE rfl ?_ | refine vcallG_at (args := [.ptr 1 0, iT n]) 1 [] rfl hP (s_l1Next c _ n hc (by omega) (by omega) (by omega) (by omega)) ?_ | refine vcall_A ?_); simp (maxSteps := 2000000) only [go_sem, hP, ↓reduceIte, Nat.reduceAdd, Nat.reduceMul, Nat.reduceEqDiff, Nat.reduceSub, Nat.reduceLeDiff, reduceCtorEq])
    | refine ev_skip ?_ | refine ev_block ?_ | refine ev_blk ?_ | refine ev_ret ?_ | refine ev_exit ?_ | refine evx_code_ret ?_ | refine evx_blk_ret ?_ | refine evx_lp_ret ?_
    | refine evx_code_exit ?_ | refine evx_lp_exit ?_ | refine evx_blk_hit ?_ | refine evx_blk_pass (by decide) ?_
    | refine And.intro ?_ ?_ | intro _ | decide +kernel | omega)
theorem s_l1Pick (c : List Int) (a : Int) (xs : List Int) (hc : codeOk c) (h0 : 0 ≤ a) (h1 : a ≤ 1073741824) (h2 : 1 ≤ xs.length) (h3 : xs.length ≤ 60000) : SatG Try.prog 27 false [.ptr 1 0, .c (.sl none 1 (xs.map eI))] [(1, bSrc c a)] (iT (pk c a xs)) [(1, bSrc c (a + 1))] := by
  refine satG_walk (fn := Try.f27) rfl rfl rfl (Nat.le_of_ble_eq_true rfl) (by simp) fun fr hP hN hdp hb1 hb2 => ?_
  have hE : (envOf fr Try.prog).Ok := envOf_ok hP
  have hM := follows_of hP
  have hS : ∀ {draw ops}, statB Try.f27.ntmps draw ops = true → statB (envOf fr Try.prog).fr.N draw ops = true := fun h => by rw [envOf_fr, hN]; exact h
  obtain ⟨p1, p2⟩ := nx_in (c := c) (a := a) (n := xs.length) (by omega)
  unfold pk
  repeat' (first
    | exact True.intro
    | refine ev_seq ?_
    | ((first | refine vgd_go ?_ | refine ev_region hE hM (hS (by decide +kernel)) ?_ | refine ev_if ?_ | refine end_ret hE rfl rfl ?_ | refine end_norm hE rfl rfl ?_ | refine endG_ret [] hE rfl ?_ | refine endG_norm [] hE rfl ?_ | refine vcallG_at (args := [.ptr 1 0, iT xs.length]) 1 [] rfl hP (s_l1Next c _ xs.length hc (by omega) (by omega) (by omega) (by omega)) ?_ | refine vcall_A ?_); simp (maxSteps := 2000000) only [go_sem, hP, ↓reduceIte, Nat.reduceAdd, Nat.reduceMul, Nat.reduceEqDiff, Nat.reduceSub, Nat.reduceLeDiff, reduceCtorEq, List.length_map])
    | refine ev_skip ?_ | refine ev_block ?_ | refine ev_blk ?_ | refine ev_ret ?_ | refine ev_exit ?_ | refine evx_code_ret ?_ | refine evx_blk_ret ?_ | refine evx_lp_ret ?_
    | refine evx_code_exit ?_ | refine evx_lp_exit ?_ | refine evx_blk_hit ?_ | refine evx_blk_pass (by decide) ?_
    | refine And.intro ?_ ?_ | intro _ | decide +kernel | omega)
theorem s_l1Coord (c : List Int) (a : Int) (hc : codeOk c) (h0 : 0 ≤ a) (h1 : a ≤ 1073741800) : SatG Try.prog 108 false [.ptr 1 0] [(1, bSrc c a)] (iT (coord c a)) [(1, bSrc c (a + 5))] := by
  refine satG_walk (fn := Try.f108) rfl rfl rfl (Nat.le_of_ble_eq_true rfl) (by simp) fun fr hP hN hdp hb1 hb2 => ?_
  have hE : (envOf fr Try.prog).Ok := envOf_ok hP
  have hM := follows_of hP
  have hS : ∀ {draw ops}, statB Try.f108.ntmps draw ops = true → statB (envOf fr Try.prog).fr.N draw ops = true := fun h => by rw [envOf_fr, hN]; exact h
  obtain ⟨p1, p2⟩ := nx_in (c := c) (a := a + 2) (n := 20) (by omega)
  obtain ⟨p3, p4⟩ := nx_in (c := c) (a := a + 3) (n := 300) (by omega)
  have w1 : IntKind.i64.wrap (nx c (a + 2) 20 - 10) = nx c (a + 2) 20 - 10 := i64_in _ (by omega)
  have w2 : IntKind.i64.wrap (nx c (a + 3) 300 * 3) = nx c (a + 3) 300 * 3 := i64_in _ (by omega)
  have w3 : IntKind.i64.wrap (nx c (a + 3) 300 * 3 - 400) = nx c (a + 3) 300 * 3 - 400 := i64_in _ (by omega)
  unfold coord
  repeat' (first
    | exact True.intro
    | refine ev_seq ?_
    | ((first | refine vgd_go ?_ | refine ev_region hE hM (hS (by decide +kernel)) ?_ | refine ev_if ?_ | refine end_ret hE rfl rfl ?_ | refine end_norm hE rfl rfl ?_ | refine endG_ret [] hE rfl ?_ | refine endG_norm [] hE rfl ?_ | refine vcallG_at (args := [.ptr 1 0, iT 20]) 1 [] rfl hP (s_l1Next c _ 20 hc (by omega) (by omega) (by omega) (by omega)) ?_ | refine vcallG_at (args := [.ptr 1 0, iT 300]) 1 [] rfl hP (s_l1Next c _ 300 hc (by omega) (by omega) (by omega) (by omega)) ?_ | refine vcallG_at (args := [.ptr 1 0, .ref 4192]) 1 [4192] rfl hP (s_l1Pick c _ [nx c a 20, nx c (a + 1) 20, nx c (a + 2) 20 - 10, nx c (a + 3) 300 * 3 - 400, 1000, -1000] hc (by omega) (by omega) (by simp) (by simp)) ?_ | refine vcall_A ?_); simp (maxSteps := 2000000) only [go_sem, hP, ↓reduceIte, Nat.reduceAdd, Nat.reduceMul, Nat.reduceEqDiff, Nat.reduceSub, Nat.reduceLeDiff, reduceCtorEq, Int.add_assoc, Int.reduceAdd, w1, w2, w3])
    | refine ev_skip ?_ | refine ev_block ?_ | refine ev_blk ?_ | refine ev_ret ?_ | refine ev_exit ?_ | refine evx_code_ret ?_ | refine evx_blk_ret ?_ | refine evx_lp_ret ?_
    | refine evx_code_exit ?_ | refine evx_lp_exit ?_ | refine evx_blk_hit ?_ | refine evx_blk_pass (by decide) ?_
    | refine And.intro ?_ ?_ | intro _ | decide +kernel | omega)
  all_goals first | rfl | simp
theorem s_l1Dims (c : List Int) (a : Int) (hc : codeOk c) (h0 : 0 ≤ a) (h1 : a ≤ 1073741800) : SatG Try.prog 66 false [.ptr 1 0] [(1, bSrc c a)] (iT (pk c a [2, 2, 3])) [(1, bSrc c (a + 1))] := by
  refine satG_walk (fn := Try.f66) rfl rfl rfl (Nat.le_of_ble_eq_true rfl) (by simp) fun fr hP hN hdp hb1 hb2 => ?_
  have hE : (envOf fr Try.prog).Ok := envOf_ok hP
  have hM := follows_of hP
  have hS : ∀ {draw ops}, statB Try.f66.ntmps draw ops = true → statB (envOf fr Try.prog).fr.N draw ops = true := fun h => by rw [envOf_fr, hN]; exact h
  repeat' (first
    | exact True.intro
    | refine ev_seq ?_
    | ((first | refine vgd_go ?_ | refine ev_region hE hM (hS (by decide +kernel)) ?_ | refine ev_if ?_ | refine end_ret hE rfl rfl ?_ | refine end_norm hE rfl rfl ?_ | refine endG_ret [] hE rfl ?_ | refine endG_norm [] hE rfl ?_ | refine vcallG_at (args := [.ptr 1 0, .ref 4104]) 1 [4104] rfl hP (s_l1Pick c _ [2, 2, 3] hc (by omega) (by omega) (by simp) (by simp)) ?_ | refine vcall_A ?_); simp (maxSteps := 2000000) only [go_sem, hP, ↓reduceIte, Nat.reduceAdd, Nat.reduceMul, Nat.reduceEqDiff, Nat.reduceSub, Nat.reduceLeDiff, reduceCtorEq])
    | refine ev_skip ?_ | refine ev_block ?_ | refine ev_blk ?_ | refine ev_ret ?_ | refine ev_exit ?_ | refine evx_code_ret ?_ | refine evx_blk_ret ?_ | refine evx_lp_ret ?_
    | refine evx_code_exit ?_ | refine evx_lp_exit ?_ | refine evx_blk_hit ?_ | refine evx_blk_pass (by decide) ?_
    | refine And.intro ?_ ?_ | intro _ | decide +kernel | omega)
  all_goals rfl
theorem s_l1Source (c : List Int) : SatG Try.prog 25 false [.c (sY c)] [] (.ptr 1 0) [(1, bSrc c 0)] := by
  refine satG_walk (fn := Try.f25) rfl rfl rfl (Nat.le_of_ble_eq_true rfl) (by simp) fun fr hP hN hdp hb1 hb2 => ?_
  have hE : (envOf fr Try.prog).Ok := envOf_ok hP
  have hM := follows_of hP
  have hS : ∀ {draw ops}, statB Try.f25.ntmps draw ops = true → statB (envOf fr Try.prog).fr.N draw ops = true := fun h => by rw [envOf_fr, hN]; exact h
  repeat' (first
    | exact True.intro
    | refine ev_seq ?_
    | ((first | refine endG_ret [(1, some 4112)] hE rfl ?_ | refine vgd_go ?_ | refine ev_region hE hM (hS (by decide +kernel)) ?_ | refine ev_if ?_ | refine end_ret hE rfl rfl ?_ | refine end_norm hE rfl rfl ?_ | refine endG_ret [] hE rfl ?_ | refine endG_norm [] hE rfl ?_ | refine vcall_A ?_); simp (maxSteps := 2000000) only [go_sem, hP, ↓reduceIte, Nat.reduceAdd, Nat.reduceMul, Nat.reduceEqDiff, Nat.reduceSub, Nat.reduceLeDiff, reduceCtorEq])
    | refine ev_skip ?_ | refine ev_block ?_ | refine ev_blk ?_ | refine ev_ret ?_ | refine ev_exit ?_ | refine evx_code_ret ?_ | refine evx_blk_ret ?_ | refine evx_lp_ret ?_
    | refine evx_code_exit ?_ | refine evx_lp_exit ?_ | refine evx_blk_hit ?_ | refine evx_blk_pass (by decide) ?_
    | refine And.intro ?_ ?_ | intro _ | decide +kernel | omega)
theorem s_l1RectR (c : List Int) (a : Int) (d : Nat) (hc : codeOk c) (h0 : 0 ≤ a) (h1 : a ≤ 1073000000) (hd0 : 0 < d) (hd : d ≤ 100) : SatG Try.prog 71 false [.ptr 1 0, iT d] [(1, bSrc c a)] (.agg [.ref 2, .ref 3]) [(1, bSrc c (a + 6 * d)), (2, .arr true 2 1 ((rectLo c a d).map eI)), (3, .arr true 2 1 ((rectHi c a d).map eI))] := by
  refine satG_walk (fn := Try.f71) rfl rfl rfl (Nat.le_of_ble_eq_true rfl) (by simp) fun fr hP hN hdp hb1 hb2 => ?_
  have hE : (envOf fr Try.prog).Ok := envOf_ok hP
  have hM := follows_of hP
  have hS : ∀ {draw ops}, statB Try.f71.ntmps draw ops = true → statB (envOf fr Try.prog).fr.N draw ops = true := fun h => by rw [envOf_fr, hN]; exact h
  repeat' (first
    | exact True.intro
    | refine ev_seq ?_
    | ((first | refine vgd_go ?_ | refine ev_region hE hM (hS (by decide +kernel)) ?_ | refine ev_if ?_ | refine end_ret hE rfl rfl ?_ | refine end_norm hE rfl rfl ?_ | refine endG_ret [] hE rfl ?_ | refine endG_norm [] hE rfl ?_ | refine vcall_A ?_); simp (maxSteps := 2000000) only [go_sem, hP, ↓reduceIte, Nat.reduceAdd, Nat.reduceMul, Nat.reduceEqDiff, Nat.reduceSub, Nat.reduceLeDiff, reduceCtorEq])
    | refine ev_skip ?_ | refine ev_block ?_ | refine ev_blk ?_ | refine ev_ret ?_ | refine ev_exit ?_ | refine evx_code_ret ?_ | refine evx_blk_ret ?_ | refine evx_lp_ret ?_
    | refine evx_code_exit ?_ | refine evx_lp_exit ?_ | refine evx_blk_hit ?_ | refine evx_blk_pass (by decide) ?_
    | refine And.intro ?_ ?_ | intro _ | decide +kernel | omega)
  refine ev_loop (ι := Nat) (fun k => [(0, .ptr 1 0), (1, iT d), (4, .ptr 0 0), (5, .ptr 4104 0), (6, iT k)]) (fun k => [(1, bSrc c (a + 6 * k)), (0, .box [.nilS, .nilS]), (4104, .box [.ref 100000, .ref 100001]), (100000, .arr true 2 1 ((rectLo c a k).map eI)), (100001, .arr true 2 1 ((rectHi c a k).map eI))]) (fun _ => [(0, .ref 1)]) (fun k => k ≤ d) (fun k => d - k) 0 [(100000, none), (100001, none)] (by omega) (by simp only [go_sem, hP, ↓reduceIte, Nat.reduceAdd, Nat.reduceMul, Nat.reduceEqDiff, Nat.reduceSub, Nat.reduceLeDiff, reduceCtorEq]; simp [rectLo, rectHi]) ?_
  intro k hk
  have hw1 : k < d → IntKind.i64.wrap ((k : Int) + 1) = k + 1 := fun h => i64_in _ (by omega)
  have hl1 : (rectLo c a k).length = k := by simp [rectLo]
  have hl2 : (rectHi c a k).length = k := by simp [rectHi]
  have q1 := coord_in c (a + 6 * k)
  have q2 := pk5_in c (a + 6 * k + 5)
  have hw2 : IntKind.i64.wrap (coord c (a + 6 * k) + pk c (a + 6 * k + 5) [0, 1, 3, 8, 30]) = coord c (a + 6 * k) + pk c (a + 6 * k + 5) [0, 1, 3, 8, 30] := i64_in _ (by omega)
  by_cases hlt : k < d
  · repeat' (first
      | exact True.intro
      | refine ev_seq ?_
      | ((first | refine vgd_go ?_ | refine ev_region hE hM (hS (by decide +kernel)) ?_ | refine ev_if ?_ | refine end_ret hE rfl rfl ?_ | refine end_norm hE rfl rfl ?_ | refine endG_ret [] hE rfl ?_ | refine endG_norm [] hE rfl ?_ | refine vcallG_at (args := [.ptr 1 0]) 1 [] rfl hP (s_l1Coord c _ hc (by omega) (by omega)) ?_ | refine vcallG_at (args := [.ptr 1 0, .ref 24592]) 1 [24592] rfl hP (s_l1Pick c _ [0, 1, 3, 8, 30] hc (by omega) (by omega) (by simp) (by simp)) ?_ | refine vcallB_of hP (s_l1Min _ _) ?_ | refine vcall_A ?_); simp (maxSteps := 2000000) only [go_sem, hP, ↓reduceIte, Nat.reduceAdd, Nat.reduceMul, Nat.reduceEqDiff, Nat.reduceSub, Nat.reduceLeDiff, reduceCtorEq, Bool.and_self, List.length_map, hl1, hl2, hw2])
      | refine ev_skip ?_ | refine ev_block ?_ | refine ev_blk ?_ | refine ev_ret ?_ | refine ev_exit ?_ | refine evx_code_ret ?_ | refine evx_blk_ret ?_ | refine evx_lp_ret ?_
      | refine evx_code_exit ?_ | refine evx_lp_exit ?_ | refine evx_blk_hit ?_ | refine evx_blk_pass (by decide) ?_
      | refine And.intro ?_ ?_ | intro _ | decide +kernel | omega)
    all_goals first
      | exact ev_lp (k + 1) [(100000, some 28704), (100001, some 32800)] (by omega) (by omega) (by simp only [go_sem, hP, ↓reduceIte, Nat.reduceAdd, Nat.reduceMul, Nat.reduceEqDiff, Nat.reduceSub, Nat.reduceLeDiff, reduceCtorEq]; simp [hw1 hlt, rectLo, rectHi, List.range_succ]; exact ⟨by omega, rfl, rfl⟩)
      | (exfalso; omega)
      | rfl
      | omega
      | (simp_all; done)
  · have hke : k = d := by omega
    subst hke
    repeat' (first
      | exact True.intro
      | refine ev_seq ?_
      | ((first | refine endG_ret [(2, some 100000), (3, some 100001)] hE rfl ?_ | refine vgd_go ?_ | refine ev_region hE hM (hS (by decide +kernel)) ?_ | refine ev_if ?_ | refine end_ret hE rfl rfl ?_ | refine end_norm hE rfl rfl ?_ | refine endG_ret [] hE rfl ?_ | refine endG_norm [] hE rfl ?_ | refine vcall_A ?_); simp (maxSteps := 2000000) only [go_sem, hP, ↓reduceIte, Nat.reduceAdd, Nat.reduceMul, Nat.reduceEqDiff, Nat.reduceSub, Nat.reduceLeDiff, reduceCtorEq])
      | refine ev_skip ?_ | refine ev_block ?_ | refine ev_blk ?_ | refine ev_ret ?_ | refine ev_exit ?_ | refine evx_code_ret ?_ | refine evx_blk_ret ?_ | refine evx_lp_ret ?_
      | refine evx_code_exit ?_ | refine evx_lp_exit ?_ | refine evx_blk_hit ?_ | refine evx_blk_pass (by decide) ?_
      | refine And.intro ?_ ?_ | intro _ | decide +kernel | omega)
    all_goals first
      | (exfalso; omega)
      | (simp_all; done)
theorem s_l1Bent0 (c : List Int) (a : Int) (d : Nat) (hc : codeOk c) (h0 : 0 ≤ a) (h1 : a ≤ 1073000000 - 100000) (hd0 : 2 ≤ d) (hd : d ≤ 100) (hv : nx c (a + 6 * d) 14 = 0) : SatG Try.prog 70 false [.ptr 1 0, iT d] [(1, bSrc c a)] (.agg [.c (sI (bentV c a d).low), .c (sI (bentV c a d).high)]) [(1, bSrc c (bentA c a d))] := by
  have ev : bentV c a d = ⟨(rectLo c a d).set 0 (pk c (a + 6 * d + 1) [(rectHi c a d).getD 0 default + 1, -1001, 1001]), rectHi c a d⟩ := by unfold bentV; simp [hv, rectV]
  have ea : bentA c a d = a + 6 * d + 2 := by unfold bentA; simp [hv]
  rw [ev, ea]
  have h : SatG Try.prog 70 false [.ptr 1 0, iT d] [(1, bSrc c a)] (.agg [.ref 2, .ref 3]) ((1, bSrc c (a + 6 * d + 2)) :: [(2, .fro 1 (((rectLo c a d).set 0 (pk c (a + 6 * d + 1) [(rectHi c a d).getD 0 default + 1, -1001, 1001])).map eI)), (3, .fro 1 ((rectHi c a d).map eI))]) := by
    refine satG_walk (fn := Try.f70) rfl rfl rfl (Nat.le_of_ble_eq_true rfl) (by simp) fun fr hP hN hdp hb1 hb2 => ?_
    have hE : (envOf fr Try.prog).Ok := envOf_ok hP
    have hM := follows_of hP
    have hS : ∀ {draw ops}, statB Try.f70.ntmps draw ops = true → statB (envOf fr Try.prog).fr.N draw ops = true := fun h => by rw [envOf_fr, hN]; exact h
    have q0 := rectV_hi c a d 0 (by omega)
    have q1 := rectV_hi c a d 1 (by omega)
    have hl1 : (rectLo c a d).length = d := by simp [rectLo]
    have hl2 : (rectHi c a d).length = d := by simp [rectHi]
    have hw0 : IntKind.i64.wrap ((rectHi c a d).getD 0 default + 1) = (rectHi c a d).getD 0 default + 1 := i64_in _ (by omega)
    have hp : a + 6 * (d : Int) + 1 + 1 = a + 6 * d + 2 := by omega
    have t0 : Int.toNat 0 = 0 := rfl
    have t1 : Int.toNat 1 = 1 := rfl
    repeat' (first
      | exact True.intro
      | refine ev_seq ?_
      | ((first | refine endG_ret [(2, some 2101264), (3, some 3149840)] hE rfl ?_ | refine vgd_go ?_ | refine ev_region hE hM (hS (by decide +kernel)) ?_ | refine ev_if ?_ | refine end_ret hE rfl rfl ?_ | refine end_norm hE rfl rfl ?_ | refine endG_ret [] hE rfl ?_ | refine endG_norm [] hE rfl ?_ | refine vcallG_at (args := [.ptr 1 0, iT d]) 1 [] rfl hP (s_l1RectR c _ d hc (by omega) (by omega) (by omega) hd) ?_ | refine vcallG_at (args := [.ptr 1 0, iT 14]) 1 [] rfl hP (s_l1Next c _ 14 hc (by omega) (by omega) (by omega) (by omega)) ?_ | refine vcallG_at (args := [.ptr 1 0, .ref 16448]) 1 [16448] rfl hP (s_l1Pick c (a + 6 * d + 1) [(rectHi c a d).getD 0 default + 1, -1001, 1001] hc (by omega) (by omega) (by simp) (by simp)) ?_ | refine vcall_A ?_); simp (maxSteps := 2000000) only [go_sem, hP, ↓reduceIte, Nat.reduceAdd, Nat.reduceMul, Nat.reduceEqDiff, Nat.reduceSub, Nat.reduceLeDiff, reduceCtorEq, hp, List.length_map, List.length_set, hl1, hl2, hw0, t0, t1, Int.reduceBEq, hv])
      | refine ev_skip ?_ | refine ev_block ?_ | refine ev_blk ?_ | refine ev_ret ?_ | refine ev_exit ?_ | refine evx_code_ret ?_ | refine evx_blk_ret ?_ | refine evx_lp_ret ?_
      | refine evx_code_exit ?_ | refine evx_lp_exit ?_ | refine evx_blk_hit ?_ | refine evx_blk_pass (by decide) ?_
      | refine And.intro ?_ ?_ | intro _ | decide +kernel | omega)
    all_goals first
      | (exfalso; omega)
      | rfl
      | omega
      | (simp [List.map_set, List.map_drop, Es.strip_map]; done)
      | (simp [Es.strip_map]; exact ⟨fun _ _ => rfl, rfl⟩)
      | (rw [← strip_eI, List.map_set]; rfl)
      | (rw [List.take_of_length_le (by simp [hl2]), List.map_drop])
      | (rename_i h; exact h.symm)
      | trace_state
  exact satG_data (fz := [(2, .fro 1 (((rectLo c a d).set 0 (pk c (a + 6 * d + 1) [(rectHi c a d).getD 0 default + 1, -1001, 1001])).map eI)), (3, .fro 1 ((rectHi c a d).map eI))]) (fun κ h => by simp only [lk] at h; split at h <;> simp_all) trivial rfl h
theorem s_l1Bent1 (c : List Int) (a : Int) (d : Nat) (hc : codeOk c) (h0 : 0 ≤ a) (h1 : a ≤ 1073000000 - 100000) (hd0 : 2 ≤ d) (hd : d ≤ 100) (hv : nx c (a + 6 * d) 14 = 1) : SatG Try.prog 70 false [.ptr 1 0, iT d] [(1, bSrc c a)] (.agg [.c (sI (bentV c a d).low), .c (sI (bentV c a d).high)]) [(1, bSrc c (bentA c a d))] := by
  have ev : bentV c a d = ⟨rectLo c a d, (rectHi c a d).drop 1⟩ := by unfold bentV; simp [hv, rectV]
  have ea : bentA c a d = a + 6 * d + 1 := by unfold bentA; simp [hv]
  rw [ev, ea]
  have h : SatG Try.prog 70 false [.ptr 1 0, iT d] [(1, bSrc c a)] (.agg [.ref 2, .c (sI ((rectHi c a d).drop 1))]) ((1, bSrc c (a + 6 * d + 1)) :: [(2, .fro 1 ((rectLo c a d).map eI))]) := by
    refine satG_walk (fn := Try.f70) rfl rfl rfl (Nat.le_of_ble_eq_true rfl) (by simp) fun fr hP hN hdp hb1 hb2 => ?_
    have hE : (envOf fr Try.prog).Ok := envOf_ok hP
    have hM := follows_of hP
    have hS : ∀ {draw ops}, statB Try.f70.ntmps draw ops = true → statB (envOf fr Try.prog).fr.N draw ops = true := fun h => by rw [envOf_fr, hN]; exact h
    have q0 := rectV_hi c a d 0 (by omega)
    have q1 := rectV_hi c a d 1 (by omega)
    have hl1 : (rectLo c a d).length = d := by simp [rectLo]
    have hl2 : (rectHi c a d).length = d := by simp [rectHi]
    have hw0 : IntKind.i64.wrap ((rectHi c a d).getD 0 default + 1) = (rectHi c a d).getD 0 default + 1 := i64_in _ (by omega)
    have hp : a + 6 * (d : Int) + 1 + 1 = a + 6 * d + 2 := by omega
    have t0 : Int.toNat 0 = 0 := rfl
    have t1 : Int.toNat 1 = 1 := rfl
    repeat' (first
      | exact True.intro
      | refine ev_seq ?_
      | ((first | refine endG_ret [(2, some 2101264)] hE rfl ?_ | refine vgd_go ?_ | refine ev_region hE hM (hS (by decide +kernel)) ?_ | refine ev_if ?_ | refine end_ret hE rfl rfl ?_ | refine end_norm hE rfl rfl ?_ | refine endG_ret [] hE rfl ?_ | refine endG_norm [] hE rfl ?_ | refine vcallG_at (args := [.ptr 1 0, iT d]) 1 [] rfl hP (s_l1RectR c _ d hc (by omega) (by omega) (by omega) hd) ?_ | refine vcallG_at (args := [.ptr 1 0, iT 14]) 1 [] rfl hP (s_l1Next c _ 14 hc (by omega) (by omega) (by omega) (by omega)) ?_ | refine vcall_A ?_); simp (maxSteps := 2000000) only [go_sem, hP, ↓reduceIte, Nat.reduceAdd, Nat.reduceMul, Nat.reduceEqDiff, Nat.reduceSub, Nat.reduceLeDiff, reduceCtorEq, hp, List.length_map, List.length_set, hl1, hl2, hw0, t0, t1, Int.reduceBEq, hv])
      | refine ev_skip ?_ | refine ev_block ?_ | refine ev_blk ?_ | refine ev_ret ?_ | refine ev_exit ?_ | refine evx_code_ret ?_ | refine evx_blk_ret ?_ | refine evx_lp_ret ?_
      | refine evx_code_exit ?_ | refine evx_lp_exit ?_ | refine evx_blk_hit ?_ | refine evx_blk_pass (by decide) ?_
      | refine And.intro ?_ ?_ | intro _ | decide +kernel | omega)
    all_goals first
      | (exfalso; omega)
      | rfl
      | omega
      | (simp [List.map_set, List.map_drop, Es.strip_map]; done)
      | (simp [Es.strip_map]; exact ⟨fun _ _ => rfl, rfl⟩)
      | (rw [← strip_eI, List.map_set]; rfl)
      | (rw [List.take_of_length_le (by simp [hl2]), List.map_drop])
      | (rename_i h; exact h.symm)
      | trace_state
  exact satG_data (fz := [(2, .fro 1 ((rectLo c a d).map eI))]) (fun κ h => by simp only [lk] at h; split at h <;> simp_all) trivial rfl h
theorem s_l1Bent2 (c : List Int) (a : Int) (d : Nat) (hc : codeOk c) (h0 : 0 ≤ a) (h1 : a ≤ 1073000000 - 100000) (hd0 : 2 ≤ d) (hd : d ≤ 100) (hv : nx c (a + 6 * d) 14 = 2) : SatG Try.prog 70 false [.ptr 1 0, iT d] [(1, bSrc c a)] (.agg [.c (sI (bentV c a d).low), .c (sI (bentV c a d).high)]) [(1, bSrc c (bentA c a d))] := by
  have ev : bentV c a d = ⟨rectLo c a d ++ [0], rectHi c a d⟩ := by unfold bentV; simp [hv, rectV]
  have ea : bentA c a d = a + 6 * d + 1 := by unfold bentA; simp [hv]
  rw [ev, ea]
  have h : SatG Try.prog 70 false [.ptr 1 0, iT d] [(1, bSrc c a)] (.agg [.ref 2, .ref 3]) ((1, bSrc c (a + 6 * d + 1)) :: [(2, .fro 1 ((rectLo c a d ++ [0]).map eI)), (3, .fro 1 ((rectHi c a d).map eI))]) := by
    refine satG_walk (fn := Try.f70) rfl rfl rfl (Nat.le_of_ble_eq_true rfl) (by simp) fun fr hP hN hdp hb1 hb2 => ?_
    have hE : (envOf fr Try.prog).Ok := envOf_ok hP
    have hM := follows_of hP
    have hS : ∀ {draw ops}, statB Try.f70.ntmps draw ops = true → statB (envOf fr Try.prog).fr.N draw ops = true := fun h => by rw [envOf_fr, hN]; exact h
    have q0 := rectV_hi c a d 0 (by omega)
    have q1 := rectV_hi c a d 1 (by omega)
    have hl1 : (rectLo c a d).length = d := by simp [rectLo]
    have hl2 : (rectHi c a d).length = d := by simp [rectHi]
    have hw0 : IntKind.i64.wrap ((rectHi c a d).getD 0 default + 1) = (rectHi c a d).getD 0 default + 1 := i64_in _ (by omega)
    have hp : a + 6 * (d : Int) + 1 + 1 = a + 6 * d + 2 := by omega
    have t0 : Int.toNat 0 = 0 := rfl
    have t1 : Int.toNat 1 = 1 := rfl
    repeat' (first
      | exact True.intro
      | refine ev_seq ?_
      | ((first | refine endG_ret [(2, some 32792), (3, some 3149840)] hE rfl ?_ | refine vgd_go ?_ | refine ev_region hE hM (hS (by decide +kernel)) ?_ | refine ev_if ?_ | refine end_ret hE rfl rfl ?_ | refine end_norm hE rfl rfl ?_ | refine endG_ret [] hE rfl ?_ | refine endG_norm [] hE rfl ?_ | refine vcallG_at (args := [.ptr 1 0, iT d]) 1 [] rfl hP (s_l1RectR c _ d hc (by omega) (by omega) (by omega) hd) ?_ | refine vcallG_at (args := [.ptr 1 0, iT 14]) 1 [] rfl hP (s_l1Next c _ 14 hc (by omega) (by omega) (by omega) (by omega)) ?_ | refine vcall_A ?_); simp (maxSteps := 2000000) only [go_sem, hP, ↓reduceIte, Nat.reduceAdd, Nat.reduceMul, Nat.reduceEqDiff, Nat.reduceSub, Nat.reduceLeDiff, reduceCtorEq, hp, List.length_map, List.length_set, hl1, hl2, hw0, t0, t1, Int.reduceBEq, hv])
      | refine ev_skip ?_ | refine ev_block ?_ | refine ev_blk ?_ | refine ev_ret ?_ | refine ev_exit ?_ | refine evx_code_ret ?_ | refine evx_blk_ret ?_ | refine evx_lp_ret ?_
      | refine evx_code_exit ?_ | refine evx_lp_exit ?_ | refine evx_blk_hit ?_ | refine evx_blk_pass (by decide) ?_
      | refine And.intro ?_ ?_ | intro _ | decide +kernel | omega)
    all_goals first
      | (exfalso; omega)
      | rfl
      | omega
      | (simp [List.map_set, List.map_drop, Es.strip_map]; done)
      | (simp [Es.strip_map]; exact ⟨fun _ _ => rfl, rfl⟩)
      | (rw [← strip_eI, List.map_set]; rfl)
      | (rw [List.take_of_length_le (by simp [hl2]), List.map_drop])
      | (rename_i h; exact h.symm)
      | trace_state
  exact satG_data (fz := [(2, .fro 1 ((rectLo c a d ++ [0]).map eI)), (3, .fro 1 ((rectHi c a d).map eI))]) (fun κ h => by simp only [lk] at h; split at h <;> simp_all) trivial rfl h
theorem s_l1Bent3 (c : List Int) (a : Int) (d : Nat) (hc : codeOk c) (h0 : 0 ≤ a) (h1 : a ≤ 1073000000 - 100000) (hd0 : 2 ≤ d) (hd : d ≤ 100) (hv : nx c (a + 6 * d) 14 = 3) : SatG Try.prog 70 false [.ptr 1 0, iT d] [(1, bSrc c a)] (.agg [.c (sI (bentV c a d).low), .c (sI (bentV c a d).high)]) [(1, bSrc c (bentA c a d))] := by
  have ev : bentV c a d = ⟨rectLo c a d, (rectHi c a d).set 1 (pk c (a + 6 * d + 1) [1000, 1001, -1000])⟩ := by unfold bentV; simp [hv, rectV]
  have ea : bentA c a d = a + 6 * d + 2 := by unfold bentA; simp [hv]
  rw [ev, ea]
  have h : SatG Try.prog 70 false [.ptr 1 0, iT d] [(1, bSrc c a)] (.agg [.ref 2, .ref 3]) ((1, bSrc c (a + 6 * d + 2)) :: [(2, .fro 1 ((rectLo c a d).map eI)), (3, .fro 1 (((rectHi c a d).set 1 (pk c (a + 6 * d + 1) [1000, 1001, -1000])).map eI))]) := by
    refine satG_walk (fn := Try.f70) rfl rfl rfl (Nat.le_of_ble_eq_true rfl) (by simp) fun fr hP hN hdp hb1 hb2 => ?_
    have hE : (envOf fr Try.prog).Ok := envOf_ok hP
    have hM := follows_of hP
    have hS : ∀ {draw ops}, statB Try.f70.ntmps draw ops = true → statB (envOf fr Try.prog).fr.N draw ops = true := fun h => by rw [envOf_fr, hN]; exact h
    have q0 := rectV_hi c a d 0 (by omega)
    have q1 := rectV_hi c a d 1 (by omega)
    have hl1 : (rectLo c a d).length = d := by simp [rectLo]
    have hl2 : (rectHi c a d).length = d := by simp [rectHi]
    have hw0 : IntKind.i64.wrap ((rectHi c a d).getD 0 default + 1) = (rectHi c a d).getD 0 default + 1 := i64_in _ (by omega)
    have hp : a + 6 * (d : Int) + 1 + 1 = a + 6 * d + 2 := by omega
    have t0 : Int.toNat 0 = 0 := rfl
    have t1 : Int.toNat 1 = 1 := rfl
    repeat' (first
      | exact True.intro
      | refine ev_seq ?_
      | ((first | refine endG_ret [(2, some 2101264), (3, some 3149840)] hE rfl ?_ | refine vgd_go ?_ | refine ev_region hE hM (hS (by decide +kernel)) ?_ | refine ev_if ?_ | refine end_ret hE rfl rfl ?_ | refine end_norm hE rfl rfl ?_ | refine endG_ret [] hE rfl ?_ | refine endG_norm [] hE rfl ?_ | refine vcallG_at (args := [.ptr 1 0, iT d]) 1 [] rfl hP (s_l1RectR c _ d hc (by omega) (by omega) (by omega) hd) ?_ | refine vcallG_at (args := [.ptr 1 0, iT 14]) 1 [] rfl hP (s_l1Next c _ 14 hc (by omega) (by omega) (by omega) (by omega)) ?_ | refine vcallG_at (args := [.ptr 1 0, .ref 40984]) 1 [40984] rfl hP (s_l1Pick c (a + 6 * d + 1) [1000, 1001, -1000] hc (by omega) (by omega) (by simp) (by simp)) ?_ | refine vcall_A ?_); simp (maxSteps := 2000000) only [go_sem, hP, ↓reduceIte, Nat.reduceAdd, Nat.reduceMul, Nat.reduceEqDiff, Nat.reduceSub, Nat.reduceLeDiff, reduceCtorEq, hp, List.length_map, List.length_set, hl1, hl2, hw0, t0, t1, Int.reduceBEq, hv])
      | refine ev_skip ?_ | refine ev_block ?_ | refine ev_blk ?_ | refine ev_ret ?_ | refine ev_exit ?_ | refine evx_code_ret ?_ | refine evx_blk_ret ?_ | refine evx_lp_ret ?_
      | refine evx_code_exit ?_ | refine evx_lp_exit ?_ | refine evx_blk_hit ?_ | refine evx_blk_pass (by decide) ?_
      | refine And.intro ?_ ?_ | intro _ | decide +kernel | omega)
    all_goals first
      | (exfalso; omega)
      | rfl
      | omega
      | (simp [List.map_set, List.map_drop, Es.strip_map]; done)
      | (simp [Es.strip_map]; exact ⟨fun _ _ => rfl, rfl⟩)
      | (rw [← strip_eI, List.map_set]; rfl)
      | (rw [List.take_of_length_le (by simp [hl2]), List.map_drop])
      | (rename_i h; exact h.symm)
      | trace_state
  exact satG_data (fz := [(2, .fro 1 ((rectLo c a d).map eI)), (3, .fro 1 (((rectHi c a d).set 1 (pk c (a + 6 * d + 1) [1000, 1001, -1000])).map eI))]) (fun κ h => by simp only [lk] at h; split at h <;> simp_all) trivial rfl h
theorem s_l1Bent4 (c : List Int) (a : Int) (d : Nat) (hc : codeOk c) (h0 : 0 ≤ a) (h1 : a ≤ 1073000000 - 100000) (hd0 : 2 ≤ d) (hd : d ≤ 100) (g0 : nx c (a + 6 * d) 14 ≠ 0) (g1 : nx c (a + 6 * d) 14 ≠ 1) (g2 : nx c (a + 6 * d) 14 ≠ 2) (g3 : nx c (a + 6 * d) 14 ≠ 3) : SatG Try.prog 70 false [.ptr 1 0, iT d] [(1, bSrc c a)] (.agg [.c (sI (bentV c a d).low), .c (sI (bentV c a d).high)]) [(1, bSrc c (bentA c a d))] := by
  have ev : bentV c a d = ⟨rectLo c a d, rectHi c a d⟩ := by unfold bentV; simp [g0, g1, g2, g3, rectV]
  have ea : bentA c a d = a + 6 * d + 1 := by unfold bentA; simp [g0, g3]
  rw [ev, ea]
  have h : SatG Try.prog 70 false [.ptr 1 0, iT d] [(1, bSrc c a)] (.agg [.ref 2, .ref 3]) ((1, bSrc c (a + 6 * d + 1)) :: [(2, .fro 1 ((rectLo c a d).map eI)), (3, .fro 1 ((rectHi c a d).map eI))]) := by
    refine satG_walk (fn := Try.f70) rfl rfl rfl (Nat.le_of_ble_eq_true rfl) (by simp) fun fr hP hN hdp hb1 hb2 => ?_
    have hE : (envOf fr Try.prog).Ok := envOf_ok hP
    have hM := follows_of hP
    have hS : ∀ {draw ops}, statB Try.f70.ntmps draw ops = true → statB (envOf fr Try.prog).fr.N draw ops = true := fun h => by rw [envOf_fr, hN]; exact h
    have q0 := rectV_hi c a d 0 (by omega)
    have q1 := rectV_hi c a d 1 (by omega)
    have hl1 : (rectLo c a d).length = d := by simp [rectLo]
    have hl2 : (rectHi c a d).length = d := by simp [rectHi]
    have hw0 : IntKind.i64.wrap ((rectHi c a d).getD 0 default + 1) = (rectHi c a d).getD 0 default + 1 := i64_in _ (by omega)
    have hp : a + 6 * (d : Int) + 1 + 1 = a + 6 * d + 2 := by omega
    have t0 : Int.toNat 0 = 0 := rfl
    have t1 : Int.toNat 1 = 1 := rfl
    have b0 : (nx c (a + 6 * d) 14 == 0) = false := beq_eq_false_iff_ne.2 g0
    have b1 : (nx c (a + 6 * d) 14 == 1) = false := beq_eq_false_iff_ne.2 g1
    have b2 : (nx c (a + 6 * d) 14 == 2) = false := beq_eq_false_iff_ne.2 g2
    have b3 : (nx c (a + 6 * d) 14 == 3) = false := beq_eq_false_iff_ne.2 g3
    repeat' (first
      | exact True.intro
      | refine ev_seq ?_
      | ((first | refine endG_ret [(2, some 2101264), (3, some 3149840)] hE rfl ?_ | refine vgd_go ?_ | refine ev_region hE hM (hS (by decide +kernel)) ?_ | refine ev_if ?_ | refine end_ret hE rfl rfl ?_ | refine end_norm hE rfl rfl ?_ | refine endG_ret [] hE rfl ?_ | refine endG_norm [] hE rfl ?_ | refine vcallG_at (args := [.ptr 1 0, iT d]) 1 [] rfl hP (s_l1RectR c _ d hc (by omega) (by omega) (by omega) hd) ?_ | refine vcallG_at (args := [.ptr 1 0, iT 14]) 1 [] rfl hP (s_l1Next c _ 14 hc (by omega) (by omega) (by omega) (by omega)) ?_ | refine vcall_A ?_); simp (maxSteps := 2000000) only [go_sem, hP, ↓reduceIte, Nat.reduceAdd, Nat.reduceMul, Nat.reduceEqDiff, Nat.reduceSub, Nat.reduceLeDiff, reduceCtorEq, hp, List.length_map, List.length_set, hl1, hl2, hw0, t0, t1, Int.reduceBEq, b0, b1, b2, b3])
      | refine ev_skip ?_ | refine ev_block ?_ | refine ev_blk ?_ | refine ev_ret ?_ | refine ev_exit ?_ | refine evx_code_ret ?_ | refine evx_blk_ret ?_ | refine evx_lp_ret ?_
      | refine evx_code_exit ?_ | refine evx_lp_exit ?_ | refine evx_blk_hit ?_ | refine evx_blk_pass (by decide) ?_
      | refine And.intro ?_ ?_ | intro _ | decide +kernel | omega)
    all_goals first
      | (exfalso; omega)
      | rfl
      | omega
      | (simp [List.map_set, List.map_drop, Es.strip_map]; done)
      | (simp [Es.strip_map]; exact ⟨fun _ _ => rfl, rfl⟩)
      | (rw [← strip_eI, List.map_set]; rfl)
      | (rw [List.take_of_length_le (by simp [hl2]), List.map_drop])
      | (rename_i h; exact h.symm)
      | trace_state
  exact satG_data (fz := [(2, .fro 1 ((rectLo c a d).map eI)), (3, .fro 1 ((rectHi c a d).map eI))]) (fun κ h => by simp only [lk] at h; split at h <;> simp_all) trivial rfl h
theorem s_l1Bent (c : List Int) (a : Int) (d : Nat) (hc : codeOk c) (h0 : 0 ≤ a) (h1 : a ≤ 1073000000 - 100000) (hd0 : 2 ≤ d) (hd : d ≤ 100) : SatG Try.prog 70 false [.ptr 1 0, iT d] [(1, bSrc c a)] (.agg [.c (sI (bentV c a d).low), .c (sI (bentV c a d).high)]) [(1, bSrc c (bentA c a d))] := by
  by_cases g0 : nx c (a + 6 * d) 14 = 0
  · exact s_l1Bent0 c a d hc h0 h1 hd0 hd g0
  · by_cases g1 : nx c (a + 6 * d) 14 = 1
    · exact s_l1Bent1 c a d hc h0 h1 hd0 hd g1
    · by_cases g2 : nx c (a + 6 * d) 14 = 2
      · exact s_l1Bent2 c a d hc h0 h1 hd0 hd g2
      · by_cases g3 : nx c (a + 6 * d) 14 = 3
        · exact s_l1Bent3 c a d hc h0 h1 hd0 hd g3
        · exact s_l1Bent4 c a d hc h0 h1 hd0 hd g0 g1 g2 g3
def d0 (c : List Int) : Nat := (pk c 0 [2, 2, 3]).toNat
theorem d0_in (c : List Int) : d0 c = 2 ∨ d0 c = 3 := by
  have := dims_in c 0
  unfold d0; omega
theorem d0_eq (c : List Int) : pk c 0 [2, 2, 3] = (d0 c : Int) := by
  have := dims_in c 0
  unfold d0; omega
def unA (c : List Int) : Rect := bentV c 1 (d0 c)
def unP (c : List Int) : Int := bentA c 1 (d0 c)
theorem unP_in (c : List Int) : 0 ≤ unP c ∧ unP c ≤ 100 := by
  have h1 := bentA_in c 1 (d0 c)
  have h2 := d0_in c
  unfold unP; omega
def unQ (c : List Int) : List Int := [(d0 c : Int), d0 c, d0 c, d0 c, d0 c, 2]
def d1 (c : List Int) : Nat := (pk c (unP c + 1) (unQ c)).toNat
theorem d1_mem (c : List Int) : pk c (unP c + 1) (unQ c) = d0 c ∨ pk c (unP c + 1) (unQ c) = 2 := by
  have h := pk_mem (c := c) (a := unP c + 1) (xs := unQ c) (by simp [unQ])
  simp only [unQ, List.mem_cons, List.not_mem_nil, or_false] at h
  rcases h with h | h | h | h | h | h <;> simp [unQ, h]
theorem d1_in (c : List Int) : d1 c = 2 ∨ d1 c = 3 := by
  have := d1_mem c
  have := d0_in c
  unfold d1; omega
theorem d1_eq (c : List Int) : pk c (unP c + 1) (unQ c) = (d1 c : Int) := by
  have := d1_mem c
  have := d0_in c
  unfold d1; omega
def unB (c : List Int) : Rect :=
  if nx c (unP c) 4 = 0 ∧ rf (unA c) (d0 c) = 0 then ⟨(unA c).low, (unA c).high.set 0 (min ((unA c).high.getD 0 default + pk c (unP c + 1) [0, 1, 5]) 1000)⟩
  else bentV c (unP c + 2) (d1 c)
def dsN (c : List Int) : List Int := [((unA c).low.length : Int), (unA c).low.length, (unA c).low.length, 2]
def d2 (c : List Int) : Nat := (pk c 12 (dsN c)).toNat
theorem unA_low (c : List Int) : (unA c).low.length = d0 c ∨ (unA c).low.length = d0 c + 1 := by
  unfold unA bentV rectV
  (repeat' split) <;> simp [rectLo]
theorem d2_mem (c : List Int) : pk c 12 (dsN c) = (unA c).low.length ∨ pk c 12 (dsN c) = 2 := by
  have h := pk_mem (c := c) (a := 12) (xs := dsN c) (by simp [dsN])
  simp only [dsN, List.mem_cons, List.not_mem_nil, or_false] at h
  rcases h with h | h | h | h <;> simp [dsN, h]
theorem d2_eq (c : List Int) : pk c 12 (dsN c) = (d2 c : Int) := by
  have := d2_mem c
  unfold d2; omega
theorem d2_in (c : List Int) : 2 ≤ d2 c ∧ d2 c ≤ 4 := by
  have h1 := d2_mem c
  have h2 := unA_low c
  have h3 := d0_in c
  unfold d2; omega
def dsP (c : List Int) : List Int := pointV c 13 (d2 c)
theorem pf_iff {xs : List Int} {d : Int} : pf xs d = 0 ↔ 2 ≤ d ∧ d ≤ 3 ∧ (xs.length : Int) = d ∧ ∀ k, k < xs.length → -1000 ≤ xs.getD k default ∧ xs.getD k default ≤ 1000 := by
  constructor
  · intro h
    have h1 := pf_len h
    have h2 : inB d 2 3 = true := by unfold pf at h; (repeat' split at h) <;> simp_all
    simp [inB] at h2
    exact ⟨by omega, by omega, h1, fun k hk => pf_at h k hk⟩
  · rintro ⟨h1, h2, h3, h4⟩
    have ha : xs.all (inB · (-1000) 1000) = true := by
      rw [List.all_eq_true]
      intro x hx
      obtain ⟨k, hk, rfl⟩ := List.mem_iff_getElem.1 hx
      have := h4 k hk
      rw [getD_lt hk] at this
      simpa [inB] using this
    have hb : inB d 2 3 = true := by simp [inB]; omega
    unfold pf
    simp [ha, hb, h3]
theorem rf_iff {r : Rect} {d : Int} : rf r d = 0 ↔ 2 ≤ d ∧ d ≤ 3 ∧ (r.low.length : Int) = d ∧ (r.high.length : Int) = d ∧ ∀ k, k < r.low.length → -1000 ≤ r.low.getD k default ∧ r.low.getD k default ≤ r.high.getD k default ∧ r.high.getD k default ≤ 1000 := by
  constructor
  · intro h
    have h1 := rf_len h
    have h2 : pf r.low d = 0 := by unfold rf at h; split at h <;> simp_all
    have h3 := pf_iff.1 h2
    exact ⟨h3.1, h3.2.1, h1.1, h1.2, fun k hk => rf_at h k hk⟩
  · rintro ⟨h1, h2, h3, h4, h5⟩
    have e1 : pf r.low d = 0 := pf_iff.2 ⟨h1, h2, h3, fun k hk => by have := h5 k hk; omega⟩
    have e2 : pf r.high d = 0 := pf_iff.2 ⟨h1, h2, h4, fun k hk => by have := h5 k (by omega); omega⟩
    have e3 : lowHigh r = true := allLt_iff.2 fun k hk => by have := h5 k hk; simpa using this.2.1
    unfold rf
    rw [if_neg (by simpa using e1), if_neg (by simpa using e2), if_pos e3]
theorem two_iff {a b : Rect} : two a b = 0 ↔ rf a a.low.length = 0 ∧ rf b a.low.length = 0 := by
  unfold two
  split <;> simp_all
theorem un_at {a b : Rect} {k : Nat} (hk : k < a.low.length) : (un a b).low.getD k default = min (a.low.getD k default) (b.low.getD k default) ∧ (un a b).high.getD k default = max (a.high.getD k default) (b.high.getD k default) := by
  have h1 : k < (un a b).low.length := by simp [un]; exact hk
  have h2 : k < (un a b).high.length := by simp [un]; exact hk
  rw [getD_lt h1, getD_lt h2]
  simp [un]
theorem covers_iff {a b : Rect} : covers a b = true ↔ ∀ k, k < a.low.length → a.low.getD k default ≤ b.low.getD k default ∧ b.high.getD k default ≤ a.high.getD k default := by
  unfold covers
  rw [allLt_iff]
  refine forall_congr' fun k => forall_congr' fun _ => ?_
  simp [coversAt]
theorem meets_iff {a b : Rect} : meets a b = true ↔ ∀ k, k < a.low.length → a.low.getD k default ≤ b.high.getD k default ∧ b.low.getD k default ≤ a.high.getD k default := by
  unfold meets
  rw [allLt_iff]
  refine forall_congr' fun k => forall_congr' fun _ => ?_
  simp [meetsAt]
theorem un_low_len (a b : Rect) : (un a b).low.length = a.low.length := by simp [un]
theorem rf_un {a b : Rect} (h : two a b = 0) : rf (un a b) a.low.length = 0 := by
  obtain ⟨h1, h2⟩ := two_iff.1 h
  obtain ⟨a1, a2, a3, a4, a5⟩ := rf_iff.1 h1
  obtain ⟨b1, b2, b3, b4, b5⟩ := rf_iff.1 h2
  refine rf_iff.2 ⟨a1, a2, by rw [un_low_len], by rw [un_len, un_low_len], fun k hk => ?_⟩
  rw [un_low_len] at hk
  have e := un_at (b := b) hk
  have := a5 k hk
  have := b5 k (by omega)
  omega
theorem two_un_left {a b : Rect} (h : two a b = 0) : two (un a b) a = 0 ∧ covers (un a b) a = true := by
  obtain ⟨h1, h2⟩ := two_iff.1 h
  refine ⟨two_iff.2 ⟨by rw [un_low_len]; exact rf_un h, by rw [un_low_len]; exact h1⟩, covers_iff.2 fun k hk => ?_⟩
  rw [un_low_len] at hk
  have e := un_at (b := b) hk
  omega
theorem two_un_right {a b : Rect} (h : two a b = 0) : two (un a b) b = 0 ∧ covers (un a b) b = true := by
  obtain ⟨h1, h2⟩ := two_iff.1 h
  refine ⟨two_iff.2 ⟨by rw [un_low_len]; exact rf_un h, by rw [un_low_len]; exact h2⟩, covers_iff.2 fun k hk => ?_⟩
  rw [un_low_len] at hk
  have e := un_at (b := b) hk
  omega
theorem two_symm {a b : Rect} (h : two a b = 0) : two b a = 0 := by
  obtain ⟨h1, h2⟩ := two_iff.1 h
  have := rf_len h2
  exact two_iff.2 ⟨by rw [this.1]; exact h2, by rw [this.1]; exact h1⟩
theorem list_getD_ext {xs ys : List Int} (hl : xs.length = ys.length) (h : ∀ k, k < xs.length → xs.getD k default = ys.getD k default) : xs = ys := by
  refine List.ext_getElem hl fun k h1 h2 => ?_
  have := h k h1
  rwa [getD_lt h1, getD_lt h2] at this
theorem rect_ext {a b : Rect} (h1 : a.low.length = b.low.length) (h2 : a.high.length = b.high.length) (h3 : a.high.length = a.low.length) (h : ∀ k, k < a.low.length → a.low.getD k default = b.low.getD k default ∧ a.high.getD k default = b.high.getD k default) : a = b := by
  have e1 := list_getD_ext h1 fun k hk => (h k hk).1
  have e2 := list_getD_ext h2 fun k hk => (h k (by omega)).2
  cases a; cases b; simp_all
theorem un_symm {a b : Rect} (h : two a b = 0) : un b a = un a b := by
  have l := two_lens h
  refine rect_ext (by rw [un_low_len, un_low_len]; exact l.h2) (by rw [un_len, un_len, un_low_len, un_low_len]; exact l.h2) (by rw [un_len]) fun k hk => ?_
  rw [un_low_len] at hk
  have e1 := un_at (a := b) (b := a) hk
  have e2 := un_at (a := a) (b := b) (k := k) (by have := l.h2; omega)
  omega
theorem meets_symm {a b : Rect} (h : two a b = 0) : meets b a = meets a b := by
  have l := two_lens h
  rw [Bool.eq_iff_iff, meets_iff, meets_iff, l.h2]
  exact forall_congr' fun k => forall_congr' fun _ => ⟨fun h => ⟨h.2, h.1⟩, fun h => ⟨h.2, h.1⟩⟩
theorem covers_meets {a b : Rect} (h : two a b = 0) (hc : covers a b = true) : meets a b = true ∧ un a b = a := by
  have f := two_fit h
  have l := f.l
  have c := covers_iff.1 hc
  refine ⟨meets_iff.2 fun k hk => ?_, rect_ext (un_low_len a b) (by rw [un_len, un_low_len]; exact l.h1.symm) (un_len a b) fun k hk => ?_⟩
  · have := c k hk
    have := f.b1 k hk
    omega
  · rw [un_low_len] at hk
    have e := un_at (b := b) hk
    have := c k hk
    omega
theorem wf_u8 {n : Int} (h : (Lit.int .u8 n).wf = true) : 0 ≤ n ∧ n < 256 := by
  simp [Lit.wf, IntKind.has, IntKind.min, IntKind.max, IntKind.signed, IntKind.bits] at h
  omega
theorem shp_Y {n t : Nat} {cs : List C} (ht : Try.prog.underlying t = some (.slice 5)) (h : shp Try.prog (n + 2) t cs) : ∃ xs : List Int, cs = [sY xs] ∧ ∀ b ∈ xs, 0 ≤ b ∧ b < 256 := by
  obtain ⟨xs, rfl, _, h2⟩ := shp_rows (f := eY) (q := fun b => 0 ≤ b ∧ b < 256) (sz := 1) ht rfl (fun x hx => by
    simp only [shp] at hx
    obtain ⟨m, hm, hw⟩ := hx
    exact ⟨m, hm, wf_u8 hw⟩) h
  exact ⟨xs, rfl, h2⟩
theorem s_lwBig (c : List Int) : Sat Try.prog 5 [aY c] true (rB (decide (1048576 < c.length))) := by
  refine sat_walk (fn := Try.f5) rfl rfl rfl (Nat.le_of_ble_eq_true rfl) fun fr hP hN hbnd => ?_
  have hE : (envOf fr Try.prog).Ok := envOf_ok hP
  have hM := follows_of hP
  have hS : ∀ {draw ops}, statB Try.f5.ntmps draw ops = true → statB (envOf fr Try.prog).fr.N draw ops = true := fun h => by rw [envOf_fr, hN]; exact h
  have e : decide ((1048576 : Int) < (c.length : Int)) = decide (1048576 < c.length) := by simp; omega
  repeat' (first
    | exact True.intro
    | refine ev_seq ?_
    | ((first | refine vgd_go ?_ | refine ev_region hE hM (hS (by decide +kernel)) ?_ | refine ev_if ?_ | refine end_ret hE rfl rfl ?_ | refine end_norm hE rfl rfl ?_ | refine endG_ret [] hE rfl ?_ | refine endG_norm [] hE rfl ?_ | refine vcall_A ?_); simp (maxSteps := 2000000) only [go_sem, hP, ↓reduceIte, Nat.reduceAdd, Nat.reduceMul, Nat.reduceEqDiff, Nat.reduceSub, Nat.reduceLeDiff, reduceCtorEq, List.length_map, e])
    | refine ev_skip ?_ | refine ev_block ?_ | refine ev_blk ?_ | refine ev_ret ?_ | refine ev_exit ?_ | refine evx_code_ret ?_ | refine evx_blk_ret ?_ | refine evx_lp_ret ?_
    | refine evx_code_exit ?_ | refine evx_lp_exit ?_ | refine evx_blk_hit ?_ | refine evx_blk_pass (by decide) ?_
    | refine And.intro ?_ ?_ | intro _ | decide +kernel | omega)
def prodTo (r : Rect) : Nat → Int
  | 0 => 1
  | k + 1 => prodTo r k * (r.high.getD k default - r.low.getD k default)
theorem p2000 (k : Nat) : (0 : Int) ≤ 2000 ^ k := Int.pow_nonneg (by omega)
theorem prodTo_in {r : Rect} {n : Nat} (h : ∀ k, k < n → -1000 ≤ r.low.getD k default ∧ r.low.getD k default ≤ r.high.getD k default ∧ r.high.getD k default ≤ 1000) : ∀ k, k ≤ n → 0 ≤ prodTo r k ∧ prodTo r k ≤ 2000 ^ k
  | 0, _ => by simp [prodTo]
  | k + 1, hk => by
    obtain ⟨h1, h2⟩ := prodTo_in h k (by omega)
    have e := h k (by omega)
    simp only [prodTo]
    refine ⟨Int.mul_nonneg h1 (by omega), ?_⟩
    rw [Int.pow_succ]
    exact Int.mul_le_mul h2 (by omega) (by omega) (p2000 k)
theorem p2000_le {k : Nat} (h : k ≤ 3) : (2000 : Int) ^ k ≤ 8000000000 := by
  match k, h with
  | 0, _ => decide
  | 1, _ => decide
  | 2, _ => decide
  | 3, _ => decide
theorem areaTo_prod {r : Rect} {n : Nat} (hn : n ≤ 3) (h : ∀ k, k < n → -1000 ≤ r.low.getD k default ∧ r.low.getD k default ≤ r.high.getD k default ∧ r.high.getD k default ≤ 1000) : ∀ k, k ≤ n → areaTo r k = prodTo r k
  | 0, _ => rfl
  | k + 1, hk => by
    have e := h k (by omega)
    have p1 := prodTo_in h (k + 1) hk
    have p2 := p2000_le (k := k + 1) (by omega)
    have ih := areaTo_prod hn h k (by omega)
    show IntKind.i64.wrap (areaTo r k * IntKind.i64.wrap (r.high.getD k default - r.low.getD k default)) = prodTo r (k + 1)
    rw [ih, wr_small (n := r.high.getD k default - r.low.getD k default) (by omega)]
    have e2 : prodTo r k * (r.high.getD k default - r.low.getD k default) = prodTo r (k + 1) := rfl
    rw [e2]
    exact i64_in _ (by omega)
theorem prodTo_mono {a b : Rect} {n : Nat} (ha : ∀ k, k < n → -1000 ≤ a.low.getD k default ∧ a.low.getD k default ≤ a.high.getD k default ∧ a.high.getD k default ≤ 1000) (hb : ∀ k, k < n → b.low.getD k default ≤ a.low.getD k default ∧ a.high.getD k default ≤ b.high.getD k default) : ∀ k, k ≤ n → prodTo a k ≤ prodTo b k
  | 0, _ => Int.le_refl _
  | k + 1, hk => by
    have ih := prodTo_mono ha hb k (by omega)
    have p1 := (prodTo_in ha k (by omega)).1
    have e1 := ha k (by omega)
    have e2 := hb k (by omega)
    simp only [prodTo]
    exact Int.mul_le_mul ih (by omega) (by omega) (by omega)
theorem area_in {r : Rect} {d : Int} (h : rf r d = 0) : area r = prodTo r r.low.length ∧ 0 ≤ area r ∧ area r ≤ 8000000000 := by
  have h3 := rf_three h
  have e := areaTo_prod h3 (fun k hk => rf_at h k hk) _ (Nat.le_refl _)
  have p := prodTo_in (fun k hk => rf_at h k hk) _ (Nat.le_refl r.low.length)
  have q := p2000_le h3
  unfold area
  rw [e]
  exact ⟨rfl, p.1, by omega⟩
theorem area_mono {a b : Rect} (h : two a b = 0) (hc : covers a b = true) : area b ≤ area a := by
  have f := two_fit h
  obtain ⟨h1, h2⟩ := two_iff.1 h
  rw [(area_in h1).1, (area_in h2).1, f.l.h2]
  exact prodTo_mono f.b1 (fun k hk => covers_iff.1 hc k hk) _ (Nat.le_refl _)
theorem growth_in {a b : Rect} (h : two a b = 0) : 0 ≤ growth a b ∧ growth a b ≤ 8000000000 ∧ growth a b = area (un a b) - area a := by
  obtain ⟨u1, u2⟩ := two_un_left h
  have m := area_mono u1 u2
  obtain ⟨h1, h2⟩ := two_iff.1 h
  have e1 := area_in h1
  have e2 := area_in (rf_un h)
  have e : growth a b = area (un a b) - area a := i64_in _ (by omega)
  omega
def ovP (a b : Rect) : Nat → Int
  | 0 => 1
  | k + 1 => ovP a b k * ovAt a b k
theorem ovAt_in {a b : Rect} (f : Fit a b) {k : Nat} (hk : k < a.low.length) : 0 ≤ ovAt a b k ∧ ovAt a b k ≤ a.high.getD k default - a.low.getD k default ∧ ovAt a b k ≤ b.high.getD k default - b.low.getD k default ∧ ovAt b a k = ovAt a b k := by
  have e1 := f.a1 k hk
  have e2 := f.b1 k hk
  unfold ovAt
  omega
theorem ovP_in {a b : Rect} (f : Fit a b) : ∀ k, k ≤ a.low.length → 0 ≤ ovP a b k ∧ ovP a b k ≤ prodTo a k ∧ ovP a b k ≤ prodTo b k ∧ ovP b a k = ovP a b k ∧ ovTo a b k = ovP a b k
  | 0, _ => by simp [ovP, prodTo]
  | k + 1, hk => by
    obtain ⟨h1, h2, h3, h4, h5⟩ := ovP_in f k (by omega)
    obtain ⟨e1, e2, e3, e4⟩ := ovAt_in f (k := k) (by omega)
    have a1 := prodTo_in f.a1 k (by omega)
    have b1 := prodTo_in f.b1 k (by omega)
    have a2 := prodTo_in f.a1 (k + 1) hk
    have q := p2000_le (k := k + 1) (by have := f.n; omega)
    have g1 : ovP a b (k + 1) ≤ prodTo a (k + 1) := by simp only [ovP, prodTo]; exact Int.mul_le_mul h2 e2 e1 (by omega)
    have g2 : ovP a b (k + 1) ≤ prodTo b (k + 1) := by simp only [ovP, prodTo]; exact Int.mul_le_mul h3 e3 e1 (by omega)
    have g0 : 0 ≤ ovP a b (k + 1) := by simp only [ovP]; exact Int.mul_nonneg h1 e1
    refine ⟨g0, g1, g2, by simp only [ovP]; rw [h4, e4], ?_⟩
    show IntKind.i64.wrap (ovTo a b k * ovAt a b k) = ovP a b (k + 1)
    rw [h5]
    have : ovP a b k * ovAt a b k = ovP a b (k + 1) := rfl
    rw [this]
    exact i64_in _ (by omega)
theorem overlap_in {a b : Rect} (h : two a b = 0) : 0 ≤ overlap a b ∧ overlap a b ≤ area a ∧ overlap a b ≤ area b ∧ overlap b a = overlap a b := by
  have f := two_fit h
  have f' := two_fit (two_symm h)
  obtain ⟨h1, h2⟩ := two_iff.1 h
  obtain ⟨e1, e2, e3, e4, e5⟩ := ovP_in f _ (Nat.le_refl _)
  have e6 := (ovP_in f' _ (Nat.le_refl _)).2.2.2.2
  unfold overlap
  rw [(area_in h1).1, (area_in h2).1, e5, e6, f.l.h2, e4]
  exact ⟨e1, e2, e3, rfl⟩
theorem marginTo_mono {a b : Rect} {n : Nat} (hn : n ≤ 3) (ha : ∀ k, k < n → -1000 ≤ a.low.getD k default ∧ a.low.getD k default ≤ a.high.getD k default ∧ a.high.getD k default ≤ 1000) (hb : ∀ k, k < n → -1000 ≤ b.low.getD k default ∧ b.low.getD k default ≤ a.low.getD k default ∧ a.high.getD k default ≤ b.high.getD k default ∧ b.high.getD k default ≤ 1000) : ∀ k, k ≤ n → 0 ≤ marginTo a k ∧ marginTo a k ≤ marginTo b k ∧ marginTo b k ≤ 2000 * k
  | 0, _ => by simp
  | k + 1, hk => by
    obtain ⟨h1, h2, h3⟩ := marginTo_mono hn ha hb k (by omega)
    have e1 := ha k (by omega)
    have e2 := hb k (by omega)
    have w1 : marginTo a (k + 1) = marginTo a k + (a.high.getD k default - a.low.getD k default) := by
      show IntKind.i64.wrap _ = _
      exact wr_small (by omega)
    have w2 : marginTo b (k + 1) = marginTo b k + (b.high.getD k default - b.low.getD k default) := by
      show IntKind.i64.wrap _ = _
      exact wr_small (by omega)
    rw [w1, w2]
    omega
theorem margin_mono {a b : Rect} (h : two a b = 0) (hc : covers a b = true) : margin b ≤ margin a := by
  have f := two_fit h
  unfold margin
  rw [f.l.h2]
  exact (marginTo_mono f.n f.b1 (fun k hk => by have := f.a1 k hk; have := covers_iff.1 hc k hk; omega) _ (Nat.le_refl _)).2.1
end Go.Proofs.Ytegohioalgikjaa.W
