/- Contracts of functions that FnSorts reaches: what each returns; it writes to nothing of old. No condition but those that each theorem states. -/
import Derived.Test.YtegohioalgikjaaQa1
open Go Go.Vm Go.Proofs Go.IntWalk Go.RowKit
set_option maxRecDepth 100000
set_option maxHeartbeats 4000000
set_option linter.unusedSimpArgs false
set_option linter.unusedVariables false
set_option linter.unusedSectionVars false
namespace Go.Proofs.Ytegohioalgikjaa.W
attribute [local irreducible] kJ ev evx vops vstep vgo vgd vget vcall vcallFn vcallA vcallB vts vres vcond vbin
theorem eqInts_self (ns : List Int) : eqInts ns ns = true := by
  induction ns with
  | nil => rfl
  | cons n ns ih => simp [eqInts, ih]
section
variable {c : Cx} {i : Nat} {dst : Option Nat} {rest : List Oper} {acc : List (List Nat × List Nat)} {st : St} {P : Program} {t : Nat} {x y : T}
theorem vbin_ne (ns : List Int) (hP : c.E.fr.P = P) (ht : intsTy P t ns.length = true) (hx : x = .agg (ns.map fun n => .c (.int .i64 n))) (hy : y = .agg (ns.map fun n => .c (.int .i64 n)))
    (h : vops c (i + 1) rest (([], keysE ⟨.c (.bool false), [], []⟩) :: acc) (app st dst ⟨.c (.bool false), [], []⟩)) : vbin c i dst rest acc st .neq t x y := vbin_of ns ns false hP ht hx hy rfl (by rw [eqInts_self]; rfl) h
theorem vbin_eq (ns : List Int) (hP : c.E.fr.P = P) (ht : intsTy P t ns.length = true) (hx : x = .agg (ns.map fun n => .c (.int .i64 n))) (hy : y = .agg (ns.map fun n => .c (.int .i64 n)))
    (h : vops c (i + 1) rest (([], keysE ⟨.c (.bool true), [], []⟩) :: acc) (app st dst ⟨.c (.bool true), [], []⟩)) : vbin c i dst rest acc st .eql t x y := vbin_of ns ns true hP ht hx hy rfl (by rw [eqInts_self]; rfl) h
end
/-- How many numbers an entry takes. -/
def lw (d : Nat) (leaf : Bool) : Int := if leaf then 6 * d + 1 else 6 * d + 2
def entV (c : List Int) (p : Int) (d : Nat) (leaf : Bool) : Entry := ⟨rectV c p d, nx c (p + 6 * d) 30, if leaf then 0 else nx c (p + 6 * d + 1) 9⟩
def listV (c : List Int) (a : Int) (d : Nat) (leaf : Bool) : Nat → List Entry
  | 0 => []
  | k + 1 => if findRef (listV c a d leaf k) (entV c (a + lw d leaf * k) d leaf).ref < 0 then listV c a d leaf k ++ [entV c (a + lw d leaf * k) d leaf] else listV c a d leaf k
theorem listV_len (c : List Int) (a : Int) (d : Nat) (leaf : Bool) : ∀ k, (listV c a d leaf k).length ≤ k
  | 0 => Nat.le_refl 0
  | k + 1 => by
    have := listV_len c a d leaf k
    simp only [listV]
    split
    · simp; omega
    · omega
theorem s_l3ListT (c : List Int) (a : Int) (d n : Nat) (hc : codeOk c) (h0 : 0 ≤ a) (h1 : a ≤ 1072000000) (hd0 : 0 < d) (hd : d ≤ 100) (hn : n ≤ 100) : SatG Try.prog 67 false [.ptr 1 0, iT d, iT n, .c (.bool true)] [(1, bSrc c a)] (.ref 2) [(1, bSrc c (a + (6 * d + 1) * n)), (2, .arr true 41 4 ((listV c a d true n).map oEntry))] := by
  refine satG_walk (fn := Try.f67) rfl rfl rfl (Nat.le_of_ble_eq_true rfl) (by simp) fun fr hP hN hdp hb1 hb2 => ?_
  have hE : (envOf fr Try.prog).Ok := envOf_ok hP
  have hM := follows_of hP
  have hS : ∀ {draw ops}, statB Try.f67.ntmps draw ops = true → statB (envOf fr Try.prog).fr.N draw ops = true := fun h => by rw [envOf_fr, hN]; exact h
  repeat' (first
    | exact True.intro
    | refine ev_seq ?_
    | ((first | refine vgd_go ?_ | refine ev_region hE hM (hS (by decide +kernel)) ?_ | refine ev_if ?_ | refine end_ret hE rfl rfl ?_ | refine end_norm hE rfl rfl ?_ | refine endG_ret [] hE rfl ?_ | refine endG_norm [] hE rfl ?_ | refine vcall_A ?_); simp (maxSteps := 2000000) only [go_sem, hP, ↓reduceIte, Nat.reduceAdd, Nat.reduceMul, Nat.reduceEqDiff, Nat.reduceSub, Nat.reduceLeDiff, reduceCtorEq])
    | refine ev_skip ?_ | refine ev_block ?_ | refine ev_blk ?_ | refine ev_ret ?_ | refine ev_exit ?_ | refine evx_code_ret ?_ | refine evx_blk_ret ?_ | refine evx_lp_ret ?_
    | refine evx_code_exit ?_ | refine evx_lp_exit ?_ | refine evx_blk_hit ?_ | refine evx_blk_pass (by decide) ?_
    | refine And.intro ?_ ?_ | intro _ | decide +kernel | omega)
  refine ev_loop (ι := Nat) (fun k => [(0, .ptr 1 0), (1, iT d), (2, iT ((n - k : Nat) : Int)), (3, .c (.bool true)), (9, .ref 100000)]) (fun k => [(1, bSrc c (a + (6 * d + 1) * k)), (100000, .arr true 41 4 ((listV c a d true k).map oEntry))]) (fun _ => [(0, .ref 1)]) (fun k => k ≤ n) (fun k => n - k) 0 [(100000, some 4096)] (by omega) (by simp only [go_sem, hP, ↓reduceIte, Nat.reduceAdd, Nat.reduceMul, Nat.reduceEqDiff, Nat.reduceSub, Nat.reduceLeDiff, reduceCtorEq]; simp [listV]) ?_
  intro k hk
  have hl := listV_len c a d true k
  have hp : (6 * (d : Int) + 1) * k ≤ 601 * 100 := Int.mul_le_mul (by omega) (by omega) (by omega) (by omega)
  have hp0 : 0 ≤ (6 * (d : Int) + 1) * k := Int.mul_nonneg (by omega) (by omega)
  have hnx : a + (6 * (d : Int) + 1) * k + 6 * d + 1 = a + (6 * d + 1) * (k + 1) := by rw [Int.mul_add]; omega
  have hlw : lw d true = 6 * d + 1 := rfl
  by_cases hlt : k < n
  · have hw1 : IntKind.i64.wrap (((n - k : Nat) : Int) - 1) = ((n - (k + 1) : Nat) : Int) := by rw [i64_in _ (by omega)]; omega
    have hg : decide ((0 : Int) < ((n - k : Nat) : Int)) = true := by simp; omega
    generalize hpp : a + (6 * (d : Int) + 1) * k = p at *
    have he : entV c (a + lw d true * k) d true = ⟨rectV c p d, nx c (p + 6 * d) 30, 0⟩ := by rw [hlw, hpp]; rfl
    by_cases hf : findRef (listV c a d true k) (nx c (p + 6 * d) 30) < 0
    · have hf' : decide (findRef (listV c a d true k) (nx c (p + 6 * d) 30) < 0) = true := by simpa using hf
      have hst : listV c a d true (k + 1) = listV c a d true k ++ [⟨rectV c p d, nx c (p + 6 * d) 30, 0⟩] := by simp only [listV]; rw [he, if_pos hf]
      generalize listV c a d true k = ys at *
      repeat' (first
        | exact True.intro
        | refine ev_seq ?_
        | ((first | refine vgd_go ?_ | refine ev_region hE hM (hS (by decide +kernel)) ?_ | refine ev_if ?_ | refine end_ret hE rfl rfl ?_ | refine end_norm hE rfl rfl ?_ | refine endG_ret [] hE rfl ?_ | refine endG_norm [] hE rfl ?_ | refine vcallG_at (args := [.ptr 1 0, iT d]) 1 [] rfl hP (s_l1RectR c p d hc (by omega) (by omega) hd0 hd) ?_ | refine vcallG_at (args := [.ptr 1 0, iT 30]) 1 [] rfl hP (s_l1Next c _ 30 hc (by omega) (by omega) (by omega) (by omega)) ?_ | refine vcallB_of hP (s_l3Find ys (nx c (p + 6 * d) 30)) ?_ | refine vcall_A ?_); simp (maxSteps := 2000000) only [go_sem, hP, ↓reduceIte, Nat.reduceAdd, Nat.reduceMul, Nat.reduceEqDiff, Nat.reduceSub, Nat.reduceLeDiff, reduceCtorEq, hg, hf', Bool.and_self, List.length_map])
        | refine ev_skip ?_ | refine ev_block ?_ | refine ev_blk ?_ | refine ev_ret ?_ | refine ev_exit ?_ | refine evx_code_ret ?_ | refine evx_blk_ret ?_ | refine evx_lp_ret ?_
        | refine evx_code_exit ?_ | refine evx_lp_exit ?_ | refine evx_blk_hit ?_ | refine evx_blk_pass (by decide) ?_
        | refine And.intro ?_ ?_ | intro _ | decide +kernel | omega)
      all_goals first
        | exact ev_lp (k + 1) [(100000, some 32792)] (by omega) (by omega) (by simp only [go_sem, hP, ↓reduceIte, Nat.reduceAdd, Nat.reduceMul, Nat.reduceEqDiff, Nat.reduceSub, Nat.reduceLeDiff, reduceCtorEq]; rw [hst]; simp [hw1, hnx, oEntry_eq, rectV])
        | (exfalso; omega)
        | omega
        | (simp_all; done)
    · have hf' : decide (findRef (listV c a d true k) (nx c (p + 6 * d) 30) < 0) = false := by simpa using hf
      have hst : listV c a d true (k + 1) = listV c a d true k := by simp only [listV]; rw [he, if_neg hf]
      generalize listV c a d true k = ys at *
      repeat' (first
        | exact True.intro
        | refine ev_seq ?_
        | ((first | refine vgd_go ?_ | refine ev_region hE hM (hS (by decide +kernel)) ?_ | refine ev_if ?_ | refine end_ret hE rfl rfl ?_ | refine end_norm hE rfl rfl ?_ | refine endG_ret [] hE rfl ?_ | refine endG_norm [] hE rfl ?_ | refine vcallG_at (args := [.ptr 1 0, iT d]) 1 [] rfl hP (s_l1RectR c p d hc (by omega) (by omega) hd0 hd) ?_ | refine vcallG_at (args := [.ptr 1 0, iT 30]) 1 [] rfl hP (s_l1Next c _ 30 hc (by omega) (by omega) (by omega) (by omega)) ?_ | refine vcallB_of hP (s_l3Find ys (nx c (p + 6 * d) 30)) ?_ | refine vcall_A ?_); simp (maxSteps := 2000000) only [go_sem, hP, ↓reduceIte, Nat.reduceAdd, Nat.reduceMul, Nat.reduceEqDiff, Nat.reduceSub, Nat.reduceLeDiff, reduceCtorEq, hg, hf', Bool.and_self, List.length_map])
        | refine ev_skip ?_ | refine ev_block ?_ | refine ev_blk ?_ | refine ev_ret ?_ | refine ev_exit ?_ | refine evx_code_ret ?_ | refine evx_blk_ret ?_ | refine evx_lp_ret ?_
        | refine evx_code_exit ?_ | refine evx_lp_exit ?_ | refine evx_blk_hit ?_ | refine evx_blk_pass (by decide) ?_
        | refine And.intro ?_ ?_ | intro _ | decide +kernel | omega)
      all_goals first
        | exact ev_lp (k + 1) [(100000, some 100000)] (by omega) (by omega) (by simp only [go_sem, hP, ↓reduceIte, Nat.reduceAdd, Nat.reduceMul, Nat.reduceEqDiff, Nat.reduceSub, Nat.reduceLeDiff, reduceCtorEq]; rw [hst]; simp [hw1, hnx])
        | (exfalso; omega)
        | omega
        | (simp_all; done)
  · have hke : k = n := by omega
    subst hke
    have hg : decide ((0 : Int) < ((k - k : Nat) : Int)) = false := by simp
    repeat' (first
      | exact True.intro
      | refine ev_seq ?_
      | ((first | refine endG_ret [(2, some 100000)] hE rfl ?_ | refine vgd_go ?_ | refine ev_region hE hM (hS (by decide +kernel)) ?_ | refine ev_if ?_ | refine end_ret hE rfl rfl ?_ | refine end_norm hE rfl rfl ?_ | refine endG_ret [] hE rfl ?_ | refine endG_norm [] hE rfl ?_ | refine vcall_A ?_); simp (maxSteps := 2000000) only [go_sem, hP, ↓reduceIte, Nat.reduceAdd, Nat.reduceMul, Nat.reduceEqDiff, Nat.reduceSub, Nat.reduceLeDiff, reduceCtorEq, hg])
      | refine ev_skip ?_ | refine ev_block ?_ | refine ev_blk ?_ | refine ev_ret ?_ | refine ev_exit ?_ | refine evx_code_ret ?_ | refine evx_blk_ret ?_ | refine evx_lp_ret ?_
      | refine evx_code_exit ?_ | refine evx_lp_exit ?_ | refine evx_blk_hit ?_ | refine evx_blk_pass (by decide) ?_
      | refine And.intro ?_ ?_ | intro _ | decide +kernel | omega)
    all_goals first
      | (exfalso; omega)
      | (simp_all; done)
theorem s_l3ListF (c : List Int) (a : Int) (d n : Nat) (hc : codeOk c) (h0 : 0 ≤ a) (h1 : a ≤ 1072000000) (hd0 : 0 < d) (hd : d ≤ 100) (hn : n ≤ 100) : SatG Try.prog 67 false [.ptr 1 0, iT d, iT n, .c (.bool false)] [(1, bSrc c a)] (.ref 2) [(1, bSrc c (a + (6 * d + 2) * n)), (2, .arr true 41 4 ((listV c a d false n).map oEntry))] := by
  refine satG_walk (fn := Try.f67) rfl rfl rfl (Nat.le_of_ble_eq_true rfl) (by simp) fun fr hP hN hdp hb1 hb2 => ?_
  have hE : (envOf fr Try.prog).Ok := envOf_ok hP
  have hM := follows_of hP
  have hS : ∀ {draw ops}, statB Try.f67.ntmps draw ops = true → statB (envOf fr Try.prog).fr.N draw ops = true := fun h => by rw [envOf_fr, hN]; exact h
  repeat' (first
    | exact True.intro
    | refine ev_seq ?_
    | ((first | refine vgd_go ?_ | refine ev_region hE hM (hS (by decide +kernel)) ?_ | refine ev_if ?_ | refine end_ret hE rfl rfl ?_ | refine end_norm hE rfl rfl ?_ | refine endG_ret [] hE rfl ?_ | refine endG_norm [] hE rfl ?_ | refine vcall_A ?_); simp (maxSteps := 2000000) only [go_sem, hP, ↓reduceIte, Nat.reduceAdd, Nat.reduceMul, Nat.reduceEqDiff, Nat.reduceSub, Nat.reduceLeDiff, reduceCtorEq])
    | refine ev_skip ?_ | refine ev_block ?_ | refine ev_blk ?_ | refine ev_ret ?_ | refine ev_exit ?_ | refine evx_code_ret ?_ | refine evx_blk_ret ?_ | refine evx_lp_ret ?_
    | refine evx_code_exit ?_ | refine evx_lp_exit ?_ | refine evx_blk_hit ?_ | refine evx_blk_pass (by decide) ?_
    | refine And.intro ?_ ?_ | intro _ | decide +kernel | omega)
  refine ev_loop (ι := Nat) (fun k => [(0, .ptr 1 0), (1, iT d), (2, iT ((n - k : Nat) : Int)), (3, .c (.bool false)), (9, .ref 100000)]) (fun k => [(1, bSrc c (a + (6 * d + 2) * k)), (100000, .arr true 41 4 ((listV c a d false k).map oEntry))]) (fun _ => [(0, .ref 1)]) (fun k => k ≤ n) (fun k => n - k) 0 [(100000, some 4096)] (by omega) (by simp only [go_sem, hP, ↓reduceIte, Nat.reduceAdd, Nat.reduceMul, Nat.reduceEqDiff, Nat.reduceSub, Nat.reduceLeDiff, reduceCtorEq]; simp [listV]) ?_
  intro k hk
  have hl := listV_len c a d false k
  have hp : (6 * (d : Int) + 2) * k ≤ 602 * 100 := Int.mul_le_mul (by omega) (by omega) (by omega) (by omega)
  have hp0 : 0 ≤ (6 * (d : Int) + 2) * k := Int.mul_nonneg (by omega) (by omega)
  have hnx : a + (6 * (d : Int) + 2) * k + 6 * d + 1 + 1 = a + (6 * d + 2) * (k + 1) := by rw [Int.mul_add]; omega
  have hlw : lw d false = 6 * d + 2 := rfl
  by_cases hlt : k < n
  · have hw1 : IntKind.i64.wrap (((n - k : Nat) : Int) - 1) = ((n - (k + 1) : Nat) : Int) := by rw [i64_in _ (by omega)]; omega
    have hg : decide ((0 : Int) < ((n - k : Nat) : Int)) = true := by simp; omega
    generalize hpp : a + (6 * (d : Int) + 2) * k = p at *
    have he : entV c (a + lw d false * k) d false = ⟨rectV c p d, nx c (p + 6 * d) 30, nx c (p + 6 * d + 1) 9⟩ := by rw [hlw, hpp]; rfl
    by_cases hf : findRef (listV c a d false k) (nx c (p + 6 * d) 30) < 0
    · have hf' : decide (findRef (listV c a d false k) (nx c (p + 6 * d) 30) < 0) = true := by simpa using hf
      have hst : listV c a d false (k + 1) = listV c a d false k ++ [⟨rectV c p d, nx c (p + 6 * d) 30, nx c (p + 6 * d + 1) 9⟩] := by simp only [listV]; rw [he, if_pos hf]
      generalize listV c a d false k = ys at *
      repeat' (first
        | exact True.intro
        | refine ev_seq ?_
        | ((first | refine vgd_go ?_ | refine ev_region hE hM (hS (by decide +kernel)) ?_ | refine ev_if ?_ | refine end_ret hE rfl rfl ?_ | refine end_norm hE rfl rfl ?_ | refine endG_ret [] hE rfl ?_ | refine endG_norm [] hE rfl ?_ | refine vcallG_at (args := [.ptr 1 0, iT d]) 1 [] rfl hP (s_l1RectR c p d hc (by omega) (by omega) hd0 hd) ?_ | refine vcallG_at (args := [.ptr 1 0, iT 30]) 1 [] rfl hP (s_l1Next c _ 30 hc (by omega) (by omega) (by omega) (by omega)) ?_ | refine vcallG_at (args := [.ptr 1 0, iT 9]) 1 [] rfl hP (s_l1Next c _ 9 hc (by omega) (by omega) (by omega) (by omega)) ?_ | refine vcallB_of hP (s_l3Find ys (nx c (p + 6 * d) 30)) ?_ | refine vcall_A ?_); simp (maxSteps := 2000000) only [go_sem, hP, ↓reduceIte, Nat.reduceAdd, Nat.reduceMul, Nat.reduceEqDiff, Nat.reduceSub, Nat.reduceLeDiff, reduceCtorEq, hg, hf', Bool.and_self, List.length_map])
        | refine ev_skip ?_ | refine ev_block ?_ | refine ev_blk ?_ | refine ev_ret ?_ | refine ev_exit ?_ | refine evx_code_ret ?_ | refine evx_blk_ret ?_ | refine evx_lp_ret ?_
        | refine evx_code_exit ?_ | refine evx_lp_exit ?_ | refine evx_blk_hit ?_ | refine evx_blk_pass (by decide) ?_
        | refine And.intro ?_ ?_ | intro _ | decide +kernel | omega)
      all_goals first
        | exact ev_lp (k + 1) [(100000, some 32792)] (by omega) (by omega) (by simp only [go_sem, hP, ↓reduceIte, Nat.reduceAdd, Nat.reduceMul, Nat.reduceEqDiff, Nat.reduceSub, Nat.reduceLeDiff, reduceCtorEq]; rw [hst]; simp [hw1, hnx, oEntry_eq, rectV])
        | (exfalso; omega)
        | omega
        | (simp_all; done)
    · have hf' : decide (findRef (listV c a d false k) (nx c (p + 6 * d) 30) < 0) = false := by simpa using hf
      have hst : listV c a d false (k + 1) = listV c a d false k := by simp only [listV]; rw [he, if_neg hf]
      generalize listV c a d false k = ys at *
      repeat' (first
        | exact True.intro
        | refine ev_seq ?_
        | ((first | refine vgd_go ?_ | refine ev_region hE hM (hS (by decide +kernel)) ?_ | refine ev_if ?_ | refine end_ret hE rfl rfl ?_ | refine end_norm hE rfl rfl ?_ | refine endG_ret [] hE rfl ?_ | refine endG_norm [] hE rfl ?_ | refine vcallG_at (args := [.ptr 1 0, iT d]) 1 [] rfl hP (s_l1RectR c p d hc (by omega) (by omega) hd0 hd) ?_ | refine vcallG_at (args := [.ptr 1 0, iT 30]) 1 [] rfl hP (s_l1Next c _ 30 hc (by omega) (by omega) (by omega) (by omega)) ?_ | refine vcallG_at (args := [.ptr 1 0, iT 9]) 1 [] rfl hP (s_l1Next c _ 9 hc (by omega) (by omega) (by omega) (by omega)) ?_ | refine vcallB_of hP (s_l3Find ys (nx c (p + 6 * d) 30)) ?_ | refine vcall_A ?_); simp (maxSteps := 2000000) only [go_sem, hP, ↓reduceIte, Nat.reduceAdd, Nat.reduceMul, Nat.reduceEqDiff, Nat.reduceSub, Nat.reduceLeDiff, reduceCtorEq, hg, hf', Bool.and_self, List.length_map])
        | refine ev_skip ?_ | refine ev_block ?_ | refine ev_blk ?_ | refine ev_ret ?_ | refine ev_exit ?_ | refine evx_code_ret ?_ | refine evx_blk_ret ?_ | refine evx_lp_ret ?_
        | refine evx_code_exit ?_ | refine evx_lp_exit ?_ | refine evx_blk_hit ?_ | refine evx_blk_pass (by decide) ?_
        | refine And.intro ?_ ?_ | intro _ | decide +kernel | omega)
      all_goals first
        | exact ev_lp (k + 1) [(100000, some 100000)] (by omega) (by omega) (by simp only [go_sem, hP, ↓reduceIte, Nat.reduceAdd, Nat.reduceMul, Nat.reduceEqDiff, Nat.reduceSub, Nat.reduceLeDiff, reduceCtorEq]; rw [hst]; simp [hw1, hnx])
        | (exfalso; omega)
        | omega
        | (simp_all; done)
  · have hke : k = n := by omega
    subst hke
    have hg : decide ((0 : Int) < ((k - k : Nat) : Int)) = false := by simp
    repeat' (first
      | exact True.intro
      | refine ev_seq ?_
      | ((first | refine endG_ret [(2, some 100000)] hE rfl ?_ | refine vgd_go ?_ | refine ev_region hE hM (hS (by decide +kernel)) ?_ | refine ev_if ?_ | refine end_ret hE rfl rfl ?_ | refine end_norm hE rfl rfl ?_ | refine endG_ret [] hE rfl ?_ | refine endG_norm [] hE rfl ?_ | refine vcall_A ?_); simp (maxSteps := 2000000) only [go_sem, hP, ↓reduceIte, Nat.reduceAdd, Nat.reduceMul, Nat.reduceEqDiff, Nat.reduceSub, Nat.reduceLeDiff, reduceCtorEq, hg])
      | refine ev_skip ?_ | refine ev_block ?_ | refine ev_blk ?_ | refine ev_ret ?_ | refine ev_exit ?_ | refine evx_code_ret ?_ | refine evx_blk_ret ?_ | refine evx_lp_ret ?_
      | refine evx_code_exit ?_ | refine evx_lp_exit ?_ | refine evx_blk_hit ?_ | refine evx_blk_pass (by decide) ?_
      | refine And.intro ?_ ?_ | intro _ | decide +kernel | omega)
    all_goals first
      | (exfalso; omega)
      | (simp_all; done)
theorem s_l3List (c : List Int) (a : Int) (d n : Nat) (leaf : Bool) (hc : codeOk c) (h0 : 0 ≤ a) (h1 : a ≤ 1072000000) (hd0 : 0 < d) (hd : d ≤ 100) (hn : n ≤ 100) : SatG Try.prog 67 false [.ptr 1 0, iT d, iT n, .c (.bool leaf)] [(1, bSrc c a)] (.ref 2) [(1, bSrc c (a + lw d leaf * n)), (2, .arr true 41 4 ((listV c a d leaf n).map oEntry))] := by
  cases leaf with
  | true => exact s_l3ListT c a d n hc h0 h1 hd0 hd hn
  | false => exact s_l3ListF c a d n hc h0 h1 hd0 hd hn
theorem lw_in (d n : Nat) (leaf : Bool) (hd : d ≤ 100) (hn : n ≤ 100) : 0 ≤ lw d leaf * n ∧ lw d leaf * n ≤ 60200 := by
  have h1 : 0 ≤ lw d leaf ∧ lw d leaf ≤ 602 := by unfold lw; split <;> omega
  have h2 : lw d leaf * n ≤ 602 * 100 := Int.mul_le_mul h1.2 (by omega) (by omega) (by omega)
  exact ⟨Int.mul_nonneg h1.1 (by omega), by omega⟩
def dnL (c : List Int) (a : Int) : Int := pk c a [0, 0, 1, 2]
def dnC (c : List Int) (a : Int) : Nat := (pk c (a + 3) [0, 1, 2, 3, 4, 5]).toNat
theorem dnC_in (c : List Int) (a : Int) : pk c (a + 3) [0, 1, 2, 3, 4, 5] = (dnC c a : Int) ∧ dnC c a ≤ 5 := by
  have h := pk_mem (c := c) (a := a + 3) (xs := [0, 1, 2, 3, 4, 5]) (by simp)
  simp only [List.mem_cons, List.not_mem_nil, or_false] at h
  unfold dnC; omega
def dnE (c : List Int) (a : Int) (d : Nat) : List Entry := listV c (a + 4) d (dnL c a == 0) (dnC c a)
def dnA (c : List Int) (a : Int) (d : Nat) : Int := a + 4 + lw d (dnL c a == 0) * dnC c a
theorem dnA_in (c : List Int) (a : Int) (d : Nat) (hd : d ≤ 100) : a ≤ dnA c a d ∧ dnA c a d ≤ a + 60300 := by
  have h1 := (dnC_in c a).2
  have := lw_in d (dnC c a) (dnL c a == 0) hd (by omega)
  unfold dnA; omega
theorem dnE_len (c : List Int) (a : Int) (d : Nat) : (dnE c a d).length ≤ 5 := Nat.le_trans (listV_len _ _ _ _ _) (dnC_in c a).2
/-- A node that may be wrong, the number of its dimensions, and where the code is read on. -/
structure BN where
  n : Node
  d : Int
  p : Int
def b3d (c : List Int) (a : Int) : Nat := (pk c a [2, 2, 3]).toNat
theorem b3d_in (c : List Int) (a : Int) : pk c a [2, 2, 3] = (b3d c a : Int) ∧ (b3d c a = 2 ∨ b3d c a = 3) := by
  have := dims_in c a
  unfold b3d; omega
def b3n (c : List Int) (a : Int) : Node := ⟨dnL c (a + 1), nx c (a + 2) 9, pk c (a + 3) [-1, -1, 3], dnE c (a + 1) (b3d c a)⟩
def b3q (c : List Int) (a : Int) : Int := dnA c (a + 1) (b3d c a) + 1
def b3v (c : List Int) (a : Int) : Int := nx c (dnA c (a + 1) (b3d c a)) 20
theorem b3q_in (c : List Int) (a : Int) : a ≤ b3q c a ∧ b3q c a ≤ a + 60400 := by
  have h1 := (b3d_in c a).2
  have := dnA_in c (a + 1) (b3d c a) (by omega)
  unfold b3q; omega
def bn (c : List Int) (a : Int) : BN :=
  if b3v c a = 0 then ⟨{ b3n c a with level := pk c (b3q c a) [-1, 6, 7] }, b3d c a, b3q c a + 1⟩
  else if b3v c a = 1 then ⟨{ b3n c a with nsn := pk c (b3q c a) [-1, 100000, 100001] }, b3d c a, b3q c a + 1⟩
  else if b3v c a = 2 then ⟨{ b3n c a with right := pk c (b3q c a) [-2, 39, 40] }, b3d c a, b3q c a + 1⟩
  else if b3v c a = 3 then ⟨{ b3n c a with entries := listV c (b3q c a) (b3d c a) true 9 }, b3d c a, b3q c a + lw (b3d c a) true * 9⟩
  else if b3v c a = 4 then ⟨{ b3n c a with entries := (b3n c a).entries ++ [(⟨bentV c (b3q c a) (b3d c a), pk c (bentA c (b3q c a) (b3d c a)) [50, -1, 1000], pk c (bentA c (b3q c a) (b3d c a) + 1) [0, 1]⟩ : Entry)] }, b3d c a, bentA c (b3q c a) (b3d c a) + 2⟩
  else if b3v c a = 5 then ⟨{ b3n c a with entries := if (b3n c a).entries.length = 0 then [] else (b3n c a).entries ++ [(b3n c a).entries.getD 0 default] }, b3d c a, b3q c a⟩
  else if b3v c a = 6 then ⟨b3n c a, pk c (b3q c a) [1, 2, 3, 4], b3q c a + 1⟩
  else ⟨b3n c a, b3d c a, b3q c a⟩
/-- Entries that may be wrong, the number of their dimensions, and where the code is read on. -/
structure BL where
  l : List Entry
  d : Int
  p : Int
def b5c (c : List Int) (a : Int) : Nat := (pk c (a + 1) [5, 5, 6, 8, 4, 3, 0]).toNat
theorem b5c_in (c : List Int) (a : Int) : pk c (a + 1) [5, 5, 6, 8, 4, 3, 0] = (b5c c a : Int) ∧ b5c c a ≤ 8 := by
  have h := pk_mem (c := c) (a := a + 1) (xs := [5, 5, 6, 8, 4, 3, 0]) (by simp)
  simp only [List.mem_cons, List.not_mem_nil, or_false] at h
  unfold b5c; omega
def b5f (c : List Int) (a : Int) : Bool := nx c (a + 2) 2 == 0
def b5e (c : List Int) (a : Int) : List Entry := listV c (a + 3) (b3d c a) (b5f c a) (b5c c a)
theorem b5e_len (c : List Int) (a : Int) : (b5e c a).length ≤ 8 := Nat.le_trans (listV_len _ _ _ _ _) (b5c_in c a).2
def b5p (c : List Int) (a : Int) : Int := a + 3 + lw (b3d c a) (b5f c a) * b5c c a
def b5v (c : List Int) (a : Int) : Int := nx c (b5p c a) 18
theorem b5p_in (c : List Int) (a : Int) : a ≤ b5p c a ∧ b5p c a ≤ a + 60300 := by
  have h1 := (b5c_in c a).2
  have h2 := (b3d_in c a).2
  have := lw_in (b3d c a) (b5c c a) (b5f c a) (by omega) (by omega)
  unfold b5p; omega
def sixV (c : List Int) (q : Int) (d k : Nat) : List Entry := (List.range k).map fun (i : Nat) => ⟨rectV c (q + 6 * d * i) d, 100 + i, 0⟩
def bl (c : List Int) (a : Int) : BL :=
  if b5v c a = 0 then ⟨b5e c a ++ [⟨bentV c (b5p c a + 1) (b3d c a), pk c (bentA c (b5p c a + 1) (b3d c a)) [40, 1000, -1], 0⟩], b3d c a, bentA c (b5p c a + 1) (b3d c a) + 1⟩
  else if b5v c a = 1 then ⟨if (b5e c a).length = 0 then [] else b5e c a ++ [(b5e c a).getD 0 default], b3d c a, b5p c a + 1⟩
  else if b5v c a = 2 then ⟨b5e c a ++ sixV c (b5p c a + 1) (b3d c a) 6, b3d c a, b5p c a + 1 + 6 * b3d c a * 6⟩
  else if b5v c a = 3 then ⟨b5e c a, pk c (b5p c a + 1) [1, 2, 3, 4], b5p c a + 2⟩
  else ⟨b5e c a, b3d c a, b5p c a + 1⟩
theorem bl_p (c : List Int) (a : Int) : a ≤ (bl c a).p ∧ (bl c a).p ≤ a + 61000 := by
  have h1 := b5p_in c a
  have h2 := (b3d_in c a).2
  have h3 := bentA_in c (b5p c a + 1) (b3d c a)
  unfold bl
  (repeat' split) <;> simp only <;> omega
theorem s_l5Bent0 (c : List Int) (a : Int) (hc : codeOk c) (h0 : 0 ≤ a) (h1 : a ≤ 1070000000) (hv : b5v c a = 0) : SatG Try.prog 26 false [.ptr 1 0] [(1, bSrc c a)] (.tup [.c (sEntryS (bl c a).l), iT (bl c a).d]) [(1, bSrc c (bl c a).p)] := by
  have ev : bl c a = ⟨b5e c a ++ [(⟨bentV c (b5p c a + 1) (b3d c a), pk c (bentA c (b5p c a + 1) (b3d c a)) [40, 1000, -1], 0⟩ : Entry)], (b3d c a : Int), bentA c (b5p c a + 1) (b3d c a) + 1⟩ := by unfold bl; simp [hv]
  rw [ev]
  have h : SatG Try.prog 26 false [.ptr 1 0] [(1, bSrc c a)] (.tup [.ref 2, iT ((b3d c a : Int))]) ((1, bSrc c (bentA c (b5p c a + 1) (b3d c a) + 1)) :: [(2, .fro 4 ((b5e c a ++ [(⟨bentV c (b5p c a + 1) (b3d c a), pk c (bentA c (b5p c a + 1) (b3d c a)) [40, 1000, -1], 0⟩ : Entry)]).map eEntry))]) := by
    refine satG_walk (fn := Try.f26) rfl rfl rfl (Nat.le_of_ble_eq_true rfl) (by simp) fun fr hP hN hdp hb1 hb2 => ?_
    have hE : (envOf fr Try.prog).Ok := envOf_ok hP
    have hM := follows_of hP
    have hS : ∀ {draw ops}, statB Try.f26.ntmps draw ops = true → statB (envOf fr Try.prog).fr.N draw ops = true := fun h => by rw [envOf_fr, hN]; exact h
    obtain ⟨d1, d2⟩ := b3d_in c a
    obtain ⟨n1, n2⟩ := b5c_in c a
    have q := b5p_in c a
    have le := b5e_len c a
    have t0 : Int.toNat 0 = 0 := rfl
    have k1 := s_l1Dims c a hc (by omega) (by omega)
    rw [d1] at k1
    have k2 := s_l1Pick c (a + 1) [5, 5, 6, 8, 4, 3, 0] hc (by omega) (by omega) (by simp) (by simp)
    rw [n1, show a + 1 + 1 = a + 2 by omega] at k2
    have k3 := s_l1Chance c (a + 2) 2 hc (by omega) (by omega) (by omega) (by omega)
    rw [show (nx c (a + 2) 2 == 0) = b5f c a from rfl, show a + 2 + 1 = a + 3 by omega] at k3
    have k4 := s_l3List c (a + 3) (b3d c a) (b5c c a) (b5f c a) hc (by omega) (by omega) (by omega) (by omega) (by omega)
    rw [show listV c (a + 3) (b3d c a) (b5f c a) (b5c c a) = b5e c a from rfl, show a + 3 + lw (b3d c a) (b5f c a) * (b5c c a : Int) = b5p c a from rfl] at k4
    have k5 := s_l1Next c (b5p c a) 18 hc (by omega) (by omega) (by omega) (by omega)
    rw [show nx c (b5p c a) 18 = b5v c a from rfl] at k5
    have qb := bentA_in c (b5p c a + 1) (b3d c a)
    have k6 := s_l1Bent c (b5p c a + 1) (b3d c a) hc (by omega) (by omega) (by omega) (by omega)
    have k7 := s_l1Pick c (bentA c (b5p c a + 1) (b3d c a)) [40, 1000, -1] hc (by omega) (by omega) (by simp) (by simp)
    repeat' (first
      | exact True.intro
      | refine ev_seq ?_
      | ((first | refine endG_ret [(2, some 20552)] hE rfl ?_ | refine vgd_go ?_ | refine ev_region hE hM (hS (by decide +kernel)) ?_ | refine ev_if ?_ | refine end_ret hE rfl rfl ?_ | refine end_norm hE rfl rfl ?_ | refine endG_ret [] hE rfl ?_ | refine endG_norm [] hE rfl ?_ | refine vcallG_at (args := [.ptr 1 0]) 1 [] rfl hP (k1) ?_ | refine vcallG_at (args := [.ptr 1 0, .ref 8216]) 1 [8216] rfl hP (k2) ?_ | refine vcallG_at (args := [.ptr 1 0, iT 2]) 1 [] rfl hP (k3) ?_ | refine vcallG_at (args := [.ptr 1 0, iT (b3d c a), iT (b5c c a), .c (.bool (b5f c a))]) 1 [] rfl hP (k4) ?_ | refine vcallG_at (args := [.ptr 1 0, iT 18]) 1 [] rfl hP (k5) ?_ | refine vcallG_at (args := [.ptr 1 0, iT (b3d c a)]) 1 [] rfl hP (k6) ?_ | refine vcallG_at (args := [.ptr 1 0, .ref 20520]) 1 [20520] rfl hP (k7) ?_ | refine vcall_A ?_); simp (maxSteps := 2000000) only [go_sem, hP, ↓reduceIte, Nat.reduceAdd, Nat.reduceMul, Nat.reduceEqDiff, Nat.reduceSub, Nat.reduceLeDiff, reduceCtorEq, List.length_map, Bool.and_self, Int.reduceBEq, hv, strip_oEntry, eEntry_eq, t0, Cs.strip, C.strip])
      | refine ev_skip ?_ | refine ev_block ?_ | refine ev_blk ?_ | refine ev_ret ?_ | refine ev_exit ?_ | refine evx_code_ret ?_ | refine evx_blk_ret ?_ | refine evx_lp_ret ?_
      | refine evx_code_exit ?_ | refine evx_lp_exit ?_ | refine evx_blk_hit ?_ | refine evx_blk_pass (by decide) ?_
      | refine And.intro ?_ ?_ | intro _ | decide +kernel | omega)
    all_goals first
      | rfl
      | (exfalso; omega)
      | omega
      | (rename_i h; exact h.symm)
      | (simp [strip_oEntry]; done)
      | (simp [eEntry_eq]; done)
      | (simp_all; done)
      | trace_state
  exact satG_data (fz := [(2, .fro 4 ((b5e c a ++ [(⟨bentV c (b5p c a + 1) (b3d c a), pk c (bentA c (b5p c a + 1) (b3d c a)) [40, 1000, -1], 0⟩ : Entry)]).map eEntry))]) (fun κ h => by simp only [lk] at h; split at h <;> simp_all) trivial rfl h
theorem s_l5Bent1 (c : List Int) (a : Int) (hc : codeOk c) (h0 : 0 ≤ a) (h1 : a ≤ 1070000000) (hv : b5v c a = 1) (he : (b5e c a).length ≠ 0) : SatG Try.prog 26 false [.ptr 1 0] [(1, bSrc c a)] (.tup [.c (sEntryS (bl c a).l), iT (bl c a).d]) [(1, bSrc c (bl c a).p)] := by
  have ev : bl c a = ⟨b5e c a ++ [(b5e c a).getD 0 default], (b3d c a : Int), b5p c a + 1⟩ := by unfold bl; simp [hv, he]
  rw [ev]
  have h : SatG Try.prog 26 false [.ptr 1 0] [(1, bSrc c a)] (.tup [.ref 2, iT ((b3d c a : Int))]) ((1, bSrc c (b5p c a + 1)) :: [(2, .fro 4 ((b5e c a ++ [(b5e c a).getD 0 default]).map eEntry))]) := by
    refine satG_walk (fn := Try.f26) rfl rfl rfl (Nat.le_of_ble_eq_true rfl) (by simp) fun fr hP hN hdp hb1 hb2 => ?_
    have hE : (envOf fr Try.prog).Ok := envOf_ok hP
    have hM := follows_of hP
    have hS : ∀ {draw ops}, statB Try.f26.ntmps draw ops = true → statB (envOf fr Try.prog).fr.N draw ops = true := fun h => by rw [envOf_fr, hN]; exact h
    obtain ⟨d1, d2⟩ := b3d_in c a
    obtain ⟨n1, n2⟩ := b5c_in c a
    have q := b5p_in c a
    have le := b5e_len c a
    have t0 : Int.toNat 0 = 0 := rfl
    have k1 := s_l1Dims c a hc (by omega) (by omega)
    rw [d1] at k1
    have k2 := s_l1Pick c (a + 1) [5, 5, 6, 8, 4, 3, 0] hc (by omega) (by omega) (by simp) (by simp)
    rw [n1, show a + 1 + 1 = a + 2 by omega] at k2
    have k3 := s_l1Chance c (a + 2) 2 hc (by omega) (by omega) (by omega) (by omega)
    rw [show (nx c (a + 2) 2 == 0) = b5f c a from rfl, show a + 2 + 1 = a + 3 by omega] at k3
    have k4 := s_l3List c (a + 3) (b3d c a) (b5c c a) (b5f c a) hc (by omega) (by omega) (by omega) (by omega) (by omega)
    rw [show listV c (a + 3) (b3d c a) (b5f c a) (b5c c a) = b5e c a from rfl, show a + 3 + lw (b3d c a) (b5f c a) * (b5c c a : Int) = b5p c a from rfl] at k4
    have k5 := s_l1Next c (b5p c a) 18 hc (by omega) (by omega) (by omega) (by omega)
    rw [show nx c (b5p c a) 18 = b5v c a from rfl] at k5
    have he' : decide ((0 : Int) < ((b5e c a).length : Int)) = true := by simp only [decide_eq_true_eq]; omega
    repeat' (first
      | exact True.intro
      | refine ev_seq ?_
      | ((first | refine endG_ret [(2, some 32808)] hE rfl ?_ | refine vgd_go ?_ | refine ev_region hE hM (hS (by decide +kernel)) ?_ | refine ev_if ?_ | refine end_ret hE rfl rfl ?_ | refine end_norm hE rfl rfl ?_ | refine endG_ret [] hE rfl ?_ | refine endG_norm [] hE rfl ?_ | refine vcallG_at (args := [.ptr 1 0]) 1 [] rfl hP (k1) ?_ | refine vcallG_at (args := [.ptr 1 0, .ref 8216]) 1 [8216] rfl hP (k2) ?_ | refine vcallG_at (args := [.ptr 1 0, iT 2]) 1 [] rfl hP (k3) ?_ | refine vcallG_at (args := [.ptr 1 0, iT (b3d c a), iT (b5c c a), .c (.bool (b5f c a))]) 1 [] rfl hP (k4) ?_ | refine vcallG_at (args := [.ptr 1 0, iT 18]) 1 [] rfl hP (k5) ?_ | refine vcall_A ?_); simp (maxSteps := 2000000) only [go_sem, hP, ↓reduceIte, Nat.reduceAdd, Nat.reduceMul, Nat.reduceEqDiff, Nat.reduceSub, Nat.reduceLeDiff, reduceCtorEq, List.length_map, Bool.and_self, Int.reduceBEq, hv, he', strip_oEntry, eEntry_eq, t0, Cs.strip, C.strip])
      | refine ev_skip ?_ | refine ev_block ?_ | refine ev_blk ?_ | refine ev_ret ?_ | refine ev_exit ?_ | refine evx_code_ret ?_ | refine evx_blk_ret ?_ | refine evx_lp_ret ?_
      | refine evx_code_exit ?_ | refine evx_lp_exit ?_ | refine evx_blk_hit ?_ | refine evx_blk_pass (by decide) ?_
      | refine And.intro ?_ ?_ | intro _ | decide +kernel | omega)
    all_goals first
      | rfl
      | (exfalso; omega)
      | omega
      | (rename_i h; exact h.symm)
      | (simp [strip_oEntry]; done)
      | (simp [eEntry_eq]; done)
      | (simp_all; done)
      | trace_state
  exact satG_data (fz := [(2, .fro 4 ((b5e c a ++ [(b5e c a).getD 0 default]).map eEntry))]) (fun κ h => by simp only [lk] at h; split at h <;> simp_all) trivial rfl h
theorem s_l5Bent1n (c : List Int) (a : Int) (hc : codeOk c) (h0 : 0 ≤ a) (h1 : a ≤ 1070000000) (hv : b5v c a = 1) (he : (b5e c a).length = 0) : SatG Try.prog 26 false [.ptr 1 0] [(1, bSrc c a)] (.tup [.c (sEntryS (bl c a).l), iT (bl c a).d]) [(1, bSrc c (bl c a).p)] := by
  have ev : bl c a = ⟨[], (b3d c a : Int), b5p c a + 1⟩ := by unfold bl; simp [hv, he]
  rw [ev]
  have h : SatG Try.prog 26 false [.ptr 1 0] [(1, bSrc c a)] (.tup [.ref 2, iT ((b3d c a : Int))]) ((1, bSrc c (b5p c a + 1)) :: [(2, .fro 4 (([]).map eEntry))]) := by
    refine satG_walk (fn := Try.f26) rfl rfl rfl (Nat.le_of_ble_eq_true rfl) (by simp) fun fr hP hN hdp hb1 hb2 => ?_
    have hE : (envOf fr Try.prog).Ok := envOf_ok hP
    have hM := follows_of hP
    have hS : ∀ {draw ops}, statB Try.f26.ntmps draw ops = true → statB (envOf fr Try.prog).fr.N draw ops = true := fun h => by rw [envOf_fr, hN]; exact h
    obtain ⟨d1, d2⟩ := b3d_in c a
    obtain ⟨n1, n2⟩ := b5c_in c a
    have q := b5p_in c a
    have le := b5e_len c a
    have t0 : Int.toNat 0 = 0 := rfl
    have k1 := s_l1Dims c a hc (by omega) (by omega)
    rw [d1] at k1
    have k2 := s_l1Pick c (a + 1) [5, 5, 6, 8, 4, 3, 0] hc (by omega) (by omega) (by simp) (by simp)
    rw [n1, show a + 1 + 1 = a + 2 by omega] at k2
    have k3 := s_l1Chance c (a + 2) 2 hc (by omega) (by omega) (by omega) (by omega)
    rw [show (nx c (a + 2) 2 == 0) = b5f c a from rfl, show a + 2 + 1 = a + 3 by omega] at k3
    have k4 := s_l3List c (a + 3) (b3d c a) (b5c c a) (b5f c a) hc (by omega) (by omega) (by omega) (by omega) (by omega)
    rw [show listV c (a + 3) (b3d c a) (b5f c a) (b5c c a) = b5e c a from rfl, show a + 3 + lw (b3d c a) (b5f c a) * (b5c c a : Int) = b5p c a from rfl] at k4
    have k5 := s_l1Next c (b5p c a) 18 hc (by omega) (by omega) (by omega) (by omega)
    rw [show nx c (b5p c a) 18 = b5v c a from rfl] at k5
    have he' : decide ((0 : Int) < ((b5e c a).length : Int)) = false := by simp only [decide_eq_false_iff_not]; omega
    have e0 := List.eq_nil_of_length_eq_zero he
    rw [e0] at k4
    rw [e0] at he'
    repeat' (first
      | exact True.intro
      | refine ev_seq ?_
      | ((first | refine endG_ret [(2, some 2105400)] hE rfl ?_ | refine vgd_go ?_ | refine ev_region hE hM (hS (by decide +kernel)) ?_ | refine ev_if ?_ | refine end_ret hE rfl rfl ?_ | refine end_norm hE rfl rfl ?_ | refine endG_ret [] hE rfl ?_ | refine endG_norm [] hE rfl ?_ | refine vcallG_at (args := [.ptr 1 0]) 1 [] rfl hP (k1) ?_ | refine vcallG_at (args := [.ptr 1 0, .ref 8216]) 1 [8216] rfl hP (k2) ?_ | refine vcallG_at (args := [.ptr 1 0, iT 2]) 1 [] rfl hP (k3) ?_ | refine vcallG_at (args := [.ptr 1 0, iT (b3d c a), iT (b5c c a), .c (.bool (b5f c a))]) 1 [] rfl hP (k4) ?_ | refine vcallG_at (args := [.ptr 1 0, iT 18]) 1 [] rfl hP (k5) ?_ | refine vcall_A ?_); simp (maxSteps := 2000000) only [go_sem, hP, ↓reduceIte, Nat.reduceAdd, Nat.reduceMul, Nat.reduceEqDiff, Nat.reduceSub, Nat.reduceLeDiff, reduceCtorEq, List.length_map, Bool.and_self, Int.reduceBEq, hv, he'])
      | refine ev_skip ?_ | refine ev_block ?_ | refine ev_blk ?_ | refine ev_ret ?_ | refine ev_exit ?_ | refine evx_code_ret ?_ | refine evx_blk_ret ?_ | refine evx_lp_ret ?_
      | refine evx_code_exit ?_ | refine evx_lp_exit ?_ | refine evx_blk_hit ?_ | refine evx_blk_pass (by decide) ?_
      | refine And.intro ?_ ?_ | intro _ | decide +kernel | omega)
    all_goals first
      | rfl
      | (exfalso; omega)
      | omega
      | (rename_i h; exact h.symm)
      | (simp [strip_oEntry]; done)
      | (simp [eEntry_eq]; done)
      | (simp_all; done)
      | trace_state
  exact satG_data (fz := [(2, .fro 4 (([]).map eEntry))]) (fun κ h => by simp only [lk] at h; split at h <;> simp_all) trivial rfl h
theorem s_l5Bent2 (c : List Int) (a : Int) (hc : codeOk c) (h0 : 0 ≤ a) (h1 : a ≤ 1070000000) (hv : b5v c a = 2) : SatG Try.prog 26 false [.ptr 1 0] [(1, bSrc c a)] (.tup [.c (sEntryS (bl c a).l), iT (bl c a).d]) [(1, bSrc c (bl c a).p)] := by
  have ev : bl c a = ⟨b5e c a ++ sixV c (b5p c a + 1) (b3d c a) 6, (b3d c a : Int), b5p c a + 1 + 6 * b3d c a * 6⟩ := by unfold bl; simp [hv]
  rw [ev]
  have h : SatG Try.prog 26 false [.ptr 1 0] [(1, bSrc c a)] (.tup [.ref 2, iT ((b3d c a : Int))]) ((1, bSrc c (b5p c a + 1 + 6 * b3d c a * 6)) :: [(2, .fro 4 ((b5e c a ++ sixV c (b5p c a + 1) (b3d c a) 6).map eEntry))]) := by
    refine satG_walk (fn := Try.f26) rfl rfl rfl (Nat.le_of_ble_eq_true rfl) (by simp) fun fr hP hN hdp hb1 hb2 => ?_
    have hE : (envOf fr Try.prog).Ok := envOf_ok hP
    have hM := follows_of hP
    have hS : ∀ {draw ops}, statB Try.f26.ntmps draw ops = true → statB (envOf fr Try.prog).fr.N draw ops = true := fun h => by rw [envOf_fr, hN]; exact h
    obtain ⟨d1, d2⟩ := b3d_in c a
    obtain ⟨n1, n2⟩ := b5c_in c a
    have q := b5p_in c a
    have le := b5e_len c a
    have t0 : Int.toNat 0 = 0 := rfl
    have k1 := s_l1Dims c a hc (by omega) (by omega)
    rw [d1] at k1
    have k2 := s_l1Pick c (a + 1) [5, 5, 6, 8, 4, 3, 0] hc (by omega) (by omega) (by simp) (by simp)
    rw [n1, show a + 1 + 1 = a + 2 by omega] at k2
    have k3 := s_l1Chance c (a + 2) 2 hc (by omega) (by omega) (by omega) (by omega)
    rw [show (nx c (a + 2) 2 == 0) = b5f c a from rfl, show a + 2 + 1 = a + 3 by omega] at k3
    have k4 := s_l3List c (a + 3) (b3d c a) (b5c c a) (b5f c a) hc (by omega) (by omega) (by omega) (by omega) (by omega)
    rw [show listV c (a + 3) (b3d c a) (b5f c a) (b5c c a) = b5e c a from rfl, show a + 3 + lw (b3d c a) (b5f c a) * (b5c c a : Int) = b5p c a from rfl] at k4
    have k5 := s_l1Next c (b5p c a) 18 hc (by omega) (by omega) (by omega) (by omega)
    rw [show nx c (b5p c a) 18 = b5v c a from rfl] at k5
    repeat' (first
      | exact True.intro
      | refine ev_seq ?_
      | ((first | refine vgd_go ?_ | refine ev_region hE hM (hS (by decide +kernel)) ?_ | refine ev_if ?_ | refine end_ret hE rfl rfl ?_ | refine end_norm hE rfl rfl ?_ | refine endG_ret [] hE rfl ?_ | refine endG_norm [] hE rfl ?_ | refine vcallG_at (args := [.ptr 1 0]) 1 [] rfl hP (k1) ?_ | refine vcallG_at (args := [.ptr 1 0, .ref 8216]) 1 [8216] rfl hP (k2) ?_ | refine vcallG_at (args := [.ptr 1 0, iT 2]) 1 [] rfl hP (k3) ?_ | refine vcallG_at (args := [.ptr 1 0, iT (b3d c a), iT (b5c c a), .c (.bool (b5f c a))]) 1 [] rfl hP (k4) ?_ | refine vcallG_at (args := [.ptr 1 0, iT 18]) 1 [] rfl hP (k5) ?_ | refine vcall_A ?_); simp (maxSteps := 2000000) only [go_sem, hP, ↓reduceIte, Nat.reduceAdd, Nat.reduceMul, Nat.reduceEqDiff, Nat.reduceSub, Nat.reduceLeDiff, reduceCtorEq, List.length_map, Bool.and_self, Int.reduceBEq, hv])
      | refine ev_skip ?_ | refine ev_block ?_ | refine ev_blk ?_ | refine ev_ret ?_ | refine ev_exit ?_ | refine evx_code_ret ?_ | refine evx_blk_ret ?_ | refine evx_lp_ret ?_
      | refine evx_code_exit ?_ | refine evx_lp_exit ?_ | refine evx_blk_hit ?_ | refine evx_blk_pass (by decide) ?_
      | refine And.intro ?_ ?_ | intro _ | decide +kernel | omega)
    any_goals (show _ = Es.strip _; rfl)
    refine ev_loop (ι := Nat) (fun k => [(0, .ptr 1 0), (4, iT (b3d c a)), (5, .ref 100000), (6, iT k)]) (fun k => [(1, bSrc c (b5p c a + 1 + 6 * b3d c a * k)), (100000, .arr true 41 4 ((b5e c a ++ sixV c (b5p c a + 1) (b3d c a) k).map oEntry))]) (fun _ => [(0, .ref 1)]) (fun k => k ≤ 6) (fun k => 6 - k) 0 [(100000, some 2105400)] (by omega) (by simp only [go_sem, hP, ↓reduceIte, Nat.reduceAdd, Nat.reduceMul, Nat.reduceEqDiff, Nat.reduceSub, Nat.reduceLeDiff, reduceCtorEq]; simp [sixV]) ?_
    intro k hk
    have hlen : (b5e c a ++ sixV c (b5p c a + 1) (b3d c a) k).length ≤ 14 := by simp [sixV]; omega
    have hlt6 : 6 * (b3d c a : Int) * k ≤ 18 * 6 := Int.mul_le_mul (by omega) (by omega) (by omega) (by omega)
    have hge6 : 0 ≤ 6 * (b3d c a : Int) * k := Int.mul_nonneg (by omega) (by omega)
    have hn : b5p c a + 1 + 6 * (b3d c a : Int) * k + 6 * b3d c a = b5p c a + 1 + 6 * b3d c a * (k + 1) := by rw [Int.mul_add]; omega
    by_cases hlt : k < 6
    · have hw1 : IntKind.i64.wrap ((k : Int) + 1) = k + 1 := i64_in _ (by omega)
      have hw2 : IntKind.i64.wrap (100 + (k : Int)) = 100 + k := i64_in _ (by omega)
      have hg : decide ((k : Int) < 6) = true := by simp only [decide_eq_true_eq]; omega
      have hs : sixV c (b5p c a + 1) (b3d c a) (k + 1) = sixV c (b5p c a + 1) (b3d c a) k ++ [⟨rectV c (b5p c a + 1 + 6 * b3d c a * k) (b3d c a), 100 + k, 0⟩] := by simp [sixV, List.range_succ]
      repeat' (first
        | exact True.intro
        | refine ev_seq ?_
        | ((first | refine vgd_go ?_ | refine ev_region hE hM (hS (by decide +kernel)) ?_ | refine ev_if ?_ | refine end_ret hE rfl rfl ?_ | refine end_norm hE rfl rfl ?_ | refine endG_ret [] hE rfl ?_ | refine endG_norm [] hE rfl ?_ | refine vcallG_at (args := [.ptr 1 0, iT (b3d c a)]) 1 [] rfl hP (s_l1RectR c (b5p c a + 1 + 6 * b3d c a * k) (b3d c a) hc (by omega) (by omega) (by omega) (by omega)) ?_ | refine vcall_A ?_); simp (maxSteps := 2000000) only [go_sem, hP, ↓reduceIte, Nat.reduceAdd, Nat.reduceMul, Nat.reduceEqDiff, Nat.reduceSub, Nat.reduceLeDiff, reduceCtorEq, hg, hw1, hw2, List.length_map, Bool.and_self])
        | refine ev_skip ?_ | refine ev_block ?_ | refine ev_blk ?_ | refine ev_ret ?_ | refine ev_exit ?_ | refine evx_code_ret ?_ | refine evx_blk_ret ?_ | refine evx_lp_ret ?_
        | refine evx_code_exit ?_ | refine evx_lp_exit ?_ | refine evx_blk_hit ?_ | refine evx_blk_pass (by decide) ?_
        | refine And.intro ?_ ?_ | intro _ | decide +kernel | omega)
      all_goals first
        | exact ev_lp (k + 1) [(100000, some 53312)] (by omega) (by omega) (by simp only [go_sem, hP, ↓reduceIte, Nat.reduceAdd, Nat.reduceMul, Nat.reduceEqDiff, Nat.reduceSub, Nat.reduceLeDiff, reduceCtorEq]; rw [hs]; simp [hn, oEntry_eq, rectV])
        | (exfalso; omega)
        | omega
        | (simp_all; done)
        | trace_state
    · have hke : k = 6 := by omega
      subst hke
      have hg : decide (((6 : Nat) : Int) < 6) = false := rfl
      repeat' (first
        | exact True.intro
        | refine ev_seq ?_
        | ((first | refine endG_ret [(2, some 100000)] hE rfl ?_ | refine vgd_go ?_ | refine ev_region hE hM (hS (by decide +kernel)) ?_ | refine ev_if ?_ | refine end_ret hE rfl rfl ?_ | refine end_norm hE rfl rfl ?_ | refine endG_ret [] hE rfl ?_ | refine endG_norm [] hE rfl ?_ | refine vcall_A ?_); simp (maxSteps := 2000000) only [go_sem, hP, ↓reduceIte, Nat.reduceAdd, Nat.reduceMul, Nat.reduceEqDiff, Nat.reduceSub, Nat.reduceLeDiff, reduceCtorEq, hg])
        | refine ev_skip ?_ | refine ev_block ?_ | refine ev_blk ?_ | refine ev_ret ?_ | refine ev_exit ?_ | refine evx_code_ret ?_ | refine evx_blk_ret ?_ | refine evx_lp_ret ?_
        | refine evx_code_exit ?_ | refine evx_lp_exit ?_ | refine evx_blk_hit ?_ | refine evx_blk_pass (by decide) ?_
        | refine And.intro ?_ ?_ | intro _ | decide +kernel | omega)
      all_goals first
        | rfl
        | (exfalso; omega)
        | (simp_all; done)
        | trace_state
  exact satG_data (fz := [(2, .fro 4 ((b5e c a ++ sixV c (b5p c a + 1) (b3d c a) 6).map eEntry))]) (fun κ h => by simp only [lk] at h; split at h <;> simp_all) trivial rfl h
theorem s_l5Bent3 (c : List Int) (a : Int) (hc : codeOk c) (h0 : 0 ≤ a) (h1 : a ≤ 1070000000) (hv : b5v c a = 3) : SatG Try.prog 26 false [.ptr 1 0] [(1, bSrc c a)] (.tup [.c (sEntryS (bl c a).l), iT (bl c a).d]) [(1, bSrc c (bl c a).p)] := by
  have ev : bl c a = ⟨b5e c a, pk c (b5p c a + 1) [1, 2, 3, 4], b5p c a + 2⟩ := by unfold bl; simp [hv]
  rw [ev]
  have h : SatG Try.prog 26 false [.ptr 1 0] [(1, bSrc c a)] (.tup [.ref 2, iT (pk c (b5p c a + 1) [1, 2, 3, 4])]) ((1, bSrc c (b5p c a + 2)) :: [(2, .fro 4 ((b5e c a).map eEntry))]) := by
    refine satG_walk (fn := Try.f26) rfl rfl rfl (Nat.le_of_ble_eq_true rfl) (by simp) fun fr hP hN hdp hb1 hb2 => ?_
    have hE : (envOf fr Try.prog).Ok := envOf_ok hP
    have hM := follows_of hP
    have hS : ∀ {draw ops}, statB Try.f26.ntmps draw ops = true → statB (envOf fr Try.prog).fr.N draw ops = true := fun h => by rw [envOf_fr, hN]; exact h
    obtain ⟨d1, d2⟩ := b3d_in c a
    obtain ⟨n1, n2⟩ := b5c_in c a
    have q := b5p_in c a
    have le := b5e_len c a
    have t0 : Int.toNat 0 = 0 := rfl
    have k1 := s_l1Dims c a hc (by omega) (by omega)
    rw [d1] at k1
    have k2 := s_l1Pick c (a + 1) [5, 5, 6, 8, 4, 3, 0] hc (by omega) (by omega) (by simp) (by simp)
    rw [n1, show a + 1 + 1 = a + 2 by omega] at k2
    have k3 := s_l1Chance c (a + 2) 2 hc (by omega) (by omega) (by omega) (by omega)
    rw [show (nx c (a + 2) 2 == 0) = b5f c a from rfl, show a + 2 + 1 = a + 3 by omega] at k3
    have k4 := s_l3List c (a + 3) (b3d c a) (b5c c a) (b5f c a) hc (by omega) (by omega) (by omega) (by omega) (by omega)
    rw [show listV c (a + 3) (b3d c a) (b5f c a) (b5c c a) = b5e c a from rfl, show a + 3 + lw (b3d c a) (b5f c a) * (b5c c a : Int) = b5p c a from rfl] at k4
    have k5 := s_l1Next c (b5p c a) 18 hc (by omega) (by omega) (by omega) (by omega)
    rw [show nx c (b5p c a) 18 = b5v c a from rfl] at k5
    have k6 := s_l1Pick c (b5p c a + 1) [1, 2, 3, 4] hc (by omega) (by omega) (by simp) (by simp)
    rw [show b5p c a + 1 + 1 = b5p c a + 2 by omega] at k6
    repeat' (first
      | exact True.intro
      | refine ev_seq ?_
      | ((first | refine endG_ret [(2, some 2105400)] hE rfl ?_ | refine vgd_go ?_ | refine ev_region hE hM (hS (by decide +kernel)) ?_ | refine ev_if ?_ | refine end_ret hE rfl rfl ?_ | refine end_norm hE rfl rfl ?_ | refine endG_ret [] hE rfl ?_ | refine endG_norm [] hE rfl ?_ | refine vcallG_at (args := [.ptr 1 0]) 1 [] rfl hP (k1) ?_ | refine vcallG_at (args := [.ptr 1 0, .ref 8216]) 1 [8216] rfl hP (k2) ?_ | refine vcallG_at (args := [.ptr 1 0, iT 2]) 1 [] rfl hP (k3) ?_ | refine vcallG_at (args := [.ptr 1 0, iT (b3d c a), iT (b5c c a), .c (.bool (b5f c a))]) 1 [] rfl hP (k4) ?_ | refine vcallG_at (args := [.ptr 1 0, iT 18]) 1 [] rfl hP (k5) ?_ | refine vcallG_at (args := [.ptr 1 0, .ref 61448]) 1 [61448] rfl hP (k6) ?_ | refine vcall_A ?_); simp (maxSteps := 2000000) only [go_sem, hP, ↓reduceIte, Nat.reduceAdd, Nat.reduceMul, Nat.reduceEqDiff, Nat.reduceSub, Nat.reduceLeDiff, reduceCtorEq, List.length_map, Bool.and_self, Int.reduceBEq, hv])
      | refine ev_skip ?_ | refine ev_block ?_ | refine ev_blk ?_ | refine ev_ret ?_ | refine ev_exit ?_ | refine evx_code_ret ?_ | refine evx_blk_ret ?_ | refine evx_lp_ret ?_
      | refine evx_code_exit ?_ | refine evx_lp_exit ?_ | refine evx_blk_hit ?_ | refine evx_blk_pass (by decide) ?_
      | refine And.intro ?_ ?_ | intro _ | decide +kernel | omega)
    all_goals first
      | rfl
      | (exfalso; omega)
      | omega
      | (rename_i h; exact h.symm)
      | (simp [strip_oEntry]; done)
      | (simp [eEntry_eq]; done)
      | (simp_all; done)
      | trace_state
  exact satG_data (fz := [(2, .fro 4 ((b5e c a).map eEntry))]) (fun κ h => by simp only [lk] at h; split at h <;> simp_all) trivial rfl h
theorem s_l5Bent4 (c : List Int) (a : Int) (hc : codeOk c) (h0 : 0 ≤ a) (h1 : a ≤ 1070000000) (g0 : b5v c a ≠ 0) (g1 : b5v c a ≠ 1) (g2 : b5v c a ≠ 2) (g3 : b5v c a ≠ 3) : SatG Try.prog 26 false [.ptr 1 0] [(1, bSrc c a)] (.tup [.c (sEntryS (bl c a).l), iT (bl c a).d]) [(1, bSrc c (bl c a).p)] := by
  have ev : bl c a = ⟨b5e c a, (b3d c a : Int), b5p c a + 1⟩ := by unfold bl; simp [g0, g1, g2, g3]
  rw [ev]
  have h : SatG Try.prog 26 false [.ptr 1 0] [(1, bSrc c a)] (.tup [.ref 2, iT ((b3d c a : Int))]) ((1, bSrc c (b5p c a + 1)) :: [(2, .fro 4 ((b5e c a).map eEntry))]) := by
    refine satG_walk (fn := Try.f26) rfl rfl rfl (Nat.le_of_ble_eq_true rfl) (by simp) fun fr hP hN hdp hb1 hb2 => ?_
    have hE : (envOf fr Try.prog).Ok := envOf_ok hP
    have hM := follows_of hP
    have hS : ∀ {draw ops}, statB Try.f26.ntmps draw ops = true → statB (envOf fr Try.prog).fr.N draw ops = true := fun h => by rw [envOf_fr, hN]; exact h
    obtain ⟨d1, d2⟩ := b3d_in c a
    obtain ⟨n1, n2⟩ := b5c_in c a
    have q := b5p_in c a
    have le := b5e_len c a
    have t0 : Int.toNat 0 = 0 := rfl
    have k1 := s_l1Dims c a hc (by omega) (by omega)
    rw [d1] at k1
    have k2 := s_l1Pick c (a + 1) [5, 5, 6, 8, 4, 3, 0] hc (by omega) (by omega) (by simp) (by simp)
    rw [n1, show a + 1 + 1 = a + 2 by omega] at k2
    have k3 := s_l1Chance c (a + 2) 2 hc (by omega) (by omega) (by omega) (by omega)
    rw [show (nx c (a + 2) 2 == 0) = b5f c a from rfl, show a + 2 + 1 = a + 3 by omega] at k3
    have k4 := s_l3List c (a + 3) (b3d c a) (b5c c a) (b5f c a) hc (by omega) (by omega) (by omega) (by omega) (by omega)
    rw [show listV c (a + 3) (b3d c a) (b5f c a) (b5c c a) = b5e c a from rfl, show a + 3 + lw (b3d c a) (b5f c a) * (b5c c a : Int) = b5p c a from rfl] at k4
    have k5 := s_l1Next c (b5p c a) 18 hc (by omega) (by omega) (by omega) (by omega)
    rw [show nx c (b5p c a) 18 = b5v c a from rfl] at k5
    have b0 : (b5v c a == 0) = false := beq_eq_false_iff_ne.2 g0
    have b1 : (b5v c a == 1) = false := beq_eq_false_iff_ne.2 g1
    have b2 : (b5v c a == 2) = false := beq_eq_false_iff_ne.2 g2
    have b3 : (b5v c a == 3) = false := beq_eq_false_iff_ne.2 g3
    repeat' (first
      | exact True.intro
      | refine ev_seq ?_
      | ((first | refine endG_ret [(2, some 2105400)] hE rfl ?_ | refine vgd_go ?_ | refine ev_region hE hM (hS (by decide +kernel)) ?_ | refine ev_if ?_ | refine end_ret hE rfl rfl ?_ | refine end_norm hE rfl rfl ?_ | refine endG_ret [] hE rfl ?_ | refine endG_norm [] hE rfl ?_ | refine vcallG_at (args := [.ptr 1 0]) 1 [] rfl hP (k1) ?_ | refine vcallG_at (args := [.ptr 1 0, .ref 8216]) 1 [8216] rfl hP (k2) ?_ | refine vcallG_at (args := [.ptr 1 0, iT 2]) 1 [] rfl hP (k3) ?_ | refine vcallG_at (args := [.ptr 1 0, iT (b3d c a), iT (b5c c a), .c (.bool (b5f c a))]) 1 [] rfl hP (k4) ?_ | refine vcallG_at (args := [.ptr 1 0, iT 18]) 1 [] rfl hP (k5) ?_ | refine vcall_A ?_); simp (maxSteps := 2000000) only [go_sem, hP, ↓reduceIte, Nat.reduceAdd, Nat.reduceMul, Nat.reduceEqDiff, Nat.reduceSub, Nat.reduceLeDiff, reduceCtorEq, List.length_map, Bool.and_self, Int.reduceBEq, b0, b1, b2, b3])
      | refine ev_skip ?_ | refine ev_block ?_ | refine ev_blk ?_ | refine ev_ret ?_ | refine ev_exit ?_ | refine evx_code_ret ?_ | refine evx_blk_ret ?_ | refine evx_lp_ret ?_
      | refine evx_code_exit ?_ | refine evx_lp_exit ?_ | refine evx_blk_hit ?_ | refine evx_blk_pass (by decide) ?_
      | refine And.intro ?_ ?_ | intro _ | decide +kernel | omega)
    all_goals first
      | rfl
      | (exfalso; omega)
      | omega
      | (rename_i h; exact h.symm)
      | (simp [strip_oEntry]; done)
      | (simp [eEntry_eq]; done)
      | (simp_all; done)
      | trace_state
  exact satG_data (fz := [(2, .fro 4 ((b5e c a).map eEntry))]) (fun κ h => by simp only [lk] at h; split at h <;> simp_all) trivial rfl h
theorem s_l5Bent (c : List Int) (a : Int) (hc : codeOk c) (h0 : 0 ≤ a) (h1 : a ≤ 1070000000) : SatG Try.prog 26 false [.ptr 1 0] [(1, bSrc c a)] (.tup [.c (sEntryS (bl c a).l), iT (bl c a).d]) [(1, bSrc c (bl c a).p)] := by
  by_cases g0 : b5v c a = 0
  · exact s_l5Bent0 c a hc h0 h1 g0
  by_cases g1 : b5v c a = 1
  · by_cases he : (b5e c a).length = 0
    · exact s_l5Bent1n c a hc h0 h1 g1 he
    · exact s_l5Bent1 c a hc h0 h1 g1 he
  by_cases g2 : b5v c a = 2
  · exact s_l5Bent2 c a hc h0 h1 g2
  by_cases g3 : b5v c a = 3
  · exact s_l5Bent3 c a hc h0 h1 g3
  exact s_l5Bent4 c a hc h0 h1 g0 g1 g2 g3
theorem better_no {xs : List Entry} {r : Rect} {i j : Nat} (h : ¬ better xs r i j = true) : growth (xs.getD j default).rect r ≤ growth (xs.getD i default).rect r := by
  unfold better at h
  simp only [Bool.or_eq_true, Bool.and_eq_true, decide_eq_true_eq] at h
  omega
theorem better_yes {xs : List Entry} {r : Rect} {i j : Nat} (h : better xs r i j = true) : growth (xs.getD i default).rect r ≤ growth (xs.getD j default).rect r := by
  unfold better at h
  simp only [Bool.or_eq_true, Bool.and_eq_true, decide_eq_true_eq] at h
  omega
theorem choose_least (xs : List Entry) (r : Rect) : ∀ k j, j < k → growth (xs.getD (chooseTo xs r k) default).rect r ≤ growth (xs.getD j default).rect r
  | 0, j, h => by omega
  | k + 1, j, h => by
    by_cases hb : better xs r k (chooseTo xs r k) = true
    · rw [chooseTo_yes hb]
      rcases Nat.lt_or_ge j k with hlt | hge
      · exact Int.le_trans (better_yes hb) (choose_least xs r k j hlt)
      · obtain rfl : j = k := by omega
        exact Int.le_refl _
    · rw [chooseTo_no hb]
      rcases Nat.lt_or_ge j k with hlt | hge
      · exact choose_least xs r k j hlt
      · obtain rfl : j = k := by omega
        exact better_no hb
theorem chcode_zero {xs : List Entry} {d : Int} {r : Rect} (h : chcode xs d r = 0) : esf xs d = 0 ∧ rf r d = 0 ∧ 0 < xs.length := by
  unfold chcode at h
  (repeat' split at h) <;> omega
theorem two_of {a b : Rect} {d : Int} (h1 : rf a d = 0) (h2 : rf b d = 0) : two a b = 0 := by
  have := rf_len h1
  exact two_iff.2 ⟨by rw [this.1]; exact h1, by rw [this.1]; exact h2⟩
theorem firstF_all {α : Type} {f : α → Int} : ∀ {xs : List α}, (∀ x ∈ xs, f x = 0) → firstF f xs = 0
  | [], _ => rfl
  | x :: xs, h => by
    unfold firstF
    rw [if_pos (h x (by simp))]
    exact firstF_all fun y hy => h y (by simp [hy])
theorem dupAt_iff {xs : List Entry} {b : Nat} (hb : b < xs.length) : dupAt xs b = true ↔ ∃ a, a < b ∧ (xs.getD a default).ref = (xs.getD b default).ref := by
  unfold dupAt
  rw [List.any_eq_true]
  constructor
  · rintro ⟨x, hx, he⟩
    obtain ⟨a, ha, rfl⟩ := List.mem_iff_getElem.1 hx
    rw [List.length_take] at ha
    refine ⟨a, by omega, ?_⟩
    rw [getD_lt (show a < xs.length by omega)]
    simpa using he
  · rintro ⟨a, ha, he⟩
    have hl : a < (xs.take b).length := by rw [List.length_take]; omega
    refine ⟨(xs.take b)[a], List.getElem_mem hl, ?_⟩
    rw [List.getElem_take, ← getD_lt (show a < xs.length by omega)]
    simpa using he
theorem noDup_iff {xs : List Entry} : noDup xs = true ↔ ∀ a b, a < b → b < xs.length → (xs.getD a default).ref ≠ (xs.getD b default).ref := by
  unfold noDup
  rw [allLt_iff]
  constructor
  · intro h a b hab hb he
    have h1 := h b hb
    have h2 := (dupAt_iff hb).2 ⟨a, hab, he⟩
    rw [h2] at h1; cases h1
  · intro h b hb
    cases hq : dupAt xs b with
    | false => rfl
    | true =>
      obtain ⟨a, hab, he⟩ := (dupAt_iff hb).1 hq
      exact absurd he (h a b hab hb)
theorem noDup_nodup {xs : List Entry} : noDup xs = true ↔ (xs.map (·.ref)).Nodup := by
  rw [noDup_iff, List.nodup_iff_pairwise_ne, List.pairwise_iff_getElem]
  constructor
  · intro h i j hi hj hij
    rw [List.length_map] at hi hj
    have := h i j hij hj
    rw [getD_lt hi, getD_lt hj] at this
    simpa using this
  · intro h a b hab hb
    have := h a b (by rw [List.length_map]; omega) (by rw [List.length_map]; omega) hab
    rw [getD_lt (show a < xs.length by omega), getD_lt hb]
    simpa using this
theorem nf_iff {n : Node} {d : Int} : nf n d = 0 ↔ (inB d 2 3 && inB n.level 0 6 && inB n.nsn 0 100000 && inB n.right (-1) 39) = true ∧ n.entries.length ≤ 5 ∧ (∀ x ∈ n.entries, entryF d x = 0) ∧ (∀ x ∈ n.entries, fits n.level x = true) ∧ noDup n.entries = true := by
  constructor
  · intro h
    unfold nf at h
    split at h
    · omega
    rename_i h1
    split at h
    · omega
    rename_i h2
    split at h
    · rename_i h3; exact absurd h h3
    rename_i h3
    split at h
    · omega
    rename_i h4
    split at h
    · rename_i h5
      exact ⟨by rw [Bool.not_eq_false] at h1; exact h1, by omega, firstF_zero (by simpa using h3), by simpa using h4, h5⟩
    · omega
  · rintro ⟨h1, h2, h3, h4, h5⟩
    unfold nf
    rw [if_neg (by rw [h1]; simp), if_neg (by omega), if_neg (by rw [firstF_all h3]; simp), if_neg (by rw [List.all_eq_true.2 h4]; simp), if_pos h5]
theorem findRef_none {xs : List Entry} {r : Int} : findRef xs r < 0 ↔ ∀ x ∈ xs, x.ref ≠ r := by
  unfold findRef
  split
  · rename_i h
    obtain ⟨x, hx, he⟩ := List.any_eq_true.1 h
    constructor
    · intro h; omega
    · intro h; exact absurd (by simpa using he) (h x hx)
  · rename_i h
    constructor
    · intro _ x hx he
      exact h (List.any_eq_true.2 ⟨x, hx, by simpa using he⟩)
    · intro _; omega
theorem findRef_here {xs : List Entry} {i : Nat} {r : Int} (h : noDup xs = true) (hi : i < xs.length) (hr : (xs.getD i default).ref = r) : findRef xs r = i := by
  subst hr
  rw [findRef_self hi]
  cases hq : dupAt xs i with
  | false => rfl
  | true =>
    obtain ⟨a, ha, he⟩ := (dupAt_iff hi).1 hq
    exact absurd he (noDup_iff.1 h a i ha hi)
theorem weC_zero {n : Node} {d : Int} {e : Entry} (h : weC n d e = 0) : nf n d = 0 ∧ entryF d e = 0 ∧ fits n.level e = true ∧ findRef n.entries e.ref < 0 ∧ n.entries.length ≤ 4 := by
  unfold weC at h
  split at h
  · rename_i h1; exact absurd h h1
  rename_i h1
  split at h
  · rename_i h2; exact absurd h h2
  rename_i h2
  (repeat' split at h) <;> first | omega | skip
  rename_i h3 h4 h5
  exact ⟨by simpa using h1, by simpa using h2, by simpa using h3, by omega, by omega⟩
theorem nf_with {n : Node} {d : Int} {e : Entry} (h : weC n d e = 0) : nf ⟨n.level, n.nsn, n.right, n.entries ++ [e]⟩ d = 0 := by
  obtain ⟨h1, h2, h3, h4, h5⟩ := weC_zero h
  obtain ⟨g1, g2, g3, g4, g5⟩ := nf_iff.1 h1
  refine nf_iff.2 ⟨g1, by simp; omega, fun x hx => ?_, fun x hx => ?_, ?_⟩
  · rcases List.mem_append.1 hx with hx | hx
    · exact g3 x hx
    · rw [List.mem_singleton.1 hx]; exact h2
  · rcases List.mem_append.1 hx with hx | hx
    · exact g4 x hx
    · rw [List.mem_singleton.1 hx]; exact h3
  · rw [noDup_nodup] at g5 ⊢
    simp only [List.map_append, List.map_cons, List.map_nil]
    rw [List.nodup_append]
    refine ⟨g5, by simp, fun a ha b hb => ?_⟩
    obtain ⟨x, hx, rfl⟩ := List.mem_map.1 ha
    simp only [List.mem_cons, List.not_mem_nil, or_false] at hb
    subst hb
    exact findRef_none.1 h4 x hx
theorem without_sub (xs : List Entry) (i : Nat) : (xs.take i ++ xs.drop (i + 1)).Sublist xs := by
  conv => rhs; rw [← List.take_append_drop i xs]
  refine List.Sublist.append (List.Sublist.refl _) ?_
  have : xs.drop (i + 1) = (xs.drop i).drop 1 := by rw [List.drop_drop]
  rw [this]; exact List.drop_sublist _ _
theorem nf_without {n : Node} {d : Int} (i : Nat) (h : nf n d = 0) : nf ⟨n.level, n.nsn, n.right, n.entries.take i ++ n.entries.drop (i + 1)⟩ d = 0 := by
  obtain ⟨g1, g2, g3, g4, g5⟩ := nf_iff.1 h
  have hs := without_sub n.entries i
  exact nf_iff.2 ⟨g1, Nat.le_trans hs.length_le g2, fun x hx => g3 x (hs.subset hx), fun x hx => g4 x (hs.subset hx), noDup_nodup.2 ((hs.map _).nodup (noDup_nodup.1 g5))⟩
theorem without_gone {xs : List Entry} {i : Nat} {r : Int} (h : noDup xs = true) (hi : i < xs.length) (hr : (xs.getD i default).ref = r) : findRef (xs.take i ++ xs.drop (i + 1)) r < 0 := by
  rw [← filterE_one h hi hr, findRef_none]
  intro x hx
  simpa using (List.mem_filter.1 hx).2
theorem without_len {xs : List Entry} {i : Nat} (hi : i < xs.length) : (xs.take i ++ xs.drop (i + 1)).length = xs.length - 1 := by
  simp; omega
theorem boxTo_rf {xs : List Entry} {d : Int} (h : ∀ x ∈ xs, rf x.rect d = 0) : ∀ k, k < xs.length → rf (boxTo xs k) d = 0 ∧ (∀ i, i ≤ k → covers (boxTo xs k) (xs.getD i default).rect = true)
  | 0, hk => ⟨h _ (getD_mem hk), fun i hi => by
      obtain rfl : i = 0 := by omega
      exact covers_iff.2 fun j _ => ⟨Int.le_refl _, Int.le_refl _⟩⟩
  | k + 1, hk => by
    obtain ⟨h1, h2⟩ := boxTo_rf h k (by omega)
    have h3 := h _ (getD_mem (d := default) hk)
    have ht := two_of h1 h3
    have hl := rf_len h1
    refine ⟨by rw [boxTo_succ]; have := rf_un ht; rw [hl.1] at this; exact this, fun i hi => covers_iff.2 fun j hj => ?_⟩
    rw [boxTo_succ, un_low_len] at hj
    have e := un_at (a := boxTo xs k) (b := (xs.getD (k + 1) default).rect) hj
    rw [boxTo_succ]
    rcases Nat.lt_or_ge i (k + 1) with hlt | hge
    · have := covers_iff.1 (h2 i (by omega)) j hj
      omega
    · obtain rfl : i = k + 1 := by omega
      omega
theorem boxTo_least {xs : List Entry} {d : Int} {r : Rect} (h : ∀ x ∈ xs, rf x.rect d = 0) (hr : r.low.length = d.toNat) : ∀ k, k < xs.length → (∀ i, i ≤ k → covers r (xs.getD i default).rect = true) → covers r (boxTo xs k) = true
  | 0, hk, hc => hc 0 (Nat.le_refl _)
  | k + 1, hk, hc => by
    have ih := boxTo_least h hr k (by omega) fun i hi => hc i (by omega)
    have hl := rf_len (boxTo_rf h k (by omega)).1
    refine covers_iff.2 fun j hj => ?_
    have e := un_at (a := boxTo xs k) (b := (xs.getD (k + 1) default).rect) (k := j) (by omega)
    have a1 := covers_iff.1 ih j hj
    have a2 := covers_iff.1 (hc (k + 1) (Nat.le_refl _)) j hj
    rw [boxTo_succ]
    omega
theorem bx_rf {xs : List Entry} {d : Int} (h : ∀ x ∈ xs, rf x.rect d = 0) (h0 : 0 < xs.length) : rf (bx xs) d = 0 := (boxTo_rf h _ (by omega)).1
theorem bx_covers {xs : List Entry} {d : Int} (h : ∀ x ∈ xs, rf x.rect d = 0) {i : Nat} (hi : i < xs.length) : covers (bx xs) (xs.getD i default).rect = true := (boxTo_rf h (xs.length - 1) (by omega)).2 i (by omega)
theorem bx_least {xs : List Entry} {d : Int} {r : Rect} (h : ∀ x ∈ xs, rf x.rect d = 0) (hr : r.low.length = d.toNat) (h0 : 0 < xs.length) (hc : ∀ i, i < xs.length → covers r (xs.getD i default).rect = true) : covers r (bx xs) = true :=
  boxTo_least h hr _ (by omega) fun i hi => hc i (by omega)
theorem covers_trans {a b c : Rect} (hl : b.low.length = a.low.length) (h1 : covers a b = true) (h2 : covers b c = true) : covers a c = true := by
  refine covers_iff.2 fun k hk => ?_
  have := covers_iff.1 h1 k hk
  have := covers_iff.1 h2 k (by omega)
  omega
theorem nf_wider {n : Node} {d : Int} {b : Rect} {i : Nat} (h : nf n d = 0) (hb : rf b d = 0) (hi : i < n.entries.length) : nf ⟨n.level, n.nsn, n.right, n.entries.set i (wider (n.entries.getD i default) b)⟩ d = 0 := by
  obtain ⟨g1, g2, g3, g4, g5⟩ := nf_iff.1 h
  have hm := getD_mem (d := default) hi
  have hr := ef_rf (g3 _ hm)
  have hu : rf (un (n.entries.getD i default).rect b) d = 0 := by
    have h1 := rf_un (two_of hr hb)
    have h2 := rf_len hr
    rw [h2.1] at h1; exact h1
  refine nf_iff.2 ⟨g1, by simpa using g2, fun x hx => ?_, fun x hx => ?_, ?_⟩
  · rcases List.mem_or_eq_of_mem_set hx with hx | rfl
    · exact g3 x hx
    · have h1 := g3 _ hm
      unfold entryF at h1 ⊢
      rw [if_neg (by simpa using hr)] at h1
      rw [if_neg (by simpa [wider] using hu)]
      exact h1
  · rcases List.mem_or_eq_of_mem_set hx with hx | rfl
    · exact g4 x hx
    · exact (show fits n.level (n.entries.getD i default) = true from g4 _ hm)
  · rw [noDup_nodup] at g5 ⊢
    have e : (n.entries.set i (wider (n.entries.getD i default) b)).map (·.ref) = n.entries.map (·.ref) := by
      rw [List.map_set]
      refine List.ext_getElem (by simp) fun j h1 h2 => ?_
      rw [List.getElem_set]
      split
      · rename_i e; subst e
        rw [getD_lt hi]; simp [wider]
      · rfl
    rw [e]; exact g5
/-- Whether an entry may stand ahead of another one along an axis. -/
def leE (ax : Nat) (a b : Entry) : Bool := decide (a.rect.low.getD ax default < b.rect.low.getD ax default) || (decide (a.rect.low.getD ax default = b.rect.low.getD ax default) && decide (a.rect.high.getD ax default ≤ b.rect.high.getD ax default))
def sortE (ax : Nat) (xs : List Entry) : List Entry := sortL (leE ax) xs
def cmpE (ax : Nat) (a b : Entry) : Int := if cmpI (a.rect.low.getD ax default) (b.rect.low.getD ax default) ≠ 0 then cmpI (a.rect.low.getD ax default) (b.rect.low.getD ax default) else cmpI (a.rect.high.getD ax default) (b.rect.high.getD ax default)
theorem cmpI_neg (a b : Int) : cmpI a b < 0 ↔ a < b := by unfold cmpI; (repeat' split) <;> omega
theorem cmpI_zero (a b : Int) : cmpI a b = 0 ↔ a = b := by unfold cmpI; (repeat' split) <;> omega
theorem cmpE_neg (ax : Nat) (a b : Entry) : decide (cmpE ax a b < 0) = !leE ax b a := by
  unfold cmpE leE
  have h1 := cmpI_neg (a.rect.low.getD ax default) (b.rect.low.getD ax default)
  have h2 := cmpI_zero (a.rect.low.getD ax default) (b.rect.low.getD ax default)
  have h3 := cmpI_neg (a.rect.high.getD ax default) (b.rect.high.getD ax default)
  generalize cmpI (a.rect.low.getD ax default) (b.rect.low.getD ax default) = u at *
  generalize cmpI (a.rect.high.getD ax default) (b.rect.high.getD ax default) = v at *
  generalize a.rect.low.getD ax default = p at *
  generalize b.rect.low.getD ax default = q at *
  generalize a.rect.high.getD ax default = r at *
  generalize b.rect.high.getD ax default = s at *
  rw [Bool.eq_iff_iff]
  simp only [decide_eq_true_eq, Bool.not_eq_true', Bool.or_eq_false_iff, decide_eq_false_iff_not, Bool.and_eq_false_iff]
  split <;> omega
theorem leE_tr (ax : Nat) : ∀ x y z, leE ax x y = true → leE ax y z = true → leE ax x z = true := fun x y z h1 h2 => by
  unfold leE at *
  simp only [Bool.or_eq_true, Bool.and_eq_true, decide_eq_true_eq] at *
  omega
theorem leE_tot (ax : Nat) : ∀ x y, leE ax x y = false → leE ax y x = true := fun x y h => by
  unfold leE at *
  simp only [Bool.or_eq_true, Bool.and_eq_true, decide_eq_true_eq, Bool.or_eq_false_iff, decide_eq_false_iff_not, Bool.and_eq_false_iff] at *
  omega
theorem sortE_perm (ax : Nat) (xs : List Entry) : (sortE ax xs).Perm xs := sortL_perm xs
theorem sortE_len (ax : Nat) (xs : List Entry) : (sortE ax xs).length = xs.length := (sortE_perm ax xs).length_eq
theorem sortE_step (ax : Nat) {xs : List Entry} {k : Nat} (h : k < xs.length) : sortE ax (xs.take (k + 1)) = insL (leE ax) (sortE ax (xs.take k)) (xs.getD k default) := by
  rw [take_step (d := default) h]; exact sortL_snoc _ _
theorem cmpE_swo (ax : Nat) {α : Type} (f : α → Entry) : Go.Sort.SWO (ltOf fun i j : α => cmpE ax (f i) (f j)) where
  irrefl x := by show decide (cmpE ax _ _ < 0) = false; rw [cmpE_neg]; have := leE_tot ax (f x) (f x); cases h : leE ax (f x) (f x) <;> simp_all
  trans x y z h1 h2 := by
    show decide (cmpE ax _ _ < 0) = true
    have h1 : decide (cmpE ax (f x) (f y) < 0) = true := h1
    have h2 : decide (cmpE ax (f y) (f z) < 0) = true := h2
    rw [cmpE_neg] at *
    cases h : leE ax (f z) (f x) with
    | false => rfl
    | true =>
      have h3 := leE_tr ax _ _ _ h (leE_tot ax (f y) (f x) (by simpa using h1))
      rw [h3] at h2; cases h2
  ntrans x y z h1 h2 := by
    show decide (cmpE ax _ _ < 0) = false
    have h1 : decide (cmpE ax (f x) (f y) < 0) = false := h1
    have h2 : decide (cmpE ax (f y) (f z) < 0) = false := h2
    rw [cmpE_neg] at *
    have := leE_tr ax _ _ _ (show leE ax (f z) (f y) = true by simpa using h2) (by simpa using h1)
    simp [this]
theorem even_wt {n : Nat} : ∀ {xs : List Entry}, Even xs n → wEntryS xs = (2 * n + 1) * xs.length
  | [], _ => rfl
  | x :: xs, h => by
    have ih := even_wt (xs := xs) fun y hy => h y (List.mem_cons_of_mem _ hy)
    have e := h x (List.mem_cons_self ..)
    have e2 : wEntryS (x :: xs) = wEntry x + wEntryS xs + 1 := by unfold wEntryS; rw [show sumW wEntry (x :: xs) = wEntry x + sumW wEntry xs from rfl, List.length_cons]; omega
    have e3 : wEntry x = x.rect.low.length + x.rect.high.length := rfl
    rw [e2, ih, e3, e.1, e.2, List.length_cons, Nat.mul_add]; omega
theorem even_small {n : Nat} {xs : List Entry} (h : Even xs n) (hn : n ≤ 3) (hl : xs.length ≤ 100) : wEntryS xs ≤ 1048576 := by
  have h1 := even_wt h
  have h2 : (2 * n + 1) * xs.length ≤ 7 * 100 := Nat.mul_le_mul (by omega) hl
  omega
def semE (ax : Nat) (xs : List Entry) (ds rs : List Dat) : Prop := ∃ a ∈ xs, ∃ b ∈ xs, ds = [(true, eEntry a), (true, eEntry b)] ∧ rs = [(false, [.int .i64 (cmpE ax a b)])]
theorem s_insertionEntry (xs : List Entry) (ax : Nat) (hb : xs.length ≤ 1048576) : SatG Try.prog 130 false [.ref 1, iT 0, iT xs.length, .fn (semE ax xs)] [gEs 1 xs] (.tup []) [gEs 1 (sortE ax xs)] := by
  by_cases hn : xs.length = 0
  · obtain rfl := List.eq_nil_of_length_eq_zero hn
    refine satG_walk (fn := Try.f130) rfl rfl rfl (Nat.le_of_ble_eq_true rfl) (by simp) fun fr hP hN hdp hb1 hb2 => ?_
    have hE : (envOf fr Try.prog).Ok := envOf_ok hP
    have hM := follows_of hP
    have hS : ∀ {draw ops}, statB Try.f130.ntmps draw ops = true → statB (envOf fr Try.prog).fr.N draw ops = true := fun h => by rw [envOf_fr, hN]; exact h
    repeat' (first
      | exact True.intro
      | refine ev_seq ?_
      | ((first | refine vgd_go ?_ | refine ev_region hE hM (hS (by decide +kernel)) ?_ | refine ev_if ?_ | refine end_ret hE rfl rfl ?_ | refine end_norm hE rfl rfl ?_ | refine endG_ret [] hE rfl ?_ | refine endG_norm [] hE rfl ?_ | refine vcall_A ?_); simp (maxSteps := 2000000) only [go_sem, hP, ↓reduceIte, Nat.reduceAdd, Nat.reduceMul, Nat.reduceEqDiff, Nat.reduceSub, Nat.reduceLeDiff, reduceCtorEq])
      | refine ev_skip ?_ | refine ev_block ?_ | refine ev_blk ?_ | refine ev_ret ?_ | refine ev_exit ?_ | refine evx_code_ret ?_ | refine evx_blk_ret ?_ | refine evx_lp_ret ?_
      | refine evx_code_exit ?_ | refine evx_lp_exit ?_ | refine evx_blk_hit ?_ | refine evx_blk_pass (by decide) ?_
      | refine And.intro ?_ ?_ | intro _ | decide +kernel | omega)
    refine ev_loop (ι := Nat) (fun k => [(0, .ref 1), (2, iT 0), (8, iT 1)]) (fun k => [gEs 1 []]) (fun _ => [(0, .ref 1)]) (fun k => True) (fun k => 0) 0 [] trivial (by simp only [go_sem, hP, ↓reduceIte, Nat.reduceAdd, Nat.reduceMul, Nat.reduceEqDiff, Nat.reduceSub, Nat.reduceLeDiff, reduceCtorEq]; simp [show IntKind.i64.wrap 1 = 1 from rfl]) ?_
    intro k hk
    have d1 : decide ((1 : Int) < 0) = false := rfl
    repeat' (first
      | exact True.intro
      | refine ev_seq ?_
      | ((first | refine vgd_go ?_ | refine ev_region hE hM (hS (by decide +kernel)) ?_ | refine ev_if ?_ | refine end_ret hE rfl rfl ?_ | refine end_norm hE rfl rfl ?_ | refine endG_ret [] hE rfl ?_ | refine endG_norm [] hE rfl ?_ | refine vcall_A ?_); simp (maxSteps := 2000000) only [go_sem, hP, ↓reduceIte, Nat.reduceAdd, Nat.reduceMul, Nat.reduceEqDiff, Nat.reduceSub, Nat.reduceLeDiff, reduceCtorEq, d1])
      | refine ev_skip ?_ | refine ev_block ?_ | refine ev_blk ?_ | refine ev_ret ?_ | refine ev_exit ?_ | refine evx_code_ret ?_ | refine evx_blk_ret ?_ | refine evx_lp_ret ?_
      | refine evx_code_exit ?_ | refine evx_lp_exit ?_ | refine evx_blk_hit ?_ | refine evx_blk_pass (by decide) ?_
      | refine And.intro ?_ ?_ | intro _ | decide +kernel | omega)
    all_goals first | rfl | trace_state
  · haveI : Inhabited (Fin xs.length) := ⟨⟨0, by omega⟩⟩
    have key := k_insertionEntry (ty := 41) (n := xs.length) hb (es := xs.map oEntry) (sem := semE ax xs) (by simp) (fun i j => cmpE ax (xs.getD i.val default) (xs.getD j.val default)) (cmpE_swo ax fun i : Fin xs.length => xs.getD i.val default) (fun i j => by
      have e : ∀ i : Fin xs.length, Cs.strip ((xs.map oEntry).getD i.val []) = eEntry (xs.getD i.val default) := fun i => by
        rw [List.getD_eq_getElem?_getD, List.getElem?_map, List.getElem?_eq_getElem i.isLt, getD_lt i.isLt]
        simp [stripC_oEntry]
      refine ⟨xs.getD i.val default, getD_mem i.isLt, xs.getD j.val default, getD_mem j.isLt, ?_, rfl⟩
      rw [e, e])
    have e1 := sortL_map (le := leE ax) (le' := fun a b : Fin xs.length => !ltOf (fun i j : Fin xs.length => cmpE ax (xs.getD i.val default) (xs.getD j.val default)) b a) (fun i : Fin xs.length => xs.getD i.val default) (fun a b => by
      show (!decide (cmpE ax (xs.getD b.val default) (xs.getD a.val default) < 0)) = _
      rw [cmpE_neg]; simp) (Array.ofFn (fun i : Fin xs.length => i)).toList
    have e2 : (Array.ofFn (fun i : Fin xs.length => i)).toList.map (fun i : Fin xs.length => xs.getD i.val default) = xs := by
      refine List.ext_getElem (by simp) fun i h1 h2 => ?_
      simp only [List.getElem_map]
      rw [getD_lt (by simpa using h2)]
      simp
    rw [e2] at e1
    have e3 : (sortE ax xs).map oEntry = ((sortL (fun a b : Fin xs.length => !ltOf (fun i j : Fin xs.length => cmpE ax (xs.getD i.val default) (xs.getD j.val default)) b a) (Array.ofFn (fun i : Fin xs.length => i)).toList).map (fun i => i.val)).map fun i => (xs.map oEntry).getD i [] := by
      unfold sortE
      rw [← e1, List.map_map, List.map_map]
      refine List.map_congr_left fun i _ => ?_
      simp only [Function.comp]
      rw [List.getD_eq_getElem?_getD (l := xs.map oEntry), List.getElem?_map, List.getElem?_eq_getElem i.isLt, getD_lt i.isLt]; rfl
    show SatG _ _ _ _ _ _ [(1, .arr true _ 4 ((sortE ax xs).map oEntry))]
    rw [e3]; exact key
theorem s_stableEntry (xs : List Entry) (ax : Nat) (hb : xs.length ≤ 19) : SatG Try.prog 114 false [.ref 1, iT xs.length, .fn (semE ax xs)] [gEs 1 xs] (.tup []) [gEs 1 (sortE ax xs)] := by
  refine satG_walk (fn := Try.f114) rfl rfl rfl (Nat.le_of_ble_eq_true rfl) (by simp) fun fr hP hN hdp hb1 hb2 => ?_
  have hE : (envOf fr Try.prog).Ok := envOf_ok hP
  have hM := follows_of hP
  have hS : ∀ {draw ops}, statB Try.f114.ntmps draw ops = true → statB (envOf fr Try.prog).fr.N draw ops = true := fun h => by rw [envOf_fr, hN]; exact h
  have c1 := s_insertionEntry xs ax (by omega)
  repeat' (first
    | exact True.intro
    | refine ev_seq ?_
    | ((first | refine vgd_go ?_ | refine ev_region hE hM (hS (by decide +kernel)) ?_ | refine ev_if ?_ | refine end_ret hE rfl rfl ?_ | refine end_norm hE rfl rfl ?_ | refine endG_ret [] hE rfl ?_ | refine endG_norm [] hE rfl ?_ | refine vcall_A ?_); simp (maxSteps := 2000000) only [go_sem, hP, ↓reduceIte, Nat.reduceAdd, Nat.reduceMul, Nat.reduceEqDiff, Nat.reduceSub, Nat.reduceLeDiff, reduceCtorEq])
    | refine ev_skip ?_ | refine ev_block ?_ | refine ev_blk ?_ | refine ev_ret ?_ | refine ev_exit ?_ | refine evx_code_ret ?_ | refine evx_blk_ret ?_ | refine evx_lp_ret ?_
    | refine evx_code_exit ?_ | refine evx_lp_exit ?_ | refine evx_blk_hit ?_ | refine evx_blk_pass (by decide) ?_
    | refine And.intro ?_ ?_ | intro _ | decide +kernel | omega)
  refine ev_loop (ι := Nat) (fun k => [(0, .ref 1), (1, iT xs.length), (2, .fn (semE ax xs)), (6, iT 20), (7, iT 0), (8, iT 20)]) (fun k => [gEs 1 xs]) (fun _ => [(0, .ref 1)]) (fun k => True) (fun k => 0) 0 [] trivial (by simp only [go_sem, hP, ↓reduceIte, Nat.reduceAdd, Nat.reduceMul, Nat.reduceEqDiff, Nat.reduceSub, Nat.reduceLeDiff, reduceCtorEq]) ?_
  intro k hk
  have d1 : decide ((20 : Int) ≤ (xs.length : Int)) = false := by simp only [decide_eq_false_iff_not]; omega
  repeat' (first
    | exact True.intro
    | refine ev_seq ?_
    | ((first | refine vgd_go ?_ | refine ev_region hE hM (hS (by decide +kernel)) ?_ | refine ev_if ?_ | refine end_ret hE rfl rfl ?_ | refine end_norm hE rfl rfl ?_ | refine endG_ret [] hE rfl ?_ | refine endG_norm [] hE rfl ?_ | refine vcallG_of (args := [.ref 1, _, _, _]) [(1, 1)] [] hP c1 ?_ | refine vcall_A ?_); simp (maxSteps := 2000000) only [go_sem, hP, ↓reduceIte, Nat.reduceAdd, Nat.reduceMul, Nat.reduceEqDiff, Nat.reduceSub, Nat.reduceLeDiff, reduceCtorEq, d1])
    | refine ev_skip ?_ | refine ev_block ?_ | refine ev_blk ?_ | refine ev_ret ?_ | refine ev_exit ?_ | refine evx_code_ret ?_ | refine evx_blk_ret ?_ | refine evx_lp_ret ?_
    | refine evx_code_exit ?_ | refine evx_lp_exit ?_ | refine evx_blk_hit ?_ | refine evx_blk_pass (by decide) ?_
    | refine And.intro ?_ ?_ | intro _ | decide +kernel | omega)
  refine ev_loop (ι := Nat) (fun k => [(0, .ref 1), (1, iT xs.length), (6, iT 20)]) (fun k => [gEs 1 (sortE ax xs)]) (fun _ => [(0, .ref 1)]) (fun k => True) (fun k => 0) 0 [] trivial (by simp only [go_sem, hP, ↓reduceIte, Nat.reduceAdd, Nat.reduceMul, Nat.reduceEqDiff, Nat.reduceSub, Nat.reduceLeDiff, reduceCtorEq]) ?_
  intro k hk
  have d2 : decide ((20 : Int) < (xs.length : Int)) = false := by simp only [decide_eq_false_iff_not]; omega
  repeat' (first
    | exact True.intro
    | refine ev_seq ?_
    | ((first | refine vgd_go ?_ | refine ev_region hE hM (hS (by decide +kernel)) ?_ | refine ev_if ?_ | refine end_ret hE rfl rfl ?_ | refine end_norm hE rfl rfl ?_ | refine endG_ret [] hE rfl ?_ | refine endG_norm [] hE rfl ?_ | refine vcall_A ?_); simp (maxSteps := 2000000) only [go_sem, hP, ↓reduceIte, Nat.reduceAdd, Nat.reduceMul, Nat.reduceEqDiff, Nat.reduceSub, Nat.reduceLeDiff, reduceCtorEq, d2])
    | refine ev_skip ?_ | refine ev_block ?_ | refine ev_blk ?_ | refine ev_ret ?_ | refine ev_exit ?_ | refine evx_code_ret ?_ | refine evx_blk_ret ?_ | refine evx_lp_ret ?_
    | refine evx_code_exit ?_ | refine evx_lp_exit ?_ | refine evx_blk_hit ?_ | refine evx_blk_pass (by decide) ?_
    | refine And.intro ?_ ?_ | intro _ | decide +kernel | omega)
theorem s_SortStableEntry (xs : List Entry) (ax : Nat) (hb : xs.length ≤ 19) : SatG Try.prog 75 false [.ref 1, .fn (semE ax xs)] [gEs 1 xs] (.tup []) [gEs 1 (sortE ax xs)] := by
  refine satG_walk (fn := Try.f75) rfl rfl rfl (Nat.le_of_ble_eq_true rfl) (by simp) fun fr hP hN hdp hb1 hb2 => ?_
  have hE : (envOf fr Try.prog).Ok := envOf_ok hP
  have hM := follows_of hP
  have hS : ∀ {draw ops}, statB Try.f75.ntmps draw ops = true → statB (envOf fr Try.prog).fr.N draw ops = true := fun h => by rw [envOf_fr, hN]; exact h
  have c1 := s_stableEntry xs ax hb
  repeat' (first
    | exact True.intro
    | refine ev_seq ?_
    | ((first | refine vgd_go ?_ | refine ev_region hE hM (hS (by decide +kernel)) ?_ | refine ev_if ?_ | refine end_ret hE rfl rfl ?_ | refine end_norm hE rfl rfl ?_ | refine endG_ret [] hE rfl ?_ | refine endG_norm [] hE rfl ?_ | refine vcallG_of (args := [.ref 1, _, _]) [(1, 1)] [] hP c1 ?_ | refine vcall_A ?_); simp (maxSteps := 2000000) only [go_sem, hP, ↓reduceIte, Nat.reduceAdd, Nat.reduceMul, Nat.reduceEqDiff, Nat.reduceSub, Nat.reduceLeDiff, reduceCtorEq, List.length_map])
    | refine ev_skip ?_ | refine ev_block ?_ | refine ev_blk ?_ | refine ev_ret ?_ | refine ev_exit ?_ | refine evx_code_ret ?_ | refine evx_blk_ret ?_ | refine evx_lp_ret ?_
    | refine evx_code_exit ?_ | refine evx_lp_exit ?_ | refine evx_blk_hit ?_ | refine evx_blk_pass (by decide) ?_
    | refine And.intro ?_ ?_ | intro _ | decide +kernel | omega)
theorem s_sorted1 (a b : Entry) (ax : Nat) (h1 : ax < a.rect.low.length) (h2 : ax < a.rect.high.length) (h3 : ax < b.rect.low.length) (h4 : ax < b.rect.high.length) : Sat Try.prog 76 [aEntry a, aEntry b, .pv [.int .i64 ax]] true (rI (cmpE ax a b)) := by
  refine sat_walk (fn := Try.f76) rfl rfl rfl (Nat.le_of_ble_eq_true rfl) fun fr hP hN hbnd => ?_
  have hE : (envOf fr Try.prog).Ok := envOf_ok hP
  have hM := follows_of hP
  have hS : ∀ {draw ops}, statB Try.f76.ntmps draw ops = true → statB (envOf fr Try.prog).fr.N draw ops = true := fun h => by rw [envOf_fr, hN]; exact h
  have c1 := s_Compare (a.rect.low.getD ax default) (b.rect.low.getD ax default)
  have c2 := s_Compare (a.rect.high.getD ax default) (b.rect.high.getD ax default)
  have c3 := s_Or (cmpI (a.rect.low.getD ax default) (b.rect.low.getD ax default)) (cmpI (a.rect.high.getD ax default) (b.rect.high.getD ax default))
  repeat' (first
    | exact True.intro
    | refine ev_seq ?_
    | ((first | refine vgd_go ?_ | refine ev_region hE hM (hS (by decide +kernel)) ?_ | refine ev_if ?_ | refine end_ret hE rfl rfl ?_ | refine end_norm hE rfl rfl ?_ | refine endG_ret [] hE rfl ?_ | refine endG_norm [] hE rfl ?_ | refine vcallB_of hP c1 ?_ | refine vcallB_of hP c2 ?_ | refine vcallB_of hP c3 ?_ | refine vcall_A ?_); simp (maxSteps := 2000000) only [go_sem, hP, ↓reduceIte, Nat.reduceAdd, Nat.reduceMul, Nat.reduceEqDiff, Nat.reduceSub, Nat.reduceLeDiff, reduceCtorEq])
    | refine ev_skip ?_ | refine ev_block ?_ | refine ev_blk ?_ | refine ev_ret ?_ | refine ev_exit ?_ | refine evx_code_ret ?_ | refine evx_blk_ret ?_ | refine evx_lp_ret ?_
    | refine evx_code_exit ?_ | refine evx_lp_exit ?_ | refine evx_blk_hit ?_ | refine evx_blk_pass (by decide) ?_
    | refine And.intro ?_ ?_ | intro _ | decide +kernel | omega)
  all_goals first | (simp [cmpE]; done) | omega | (simp_all; done)
theorem s_sorted (xs : List Entry) (ax n : Nat) (h : Even xs n) (hax : ax < n) (hb : xs.length ≤ 19) (hn : n ≤ 3) : Sat Try.prog 30 [aEntryS xs, aI ax] true (rEntryS (sortE ax xs)) := by
  refine sat_walk (fn := Try.f30) rfl rfl rfl (Nat.le_of_ble_eq_true rfl) fun fr hP hN hbnd => ?_
  have hE : (envOf fr Try.prog).Ok := envOf_ok hP
  have hM := follows_of hP
  have hS : ∀ {draw ops}, statB Try.f30.ntmps draw ops = true → statB (envOf fr Try.prog).fr.N draw ops = true := fun h => by rw [envOf_fr, hN]; exact h
  have c1 := s_clonedEntries xs (even_small h hn (by omega))
  have c2 := s_SortStableEntry xs ax hb
  have kF : ∀ ds rs, semE ax xs ds rs → Sat Try.prog 76 (ds.map .d ++ [.pv [.int .i64 ax]]) true rs := by
    rintro ds rs ⟨a, ha, b, hb, rfl, rfl⟩
    have e1 := h a ha
    have e2 := h b hb
    exact s_sorted1 a b ax (by omega) (by omega) (by omega) (by omega)
  repeat' (first
    | exact True.intro
    | exact kF
    | refine ev_seq ?_
    | ((first | refine vgd_go ?_ | refine ev_region hE hM (hS (by decide +kernel)) ?_ | refine ev_if ?_ | refine end_ret hE rfl rfl ?_ | refine end_norm hE rfl rfl ?_ | refine endG_ret [] hE rfl ?_ | refine endG_norm [] hE rfl ?_ | refine vcallB_of hP c1 ?_ | refine vcallG_of (args := [.ref 4104, _]) [(1, 4104)] [] hP c2 ?_ | refine vcall_A ?_); simp (maxSteps := 2000000) only [go_sem, hP, ↓reduceIte, Nat.reduceAdd, Nat.reduceMul, Nat.reduceEqDiff, Nat.reduceSub, Nat.reduceLeDiff, reduceCtorEq])
    | refine ev_skip ?_ | refine ev_block ?_ | refine ev_blk ?_ | refine ev_ret ?_ | refine ev_exit ?_ | refine evx_code_ret ?_ | refine evx_blk_ret ?_ | refine evx_lp_ret ?_
    | refine evx_code_exit ?_ | refine evx_lp_exit ?_ | refine evx_blk_hit ?_ | refine evx_blk_pass (by decide) ?_
    | refine And.intro ?_ ?_ | intro _ | decide +kernel | omega)
  all_goals trace_state
theorem s_l5Sort (xs : List Entry) (ax n : Nat) (h : Even xs n) (hax : ax < n) (hl : xs.length ≤ 1000) (hn : n ≤ 1000) : Sat Try.prog 39 [aEntryS xs, aI ax] false [(false, [sEntryS (sortE ax xs)])] := by
  refine sat_walk (fn := Try.f39) rfl rfl rfl (Nat.le_of_ble_eq_true rfl) fun fr hP hN hbnd => ?_
  have hE : (envOf fr Try.prog).Ok := envOf_ok hP
  have hM := follows_of hP
  have hS : ∀ {draw ops}, statB Try.f39.ntmps draw ops = true → statB (envOf fr Try.prog).fr.N draw ops = true := fun h => by rw [envOf_fr, hN]; exact h
  repeat' (first
    | exact True.intro
    | refine ev_seq ?_
    | ((first | refine vgd_go ?_ | refine ev_region hE hM (hS (by decide +kernel)) ?_ | refine ev_if ?_ | refine end_ret hE rfl rfl ?_ | refine end_norm hE rfl rfl ?_ | refine endG_ret [] hE rfl ?_ | refine endG_norm [] hE rfl ?_ | refine vcall_A ?_); simp (maxSteps := 2000000) only [go_sem, hP, ↓reduceIte, Nat.reduceAdd, Nat.reduceMul, Nat.reduceEqDiff, Nat.reduceSub, Nat.reduceLeDiff, reduceCtorEq])
    | refine ev_skip ?_ | refine ev_block ?_ | refine ev_blk ?_ | refine ev_ret ?_ | refine ev_exit ?_ | refine evx_code_ret ?_ | refine evx_blk_ret ?_ | refine evx_lp_ret ?_
    | refine evx_code_exit ?_ | refine evx_lp_exit ?_ | refine evx_blk_hit ?_ | refine evx_blk_pass (by decide) ?_
    | refine And.intro ?_ ?_ | intro _ | decide +kernel | omega)
  refine ev_loop (ι := Nat) (fun k => [(0, .c (sEntryS xs)), (1, iT ax), (5, .ref 100000), (6, iT k)]) (fun k => [(100000, .arr (decide (k = 0)) 41 4 ((sortE ax (xs.take k)).map eEntry))]) (fun _ => []) (fun k => k ≤ xs.length) (fun k => xs.length - k) 0 [(100000, some 4096)] (by omega) (by simp only [go_sem, hP, ↓reduceIte, Nat.reduceAdd, Nat.reduceMul, Nat.reduceEqDiff, Nat.reduceSub, Nat.reduceLeDiff, reduceCtorEq]; simp [sortE, sortL]) ?_
  intro k hk
  have hw1 : k < xs.length → IntKind.i64.wrap ((k : Int) + 1) = k + 1 := fun h => i64_in _ (by omega)
  have hyl : (sortE ax (xs.take k)).length = k := by rw [sortE_len, List.length_take]; omega
  have hev : Even (sortE ax (xs.take k)) n := fun y hy => h y (List.mem_of_mem_take ((sortE_perm ax _).mem_iff.1 hy))
  by_cases hlt : k < xs.length
  · have hst := sortE_step ax hlt
    rw [insL_at] at hst
    have hx := even_get h hlt
    generalize sortE ax (xs.take k) = ys at *
    have hpl : ys.findIdx (fun y => !leE ax y (xs.getD k default)) ≤ ys.length := List.findIdx_le_length
    have hpy : ∀ j, j < ys.findIdx (fun y => !leE ax y (xs.getD k default)) → leE ax (ys.getD j default) (xs.getD k default) = true := fun j hj => by
      have := List.not_of_lt_findIdx hj
      rw [getD_lt (by omega)]
      simpa using this
    have hpn : ∀ j, j = ys.findIdx (fun y => !leE ax y (xs.getD k default)) → j < ys.length → leE ax (ys.getD j default) (xs.getD k default) = false := fun j hj hjl => by
      subst hj
      have := List.findIdx_getElem (w := hjl)
      rw [getD_lt hjl]
      simpa using this
    generalize ys.findIdx (fun y => !leE ax y (xs.getD k default)) = p at *
    have dl : decide ((k : Int) < (xs.length : Int)) = true := by simp only [decide_eq_true_eq]; omega
    repeat' (first
      | exact True.intro
      | refine ev_seq ?_
      | ((first | refine vgd_go ?_ | refine ev_region hE hM (hS (by decide +kernel)) ?_ | refine ev_if ?_ | refine end_ret hE rfl rfl ?_ | refine end_norm hE rfl rfl ?_ | refine endG_ret [] hE rfl ?_ | refine endG_norm [] hE rfl ?_ | refine vcall_A ?_); simp (maxSteps := 2000000) only [go_sem, hP, ↓reduceIte, Nat.reduceAdd, Nat.reduceMul, Nat.reduceEqDiff, Nat.reduceSub, Nat.reduceLeDiff, reduceCtorEq, dl, List.length_map])
      | refine ev_skip ?_ | refine ev_block ?_ | refine ev_blk ?_ | refine ev_ret ?_ | refine ev_exit ?_ | refine evx_code_ret ?_ | refine evx_blk_ret ?_ | refine evx_lp_ret ?_
      | refine evx_code_exit ?_ | refine evx_lp_exit ?_ | refine evx_blk_hit ?_ | refine evx_blk_pass (by decide) ?_
      | refine And.intro ?_ ?_ | intro _ | decide +kernel | omega)
    refine ev_loop (ι := Nat) (fun j => [(0, .c (sEntryS xs)), (1, iT ax), (5, .ref 100000), (6, iT k), (7, iT j)]) (fun j => [(100000, .arr (decide (k = 0)) 41 4 (ys.map eEntry))]) (fun _ => []) (fun j => j ≤ p) (fun j => p - j) 0 [] (by omega) (by simp only [go_sem, hP, ↓reduceIte, Nat.reduceAdd, Nat.reduceMul, Nat.reduceEqDiff, Nat.reduceSub, Nat.reduceLeDiff, reduceCtorEq]; simp) ?_
    intro j hj
    have hw2 : IntKind.i64.wrap ((j : Int) + 1) = j + 1 := i64_in _ (by omega)
    have tj : Int.toNat (j : Int) = j := by simp
    have ht1 : List.take (ys.length - j) (List.drop j (ys.map eEntry)) = List.drop j (ys.map eEntry) := List.take_of_length_le (by simp)
    have ht2 : List.take ys.length (ys.map eEntry) = ys.map eEntry := List.take_of_length_le (by simp)
    by_cases hjl : j < ys.length
    · have d0 : decide ((j : Int) < (ys.length : Int)) = true := by simp only [decide_eq_true_eq]; omega
      have hy := even_get hev hjl
      by_cases hj1 : j < p
      · have hle := hpy j hj1
        unfold leE at hle
        simp only [Bool.or_eq_true, Bool.and_eq_true, decide_eq_true_eq] at hle
        by_cases hc : (ys.getD j default).rect.low.getD ax default < (xs.getD k default).rect.low.getD ax default
        · have e1 := decide_eq_true hc
          repeat' (first
            | exact True.intro
            | refine ev_seq ?_
            | ((first | refine vgd_go ?_ | refine ev_region hE hM (hS (by decide +kernel)) ?_ | refine ev_if ?_ | refine end_ret hE rfl rfl ?_ | refine end_norm hE rfl rfl ?_ | refine endG_ret [] hE rfl ?_ | refine endG_norm [] hE rfl ?_ | refine vcall_A ?_); simp (maxSteps := 2000000) only [go_sem, hP, ↓reduceIte, Nat.reduceAdd, Nat.reduceMul, Nat.reduceEqDiff, Nat.reduceSub, Nat.reduceLeDiff, reduceCtorEq, List.append_eq, List.cons_append, List.nil_append, Cs.strip, C.strip, Es.strip, strip_eI, Bool.and_false, Bool.and_self, Bool.false_and, Bool.false_eq_true, List.length_append, List.length_take, List.length_drop, List.length_cons, List.length_nil, Int.toNat_zero, ite_self, d0, ht1, ht2,  e1, List.length_map])
            | refine ev_skip ?_ | refine ev_block ?_ | refine ev_blk ?_ | refine ev_ret ?_ | refine ev_exit ?_ | refine evx_code_ret ?_ | refine evx_blk_ret ?_ | refine evx_lp_ret ?_
            | refine evx_code_exit ?_ | refine evx_lp_exit ?_ | refine evx_blk_hit ?_ | refine evx_blk_pass (by decide) ?_
            | refine And.intro ?_ ?_ | intro _ | decide +kernel | omega)
          all_goals first
            | exact ev_lp (j + 1) [] (by omega) (by omega) (by simp only [go_sem, hP, ↓reduceIte, Nat.reduceAdd, Nat.reduceMul, Nat.reduceEqDiff, Nat.reduceSub, Nat.reduceLeDiff, reduceCtorEq]; simp [hw2])
            | (exfalso; omega)
            | omega
            | (simp only [Nat.min_def]; split <;> omega)
            | (simp_all; done)
            | trace_state
        · have e1 := decide_eq_false hc
          have hle2 := hle.resolve_left hc
          have e2 : ((ys.getD j default).rect.low.getD ax default == (xs.getD k default).rect.low.getD ax default) = true := beq_iff_eq.2 hle2.1
          have e3 := decide_eq_true hle2.2
          repeat' (first
            | exact True.intro
            | refine ev_seq ?_
            | ((first | refine vgd_go ?_ | refine ev_region hE hM (hS (by decide +kernel)) ?_ | refine ev_if ?_ | refine end_ret hE rfl rfl ?_ | refine end_norm hE rfl rfl ?_ | refine endG_ret [] hE rfl ?_ | refine endG_norm [] hE rfl ?_ | refine vcall_A ?_); simp (maxSteps := 2000000) only [go_sem, hP, ↓reduceIte, Nat.reduceAdd, Nat.reduceMul, Nat.reduceEqDiff, Nat.reduceSub, Nat.reduceLeDiff, reduceCtorEq, List.append_eq, List.cons_append, List.nil_append, Cs.strip, C.strip, Es.strip, strip_eI, Bool.and_false, Bool.and_self, Bool.false_and, Bool.false_eq_true, List.length_append, List.length_take, List.length_drop, List.length_cons, List.length_nil, Int.toNat_zero, ite_self, d0, ht1, ht2,  e1, e2, e3, List.length_map])
            | refine ev_skip ?_ | refine ev_block ?_ | refine ev_blk ?_ | refine ev_ret ?_ | refine ev_exit ?_ | refine evx_code_ret ?_ | refine evx_blk_ret ?_ | refine evx_lp_ret ?_
            | refine evx_code_exit ?_ | refine evx_lp_exit ?_ | refine evx_blk_hit ?_ | refine evx_blk_pass (by decide) ?_
            | refine And.intro ?_ ?_ | intro _ | decide +kernel | omega)
          all_goals first
            | exact ev_lp (j + 1) [] (by omega) (by omega) (by simp only [go_sem, hP, ↓reduceIte, Nat.reduceAdd, Nat.reduceMul, Nat.reduceEqDiff, Nat.reduceSub, Nat.reduceLeDiff, reduceCtorEq]; simp [hw2])
            | (exfalso; omega)
            | omega
            | (simp only [Nat.min_def]; split <;> omega)
            | (simp_all; done)
            | trace_state
      · obtain rfl : j = p := by omega
        have hle := hpn j rfl hjl
        unfold leE at hle
        simp only [Bool.or_eq_false_iff, Bool.and_eq_false_iff, decide_eq_false_iff_not] at hle
        have e1 := decide_eq_false hle.1
        by_cases hq : (ys.getD j default).rect.low.getD ax default = (xs.getD k default).rect.low.getD ax default
        · have e2 : ((ys.getD j default).rect.low.getD ax default == (xs.getD k default).rect.low.getD ax default) = true := beq_iff_eq.2 hq
          have e3 : decide ((ys.getD j default).rect.high.getD ax default ≤ (xs.getD k default).rect.high.getD ax default) = false := decide_eq_false (by omega)
          repeat' (first
            | exact True.intro
            | refine ev_seq ?_
            | ((first | refine vgd_go ?_ | refine ev_region hE hM (hS (by decide +kernel)) ?_ | refine ev_if ?_ | refine end_ret hE rfl rfl ?_ | refine end_norm hE rfl rfl ?_ | refine endG_ret [] hE rfl ?_ | refine endG_norm [] hE rfl ?_ | refine vcall_A ?_); simp (maxSteps := 2000000) only [go_sem, hP, ↓reduceIte, Nat.reduceAdd, Nat.reduceMul, Nat.reduceEqDiff, Nat.reduceSub, Nat.reduceLeDiff, reduceCtorEq, List.append_eq, List.cons_append, List.nil_append, Cs.strip, C.strip, Es.strip, strip_eI, Bool.and_false, Bool.and_self, Bool.false_and, Bool.false_eq_true, List.length_append, List.length_take, List.length_drop, List.length_cons, List.length_nil, Int.toNat_zero, ite_self, d0, ht1, ht2,  e1, e2, e3, tj, List.length_map])
            | refine ev_skip ?_ | refine ev_block ?_ | refine ev_blk ?_ | refine ev_ret ?_ | refine ev_exit ?_ | refine evx_code_ret ?_ | refine evx_blk_ret ?_ | refine evx_lp_ret ?_
            | refine evx_code_exit ?_ | refine evx_lp_exit ?_ | refine evx_blk_hit ?_ | refine evx_blk_pass (by decide) ?_
            | refine And.intro ?_ ?_ | intro _ | decide +kernel | omega)
          all_goals first
            | exact ev_lp (k + 1) [(100000, some 40992)] (by omega) (by omega) (by simp only [go_sem, hP, ↓reduceIte, Nat.reduceAdd, Nat.reduceMul, Nat.reduceEqDiff, Nat.reduceSub, Nat.reduceLeDiff, reduceCtorEq]; rw [hst]; simp [hw1 hlt, Es.strip, eEntry_eq, show IntKind.i64.wrap 1 = 1 from rfl, List.map_take, List.map_drop, ht1, ht2])
            | (exfalso; omega)
            | omega
            | (simp only [Nat.min_def]; split <;> omega)
            | (simp_all; done)
            | trace_state
        · have e2 : ((ys.getD j default).rect.low.getD ax default == (xs.getD k default).rect.low.getD ax default) = false := beq_eq_false_iff_ne.2 hq
          repeat' (first
            | exact True.intro
            | refine ev_seq ?_
            | ((first | refine vgd_go ?_ | refine ev_region hE hM (hS (by decide +kernel)) ?_ | refine ev_if ?_ | refine end_ret hE rfl rfl ?_ | refine end_norm hE rfl rfl ?_ | refine endG_ret [] hE rfl ?_ | refine endG_norm [] hE rfl ?_ | refine vcall_A ?_); simp (maxSteps := 2000000) only [go_sem, hP, ↓reduceIte, Nat.reduceAdd, Nat.reduceMul, Nat.reduceEqDiff, Nat.reduceSub, Nat.reduceLeDiff, reduceCtorEq, List.append_eq, List.cons_append, List.nil_append, Cs.strip, C.strip, Es.strip, strip_eI, Bool.and_false, Bool.and_self, Bool.false_and, Bool.false_eq_true, List.length_append, List.length_take, List.length_drop, List.length_cons, List.length_nil, Int.toNat_zero, ite_self, d0, ht1, ht2,  e1, e2, tj, List.length_map])
            | refine ev_skip ?_ | refine ev_block ?_ | refine ev_blk ?_ | refine ev_ret ?_ | refine ev_exit ?_ | refine evx_code_ret ?_ | refine evx_blk_ret ?_ | refine evx_lp_ret ?_
            | refine evx_code_exit ?_ | refine evx_lp_exit ?_ | refine evx_blk_hit ?_ | refine evx_blk_pass (by decide) ?_
            | refine And.intro ?_ ?_ | intro _ | decide +kernel | omega)
          all_goals first
            | exact ev_lp (k + 1) [(100000, some 40992)] (by omega) (by omega) (by simp only [go_sem, hP, ↓reduceIte, Nat.reduceAdd, Nat.reduceMul, Nat.reduceEqDiff, Nat.reduceSub, Nat.reduceLeDiff, reduceCtorEq]; rw [hst]; simp [hw1 hlt, Es.strip, eEntry_eq, show IntKind.i64.wrap 1 = 1 from rfl, List.map_take, List.map_drop, ht1, ht2])
            | (exfalso; omega)
            | omega
            | (simp only [Nat.min_def]; split <;> omega)
            | (simp_all; done)
            | trace_state
    · obtain rfl : j = p := by omega
      obtain rfl : j = ys.length := by omega
      have d0 : decide ((ys.length : Int) < (ys.length : Int)) = false := by simp
      by_cases h0 : k = 0
      · subst h0
        repeat' (first
          | exact True.intro
          | refine ev_seq ?_
          | ((first | refine vgd_go ?_ | refine ev_region hE hM (hS (by decide +kernel)) ?_ | refine ev_if ?_ | refine end_ret hE rfl rfl ?_ | refine end_norm hE rfl rfl ?_ | refine endG_ret [] hE rfl ?_ | refine endG_norm [] hE rfl ?_ | refine vcall_A ?_); simp (maxSteps := 2000000) only [go_sem, hP, ↓reduceIte, Nat.reduceAdd, Nat.reduceMul, Nat.reduceEqDiff, Nat.reduceSub, Nat.reduceLeDiff, reduceCtorEq, List.append_eq, List.cons_append, List.nil_append, Cs.strip, C.strip, Es.strip, strip_eI, Bool.and_false, Bool.and_self, Bool.false_and, Bool.false_eq_true, List.length_append, List.length_take, List.length_drop, List.length_cons, List.length_nil, Int.toNat_zero, ite_self, d0, ht1, ht2,  tj, List.length_map])
          | refine ev_skip ?_ | refine ev_block ?_ | refine ev_blk ?_ | refine ev_ret ?_ | refine ev_exit ?_ | refine evx_code_ret ?_ | refine evx_blk_ret ?_ | refine evx_lp_ret ?_
          | refine evx_code_exit ?_ | refine evx_lp_exit ?_ | refine evx_blk_hit ?_ | refine evx_blk_pass (by decide) ?_
          | refine And.intro ?_ ?_ | intro _ | decide +kernel | omega)
        all_goals first
          | exact ev_lp 1 [(100000, some 40992)] (by omega) (by omega) (by simp only [go_sem, hP, ↓reduceIte, Nat.reduceAdd, Nat.reduceMul, Nat.reduceEqDiff, Nat.reduceSub, Nat.reduceLeDiff, reduceCtorEq]; rw [hst]; simp [hw1 hlt, Es.strip, eEntry_eq, show IntKind.i64.wrap 1 = 1 from rfl, List.map_take, List.map_drop, ht1, ht2])
          | (exfalso; omega)
          | omega
          | (simp_all; done)
          | trace_state
      · repeat' (first
          | exact True.intro
          | refine ev_seq ?_
          | ((first | refine vgd_go ?_ | refine ev_region hE hM (hS (by decide +kernel)) ?_ | refine ev_if ?_ | refine end_ret hE rfl rfl ?_ | refine end_norm hE rfl rfl ?_ | refine endG_ret [] hE rfl ?_ | refine endG_norm [] hE rfl ?_ | refine vcall_A ?_); simp (maxSteps := 2000000) only [go_sem, hP, ↓reduceIte, Nat.reduceAdd, Nat.reduceMul, Nat.reduceEqDiff, Nat.reduceSub, Nat.reduceLeDiff, reduceCtorEq, List.append_eq, List.cons_append, List.nil_append, Cs.strip, C.strip, Es.strip, strip_eI, Bool.and_false, Bool.and_self, Bool.false_and, Bool.false_eq_true, List.length_append, List.length_take, List.length_drop, List.length_cons, List.length_nil, Int.toNat_zero, ite_self, d0, ht1, ht2,  tj, List.length_map])
          | refine ev_skip ?_ | refine ev_block ?_ | refine ev_blk ?_ | refine ev_ret ?_ | refine ev_exit ?_ | refine evx_code_ret ?_ | refine evx_blk_ret ?_ | refine evx_lp_ret ?_
          | refine evx_code_exit ?_ | refine evx_lp_exit ?_ | refine evx_blk_hit ?_ | refine evx_blk_pass (by decide) ?_
          | refine And.intro ?_ ?_ | intro _ | decide +kernel | omega)
        all_goals first
          | exact ev_lp (k + 1) [(100000, some 40992)] (by omega) (by omega) (by simp only [go_sem, hP, ↓reduceIte, Nat.reduceAdd, Nat.reduceMul, Nat.reduceEqDiff, Nat.reduceSub, Nat.reduceLeDiff, reduceCtorEq]; rw [hst]; simp [hw1 hlt, Es.strip, eEntry_eq, show IntKind.i64.wrap 1 = 1 from rfl, List.map_take, List.map_drop, ht1, ht2])
          | (exfalso; omega)
          | omega
          | (simp_all; done)
          | trace_state
  · have hke : k = xs.length := by omega
    subst hke
    have dl : decide ((xs.length : Int) < (xs.length : Int)) = false := by simp
    repeat' (first
      | exact True.intro
      | refine ev_seq ?_
      | ((first | refine vgd_go ?_ | refine ev_region hE hM (hS (by decide +kernel)) ?_ | refine ev_if ?_ | refine end_ret hE rfl rfl ?_ | refine end_norm hE rfl rfl ?_ | refine endG_ret [] hE rfl ?_ | refine endG_norm [] hE rfl ?_ | refine vcall_A ?_); simp (maxSteps := 2000000) only [go_sem, hP, ↓reduceIte, Nat.reduceAdd, Nat.reduceMul, Nat.reduceEqDiff, Nat.reduceSub, Nat.reduceLeDiff, reduceCtorEq, dl, List.take_length, List.length_map])
      | refine ev_skip ?_ | refine ev_block ?_ | refine ev_blk ?_ | refine ev_ret ?_ | refine ev_exit ?_ | refine evx_code_ret ?_ | refine evx_blk_ret ?_ | refine evx_lp_ret ?_
      | refine evx_code_exit ?_ | refine evx_lp_exit ?_ | refine evx_blk_hit ?_ | refine evx_blk_pass (by decide) ?_
      | refine And.intro ?_ ?_ | intro _ | decide +kernel | omega)
    all_goals first | (split <;> rfl) | (simp_all; done)
def saC (xs : List Entry) (d ax : Int) : Int := if esf xs d ≠ 0 then esf xs d else if inB ax 0 (d - 1) = false then 3 else 0
def saV (xs : List Entry) (d ax : Int) : List Entry := if saC xs d ax = 0 then sortE ax.toNat xs else []
theorem esf_len {xs : List Entry} {d : Int} (h : esf xs d = 0) : xs.length ≤ 10 ∧ 2 ≤ d ∧ d ≤ 3 := by
  unfold esf at h
  (repeat' split at h) <;> simp_all [inB] <;> omega
theorem saC_zero {xs : List Entry} {d ax : Int} (h : saC xs d ax = 0) : esf xs d = 0 ∧ 0 ≤ ax ∧ ax < d := by
  unfold saC at h
  split at h
  · rename_i h1; exact absurd h h1
  · split at h
    · omega
    · rename_i h1 h2; simp [inB] at h2; exact ⟨by simpa using h1, by omega⟩
theorem wEntryS_perm {xs ys : List Entry} (h : xs.Perm ys) : wEntryS xs = wEntryS ys := by
  unfold wEntryS
  have : ∀ xs ys : List Entry, xs.Perm ys → sumW wEntry xs = sumW wEntry ys := by
    intro xs ys h
    induction h with
    | nil => rfl
    | cons x _ ih => rw [show ∀ l, sumW wEntry (x :: l) = wEntry x + sumW wEntry l from fun _ => rfl, show ∀ l, sumW wEntry (x :: l) = wEntry x + sumW wEntry l from fun _ => rfl, ih]
    | swap x y l =>
      have e : ∀ (a : Entry) l, sumW wEntry (a :: l) = wEntry a + sumW wEntry l := fun _ _ => rfl
      rw [e, e, e, e]; omega
    | trans _ _ h1 h2 => rw [h1, h2]
  rw [this xs ys h, h.length_eq]
theorem saV_w (xs : List Entry) (d ax : Int) : wEntryS (saV xs d ax) ≤ 100 := by
  unfold saV; split
  · rename_i h
    have h1 := (saC_zero h).1
    have h2 := even_w (esf_rf h1)
    have h3 := esf_len h1
    rw [wEntryS_perm (sortE_perm _ _)]; omega
  · exact Nat.zero_le _
@[go_sem] abbrev aEsR (c : Int) (xs : List Entry) : Arg := .d (true, [.int .i64 c, sEntryS xs])
@[go_sem] abbrev rEsR (c : Int) (xs : List Entry) : List Dat := [(true, [.int .i64 c, oEntryS xs])]
@[go_sem] abbrev tEsR (c : Int) (a : Nat) : T := .agg [iT c, .ref a]
theorem s_specSortAxis (xs : List Entry) (d ax : Int) : Sat Try.prog 10 [aEntryS xs, aI d, aI ax] true (rEsR (saC xs d ax) (saV xs d ax)) := by
  refine sat_walk (fn := Try.f10) rfl rfl rfl (Nat.le_of_ble_eq_true rfl) fun fr hP hN hbnd => ?_
  have hE : (envOf fr Try.prog).Ok := envOf_ok hP
  have hM := follows_of hP
  have hS : ∀ {draw ops}, statB Try.f10.ntmps draw ops = true → statB (envOf fr Try.prog).fr.N draw ops = true := fun h => by rw [envOf_fr, hN]; exact h
  by_cases hz : esf xs d = 0
  · have h1 := esf_len hz
    have hw : IntKind.i64.wrap (d - 1) = d - 1 := i64_in _ (by omega)
    by_cases hq : inB ax 0 (d - 1) = true
    · have h2 : 0 ≤ ax ∧ ax ≤ d - 1 := by simpa [inB] using hq
      obtain ⟨a, rfl⟩ : ∃ a : Nat, ax = a := ⟨ax.toNat, by omega⟩
      have c1 := s_l5Sort xs a d.toNat (rf_even (esf_rf hz)) (by omega) (by omega) (by omega)
      have hs : saC xs d a = 0 := by unfold saC; rw [if_neg (by simpa using hz), if_neg (by simpa using hq)]
      have hv : saV xs d a = sortE a xs := by unfold saV; rw [if_pos hs]; simp
      have c2 := s_l3Entries (sortE a xs) (by rw [wEntryS_perm (sortE_perm _ _)]; have := even_w (esf_rf hz); omega)
      rw [hs, hv]
      repeat' (first
        | exact True.intro
        | refine ev_seq ?_
        | ((first | refine vgd_go ?_ | refine ev_region hE hM (hS (by decide +kernel)) ?_ | refine ev_if ?_ | refine end_ret hE rfl rfl ?_ | refine end_norm hE rfl rfl ?_ | refine endG_ret [] hE rfl ?_ | refine endG_norm [] hE rfl ?_ | refine vcallB_of hP (s_specEntriesFault xs d) ?_ | refine vcallB_of hP (s_l1In _ _ _) ?_ | refine vcallB_of hP c1 ?_ | refine vcallB_of hP c2 ?_ | refine vcall_A ?_); simp (maxSteps := 2000000) only [go_sem, hP, ↓reduceIte, Nat.reduceAdd, Nat.reduceMul, Nat.reduceEqDiff, Nat.reduceSub, Nat.reduceLeDiff, reduceCtorEq, hz, hw, hq])
        | refine ev_skip ?_ | refine ev_block ?_ | refine ev_blk ?_ | refine ev_ret ?_ | refine ev_exit ?_ | refine evx_code_ret ?_ | refine evx_blk_ret ?_ | refine evx_lp_ret ?_
        | refine evx_code_exit ?_ | refine evx_lp_exit ?_ | refine evx_blk_hit ?_ | refine evx_blk_pass (by decide) ?_
        | refine And.intro ?_ ?_ | intro _ | decide +kernel | omega)
      all_goals first | (exfalso; simp_all; done) | (simp_all; done)
    · have hs : saC xs d ax = 3 := by unfold saC; rw [if_neg (by simpa using hz), if_pos (by simpa using hq)]
      have hv : saV xs d ax = [] := by unfold saV; rw [if_neg (by omega)]
      have hq2 : inB ax 0 (d - 1) = false := by simpa using hq
      rw [hs, hv]
      repeat' (first
        | exact True.intro
        | refine ev_seq ?_
        | ((first | refine vgd_go ?_ | refine ev_region hE hM (hS (by decide +kernel)) ?_ | refine ev_if ?_ | refine end_ret hE rfl rfl ?_ | refine end_norm hE rfl rfl ?_ | refine endG_ret [] hE rfl ?_ | refine endG_norm [] hE rfl ?_ | refine vcallB_of hP (s_specEntriesFault xs d) ?_ | refine vcallB_of hP (s_l1In _ _ _) ?_ | refine vcall_A ?_); simp (maxSteps := 2000000) only [go_sem, hP, ↓reduceIte, Nat.reduceAdd, Nat.reduceMul, Nat.reduceEqDiff, Nat.reduceSub, Nat.reduceLeDiff, reduceCtorEq, hz, hw, hq2])
        | refine ev_skip ?_ | refine ev_block ?_ | refine ev_blk ?_ | refine ev_ret ?_ | refine ev_exit ?_ | refine evx_code_ret ?_ | refine evx_blk_ret ?_ | refine evx_lp_ret ?_
        | refine evx_code_exit ?_ | refine evx_lp_exit ?_ | refine evx_blk_hit ?_ | refine evx_blk_pass (by decide) ?_
        | refine And.intro ?_ ?_ | intro _ | decide +kernel | omega)
      all_goals first | (exfalso; simp_all; done) | (simp_all; done)
  · have hs : saC xs d ax = esf xs d := by unfold saC; rw [if_pos hz]
    have hv : saV xs d ax = [] := by unfold saV; rw [if_neg (by omega)]
    rw [hs, hv]
    repeat' (first
      | exact True.intro
      | refine ev_seq ?_
      | ((first | refine vgd_go ?_ | refine ev_region hE hM (hS (by decide +kernel)) ?_ | refine ev_if ?_ | refine end_ret hE rfl rfl ?_ | refine end_norm hE rfl rfl ?_ | refine endG_ret [] hE rfl ?_ | refine endG_norm [] hE rfl ?_ | refine vcallB_of hP (s_specEntriesFault xs d) ?_ | refine vcall_A ?_); simp (maxSteps := 2000000) only [go_sem, hP, ↓reduceIte, Nat.reduceAdd, Nat.reduceMul, Nat.reduceEqDiff, Nat.reduceSub, Nat.reduceLeDiff, reduceCtorEq])
      | refine ev_skip ?_ | refine ev_block ?_ | refine ev_blk ?_ | refine ev_ret ?_ | refine ev_exit ?_ | refine evx_code_ret ?_ | refine evx_blk_ret ?_ | refine evx_lp_ret ?_
      | refine evx_code_exit ?_ | refine evx_lp_exit ?_ | refine evx_blk_hit ?_ | refine evx_blk_pass (by decide) ?_
      | refine And.intro ?_ ?_ | intro _ | decide +kernel | omega)
    all_goals first | (exfalso; simp_all; done) | (simp_all; done)
theorem s_implSortAxis (xs : List Entry) (d ax : Int) : Sat Try.prog 7 [aEntryS xs, aI d, aI ax] true (rEsR (saC xs d ax) (saV xs d ax)) := by
  refine sat_walk (fn := Try.f7) rfl rfl rfl (Nat.le_of_ble_eq_true rfl) fun fr hP hN hbnd => ?_
  have hE : (envOf fr Try.prog).Ok := envOf_ok hP
  have hM := follows_of hP
  have hS : ∀ {draw ops}, statB Try.f7.ntmps draw ops = true → statB (envOf fr Try.prog).fr.N draw ops = true := fun h => by rw [envOf_fr, hN]; exact h
  by_cases hz : esf xs d = 0
  · have h1 := esf_len hz
    have hw : IntKind.i64.wrap (d - 1) = d - 1 := i64_in _ (by omega)
    by_cases hq : inB ax 0 (d - 1) = true
    · have h2 : 0 ≤ ax ∧ ax ≤ d - 1 := by simpa [inB] using hq
      obtain ⟨a, rfl⟩ : ∃ a : Nat, ax = a := ⟨ax.toNat, by omega⟩
      have c1 := s_sorted xs a d.toNat (rf_even (esf_rf hz)) (by omega) (by omega) (by omega)
      have hs : saC xs d a = 0 := by unfold saC; rw [if_neg (by simpa using hz), if_neg (by simpa using hq)]
      have hv : saV xs d a = sortE a xs := by unfold saV; rw [if_pos hs]; simp
      rw [hs, hv]
      repeat' (first
        | exact True.intro
        | refine ev_seq ?_
        | ((first | refine vgd_go ?_ | refine ev_region hE hM (hS (by decide +kernel)) ?_ | refine ev_if ?_ | refine end_ret hE rfl rfl ?_ | refine end_norm hE rfl rfl ?_ | refine endG_ret [] hE rfl ?_ | refine endG_norm [] hE rfl ?_ | refine vcallB_of hP (s_implEntriesFault xs d) ?_ | refine vcallB_of hP (s_within _ _ _) ?_ | refine vcallB_of hP c1 ?_ | refine vcall_A ?_); simp (maxSteps := 2000000) only [go_sem, hP, ↓reduceIte, Nat.reduceAdd, Nat.reduceMul, Nat.reduceEqDiff, Nat.reduceSub, Nat.reduceLeDiff, reduceCtorEq, hz, hw, hq])
        | refine ev_skip ?_ | refine ev_block ?_ | refine ev_blk ?_ | refine ev_ret ?_ | refine ev_exit ?_ | refine evx_code_ret ?_ | refine evx_blk_ret ?_ | refine evx_lp_ret ?_
        | refine evx_code_exit ?_ | refine evx_lp_exit ?_ | refine evx_blk_hit ?_ | refine evx_blk_pass (by decide) ?_
        | refine And.intro ?_ ?_ | intro _ | decide +kernel | omega)
      all_goals first | (exfalso; simp_all; done) | (simp_all; done)
    · have hs : saC xs d ax = 3 := by unfold saC; rw [if_neg (by simpa using hz), if_pos (by simpa using hq)]
      have hv : saV xs d ax = [] := by unfold saV; rw [if_neg (by omega)]
      have hq2 : inB ax 0 (d - 1) = false := by simpa using hq
      rw [hs, hv]
      repeat' (first
        | exact True.intro
        | refine ev_seq ?_
        | ((first | refine vgd_go ?_ | refine ev_region hE hM (hS (by decide +kernel)) ?_ | refine ev_if ?_ | refine end_ret hE rfl rfl ?_ | refine end_norm hE rfl rfl ?_ | refine endG_ret [] hE rfl ?_ | refine endG_norm [] hE rfl ?_ | refine vcallB_of hP (s_implEntriesFault xs d) ?_ | refine vcallB_of hP (s_within _ _ _) ?_ | refine vcall_A ?_); simp (maxSteps := 2000000) only [go_sem, hP, ↓reduceIte, Nat.reduceAdd, Nat.reduceMul, Nat.reduceEqDiff, Nat.reduceSub, Nat.reduceLeDiff, reduceCtorEq, hz, hw, hq2])
        | refine ev_skip ?_ | refine ev_block ?_ | refine ev_blk ?_ | refine ev_ret ?_ | refine ev_exit ?_ | refine evx_code_ret ?_ | refine evx_blk_ret ?_ | refine evx_lp_ret ?_
        | refine evx_code_exit ?_ | refine evx_lp_exit ?_ | refine evx_blk_hit ?_ | refine evx_blk_pass (by decide) ?_
        | refine And.intro ?_ ?_ | intro _ | decide +kernel | omega)
      all_goals first | (exfalso; simp_all; done) | (simp_all; done)
  · have hs : saC xs d ax = esf xs d := by unfold saC; rw [if_pos hz]
    have hv : saV xs d ax = [] := by unfold saV; rw [if_neg (by omega)]
    rw [hs, hv]
    repeat' (first
      | exact True.intro
      | refine ev_seq ?_
      | ((first | refine vgd_go ?_ | refine ev_region hE hM (hS (by decide +kernel)) ?_ | refine ev_if ?_ | refine end_ret hE rfl rfl ?_ | refine end_norm hE rfl rfl ?_ | refine endG_ret [] hE rfl ?_ | refine endG_norm [] hE rfl ?_ | refine vcallB_of hP (s_implEntriesFault xs d) ?_ | refine vcall_A ?_); simp (maxSteps := 2000000) only [go_sem, hP, ↓reduceIte, Nat.reduceAdd, Nat.reduceMul, Nat.reduceEqDiff, Nat.reduceSub, Nat.reduceLeDiff, reduceCtorEq])
      | refine ev_skip ?_ | refine ev_block ?_ | refine ev_blk ?_ | refine ev_ret ?_ | refine ev_exit ?_ | refine evx_code_ret ?_ | refine evx_blk_ret ?_ | refine evx_lp_ret ?_
      | refine evx_code_exit ?_ | refine evx_lp_exit ?_ | refine evx_blk_hit ?_ | refine evx_blk_pass (by decide) ?_
      | refine And.intro ?_ ?_ | intro _ | decide +kernel | omega)
    all_goals first | (exfalso; simp_all; done) | (simp_all; done)
theorem marginTo_in {r : Rect} {n : Nat} (hn : n ≤ 3) (h : ∀ k, k < n → -1000 ≤ r.low.getD k default ∧ r.low.getD k default ≤ r.high.getD k default ∧ r.high.getD k default ≤ 1000) : ∀ k, k ≤ n → 0 ≤ marginTo r k ∧ marginTo r k ≤ 2000 * k := fun k hk => by
  have := marginTo_mono (a := r) (b := r) hn h (fun k hk => by have := h k hk; omega) k hk
  omega
theorem margin_in {r : Rect} {d : Int} (h : rf r d = 0) : 0 ≤ margin r ∧ margin r ≤ 6000 := by
  have h3 := rf_three h
  have := marginTo_in h3 (fun k hk => rf_at h k hk) _ (Nat.le_refl _)
  unfold margin
  omega
def mgTo (ys : List Entry) : Nat → Int
  | 0 => 0
  | k + 1 => mgTo ys k + (margin (bx (ys.take (k + 2))) + margin (bx (ys.drop (k + 2))))
def mgF (xs : List Entry) (a : Nat) : Int := mgTo (sortE a xs) (xs.length - 3)
/-- The axis with the least margins among the first. -/
def bA (xs : List Entry) : Nat → Nat
  | 0 => 0
  | k + 1 => if k = 0 then 0 else if mgF xs k < mgF xs (bA xs k) then k else bA xs k
theorem mg_step {ys : List Entry} {d : Int} {k : Nat} (h : ∀ x ∈ ys, rf x.rect d = 0) (hk : k + 4 ≤ ys.length) :
    rf (bx (ys.take (k + 2))) d = 0 ∧ rf (bx (ys.drop (k + 2))) d = 0 ∧ 0 ≤ margin (bx (ys.take (k + 2))) ∧ margin (bx (ys.take (k + 2))) ≤ 6000 ∧ 0 ≤ margin (bx (ys.drop (k + 2))) ∧ margin (bx (ys.drop (k + 2))) ≤ 6000 := by
  have r1 := bx_rf (xs := ys.take (k + 2)) (d := d) (fun x hx => h x (List.mem_of_mem_take hx)) (by simp; omega)
  have r2 := bx_rf (xs := ys.drop (k + 2)) (d := d) (fun x hx => h x (List.mem_of_mem_drop hx)) (by simp; omega)
  exact ⟨r1, r2, (margin_in r1).1, (margin_in r1).2, (margin_in r2).1, (margin_in r2).2⟩
theorem mgTo_in {ys : List Entry} {d : Int} (h : ∀ x ∈ ys, rf x.rect d = 0) : ∀ k, k + 3 ≤ ys.length → 0 ≤ mgTo ys k ∧ mgTo ys k ≤ 12000 * k
  | 0, _ => by simp [mgTo]
  | k + 1, hk => by
    have ih := mgTo_in h k (by omega)
    have := mg_step (k := k) h (by omega)
    simp only [mgTo]
    omega
theorem sortE_rf {xs : List Entry} {d : Int} (ax : Nat) (h : ∀ x ∈ xs, rf x.rect d = 0) : ∀ x ∈ sortE ax xs, rf x.rect d = 0 := fun x hx => h x ((sortE_perm ax xs).mem_iff.1 hx)
theorem mgF_in {xs : List Entry} {d : Int} (h : ∀ x ∈ xs, rf x.rect d = 0) (h4 : 4 ≤ xs.length) (a : Nat) : 0 ≤ mgF xs a ∧ mgF xs a ≤ 12000 * (xs.length - 3 : Nat) := by
  unfold mgF
  exact mgTo_in (sortE_rf a h) _ (by rw [sortE_len]; omega)
theorem bA_lt (xs : List Entry) : ∀ k, 0 < k → bA xs k < k
  | 0, h => by omega
  | 1, _ => by simp [bA]
  | k + 2, _ => by
    have := bA_lt xs (k + 1) (by omega)
    unfold bA
    rw [if_neg (by omega)]
    split <;> omega
end Go.Proofs.Ytegohioalgikjaa.W
