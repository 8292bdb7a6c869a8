/- Contracts of functions that FnExactBusyIn reaches: what each returns; it writes to nothing of old. No condition but those that each theorem states. -/
import Derived.Test.YtcephdpooijciaaQa1
open Go Go.Vm Go.Proofs Go.IntWalk Go.RowKit
set_option maxRecDepth 100000
set_option maxHeartbeats 4000000
set_option linter.unusedSimpArgs false
set_option linter.unusedVariables false
set_option linter.unusedSectionVars false
namespace Go.Proofs.Ytcephdpooijciaa.W
attribute [local irreducible] kJ ev evx vops vstep vgo vgd vget vcall vcallFn vcallA vcallB vts vres vcond vbin
theorem s_markNoteS (xs : List Note) (k : Int) (h0 : 0 ≤ k) (h1 : k + sumW mwNote xs ≤ mMax) : SatG Try.prog 106 true [.ref 1, iT k] [gNotes 1 xs] (iT (k + sumW mwNote xs)) [gNotes 1 (markedNotes k xs)] := by
  refine satG_walk (fn := Try.f106) rfl rfl rfl (Nat.le_of_ble_eq_true rfl) (by simp) fun fr hP hN hdp hb1 hb2 => ?_
  have hE : (envOf fr Try.prog).Ok := envOf_ok hP
  have hM := follows_of hP
  have hS : ∀ {draw ops}, statB Try.f106.ntmps draw ops = true → statB (envOf fr Try.prog).fr.N draw ops = true := fun h => by rw [envOf_fr, hN]; exact h
  simp only [mMax] at h1
  have hY : ∀ b, (envOf fr Try.prog).fr.Y b → (envOf fr Try.prog).fr.X b := fun b hb => hdp rfl b hb
  have hlen : xs.length ≤ maxLen := by have := hb2.1.1; simpa using this
  repeat' (first
    | exact True.intro
    | refine ev_seq ?_
    | ((first | refine vgd_go ?_ | refine ev_region hE hM (hS (by decide +kernel)) ?_ | refine ev_if ?_ | refine end_ret hE rfl rfl ?_ | refine end_norm hE rfl rfl ?_ | refine endG_ret [] hE rfl ?_ | refine endG_norm [] hE rfl ?_ | refine vcall_A ?_); simp (maxSteps := 2000000) only [go_sem, hP, ↓reduceIte, Nat.reduceAdd, Nat.reduceMul, Nat.reduceEqDiff, Nat.reduceSub, Nat.reduceLeDiff, reduceCtorEq])
    | refine ev_skip ?_ | refine ev_block ?_ | refine ev_blk ?_ | refine ev_ret ?_ | refine ev_exit ?_ | refine evx_code_ret ?_ | refine evx_blk_ret ?_ | refine evx_lp_ret ?_
    | refine evx_code_exit ?_ | refine evx_lp_exit ?_ | refine evx_blk_hit ?_ | refine evx_blk_pass (by decide) ?_
    | refine And.intro ?_ ?_ | intro _ | decide +kernel | omega)
  refine ev_loop (ι := Nat) (fun j => [(0, .ref 1), (1, iT (kS mwNote k xs j)), (5, iT j)]) (fun j => [(1, .arr true 209 14 ((preS mkNote mwNote k xs j).map oNote ++ (xs.drop j).map oNote))]) (fun _ => [(0, .ref 1)]) (fun j => j ≤ xs.length) (fun j => xs.length - j) 0 [] (by omega) (by simp only [go_sem, hP, ↓reduceIte, Nat.reduceAdd, Nat.reduceMul, Nat.reduceEqDiff, Nat.reduceSub, Nat.reduceLeDiff, reduceCtorEq]; simp [kS_zero, preS_zero]) ?_
  intro j hj
  have hrow : ((preS mkNote mwNote k xs j).map oNote ++ (xs.drop j).map oNote).length = xs.length := by simp; omega
  repeat' (first
    | exact True.intro
    | refine ev_seq ?_
    | ((first | refine ev_stop 4 ?_ | refine vgd_go ?_ | refine ev_region hE hM (hS (by decide +kernel)) ?_ | refine ev_if ?_ | refine end_ret hE rfl rfl ?_ | refine end_norm hE rfl rfl ?_ | refine endG_ret [] hE rfl ?_ | refine endG_norm [] hE rfl ?_ | refine vcall_A ?_); simp (maxSteps := 2000000) only [go_sem, hP, ↓reduceIte, Nat.reduceAdd, Nat.reduceMul, Nat.reduceEqDiff, Nat.reduceSub, Nat.reduceLeDiff, reduceCtorEq, hrow])
    | refine ev_skip ?_ | refine ev_block ?_ | refine ev_blk ?_ | refine ev_ret ?_ | refine ev_exit ?_ | refine evx_code_ret ?_ | refine evx_blk_ret ?_ | refine evx_lp_ret ?_
    | refine evx_code_exit ?_ | refine evx_lp_exit ?_ | refine evx_blk_hit ?_ | refine evx_blk_pass (by decide) ?_
    | refine And.intro ?_ ?_ | intro _ | decide +kernel | omega)
  · rename_i hlt
    have hlt' : j < xs.length := by omega
    have g1 := kS_le (w := mwNote) (k := k) (xs := xs) (j + 1)
    have g2 := kS_succ (w := mwNote) (k := k) hlt'
    have g3 := kS_ge (w := mwNote) (k := k) (xs := xs) j
    have g4 : mwNote (xs.getD j default) = 8 + (xs.getD j default).op.pair.rect.low.length + (xs.getD j default).op.pair.rect.high.length + (xs.getD j default).op.query.rect.low.length + (xs.getD j default).op.query.rect.high.length + (xs.getD j default).op.query.point.length + wPs (xs.getD j default).answer.pairs := rfl
    have g6 : kS mwNote k xs (j + 1) = kS mwNote k xs j + 1 + 1 + 1 + 1 + 1 + (xs.getD j default).op.pair.rect.low.length + (xs.getD j default).op.pair.rect.high.length + 1 + (xs.getD j default).op.query.rect.low.length + (xs.getD j default).op.query.rect.high.length + (xs.getD j default).op.query.point.length + 1 + 1 + wPs (xs.getD j default).answer.pairs := by omega
    have hw1 : IntKind.i64.wrap (kS mwNote k xs j + 1) = kS mwNote k xs j + 1 := i64_in _ (by omega)
    have hw2 : IntKind.i64.wrap (kS mwNote k xs j + 1 + 1) = kS mwNote k xs j + 1 + 1 := i64_in _ (by omega)
    have hw3 : IntKind.i64.wrap (kS mwNote k xs j + 1 + 1 + 1) = kS mwNote k xs j + 1 + 1 + 1 := i64_in _ (by omega)
    have hw4 : IntKind.i64.wrap (kS mwNote k xs j + 1 + 1 + 1 + 1) = kS mwNote k xs j + 1 + 1 + 1 + 1 := i64_in _ (by omega)
    have hw5 : IntKind.i64.wrap (kS mwNote k xs j + 1 + 1 + 1 + 1 + 1) = kS mwNote k xs j + 1 + 1 + 1 + 1 + 1 := i64_in _ (by omega)
    have c5 := s_markInt64S (xs.getD j default).op.pair.rect.low (kS mwNote k xs j + 1 + 1 + 1 + 1 + 1) (by omega) (by simp only [mMax]; omega)
    have c6 := s_markInt64S (xs.getD j default).op.pair.rect.high (kS mwNote k xs j + 1 + 1 + 1 + 1 + 1 + (xs.getD j default).op.pair.rect.low.length) (by omega) (by simp only [mMax]; omega)
    have hw6 : IntKind.i64.wrap (kS mwNote k xs j + 1 + 1 + 1 + 1 + 1 + (xs.getD j default).op.pair.rect.low.length + (xs.getD j default).op.pair.rect.high.length + 1) = kS mwNote k xs j + 1 + 1 + 1 + 1 + 1 + (xs.getD j default).op.pair.rect.low.length + (xs.getD j default).op.pair.rect.high.length + 1 := i64_in _ (by omega)
    have c8 := s_markInt64S (xs.getD j default).op.query.rect.low (kS mwNote k xs j + 1 + 1 + 1 + 1 + 1 + (xs.getD j default).op.pair.rect.low.length + (xs.getD j default).op.pair.rect.high.length + 1) (by omega) (by simp only [mMax]; omega)
    have c9 := s_markInt64S (xs.getD j default).op.query.rect.high (kS mwNote k xs j + 1 + 1 + 1 + 1 + 1 + (xs.getD j default).op.pair.rect.low.length + (xs.getD j default).op.pair.rect.high.length + 1 + (xs.getD j default).op.query.rect.low.length) (by omega) (by simp only [mMax]; omega)
    have c10 := s_markInt64S (xs.getD j default).op.query.point (kS mwNote k xs j + 1 + 1 + 1 + 1 + 1 + (xs.getD j default).op.pair.rect.low.length + (xs.getD j default).op.pair.rect.high.length + 1 + (xs.getD j default).op.query.rect.low.length + (xs.getD j default).op.query.rect.high.length) (by omega) (by simp only [mMax]; omega)
    have hw7 : IntKind.i64.wrap (kS mwNote k xs j + 1 + 1 + 1 + 1 + 1 + (xs.getD j default).op.pair.rect.low.length + (xs.getD j default).op.pair.rect.high.length + 1 + (xs.getD j default).op.query.rect.low.length + (xs.getD j default).op.query.rect.high.length + (xs.getD j default).op.query.point.length + 1) = kS mwNote k xs j + 1 + 1 + 1 + 1 + 1 + (xs.getD j default).op.pair.rect.low.length + (xs.getD j default).op.pair.rect.high.length + 1 + (xs.getD j default).op.query.rect.low.length + (xs.getD j default).op.query.rect.high.length + (xs.getD j default).op.query.point.length + 1 := i64_in _ (by omega)
    have hw8 : IntKind.i64.wrap (kS mwNote k xs j + 1 + 1 + 1 + 1 + 1 + (xs.getD j default).op.pair.rect.low.length + (xs.getD j default).op.pair.rect.high.length + 1 + (xs.getD j default).op.query.rect.low.length + (xs.getD j default).op.query.rect.high.length + (xs.getD j default).op.query.point.length + 1 + 1) = kS mwNote k xs j + 1 + 1 + 1 + 1 + 1 + (xs.getD j default).op.pair.rect.low.length + (xs.getD j default).op.pair.rect.high.length + 1 + (xs.getD j default).op.query.rect.low.length + (xs.getD j default).op.query.rect.high.length + (xs.getD j default).op.query.point.length + 1 + 1 := i64_in _ (by omega)
    have c13 := s_markPairS (xs.getD j default).answer.pairs (kS mwNote k xs j + 1 + 1 + 1 + 1 + 1 + (xs.getD j default).op.pair.rect.low.length + (xs.getD j default).op.pair.rect.high.length + 1 + (xs.getD j default).op.query.rect.low.length + (xs.getD j default).op.query.rect.high.length + (xs.getD j default).op.query.point.length + 1 + 1) (by omega) (by simp only [mMax]; omega)
    first | refine Stop.mk ?_ | skip
    refine ev_cut [(0, .ref 1), (1, iT (kS mwNote k xs j)), (5, iT j)] [(1, .arr true 209 14 ((preS mkNote mwNote k xs j).map oNote ++ oNote (xs.getD j default) :: (xs.drop (j + 1)).map oNote))] [(0, .ref 1)] [] (by simp only [go_sem, hP, ↓reduceIte, Nat.reduceAdd, Nat.reduceMul, Nat.reduceEqDiff, Nat.reduceSub, Nat.reduceLeDiff, reduceCtorEq]; simp [drop_map hlt', oNote_eq]) ?_
    refine ev_open 1 3 ((preS mkNote mwNote k xs j).map oNote) ((xs.drop (j + 1)).map oNote) (oNote (xs.getD j default)) hY rfl (by simp only [go_sem, hP, ↓reduceIte, Nat.reduceAdd, Nat.reduceMul, Nat.reduceEqDiff, Nat.reduceSub, Nat.reduceLeDiff, reduceCtorEq] <;> simp) (by simp only [go_sem, hP, ↓reduceIte, Nat.reduceAdd, Nat.reduceMul, Nat.reduceEqDiff, Nat.reduceSub, Nat.reduceLeDiff, reduceCtorEq] <;> simp) ?_
    repeat' (first
      | exact True.intro
      | refine ev_seq ?_
      | ((first | refine ev_stop 25 ?_ | refine vgd_go ?_ | refine ev_region hE hM (hS (by decide +kernel)) ?_ | refine ev_if ?_ | refine end_ret hE rfl rfl ?_ | refine end_norm hE rfl rfl ?_ | refine endG_ret [] hE rfl ?_ | refine endG_norm [] hE rfl ?_ | refine vcallG_of (args := [.ref 5242883, _]) [(1, 5242883)] [] hP c5 ?_ | refine vcallG_of (args := [.ref 6291459, _]) [(1, 6291459)] [] hP c6 ?_ | refine vcallG_of (args := [.ref 8388611, _]) [(1, 8388611)] [] hP c8 ?_ | refine vcallG_of (args := [.ref 9437187, _]) [(1, 9437187)] [] hP c9 ?_ | refine vcallG_of (args := [.ref 10485763, _]) [(1, 10485763)] [] hP c10 ?_ | refine vcall_A ?_); simp (maxSteps := 2000000) only [go_sem, hP, ↓reduceIte, Nat.reduceAdd, Nat.reduceMul, Nat.reduceEqDiff, Nat.reduceSub, Nat.reduceLeDiff, reduceCtorEq, hw1, hw2, hw3, hw4, hw5, hw6, hw7, hw8, List.length_map, preS_length, List.length_drop])
      | refine ev_skip ?_ | refine ev_block ?_ | refine ev_blk ?_ | refine ev_ret ?_ | refine ev_exit ?_ | refine evx_code_ret ?_ | refine evx_blk_ret ?_ | refine evx_lp_ret ?_
      | refine evx_code_exit ?_ | refine evx_lp_exit ?_ | refine evx_blk_hit ?_ | refine evx_blk_pass (by decide) ?_
      | refine And.intro ?_ ?_ | intro _ | decide +kernel | omega)
    first | refine Stop.mk ?_ | skip
    refine ev_cut [(0, .ref 1), (1, iT (kS mwNote k xs j + 1 + 1 + 1 + 1 + 1 + (xs.getD j default).op.pair.rect.low.length + (xs.getD j default).op.pair.rect.high.length + 1 + (xs.getD j default).op.query.rect.low.length + (xs.getD j default).op.query.rect.high.length + (xs.getD j default).op.query.point.length + 1 + 1)), (5, iT j)] [(1, .opn 209 14 ((preS mkNote mwNote k xs j).map oNote) [iT (kS mwNote k xs j), iT (kS mwNote k xs j + 1), iT (kS mwNote k xs j + 1 + 1), iT (kS mwNote k xs j + 1 + 1 + 1), iT (kS mwNote k xs j + 1 + 1 + 1 + 1), .ref 5242883, .ref 6291459, iT (kS mwNote k xs j + 1 + 1 + 1 + 1 + 1 + (xs.getD j default).op.pair.rect.low.length + (xs.getD j default).op.pair.rect.high.length), .ref 8388611, .ref 9437187, .ref 10485763, iT (kS mwNote k xs j + 1 + 1 + 1 + 1 + 1 + (xs.getD j default).op.pair.rect.low.length + (xs.getD j default).op.pair.rect.high.length + 1 + (xs.getD j default).op.query.rect.low.length + (xs.getD j default).op.query.rect.high.length + (xs.getD j default).op.query.point.length), iT (kS mwNote k xs j + 1 + 1 + 1 + 1 + 1 + (xs.getD j default).op.pair.rect.low.length + (xs.getD j default).op.pair.rect.high.length + 1 + (xs.getD j default).op.query.rect.low.length + (xs.getD j default).op.query.rect.high.length + (xs.getD j default).op.query.point.length + 1), .ref 13631491] ((xs.drop (j + 1)).map oNote)), gI 5242883 (markedI (kS mwNote k xs j + 1 + 1 + 1 + 1 + 1) (xs.getD j default).op.pair.rect.low.length), gI 6291459 (markedI (kS mwNote k xs j + 1 + 1 + 1 + 1 + 1 + (xs.getD j default).op.pair.rect.low.length) (xs.getD j default).op.pair.rect.high.length), gI 8388611 (markedI (kS mwNote k xs j + 1 + 1 + 1 + 1 + 1 + (xs.getD j default).op.pair.rect.low.length + (xs.getD j default).op.pair.rect.high.length + 1) (xs.getD j default).op.query.rect.low.length), gI 9437187 (markedI (kS mwNote k xs j + 1 + 1 + 1 + 1 + 1 + (xs.getD j default).op.pair.rect.low.length + (xs.getD j default).op.pair.rect.high.length + 1 + (xs.getD j default).op.query.rect.low.length) (xs.getD j default).op.query.rect.high.length), gI 10485763 (markedI (kS mwNote k xs j + 1 + 1 + 1 + 1 + 1 + (xs.getD j default).op.pair.rect.low.length + (xs.getD j default).op.pair.rect.high.length + 1 + (xs.getD j default).op.query.rect.low.length + (xs.getD j default).op.query.rect.high.length) (xs.getD j default).op.query.point.length), gPs 13631491 (xs.getD j default).answer.pairs] [(0, .ref 1)] [] (by simp only [go_sem, hP, ↓reduceIte, Nat.reduceAdd, Nat.reduceMul, Nat.reduceEqDiff, Nat.reduceSub, Nat.reduceLeDiff, reduceCtorEq]) ?_
    repeat' (first
      | exact True.intro
      | refine ev_seq ?_
      | ((first | refine ev_regionC (id := 25) (pre := [_, _, _, _, _, _, _]) hE rfl (hS (by decide +kernel)) ?_ | refine vgd_go ?_ | refine ev_region hE hM (hS (by decide +kernel)) ?_ | refine ev_if ?_ | refine end_ret hE rfl rfl ?_ | refine end_norm hE rfl rfl ?_ | refine endG_ret [] hE rfl ?_ | refine endG_norm [] hE rfl ?_ | refine vcall_A ?_); simp (maxSteps := 2000000) only [go_sem, hP, ↓reduceIte, Nat.reduceAdd, Nat.reduceMul, Nat.reduceEqDiff, Nat.reduceSub, Nat.reduceLeDiff, reduceCtorEq, List.length_map, preS_length, List.length_drop])
      | refine ev_skip ?_ | refine ev_block ?_ | refine ev_blk ?_ | refine ev_ret ?_ | refine ev_exit ?_ | refine evx_code_ret ?_ | refine evx_blk_ret ?_ | refine evx_lp_ret ?_
      | refine evx_code_exit ?_ | refine evx_lp_exit ?_ | refine evx_blk_hit ?_ | refine evx_blk_pass (by decide) ?_
      | refine And.intro ?_ ?_ | intro _ | decide +kernel | omega)
    refine callM_of [(1, 13631491)] [] [(0, .ref 1), (5, iT j), (130, .ref 13631491), (131, iT (kS mwNote k xs j + 1 + 1 + 1 + 1 + 1 + (xs.getD j default).op.pair.rect.low.length + (xs.getD j default).op.pair.rect.high.length + 1 + (xs.getD j default).op.query.rect.low.length + (xs.getD j default).op.query.rect.high.length + (xs.getD j default).op.query.point.length + 1 + 1))] [(1, .opn 209 14 ((preS mkNote mwNote k xs j).map oNote) [iT (kS mwNote k xs j), iT (kS mwNote k xs j + 1), iT (kS mwNote k xs j + 1 + 1), iT (kS mwNote k xs j + 1 + 1 + 1), iT (kS mwNote k xs j + 1 + 1 + 1 + 1), .ref 5242883, .ref 6291459, iT (kS mwNote k xs j + 1 + 1 + 1 + 1 + 1 + (xs.getD j default).op.pair.rect.low.length + (xs.getD j default).op.pair.rect.high.length), .ref 8388611, .ref 9437187, .ref 10485763, iT (kS mwNote k xs j + 1 + 1 + 1 + 1 + 1 + (xs.getD j default).op.pair.rect.low.length + (xs.getD j default).op.pair.rect.high.length + 1 + (xs.getD j default).op.query.rect.low.length + (xs.getD j default).op.query.rect.high.length + (xs.getD j default).op.query.point.length), iT (kS mwNote k xs j + 1 + 1 + 1 + 1 + 1 + (xs.getD j default).op.pair.rect.low.length + (xs.getD j default).op.pair.rect.high.length + 1 + (xs.getD j default).op.query.rect.low.length + (xs.getD j default).op.query.rect.high.length + (xs.getD j default).op.query.point.length + 1), .ref 13631491] ((xs.drop (j + 1)).map oNote)), gI 5242883 (markedI (kS mwNote k xs j + 1 + 1 + 1 + 1 + 1) (xs.getD j default).op.pair.rect.low.length), gI 6291459 (markedI (kS mwNote k xs j + 1 + 1 + 1 + 1 + 1 + (xs.getD j default).op.pair.rect.low.length) (xs.getD j default).op.pair.rect.high.length), gI 8388611 (markedI (kS mwNote k xs j + 1 + 1 + 1 + 1 + 1 + (xs.getD j default).op.pair.rect.low.length + (xs.getD j default).op.pair.rect.high.length + 1) (xs.getD j default).op.query.rect.low.length), gI 9437187 (markedI (kS mwNote k xs j + 1 + 1 + 1 + 1 + 1 + (xs.getD j default).op.pair.rect.low.length + (xs.getD j default).op.pair.rect.high.length + 1 + (xs.getD j default).op.query.rect.low.length) (xs.getD j default).op.query.rect.high.length), gI 10485763 (markedI (kS mwNote k xs j + 1 + 1 + 1 + 1 + 1 + (xs.getD j default).op.pair.rect.low.length + (xs.getD j default).op.pair.rect.high.length + 1 + (xs.getD j default).op.query.rect.low.length + (xs.getD j default).op.query.rect.high.length) (xs.getD j default).op.query.point.length), gPs 13631491 (xs.getD j default).answer.pairs] [(0, .ref 1)] hP c13 hY rfl rfl (by rw [envOf_fr, hN]; decide) (by simp only [go_sem, hP, ↓reduceIte, Nat.reduceAdd, Nat.reduceMul, Nat.reduceEqDiff, Nat.reduceSub, Nat.reduceLeDiff, reduceCtorEq]) rfl rfl (by simp only [go_sem, hP, ↓reduceIte, Nat.reduceAdd, Nat.reduceMul, Nat.reduceEqDiff, Nat.reduceSub, Nat.reduceLeDiff, reduceCtorEq] <;> simp) (by simp only [go_sem, hP, ↓reduceIte, Nat.reduceAdd, Nat.reduceMul, Nat.reduceEqDiff, Nat.reduceSub, Nat.reduceLeDiff, reduceCtorEq] <;> simp) ?_
    simp only [go_sem, hP, ↓reduceIte, Nat.reduceAdd, Nat.reduceMul, Nat.reduceEqDiff, Nat.reduceSub, Nat.reduceLeDiff, reduceCtorEq]
    repeat' (first
      | exact True.intro
      | refine ev_seq ?_
      | ((first | refine vgd_go ?_ | refine ev_region hE hM (hS (by decide +kernel)) ?_ | refine ev_if ?_ | refine end_ret hE rfl rfl ?_ | refine end_norm hE rfl rfl ?_ | refine endG_ret [] hE rfl ?_ | refine endG_norm [] hE rfl ?_ | refine vcall_A ?_); simp (maxSteps := 2000000) only [go_sem, hP, ↓reduceIte, Nat.reduceAdd, Nat.reduceMul, Nat.reduceEqDiff, Nat.reduceSub, Nat.reduceLeDiff, reduceCtorEq])
      | refine ev_skip ?_ | refine ev_block ?_ | refine ev_blk ?_ | refine ev_ret ?_ | refine ev_exit ?_ | refine evx_code_ret ?_ | refine evx_blk_ret ?_ | refine evx_lp_ret ?_
      | refine evx_code_exit ?_ | refine evx_lp_exit ?_ | refine evx_blk_hit ?_ | refine evx_blk_pass (by decide) ?_
      | refine And.intro ?_ ?_ | intro _ | decide +kernel | omega)
    refine ev_cut [(0, .ref 1), (1, iT (kS mwNote k xs (j + 1))), (5, iT (j + 1 : Nat))] [(1, .opn 209 14 ((preS mkNote mwNote k xs j).map oNote) [iT (kS mwNote k xs j), iT (kS mwNote k xs j + 1), iT (kS mwNote k xs j + 1 + 1), iT (kS mwNote k xs j + 1 + 1 + 1), iT (kS mwNote k xs j + 1 + 1 + 1 + 1), .ref 5242883, .ref 6291459, iT (kS mwNote k xs j + 1 + 1 + 1 + 1 + 1 + (xs.getD j default).op.pair.rect.low.length + (xs.getD j default).op.pair.rect.high.length), .ref 8388611, .ref 9437187, .ref 10485763, iT (kS mwNote k xs j + 1 + 1 + 1 + 1 + 1 + (xs.getD j default).op.pair.rect.low.length + (xs.getD j default).op.pair.rect.high.length + 1 + (xs.getD j default).op.query.rect.low.length + (xs.getD j default).op.query.rect.high.length + (xs.getD j default).op.query.point.length), iT (kS mwNote k xs j + 1 + 1 + 1 + 1 + 1 + (xs.getD j default).op.pair.rect.low.length + (xs.getD j default).op.pair.rect.high.length + 1 + (xs.getD j default).op.query.rect.low.length + (xs.getD j default).op.query.rect.high.length + (xs.getD j default).op.query.point.length + 1), .ref 13631491] ((xs.drop (j + 1)).map oNote)), gI 5242883 (markedI (kS mwNote k xs j + 1 + 1 + 1 + 1 + 1) (xs.getD j default).op.pair.rect.low.length), gI 6291459 (markedI (kS mwNote k xs j + 1 + 1 + 1 + 1 + 1 + (xs.getD j default).op.pair.rect.low.length) (xs.getD j default).op.pair.rect.high.length), gI 8388611 (markedI (kS mwNote k xs j + 1 + 1 + 1 + 1 + 1 + (xs.getD j default).op.pair.rect.low.length + (xs.getD j default).op.pair.rect.high.length + 1) (xs.getD j default).op.query.rect.low.length), gI 9437187 (markedI (kS mwNote k xs j + 1 + 1 + 1 + 1 + 1 + (xs.getD j default).op.pair.rect.low.length + (xs.getD j default).op.pair.rect.high.length + 1 + (xs.getD j default).op.query.rect.low.length) (xs.getD j default).op.query.rect.high.length), gI 10485763 (markedI (kS mwNote k xs j + 1 + 1 + 1 + 1 + 1 + (xs.getD j default).op.pair.rect.low.length + (xs.getD j default).op.pair.rect.high.length + 1 + (xs.getD j default).op.query.rect.low.length + (xs.getD j default).op.query.rect.high.length) (xs.getD j default).op.query.point.length), gPs 13631491 (markedPs (kS mwNote k xs j + 1 + 1 + 1 + 1 + 1 + (xs.getD j default).op.pair.rect.low.length + (xs.getD j default).op.pair.rect.high.length + 1 + (xs.getD j default).op.query.rect.low.length + (xs.getD j default).op.query.rect.high.length + (xs.getD j default).op.query.point.length + 1 + 1) (xs.getD j default).answer.pairs)] [(0, .ref 1)] [] (by simp only [go_sem, hP, ↓reduceIte, Nat.reduceAdd, Nat.reduceMul, Nat.reduceEqDiff, Nat.reduceSub, Nat.reduceLeDiff, reduceCtorEq]; simp [g6, wrap_nat hlt' hlen]) ?_
    refine ev_close 1 [(0, 0), (0, 0), (0, 0), (0, 0), (0, 0), (0, 0), (0, 0), (0, 0), (0, 0), (0, 0), (0, 0), (0, 0), (0, 0), (0, 0)] (oNote (mkNote (kS mwNote k xs j) (xs.getD j default))) [5242883, 6291459, 8388611, 9437187, 10485763, 13631491] rfl rfl (by decide) (by decide) ?_
    exact ev_lp (j + 1) [] (by omega) (by omega) (by simp only [go_sem, hP, ↓reduceIte, Nat.reduceAdd, Nat.reduceMul, Nat.reduceEqDiff, Nat.reduceSub, Nat.reduceLeDiff, reduceCtorEq]; simp [preS_succ, oNote_eq])
  · obtain rfl : j = xs.length := by omega
    exact kS_done
  · obtain rfl : j = xs.length := by omega
    simp [markedNotes]
def bS (k : Int) (n : Nat) : List Bool := (List.range n).map fun (i : Nat) => ((k + i).tmod 3 == 0)
def mixB (k : Int) (xs : List Bool) (j : Nat) : List Bool := bS k j ++ xs.drop j
theorem mixB_length {k : Int} {xs : List Bool} {j : Nat} (h : j ≤ xs.length) : (mixB k xs j).length = xs.length := by simp [mixB, bS]; omega
theorem mixB_set {k : Int} {xs : List Bool} {j : Nat} (h : j < xs.length) : (mixB k xs j).set j ((k + j).tmod 3 == 0) = mixB k xs (j + 1) := by
  unfold mixB
  rw [List.drop_eq_getElem_cons h]
  have e : (bS k j).length = j := by simp [bS]
  have e2 : bS k (j + 1) = bS k j ++ [(k + j).tmod 3 == 0] := by simp [bS, List.range_succ]
  rw [List.set_append_right (h := by omega), e, Nat.sub_self, List.set_cons_zero, e2, List.append_assoc]; rfl
theorem mixB_set_map {k : Int} {xs : List Bool} {j : Nat} (h : j < xs.length) : ((mixB k xs j).map eB).set j (eB ((k + j).tmod 3 == 0)) = (mixB k xs (j + 1)).map eB := by rw [← mixB_set h, List.map_set]
@[go_sem] abbrev gB (κ : Nat) (xs : List Bool) : Nat × Blk := (κ, .arr true 4 1 (xs.map eB))
theorem s_markBoolS (xs : List Bool) (k : Int) (h0 : 0 ≤ k) (h1 : k + xs.length ≤ mMax) : SatG Try.prog 105 false [.ref 1, iT k] [gB 1 xs] (iT (k + xs.length)) [gB 1 (bS k xs.length)] := by
  refine satG_walk (fn := Try.f105) rfl rfl rfl (Nat.le_of_ble_eq_true rfl) (by simp) fun fr hP hN hdp hb1 hb2 => ?_
  have hE : (envOf fr Try.prog).Ok := envOf_ok hP
  have hM := follows_of hP
  have hS : ∀ {draw ops}, statB Try.f105.ntmps draw ops = true → statB (envOf fr Try.prog).fr.N draw ops = true := fun h => by rw [envOf_fr, hN]; exact h
  simp only [mMax] at h1
  repeat' (first
    | exact True.intro
    | refine ev_seq ?_
    | ((first | refine vgd_go ?_ | refine ev_region hE hM (hS (by decide +kernel)) ?_ | refine ev_if ?_ | refine end_ret hE rfl rfl ?_ | refine end_norm hE rfl rfl ?_ | refine endG_ret [] hE rfl ?_ | refine endG_norm [] hE rfl ?_ | refine vcall_A ?_); simp (maxSteps := 2000000) only [go_sem, hP, ↓reduceIte, Nat.reduceAdd, Nat.reduceMul, Nat.reduceEqDiff, Nat.reduceSub, Nat.reduceLeDiff, reduceCtorEq])
    | refine ev_skip ?_ | refine ev_block ?_ | refine ev_blk ?_ | refine ev_ret ?_ | refine ev_exit ?_ | refine evx_code_ret ?_ | refine evx_blk_ret ?_ | refine evx_lp_ret ?_
    | refine evx_code_exit ?_ | refine evx_lp_exit ?_ | refine evx_blk_hit ?_ | refine evx_blk_pass (by decide) ?_
    | refine And.intro ?_ ?_ | intro _ | decide +kernel | omega)
  refine ev_loop (ι := Nat) (fun j => [(0, .ref 1), (1, iT (k + j)), (5, iT j)]) (fun j => [gB 1 (mixB k xs j)]) (fun _ => [(0, .ref 1)]) (fun j => j ≤ xs.length) (fun j => xs.length - j) 0 [] (by omega) (by simp only [go_sem, hP, ↓reduceIte, Nat.reduceAdd, Nat.reduceMul, Nat.reduceEqDiff, Nat.reduceSub, Nat.reduceLeDiff, reduceCtorEq]; simp [mixB, bS]) ?_
  intro j hj
  have hw : j < xs.length → IntKind.i64.wrap (k + j + 1) = k + j + 1 := fun h => i64_in _ (by omega)
  repeat' (first
    | exact True.intro
    | refine ev_seq ?_
    | ((first | refine vgd_go ?_ | refine ev_region hE hM (hS (by decide +kernel)) ?_ | refine ev_if ?_ | refine end_ret hE rfl rfl ?_ | refine end_norm hE rfl rfl ?_ | refine endG_ret [] hE rfl ?_ | refine endG_norm [] hE rfl ?_ | refine vcall_A ?_); simp (maxSteps := 2000000) only [go_sem, hP, ↓reduceIte, Nat.reduceAdd, Nat.reduceMul, Nat.reduceEqDiff, Nat.reduceSub, Nat.reduceLeDiff, reduceCtorEq, mixB_length hj, Int.reduceEq])
    | refine ev_skip ?_ | refine ev_block ?_ | refine ev_blk ?_ | refine ev_ret ?_ | refine ev_exit ?_ | refine evx_code_ret ?_ | refine evx_blk_ret ?_ | refine evx_lp_ret ?_
    | refine evx_code_exit ?_ | refine evx_lp_exit ?_ | refine evx_blk_hit ?_ | refine evx_blk_pass (by decide) ?_
    | refine And.intro ?_ ?_ | intro _ | decide +kernel | omega)
  all_goals first
    | exact ev_lp (j + 1) [] (by omega) (by omega) (by simp only [go_sem, hP, ↓reduceIte, Nat.reduceAdd, Nat.reduceMul, Nat.reduceEqDiff, Nat.reduceSub, Nat.reduceLeDiff, reduceCtorEq]; have e1 := hw (by omega); have e2 := mixB_set_map (k := k) (xs := xs) (j := j) (by omega); have e3 : IntKind.i64.wrap ((j : Int) + 1) = j + 1 := i64_in _ (by omega); simp only [eB] at e2 ⊢; rw [e1, e3, e2]; simp; omega)
    | (obtain rfl : j = xs.length := by omega
       simp [mixB]; done)
    | (exfalso; omega)
@[go_sem] abbrev tState (s : State) (x y z p b c n : Nat) : T := .agg [iT s.tree.style, iT s.tree.arena.dims, .ref x, .ref y, .ref z, iT s.tree.root, iT s.tree.rootNsn, iT s.tree.counter, .ref p, iT s.latch, .ref b, .ref c, .ref n]
def mwState (s : State) : Nat := mwA s.tree.arena + wPs s.pairs + s.busy.length + s.codes.length + sumW mwNote s.notes
theorem s_markState (s : State) (k : Int) (h0 : 0 ≤ k) (h1 : k + mwState s ≤ mMax) : SatG Try.prog 40 true [tState s 1 2 3 4 5 6 7, iT k] (gA 1 2 3 s.tree.arena ++ [gPs 4 s.pairs, gB 5 s.busy, gI 6 s.codes, gNotes 7 s.notes]) (iT (mwAI k s.tree.arena + wPs s.pairs + s.busy.length + s.codes.length + sumW mwNote s.notes)) (gA 1 2 3 (markedA k s.tree.arena) ++ [gPs 4 (markedPs (mwAI k s.tree.arena) s.pairs), gB 5 (bS (mwAI k s.tree.arena + wPs s.pairs) s.busy.length), gI 6 (markedI (mwAI k s.tree.arena + wPs s.pairs + s.busy.length) s.codes.length), gNotes 7 (markedNotes (mwAI k s.tree.arena + wPs s.pairs + s.busy.length + s.codes.length) s.notes)]) := by
  refine satG_walk (fn := Try.f40) rfl rfl rfl (Nat.le_of_ble_eq_true rfl) (by simp) fun fr hP hN hdp hb1 hb2 => ?_
  have hE : (envOf fr Try.prog).Ok := envOf_ok hP
  have hM := follows_of hP
  have hS : ∀ {draw ops}, statB Try.f40.ntmps draw ops = true → statB (envOf fr Try.prog).fr.N draw ops = true := fun h => by rw [envOf_fr, hN]; exact h
  simp only [mMax, mwState, mwA] at h1
  have hY : ∀ b, (envOf fr Try.prog).fr.Y b → (envOf fr Try.prog).fr.X b := fun b hb => hdp rfl b hb
  have hA : mwAI k s.tree.arena = k + sumW mwNode s.tree.arena.nodes + s.tree.arena.free.length + sumW mwRetired s.tree.arena.retired := rfl
  have c1 := s_markTree s.tree k h0 (by simp only [mMax, mwA]; omega)
  have c2 := s_markPairS s.pairs (mwAI k s.tree.arena) (by omega) (by simp only [mMax]; omega)
  have c3 := s_markBoolS s.busy (mwAI k s.tree.arena + wPs s.pairs) (by omega) (by simp only [mMax]; omega)
  have c4 := s_markInt64S s.codes (mwAI k s.tree.arena + wPs s.pairs + s.busy.length) (by omega) (by simp only [mMax]; omega)
  have c5 := s_markNoteS s.notes (mwAI k s.tree.arena + wPs s.pairs + s.busy.length + s.codes.length) (by omega) (by simp only [mMax]; omega)
  repeat' (first
    | exact True.intro
    | refine ev_seq ?_
    | ((first | refine ev_stop 1 ?_ | refine vgd_go ?_ | refine ev_region hE hM (hS (by decide +kernel)) ?_ | refine ev_if ?_ | refine end_ret hE rfl rfl ?_ | refine end_norm hE rfl rfl ?_ | refine endG_ret [] hE rfl ?_ | refine endG_norm [] hE rfl ?_ | refine vcall_A ?_); simp (maxSteps := 2000000) only [go_sem, hP, ↓reduceIte, Nat.reduceAdd, Nat.reduceMul, Nat.reduceEqDiff, Nat.reduceSub, Nat.reduceLeDiff, reduceCtorEq, List.cons_append, List.nil_append, markedA, markedT])
    | refine ev_skip ?_ | refine ev_block ?_ | refine ev_blk ?_ | refine ev_ret ?_ | refine ev_exit ?_ | refine evx_code_ret ?_ | refine evx_blk_ret ?_ | refine evx_lp_ret ?_
    | refine evx_code_exit ?_ | refine evx_lp_exit ?_ | refine evx_blk_hit ?_ | refine evx_blk_pass (by decide) ?_
    | refine And.intro ?_ ?_ | intro _ | decide +kernel | omega)
  first | refine Stop.mk ?_ | skip
  refine ev_cut [(1, iT (k)), (2, .ptr 0 0)] [(0, .box [iT s.tree.style, iT s.tree.arena.dims, .ref 1, .ref 2, .ref 3, iT s.tree.root, iT s.tree.rootNsn, iT s.tree.counter, .ref 4, iT s.latch, .ref 5, .ref 6, .ref 7]), gNs 1 s.tree.arena.nodes, gI 2 s.tree.arena.free, gRets 3 s.tree.arena.retired, gPs 4 s.pairs, gB 5 s.busy, gI 6 s.codes, gNotes 7 s.notes] [(0, .ref 1), (1, .ref 2), (2, .ref 3), (3, .ref 4), (4, .ref 5), (5, .ref 6), (6, .ref 7)] [] (by simp only [go_sem, hP, ↓reduceIte, Nat.reduceAdd, Nat.reduceMul, Nat.reduceEqDiff, Nat.reduceSub, Nat.reduceLeDiff, reduceCtorEq, List.cons_append, List.nil_append, markedA]) ?_
  repeat' (first
    | exact True.intro
    | refine ev_seq ?_
    | ((first | refine ev_regionC (id := 1) (pre := [_, _, _]) hE rfl (hS (by decide +kernel)) ?_ | refine vgd_go ?_ | refine ev_region hE hM (hS (by decide +kernel)) ?_ | refine ev_if ?_ | refine end_ret hE rfl rfl ?_ | refine end_norm hE rfl rfl ?_ | refine endG_ret [] hE rfl ?_ | refine endG_norm [] hE rfl ?_ | refine vcall_A ?_); simp (maxSteps := 2000000) only [go_sem, hP, ↓reduceIte, Nat.reduceAdd, Nat.reduceMul, Nat.reduceEqDiff, Nat.reduceSub, Nat.reduceLeDiff, reduceCtorEq])
    | refine ev_skip ?_ | refine ev_block ?_ | refine ev_blk ?_ | refine ev_ret ?_ | refine ev_exit ?_ | refine evx_code_ret ?_ | refine evx_blk_ret ?_ | refine evx_lp_ret ?_
    | refine evx_code_exit ?_ | refine evx_lp_exit ?_ | refine evx_blk_hit ?_ | refine evx_blk_pass (by decide) ?_
    | refine And.intro ?_ ?_ | intro _ | decide +kernel | omega)
  refine callM_of [(1, 1), (2, 2), (3, 3)] [] [(2, .ptr 0 0), (6, tTree s.tree 1 2 3), (7, iT (k))] [(0, .box [iT s.tree.style, iT s.tree.arena.dims, .ref 1, .ref 2, .ref 3, iT s.tree.root, iT s.tree.rootNsn, iT s.tree.counter, .ref 4, iT s.latch, .ref 5, .ref 6, .ref 7]), gNs 1 s.tree.arena.nodes, gI 2 s.tree.arena.free, gRets 3 s.tree.arena.retired, gPs 4 s.pairs, gB 5 s.busy, gI 6 s.codes, gNotes 7 s.notes] [(0, .ref 1), (1, .ref 2), (2, .ref 3), (3, .ref 4), (4, .ref 5), (5, .ref 6), (6, .ref 7)] hP c1 hY rfl rfl (by rw [envOf_fr, hN]; decide) (by simp only [go_sem, hP, ↓reduceIte, Nat.reduceAdd, Nat.reduceMul, Nat.reduceEqDiff, Nat.reduceSub, Nat.reduceLeDiff, reduceCtorEq, List.cons_append, List.nil_append]) rfl rfl (by simp only [go_sem, hP, ↓reduceIte, Nat.reduceAdd, Nat.reduceMul, Nat.reduceEqDiff, Nat.reduceSub, Nat.reduceLeDiff, reduceCtorEq, List.cons_append, List.nil_append] <;> simp) (by simp only [go_sem, hP, ↓reduceIte, Nat.reduceAdd, Nat.reduceMul, Nat.reduceEqDiff, Nat.reduceSub, Nat.reduceLeDiff, reduceCtorEq] <;> simp) ?_
  simp only [go_sem, hP, ↓reduceIte, Nat.reduceAdd, Nat.reduceMul, Nat.reduceEqDiff, Nat.reduceSub, Nat.reduceLeDiff, reduceCtorEq, List.cons_append, List.nil_append]
  repeat' (first
    | exact True.intro
    | refine ev_seq ?_
    | ((first | refine ev_stop 2 ?_ | refine vgd_go ?_ | refine ev_region hE hM (hS (by decide +kernel)) ?_ | refine ev_if ?_ | refine end_ret hE rfl rfl ?_ | refine end_norm hE rfl rfl ?_ | refine endG_ret [] hE rfl ?_ | refine endG_norm [] hE rfl ?_ | refine vcall_A ?_); simp (maxSteps := 2000000) only [go_sem, hP, ↓reduceIte, Nat.reduceAdd, Nat.reduceMul, Nat.reduceEqDiff, Nat.reduceSub, Nat.reduceLeDiff, reduceCtorEq, List.cons_append, List.nil_append, markedA, markedT])
    | refine ev_skip ?_ | refine ev_block ?_ | refine ev_blk ?_ | refine ev_ret ?_ | refine ev_exit ?_ | refine evx_code_ret ?_ | refine evx_blk_ret ?_ | refine evx_lp_ret ?_
    | refine evx_code_exit ?_ | refine evx_lp_exit ?_ | refine evx_blk_hit ?_ | refine evx_blk_pass (by decide) ?_
    | refine And.intro ?_ ?_ | intro _ | decide +kernel | omega)
  first | refine Stop.mk ?_ | skip
  refine ev_cut [(1, iT (mwAI k s.tree.arena)), (2, .ptr 0 0)] [(0, .box [iT s.tree.style, iT s.tree.arena.dims, .ref 1, .ref 2, .ref 3, iT s.tree.root, iT s.tree.rootNsn, iT s.tree.counter, .ref 4, iT s.latch, .ref 5, .ref 6, .ref 7]), gNs 1 (markedA k s.tree.arena).nodes, gI 2 (markedA k s.tree.arena).free, gRets 3 (markedA k s.tree.arena).retired, gPs 4 s.pairs, gB 5 s.busy, gI 6 s.codes, gNotes 7 s.notes] [(0, .ref 1), (1, .ref 2), (2, .ref 3), (3, .ref 4), (4, .ref 5), (5, .ref 6), (6, .ref 7)] [] (by simp only [go_sem, hP, ↓reduceIte, Nat.reduceAdd, Nat.reduceMul, Nat.reduceEqDiff, Nat.reduceSub, Nat.reduceLeDiff, reduceCtorEq, List.cons_append, List.nil_append, markedA]) ?_
  repeat' (first
    | exact True.intro
    | refine ev_seq ?_
    | ((first | refine ev_regionC (id := 2) (pre := [_, _, _]) hE rfl (hS (by decide +kernel)) ?_ | refine vgd_go ?_ | refine ev_region hE hM (hS (by decide +kernel)) ?_ | refine ev_if ?_ | refine end_ret hE rfl rfl ?_ | refine end_norm hE rfl rfl ?_ | refine endG_ret [] hE rfl ?_ | refine endG_norm [] hE rfl ?_ | refine vcall_A ?_); simp (maxSteps := 2000000) only [go_sem, hP, ↓reduceIte, Nat.reduceAdd, Nat.reduceMul, Nat.reduceEqDiff, Nat.reduceSub, Nat.reduceLeDiff, reduceCtorEq])
    | refine ev_skip ?_ | refine ev_block ?_ | refine ev_blk ?_ | refine ev_ret ?_ | refine ev_exit ?_ | refine evx_code_ret ?_ | refine evx_blk_ret ?_ | refine evx_lp_ret ?_
    | refine evx_code_exit ?_ | refine evx_lp_exit ?_ | refine evx_blk_hit ?_ | refine evx_blk_pass (by decide) ?_
    | refine And.intro ?_ ?_ | intro _ | decide +kernel | omega)
  refine callM_of [(1, 4)] [] [(2, .ptr 0 0), (10, .ref 4), (11, iT (mwAI k s.tree.arena))] [(0, .box [iT s.tree.style, iT s.tree.arena.dims, .ref 1, .ref 2, .ref 3, iT s.tree.root, iT s.tree.rootNsn, iT s.tree.counter, .ref 4, iT s.latch, .ref 5, .ref 6, .ref 7]), gNs 1 (markedA k s.tree.arena).nodes, gI 2 (markedA k s.tree.arena).free, gRets 3 (markedA k s.tree.arena).retired, gPs 4 s.pairs, gB 5 s.busy, gI 6 s.codes, gNotes 7 s.notes] [(0, .ref 1), (1, .ref 2), (2, .ref 3), (3, .ref 4), (4, .ref 5), (5, .ref 6), (6, .ref 7)] hP c2 hY rfl rfl (by rw [envOf_fr, hN]; decide) (by simp only [go_sem, hP, ↓reduceIte, Nat.reduceAdd, Nat.reduceMul, Nat.reduceEqDiff, Nat.reduceSub, Nat.reduceLeDiff, reduceCtorEq, List.cons_append, List.nil_append]) rfl rfl (by simp only [go_sem, hP, ↓reduceIte, Nat.reduceAdd, Nat.reduceMul, Nat.reduceEqDiff, Nat.reduceSub, Nat.reduceLeDiff, reduceCtorEq, List.cons_append, List.nil_append] <;> simp) (by simp only [go_sem, hP, ↓reduceIte, Nat.reduceAdd, Nat.reduceMul, Nat.reduceEqDiff, Nat.reduceSub, Nat.reduceLeDiff, reduceCtorEq] <;> simp) ?_
  simp only [go_sem, hP, ↓reduceIte, Nat.reduceAdd, Nat.reduceMul, Nat.reduceEqDiff, Nat.reduceSub, Nat.reduceLeDiff, reduceCtorEq, List.cons_append, List.nil_append]
  repeat' (first
    | exact True.intro
    | refine ev_seq ?_
    | ((first | refine ev_stop 5 ?_ | refine vgd_go ?_ | refine ev_region hE hM (hS (by decide +kernel)) ?_ | refine ev_if ?_ | refine end_ret hE rfl rfl ?_ | refine end_norm hE rfl rfl ?_ | refine endG_ret [] hE rfl ?_ | refine endG_norm [] hE rfl ?_ | refine vcallG_of (args := [.ref 5, _]) [(1, 5)] [] hP c3 ?_ | refine vcallG_of (args := [.ref 6, _]) [(1, 6)] [] hP c4 ?_ | refine vcall_A ?_); simp (maxSteps := 2000000) only [go_sem, hP, ↓reduceIte, Nat.reduceAdd, Nat.reduceMul, Nat.reduceEqDiff, Nat.reduceSub, Nat.reduceLeDiff, reduceCtorEq, List.cons_append, List.nil_append, markedA, markedT])
    | refine ev_skip ?_ | refine ev_block ?_ | refine ev_blk ?_ | refine ev_ret ?_ | refine ev_exit ?_ | refine evx_code_ret ?_ | refine evx_blk_ret ?_ | refine evx_lp_ret ?_
    | refine evx_code_exit ?_ | refine evx_lp_exit ?_ | refine evx_blk_hit ?_ | refine evx_blk_pass (by decide) ?_
    | refine And.intro ?_ ?_ | intro _ | decide +kernel | omega)
  first | refine Stop.mk ?_ | skip
  refine ev_cut [(1, iT (mwAI k s.tree.arena + wPs s.pairs + s.busy.length + s.codes.length)), (2, .ptr 0 0)] [(0, .box [iT s.tree.style, iT s.tree.arena.dims, .ref 1, .ref 2, .ref 3, iT s.tree.root, iT s.tree.rootNsn, iT s.tree.counter, .ref 4, iT s.latch, .ref 5, .ref 6, .ref 7]), gNs 1 (markedA k s.tree.arena).nodes, gI 2 (markedA k s.tree.arena).free, gRets 3 (markedA k s.tree.arena).retired, gPs 4 (markedPs (mwAI k s.tree.arena) s.pairs), gB 5 (bS (mwAI k s.tree.arena + wPs s.pairs) s.busy.length), gI 6 (markedI (mwAI k s.tree.arena + wPs s.pairs + s.busy.length) s.codes.length), gNotes 7 s.notes] [(0, .ref 1), (1, .ref 2), (2, .ref 3), (3, .ref 4), (4, .ref 5), (5, .ref 6), (6, .ref 7)] [] (by simp only [go_sem, hP, ↓reduceIte, Nat.reduceAdd, Nat.reduceMul, Nat.reduceEqDiff, Nat.reduceSub, Nat.reduceLeDiff, reduceCtorEq, List.cons_append, List.nil_append, markedA]) ?_
  repeat' (first
    | exact True.intro
    | refine ev_seq ?_
    | ((first | refine ev_regionC (id := 5) (pre := [_, _, _]) hE rfl (hS (by decide +kernel)) ?_ | refine vgd_go ?_ | refine ev_region hE hM (hS (by decide +kernel)) ?_ | refine ev_if ?_ | refine end_ret hE rfl rfl ?_ | refine end_norm hE rfl rfl ?_ | refine endG_ret [] hE rfl ?_ | refine endG_norm [] hE rfl ?_ | refine vcall_A ?_); simp (maxSteps := 2000000) only [go_sem, hP, ↓reduceIte, Nat.reduceAdd, Nat.reduceMul, Nat.reduceEqDiff, Nat.reduceSub, Nat.reduceLeDiff, reduceCtorEq])
    | refine ev_skip ?_ | refine ev_block ?_ | refine ev_blk ?_ | refine ev_ret ?_ | refine ev_exit ?_ | refine evx_code_ret ?_ | refine evx_blk_ret ?_ | refine evx_lp_ret ?_
    | refine evx_code_exit ?_ | refine evx_lp_exit ?_ | refine evx_blk_hit ?_ | refine evx_blk_pass (by decide) ?_
    | refine And.intro ?_ ?_ | intro _ | decide +kernel | omega)
  refine callM_of [(1, 7)] [] [(2, .ptr 0 0), (22, .ref 7), (23, iT (mwAI k s.tree.arena + wPs s.pairs + s.busy.length + s.codes.length))] [(0, .box [iT s.tree.style, iT s.tree.arena.dims, .ref 1, .ref 2, .ref 3, iT s.tree.root, iT s.tree.rootNsn, iT s.tree.counter, .ref 4, iT s.latch, .ref 5, .ref 6, .ref 7]), gNs 1 (markedA k s.tree.arena).nodes, gI 2 (markedA k s.tree.arena).free, gRets 3 (markedA k s.tree.arena).retired, gPs 4 (markedPs (mwAI k s.tree.arena) s.pairs), gB 5 (bS (mwAI k s.tree.arena + wPs s.pairs) s.busy.length), gI 6 (markedI (mwAI k s.tree.arena + wPs s.pairs + s.busy.length) s.codes.length), gNotes 7 s.notes] [(0, .ref 1), (1, .ref 2), (2, .ref 3), (3, .ref 4), (4, .ref 5), (5, .ref 6), (6, .ref 7)] hP c5 hY rfl rfl (by rw [envOf_fr, hN]; decide) (by simp only [go_sem, hP, ↓reduceIte, Nat.reduceAdd, Nat.reduceMul, Nat.reduceEqDiff, Nat.reduceSub, Nat.reduceLeDiff, reduceCtorEq, List.cons_append, List.nil_append]) rfl rfl (by simp only [go_sem, hP, ↓reduceIte, Nat.reduceAdd, Nat.reduceMul, Nat.reduceEqDiff, Nat.reduceSub, Nat.reduceLeDiff, reduceCtorEq, List.cons_append, List.nil_append] <;> simp) (by simp only [go_sem, hP, ↓reduceIte, Nat.reduceAdd, Nat.reduceMul, Nat.reduceEqDiff, Nat.reduceSub, Nat.reduceLeDiff, reduceCtorEq] <;> simp) ?_
  simp only [go_sem, hP, ↓reduceIte, Nat.reduceAdd, Nat.reduceMul, Nat.reduceEqDiff, Nat.reduceSub, Nat.reduceLeDiff, reduceCtorEq, List.cons_append, List.nil_append]
  repeat' (first
    | exact True.intro
    | refine ev_seq ?_
    | ((first | refine vgd_go ?_ | refine ev_region hE hM (hS (by decide +kernel)) ?_ | refine ev_if ?_ | refine end_ret hE rfl rfl ?_ | refine end_norm hE rfl rfl ?_ | refine endG_ret [] hE rfl ?_ | refine endG_norm [] hE rfl ?_ | refine vcall_A ?_); simp (maxSteps := 2000000) only [go_sem, hP, ↓reduceIte, Nat.reduceAdd, Nat.reduceMul, Nat.reduceEqDiff, Nat.reduceSub, Nat.reduceLeDiff, reduceCtorEq, List.cons_append, List.nil_append, markedA])
    | refine ev_skip ?_ | refine ev_block ?_ | refine ev_blk ?_ | refine ev_ret ?_ | refine ev_exit ?_ | refine evx_code_ret ?_ | refine evx_blk_ret ?_ | refine evx_lp_ret ?_
    | refine evx_code_exit ?_ | refine evx_lp_exit ?_ | refine evx_blk_hit ?_ | refine evx_blk_pass (by decide) ?_
    | refine And.intro ?_ ?_ | intro _ | decide +kernel | omega)
def busyTo (xs : List Bool) : Nat → List Int
  | 0 => []
  | k + 1 => if xs.getD k default = true then busyTo xs k ++ [(k : Int)] else busyTo xs k
theorem busyTo_len (xs : List Bool) : ∀ k, (busyTo xs k).length ≤ k
  | 0 => Nat.le_refl _
  | k + 1 => by
    have := busyTo_len xs k
    unfold busyTo; split
    · rw [List.length_append, List.length_singleton]; omega
    · omega
def biC (s : State) : Int := if (4 : Int) < s.busy.length then 2 else 0
def biV (s : State) : List Int := if biC s = 0 then busyTo s.busy s.busy.length else []
theorem biV_len (s : State) : (biV s).length ≤ 4 := by
  unfold biV; split
  · rename_i h
    have := busyTo_len s.busy s.busy.length
    unfold biC at h; split at h <;> omega
  · exact Nat.zero_le _
theorem s_specBusyIn (s : State) : Sat Try.prog 36 [aState s] true (rLR (biC s) (biV s)) := by
  refine sat_walk (fn := Try.f36) rfl rfl rfl (Nat.le_of_ble_eq_true rfl) fun fr hP hN hbnd => ?_
  have hE : (envOf fr Try.prog).Ok := envOf_ok hP
  have hM := follows_of hP
  have hS : ∀ {draw ops}, statB Try.f36.ntmps draw ops = true → statB (envOf fr Try.prog).fr.N draw ops = true := fun h => by rw [envOf_fr, hN]; exact h
  repeat' (first
    | exact True.intro
    | refine ev_seq ?_
    | ((first | refine vgd_go ?_ | refine ev_region hE hM (hS (by decide +kernel)) ?_ | refine ev_if ?_ | refine end_ret hE rfl rfl ?_ | refine end_norm hE rfl rfl ?_ | refine endG_ret [] hE rfl ?_ | refine endG_norm [] hE rfl ?_ | refine vcall_A ?_); simp (maxSteps := 2000000) only [go_sem, hP, ↓reduceIte, Nat.reduceAdd, Nat.reduceMul, Nat.reduceEqDiff, Nat.reduceSub, Nat.reduceLeDiff, reduceCtorEq])
    | refine ev_skip ?_ | refine ev_block ?_ | refine ev_blk ?_ | refine ev_ret ?_ | refine ev_exit ?_ | refine evx_code_ret ?_ | refine evx_blk_ret ?_ | refine evx_lp_ret ?_
    | refine evx_code_exit ?_ | refine evx_lp_exit ?_ | refine evx_blk_hit ?_ | refine evx_blk_pass (by decide) ?_
    | refine And.intro ?_ ?_ | intro _ | decide +kernel | omega)
  all_goals first
    | (simp_all [biC, biV]; done)
    | skip
  have hl : s.busy.length ≤ 4 := by omega
  have hc : biC s = 0 := by unfold biC; rw [if_neg (by omega)]
  have hv : biV s = busyTo s.busy s.busy.length := by unfold biV; rw [if_pos hc]
  rw [hc, hv]
  refine ev_loop (ι := Nat) (fun k => [(1, .ptr 0 0), (2, .ptr 8 0), (3, .ptr 12296 0), (4, iT k)]) (fun k => [(0, .box ((eState s).map .c)), (8, .box [iT 0, .nilS]), (12296, .box [iT 0, .ref 100000]), (100000, .arr true 2 1 ((busyTo s.busy k).map eI))]) (fun _ => []) (fun k => k ≤ s.busy.length) (fun k => s.busy.length - k) 0 [(100000, none)] (by omega) (by simp only [go_sem, hP, ↓reduceIte, Nat.reduceAdd, Nat.reduceMul, Nat.reduceEqDiff, Nat.reduceSub, Nat.reduceLeDiff, reduceCtorEq]; simp [busyTo]) ?_
  intro k hk
  have hw : k < s.busy.length → IntKind.i64.wrap ((k : Int) + 1) = k + 1 := fun h => i64_in _ (by omega)
  have hb := busyTo_len s.busy k
  by_cases hlt : k < s.busy.length
  · by_cases hg : s.busy.getD k default = true
    · repeat' (first
        | exact True.intro
        | refine ev_seq ?_
        | ((first | refine vgd_go ?_ | refine ev_region hE hM (hS (by decide +kernel)) ?_ | refine ev_if ?_ | refine end_ret hE rfl rfl ?_ | refine end_norm hE rfl rfl ?_ | refine endG_ret [] hE rfl ?_ | refine endG_norm [] hE rfl ?_ | refine vcall_A ?_); simp (maxSteps := 2000000) only [go_sem, hP, ↓reduceIte, Nat.reduceAdd, Nat.reduceMul, Nat.reduceEqDiff, Nat.reduceSub, Nat.reduceLeDiff, reduceCtorEq, Bool.and_self, List.length_map, hg])
        | refine ev_skip ?_ | refine ev_block ?_ | refine ev_blk ?_ | refine ev_ret ?_ | refine ev_exit ?_ | refine evx_code_ret ?_ | refine evx_blk_ret ?_ | refine evx_lp_ret ?_
        | refine evx_code_exit ?_ | refine evx_lp_exit ?_ | refine evx_blk_hit ?_ | refine evx_blk_pass (by decide) ?_
        | refine And.intro ?_ ?_ | intro _ | decide +kernel | omega)
      all_goals first
        | exact ev_lp (k + 1) [(100000, some 32800)] (by omega) (by omega) (by simp only [go_sem, hP, ↓reduceIte, Nat.reduceAdd, Nat.reduceMul, Nat.reduceEqDiff, Nat.reduceSub, Nat.reduceLeDiff, reduceCtorEq]; simp only [busyTo, hg, if_true]; simp [hw (by omega), eI])
        | (exfalso; omega)
        | omega
        | (simp_all; done)
    · have hg : s.busy.getD k default = false := by simpa using hg
      repeat' (first
        | exact True.intro
        | refine ev_seq ?_
        | ((first | refine vgd_go ?_ | refine ev_region hE hM (hS (by decide +kernel)) ?_ | refine ev_if ?_ | refine end_ret hE rfl rfl ?_ | refine end_norm hE rfl rfl ?_ | refine endG_ret [] hE rfl ?_ | refine endG_norm [] hE rfl ?_ | refine vcall_A ?_); simp (maxSteps := 2000000) only [go_sem, hP, ↓reduceIte, Nat.reduceAdd, Nat.reduceMul, Nat.reduceEqDiff, Nat.reduceSub, Nat.reduceLeDiff, reduceCtorEq, Bool.and_self, List.length_map, hg])
        | refine ev_skip ?_ | refine ev_block ?_ | refine ev_blk ?_ | refine ev_ret ?_ | refine ev_exit ?_ | refine evx_code_ret ?_ | refine evx_blk_ret ?_ | refine evx_lp_ret ?_
        | refine evx_code_exit ?_ | refine evx_lp_exit ?_ | refine evx_blk_hit ?_ | refine evx_blk_pass (by decide) ?_
        | refine And.intro ?_ ?_ | intro _ | decide +kernel | omega)
      all_goals first
        | exact ev_lp (k + 1) [(100000, some 100000)] (by omega) (by omega) (by simp only [go_sem, hP, ↓reduceIte, Nat.reduceAdd, Nat.reduceMul, Nat.reduceEqDiff, Nat.reduceSub, Nat.reduceLeDiff, reduceCtorEq]; simp only [busyTo, hg]; simp [hw (by omega)])
        | (exfalso; omega)
        | omega
        | (simp_all; done)
  · obtain rfl : k = s.busy.length := by omega
    repeat' (first
      | exact True.intro
      | refine ev_seq ?_
      | ((first | refine vgd_go ?_ | refine ev_region hE hM (hS (by decide +kernel)) ?_ | refine ev_if ?_ | refine end_ret hE rfl rfl ?_ | refine end_norm hE rfl rfl ?_ | refine endG_ret [] hE rfl ?_ | refine endG_norm [] hE rfl ?_ | refine vcall_A ?_); simp (maxSteps := 2000000) only [go_sem, hP, ↓reduceIte, Nat.reduceAdd, Nat.reduceMul, Nat.reduceEqDiff, Nat.reduceSub, Nat.reduceLeDiff, reduceCtorEq])
      | refine ev_skip ?_ | refine ev_block ?_ | refine ev_blk ?_ | refine ev_ret ?_ | refine ev_exit ?_ | refine evx_code_ret ?_ | refine evx_blk_ret ?_ | refine evx_lp_ret ?_
      | refine evx_code_exit ?_ | refine evx_lp_exit ?_ | refine evx_blk_hit ?_ | refine evx_blk_pass (by decide) ?_
      | refine And.intro ?_ ?_ | intro _ | decide +kernel | omega)
    all_goals first
      | rfl
      | (exfalso; omega)
theorem s_implBusyIn (s : State) : Sat Try.prog 38 [aState s] true (rLR (biC s) (biV s)) := by
  refine sat_walk (fn := Try.f38) rfl rfl rfl (Nat.le_of_ble_eq_true rfl) fun fr hP hN hbnd => ?_
  have hE : (envOf fr Try.prog).Ok := envOf_ok hP
  have hM := follows_of hP
  have hS : ∀ {draw ops}, statB Try.f38.ntmps draw ops = true → statB (envOf fr Try.prog).fr.N draw ops = true := fun h => by rw [envOf_fr, hN]; exact h
  repeat' (first
    | exact True.intro
    | refine ev_seq ?_
    | ((first | refine vgd_go ?_ | refine ev_region hE hM (hS (by decide +kernel)) ?_ | refine ev_if ?_ | refine end_ret hE rfl rfl ?_ | refine end_norm hE rfl rfl ?_ | refine endG_ret [] hE rfl ?_ | refine endG_norm [] hE rfl ?_ | refine vcall_A ?_); simp (maxSteps := 2000000) only [go_sem, hP, ↓reduceIte, Nat.reduceAdd, Nat.reduceMul, Nat.reduceEqDiff, Nat.reduceSub, Nat.reduceLeDiff, reduceCtorEq])
    | refine ev_skip ?_ | refine ev_block ?_ | refine ev_blk ?_ | refine ev_ret ?_ | refine ev_exit ?_ | refine evx_code_ret ?_ | refine evx_blk_ret ?_ | refine evx_lp_ret ?_
    | refine evx_code_exit ?_ | refine evx_lp_exit ?_ | refine evx_blk_hit ?_ | refine evx_blk_pass (by decide) ?_
    | refine And.intro ?_ ?_ | intro _ | decide +kernel | omega)
  all_goals first
    | (simp_all [biC, biV]; done)
    | skip
  have hl : s.busy.length ≤ 4 := by omega
  have hc : biC s = 0 := by unfold biC; rw [if_neg (by omega)]
  have hv : biV s = busyTo s.busy s.busy.length := by unfold biV; rw [if_pos hc]
  rw [hc, hv]
  refine ev_loop (ι := Nat) (fun k => [(2, .ptr 8 0), (3, .ref 100000), (13, .c (sB s.busy)), (14, iT s.busy.length), (15, iT k)]) (fun k => [(8, .box [iT 0, .nilS]), (100000, .arr true 2 1 ((busyTo s.busy k).map eI))]) (fun _ => []) (fun k => k ≤ s.busy.length) (fun k => s.busy.length - k) 0 [(100000, some 12288)] (by omega) (by simp only [go_sem, hP, ↓reduceIte, Nat.reduceAdd, Nat.reduceMul, Nat.reduceEqDiff, Nat.reduceSub, Nat.reduceLeDiff, reduceCtorEq]; simp [busyTo]) ?_
  intro k hk
  have hw : k < s.busy.length → IntKind.i64.wrap ((k : Int) + 1) = k + 1 := fun h => i64_in _ (by omega)
  have hb := busyTo_len s.busy k
  by_cases hlt : k < s.busy.length
  · by_cases hg : s.busy.getD k default = true
    · repeat' (first
        | exact True.intro
        | refine ev_seq ?_
        | ((first | refine vgd_go ?_ | refine ev_region hE hM (hS (by decide +kernel)) ?_ | refine ev_if ?_ | refine end_ret hE rfl rfl ?_ | refine end_norm hE rfl rfl ?_ | refine endG_ret [] hE rfl ?_ | refine endG_norm [] hE rfl ?_ | refine vcall_A ?_); simp (maxSteps := 2000000) only [go_sem, hP, ↓reduceIte, Nat.reduceAdd, Nat.reduceMul, Nat.reduceEqDiff, Nat.reduceSub, Nat.reduceLeDiff, reduceCtorEq, Bool.and_self, List.length_map, hg])
        | refine ev_skip ?_ | refine ev_block ?_ | refine ev_blk ?_ | refine ev_ret ?_ | refine ev_exit ?_ | refine evx_code_ret ?_ | refine evx_blk_ret ?_ | refine evx_lp_ret ?_
        | refine evx_code_exit ?_ | refine evx_lp_exit ?_ | refine evx_blk_hit ?_ | refine evx_blk_pass (by decide) ?_
        | refine And.intro ?_ ?_ | intro _ | decide +kernel | omega)
      all_goals first
        | exact ev_lp (k + 1) [(100000, some 32792)] (by omega) (by omega) (by simp only [go_sem, hP, ↓reduceIte, Nat.reduceAdd, Nat.reduceMul, Nat.reduceEqDiff, Nat.reduceSub, Nat.reduceLeDiff, reduceCtorEq]; simp only [busyTo, hg, if_true]; simp [hw (by omega), eI])
        | (exfalso; omega)
        | omega
        | (simp_all; done)
    · have hg : s.busy.getD k default = false := by simpa using hg
      repeat' (first
        | exact True.intro
        | refine ev_seq ?_
        | ((first | refine vgd_go ?_ | refine ev_region hE hM (hS (by decide +kernel)) ?_ | refine ev_if ?_ | refine end_ret hE rfl rfl ?_ | refine end_norm hE rfl rfl ?_ | refine endG_ret [] hE rfl ?_ | refine endG_norm [] hE rfl ?_ | refine vcall_A ?_); simp (maxSteps := 2000000) only [go_sem, hP, ↓reduceIte, Nat.reduceAdd, Nat.reduceMul, Nat.reduceEqDiff, Nat.reduceSub, Nat.reduceLeDiff, reduceCtorEq, Bool.and_self, List.length_map, hg])
        | refine ev_skip ?_ | refine ev_block ?_ | refine ev_blk ?_ | refine ev_ret ?_ | refine ev_exit ?_ | refine evx_code_ret ?_ | refine evx_blk_ret ?_ | refine evx_lp_ret ?_
        | refine evx_code_exit ?_ | refine evx_lp_exit ?_ | refine evx_blk_hit ?_ | refine evx_blk_pass (by decide) ?_
        | refine And.intro ?_ ?_ | intro _ | decide +kernel | omega)
      all_goals first
        | exact ev_lp (k + 1) [(100000, some 100000)] (by omega) (by omega) (by simp only [go_sem, hP, ↓reduceIte, Nat.reduceAdd, Nat.reduceMul, Nat.reduceEqDiff, Nat.reduceSub, Nat.reduceLeDiff, reduceCtorEq]; simp only [busyTo, hg]; simp [hw (by omega)])
        | (exfalso; omega)
        | omega
        | (simp_all; done)
  · obtain rfl : k = s.busy.length := by omega
    repeat' (first
      | exact True.intro
      | refine ev_seq ?_
      | ((first | refine vgd_go ?_ | refine ev_region hE hM (hS (by decide +kernel)) ?_ | refine ev_if ?_ | refine end_ret hE rfl rfl ?_ | refine end_norm hE rfl rfl ?_ | refine endG_ret [] hE rfl ?_ | refine endG_norm [] hE rfl ?_ | refine vcall_A ?_); simp (maxSteps := 2000000) only [go_sem, hP, ↓reduceIte, Nat.reduceAdd, Nat.reduceMul, Nat.reduceEqDiff, Nat.reduceSub, Nat.reduceLeDiff, reduceCtorEq])
      | refine ev_skip ?_ | refine ev_block ?_ | refine ev_blk ?_ | refine ev_ret ?_ | refine ev_exit ?_ | refine evx_code_ret ?_ | refine evx_blk_ret ?_ | refine evx_lp_ret ?_
      | refine evx_code_exit ?_ | refine evx_lp_exit ?_ | refine evx_blk_hit ?_ | refine evx_blk_pass (by decide) ?_
      | refine And.intro ?_ ?_ | intro _ | decide +kernel | omega)
    all_goals first
      | rfl
      | (exfalso; omega)
theorem mwNote_le {xs : List Note} : sumW mwNote xs ≤ 9 * wNoteS xs := by
  have : ∀ ys : List Note, sumW mwNote ys ≤ 9 * (sumW wNote ys + ys.length) := by
    intro ys
    induction ys with
    | nil => exact Nat.zero_le _
    | cons y ys ih =>
      have e1 : sumW mwNote (y :: ys) = mwNote y + sumW mwNote ys := rfl
      have e2 : sumW wNote (y :: ys) = wNote y + sumW wNote ys := rfl
      rw [e1, e2, List.length_cons]; simp only [mwNote, wNote, wOp, wQuery, wAnswer, wR]; omega
  have := this xs
  unfold wNoteS; omega
theorem mwState_le {s : State} : mwState s ≤ 9 * wState s := by
  have h1 := mwNote_le (xs := s.notes)
  have h2 := mwA_le (a := s.tree.arena)
  unfold mwState wState wTree; omega
theorem l_BusyIn (a : State) : Sat Try.prog 6 [aState a] true (rB true) := by
  refine sat_walkB (fn := Try.f6) rfl rfl rfl (Nat.le_of_ble_eq_true rfl) fun fr hP hN hYX hbnd => ?_
  have hE : (envOf fr Try.prog).Ok := envOf_ok hP
  have hM := follows_of hP
  have hS : ∀ {draw ops}, statB Try.f6.ntmps draw ops = true → statB (envOf fr Try.prog).fr.N draw ops = true := fun h => by rw [envOf_fr, hN]; exact h
  repeat' (first
    | exact True.intro
    | refine ev_seq ?_
    | ((first | refine ev_stop 13 ?_ | refine vgd_go ?_ | refine ev_region hE hM (hS (by decide +kernel)) ?_ | refine ev_if ?_ | refine end_ret hE rfl rfl ?_ | refine end_norm hE rfl rfl ?_ | refine endG_ret [] hE rfl ?_ | refine endG_norm [] hE rfl ?_ | refine vcallB_of hP (s_szState a _ (by omega) (by omega)) ?_ | refine vcallB_of hP (s_toState a (by simp only [lessN] at *; omega)) ?_ | refine vcallB_of hP (s_specBusyIn a) ?_ | refine vcallB_of hP (s_implBusyIn a) ?_ | refine vcallB_of hP (s_eqState a a) ?_ | refine vcallB_of hP (s_eqIntsResult _ _ _ _) ?_ | refine vcall_A ?_); simp (maxSteps := 2000000) only [go_sem, hP, ↓reduceIte, Nat.reduceAdd, Nat.reduceMul, Nat.reduceEqDiff, Nat.reduceSub, Nat.reduceLeDiff, reduceCtorEq])
    | refine ev_skip ?_ | refine ev_block ?_ | refine ev_blk ?_ | refine ev_ret ?_ | refine ev_exit ?_ | refine evx_code_ret ?_ | refine evx_blk_ret ?_ | refine evx_lp_ret ?_
    | refine evx_code_exit ?_ | refine evx_lp_exit ?_ | refine evx_blk_hit ?_ | refine evx_blk_pass (by decide) ?_
    | refine And.intro ?_ ?_ | intro _ | decide +kernel | omega)
  all_goals first | (exfalso; simp_all; done) | skip
  first | refine Stop.mk ?_ | skip
  have hw0 : wState a ≤ 1048576 := by simp only [lessN] at *; omega
  have hv := biV_len a
  have hm := mwState_le (s := a)
  have x0 := s_markState a 1 (by omega) (by simp only [mMax]; omega)
  have r1 := s_markIntsResult (biC a) (biV a) 1 (by omega) (by simp only [mMax]; omega)
  have r2 := s_heldIntsResult (biC a) (biV a).length 1 (by omega) (by simp only [mMax]; omega)
  refine ev_cut [(1, .ptr 0 0), (2, .c (.bool false)), (4, .ptr 20504 0), (5, .ptr 24592 0), (6, .ptr 28688 0), (7, iT 1)] [(0, .box [iT a.tree.style, iT a.tree.arena.dims, .ca (sNodeS a.tree.arena.nodes), .ca (sI a.tree.arena.free), .ca (sRetiredS a.tree.arena.retired), iT a.tree.root, iT a.tree.rootNsn, iT a.tree.counter, .ca (sP a.pairs), iT a.latch, .ca (sB a.busy), .ca (sI a.codes), .ca (sNoteS a.notes)]), (20504, .box [iT (biC a), .ref 1069072]), gI 1069072 (biV a), (24592, .box [iT a.tree.style, iT a.tree.arena.dims, .ref 2121736, .ref 3170312, .ref 4218888, iT a.tree.root, iT a.tree.rootNsn, iT a.tree.counter, .ref 8413192, iT a.latch, .ref 10510344, .ref 11558920, .ref 12607496]), gNs 2121736 a.tree.arena.nodes, gI 3170312 a.tree.arena.free, gRets 4218888 a.tree.arena.retired, gPs 8413192 a.pairs, gB 10510344 a.busy, gI 11558920 a.codes, gNotes 12607496 a.notes, (28688, .box [iT (biC a), .ref 1077256]), gI 1077256 (biV a)] [] [] (by simp only [go_sem, hP, ↓reduceIte, Nat.reduceAdd, Nat.reduceMul, Nat.reduceEqDiff, Nat.reduceSub, Nat.reduceLeDiff, reduceCtorEq, List.cons_append, List.nil_append]) ?_
  repeat' (first
    | exact True.intro
    | refine ev_seq ?_
    | ((first | refine ev_regionC (id := 13) (pre := [_, _]) hE rfl (hS (by decide +kernel)) ?_ | refine vgd_go ?_ | refine ev_region hE hM (hS (by decide +kernel)) ?_ | refine ev_if ?_ | refine end_ret hE rfl rfl ?_ | refine end_norm hE rfl rfl ?_ | refine endG_ret [] hE rfl ?_ | refine endG_norm [] hE rfl ?_ | refine vcall_A ?_); simp (maxSteps := 2000000) only [go_sem, hP, ↓reduceIte, Nat.reduceAdd, Nat.reduceMul, Nat.reduceEqDiff, Nat.reduceSub, Nat.reduceLeDiff, reduceCtorEq, List.cons_append, List.nil_append])
    | refine ev_skip ?_ | refine ev_block ?_ | refine ev_blk ?_ | refine ev_ret ?_ | refine ev_exit ?_ | refine evx_code_ret ?_ | refine evx_blk_ret ?_ | refine evx_lp_ret ?_
    | refine evx_code_exit ?_ | refine evx_lp_exit ?_ | refine evx_blk_hit ?_ | refine evx_blk_pass (by decide) ?_
    | refine And.intro ?_ ?_ | intro _ | decide +kernel | omega)
  refine callM_of [(1, 2121736), (2, 3170312), (3, 4218888), (4, 8413192), (5, 10510344), (6, 11558920), (7, 12607496)] [] [(1, .ptr 0 0), (2, .c (.bool false)), (4, .ptr 20504 0), (5, .ptr 24592 0), (6, .ptr 28688 0), (32, .agg [iT a.tree.style, iT a.tree.arena.dims, .ref 2121736, .ref 3170312, .ref 4218888, iT a.tree.root, iT a.tree.rootNsn, iT a.tree.counter, .ref 8413192, iT a.latch, .ref 10510344, .ref 11558920, .ref 12607496]), (33, iT 1)] [(0, .box [iT a.tree.style, iT a.tree.arena.dims, .ca (sNodeS a.tree.arena.nodes), .ca (sI a.tree.arena.free), .ca (sRetiredS a.tree.arena.retired), iT a.tree.root, iT a.tree.rootNsn, iT a.tree.counter, .ca (sP a.pairs), iT a.latch, .ca (sB a.busy), .ca (sI a.codes), .ca (sNoteS a.notes)]), (20504, .box [iT (biC a), .ref 1069072]), gI 1069072 (biV a), (24592, .box [iT a.tree.style, iT a.tree.arena.dims, .ref 2121736, .ref 3170312, .ref 4218888, iT a.tree.root, iT a.tree.rootNsn, iT a.tree.counter, .ref 8413192, iT a.latch, .ref 10510344, .ref 11558920, .ref 12607496]), gNs 2121736 a.tree.arena.nodes, gI 3170312 a.tree.arena.free, gRets 4218888 a.tree.arena.retired, gPs 8413192 a.pairs, gB 10510344 a.busy, gI 11558920 a.codes, gNotes 12607496 a.notes, (28688, .box [iT (biC a), .ref 1077256]), gI 1077256 (biV a)] [] hP x0 hYX rfl rfl (by rw [envOf_fr, hN]; decide) (by simp only [go_sem, hP, ↓reduceIte, Nat.reduceAdd, Nat.reduceMul, Nat.reduceEqDiff, Nat.reduceSub, Nat.reduceLeDiff, reduceCtorEq, List.cons_append, List.nil_append]) rfl rfl (by simp only [go_sem, hP, ↓reduceIte, Nat.reduceAdd, Nat.reduceMul, Nat.reduceEqDiff, Nat.reduceSub, Nat.reduceLeDiff, reduceCtorEq, List.cons_append, List.nil_append] <;> simp) (by simp only [go_sem, hP, ↓reduceIte, Nat.reduceAdd, Nat.reduceMul, Nat.reduceEqDiff, Nat.reduceSub, Nat.reduceLeDiff, reduceCtorEq] <;> simp) ?_
  simp only [go_sem, hP, ↓reduceIte, Nat.reduceAdd, Nat.reduceMul, Nat.reduceEqDiff, Nat.reduceSub, Nat.reduceLeDiff, reduceCtorEq, List.cons_append, List.nil_append]
  repeat' (first
    | exact True.intro
    | refine ev_seq ?_
    | ((first | refine vgd_go ?_ | refine ev_region hE hM (hS (by decide +kernel)) ?_ | refine ev_if ?_ | refine end_ret hE rfl rfl ?_ | refine end_norm hE rfl rfl ?_ | refine endG_ret [] hE rfl ?_ | refine endG_norm [] hE rfl ?_ | refine vcallB_of hP (s_toState a (by simp only [lessN] at *; omega)) ?_ | refine vcallB_of hP (s_implBusyIn a) ?_ | refine vcallB_of hP (s_eqIntsResult _ _ _ _) ?_ | refine vcallG_of (args := [.agg [iT (biC a), .ref 1077256], _]) [(1, 1077256)] [] hP r1 ?_ | refine vcallB_of hP r2 ?_ | refine vcall_A ?_); simp (maxSteps := 2000000) only [go_sem, hP, ↓reduceIte, Nat.reduceAdd, Nat.reduceMul, Nat.reduceEqDiff, Nat.reduceSub, Nat.reduceLeDiff, reduceCtorEq, List.cons_append, List.nil_append, markedA, markedT])
    | refine ev_skip ?_ | refine ev_block ?_ | refine ev_blk ?_ | refine ev_ret ?_ | refine ev_exit ?_ | refine evx_code_ret ?_ | refine evx_blk_ret ?_ | refine evx_lp_ret ?_
    | refine evx_code_exit ?_ | refine evx_lp_exit ?_ | refine evx_blk_hit ?_ | refine evx_blk_pass (by decide) ?_
    | refine And.intro ?_ ?_ | intro _ | decide +kernel | omega)
  all_goals (simp_all; done)
theorem all_BusyIn (gs : List Arg) (h : shpA Try.prog 12 [73] gs) : Sat Try.prog 6 gs true (rB true) := by
  obtain ⟨x0, gs, rfl, h0, rfl⟩ := h
  obtain ⟨a, rfl⟩ := shp_State (n := 2) rfl h0
  exact l_BusyIn a
end Go.Proofs.Ytcephdpooijciaa.W
