/- Contracts of functions that the statements of this seat reach: what each returns; it writes to nothing of old. No condition but those that each theorem states. -/
import Derived.Test.YtcephdpooijciaaGreatRows
import Derived.Test.YtcephdpooijciaaGreatVf
open Go Go.Vm Go.Proofs Go.IntWalk Go.RowKit
set_option maxRecDepth 100000
set_option maxHeartbeats 4000000
set_option linter.unusedSimpArgs false
set_option linter.unusedVariables false
set_option linter.unusedSectionVars false
namespace Go.Proofs.YtcephdpooijciaaGreat.W
attribute [local irreducible] kJ ev evx vops vstep vgo vgd vget vcall vcallFn vcallA vcallB vts vres vcond vbin
@[go_sem] theorem ty2 : tyI Tryz.prog 2 = some { size := 1, bytes := 8, zv := Value.int IntKind.i64 (Int.ofNat 0), kind := TK.int IntKind.i64, cts := [(0, 0)], scal := true, psz := 0, zts := [T.c (C.int IntKind.i64 (Int.ofNat 0))] } := by rfl
@[go_sem] theorem ty3 : tyI Tryz.prog 3 = some { size := 1, bytes := 8, zv := Value.int IntKind.i64 (Int.ofNat 0), kind := TK.int IntKind.i64, cts := [(0, 0)], scal := true, psz := 0, zts := [T.c (C.int IntKind.i64 (Int.ofNat 0))] } := by rfl
@[go_sem] theorem ty4 : tyI Tryz.prog 4 = some { size := 1, bytes := 1, zv := Value.bool false, kind := TK.bool, cts := [(0, 0)], scal := true, psz := 0, zts := [T.c (C.bool false)] } := by rfl
@[go_sem] theorem ty5 : tyI Tryz.prog 5 = some { size := 1, bytes := 1, zv := Value.int IntKind.u8 (Int.ofNat 0), kind := TK.int IntKind.u8, cts := [(0, 0)], scal := true, psz := 0, zts := [T.c (C.int IntKind.u8 (Int.ofNat 0))] } := by rfl
@[go_sem] theorem ty12 : tyI Tryz.prog 12 = some { size := 1, bytes := 8, zv := Value.int IntKind.u64 (Int.ofNat 0), kind := TK.int IntKind.u64, cts := [(0, 0)], scal := true, psz := 0, zts := [T.c (C.int IntKind.u64 (Int.ofNat 0))] } := by rfl
@[go_sem] theorem ty21 : tyI Tryz.prog 21 = some { size := 1, bytes := 4, zv := Value.int IntKind.i32 (Int.ofNat 0), kind := TK.int IntKind.i32, cts := [(0, 0)], scal := true, psz := 0, zts := [T.c (C.int IntKind.i32 (Int.ofNat 0))] } := by rfl
@[go_sem] theorem ty22 : tyI Tryz.prog 22 = some { size := 1, bytes := 24, zv := Value.slice none 0 0, kind := TK.slice 46, cts := [(46, 4)], scal := false, psz := 0, zts := [T.nilS] } := by rfl
@[go_sem] theorem ty23 : tyI Tryz.prog 23 = some { size := 1, bytes := 24, zv := Value.slice none 0 0, kind := TK.slice 2, cts := [(2, 1)], scal := false, psz := 0, zts := [T.nilS] } := by rfl
@[go_sem] theorem ty24 : tyI Tryz.prog 24 = some { size := 1, bytes := 24, zv := Value.slice none 0 0, kind := TK.slice 89, cts := [(89, 2)], scal := false, psz := 0, zts := [T.nilS] } := by rfl
@[go_sem] theorem ty25 : tyI Tryz.prog 25 = some { size := 4, bytes := 80, zv := Value.agg { toList := [Value.int IntKind.i64 (Int.ofNat 0), Value.slice none 0 0, Value.slice none 0 0, Value.slice none 0 0] }, kind := TK.struct [(0, 2), (1, 22), (2, 23), (3, 24)], cts := [(0, 0), (46, 4), (2, 1), (89, 2)], scal := false, psz := 0, zts := [T.c (C.int IntKind.i64 (Int.ofNat 0)), T.nilS, T.nilS, T.nilS] } := by rfl
@[go_sem] theorem ty26 : tyI Tryz.prog 26 = some { size := 4, bytes := 80, zv := Value.agg { toList := [Value.int IntKind.i64 (Int.ofNat 0), Value.slice none 0 0, Value.slice none 0 0, Value.slice none 0 0] }, kind := TK.struct [(0, 2), (1, 22), (2, 23), (3, 24)], cts := [(0, 0), (46, 4), (2, 1), (89, 2)], scal := false, psz := 0, zts := [T.c (C.int IntKind.i64 (Int.ofNat 0)), T.nilS, T.nilS, T.nilS] } := by rfl
@[go_sem] theorem ty28 : tyI Tryz.prog 28 = some { size := 1, bytes := 24, zv := Value.slice none 0 0, kind := TK.slice 112, cts := [(112, 4)], scal := false, psz := 0, zts := [T.nilS] } := by rfl
@[go_sem] theorem ty29 : tyI Tryz.prog 29 = some { size := 4, bytes := 48, zv := Value.agg { toList := [Value.int IntKind.i64 (Int.ofNat 0), Value.int IntKind.i64 (Int.ofNat 0), Value.int IntKind.i64 (Int.ofNat 0), Value.slice none 0 0] }, kind := TK.struct [(0, 2), (1, 2), (2, 2), (3, 28)], cts := [(0, 0), (0, 0), (0, 0), (112, 4)], scal := false, psz := 0, zts := [T.c (C.int IntKind.i64 (Int.ofNat 0)), T.c (C.int IntKind.i64 (Int.ofNat 0)), T.c (C.int IntKind.i64 (Int.ofNat 0)), T.nilS] } := by rfl
@[go_sem] theorem ty30 : tyI Tryz.prog 30 = some { size := 4, bytes := 48, zv := Value.agg { toList := [Value.int IntKind.i64 (Int.ofNat 0), Value.int IntKind.i64 (Int.ofNat 0), Value.int IntKind.i64 (Int.ofNat 0), Value.slice none 0 0] }, kind := TK.struct [(0, 2), (1, 2), (2, 2), (3, 28)], cts := [(0, 0), (0, 0), (0, 0), (112, 4)], scal := false, psz := 0, zts := [T.c (C.int IntKind.i64 (Int.ofNat 0)), T.c (C.int IntKind.i64 (Int.ofNat 0)), T.c (C.int IntKind.i64 (Int.ofNat 0)), T.nilS] } := by rfl
@[go_sem] theorem ty31 : tyI Tryz.prog 31 = some { size := 5, bytes := 56, zv := Value.agg { toList := [Value.int IntKind.i64 (Int.ofNat 0), Value.int IntKind.i64 (Int.ofNat 0), Value.int IntKind.i64 (Int.ofNat 0), Value.int IntKind.i64 (Int.ofNat 0), Value.slice none 0 0] }, kind := TK.struct [(0, 2), (1, 30)], cts := [(0, 0), (0, 0), (0, 0), (0, 0), (112, 4)], scal := false, psz := 0, zts := [T.c (C.int IntKind.i64 (Int.ofNat 0)), T.c (C.int IntKind.i64 (Int.ofNat 0)), T.c (C.int IntKind.i64 (Int.ofNat 0)), T.c (C.int IntKind.i64 (Int.ofNat 0)), T.nilS] } := by rfl
@[go_sem] theorem ty32 : tyI Tryz.prog 32 = some { size := 5, bytes := 56, zv := Value.agg { toList := [Value.int IntKind.i64 (Int.ofNat 0), Value.int IntKind.i64 (Int.ofNat 0), Value.int IntKind.i64 (Int.ofNat 0), Value.int IntKind.i64 (Int.ofNat 0), Value.slice none 0 0] }, kind := TK.struct [(0, 2), (1, 30)], cts := [(0, 0), (0, 0), (0, 0), (0, 0), (112, 4)], scal := false, psz := 0, zts := [T.c (C.int IntKind.i64 (Int.ofNat 0)), T.c (C.int IntKind.i64 (Int.ofNat 0)), T.c (C.int IntKind.i64 (Int.ofNat 0)), T.c (C.int IntKind.i64 (Int.ofNat 0)), T.nilS] } := by rfl
@[go_sem] theorem ty34 : tyI Tryz.prog 34 = some { size := 1, bytes := 24, zv := Value.slice none 0 0, kind := TK.slice 30, cts := [(30, 4)], scal := false, psz := 0, zts := [T.nilS] } := by rfl
@[go_sem] theorem ty35 : tyI Tryz.prog 35 = some { size := 1, bytes := 24, zv := Value.slice none 0 0, kind := TK.slice 93, cts := [(93, 2)], scal := false, psz := 0, zts := [T.nilS] } := by rfl
@[go_sem] theorem ty36 : tyI Tryz.prog 36 = some { size := 4, bytes := 80, zv := Value.agg { toList := [Value.int IntKind.i64 (Int.ofNat 0), Value.slice none 0 0, Value.slice none 0 0, Value.slice none 0 0] }, kind := TK.struct [(0, 2), (1, 34), (2, 23), (3, 35)], cts := [(0, 0), (30, 4), (2, 1), (93, 2)], scal := false, psz := 0, zts := [T.c (C.int IntKind.i64 (Int.ofNat 0)), T.nilS, T.nilS, T.nilS] } := by rfl
@[go_sem] theorem ty37 : tyI Tryz.prog 37 = some { size := 4, bytes := 80, zv := Value.agg { toList := [Value.int IntKind.i64 (Int.ofNat 0), Value.slice none 0 0, Value.slice none 0 0, Value.slice none 0 0] }, kind := TK.struct [(0, 2), (1, 34), (2, 23), (3, 35)], cts := [(0, 0), (30, 4), (2, 1), (93, 2)], scal := false, psz := 0, zts := [T.c (C.int IntKind.i64 (Int.ofNat 0)), T.nilS, T.nilS, T.nilS] } := by rfl
@[go_sem] theorem ty44 : tyI Tryz.prog 44 = some { size := 1, bytes := 24, zv := Value.slice none 0 0, kind := TK.slice 107, cts := [(107, 4)], scal := false, psz := 0, zts := [T.nilS] } := by rfl
@[go_sem] theorem ty45 : tyI Tryz.prog 45 = some { size := 4, bytes := 48, zv := Value.agg { toList := [Value.int IntKind.i64 (Int.ofNat 0), Value.int IntKind.i64 (Int.ofNat 0), Value.int IntKind.i64 (Int.ofNat 0), Value.slice none 0 0] }, kind := TK.struct [(0, 2), (1, 2), (2, 2), (3, 44)], cts := [(0, 0), (0, 0), (0, 0), (107, 4)], scal := false, psz := 0, zts := [T.c (C.int IntKind.i64 (Int.ofNat 0)), T.c (C.int IntKind.i64 (Int.ofNat 0)), T.c (C.int IntKind.i64 (Int.ofNat 0)), T.nilS] } := by rfl
@[go_sem] theorem ty46 : tyI Tryz.prog 46 = some { size := 4, bytes := 48, zv := Value.agg { toList := [Value.int IntKind.i64 (Int.ofNat 0), Value.int IntKind.i64 (Int.ofNat 0), Value.int IntKind.i64 (Int.ofNat 0), Value.slice none 0 0] }, kind := TK.struct [(0, 2), (1, 2), (2, 2), (3, 44)], cts := [(0, 0), (0, 0), (0, 0), (107, 4)], scal := false, psz := 0, zts := [T.c (C.int IntKind.i64 (Int.ofNat 0)), T.c (C.int IntKind.i64 (Int.ofNat 0)), T.c (C.int IntKind.i64 (Int.ofNat 0)), T.nilS] } := by rfl
@[go_sem] theorem ty48 : tyI Tryz.prog 48 = some { size := 6, bytes := 96, zv := Value.agg { toList := [Value.int IntKind.i64 (Int.ofNat 0), Value.int IntKind.i64 (Int.ofNat 0), Value.slice none 0 0, Value.slice none 0 0, Value.slice none 0 0, Value.int IntKind.i64 (Int.ofNat 0)] }, kind := TK.struct [(0, 2), (1, 37), (5, 2)], cts := [(0, 0), (0, 0), (30, 4), (2, 1), (93, 2), (0, 0)], scal := false, psz := 0, zts := [T.c (C.int IntKind.i64 (Int.ofNat 0)), T.c (C.int IntKind.i64 (Int.ofNat 0)), T.nilS, T.nilS, T.nilS, T.c (C.int IntKind.i64 (Int.ofNat 0))] } := by rfl
@[go_sem] theorem ty49 : tyI Tryz.prog 49 = some { size := 6, bytes := 96, zv := Value.agg { toList := [Value.int IntKind.i64 (Int.ofNat 0), Value.int IntKind.i64 (Int.ofNat 0), Value.slice none 0 0, Value.slice none 0 0, Value.slice none 0 0, Value.int IntKind.i64 (Int.ofNat 0)] }, kind := TK.struct [(0, 2), (1, 37), (5, 2)], cts := [(0, 0), (0, 0), (30, 4), (2, 1), (93, 2), (0, 0)], scal := false, psz := 0, zts := [T.c (C.int IntKind.i64 (Int.ofNat 0)), T.c (C.int IntKind.i64 (Int.ofNat 0)), T.nilS, T.nilS, T.nilS, T.c (C.int IntKind.i64 (Int.ofNat 0))] } := by rfl
@[go_sem] theorem ty64 : tyI Tryz.prog 64 = some { size := 1, bytes := 8, zv := Value.pointer none, kind := TK.other, cts := [(0, 0), (30, 4), (2, 1), (93, 2)], scal := false, psz := 4, zts := [T.un] } := by rfl
@[go_sem] theorem ty66 : tyI Tryz.prog 66 = some { size := 1, bytes := 8, zv := Value.pointer none, kind := TK.other, cts := [(0, 0), (0, 0), (0, 0), (112, 4)], scal := false, psz := 4, zts := [T.un] } := by rfl
@[go_sem] theorem ty88 : tyI Tryz.prog 88 = some { size := 2, bytes := 32, zv := Value.agg { toList := [Value.int IntKind.i64 (Int.ofNat 0), Value.slice none 0 0] }, kind := TK.struct [(0, 2), (1, 23)], cts := [(0, 0), (2, 1)], scal := false, psz := 0, zts := [T.c (C.int IntKind.i64 (Int.ofNat 0)), T.nilS] } := by rfl
@[go_sem] theorem ty89 : tyI Tryz.prog 89 = some { size := 2, bytes := 32, zv := Value.agg { toList := [Value.int IntKind.i64 (Int.ofNat 0), Value.slice none 0 0] }, kind := TK.struct [(0, 2), (1, 23)], cts := [(0, 0), (2, 1)], scal := false, psz := 0, zts := [T.c (C.int IntKind.i64 (Int.ofNat 0)), T.nilS] } := by rfl
@[go_sem] theorem ty93 : tyI Tryz.prog 93 = some { size := 2, bytes := 32, zv := Value.agg { toList := [Value.int IntKind.i64 (Int.ofNat 0), Value.slice none 0 0] }, kind := TK.struct [(0, 2), (1, 23)], cts := [(0, 0), (2, 1)], scal := false, psz := 0, zts := [T.c (C.int IntKind.i64 (Int.ofNat 0)), T.nilS] } := by rfl
@[go_sem] theorem ty104 : tyI Tryz.prog 104 = some { size := 2, bytes := 48, zv := Value.agg { toList := [Value.slice none 0 0, Value.slice none 0 0] }, kind := TK.struct [(0, 23), (1, 23)], cts := [(2, 1), (2, 1)], scal := false, psz := 0, zts := [T.nilS, T.nilS] } := by rfl
@[go_sem] theorem ty105 : tyI Tryz.prog 105 = some { size := 2, bytes := 48, zv := Value.agg { toList := [Value.slice none 0 0, Value.slice none 0 0] }, kind := TK.struct [(0, 23), (1, 23)], cts := [(2, 1), (2, 1)], scal := false, psz := 0, zts := [T.nilS, T.nilS] } := by rfl
@[go_sem] theorem ty106 : tyI Tryz.prog 106 = some { size := 4, bytes := 64, zv := Value.agg { toList := [Value.slice none 0 0, Value.slice none 0 0, Value.int IntKind.i64 (Int.ofNat 0), Value.int IntKind.i64 (Int.ofNat 0)] }, kind := TK.struct [(0, 105), (2, 2), (3, 2)], cts := [(2, 1), (2, 1), (0, 0), (0, 0)], scal := false, psz := 0, zts := [T.nilS, T.nilS, T.c (C.int IntKind.i64 (Int.ofNat 0)), T.c (C.int IntKind.i64 (Int.ofNat 0))] } := by rfl
@[go_sem] theorem ty107 : tyI Tryz.prog 107 = some { size := 4, bytes := 64, zv := Value.agg { toList := [Value.slice none 0 0, Value.slice none 0 0, Value.int IntKind.i64 (Int.ofNat 0), Value.int IntKind.i64 (Int.ofNat 0)] }, kind := TK.struct [(0, 105), (2, 2), (3, 2)], cts := [(2, 1), (2, 1), (0, 0), (0, 0)], scal := false, psz := 0, zts := [T.nilS, T.nilS, T.c (C.int IntKind.i64 (Int.ofNat 0)), T.c (C.int IntKind.i64 (Int.ofNat 0))] } := by rfl
@[go_sem] theorem ty109 : tyI Tryz.prog 109 = some { size := 1, bytes := 8, zv := Value.pointer none, kind := TK.other, cts := [(2, 1), (2, 1), (0, 0), (0, 0)], scal := false, psz := 4, zts := [T.un] } := by rfl
@[go_sem] theorem ty110 : tyI Tryz.prog 110 = some { size := 2, bytes := 48, zv := Value.agg { toList := [Value.slice none 0 0, Value.slice none 0 0] }, kind := TK.struct [(0, 23), (1, 23)], cts := [(2, 1), (2, 1)], scal := false, psz := 0, zts := [T.nilS, T.nilS] } := by rfl
@[go_sem] theorem ty111 : tyI Tryz.prog 111 = some { size := 4, bytes := 64, zv := Value.agg { toList := [Value.slice none 0 0, Value.slice none 0 0, Value.int IntKind.i64 (Int.ofNat 0), Value.int IntKind.i64 (Int.ofNat 0)] }, kind := TK.struct [(0, 110), (2, 2), (3, 2)], cts := [(2, 1), (2, 1), (0, 0), (0, 0)], scal := false, psz := 0, zts := [T.nilS, T.nilS, T.c (C.int IntKind.i64 (Int.ofNat 0)), T.c (C.int IntKind.i64 (Int.ofNat 0))] } := by rfl
@[go_sem] theorem ty112 : tyI Tryz.prog 112 = some { size := 4, bytes := 64, zv := Value.agg { toList := [Value.slice none 0 0, Value.slice none 0 0, Value.int IntKind.i64 (Int.ofNat 0), Value.int IntKind.i64 (Int.ofNat 0)] }, kind := TK.struct [(0, 110), (2, 2), (3, 2)], cts := [(2, 1), (2, 1), (0, 0), (0, 0)], scal := false, psz := 0, zts := [T.nilS, T.nilS, T.c (C.int IntKind.i64 (Int.ofNat 0)), T.c (C.int IntKind.i64 (Int.ofNat 0))] } := by rfl
@[go_sem] theorem ty124 : tyI Tryz.prog 124 = some { size := 1, bytes := 8, zv := Value.pointer none, kind := TK.other, cts := [(2, 1), (2, 1)], scal := false, psz := 2, zts := [T.un] } := by rfl
@[go_sem] theorem ty145 : tyI Tryz.prog 145 = some { size := 1, bytes := 4, zv := Value.int IntKind.u32 (Int.ofNat 0), kind := TK.int IntKind.u32, cts := [(0, 0)], scal := true, psz := 0, zts := [T.c (C.int IntKind.u32 (Int.ofNat 0))] } := by rfl
@[go_sem] theorem ty158 : tyI Tryz.prog 158 = some { size := 3, bytes := 56, zv := Value.agg { toList := [Value.int IntKind.i64 (Int.ofNat 0), Value.slice none 0 0, Value.slice none 0 0] }, kind := TK.struct [(0, 2), (1, 110)], cts := [(0, 0), (2, 1), (2, 1)], scal := false, psz := 0, zts := [T.c (C.int IntKind.i64 (Int.ofNat 0)), T.nilS, T.nilS] } := by rfl
@[go_sem] theorem ty159 : tyI Tryz.prog 159 = some { size := 3, bytes := 56, zv := Value.agg { toList := [Value.int IntKind.i64 (Int.ofNat 0), Value.slice none 0 0, Value.slice none 0 0] }, kind := TK.struct [(0, 2), (1, 110)], cts := [(0, 0), (2, 1), (2, 1)], scal := false, psz := 0, zts := [T.c (C.int IntKind.i64 (Int.ofNat 0)), T.nilS, T.nilS] } := by rfl
theorem follows_of {fr : Fr} (hP : fr.P = Tryz.prog) : (envOf fr Tryz.prog).fr.P.follows .mixedOrders = true := by rw [envOf_fr, hP]; rfl

@[go_sem] abbrev aI (n : Int) : Arg := .d (false, [.int .i64 n])
@[go_sem] abbrev rI (n : Int) : List Dat := [(false, [.int .i64 n])]
@[go_sem] abbrev rB (b : Bool) : List Dat := [(false, [.bool b])]
/-- A slice of numbers, as an argument and as a result of its own. -/
@[go_sem] abbrev sI (xs : List Int) : C := .sl none 1 (xs.map eI)
@[go_sem] abbrev oI (xs : List Int) : C := .sl (some 2) 1 (xs.map eI)
@[go_sem] abbrev aL (xs : List Int) : Arg := .d (false, [sI xs])
@[go_sem] abbrev rL (xs : List Int) : List Dat := [(false, [oI xs])]
theorem bndL {xs : List Int} {gs : List Arg} (h : Args.bnd (aL xs :: gs)) : xs.length ≤ maxLen := by
  have := h.1.1.1; rwa [List.length_map] at this
def inB (a b c : Int) : Bool := decide (b ≤ a) && decide (a ≤ c)
theorem s_l1In (a b c : Int) : Sat Tryz.prog 57 [aI a, aI b, aI c] true (rB (inB a b c)) := by
  refine sat_walk (fn := Tryz.f57) rfl rfl rfl (Nat.le_of_ble_eq_true rfl) fun fr hP hN hbnd => ?_
  have hE : (envOf fr Tryz.prog).Ok := envOf_ok hP
  have hM := follows_of hP
  have hS : ∀ {draw ops}, statB Tryz.f57.ntmps draw ops = true → statB (envOf fr Tryz.prog).fr.N draw ops = true := fun h => by rw [envOf_fr, hN]; exact h
  repeat' (first
    | exact True.intro
    | refine ev_seq ?_
    | ((first | refine vgd_go ?_ | refine ev_region hE hM (hS (by decide +kernel)) ?_ | refine ev_if ?_ | refine end_ret hE rfl rfl ?_ | refine end_norm hE rfl rfl ?_ | refine endG_ret [] hE rfl ?_ | refine endG_norm [] hE rfl ?_ | refine vcall_A ?_); simp (maxSteps := 2000000) only [go_sem, hP, ↓reduceIte, Nat.reduceAdd, Nat.reduceMul, Nat.reduceEqDiff, Nat.reduceSub, Nat.reduceLeDiff, reduceCtorEq])
    | refine ev_skip ?_ | refine ev_block ?_ | refine ev_blk ?_ | refine ev_ret ?_ | refine ev_exit ?_ | refine evx_code_ret ?_ | refine evx_blk_ret ?_ | refine evx_lp_ret ?_
    | refine evx_code_exit ?_ | refine evx_lp_exit ?_ | refine evx_blk_hit ?_ | refine evx_blk_pass (by decide) ?_
    | refine And.intro ?_ ?_ | intro _ | decide +kernel | omega)
  all_goals simp_all [inB] <;> omega
theorem s_within (a b c : Int) : Sat Tryz.prog 65 [aI a, aI b, aI c] true (rB (inB a b c)) := by
  refine sat_walk (fn := Tryz.f65) rfl rfl rfl (Nat.le_of_ble_eq_true rfl) fun fr hP hN hbnd => ?_
  have hE : (envOf fr Tryz.prog).Ok := envOf_ok hP
  have hM := follows_of hP
  have hS : ∀ {draw ops}, statB Tryz.f65.ntmps draw ops = true → statB (envOf fr Tryz.prog).fr.N draw ops = true := fun h => by rw [envOf_fr, hN]; exact h
  repeat' (first
    | exact True.intro
    | refine ev_seq ?_
    | ((first | refine vgd_go ?_ | refine ev_region hE hM (hS (by decide +kernel)) ?_ | refine ev_if ?_ | refine end_ret hE rfl rfl ?_ | refine end_norm hE rfl rfl ?_ | refine endG_ret [] hE rfl ?_ | refine endG_norm [] hE rfl ?_ | refine vcall_A ?_); simp (maxSteps := 2000000) only [go_sem, hP, ↓reduceIte, Nat.reduceAdd, Nat.reduceMul, Nat.reduceEqDiff, Nat.reduceSub, Nat.reduceLeDiff, reduceCtorEq])
    | refine ev_skip ?_ | refine ev_block ?_ | refine ev_blk ?_ | refine ev_ret ?_ | refine ev_exit ?_ | refine evx_code_ret ?_ | refine evx_blk_ret ?_ | refine evx_lp_ret ?_
    | refine evx_code_exit ?_ | refine evx_lp_exit ?_ | refine evx_blk_hit ?_ | refine evx_blk_pass (by decide) ?_
    | refine And.intro ?_ ?_ | intro _ | decide +kernel | omega)
  all_goals simp_all [inB] <;> omega
theorem s_isDims (a : Int) : Sat Tryz.prog 64 [aI a] true (rB (inB a 2 3)) := by
  refine sat_walk (fn := Tryz.f64) rfl rfl rfl (Nat.le_of_ble_eq_true rfl) fun fr hP hN hbnd => ?_
  have hE : (envOf fr Tryz.prog).Ok := envOf_ok hP
  have hM := follows_of hP
  have hS : ∀ {draw ops}, statB Tryz.f64.ntmps draw ops = true → statB (envOf fr Tryz.prog).fr.N draw ops = true := fun h => by rw [envOf_fr, hN]; exact h
  repeat' (first
    | exact True.intro
    | refine ev_seq ?_
    | ((first | refine vgd_go ?_ | refine ev_region hE hM (hS (by decide +kernel)) ?_ | refine ev_if ?_ | refine end_ret hE rfl rfl ?_ | refine end_norm hE rfl rfl ?_ | refine endG_ret [] hE rfl ?_ | refine endG_norm [] hE rfl ?_ | refine vcallB_of hP (s_within _ _ _) ?_ | refine vcall_A ?_); simp (maxSteps := 2000000) only [go_sem, hP, ↓reduceIte, Nat.reduceAdd, Nat.reduceMul, Nat.reduceEqDiff, Nat.reduceSub, Nat.reduceLeDiff, reduceCtorEq])
    | refine ev_skip ?_ | refine ev_block ?_ | refine ev_blk ?_ | refine ev_ret ?_ | refine ev_exit ?_ | refine evx_code_ret ?_ | refine evx_blk_ret ?_ | refine evx_lp_ret ?_
    | refine evx_code_exit ?_ | refine evx_lp_exit ?_ | refine evx_blk_hit ?_ | refine evx_blk_pass (by decide) ?_
    | refine And.intro ?_ ?_ | intro _ | decide +kernel | omega)
theorem s_toInt64S (xs : List Int) (hx : xs.length ≤ 1048576) : Sat Tryz.prog 33 [aL xs] true (rL xs) := by
  refine sat_walk (fn := Tryz.f33) rfl rfl rfl (Nat.le_of_ble_eq_true rfl) fun fr hP hN hbnd => ?_
  have hE : (envOf fr Tryz.prog).Ok := envOf_ok hP
  have hM := follows_of hP
  have hS : ∀ {draw ops}, statB Tryz.f33.ntmps draw ops = true → statB (envOf fr Tryz.prog).fr.N draw ops = true := fun h => by rw [envOf_fr, hN]; exact h
  repeat' (first
    | exact True.intro
    | refine ev_seq ?_
    | ((first | refine vgd_go ?_ | refine ev_region hE hM (hS (by decide +kernel)) ?_ | refine ev_if ?_ | refine end_ret hE rfl rfl ?_ | refine end_norm hE rfl rfl ?_ | refine endG_ret [] hE rfl ?_ | refine endG_norm [] hE rfl ?_ | refine vcall_A ?_); simp (maxSteps := 2000000) only [go_sem, hP, ↓reduceIte, Nat.reduceAdd, Nat.reduceMul, Nat.reduceEqDiff, Nat.reduceSub, Nat.reduceLeDiff, reduceCtorEq])
    | refine ev_skip ?_ | refine ev_block ?_ | refine ev_blk ?_ | refine ev_ret ?_ | refine ev_exit ?_ | refine evx_code_ret ?_ | refine evx_blk_ret ?_ | refine evx_lp_ret ?_
    | refine evx_code_exit ?_ | refine evx_lp_exit ?_ | refine evx_blk_hit ?_ | refine evx_blk_pass (by decide) ?_
    | refine And.intro ?_ ?_ | intro _ | decide +kernel | omega)
  refine ev_loop (ι := Nat) (fun k => [(0, .c (sI xs)), (3, .ref 4112), (4, .c (.int .i64 k))]) (fun k => [(4112, .arr true 2 1 ((mix xs 0 k).map eI))]) (fun _ => []) (fun k => k ≤ xs.length) (fun k => xs.length - k) 0 [] (by simp) (by simp only [go_sem, hP, ↓reduceIte, Nat.reduceAdd, Nat.reduceMul, Nat.reduceEqDiff, Nat.reduceSub, Nat.reduceLeDiff, reduceCtorEq]; simp [mix_zero, eI]) ?_
  intro k hk
  repeat' (first
    | exact True.intro
    | refine ev_seq ?_
    | ((first | refine vgd_go ?_ | refine ev_region hE hM (hS (by decide +kernel)) ?_ | refine ev_if ?_ | refine end_ret hE rfl rfl ?_ | refine end_norm hE rfl rfl ?_ | refine endG_ret [] hE rfl ?_ | refine endG_norm [] hE rfl ?_ | refine vcall_A ?_); simp (maxSteps := 2000000) only [go_sem, hP, ↓reduceIte, Nat.reduceAdd, Nat.reduceMul, Nat.reduceEqDiff, Nat.reduceSub, Nat.reduceLeDiff, reduceCtorEq, mix_length hk])
    | refine ev_skip ?_ | refine ev_block ?_ | refine ev_blk ?_ | refine ev_ret ?_ | refine ev_exit ?_ | refine evx_code_ret ?_ | refine evx_blk_ret ?_ | refine evx_lp_ret ?_
    | refine evx_code_exit ?_ | refine evx_lp_exit ?_ | refine evx_blk_hit ?_ | refine evx_blk_pass (by decide) ?_
    | refine And.intro ?_ ?_ | intro _ | decide +kernel | omega)
  · exact ev_lp (k + 1) [] (by omega) (by omega) (by simp only [go_sem, hP, ↓reduceIte, Nat.reduceAdd, Nat.reduceMul, Nat.reduceEqDiff, Nat.reduceSub, Nat.reduceLeDiff, reduceCtorEq]; simp; exact ⟨wrap_succ (by omega) hx, mix_set_map (f := eI) (by omega)⟩)
  · rw [mix_full (by omega)]
theorem s_eqInt64S (xs ys : List Int) : Sat Tryz.prog 39 [aL xs, aL ys] true (rB (decide (xs = ys))) := by
  refine sat_walk (fn := Tryz.f39) rfl rfl rfl (Nat.le_of_ble_eq_true rfl) fun fr hP hN hbnd => ?_
  have hE : (envOf fr Tryz.prog).Ok := envOf_ok hP
  have hM := follows_of hP
  have hS : ∀ {draw ops}, statB Tryz.f39.ntmps draw ops = true → statB (envOf fr Tryz.prog).fr.N draw ops = true := fun h => by rw [envOf_fr, hN]; exact h
  have hlen := bndL hbnd
  repeat' (first
    | exact True.intro
    | refine ev_seq ?_
    | ((first | refine vgd_go ?_ | refine ev_region hE hM (hS (by decide +kernel)) ?_ | refine ev_if ?_ | refine end_ret hE rfl rfl ?_ | refine end_norm hE rfl rfl ?_ | refine endG_ret [] hE rfl ?_ | refine endG_norm [] hE rfl ?_ | refine vcall_A ?_); simp (maxSteps := 2000000) only [go_sem, hP, ↓reduceIte, Nat.reduceAdd, Nat.reduceMul, Nat.reduceEqDiff, Nat.reduceSub, Nat.reduceLeDiff, reduceCtorEq])
    | refine ev_skip ?_ | refine ev_block ?_ | refine ev_blk ?_ | refine ev_ret ?_ | refine ev_exit ?_ | refine evx_code_ret ?_ | refine evx_blk_ret ?_ | refine evx_lp_ret ?_
    | refine evx_code_exit ?_ | refine evx_lp_exit ?_ | refine evx_blk_hit ?_ | refine evx_blk_pass (by decide) ?_
    | refine And.intro ?_ ?_ | intro _ | decide +kernel | omega)
  · rename_i h; simp at h; simp; rintro rfl; exact h rfl
  rename_i h; simp at h
  refine ev_loop (ι := Nat) (fun k => [(0, .c (sI xs)), (1, .c (sI ys)), (5, .c (.int .i64 k))]) (fun k => []) (fun _ => []) (fun k => k ≤ xs.length ∧ xs.take k = ys.take k) (fun k => xs.length - k) 0 [] (by simp) (by simp only [go_sem, hP, ↓reduceIte, Nat.reduceAdd, Nat.reduceMul, Nat.reduceEqDiff, Nat.reduceSub, Nat.reduceLeDiff, reduceCtorEq]; simp) ?_
  intro k hk
  repeat' (first
    | exact True.intro
    | refine ev_seq ?_
    | ((first | refine vgd_go ?_ | refine ev_region hE hM (hS (by decide +kernel)) ?_ | refine ev_if ?_ | refine end_ret hE rfl rfl ?_ | refine end_norm hE rfl rfl ?_ | refine endG_ret [] hE rfl ?_ | refine endG_norm [] hE rfl ?_ | refine vcall_A ?_); simp (maxSteps := 2000000) only [go_sem, hP, ↓reduceIte, Nat.reduceAdd, Nat.reduceMul, Nat.reduceEqDiff, Nat.reduceSub, Nat.reduceLeDiff, reduceCtorEq])
    | refine ev_skip ?_ | refine ev_block ?_ | refine ev_blk ?_ | refine ev_ret ?_ | refine ev_exit ?_ | refine evx_code_ret ?_ | refine evx_blk_ret ?_ | refine evx_lp_ret ?_
    | refine evx_code_exit ?_ | refine evx_lp_exit ?_ | refine evx_blk_hit ?_ | refine evx_blk_pass (by decide) ?_
    | refine And.intro ?_ ?_ | intro _ | decide +kernel | omega)
  · rename_i h3; simp at h3; simp; exact eq_not h3
  · rename_i h3 h4; simp at h4
    exact ev_lp (k + 1) [] ⟨by omega, eq_step (d := default) (e := default) (by omega) (by omega) hk.2 (by simpa using h4)⟩ (by omega) (by simp only [go_sem, hP, ↓reduceIte, Nat.reduceAdd, Nat.reduceMul, Nat.reduceEqDiff, Nat.reduceSub, Nat.reduceLeDiff, reduceCtorEq]; simp; exact wrap_nat (by omega) hlen)
  · simp; exact eq_done (by omega) (by omega) hk.2
/-- What is left of a bulk behind a count; below 0: none. -/
def lessN (n : Nat) (left : Int) : Int := if left - n < 0 then -1 else left - n
theorem s_szInt64S (xs : List Int) (left : Int) (h0 : 0 ≤ left) (h1 : left ≤ 1048576) : Sat Tryz.prog 27 [aL xs, aI left] true (rI (lessN xs.length left)) := by
  refine sat_walk (fn := Tryz.f27) rfl rfl rfl (Nat.le_of_ble_eq_true rfl) fun fr hP hN hbnd => ?_
  have hE : (envOf fr Tryz.prog).Ok := envOf_ok hP
  have hM := follows_of hP
  have hS : ∀ {draw ops}, statB Tryz.f27.ntmps draw ops = true → statB (envOf fr Tryz.prog).fr.N draw ops = true := fun h => by rw [envOf_fr, hN]; exact h
  have hlen := bndL hbnd
  have hm : maxLen = 9223372036854775807 := rfl
  have hw : IntKind.i64.wrap (left - xs.length) = left - xs.length := i64_in _ (by omega)
  repeat' (first
    | exact True.intro
    | refine ev_seq ?_
    | ((first | refine vgd_go ?_ | refine ev_region hE hM (hS (by decide +kernel)) ?_ | refine ev_if ?_ | refine end_ret hE rfl rfl ?_ | refine end_norm hE rfl rfl ?_ | refine endG_ret [] hE rfl ?_ | refine endG_norm [] hE rfl ?_ | refine vcall_A ?_); simp (maxSteps := 2000000) only [go_sem, hP, ↓reduceIte, Nat.reduceAdd, Nat.reduceMul, Nat.reduceEqDiff, Nat.reduceSub, Nat.reduceLeDiff, reduceCtorEq, hw])
    | refine ev_skip ?_ | refine ev_block ?_ | refine ev_blk ?_ | refine ev_ret ?_ | refine ev_exit ?_ | refine evx_code_ret ?_ | refine evx_blk_ret ?_ | refine evx_lp_ret ?_
    | refine evx_code_exit ?_ | refine evx_lp_exit ?_ | refine evx_blk_hit ?_ | refine evx_blk_pass (by decide) ?_
    | refine And.intro ?_ ?_ | intro _ | decide +kernel | omega)
  all_goals simp_all [lessN] <;> omega
def pf (xs : List Int) (d : Int) : Int := if inB d 2 3 then (if (xs.length : Int) = d then (if xs.all (inB · (-1000) 1000) then 0 else 3) else 2) else 3
theorem s_specPointFault (xs : List Int) (d : Int) : Sat Tryz.prog 121 [aL xs, aI d] true (rI (pf xs d)) := by
  refine sat_walk (fn := Tryz.f121) rfl rfl rfl (Nat.le_of_ble_eq_true rfl) fun fr hP hN hbnd => ?_
  have hE : (envOf fr Tryz.prog).Ok := envOf_ok hP
  have hM := follows_of hP
  have hS : ∀ {draw ops}, statB Tryz.f121.ntmps draw ops = true → statB (envOf fr Tryz.prog).fr.N draw ops = true := fun h => by rw [envOf_fr, hN]; exact h
  have hlen := bndL hbnd
  repeat' (first
    | exact True.intro
    | refine ev_seq ?_
    | ((first | refine vgd_go ?_ | refine ev_region hE hM (hS (by decide +kernel)) ?_ | refine ev_if ?_ | refine end_ret hE rfl rfl ?_ | refine end_norm hE rfl rfl ?_ | refine endG_ret [] hE rfl ?_ | refine endG_norm [] hE rfl ?_ | refine vcallB_of hP (s_l1In _ _ _) ?_ | refine vcall_A ?_); simp (maxSteps := 2000000) only [go_sem, hP, ↓reduceIte, Nat.reduceAdd, Nat.reduceMul, Nat.reduceEqDiff, Nat.reduceSub, Nat.reduceLeDiff, reduceCtorEq])
    | refine ev_skip ?_ | refine ev_block ?_ | refine ev_blk ?_ | refine ev_ret ?_ | refine ev_exit ?_ | refine evx_code_ret ?_ | refine evx_blk_ret ?_ | refine evx_lp_ret ?_
    | refine evx_code_exit ?_ | refine evx_lp_exit ?_ | refine evx_blk_hit ?_ | refine evx_blk_pass (by decide) ?_
    | refine And.intro ?_ ?_ | intro _ | decide +kernel | omega)
  · simp_all [pf]
  · simp_all [pf]
  rename_i h1 h2
  refine ev_loop (ι := Nat) (fun k => [(0, .c (sI xs)), (5, .c (.int .i64 k))]) (fun _ => []) (fun _ => []) (fun k => k ≤ xs.length ∧ (xs.take k).all (inB · (-1000) 1000)) (fun k => xs.length - k) 0 [] ⟨by simp, by simp⟩ (by simp only [go_sem, hP, ↓reduceIte, Nat.reduceAdd, Nat.reduceMul, Nat.reduceEqDiff, Nat.reduceSub, Nat.reduceLeDiff, reduceCtorEq]; simp) ?_
  intro k hk
  repeat' (first
    | exact True.intro
    | refine ev_seq ?_
    | ((first | refine vgd_go ?_ | refine ev_region hE hM (hS (by decide +kernel)) ?_ | refine ev_if ?_ | refine end_ret hE rfl rfl ?_ | refine end_norm hE rfl rfl ?_ | refine endG_ret [] hE rfl ?_ | refine endG_norm [] hE rfl ?_ | refine vcallB_of hP (s_l1In _ _ _) ?_ | refine vcall_A ?_); simp (maxSteps := 2000000) only [go_sem, hP, ↓reduceIte, Nat.reduceAdd, Nat.reduceMul, Nat.reduceEqDiff, Nat.reduceSub, Nat.reduceLeDiff, reduceCtorEq])
    | refine ev_skip ?_ | refine ev_block ?_ | refine ev_blk ?_ | refine ev_ret ?_ | refine ev_exit ?_ | refine evx_code_ret ?_ | refine evx_blk_ret ?_ | refine evx_lp_ret ?_
    | refine evx_code_exit ?_ | refine evx_lp_exit ?_ | refine evx_blk_hit ?_ | refine evx_blk_pass (by decide) ?_
    | refine And.intro ?_ ?_ | intro _ | decide +kernel | omega)
  · rename_i h3 h4
    simp_all [pf, all_not (p := (inB · (-1000) 1000)) (xs := xs) (k := k) (d := default) (by omega) (by simpa using h4)]
  · rename_i h3 h4
    refine ev_lp (k + 1) [] ⟨by omega, all_step (d := default) (by omega) hk.2 (by simpa using h4)⟩ (by omega) (by simp only [go_sem, hP, ↓reduceIte, Nat.reduceAdd, Nat.reduceMul, Nat.reduceEqDiff, Nat.reduceSub, Nat.reduceLeDiff, reduceCtorEq]; simp; exact wrap_nat (by omega) hlen)
  · rename_i h3
    simp_all [pf, all_done (p := (inB · (-1000) 1000)) (xs := xs) (k := k) (by omega) hk.2]
theorem s_IndexFuncI (xs : List Int) (sem : List Dat → List Dat → Prop) (p : Int → Bool) (hp : ∀ x ∈ xs, sem [(false, [.int .i64 x])] [(false, [.bool (p x)])]) :
    Sat Tryz.prog 116 [aL xs, .fn sem] true (rI (if xs.any p then (xs.findIdx p : Int) else -1)) := by
  refine sat_walk (fn := Tryz.f116) rfl rfl rfl (Nat.le_of_ble_eq_true rfl) fun fr hP hN hbnd => ?_
  have hE : (envOf fr Tryz.prog).Ok := envOf_ok hP
  have hM := follows_of hP
  have hS : ∀ {draw ops}, statB Tryz.f116.ntmps draw ops = true → statB (envOf fr Tryz.prog).fr.N draw ops = true := fun h => by rw [envOf_fr, hN]; exact h
  have hlen := bndL hbnd
  repeat' (first
    | exact True.intro
    | refine ev_seq ?_
    | ((first | refine vgd_go ?_ | refine ev_region hE hM (hS (by decide +kernel)) ?_ | refine ev_if ?_ | refine end_ret hE rfl rfl ?_ | refine end_norm hE rfl rfl ?_ | refine endG_ret [] hE rfl ?_ | refine endG_norm [] hE rfl ?_ | refine vcall_A ?_); simp (maxSteps := 2000000) only [go_sem, hP, ↓reduceIte, Nat.reduceAdd, Nat.reduceMul, Nat.reduceEqDiff, Nat.reduceSub, Nat.reduceLeDiff, reduceCtorEq])
    | refine ev_skip ?_ | refine ev_block ?_ | refine ev_blk ?_ | refine ev_ret ?_ | refine ev_exit ?_ | refine evx_code_ret ?_ | refine evx_blk_ret ?_ | refine evx_lp_ret ?_
    | refine evx_code_exit ?_ | refine evx_lp_exit ?_ | refine evx_blk_hit ?_ | refine evx_blk_pass (by decide) ?_
    | refine And.intro ?_ ?_ | intro _ | decide +kernel | omega)
  refine ev_loop (ι := Nat) (fun k => [(0, .c (sI xs)), (1, .fn sem), (7, .c (.int .i64 xs.length)), (8, .c (.int .i64 k))]) (fun k => []) (fun _ => []) (fun k => k ≤ xs.length ∧ (xs.take k).any p = false) (fun k => xs.length - k) 0 [] (by simp) (by simp only [go_sem, hP, ↓reduceIte, Nat.reduceAdd, Nat.reduceMul, Nat.reduceEqDiff, Nat.reduceSub, Nat.reduceLeDiff, reduceCtorEq]; simp) ?_
  intro k hk
  have hq : k < xs.length → sem [(false, [.int .i64 (xs.getD k default)])] [(false, [.bool (p (xs.getD k default))])] := fun h => hp _ (getD_mem h)
  repeat' (first
    | exact True.intro
    | refine ev_seq ?_
    | ((first | refine vgd_go ?_ | refine ev_region hE hM (hS (by decide +kernel)) ?_ | refine ev_if ?_ | refine end_ret hE rfl rfl ?_ | refine end_norm hE rfl rfl ?_ | refine endG_ret [] hE rfl ?_ | refine endG_norm [] hE rfl ?_ | refine vcallFn_of [(false, [.int .i64 (xs.getD k default)])] [] [(false, [.bool (p (xs.getD k default))])] (by simp only [go_sem, hP, ↓reduceIte, Nat.reduceAdd, Nat.reduceMul, Nat.reduceEqDiff, Nat.reduceSub, Nat.reduceLeDiff, reduceCtorEq]) (hq (by omega)) ?_ | refine vcall_A ?_); simp (maxSteps := 2000000) only [go_sem, hP, ↓reduceIte, Nat.reduceAdd, Nat.reduceMul, Nat.reduceEqDiff, Nat.reduceSub, Nat.reduceLeDiff, reduceCtorEq])
    | refine ev_skip ?_ | refine ev_block ?_ | refine ev_blk ?_ | refine ev_ret ?_ | refine ev_exit ?_ | refine evx_code_ret ?_ | refine evx_blk_ret ?_ | refine evx_lp_ret ?_
    | refine evx_code_exit ?_ | refine evx_lp_exit ?_ | refine evx_blk_hit ?_ | refine evx_blk_pass (by decide) ?_
    | refine And.intro ?_ ?_ | intro _ | decide +kernel | omega)
  · rename_i h1 h2
    rw [any_yes (d := default) (by omega) h2, findIdx_here (d := default) (by omega) hk.2 h2]; rfl
  · rename_i h1 h2
    exact ev_lp (k + 1) [] ⟨by omega, any_step (d := default) (by omega) hk.2 h2⟩ (by omega) (by simp only [go_sem, hP, ↓reduceIte, Nat.reduceAdd, Nat.reduceMul, Nat.reduceEqDiff, Nat.reduceSub, Nat.reduceLeDiff, reduceCtorEq]; simp; exact wrap_nat (by omega) hlen)
  · rw [any_done (by omega) hk.2]; rfl
theorem s_ContainsFuncI (xs : List Int) (sem : List Dat → List Dat → Prop) (p : Int → Bool) (hp : ∀ x ∈ xs, sem [(false, [.int .i64 x])] [(false, [.bool (p x)])]) :
    Sat Tryz.prog 97 [aL xs, .fn sem] true (rB (xs.any p)) := by
  refine sat_walk (fn := Tryz.f97) rfl rfl rfl (Nat.le_of_ble_eq_true rfl) fun fr hP hN hbnd => ?_
  have hE : (envOf fr Tryz.prog).Ok := envOf_ok hP
  have hM := follows_of hP
  have hS : ∀ {draw ops}, statB Tryz.f97.ntmps draw ops = true → statB (envOf fr Tryz.prog).fr.N draw ops = true := fun h => by rw [envOf_fr, hN]; exact h
  repeat' (first
    | exact True.intro
    | refine ev_seq ?_
    | ((first | refine vgd_go ?_ | refine ev_region hE hM (hS (by decide +kernel)) ?_ | refine ev_if ?_ | refine end_ret hE rfl rfl ?_ | refine end_norm hE rfl rfl ?_ | refine endG_ret [] hE rfl ?_ | refine endG_norm [] hE rfl ?_ | refine vcallB_of hP (s_IndexFuncI _ _ p hp) ?_ | refine vcall_A ?_); simp (maxSteps := 2000000) only [go_sem, hP, ↓reduceIte, Nat.reduceAdd, Nat.reduceMul, Nat.reduceEqDiff, Nat.reduceSub, Nat.reduceLeDiff, reduceCtorEq])
    | refine ev_skip ?_ | refine ev_block ?_ | refine ev_blk ?_ | refine ev_ret ?_ | refine ev_exit ?_ | refine evx_code_ret ?_ | refine evx_blk_ret ?_ | refine evx_lp_ret ?_
    | refine evx_code_exit ?_ | refine evx_lp_exit ?_ | refine evx_blk_hit ?_ | refine evx_blk_pass (by decide) ?_
    | refine And.intro ?_ ?_ | intro _ | decide +kernel | omega)
  · split <;> simp_all <;> omega
theorem s_PointFault1 (a : Int) : Sat Tryz.prog 122 [aI a] true (rB (!inB a (-1000) 1000)) := by
  refine sat_walk (fn := Tryz.f122) rfl rfl rfl (Nat.le_of_ble_eq_true rfl) fun fr hP hN hbnd => ?_
  have hE : (envOf fr Tryz.prog).Ok := envOf_ok hP
  have hM := follows_of hP
  have hS : ∀ {draw ops}, statB Tryz.f122.ntmps draw ops = true → statB (envOf fr Tryz.prog).fr.N draw ops = true := fun h => by rw [envOf_fr, hN]; exact h
  repeat' (first
    | exact True.intro
    | refine ev_seq ?_
    | ((first | refine vgd_go ?_ | refine ev_region hE hM (hS (by decide +kernel)) ?_ | refine ev_if ?_ | refine end_ret hE rfl rfl ?_ | refine end_norm hE rfl rfl ?_ | refine endG_ret [] hE rfl ?_ | refine endG_norm [] hE rfl ?_ | refine vcallB_of hP (s_within _ _ _) ?_ | refine vcall_A ?_); simp (maxSteps := 2000000) only [go_sem, hP, ↓reduceIte, Nat.reduceAdd, Nat.reduceMul, Nat.reduceEqDiff, Nat.reduceSub, Nat.reduceLeDiff, reduceCtorEq])
    | refine ev_skip ?_ | refine ev_block ?_ | refine ev_blk ?_ | refine ev_ret ?_ | refine ev_exit ?_ | refine evx_code_ret ?_ | refine evx_blk_ret ?_ | refine evx_lp_ret ?_
    | refine evx_code_exit ?_ | refine evx_lp_exit ?_ | refine evx_blk_hit ?_ | refine evx_blk_pass (by decide) ?_
    | refine And.intro ?_ ?_ | intro _ | decide +kernel | omega)
theorem s_implPointFault (xs : List Int) (d : Int) : Sat Tryz.prog 110 [aL xs, aI d] true (rI (pf xs d)) := by
  refine sat_walk (fn := Tryz.f110) rfl rfl rfl (Nat.le_of_ble_eq_true rfl) fun fr hP hN hbnd => ?_
  have hE : (envOf fr Tryz.prog).Ok := envOf_ok hP
  have hM := follows_of hP
  have hS : ∀ {draw ops}, statB Tryz.f110.ntmps draw ops = true → statB (envOf fr Tryz.prog).fr.N draw ops = true := fun h => by rw [envOf_fr, hN]; exact h
  repeat' (first
    | exact True.intro
    | refine ev_seq ?_
    | ((first | refine vgd_go ?_ | refine ev_region hE hM (hS (by decide +kernel)) ?_ | refine ev_if ?_ | refine end_ret hE rfl rfl ?_ | refine end_norm hE rfl rfl ?_ | refine endG_ret [] hE rfl ?_ | refine endG_norm [] hE rfl ?_ | refine vcallB_of hP (s_isDims _) ?_ | refine vcallB_of hP (s_ContainsFuncI xs _ (fun x => !inB x (-1000) 1000) (fun x _ => s_PointFault1 x)) ?_ | refine vcall_A ?_); simp (maxSteps := 2000000) only [go_sem, hP, ↓reduceIte, Nat.reduceAdd, Nat.reduceMul, Nat.reduceEqDiff, Nat.reduceSub, Nat.reduceLeDiff, reduceCtorEq])
    | refine ev_skip ?_ | refine ev_block ?_ | refine ev_blk ?_ | refine ev_ret ?_ | refine ev_exit ?_ | refine evx_code_ret ?_ | refine evx_blk_ret ?_ | refine evx_lp_ret ?_
    | refine evx_code_exit ?_ | refine evx_lp_exit ?_ | refine evx_blk_hit ?_ | refine evx_blk_pass (by decide) ?_
    | refine And.intro ?_ ?_ | intro _ | decide +kernel | omega)
  all_goals simp_all [pf]
structure Rect where
  low : List Int
  high : List Int
  deriving DecidableEq, Inhabited
@[go_sem] abbrev cR (r : Rect) : List C := [sI r.low, sI r.high]
@[go_sem] abbrev oR (r : Rect) : List C := [oI r.low, oI r.high]
@[go_sem] abbrev aR (r : Rect) : Arg := .d (true, cR r)
@[go_sem] abbrev pR (r : Rect) : Arg := .pv (cR r)
@[go_sem] abbrev rR (r : Rect) : List Dat := [(true, oR r)]
theorem bndR {r : Rect} {gs : List Arg} (h : Args.bnd (aR r :: gs)) : r.low.length ≤ maxLen ∧ r.high.length ≤ maxLen := by
  have h1 := h.1.1.1; have h2 := h.1.2.1.1
  rw [List.length_map] at h1 h2; exact ⟨h1, h2⟩
theorem bndPR {r : Rect} {gs : List Arg} (h : Args.bnd (pR r :: gs)) : r.low.length ≤ maxLen ∧ r.high.length ≤ maxLen := by
  have h1 := h.1.1.1; have h2 := h.1.2.1.1
  rw [List.length_map] at h1 h2; exact ⟨h1, h2⟩
theorem eqR (a b : Rect) : a = b ↔ a.low = b.low ∧ a.high = b.high := by cases a; cases b; simp
def wR (r : Rect) : Nat := r.low.length + r.high.length
theorem s_szRect (r : Rect) (left : Int) (h0 : 0 ≤ left) (h1 : left ≤ 1048576) : Sat Tryz.prog 107 [aR r, aI left] true (rI (lessN (wR r) left)) := by
  refine sat_walk (fn := Tryz.f107) rfl rfl rfl (Nat.le_of_ble_eq_true rfl) fun fr hP hN hbnd => ?_
  have hE : (envOf fr Tryz.prog).Ok := envOf_ok hP
  have hM := follows_of hP
  have hS : ∀ {draw ops}, statB Tryz.f107.ntmps draw ops = true → statB (envOf fr Tryz.prog).fr.N draw ops = true := fun h => by rw [envOf_fr, hN]; exact h
  have hl := bndR hbnd
  repeat' (first
    | exact True.intro
    | refine ev_seq ?_
    | ((first | refine vgd_go ?_ | refine ev_region hE hM (hS (by decide +kernel)) ?_ | refine ev_if ?_ | refine end_ret hE rfl rfl ?_ | refine end_norm hE rfl rfl ?_ | refine endG_ret [] hE rfl ?_ | refine endG_norm [] hE rfl ?_ | refine vcallB_of hP (s_szInt64S _ _ h0 h1) ?_ | refine vcallB_of hP (s_szInt64S _ _ (by simp only [lessN] at *; omega) (by simp only [lessN] at *; omega)) ?_ | refine vcall_A ?_); simp (maxSteps := 2000000) only [go_sem, hP, ↓reduceIte, Nat.reduceAdd, Nat.reduceMul, Nat.reduceEqDiff, Nat.reduceSub, Nat.reduceLeDiff, reduceCtorEq])
    | refine ev_skip ?_ | refine ev_block ?_ | refine ev_blk ?_ | refine ev_ret ?_ | refine ev_exit ?_ | refine evx_code_ret ?_ | refine evx_blk_ret ?_ | refine evx_lp_ret ?_
    | refine evx_code_exit ?_ | refine evx_lp_exit ?_ | refine evx_blk_hit ?_ | refine evx_blk_pass (by decide) ?_
    | refine And.intro ?_ ?_ | intro _ | decide +kernel | omega)
  all_goals simp_all only [lessN, wR]
  all_goals omega
theorem s_toRect (r : Rect) (h : wR r ≤ 1048576) : Sat Tryz.prog 109 [aR r] true (rR r) := by
  refine sat_walk (fn := Tryz.f109) rfl rfl rfl (Nat.le_of_ble_eq_true rfl) fun fr hP hN hbnd => ?_
  have hE : (envOf fr Tryz.prog).Ok := envOf_ok hP
  have hM := follows_of hP
  have hS : ∀ {draw ops}, statB Tryz.f109.ntmps draw ops = true → statB (envOf fr Tryz.prog).fr.N draw ops = true := fun h => by rw [envOf_fr, hN]; exact h
  have hw : r.low.length ≤ 1048576 ∧ r.high.length ≤ 1048576 := by simp only [wR] at h; omega
  repeat' (first
    | exact True.intro
    | refine ev_seq ?_
    | ((first | refine vgd_go ?_ | refine ev_region hE hM (hS (by decide +kernel)) ?_ | refine ev_if ?_ | refine end_ret hE rfl rfl ?_ | refine end_norm hE rfl rfl ?_ | refine endG_ret [] hE rfl ?_ | refine endG_norm [] hE rfl ?_ | refine vcallB_of hP (s_toInt64S _ hw.1) ?_ | refine vcallB_of hP (s_toInt64S _ hw.2) ?_ | refine vcall_A ?_); simp (maxSteps := 2000000) only [go_sem, hP, ↓reduceIte, Nat.reduceAdd, Nat.reduceMul, Nat.reduceEqDiff, Nat.reduceSub, Nat.reduceLeDiff, reduceCtorEq])
    | refine ev_skip ?_ | refine ev_block ?_ | refine ev_blk ?_ | refine ev_ret ?_ | refine ev_exit ?_ | refine evx_code_ret ?_ | refine evx_blk_ret ?_ | refine evx_lp_ret ?_
    | refine evx_code_exit ?_ | refine evx_lp_exit ?_ | refine evx_blk_hit ?_ | refine evx_blk_pass (by decide) ?_
    | refine And.intro ?_ ?_ | intro _ | decide +kernel | omega)
theorem s_eqRect (a b : Rect) : Sat Tryz.prog 114 [aR a, aR b] true (rB (decide (a = b))) := by
  refine sat_walk (fn := Tryz.f114) rfl rfl rfl (Nat.le_of_ble_eq_true rfl) fun fr hP hN hbnd => ?_
  have hE : (envOf fr Tryz.prog).Ok := envOf_ok hP
  have hM := follows_of hP
  have hS : ∀ {draw ops}, statB Tryz.f114.ntmps draw ops = true → statB (envOf fr Tryz.prog).fr.N draw ops = true := fun h => by rw [envOf_fr, hN]; exact h
  repeat' (first
    | exact True.intro
    | refine ev_seq ?_
    | ((first | refine vgd_go ?_ | refine ev_region hE hM (hS (by decide +kernel)) ?_ | refine ev_if ?_ | refine end_ret hE rfl rfl ?_ | refine end_norm hE rfl rfl ?_ | refine endG_ret [] hE rfl ?_ | refine endG_norm [] hE rfl ?_ | refine vcallB_of hP (s_eqInt64S _ _) ?_ | refine vcall_A ?_); simp (maxSteps := 2000000) only [go_sem, hP, ↓reduceIte, Nat.reduceAdd, Nat.reduceMul, Nat.reduceEqDiff, Nat.reduceSub, Nat.reduceLeDiff, reduceCtorEq])
    | refine ev_skip ?_ | refine ev_block ?_ | refine ev_blk ?_ | refine ev_ret ?_ | refine ev_exit ?_ | refine evx_code_ret ?_ | refine evx_blk_ret ?_ | refine evx_lp_ret ?_
    | refine evx_code_exit ?_ | refine evx_lp_exit ?_ | refine evx_blk_hit ?_ | refine evx_blk_pass (by decide) ?_
    | refine And.intro ?_ ?_ | intro _ | decide +kernel | omega)
  all_goals simp_all [eqR]
theorem s_l1Same (xs ys : List Int) : Sat Tryz.prog 125 [aL xs, aL ys] true (rB (decide (xs = ys))) := by
  refine sat_walk (fn := Tryz.f125) rfl rfl rfl (Nat.le_of_ble_eq_true rfl) fun fr hP hN hbnd => ?_
  have hE : (envOf fr Tryz.prog).Ok := envOf_ok hP
  have hM := follows_of hP
  have hS : ∀ {draw ops}, statB Tryz.f125.ntmps draw ops = true → statB (envOf fr Tryz.prog).fr.N draw ops = true := fun h => by rw [envOf_fr, hN]; exact h
  have hlen := bndL hbnd
  repeat' (first
    | exact True.intro
    | refine ev_seq ?_
    | ((first | refine vgd_go ?_ | refine ev_region hE hM (hS (by decide +kernel)) ?_ | refine ev_if ?_ | refine end_ret hE rfl rfl ?_ | refine end_norm hE rfl rfl ?_ | refine endG_ret [] hE rfl ?_ | refine endG_norm [] hE rfl ?_ | refine vcall_A ?_); simp (maxSteps := 2000000) only [go_sem, hP, ↓reduceIte, Nat.reduceAdd, Nat.reduceMul, Nat.reduceEqDiff, Nat.reduceSub, Nat.reduceLeDiff, reduceCtorEq])
    | refine ev_skip ?_ | refine ev_block ?_ | refine ev_blk ?_ | refine ev_ret ?_ | refine ev_exit ?_ | refine evx_code_ret ?_ | refine evx_blk_ret ?_ | refine evx_lp_ret ?_
    | refine evx_code_exit ?_ | refine evx_lp_exit ?_ | refine evx_blk_hit ?_ | refine evx_blk_pass (by decide) ?_
    | refine And.intro ?_ ?_ | intro _ | decide +kernel | omega)
  · rename_i h; simp at h; simp; rintro rfl; exact h rfl
  rename_i h; simp at h
  refine ev_loop (ι := Nat) (fun k => [(0, .c (sI xs)), (1, .c (sI ys)), (5, .c (.int .i64 k))]) (fun k => []) (fun _ => []) (fun k => k ≤ xs.length ∧ xs.take k = ys.take k) (fun k => xs.length - k) 0 [] (by simp) (by simp only [go_sem, hP, ↓reduceIte, Nat.reduceAdd, Nat.reduceMul, Nat.reduceEqDiff, Nat.reduceSub, Nat.reduceLeDiff, reduceCtorEq]; simp) ?_
  intro k hk
  repeat' (first
    | exact True.intro
    | refine ev_seq ?_
    | ((first | refine vgd_go ?_ | refine ev_region hE hM (hS (by decide +kernel)) ?_ | refine ev_if ?_ | refine end_ret hE rfl rfl ?_ | refine end_norm hE rfl rfl ?_ | refine endG_ret [] hE rfl ?_ | refine endG_norm [] hE rfl ?_ | refine vcall_A ?_); simp (maxSteps := 2000000) only [go_sem, hP, ↓reduceIte, Nat.reduceAdd, Nat.reduceMul, Nat.reduceEqDiff, Nat.reduceSub, Nat.reduceLeDiff, reduceCtorEq])
    | refine ev_skip ?_ | refine ev_block ?_ | refine ev_blk ?_ | refine ev_ret ?_ | refine ev_exit ?_ | refine evx_code_ret ?_ | refine evx_blk_ret ?_ | refine evx_lp_ret ?_
    | refine evx_code_exit ?_ | refine evx_lp_exit ?_ | refine evx_blk_hit ?_ | refine evx_blk_pass (by decide) ?_
    | refine And.intro ?_ ?_ | intro _ | decide +kernel | omega)
  · rename_i h3; simp at h3; simp; exact eq_not h3
  · rename_i h3 h4; simp at h4
    exact ev_lp (k + 1) [] ⟨by omega, eq_step (d := default) (e := default) (by omega) (by omega) hk.2 (by simpa using h4)⟩ (by omega) (by simp only [go_sem, hP, ↓reduceIte, Nat.reduceAdd, Nat.reduceMul, Nat.reduceEqDiff, Nat.reduceSub, Nat.reduceLeDiff, reduceCtorEq]; simp; exact wrap_nat (by omega) hlen)
  · simp; exact eq_done (by omega) (by omega) hk.2
theorem s_EqualI (xs ys : List Int) : Sat Tryz.prog 124 [aL xs, aL ys] true (rB (decide (xs = ys))) := by
  refine sat_walk (fn := Tryz.f124) rfl rfl rfl (Nat.le_of_ble_eq_true rfl) fun fr hP hN hbnd => ?_
  have hE : (envOf fr Tryz.prog).Ok := envOf_ok hP
  have hM := follows_of hP
  have hS : ∀ {draw ops}, statB Tryz.f124.ntmps draw ops = true → statB (envOf fr Tryz.prog).fr.N draw ops = true := fun h => by rw [envOf_fr, hN]; exact h
  have hlen := bndL hbnd
  repeat' (first
    | exact True.intro
    | refine ev_seq ?_
    | ((first | refine vgd_go ?_ | refine ev_region hE hM (hS (by decide +kernel)) ?_ | refine ev_if ?_ | refine end_ret hE rfl rfl ?_ | refine end_norm hE rfl rfl ?_ | refine endG_ret [] hE rfl ?_ | refine endG_norm [] hE rfl ?_ | refine vcall_A ?_); simp (maxSteps := 2000000) only [go_sem, hP, ↓reduceIte, Nat.reduceAdd, Nat.reduceMul, Nat.reduceEqDiff, Nat.reduceSub, Nat.reduceLeDiff, reduceCtorEq])
    | refine ev_skip ?_ | refine ev_block ?_ | refine ev_blk ?_ | refine ev_ret ?_ | refine ev_exit ?_ | refine evx_code_ret ?_ | refine evx_blk_ret ?_ | refine evx_lp_ret ?_
    | refine evx_code_exit ?_ | refine evx_lp_exit ?_ | refine evx_blk_hit ?_ | refine evx_blk_pass (by decide) ?_
    | refine And.intro ?_ ?_ | intro _ | decide +kernel | omega)
  · rename_i h; simp at h; simp; rintro rfl; exact h rfl
  rename_i h; simp at h
  refine ev_loop (ι := Nat) (fun k => [(0, .c (sI xs)), (1, .c (sI ys)), (12, .c (.int .i64 xs.length)), (13, .c (.int .i64 k))]) (fun k => []) (fun _ => []) (fun k => k ≤ xs.length ∧ xs.take k = ys.take k) (fun k => xs.length - k) 0 [] (by simp) (by simp only [go_sem, hP, ↓reduceIte, Nat.reduceAdd, Nat.reduceMul, Nat.reduceEqDiff, Nat.reduceSub, Nat.reduceLeDiff, reduceCtorEq]; simp) ?_
  intro k hk
  repeat' (first
    | exact True.intro
    | refine ev_seq ?_
    | ((first | refine vgd_go ?_ | refine ev_region hE hM (hS (by decide +kernel)) ?_ | refine ev_if ?_ | refine end_ret hE rfl rfl ?_ | refine end_norm hE rfl rfl ?_ | refine endG_ret [] hE rfl ?_ | refine endG_norm [] hE rfl ?_ | refine vcall_A ?_); simp (maxSteps := 2000000) only [go_sem, hP, ↓reduceIte, Nat.reduceAdd, Nat.reduceMul, Nat.reduceEqDiff, Nat.reduceSub, Nat.reduceLeDiff, reduceCtorEq])
    | refine ev_skip ?_ | refine ev_block ?_ | refine ev_blk ?_ | refine ev_ret ?_ | refine ev_exit ?_ | refine evx_code_ret ?_ | refine evx_blk_ret ?_ | refine evx_lp_ret ?_
    | refine evx_code_exit ?_ | refine evx_lp_exit ?_ | refine evx_blk_hit ?_ | refine evx_blk_pass (by decide) ?_
    | refine And.intro ?_ ?_ | intro _ | decide +kernel | omega)
  · rename_i h3; simp at h3; simp; exact eq_not h3
  · rename_i h3 h4; simp at h4
    exact ev_lp (k + 1) [] ⟨by omega, eq_step (d := default) (e := default) (by omega) (by omega) hk.2 (by simpa using h4)⟩ (by omega) (by simp only [go_sem, hP, ↓reduceIte, Nat.reduceAdd, Nat.reduceMul, Nat.reduceEqDiff, Nat.reduceSub, Nat.reduceLeDiff, reduceCtorEq]; simp; exact wrap_nat (by omega) hlen)
  · simp; exact eq_done (by omega) (by omega) hk.2
theorem s_specSameRects (a b : Rect) : Sat Tryz.prog 123 [aR a, aR b] true (rB (decide (a = b))) := by
  refine sat_walk (fn := Tryz.f123) rfl rfl rfl (Nat.le_of_ble_eq_true rfl) fun fr hP hN hbnd => ?_
  have hE : (envOf fr Tryz.prog).Ok := envOf_ok hP
  have hM := follows_of hP
  have hS : ∀ {draw ops}, statB Tryz.f123.ntmps draw ops = true → statB (envOf fr Tryz.prog).fr.N draw ops = true := fun h => by rw [envOf_fr, hN]; exact h
  repeat' (first
    | exact True.intro
    | refine ev_seq ?_
    | ((first | refine vgd_go ?_ | refine ev_region hE hM (hS (by decide +kernel)) ?_ | refine ev_if ?_ | refine end_ret hE rfl rfl ?_ | refine end_norm hE rfl rfl ?_ | refine endG_ret [] hE rfl ?_ | refine endG_norm [] hE rfl ?_ | refine vcallB_of hP (s_l1Same _ _) ?_ | refine vcall_A ?_); simp (maxSteps := 2000000) only [go_sem, hP, ↓reduceIte, Nat.reduceAdd, Nat.reduceMul, Nat.reduceEqDiff, Nat.reduceSub, Nat.reduceLeDiff, reduceCtorEq])
    | refine ev_skip ?_ | refine ev_block ?_ | refine ev_blk ?_ | refine ev_ret ?_ | refine ev_exit ?_ | refine evx_code_ret ?_ | refine evx_blk_ret ?_ | refine evx_lp_ret ?_
    | refine evx_code_exit ?_ | refine evx_lp_exit ?_ | refine evx_blk_hit ?_ | refine evx_blk_pass (by decide) ?_
    | refine And.intro ?_ ?_ | intro _ | decide +kernel | omega)
  all_goals simp_all [eqR]
theorem s_implSameRects (a b : Rect) : Sat Tryz.prog 119 [aR a, aR b] true (rB (decide (a = b))) := by
  refine sat_walk (fn := Tryz.f119) rfl rfl rfl (Nat.le_of_ble_eq_true rfl) fun fr hP hN hbnd => ?_
  have hE : (envOf fr Tryz.prog).Ok := envOf_ok hP
  have hM := follows_of hP
  have hS : ∀ {draw ops}, statB Tryz.f119.ntmps draw ops = true → statB (envOf fr Tryz.prog).fr.N draw ops = true := fun h => by rw [envOf_fr, hN]; exact h
  repeat' (first
    | exact True.intro
    | refine ev_seq ?_
    | ((first | refine vgd_go ?_ | refine ev_region hE hM (hS (by decide +kernel)) ?_ | refine ev_if ?_ | refine end_ret hE rfl rfl ?_ | refine end_norm hE rfl rfl ?_ | refine endG_ret [] hE rfl ?_ | refine endG_norm [] hE rfl ?_ | refine vcallB_of hP (s_EqualI _ _) ?_ | refine vcall_A ?_); simp (maxSteps := 2000000) only [go_sem, hP, ↓reduceIte, Nat.reduceAdd, Nat.reduceMul, Nat.reduceEqDiff, Nat.reduceSub, Nat.reduceLeDiff, reduceCtorEq])
    | refine ev_skip ?_ | refine ev_block ?_ | refine ev_blk ?_ | refine ev_ret ?_ | refine ev_exit ?_ | refine evx_code_ret ?_ | refine evx_blk_ret ?_ | refine evx_lp_ret ?_
    | refine evx_code_exit ?_ | refine evx_lp_exit ?_ | refine evx_blk_hit ?_ | refine evx_blk_pass (by decide) ?_
    | refine And.intro ?_ ?_ | intro _ | decide +kernel | omega)
  all_goals simp_all [eqR]
theorem shp_R {n t : Nat} {cs : List C} (ht : (Tryz.prog.underlying t).bind fieldTs = some [23, 23]) (h : shp Tryz.prog (n + 3) t cs) : ∃ r, cs = cR r := by
  obtain ⟨x, y, rfl, h1, z, w, rfl, h2, rfl⟩ := shp_struct ht h
  obtain ⟨xs, rfl, _⟩ := shp_ints (n := n) (e := 2) rfl rfl rfl h1
  obtain ⟨ys, rfl, _⟩ := shp_ints (n := n) (e := 2) rfl rfl rfl h2
  exact ⟨⟨xs, ys⟩, rfl⟩
theorem pf_len {xs : List Int} {d : Int} (h : pf xs d = 0) : (xs.length : Int) = d := by
  unfold pf at h; split at h <;> (try split at h) <;> simp_all
/-- The low corner is nowhere above the high one. -/
def lowHigh (r : Rect) : Bool := allLt r.low.length fun j => decide (r.low.getD j default ≤ r.high.getD j default)
def rf (r : Rect) (d : Int) : Int := if pf r.low d ≠ 0 then pf r.low d else if pf r.high d ≠ 0 then pf r.high d else if lowHigh r then 0 else 1
theorem s_specRectFault (r : Rect) (d : Int) : Sat Tryz.prog 108 [aR r, aI d] true (rI (rf r d)) := by
  refine sat_walk (fn := Tryz.f108) rfl rfl rfl (Nat.le_of_ble_eq_true rfl) fun fr hP hN hbnd => ?_
  have hE : (envOf fr Tryz.prog).Ok := envOf_ok hP
  have hM := follows_of hP
  have hS : ∀ {draw ops}, statB Tryz.f108.ntmps draw ops = true → statB (envOf fr Tryz.prog).fr.N draw ops = true := fun h => by rw [envOf_fr, hN]; exact h
  have hl := bndR hbnd
  repeat' (first
    | exact True.intro
    | refine ev_seq ?_
    | ((first | refine vgd_go ?_ | refine ev_region hE hM (hS (by decide +kernel)) ?_ | refine ev_if ?_ | refine end_ret hE rfl rfl ?_ | refine end_norm hE rfl rfl ?_ | refine endG_ret [] hE rfl ?_ | refine endG_norm [] hE rfl ?_ | refine vcallB_of hP (s_specPointFault _ _) ?_ | refine vcall_A ?_); simp (maxSteps := 2000000) only [go_sem, hP, ↓reduceIte, Nat.reduceAdd, Nat.reduceMul, Nat.reduceEqDiff, Nat.reduceSub, Nat.reduceLeDiff, reduceCtorEq])
    | refine ev_skip ?_ | refine ev_block ?_ | refine ev_blk ?_ | refine ev_ret ?_ | refine ev_exit ?_ | refine evx_code_ret ?_ | refine evx_blk_ret ?_ | refine evx_lp_ret ?_
    | refine evx_code_exit ?_ | refine evx_lp_exit ?_ | refine evx_blk_hit ?_ | refine evx_blk_pass (by decide) ?_
    | refine And.intro ?_ ?_ | intro _ | decide +kernel | omega)
  · simp_all [rf]
  · simp_all [rf]
  rename_i h1 h2
  have e1 := pf_len (by simpa using h1)
  have e2 := pf_len (by simpa using h2)
  refine ev_loop (ι := Nat) (fun k => [(2, .ptr 0 0), (7, .c (.int .i64 k))]) (fun k => [(0, .box [.c (sI r.low), .c (sI r.high)])]) (fun _ => []) (fun k => k ≤ r.low.length ∧ allLt k (fun j => decide (r.low.getD j default ≤ r.high.getD j default)) = true) (fun k => r.low.length - k) 0 [] (by simp [allLt_zero] <;> omega) (by simp only [go_sem, hP, ↓reduceIte, Nat.reduceAdd, Nat.reduceMul, Nat.reduceEqDiff, Nat.reduceSub, Nat.reduceLeDiff, reduceCtorEq]; simp) ?_
  intro k hk
  repeat' (first
    | exact True.intro
    | refine ev_seq ?_
    | ((first | refine vgd_go ?_ | refine ev_region hE hM (hS (by decide +kernel)) ?_ | refine ev_if ?_ | refine end_ret hE rfl rfl ?_ | refine end_norm hE rfl rfl ?_ | refine endG_ret [] hE rfl ?_ | refine endG_norm [] hE rfl ?_ | refine vcall_A ?_); simp (maxSteps := 2000000) only [go_sem, hP, ↓reduceIte, Nat.reduceAdd, Nat.reduceMul, Nat.reduceEqDiff, Nat.reduceSub, Nat.reduceLeDiff, reduceCtorEq])
    | refine ev_skip ?_ | refine ev_block ?_ | refine ev_blk ?_ | refine ev_ret ?_ | refine ev_exit ?_ | refine evx_code_ret ?_ | refine evx_blk_ret ?_ | refine evx_lp_ret ?_
    | refine evx_code_exit ?_ | refine evx_lp_exit ?_ | refine evx_blk_hit ?_ | refine evx_blk_pass (by decide) ?_
    | refine And.intro ?_ ?_ | intro _ | decide +kernel | omega)
  · rename_i h3 h4
    have : lowHigh r = false := allLt_not (k := k) (by omega) (by simpa using h4)
    simp_all [rf]
  · rename_i h3 h4
    exact ev_lp (k + 1) [] ⟨by omega, allLt_step hk.2 (by simpa using h4)⟩ (by omega) (by simp only [go_sem, hP, ↓reduceIte, Nat.reduceAdd, Nat.reduceMul, Nat.reduceEqDiff, Nat.reduceSub, Nat.reduceLeDiff, reduceCtorEq]; simp; exact wrap_nat (by omega) hl.1)
  · have : lowHigh r = true := allLt_done (by omega) hk.2
    simp_all [rf]
theorem s_implRectFault (r : Rect) (d : Int) : Sat Tryz.prog 82 [aR r, aI d] true (rI (rf r d)) := by
  refine sat_walk (fn := Tryz.f82) rfl rfl rfl (Nat.le_of_ble_eq_true rfl) fun fr hP hN hbnd => ?_
  have hE : (envOf fr Tryz.prog).Ok := envOf_ok hP
  have hM := follows_of hP
  have hS : ∀ {draw ops}, statB Tryz.f82.ntmps draw ops = true → statB (envOf fr Tryz.prog).fr.N draw ops = true := fun h => by rw [envOf_fr, hN]; exact h
  have hl := bndR hbnd
  repeat' (first
    | exact True.intro
    | refine ev_seq ?_
    | ((first | refine vgd_go ?_ | refine ev_region hE hM (hS (by decide +kernel)) ?_ | refine ev_if ?_ | refine end_ret hE rfl rfl ?_ | refine end_norm hE rfl rfl ?_ | refine endG_ret [] hE rfl ?_ | refine endG_norm [] hE rfl ?_ | refine vcallB_of hP (s_implPointFault _ _) ?_ | refine vcall_A ?_); simp (maxSteps := 2000000) only [go_sem, hP, ↓reduceIte, Nat.reduceAdd, Nat.reduceMul, Nat.reduceEqDiff, Nat.reduceSub, Nat.reduceLeDiff, reduceCtorEq])
    | refine ev_skip ?_ | refine ev_block ?_ | refine ev_blk ?_ | refine ev_ret ?_ | refine ev_exit ?_ | refine evx_code_ret ?_ | refine evx_blk_ret ?_ | refine evx_lp_ret ?_
    | refine evx_code_exit ?_ | refine evx_lp_exit ?_ | refine evx_blk_hit ?_ | refine evx_blk_pass (by decide) ?_
    | refine And.intro ?_ ?_ | intro _ | decide +kernel | omega)
  · simp_all [rf]
  · simp_all [rf]
  rename_i h1 h2
  have e1 := pf_len (by simpa using h1)
  have e2 := pf_len (by simpa using h2)
  refine ev_loop (ι := Nat) (fun k => [(2, .ptr 0 0), (24, .c (sI r.low)), (25, .c (.int .i64 r.low.length)), (26, .c (.int .i64 k))]) (fun k => [(0, .box [.c (sI r.low), .c (sI r.high)])]) (fun _ => []) (fun k => k ≤ r.low.length ∧ allLt k (fun j => decide (r.low.getD j default ≤ r.high.getD j default)) = true) (fun k => r.low.length - k) 0 [] (by simp [allLt_zero] <;> omega) (by simp only [go_sem, hP, ↓reduceIte, Nat.reduceAdd, Nat.reduceMul, Nat.reduceEqDiff, Nat.reduceSub, Nat.reduceLeDiff, reduceCtorEq]; simp) ?_
  intro k hk
  repeat' (first
    | exact True.intro
    | refine ev_seq ?_
    | ((first | refine vgd_go ?_ | refine ev_region hE hM (hS (by decide +kernel)) ?_ | refine ev_if ?_ | refine end_ret hE rfl rfl ?_ | refine end_norm hE rfl rfl ?_ | refine endG_ret [] hE rfl ?_ | refine endG_norm [] hE rfl ?_ | refine vcall_A ?_); simp (maxSteps := 2000000) only [go_sem, hP, ↓reduceIte, Nat.reduceAdd, Nat.reduceMul, Nat.reduceEqDiff, Nat.reduceSub, Nat.reduceLeDiff, reduceCtorEq])
    | refine ev_skip ?_ | refine ev_block ?_ | refine ev_blk ?_ | refine ev_ret ?_ | refine ev_exit ?_ | refine evx_code_ret ?_ | refine evx_blk_ret ?_ | refine evx_lp_ret ?_
    | refine evx_code_exit ?_ | refine evx_lp_exit ?_ | refine evx_blk_hit ?_ | refine evx_blk_pass (by decide) ?_
    | refine And.intro ?_ ?_ | intro _ | decide +kernel | omega)
  · rename_i h3 h4
    have : lowHigh r = false := allLt_not (k := k) (by omega) (by simpa using h4)
    simp_all [rf]
  · rename_i h3 h4
    exact ev_lp (k + 1) [] ⟨by omega, allLt_step hk.2 (by simpa using h4)⟩ (by omega) (by simp only [go_sem, hP, ↓reduceIte, Nat.reduceAdd, Nat.reduceMul, Nat.reduceEqDiff, Nat.reduceSub, Nat.reduceLeDiff, reduceCtorEq]; simp; exact wrap_nat (by omega) hl.1)
  · have : lowHigh r = true := allLt_done (by omega) hk.2
    simp_all [rf]
theorem rf_len {r : Rect} {d : Int} (h : rf r d = 0) : (r.low.length : Int) = d ∧ (r.high.length : Int) = d := by
  unfold rf at h
  split at h
  · simp_all
  · split at h
    · simp_all
    · rename_i h1 h2
      exact ⟨pf_len (by simpa using h1), pf_len (by simpa using h2)⟩
def two (a b : Rect) : Int := if rf a a.low.length ≠ 0 then rf a a.low.length else rf b a.low.length
structure Lens (a b : Rect) : Prop where
  h1 : a.high.length = a.low.length
  h2 : b.low.length = a.low.length
  h3 : b.high.length = a.low.length
theorem two_lens {a b : Rect} (h : two a b = 0) : Lens a b := by
  unfold two at h
  split at h
  · simp_all
  · rename_i h1
    have e1 := rf_len (by simpa using h1)
    have e2 := rf_len h
    exact ⟨by omega, by omega, by omega⟩
def meetsAt (a b : Rect) (j : Nat) : Bool := !(decide (a.low.getD j default > b.high.getD j default) || decide (b.low.getD j default > a.high.getD j default))
def meets (a b : Rect) : Bool := allLt a.low.length (meetsAt a b)
/-- The weights of all of a list. -/
def sumW {α : Type} (w : α → Nat) (xs : List α) : Nat := (xs.map w).sum
theorem sumW_step {α : Type} {w : α → Nat} {xs : List α} {k : Nat} {d : α} (h : k < xs.length) : sumW w (xs.take (k + 1)) = sumW w (xs.take k) + w (xs.getD k d) := by
  unfold sumW; rw [take_step (d := d) h]; simp
theorem sumW_le {α : Type} {w : α → Nat} {xs : List α} (k : Nat) : sumW w (xs.take k) ≤ sumW w xs := by
  unfold sumW
  conv => rhs; rw [← List.take_append_drop k xs]
  rw [List.map_append, List.sum_append]; omega
theorem sumW_get {α : Type} {w : α → Nat} {xs : List α} {k : Nat} {d : α} (h : k < xs.length) : w (xs.getD k d) ≤ sumW w xs := by
  have h1 := sumW_step (w := w) (d := d) h
  have h2 := sumW_le (w := w) (xs := xs) (k + 1)
  omega
theorem sumW_done {α : Type} {w : α → Nat} {xs : List α} {k : Nat} (h : xs.length ≤ k) : sumW w (xs.take k) = sumW w xs := by rw [List.take_of_length_le h]
@[simp] theorem sumW_nil {α : Type} {w : α → Nat} : sumW w [] = 0 := rfl
theorem sumW_zero {α : Type} {w : α → Nat} {xs : List α} : sumW w (xs.take 0) = 0 := rfl
def areaTo (r : Rect) : Nat → Int
  | 0 => 1
  | k + 1 => IntKind.i64.wrap (areaTo r k * IntKind.i64.wrap (r.high.getD k default - r.low.getD k default))
@[simp] theorem areaTo_zero (r : Rect) : areaTo r 0 = 1 := rfl
def area (r : Rect) : Int := areaTo r r.low.length
theorem wr_i64 (n : Int) : IntKind.i64.wrap n = (n + 9223372036854775808) % 18446744073709551616 - 9223372036854775808 := by
  rw [i64_left]; unfold wrap64; omega
theorem wr1 (a b c : Int) : IntKind.i64.wrap (IntKind.i64.wrap (a + b) - c) = IntKind.i64.wrap (a + (b - c)) := by simp only [wr_i64]; omega
theorem wr2 (a b c : Int) : IntKind.i64.wrap (a + IntKind.i64.wrap (b - c)) = IntKind.i64.wrap (a + (b - c)) := by simp only [wr_i64]; omega
theorem pf_at {xs : List Int} {d : Int} (h : pf xs d = 0) (k : Nat) (hk : k < xs.length) : -1000 ≤ xs.getD k default ∧ xs.getD k default ≤ 1000 := by
  have ha : xs.all (inB · (-1000) 1000) = true := by
    unfold pf at h; split at h <;> (try split at h) <;> (try split at h) <;> simp_all
  have := List.all_eq_true.mp ha _ (getD_mem (d := default) hk)
  simpa [inB] using this
theorem rf_at {r : Rect} {d : Int} (h : rf r d = 0) (k : Nat) (hk : k < r.low.length) :
    -1000 ≤ r.low.getD k default ∧ r.low.getD k default ≤ r.high.getD k default ∧ r.high.getD k default ≤ 1000 := by
  have hl := rf_len h
  unfold rf at h
  split at h
  · simp_all
  rename_i h1
  split at h
  · simp_all
  rename_i h2
  split at h
  · rename_i h3
    have e1 := pf_at (by simpa using h1) k hk
    have e2 := pf_at (by simpa using h2) k (by omega)
    have e3 := allLt_iff.mp h3 k hk
    simp at e3
    simp at e1 e2 ⊢
    omega
  · simp_all
structure Good (r : Rect) (p : List Int) : Prop where
  h1 : r.high.length = r.low.length
  h2 : p.length = r.low.length
  h3 : ∀ k, k < r.low.length → -1000 ≤ r.low.getD k default ∧ r.low.getD k default ≤ r.high.getD k default ∧ r.high.getD k default ≤ 1000
  h4 : ∀ k, k < r.low.length → -1000 ≤ p.getD k default ∧ p.getD k default ≤ 1000
theorem good_of {r : Rect} {p : List Int} {d : Int} (h : rf r d = 0) (h' : pf p d = 0) : Good r p := by
  have e1 := rf_len h
  have e2 := pf_len h'
  exact ⟨by omega, by omega, fun k hk => rf_at h k hk, fun k hk => pf_at h' k (by omega)⟩
def distAt (r : Rect) (p : List Int) (k : Nat) : Int := max (max 0 (r.low.getD k default - p.getD k default)) (p.getD k default - r.high.getD k default)
def distTo (r : Rect) (p : List Int) : Nat → Int
  | 0 => 0
  | k + 1 => IntKind.i64.wrap (distTo r p k + distAt r p k)
@[simp] theorem distTo_zero (r : Rect) (p : List Int) : distTo r p 0 = 0 := rfl
def dist (r : Rect) (p : List Int) : Int := distTo r p r.low.length
theorem wr_small {n : Int} (h : -9000 ≤ n ∧ n ≤ 9000) : IntKind.i64.wrap n = n := by rw [wr_i64]; omega
theorem dist_spec {r : Rect} {p : List Int} (g : Good r p) (k : Nat) (hk : k < r.low.length) (a : Int) :
    IntKind.i64.wrap (IntKind.i64.wrap (a + max (IntKind.i64.wrap (r.low.getD k default - p.getD k default)) 0) + max (IntKind.i64.wrap (p.getD k default - r.high.getD k default)) 0) = IntKind.i64.wrap (a + distAt r p k) := by
  have e1 := g.h3 k hk
  have e2 := g.h4 k hk
  rw [wr_small (n := r.low.getD k default - p.getD k default) (by omega), wr_small (n := p.getD k default - r.high.getD k default) (by omega)]
  unfold distAt; simp only [wr_i64]; omega
theorem dist_impl {r : Rect} {p : List Int} (g : Good r p) (k : Nat) (hk : k < r.low.length) (a : Int) :
    IntKind.i64.wrap (a + max (max 0 (IntKind.i64.wrap (r.low.getD k default - p.getD k default))) (IntKind.i64.wrap (p.getD k default - r.high.getD k default))) = IntKind.i64.wrap (a + distAt r p k) := by
  have e1 := g.h3 k hk
  have e2 := g.h4 k hk
  rw [wr_small (n := r.low.getD k default - p.getD k default) (by omega), wr_small (n := p.getD k default - r.high.getD k default) (by omega)]
  rfl
structure Entry where
  rect : Rect
  ref : Int
  nsn : Int
  deriving DecidableEq, Inhabited
def eEntry (x : Entry) : List C := [sI x.rect.low, sI x.rect.high, .int .i64 x.ref, .int .i64 x.nsn]
def oEntry (x : Entry) : List C := [oI x.rect.low, oI x.rect.high, .int .i64 x.ref, .int .i64 x.nsn]
@[go_sem] theorem eEntry_eq (x : Entry) : eEntry x = [sI x.rect.low, sI x.rect.high, .int .i64 x.ref, .int .i64 x.nsn] := rfl
@[go_sem] theorem oEntry_eq (x : Entry) : oEntry x = [oI x.rect.low, oI x.rect.high, .int .i64 x.ref, .int .i64 x.nsn] := rfl
theorem stripC_oEntry (x : Entry) : Cs.strip (oEntry x) = eEntry x := by simp [oEntry, eEntry, Cs.strip, C.strip, strip_eI]
theorem stripC_eEntry (x : Entry) : Cs.strip (eEntry x) = eEntry x := by simp [eEntry, Cs.strip, C.strip, strip_eI]
@[go_sem] theorem strip_oEntry (xs : List Entry) : Es.strip (xs.map oEntry) = xs.map eEntry := by rw [Es.strip_map]; simp [Function.comp_def, stripC_oEntry]
@[go_sem] theorem strip_eEntry (xs : List Entry) : Es.strip (xs.map eEntry) = xs.map eEntry := by rw [Es.strip_map]; simp [Function.comp_def, stripC_eEntry]
@[go_sem] abbrev aEntry (x : Entry) : Arg := .d (true, eEntry x)
@[go_sem] abbrev pEntry (x : Entry) : Arg := .pv (eEntry x)
@[go_sem] abbrev rEntry (x : Entry) : List Dat := [(true, oEntry x)]
theorem bnd_Entry {x : Entry} {gs : List Arg} (h : Args.bnd (aEntry x :: gs)) : x.rect.low.length ≤ maxLen ∧ x.rect.high.length ≤ maxLen := by
  have h0 := h.1.1.1; rw [List.length_map] at h0
  have h1 := h.1.2.1.1; rw [List.length_map] at h1
  exact ⟨h0, h1⟩
theorem bndp_Entry {x : Entry} {gs : List Arg} (h : Args.bnd (pEntry x :: gs)) : x.rect.low.length ≤ maxLen ∧ x.rect.high.length ≤ maxLen := by
  have h0 := h.1.1.1; rw [List.length_map] at h0
  have h1 := h.1.2.1.1; rw [List.length_map] at h1
  exact ⟨h0, h1⟩
theorem eqEntry (a b : Entry) : a = b ↔ a.rect = b.rect ∧ a.ref = b.ref ∧ a.nsn = b.nsn := by cases a; cases b; simp
def wEntry (x : Entry) : Nat := wR x.rect
theorem s_toEntry (x : Entry) (h : wEntry x ≤ 1048576) : Sat Tryz.prog 80 [aEntry x] true (rEntry x) := by
  refine sat_walk (fn := Tryz.f80) rfl rfl rfl (Nat.le_of_ble_eq_true rfl) fun fr hP hN hbnd => ?_
  have hE : (envOf fr Tryz.prog).Ok := envOf_ok hP
  have hM := follows_of hP
  have hS : ∀ {draw ops}, statB Tryz.f80.ntmps draw ops = true → statB (envOf fr Tryz.prog).fr.N draw ops = true := fun h => by rw [envOf_fr, hN]; exact h
  simp only [wEntry] at h
  repeat' (first
    | exact True.intro
    | refine ev_seq ?_
    | ((first | refine vgd_go ?_ | refine ev_region hE hM (hS (by decide +kernel)) ?_ | refine ev_if ?_ | refine end_ret hE rfl rfl ?_ | refine end_norm hE rfl rfl ?_ | refine endG_ret [] hE rfl ?_ | refine endG_norm [] hE rfl ?_ | refine vcallB_of hP (s_toRect x.rect (by omega)) ?_ | refine vcall_A ?_); simp (maxSteps := 2000000) only [go_sem, hP, ↓reduceIte, Nat.reduceAdd, Nat.reduceMul, Nat.reduceEqDiff, Nat.reduceSub, Nat.reduceLeDiff, reduceCtorEq])
    | refine ev_skip ?_ | refine ev_block ?_ | refine ev_blk ?_ | refine ev_ret ?_ | refine ev_exit ?_ | refine evx_code_ret ?_ | refine evx_blk_ret ?_ | refine evx_lp_ret ?_
    | refine evx_code_exit ?_ | refine evx_lp_exit ?_ | refine evx_blk_hit ?_ | refine evx_blk_pass (by decide) ?_
    | refine And.intro ?_ ?_ | intro _ | decide +kernel | omega)
theorem s_szEntry (x : Entry) (left : Int) (h0 : 0 ≤ left) (h1 : left ≤ 1048576) : Sat Tryz.prog 74 [aEntry x, aI left] true (rI (lessN (wEntry x) left)) := by
  refine sat_walk (fn := Tryz.f74) rfl rfl rfl (Nat.le_of_ble_eq_true rfl) fun fr hP hN hbnd => ?_
  have hE : (envOf fr Tryz.prog).Ok := envOf_ok hP
  have hM := follows_of hP
  have hS : ∀ {draw ops}, statB Tryz.f74.ntmps draw ops = true → statB (envOf fr Tryz.prog).fr.N draw ops = true := fun h => by rw [envOf_fr, hN]; exact h
  repeat' (first
    | exact True.intro
    | refine ev_seq ?_
    | ((first | refine vgd_go ?_ | refine ev_region hE hM (hS (by decide +kernel)) ?_ | refine ev_if ?_ | refine end_ret hE rfl rfl ?_ | refine end_norm hE rfl rfl ?_ | refine endG_ret [] hE rfl ?_ | refine endG_norm [] hE rfl ?_ | refine vcallB_of hP (s_szRect x.rect _ (by (try simp only [lessN] at *); omega) (by (try simp only [lessN] at *); omega)) ?_ | refine vcall_A ?_); simp (maxSteps := 2000000) only [go_sem, hP, ↓reduceIte, Nat.reduceAdd, Nat.reduceMul, Nat.reduceEqDiff, Nat.reduceSub, Nat.reduceLeDiff, reduceCtorEq])
    | refine ev_skip ?_ | refine ev_block ?_ | refine ev_blk ?_ | refine ev_ret ?_ | refine ev_exit ?_ | refine evx_code_ret ?_ | refine evx_blk_ret ?_ | refine evx_lp_ret ?_
    | refine evx_code_exit ?_ | refine evx_lp_exit ?_ | refine evx_blk_hit ?_ | refine evx_blk_pass (by decide) ?_
    | refine And.intro ?_ ?_ | intro _ | decide +kernel | omega)
  all_goals simp_all only [lessN, wEntry]
  all_goals omega
theorem s_eqEntry (a b : Entry) : Sat Tryz.prog 89 [aEntry a, aEntry b] true (rB (decide (a = b))) := by
  refine sat_walk (fn := Tryz.f89) rfl rfl rfl (Nat.le_of_ble_eq_true rfl) fun fr hP hN hbnd => ?_
  have hE : (envOf fr Tryz.prog).Ok := envOf_ok hP
  have hM := follows_of hP
  have hS : ∀ {draw ops}, statB Tryz.f89.ntmps draw ops = true → statB (envOf fr Tryz.prog).fr.N draw ops = true := fun h => by rw [envOf_fr, hN]; exact h
  repeat' (first
    | exact True.intro
    | refine ev_seq ?_
    | ((first | refine vgd_go ?_ | refine ev_region hE hM (hS (by decide +kernel)) ?_ | refine ev_if ?_ | refine end_ret hE rfl rfl ?_ | refine end_norm hE rfl rfl ?_ | refine endG_ret [] hE rfl ?_ | refine endG_norm [] hE rfl ?_ | refine vcallB_of hP (s_eqRect a.rect b.rect) ?_ | refine vcall_A ?_); simp (maxSteps := 2000000) only [go_sem, hP, ↓reduceIte, Nat.reduceAdd, Nat.reduceMul, Nat.reduceEqDiff, Nat.reduceSub, Nat.reduceLeDiff, reduceCtorEq])
    | refine ev_skip ?_ | refine ev_block ?_ | refine ev_blk ?_ | refine ev_ret ?_ | refine ev_exit ?_ | refine evx_code_ret ?_ | refine evx_blk_ret ?_ | refine evx_lp_ret ?_
    | refine evx_code_exit ?_ | refine evx_lp_exit ?_ | refine evx_blk_hit ?_ | refine evx_blk_pass (by decide) ?_
    | refine And.intro ?_ ?_ | intro _ | decide +kernel | omega)
  all_goals simp_all [eqEntry]
theorem shp_Entry {n t : Nat} {cs : List C} (ht : (Tryz.prog.underlying t).bind fieldTs = some [105, 2, 2]) (h : shp Tryz.prog (n + 4) t cs) : ∃ x, cs = eEntry x := by
  obtain ⟨c0, g0, rfl, h0, c1, g1, rfl, h1, c2, g2, rfl, h2, rfl⟩ := shp_struct ht h
  obtain ⟨v0, rfl⟩ := shp_R (n := n + 0) rfl h0
  obtain ⟨v1, rfl, _⟩ := shp_i64 (n := n + 2) rfl h1
  obtain ⟨v2, rfl, _⟩ := shp_i64 (n := n + 2) rfl h2
  exact ⟨⟨v0, v1, v2⟩, rfl⟩
@[go_sem] abbrev sEntryS (xs : List Entry) : C := .sl none 4 (xs.map eEntry)
@[go_sem] abbrev oEntryS (xs : List Entry) : C := .sl (some 112) 4 (xs.map oEntry)
@[go_sem] abbrev aEntryS (xs : List Entry) : Arg := .d (false, [sEntryS xs])
@[go_sem] abbrev rEntryS (xs : List Entry) : List Dat := [(false, [oEntryS xs])]
theorem bnd_EntryS {xs : List Entry} {gs : List Arg} (h : Args.bnd (aEntryS xs :: gs)) : xs.length ≤ maxLen := by
  have := h.1.1.1; rwa [List.length_map] at this
def wEntryS (xs : List Entry) : Nat := xs.length + sumW wEntry xs
theorem s_toEntryS (xs : List Entry) (h : wEntryS xs ≤ 1048576) : Sat Tryz.prog 49 [aEntryS xs] true (rEntryS xs) := by
  refine sat_walk (fn := Tryz.f49) rfl rfl rfl (Nat.le_of_ble_eq_true rfl) fun fr hP hN hbnd => ?_
  have hE : (envOf fr Tryz.prog).Ok := envOf_ok hP
  have hM := follows_of hP
  have hS : ∀ {draw ops}, statB Tryz.f49.ntmps draw ops = true → statB (envOf fr Tryz.prog).fr.N draw ops = true := fun h => by rw [envOf_fr, hN]; exact h
  have hx : xs.length ≤ 1048576 := by unfold wEntryS at h; omega
  have hw : ∀ k, k < xs.length → wEntry (xs.getD k default) ≤ 1048576 := fun k hk => by
    have := sumW_get (w := wEntry) (d := default) hk; unfold wEntryS at h; omega
  repeat' (first
    | exact True.intro
    | refine ev_seq ?_
    | ((first | refine vgd_go ?_ | refine ev_region hE hM (hS (by decide +kernel)) ?_ | refine ev_if ?_ | refine end_ret hE rfl rfl ?_ | refine end_norm hE rfl rfl ?_ | refine endG_ret [] hE rfl ?_ | refine endG_norm [] hE rfl ?_ | refine vcall_A ?_); simp (maxSteps := 2000000) only [go_sem, hP, ↓reduceIte, Nat.reduceAdd, Nat.reduceMul, Nat.reduceEqDiff, Nat.reduceSub, Nat.reduceLeDiff, reduceCtorEq])
    | refine ev_skip ?_ | refine ev_block ?_ | refine ev_blk ?_ | refine ev_ret ?_ | refine ev_exit ?_ | refine evx_code_ret ?_ | refine evx_blk_ret ?_ | refine evx_lp_ret ?_
    | refine evx_code_exit ?_ | refine evx_lp_exit ?_ | refine evx_blk_hit ?_ | refine evx_blk_pass (by decide) ?_
    | refine And.intro ?_ ?_ | intro _ | decide +kernel | omega)
  refine ev_loop (ι := Nat) (fun k => [(0, .c (sEntryS xs)), (3, .ref 4112), (4, .c (.int .i64 k))]) (fun k => [(4112, .arr true 112 4 ((mix xs ⟨⟨[], []⟩, 0, 0⟩ k).map oEntry))]) (fun _ => []) (fun k => k ≤ xs.length) (fun k => xs.length - k) 0 [] (by simp) (by simp only [go_sem, hP, ↓reduceIte, Nat.reduceAdd, Nat.reduceMul, Nat.reduceEqDiff, Nat.reduceSub, Nat.reduceLeDiff, reduceCtorEq]; simp [mix_zero, oEntry]) ?_
  intro k hk
  repeat' (first
    | exact True.intro
    | refine ev_seq ?_
    | ((first | refine vgd_go ?_ | refine ev_region hE hM (hS (by decide +kernel)) ?_ | refine ev_if ?_ | refine end_ret hE rfl rfl ?_ | refine end_norm hE rfl rfl ?_ | refine endG_ret [] hE rfl ?_ | refine endG_norm [] hE rfl ?_ | refine vcallB_of hP (s_toEntry (xs.getD k default) (hw k (by omega))) ?_ | refine vcall_A ?_); simp (maxSteps := 2000000) only [go_sem, hP, ↓reduceIte, Nat.reduceAdd, Nat.reduceMul, Nat.reduceEqDiff, Nat.reduceSub, Nat.reduceLeDiff, reduceCtorEq, mix_length hk])
    | refine ev_skip ?_ | refine ev_block ?_ | refine ev_blk ?_ | refine ev_ret ?_ | refine ev_exit ?_ | refine evx_code_ret ?_ | refine evx_blk_ret ?_ | refine evx_lp_ret ?_
    | refine evx_code_exit ?_ | refine evx_lp_exit ?_ | refine evx_blk_hit ?_ | refine evx_blk_pass (by decide) ?_
    | refine And.intro ?_ ?_ | intro _ | decide +kernel | omega)
  · exact ev_lp (k + 1) [] (by omega) (by omega) (by simp only [go_sem, hP, ↓reduceIte, Nat.reduceAdd, Nat.reduceMul, Nat.reduceEqDiff, Nat.reduceSub, Nat.reduceLeDiff, reduceCtorEq]; simp; exact ⟨wrap_succ (by omega) hx, mix_set_map (f := oEntry) (by omega)⟩)
  · rw [mix_full (by omega)]
theorem s_szEntryS (xs : List Entry) (left : Int) (h0 : 0 ≤ left) (h1 : left ≤ 1048576) : Sat Tryz.prog 45 [aEntryS xs, aI left] true (rI (lessN (wEntryS xs) left)) := by
  refine sat_walk (fn := Tryz.f45) rfl rfl rfl (Nat.le_of_ble_eq_true rfl) fun fr hP hN hbnd => ?_
  have hE : (envOf fr Tryz.prog).Ok := envOf_ok hP
  have hM := follows_of hP
  have hS : ∀ {draw ops}, statB Tryz.f45.ntmps draw ops = true → statB (envOf fr Tryz.prog).fr.N draw ops = true := fun h => by rw [envOf_fr, hN]; exact h
  have hlen := bnd_EntryS hbnd
  have hm : maxLen = 9223372036854775807 := rfl
  have hw : IntKind.i64.wrap (left - xs.length) = left - xs.length := i64_in _ (by omega)
  repeat' (first
    | exact True.intro
    | refine ev_seq ?_
    | ((first | refine vgd_go ?_ | refine ev_region hE hM (hS (by decide +kernel)) ?_ | refine ev_if ?_ | refine end_ret hE rfl rfl ?_ | refine end_norm hE rfl rfl ?_ | refine endG_ret [] hE rfl ?_ | refine endG_norm [] hE rfl ?_ | refine vcall_A ?_); simp (maxSteps := 2000000) only [go_sem, hP, ↓reduceIte, Nat.reduceAdd, Nat.reduceMul, Nat.reduceEqDiff, Nat.reduceSub, Nat.reduceLeDiff, reduceCtorEq, hw])
    | refine ev_skip ?_ | refine ev_block ?_ | refine ev_blk ?_ | refine ev_ret ?_ | refine ev_exit ?_ | refine evx_code_ret ?_ | refine evx_blk_ret ?_ | refine evx_lp_ret ?_
    | refine evx_code_exit ?_ | refine evx_lp_exit ?_ | refine evx_blk_hit ?_ | refine evx_blk_pass (by decide) ?_
    | refine And.intro ?_ ?_ | intro _ | decide +kernel | omega)
  · rename_i h; simp only [lessN, wEntryS] at *; omega
  rename_i h
  refine ev_loop (ι := Nat) (fun k => [(0, .c (sEntryS xs)), (1, .c (.int .i64 (left - xs.length - sumW wEntry (xs.take k)))), (5, .c (.int .i64 k))]) (fun k => []) (fun _ => []) (fun k => k ≤ xs.length ∧ (0 : Int) ≤ left - xs.length - sumW wEntry (xs.take k)) (fun k => xs.length - k) 0 [] (by simp [allLt_zero] <;> omega) (by simp only [go_sem, hP, ↓reduceIte, Nat.reduceAdd, Nat.reduceMul, Nat.reduceEqDiff, Nat.reduceSub, Nat.reduceLeDiff, reduceCtorEq]; simp) ?_
  intro k hk
  have hstep := fun h : k < xs.length => sumW_step (w := wEntry) (d := default) h
  have hle := sumW_le (w := wEntry) (xs := xs) (k + 1)
  repeat' (first
    | exact True.intro
    | refine ev_seq ?_
    | ((first | refine vgd_go ?_ | refine ev_region hE hM (hS (by decide +kernel)) ?_ | refine ev_if ?_ | refine end_ret hE rfl rfl ?_ | refine end_norm hE rfl rfl ?_ | refine endG_ret [] hE rfl ?_ | refine endG_norm [] hE rfl ?_ | refine vcallB_of hP (s_szEntry (xs.getD k default) _ hk.2 (by omega)) ?_ | refine vcall_A ?_); simp (maxSteps := 2000000) only [go_sem, hP, ↓reduceIte, Nat.reduceAdd, Nat.reduceMul, Nat.reduceEqDiff, Nat.reduceSub, Nat.reduceLeDiff, reduceCtorEq])
    | refine ev_skip ?_ | refine ev_block ?_ | refine ev_blk ?_ | refine ev_ret ?_ | refine ev_exit ?_ | refine evx_code_ret ?_ | refine evx_blk_ret ?_ | refine evx_lp_ret ?_
    | refine evx_code_exit ?_ | refine evx_lp_exit ?_ | refine evx_blk_hit ?_ | refine evx_blk_pass (by decide) ?_
    | refine And.intro ?_ ?_ | intro _ | decide +kernel | omega)
  · have := hstep (by omega)
    simp only [lessN, wEntryS] at *; omega
  · rename_i hk1 hk2
    have h8 := hstep (by omega)
    have h9 : lessN (wEntry (xs.getD k default)) (left - xs.length - sumW wEntry (xs.take k)) = left - xs.length - sumW wEntry (xs.take (k + 1)) := by simp only [lessN] at *; omega
    refine ev_lp (k + 1) [] ⟨by omega, by rw [← h9]; omega⟩ (by omega) (by simp only [go_sem, hP, ↓reduceIte, Nat.reduceAdd, Nat.reduceMul, Nat.reduceEqDiff, Nat.reduceSub, Nat.reduceLeDiff, reduceCtorEq, h9]; simp; exact wrap_nat (by omega) hlen)
  · rw [sumW_done (by omega)] at hk ⊢
    simp only [lessN, wEntryS] at *; omega
theorem s_eqEntryS (xs ys : List Entry) : Sat Tryz.prog 53 [aEntryS xs, aEntryS ys] true (rB (decide (xs = ys))) := by
  refine sat_walk (fn := Tryz.f53) rfl rfl rfl (Nat.le_of_ble_eq_true rfl) fun fr hP hN hbnd => ?_
  have hE : (envOf fr Tryz.prog).Ok := envOf_ok hP
  have hM := follows_of hP
  have hS : ∀ {draw ops}, statB Tryz.f53.ntmps draw ops = true → statB (envOf fr Tryz.prog).fr.N draw ops = true := fun h => by rw [envOf_fr, hN]; exact h
  have hlen := bnd_EntryS hbnd
  repeat' (first
    | exact True.intro
    | refine ev_seq ?_
    | ((first | refine vgd_go ?_ | refine ev_region hE hM (hS (by decide +kernel)) ?_ | refine ev_if ?_ | refine end_ret hE rfl rfl ?_ | refine end_norm hE rfl rfl ?_ | refine endG_ret [] hE rfl ?_ | refine endG_norm [] hE rfl ?_ | refine vcall_A ?_); simp (maxSteps := 2000000) only [go_sem, hP, ↓reduceIte, Nat.reduceAdd, Nat.reduceMul, Nat.reduceEqDiff, Nat.reduceSub, Nat.reduceLeDiff, reduceCtorEq])
    | refine ev_skip ?_ | refine ev_block ?_ | refine ev_blk ?_ | refine ev_ret ?_ | refine ev_exit ?_ | refine evx_code_ret ?_ | refine evx_blk_ret ?_ | refine evx_lp_ret ?_
    | refine evx_code_exit ?_ | refine evx_lp_exit ?_ | refine evx_blk_hit ?_ | refine evx_blk_pass (by decide) ?_
    | refine And.intro ?_ ?_ | intro _ | decide +kernel | omega)
  · rename_i h; simp at h; simp; rintro rfl; exact h rfl
  rename_i h; simp at h
  refine ev_loop (ι := Nat) (fun k => [(0, .c (sEntryS xs)), (1, .c (sEntryS ys)), (5, .c (.int .i64 k))]) (fun k => []) (fun _ => []) (fun k => k ≤ xs.length ∧ xs.take k = ys.take k) (fun k => xs.length - k) 0 [] (by simp [allLt_zero] <;> omega) (by simp only [go_sem, hP, ↓reduceIte, Nat.reduceAdd, Nat.reduceMul, Nat.reduceEqDiff, Nat.reduceSub, Nat.reduceLeDiff, reduceCtorEq]; simp) ?_
  intro k hk
  repeat' (first
    | exact True.intro
    | refine ev_seq ?_
    | ((first | refine vgd_go ?_ | refine ev_region hE hM (hS (by decide +kernel)) ?_ | refine ev_if ?_ | refine end_ret hE rfl rfl ?_ | refine end_norm hE rfl rfl ?_ | refine endG_ret [] hE rfl ?_ | refine endG_norm [] hE rfl ?_ | refine vcallB_of hP (s_eqEntry (xs.getD k default) (ys.getD k default)) ?_ | refine vcall_A ?_); simp (maxSteps := 2000000) only [go_sem, hP, ↓reduceIte, Nat.reduceAdd, Nat.reduceMul, Nat.reduceEqDiff, Nat.reduceSub, Nat.reduceLeDiff, reduceCtorEq])
    | refine ev_skip ?_ | refine ev_block ?_ | refine ev_blk ?_ | refine ev_ret ?_ | refine ev_exit ?_ | refine evx_code_ret ?_ | refine evx_blk_ret ?_ | refine evx_lp_ret ?_
    | refine evx_code_exit ?_ | refine evx_lp_exit ?_ | refine evx_blk_hit ?_ | refine evx_blk_pass (by decide) ?_
    | refine And.intro ?_ ?_ | intro _ | decide +kernel | omega)
  · rename_i h3; simp at h3; simp; exact eq_not (by simpa using h3)
  · rename_i h3 h4; simp at h4
    exact ev_lp (k + 1) [] ⟨by omega, eq_step (d := default) (e := default) (by omega) (by omega) hk.2 (by simpa using h4)⟩ (by omega) (by simp only [go_sem, hP, ↓reduceIte, Nat.reduceAdd, Nat.reduceMul, Nat.reduceEqDiff, Nat.reduceSub, Nat.reduceLeDiff, reduceCtorEq]; simp; exact wrap_nat (by omega) hlen)
  · simp; exact eq_done (by omega) (by omega) hk.2
theorem shp_EntryS {n t : Nat} {cs : List C} (ht : Tryz.prog.underlying t = some (.slice 107)) (h : shp Tryz.prog (n + 5) t cs) : ∃ xs, cs = [sEntryS xs] := by
  obtain ⟨xs, rfl, _⟩ := shp_rows (f := eEntry) (q := fun _ => True) (sz := 4) ht rfl (fun x hx => by obtain ⟨p, rfl⟩ := shp_Entry (n := n) rfl hx; exact ⟨p, rfl, trivial⟩) h
  exact ⟨xs, rfl⟩
structure Node where
  level : Int
  nsn : Int
  right : Int
  entries : List Entry
  deriving DecidableEq, Inhabited
def eNode (x : Node) : List C := [.int .i64 x.level, .int .i64 x.nsn, .int .i64 x.right, sEntryS x.entries]
def oNode (x : Node) : List C := [.int .i64 x.level, .int .i64 x.nsn, .int .i64 x.right, oEntryS x.entries]
@[go_sem] theorem eNode_eq (x : Node) : eNode x = [.int .i64 x.level, .int .i64 x.nsn, .int .i64 x.right, sEntryS x.entries] := rfl
@[go_sem] theorem oNode_eq (x : Node) : oNode x = [.int .i64 x.level, .int .i64 x.nsn, .int .i64 x.right, oEntryS x.entries] := rfl
theorem stripC_oNode (x : Node) : Cs.strip (oNode x) = eNode x := by simp [oNode, eNode, Cs.strip, C.strip, strip_eI, strip_eEntry, strip_oEntry]
theorem stripC_eNode (x : Node) : Cs.strip (eNode x) = eNode x := by simp [eNode, Cs.strip, C.strip, strip_eI, strip_eEntry, strip_oEntry]
@[go_sem] theorem strip_oNode (xs : List Node) : Es.strip (xs.map oNode) = xs.map eNode := by rw [Es.strip_map]; simp [Function.comp_def, stripC_oNode]
@[go_sem] theorem strip_eNode (xs : List Node) : Es.strip (xs.map eNode) = xs.map eNode := by rw [Es.strip_map]; simp [Function.comp_def, stripC_eNode]
@[go_sem] abbrev aNode (x : Node) : Arg := .d (true, eNode x)
@[go_sem] abbrev pNode (x : Node) : Arg := .pv (eNode x)
@[go_sem] abbrev rNode (x : Node) : List Dat := [(true, oNode x)]
theorem bnd_Node {x : Node} {gs : List Arg} (h : Args.bnd (aNode x :: gs)) : x.entries.length ≤ maxLen := by
  have h0 := h.1.2.2.2.1.1; rw [List.length_map] at h0
  exact h0
theorem bndp_Node {x : Node} {gs : List Arg} (h : Args.bnd (pNode x :: gs)) : x.entries.length ≤ maxLen := by
  have h0 := h.1.2.2.2.1.1; rw [List.length_map] at h0
  exact h0
theorem eqNode (a b : Node) : a = b ↔ a.level = b.level ∧ a.nsn = b.nsn ∧ a.right = b.right ∧ a.entries = b.entries := by cases a; cases b; simp
def wNode (x : Node) : Nat := wEntryS x.entries
theorem s_toNode (x : Node) (h : wNode x ≤ 1048576) : Sat Tryz.prog 17 [aNode x] true (rNode x) := by
  refine sat_walk (fn := Tryz.f17) rfl rfl rfl (Nat.le_of_ble_eq_true rfl) fun fr hP hN hbnd => ?_
  have hE : (envOf fr Tryz.prog).Ok := envOf_ok hP
  have hM := follows_of hP
  have hS : ∀ {draw ops}, statB Tryz.f17.ntmps draw ops = true → statB (envOf fr Tryz.prog).fr.N draw ops = true := fun h => by rw [envOf_fr, hN]; exact h
  simp only [wNode] at h
  repeat' (first
    | exact True.intro
    | refine ev_seq ?_
    | ((first | refine vgd_go ?_ | refine ev_region hE hM (hS (by decide +kernel)) ?_ | refine ev_if ?_ | refine end_ret hE rfl rfl ?_ | refine end_norm hE rfl rfl ?_ | refine endG_ret [] hE rfl ?_ | refine endG_norm [] hE rfl ?_ | refine vcallB_of hP (s_toEntryS x.entries (by omega)) ?_ | refine vcall_A ?_); simp (maxSteps := 2000000) only [go_sem, hP, ↓reduceIte, Nat.reduceAdd, Nat.reduceMul, Nat.reduceEqDiff, Nat.reduceSub, Nat.reduceLeDiff, reduceCtorEq])
    | refine ev_skip ?_ | refine ev_block ?_ | refine ev_blk ?_ | refine ev_ret ?_ | refine ev_exit ?_ | refine evx_code_ret ?_ | refine evx_blk_ret ?_ | refine evx_lp_ret ?_
    | refine evx_code_exit ?_ | refine evx_lp_exit ?_ | refine evx_blk_hit ?_ | refine evx_blk_pass (by decide) ?_
    | refine And.intro ?_ ?_ | intro _ | decide +kernel | omega)
theorem s_szNode (x : Node) (left : Int) (h0 : 0 ≤ left) (h1 : left ≤ 1048576) : Sat Tryz.prog 15 [aNode x, aI left] true (rI (lessN (wNode x) left)) := by
  refine sat_walk (fn := Tryz.f15) rfl rfl rfl (Nat.le_of_ble_eq_true rfl) fun fr hP hN hbnd => ?_
  have hE : (envOf fr Tryz.prog).Ok := envOf_ok hP
  have hM := follows_of hP
  have hS : ∀ {draw ops}, statB Tryz.f15.ntmps draw ops = true → statB (envOf fr Tryz.prog).fr.N draw ops = true := fun h => by rw [envOf_fr, hN]; exact h
  repeat' (first
    | exact True.intro
    | refine ev_seq ?_
    | ((first | refine vgd_go ?_ | refine ev_region hE hM (hS (by decide +kernel)) ?_ | refine ev_if ?_ | refine end_ret hE rfl rfl ?_ | refine end_norm hE rfl rfl ?_ | refine endG_ret [] hE rfl ?_ | refine endG_norm [] hE rfl ?_ | refine vcallB_of hP (s_szEntryS x.entries _ (by (try simp only [lessN] at *); omega) (by (try simp only [lessN] at *); omega)) ?_ | refine vcall_A ?_); simp (maxSteps := 2000000) only [go_sem, hP, ↓reduceIte, Nat.reduceAdd, Nat.reduceMul, Nat.reduceEqDiff, Nat.reduceSub, Nat.reduceLeDiff, reduceCtorEq])
    | refine ev_skip ?_ | refine ev_block ?_ | refine ev_blk ?_ | refine ev_ret ?_ | refine ev_exit ?_ | refine evx_code_ret ?_ | refine evx_blk_ret ?_ | refine evx_lp_ret ?_
    | refine evx_code_exit ?_ | refine evx_lp_exit ?_ | refine evx_blk_hit ?_ | refine evx_blk_pass (by decide) ?_
    | refine And.intro ?_ ?_ | intro _ | decide +kernel | omega)
  all_goals simp_all only [lessN, wNode]
  all_goals omega
theorem s_eqNode (a b : Node) : Sat Tryz.prog 20 [aNode a, aNode b] true (rB (decide (a = b))) := by
  refine sat_walk (fn := Tryz.f20) rfl rfl rfl (Nat.le_of_ble_eq_true rfl) fun fr hP hN hbnd => ?_
  have hE : (envOf fr Tryz.prog).Ok := envOf_ok hP
  have hM := follows_of hP
  have hS : ∀ {draw ops}, statB Tryz.f20.ntmps draw ops = true → statB (envOf fr Tryz.prog).fr.N draw ops = true := fun h => by rw [envOf_fr, hN]; exact h
  repeat' (first
    | exact True.intro
    | refine ev_seq ?_
    | ((first | refine vgd_go ?_ | refine ev_region hE hM (hS (by decide +kernel)) ?_ | refine ev_if ?_ | refine end_ret hE rfl rfl ?_ | refine end_norm hE rfl rfl ?_ | refine endG_ret [] hE rfl ?_ | refine endG_norm [] hE rfl ?_ | refine vcallB_of hP (s_eqEntryS a.entries b.entries) ?_ | refine vcall_A ?_); simp (maxSteps := 2000000) only [go_sem, hP, ↓reduceIte, Nat.reduceAdd, Nat.reduceMul, Nat.reduceEqDiff, Nat.reduceSub, Nat.reduceLeDiff, reduceCtorEq])
    | refine ev_skip ?_ | refine ev_block ?_ | refine ev_blk ?_ | refine ev_ret ?_ | refine ev_exit ?_ | refine evx_code_ret ?_ | refine evx_blk_ret ?_ | refine evx_lp_ret ?_
    | refine evx_code_exit ?_ | refine evx_lp_exit ?_ | refine evx_blk_hit ?_ | refine evx_blk_pass (by decide) ?_
    | refine And.intro ?_ ?_ | intro _ | decide +kernel | omega)
  all_goals simp_all [eqNode]
theorem shp_Node {n t : Nat} {cs : List C} (ht : (Tryz.prog.underlying t).bind fieldTs = some [2, 2, 2, 44]) (h : shp Tryz.prog (n + 6) t cs) : ∃ x, cs = eNode x := by
  obtain ⟨c0, g0, rfl, h0, c1, g1, rfl, h1, c2, g2, rfl, h2, c3, g3, rfl, h3, rfl⟩ := shp_struct ht h
  obtain ⟨v0, rfl, _⟩ := shp_i64 (n := n + 4) rfl h0
  obtain ⟨v1, rfl, _⟩ := shp_i64 (n := n + 4) rfl h1
  obtain ⟨v2, rfl, _⟩ := shp_i64 (n := n + 4) rfl h2
  obtain ⟨v3, rfl⟩ := shp_EntryS (n := n + 0) rfl h3
  exact ⟨⟨v0, v1, v2, v3⟩, rfl⟩
@[go_sem] abbrev sNodeS (xs : List Node) : C := .sl none 4 (xs.map eNode)
@[go_sem] abbrev oNodeS (xs : List Node) : C := .sl (some 30) 4 (xs.map oNode)
@[go_sem] abbrev aNodeS (xs : List Node) : Arg := .d (false, [sNodeS xs])
@[go_sem] abbrev rNodeS (xs : List Node) : List Dat := [(false, [oNodeS xs])]
theorem bnd_NodeS {xs : List Node} {gs : List Arg} (h : Args.bnd (aNodeS xs :: gs)) : xs.length ≤ maxLen := by
  have := h.1.1.1; rwa [List.length_map] at this
def wNodeS (xs : List Node) : Nat := xs.length + sumW wNode xs
theorem s_toNodeS (xs : List Node) (h : wNodeS xs ≤ 1048576) : Sat Tryz.prog 32 [aNodeS xs] true (rNodeS xs) := by
  refine sat_walk (fn := Tryz.f32) rfl rfl rfl (Nat.le_of_ble_eq_true rfl) fun fr hP hN hbnd => ?_
  have hE : (envOf fr Tryz.prog).Ok := envOf_ok hP
  have hM := follows_of hP
  have hS : ∀ {draw ops}, statB Tryz.f32.ntmps draw ops = true → statB (envOf fr Tryz.prog).fr.N draw ops = true := fun h => by rw [envOf_fr, hN]; exact h
  have hx : xs.length ≤ 1048576 := by unfold wNodeS at h; omega
  have hw : ∀ k, k < xs.length → wNode (xs.getD k default) ≤ 1048576 := fun k hk => by
    have := sumW_get (w := wNode) (d := default) hk; unfold wNodeS at h; omega
  repeat' (first
    | exact True.intro
    | refine ev_seq ?_
    | ((first | refine vgd_go ?_ | refine ev_region hE hM (hS (by decide +kernel)) ?_ | refine ev_if ?_ | refine end_ret hE rfl rfl ?_ | refine end_norm hE rfl rfl ?_ | refine endG_ret [] hE rfl ?_ | refine endG_norm [] hE rfl ?_ | refine vcall_A ?_); simp (maxSteps := 2000000) only [go_sem, hP, ↓reduceIte, Nat.reduceAdd, Nat.reduceMul, Nat.reduceEqDiff, Nat.reduceSub, Nat.reduceLeDiff, reduceCtorEq])
    | refine ev_skip ?_ | refine ev_block ?_ | refine ev_blk ?_ | refine ev_ret ?_ | refine ev_exit ?_ | refine evx_code_ret ?_ | refine evx_blk_ret ?_ | refine evx_lp_ret ?_
    | refine evx_code_exit ?_ | refine evx_lp_exit ?_ | refine evx_blk_hit ?_ | refine evx_blk_pass (by decide) ?_
    | refine And.intro ?_ ?_ | intro _ | decide +kernel | omega)
  refine ev_loop (ι := Nat) (fun k => [(0, .c (sNodeS xs)), (3, .ref 4112), (4, .c (.int .i64 k))]) (fun k => [(4112, .arr true 30 4 ((mix xs ⟨0, 0, 0, []⟩ k).map oNode))]) (fun _ => []) (fun k => k ≤ xs.length) (fun k => xs.length - k) 0 [] (by simp) (by simp only [go_sem, hP, ↓reduceIte, Nat.reduceAdd, Nat.reduceMul, Nat.reduceEqDiff, Nat.reduceSub, Nat.reduceLeDiff, reduceCtorEq]; simp [mix_zero, oNode]) ?_
  intro k hk
  repeat' (first
    | exact True.intro
    | refine ev_seq ?_
    | ((first | refine vgd_go ?_ | refine ev_region hE hM (hS (by decide +kernel)) ?_ | refine ev_if ?_ | refine end_ret hE rfl rfl ?_ | refine end_norm hE rfl rfl ?_ | refine endG_ret [] hE rfl ?_ | refine endG_norm [] hE rfl ?_ | refine vcallB_of hP (s_toNode (xs.getD k default) (hw k (by omega))) ?_ | refine vcall_A ?_); simp (maxSteps := 2000000) only [go_sem, hP, ↓reduceIte, Nat.reduceAdd, Nat.reduceMul, Nat.reduceEqDiff, Nat.reduceSub, Nat.reduceLeDiff, reduceCtorEq, mix_length hk])
    | refine ev_skip ?_ | refine ev_block ?_ | refine ev_blk ?_ | refine ev_ret ?_ | refine ev_exit ?_ | refine evx_code_ret ?_ | refine evx_blk_ret ?_ | refine evx_lp_ret ?_
    | refine evx_code_exit ?_ | refine evx_lp_exit ?_ | refine evx_blk_hit ?_ | refine evx_blk_pass (by decide) ?_
    | refine And.intro ?_ ?_ | intro _ | decide +kernel | omega)
  · exact ev_lp (k + 1) [] (by omega) (by omega) (by simp only [go_sem, hP, ↓reduceIte, Nat.reduceAdd, Nat.reduceMul, Nat.reduceEqDiff, Nat.reduceSub, Nat.reduceLeDiff, reduceCtorEq]; simp; exact ⟨wrap_succ (by omega) hx, mix_set_map (f := oNode) (by omega)⟩)
  · rw [mix_full (by omega)]
theorem s_szNodeS (xs : List Node) (left : Int) (h0 : 0 ≤ left) (h1 : left ≤ 1048576) : Sat Tryz.prog 26 [aNodeS xs, aI left] true (rI (lessN (wNodeS xs) left)) := by
  refine sat_walk (fn := Tryz.f26) rfl rfl rfl (Nat.le_of_ble_eq_true rfl) fun fr hP hN hbnd => ?_
  have hE : (envOf fr Tryz.prog).Ok := envOf_ok hP
  have hM := follows_of hP
  have hS : ∀ {draw ops}, statB Tryz.f26.ntmps draw ops = true → statB (envOf fr Tryz.prog).fr.N draw ops = true := fun h => by rw [envOf_fr, hN]; exact h
  have hlen := bnd_NodeS hbnd
  have hm : maxLen = 9223372036854775807 := rfl
  have hw : IntKind.i64.wrap (left - xs.length) = left - xs.length := i64_in _ (by omega)
  repeat' (first
    | exact True.intro
    | refine ev_seq ?_
    | ((first | refine vgd_go ?_ | refine ev_region hE hM (hS (by decide +kernel)) ?_ | refine ev_if ?_ | refine end_ret hE rfl rfl ?_ | refine end_norm hE rfl rfl ?_ | refine endG_ret [] hE rfl ?_ | refine endG_norm [] hE rfl ?_ | refine vcall_A ?_); simp (maxSteps := 2000000) only [go_sem, hP, ↓reduceIte, Nat.reduceAdd, Nat.reduceMul, Nat.reduceEqDiff, Nat.reduceSub, Nat.reduceLeDiff, reduceCtorEq, hw])
    | refine ev_skip ?_ | refine ev_block ?_ | refine ev_blk ?_ | refine ev_ret ?_ | refine ev_exit ?_ | refine evx_code_ret ?_ | refine evx_blk_ret ?_ | refine evx_lp_ret ?_
    | refine evx_code_exit ?_ | refine evx_lp_exit ?_ | refine evx_blk_hit ?_ | refine evx_blk_pass (by decide) ?_
    | refine And.intro ?_ ?_ | intro _ | decide +kernel | omega)
  · rename_i h; simp only [lessN, wNodeS] at *; omega
  rename_i h
  refine ev_loop (ι := Nat) (fun k => [(0, .c (sNodeS xs)), (1, .c (.int .i64 (left - xs.length - sumW wNode (xs.take k)))), (5, .c (.int .i64 k))]) (fun k => []) (fun _ => []) (fun k => k ≤ xs.length ∧ (0 : Int) ≤ left - xs.length - sumW wNode (xs.take k)) (fun k => xs.length - k) 0 [] (by simp [allLt_zero] <;> omega) (by simp only [go_sem, hP, ↓reduceIte, Nat.reduceAdd, Nat.reduceMul, Nat.reduceEqDiff, Nat.reduceSub, Nat.reduceLeDiff, reduceCtorEq]; simp) ?_
  intro k hk
  have hstep := fun h : k < xs.length => sumW_step (w := wNode) (d := default) h
  have hle := sumW_le (w := wNode) (xs := xs) (k + 1)
  repeat' (first
    | exact True.intro
    | refine ev_seq ?_
    | ((first | refine vgd_go ?_ | refine ev_region hE hM (hS (by decide +kernel)) ?_ | refine ev_if ?_ | refine end_ret hE rfl rfl ?_ | refine end_norm hE rfl rfl ?_ | refine endG_ret [] hE rfl ?_ | refine endG_norm [] hE rfl ?_ | refine vcallB_of hP (s_szNode (xs.getD k default) _ hk.2 (by omega)) ?_ | refine vcall_A ?_); simp (maxSteps := 2000000) only [go_sem, hP, ↓reduceIte, Nat.reduceAdd, Nat.reduceMul, Nat.reduceEqDiff, Nat.reduceSub, Nat.reduceLeDiff, reduceCtorEq])
    | refine ev_skip ?_ | refine ev_block ?_ | refine ev_blk ?_ | refine ev_ret ?_ | refine ev_exit ?_ | refine evx_code_ret ?_ | refine evx_blk_ret ?_ | refine evx_lp_ret ?_
    | refine evx_code_exit ?_ | refine evx_lp_exit ?_ | refine evx_blk_hit ?_ | refine evx_blk_pass (by decide) ?_
    | refine And.intro ?_ ?_ | intro _ | decide +kernel | omega)
  · have := hstep (by omega)
    simp only [lessN, wNodeS] at *; omega
  · rename_i hk1 hk2
    have h8 := hstep (by omega)
    have h9 : lessN (wNode (xs.getD k default)) (left - xs.length - sumW wNode (xs.take k)) = left - xs.length - sumW wNode (xs.take (k + 1)) := by simp only [lessN] at *; omega
    refine ev_lp (k + 1) [] ⟨by omega, by rw [← h9]; omega⟩ (by omega) (by simp only [go_sem, hP, ↓reduceIte, Nat.reduceAdd, Nat.reduceMul, Nat.reduceEqDiff, Nat.reduceSub, Nat.reduceLeDiff, reduceCtorEq, h9]; simp; exact wrap_nat (by omega) hlen)
  · rw [sumW_done (by omega)] at hk ⊢
    simp only [lessN, wNodeS] at *; omega
theorem s_eqNodeS (xs ys : List Node) : Sat Tryz.prog 38 [aNodeS xs, aNodeS ys] true (rB (decide (xs = ys))) := by
  refine sat_walk (fn := Tryz.f38) rfl rfl rfl (Nat.le_of_ble_eq_true rfl) fun fr hP hN hbnd => ?_
  have hE : (envOf fr Tryz.prog).Ok := envOf_ok hP
  have hM := follows_of hP
  have hS : ∀ {draw ops}, statB Tryz.f38.ntmps draw ops = true → statB (envOf fr Tryz.prog).fr.N draw ops = true := fun h => by rw [envOf_fr, hN]; exact h
  have hlen := bnd_NodeS hbnd
  repeat' (first
    | exact True.intro
    | refine ev_seq ?_
    | ((first | refine vgd_go ?_ | refine ev_region hE hM (hS (by decide +kernel)) ?_ | refine ev_if ?_ | refine end_ret hE rfl rfl ?_ | refine end_norm hE rfl rfl ?_ | refine endG_ret [] hE rfl ?_ | refine endG_norm [] hE rfl ?_ | refine vcall_A ?_); simp (maxSteps := 2000000) only [go_sem, hP, ↓reduceIte, Nat.reduceAdd, Nat.reduceMul, Nat.reduceEqDiff, Nat.reduceSub, Nat.reduceLeDiff, reduceCtorEq])
    | refine ev_skip ?_ | refine ev_block ?_ | refine ev_blk ?_ | refine ev_ret ?_ | refine ev_exit ?_ | refine evx_code_ret ?_ | refine evx_blk_ret ?_ | refine evx_lp_ret ?_
    | refine evx_code_exit ?_ | refine evx_lp_exit ?_ | refine evx_blk_hit ?_ | refine evx_blk_pass (by decide) ?_
    | refine And.intro ?_ ?_ | intro _ | decide +kernel | omega)
  · rename_i h; simp at h; simp; rintro rfl; exact h rfl
  rename_i h; simp at h
  refine ev_loop (ι := Nat) (fun k => [(0, .c (sNodeS xs)), (1, .c (sNodeS ys)), (5, .c (.int .i64 k))]) (fun k => []) (fun _ => []) (fun k => k ≤ xs.length ∧ xs.take k = ys.take k) (fun k => xs.length - k) 0 [] (by simp [allLt_zero] <;> omega) (by simp only [go_sem, hP, ↓reduceIte, Nat.reduceAdd, Nat.reduceMul, Nat.reduceEqDiff, Nat.reduceSub, Nat.reduceLeDiff, reduceCtorEq]; simp) ?_
  intro k hk
  repeat' (first
    | exact True.intro
    | refine ev_seq ?_
    | ((first | refine vgd_go ?_ | refine ev_region hE hM (hS (by decide +kernel)) ?_ | refine ev_if ?_ | refine end_ret hE rfl rfl ?_ | refine end_norm hE rfl rfl ?_ | refine endG_ret [] hE rfl ?_ | refine endG_norm [] hE rfl ?_ | refine vcallB_of hP (s_eqNode (xs.getD k default) (ys.getD k default)) ?_ | refine vcall_A ?_); simp (maxSteps := 2000000) only [go_sem, hP, ↓reduceIte, Nat.reduceAdd, Nat.reduceMul, Nat.reduceEqDiff, Nat.reduceSub, Nat.reduceLeDiff, reduceCtorEq])
    | refine ev_skip ?_ | refine ev_block ?_ | refine ev_blk ?_ | refine ev_ret ?_ | refine ev_exit ?_ | refine evx_code_ret ?_ | refine evx_blk_ret ?_ | refine evx_lp_ret ?_
    | refine evx_code_exit ?_ | refine evx_lp_exit ?_ | refine evx_blk_hit ?_ | refine evx_blk_pass (by decide) ?_
    | refine And.intro ?_ ?_ | intro _ | decide +kernel | omega)
  · rename_i h3; simp at h3; simp; exact eq_not (by simpa using h3)
  · rename_i h3 h4; simp at h4
    exact ev_lp (k + 1) [] ⟨by omega, eq_step (d := default) (e := default) (by omega) (by omega) hk.2 (by simpa using h4)⟩ (by omega) (by simp only [go_sem, hP, ↓reduceIte, Nat.reduceAdd, Nat.reduceMul, Nat.reduceEqDiff, Nat.reduceSub, Nat.reduceLeDiff, reduceCtorEq]; simp; exact wrap_nat (by omega) hlen)
  · simp; exact eq_done (by omega) (by omega) hk.2
theorem shp_NodeS {n t : Nat} {cs : List C} (ht : Tryz.prog.underlying t = some (.slice 46)) (h : shp Tryz.prog (n + 7) t cs) : ∃ xs, cs = [sNodeS xs] := by
  obtain ⟨xs, rfl, _⟩ := shp_rows (f := eNode) (q := fun _ => True) (sz := 4) ht rfl (fun x hx => by obtain ⟨p, rfl⟩ := shp_Node (n := n) rfl hx; exact ⟨p, rfl, trivial⟩) h
  exact ⟨xs, rfl⟩
structure Retired where
  id : Int
  watch : List Int
  deriving DecidableEq, Inhabited
def eRetired (x : Retired) : List C := [.int .i64 x.id, sI x.watch]
def oRetired (x : Retired) : List C := [.int .i64 x.id, oI x.watch]
@[go_sem] theorem eRetired_eq (x : Retired) : eRetired x = [.int .i64 x.id, sI x.watch] := rfl
@[go_sem] theorem oRetired_eq (x : Retired) : oRetired x = [.int .i64 x.id, oI x.watch] := rfl
theorem stripC_oRetired (x : Retired) : Cs.strip (oRetired x) = eRetired x := by simp [oRetired, eRetired, Cs.strip, C.strip, strip_eI]
theorem stripC_eRetired (x : Retired) : Cs.strip (eRetired x) = eRetired x := by simp [eRetired, Cs.strip, C.strip, strip_eI]
@[go_sem] theorem strip_oRetired (xs : List Retired) : Es.strip (xs.map oRetired) = xs.map eRetired := by rw [Es.strip_map]; simp [Function.comp_def, stripC_oRetired]
@[go_sem] theorem strip_eRetired (xs : List Retired) : Es.strip (xs.map eRetired) = xs.map eRetired := by rw [Es.strip_map]; simp [Function.comp_def, stripC_eRetired]
@[go_sem] abbrev aRetired (x : Retired) : Arg := .d (true, eRetired x)
@[go_sem] abbrev pRetired (x : Retired) : Arg := .pv (eRetired x)
@[go_sem] abbrev rRetired (x : Retired) : List Dat := [(true, oRetired x)]
theorem bnd_Retired {x : Retired} {gs : List Arg} (h : Args.bnd (aRetired x :: gs)) : x.watch.length ≤ maxLen := by
  have h0 := h.1.2.1.1; rw [List.length_map] at h0
  exact h0
theorem bndp_Retired {x : Retired} {gs : List Arg} (h : Args.bnd (pRetired x :: gs)) : x.watch.length ≤ maxLen := by
  have h0 := h.1.2.1.1; rw [List.length_map] at h0
  exact h0
theorem eqRetired (a b : Retired) : a = b ↔ a.id = b.id ∧ a.watch = b.watch := by cases a; cases b; simp
def wRetired (x : Retired) : Nat := x.watch.length
theorem s_toRetired (x : Retired) (h : wRetired x ≤ 1048576) : Sat Tryz.prog 63 [aRetired x] true (rRetired x) := by
  refine sat_walk (fn := Tryz.f63) rfl rfl rfl (Nat.le_of_ble_eq_true rfl) fun fr hP hN hbnd => ?_
  have hE : (envOf fr Tryz.prog).Ok := envOf_ok hP
  have hM := follows_of hP
  have hS : ∀ {draw ops}, statB Tryz.f63.ntmps draw ops = true → statB (envOf fr Tryz.prog).fr.N draw ops = true := fun h => by rw [envOf_fr, hN]; exact h
  simp only [wRetired] at h
  repeat' (first
    | exact True.intro
    | refine ev_seq ?_
    | ((first | refine vgd_go ?_ | refine ev_region hE hM (hS (by decide +kernel)) ?_ | refine ev_if ?_ | refine end_ret hE rfl rfl ?_ | refine end_norm hE rfl rfl ?_ | refine endG_ret [] hE rfl ?_ | refine endG_norm [] hE rfl ?_ | refine vcallB_of hP (s_toInt64S x.watch (by omega)) ?_ | refine vcall_A ?_); simp (maxSteps := 2000000) only [go_sem, hP, ↓reduceIte, Nat.reduceAdd, Nat.reduceMul, Nat.reduceEqDiff, Nat.reduceSub, Nat.reduceLeDiff, reduceCtorEq])
    | refine ev_skip ?_ | refine ev_block ?_ | refine ev_blk ?_ | refine ev_ret ?_ | refine ev_exit ?_ | refine evx_code_ret ?_ | refine evx_blk_ret ?_ | refine evx_lp_ret ?_
    | refine evx_code_exit ?_ | refine evx_lp_exit ?_ | refine evx_blk_hit ?_ | refine evx_blk_pass (by decide) ?_
    | refine And.intro ?_ ?_ | intro _ | decide +kernel | omega)
theorem s_szRetired (x : Retired) (left : Int) (h0 : 0 ≤ left) (h1 : left ≤ 1048576) : Sat Tryz.prog 56 [aRetired x, aI left] true (rI (lessN (wRetired x) left)) := by
  refine sat_walk (fn := Tryz.f56) rfl rfl rfl (Nat.le_of_ble_eq_true rfl) fun fr hP hN hbnd => ?_
  have hE : (envOf fr Tryz.prog).Ok := envOf_ok hP
  have hM := follows_of hP
  have hS : ∀ {draw ops}, statB Tryz.f56.ntmps draw ops = true → statB (envOf fr Tryz.prog).fr.N draw ops = true := fun h => by rw [envOf_fr, hN]; exact h
  repeat' (first
    | exact True.intro
    | refine ev_seq ?_
    | ((first | refine vgd_go ?_ | refine ev_region hE hM (hS (by decide +kernel)) ?_ | refine ev_if ?_ | refine end_ret hE rfl rfl ?_ | refine end_norm hE rfl rfl ?_ | refine endG_ret [] hE rfl ?_ | refine endG_norm [] hE rfl ?_ | refine vcallB_of hP (s_szInt64S x.watch _ (by (try simp only [lessN] at *); omega) (by (try simp only [lessN] at *); omega)) ?_ | refine vcall_A ?_); simp (maxSteps := 2000000) only [go_sem, hP, ↓reduceIte, Nat.reduceAdd, Nat.reduceMul, Nat.reduceEqDiff, Nat.reduceSub, Nat.reduceLeDiff, reduceCtorEq])
    | refine ev_skip ?_ | refine ev_block ?_ | refine ev_blk ?_ | refine ev_ret ?_ | refine ev_exit ?_ | refine evx_code_ret ?_ | refine evx_blk_ret ?_ | refine evx_lp_ret ?_
    | refine evx_code_exit ?_ | refine evx_lp_exit ?_ | refine evx_blk_hit ?_ | refine evx_blk_pass (by decide) ?_
    | refine And.intro ?_ ?_ | intro _ | decide +kernel | omega)
  all_goals simp_all only [lessN, wRetired]
  all_goals omega
theorem s_eqRetired (a b : Retired) : Sat Tryz.prog 72 [aRetired a, aRetired b] true (rB (decide (a = b))) := by
  refine sat_walk (fn := Tryz.f72) rfl rfl rfl (Nat.le_of_ble_eq_true rfl) fun fr hP hN hbnd => ?_
  have hE : (envOf fr Tryz.prog).Ok := envOf_ok hP
  have hM := follows_of hP
  have hS : ∀ {draw ops}, statB Tryz.f72.ntmps draw ops = true → statB (envOf fr Tryz.prog).fr.N draw ops = true := fun h => by rw [envOf_fr, hN]; exact h
  repeat' (first
    | exact True.intro
    | refine ev_seq ?_
    | ((first | refine vgd_go ?_ | refine ev_region hE hM (hS (by decide +kernel)) ?_ | refine ev_if ?_ | refine end_ret hE rfl rfl ?_ | refine end_norm hE rfl rfl ?_ | refine endG_ret [] hE rfl ?_ | refine endG_norm [] hE rfl ?_ | refine vcallB_of hP (s_eqInt64S a.watch b.watch) ?_ | refine vcall_A ?_); simp (maxSteps := 2000000) only [go_sem, hP, ↓reduceIte, Nat.reduceAdd, Nat.reduceMul, Nat.reduceEqDiff, Nat.reduceSub, Nat.reduceLeDiff, reduceCtorEq])
    | refine ev_skip ?_ | refine ev_block ?_ | refine ev_blk ?_ | refine ev_ret ?_ | refine ev_exit ?_ | refine evx_code_ret ?_ | refine evx_blk_ret ?_ | refine evx_lp_ret ?_
    | refine evx_code_exit ?_ | refine evx_lp_exit ?_ | refine evx_blk_hit ?_ | refine evx_blk_pass (by decide) ?_
    | refine And.intro ?_ ?_ | intro _ | decide +kernel | omega)
  all_goals simp_all [eqRetired]
theorem shp_Retired {n t : Nat} {cs : List C} (ht : (Tryz.prog.underlying t).bind fieldTs = some [2, 23]) (h : shp Tryz.prog (n + 3) t cs) : ∃ x, cs = eRetired x := by
  obtain ⟨c0, g0, rfl, h0, c1, g1, rfl, h1, rfl⟩ := shp_struct ht h
  obtain ⟨v0, rfl, _⟩ := shp_i64 (n := n + 1) rfl h0
  obtain ⟨v1, rfl, _⟩ := shp_ints (n := n + 0) (e := 2) rfl rfl rfl h1
  exact ⟨⟨v0, v1⟩, rfl⟩
@[go_sem] abbrev sRetiredS (xs : List Retired) : C := .sl none 2 (xs.map eRetired)
@[go_sem] abbrev oRetiredS (xs : List Retired) : C := .sl (some 93) 2 (xs.map oRetired)
@[go_sem] abbrev aRetiredS (xs : List Retired) : Arg := .d (false, [sRetiredS xs])
@[go_sem] abbrev rRetiredS (xs : List Retired) : List Dat := [(false, [oRetiredS xs])]
theorem bnd_RetiredS {xs : List Retired} {gs : List Arg} (h : Args.bnd (aRetiredS xs :: gs)) : xs.length ≤ maxLen := by
  have := h.1.1.1; rwa [List.length_map] at this
def wRetiredS (xs : List Retired) : Nat := xs.length + sumW wRetired xs
theorem s_toRetiredS (xs : List Retired) (h : wRetiredS xs ≤ 1048576) : Sat Tryz.prog 34 [aRetiredS xs] true (rRetiredS xs) := by
  refine sat_walk (fn := Tryz.f34) rfl rfl rfl (Nat.le_of_ble_eq_true rfl) fun fr hP hN hbnd => ?_
  have hE : (envOf fr Tryz.prog).Ok := envOf_ok hP
  have hM := follows_of hP
  have hS : ∀ {draw ops}, statB Tryz.f34.ntmps draw ops = true → statB (envOf fr Tryz.prog).fr.N draw ops = true := fun h => by rw [envOf_fr, hN]; exact h
  have hx : xs.length ≤ 1048576 := by unfold wRetiredS at h; omega
  have hw : ∀ k, k < xs.length → wRetired (xs.getD k default) ≤ 1048576 := fun k hk => by
    have := sumW_get (w := wRetired) (d := default) hk; unfold wRetiredS at h; omega
  repeat' (first
    | exact True.intro
    | refine ev_seq ?_
    | ((first | refine vgd_go ?_ | refine ev_region hE hM (hS (by decide +kernel)) ?_ | refine ev_if ?_ | refine end_ret hE rfl rfl ?_ | refine end_norm hE rfl rfl ?_ | refine endG_ret [] hE rfl ?_ | refine endG_norm [] hE rfl ?_ | refine vcall_A ?_); simp (maxSteps := 2000000) only [go_sem, hP, ↓reduceIte, Nat.reduceAdd, Nat.reduceMul, Nat.reduceEqDiff, Nat.reduceSub, Nat.reduceLeDiff, reduceCtorEq])
    | refine ev_skip ?_ | refine ev_block ?_ | refine ev_blk ?_ | refine ev_ret ?_ | refine ev_exit ?_ | refine evx_code_ret ?_ | refine evx_blk_ret ?_ | refine evx_lp_ret ?_
    | refine evx_code_exit ?_ | refine evx_lp_exit ?_ | refine evx_blk_hit ?_ | refine evx_blk_pass (by decide) ?_
    | refine And.intro ?_ ?_ | intro _ | decide +kernel | omega)
  refine ev_loop (ι := Nat) (fun k => [(0, .c (sRetiredS xs)), (3, .ref 4112), (4, .c (.int .i64 k))]) (fun k => [(4112, .arr true 93 2 ((mix xs ⟨0, []⟩ k).map oRetired))]) (fun _ => []) (fun k => k ≤ xs.length) (fun k => xs.length - k) 0 [] (by simp) (by simp only [go_sem, hP, ↓reduceIte, Nat.reduceAdd, Nat.reduceMul, Nat.reduceEqDiff, Nat.reduceSub, Nat.reduceLeDiff, reduceCtorEq]; simp [mix_zero, oRetired]) ?_
  intro k hk
  repeat' (first
    | exact True.intro
    | refine ev_seq ?_
    | ((first | refine vgd_go ?_ | refine ev_region hE hM (hS (by decide +kernel)) ?_ | refine ev_if ?_ | refine end_ret hE rfl rfl ?_ | refine end_norm hE rfl rfl ?_ | refine endG_ret [] hE rfl ?_ | refine endG_norm [] hE rfl ?_ | refine vcallB_of hP (s_toRetired (xs.getD k default) (hw k (by omega))) ?_ | refine vcall_A ?_); simp (maxSteps := 2000000) only [go_sem, hP, ↓reduceIte, Nat.reduceAdd, Nat.reduceMul, Nat.reduceEqDiff, Nat.reduceSub, Nat.reduceLeDiff, reduceCtorEq, mix_length hk])
    | refine ev_skip ?_ | refine ev_block ?_ | refine ev_blk ?_ | refine ev_ret ?_ | refine ev_exit ?_ | refine evx_code_ret ?_ | refine evx_blk_ret ?_ | refine evx_lp_ret ?_
    | refine evx_code_exit ?_ | refine evx_lp_exit ?_ | refine evx_blk_hit ?_ | refine evx_blk_pass (by decide) ?_
    | refine And.intro ?_ ?_ | intro _ | decide +kernel | omega)
  · exact ev_lp (k + 1) [] (by omega) (by omega) (by simp only [go_sem, hP, ↓reduceIte, Nat.reduceAdd, Nat.reduceMul, Nat.reduceEqDiff, Nat.reduceSub, Nat.reduceLeDiff, reduceCtorEq]; simp; exact ⟨wrap_succ (by omega) hx, mix_set_map (f := oRetired) (by omega)⟩)
  · rw [mix_full (by omega)]
theorem s_szRetiredS (xs : List Retired) (left : Int) (h0 : 0 ≤ left) (h1 : left ≤ 1048576) : Sat Tryz.prog 28 [aRetiredS xs, aI left] true (rI (lessN (wRetiredS xs) left)) := by
  refine sat_walk (fn := Tryz.f28) rfl rfl rfl (Nat.le_of_ble_eq_true rfl) fun fr hP hN hbnd => ?_
  have hE : (envOf fr Tryz.prog).Ok := envOf_ok hP
  have hM := follows_of hP
  have hS : ∀ {draw ops}, statB Tryz.f28.ntmps draw ops = true → statB (envOf fr Tryz.prog).fr.N draw ops = true := fun h => by rw [envOf_fr, hN]; exact h
  have hlen := bnd_RetiredS hbnd
  have hm : maxLen = 9223372036854775807 := rfl
  have hw : IntKind.i64.wrap (left - xs.length) = left - xs.length := i64_in _ (by omega)
  repeat' (first
    | exact True.intro
    | refine ev_seq ?_
    | ((first | refine vgd_go ?_ | refine ev_region hE hM (hS (by decide +kernel)) ?_ | refine ev_if ?_ | refine end_ret hE rfl rfl ?_ | refine end_norm hE rfl rfl ?_ | refine endG_ret [] hE rfl ?_ | refine endG_norm [] hE rfl ?_ | refine vcall_A ?_); simp (maxSteps := 2000000) only [go_sem, hP, ↓reduceIte, Nat.reduceAdd, Nat.reduceMul, Nat.reduceEqDiff, Nat.reduceSub, Nat.reduceLeDiff, reduceCtorEq, hw])
    | refine ev_skip ?_ | refine ev_block ?_ | refine ev_blk ?_ | refine ev_ret ?_ | refine ev_exit ?_ | refine evx_code_ret ?_ | refine evx_blk_ret ?_ | refine evx_lp_ret ?_
    | refine evx_code_exit ?_ | refine evx_lp_exit ?_ | refine evx_blk_hit ?_ | refine evx_blk_pass (by decide) ?_
    | refine And.intro ?_ ?_ | intro _ | decide +kernel | omega)
  · rename_i h; simp only [lessN, wRetiredS] at *; omega
  rename_i h
  refine ev_loop (ι := Nat) (fun k => [(0, .c (sRetiredS xs)), (1, .c (.int .i64 (left - xs.length - sumW wRetired (xs.take k)))), (5, .c (.int .i64 k))]) (fun k => []) (fun _ => []) (fun k => k ≤ xs.length ∧ (0 : Int) ≤ left - xs.length - sumW wRetired (xs.take k)) (fun k => xs.length - k) 0 [] (by simp [allLt_zero] <;> omega) (by simp only [go_sem, hP, ↓reduceIte, Nat.reduceAdd, Nat.reduceMul, Nat.reduceEqDiff, Nat.reduceSub, Nat.reduceLeDiff, reduceCtorEq]; simp) ?_
  intro k hk
  have hstep := fun h : k < xs.length => sumW_step (w := wRetired) (d := default) h
  have hle := sumW_le (w := wRetired) (xs := xs) (k + 1)
  repeat' (first
    | exact True.intro
    | refine ev_seq ?_
    | ((first | refine vgd_go ?_ | refine ev_region hE hM (hS (by decide +kernel)) ?_ | refine ev_if ?_ | refine end_ret hE rfl rfl ?_ | refine end_norm hE rfl rfl ?_ | refine endG_ret [] hE rfl ?_ | refine endG_norm [] hE rfl ?_ | refine vcallB_of hP (s_szRetired (xs.getD k default) _ hk.2 (by omega)) ?_ | refine vcall_A ?_); simp (maxSteps := 2000000) only [go_sem, hP, ↓reduceIte, Nat.reduceAdd, Nat.reduceMul, Nat.reduceEqDiff, Nat.reduceSub, Nat.reduceLeDiff, reduceCtorEq])
    | refine ev_skip ?_ | refine ev_block ?_ | refine ev_blk ?_ | refine ev_ret ?_ | refine ev_exit ?_ | refine evx_code_ret ?_ | refine evx_blk_ret ?_ | refine evx_lp_ret ?_
    | refine evx_code_exit ?_ | refine evx_lp_exit ?_ | refine evx_blk_hit ?_ | refine evx_blk_pass (by decide) ?_
    | refine And.intro ?_ ?_ | intro _ | decide +kernel | omega)
  · have := hstep (by omega)
    simp only [lessN, wRetiredS] at *; omega
  · rename_i hk1 hk2
    have h8 := hstep (by omega)
    have h9 : lessN (wRetired (xs.getD k default)) (left - xs.length - sumW wRetired (xs.take k)) = left - xs.length - sumW wRetired (xs.take (k + 1)) := by simp only [lessN] at *; omega
    refine ev_lp (k + 1) [] ⟨by omega, by rw [← h9]; omega⟩ (by omega) (by simp only [go_sem, hP, ↓reduceIte, Nat.reduceAdd, Nat.reduceMul, Nat.reduceEqDiff, Nat.reduceSub, Nat.reduceLeDiff, reduceCtorEq, h9]; simp; exact wrap_nat (by omega) hlen)
  · rw [sumW_done (by omega)] at hk ⊢
    simp only [lessN, wRetiredS] at *; omega
theorem s_eqRetiredS (xs ys : List Retired) : Sat Tryz.prog 40 [aRetiredS xs, aRetiredS ys] true (rB (decide (xs = ys))) := by
  refine sat_walk (fn := Tryz.f40) rfl rfl rfl (Nat.le_of_ble_eq_true rfl) fun fr hP hN hbnd => ?_
  have hE : (envOf fr Tryz.prog).Ok := envOf_ok hP
  have hM := follows_of hP
  have hS : ∀ {draw ops}, statB Tryz.f40.ntmps draw ops = true → statB (envOf fr Tryz.prog).fr.N draw ops = true := fun h => by rw [envOf_fr, hN]; exact h
  have hlen := bnd_RetiredS hbnd
  repeat' (first
    | exact True.intro
    | refine ev_seq ?_
    | ((first | refine vgd_go ?_ | refine ev_region hE hM (hS (by decide +kernel)) ?_ | refine ev_if ?_ | refine end_ret hE rfl rfl ?_ | refine end_norm hE rfl rfl ?_ | refine endG_ret [] hE rfl ?_ | refine endG_norm [] hE rfl ?_ | refine vcall_A ?_); simp (maxSteps := 2000000) only [go_sem, hP, ↓reduceIte, Nat.reduceAdd, Nat.reduceMul, Nat.reduceEqDiff, Nat.reduceSub, Nat.reduceLeDiff, reduceCtorEq])
    | refine ev_skip ?_ | refine ev_block ?_ | refine ev_blk ?_ | refine ev_ret ?_ | refine ev_exit ?_ | refine evx_code_ret ?_ | refine evx_blk_ret ?_ | refine evx_lp_ret ?_
    | refine evx_code_exit ?_ | refine evx_lp_exit ?_ | refine evx_blk_hit ?_ | refine evx_blk_pass (by decide) ?_
    | refine And.intro ?_ ?_ | intro _ | decide +kernel | omega)
  · rename_i h; simp at h; simp; rintro rfl; exact h rfl
  rename_i h; simp at h
  refine ev_loop (ι := Nat) (fun k => [(0, .c (sRetiredS xs)), (1, .c (sRetiredS ys)), (5, .c (.int .i64 k))]) (fun k => []) (fun _ => []) (fun k => k ≤ xs.length ∧ xs.take k = ys.take k) (fun k => xs.length - k) 0 [] (by simp [allLt_zero] <;> omega) (by simp only [go_sem, hP, ↓reduceIte, Nat.reduceAdd, Nat.reduceMul, Nat.reduceEqDiff, Nat.reduceSub, Nat.reduceLeDiff, reduceCtorEq]; simp) ?_
  intro k hk
  repeat' (first
    | exact True.intro
    | refine ev_seq ?_
    | ((first | refine vgd_go ?_ | refine ev_region hE hM (hS (by decide +kernel)) ?_ | refine ev_if ?_ | refine end_ret hE rfl rfl ?_ | refine end_norm hE rfl rfl ?_ | refine endG_ret [] hE rfl ?_ | refine endG_norm [] hE rfl ?_ | refine vcallB_of hP (s_eqRetired (xs.getD k default) (ys.getD k default)) ?_ | refine vcall_A ?_); simp (maxSteps := 2000000) only [go_sem, hP, ↓reduceIte, Nat.reduceAdd, Nat.reduceMul, Nat.reduceEqDiff, Nat.reduceSub, Nat.reduceLeDiff, reduceCtorEq])
    | refine ev_skip ?_ | refine ev_block ?_ | refine ev_blk ?_ | refine ev_ret ?_ | refine ev_exit ?_ | refine evx_code_ret ?_ | refine evx_blk_ret ?_ | refine evx_lp_ret ?_
    | refine evx_code_exit ?_ | refine evx_lp_exit ?_ | refine evx_blk_hit ?_ | refine evx_blk_pass (by decide) ?_
    | refine And.intro ?_ ?_ | intro _ | decide +kernel | omega)
  · rename_i h3; simp at h3; simp; exact eq_not (by simpa using h3)
  · rename_i h3 h4; simp at h4
    exact ev_lp (k + 1) [] ⟨by omega, eq_step (d := default) (e := default) (by omega) (by omega) hk.2 (by simpa using h4)⟩ (by omega) (by simp only [go_sem, hP, ↓reduceIte, Nat.reduceAdd, Nat.reduceMul, Nat.reduceEqDiff, Nat.reduceSub, Nat.reduceLeDiff, reduceCtorEq]; simp; exact wrap_nat (by omega) hlen)
  · simp; exact eq_done (by omega) (by omega) hk.2
theorem shp_RetiredS {n t : Nat} {cs : List C} (ht : Tryz.prog.underlying t = some (.slice 89)) (h : shp Tryz.prog (n + 4) t cs) : ∃ xs, cs = [sRetiredS xs] := by
  obtain ⟨xs, rfl, _⟩ := shp_rows (f := eRetired) (q := fun _ => True) (sz := 2) ht rfl (fun x hx => by obtain ⟨p, rfl⟩ := shp_Retired (n := n) rfl hx; exact ⟨p, rfl, trivial⟩) h
  exact ⟨xs, rfl⟩
end Go.Proofs.YtcephdpooijciaaGreat.W
