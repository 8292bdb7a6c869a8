/- Contracts of functions that the statements of this seat reach: what each returns; it writes to nothing of old. No condition but those that each theorem states. -/
import Derived.Test.YtheclfollianjaaRows
import Derived.Test.YtheclfollianjaaVe
open Go Go.Vm Go.Proofs Go.IntWalk Go.RowKit
set_option maxRecDepth 100000
set_option maxHeartbeats 4000000
set_option linter.unusedSimpArgs false
set_option linter.unusedVariables false
set_option linter.unusedSectionVars false
namespace Go.Proofs.Ytheclfollianjaa.W
attribute [local irreducible] kJ ev evx vops vstep vgo vgd vget vcall vcallFn vcallA vcallB vts vres vcond
@[go_sem] theorem ty2 : tyI Try.prog 2 = some { size := 1, bytes := 8, zv := Value.int IntKind.i64 (Int.ofNat 0), kind := TK.int IntKind.i64, cts := [(0, 0)], scal := true, psz := 0, zts := [T.c (C.int IntKind.i64 (Int.ofNat 0))] } := by rfl
@[go_sem] theorem ty3 : tyI Try.prog 3 = some { size := 1, bytes := 8, zv := Value.int IntKind.i64 (Int.ofNat 0), kind := TK.int IntKind.i64, cts := [(0, 0)], scal := true, psz := 0, zts := [T.c (C.int IntKind.i64 (Int.ofNat 0))] } := by rfl
@[go_sem] theorem ty4 : tyI Try.prog 4 = some { size := 1, bytes := 1, zv := Value.bool false, kind := TK.bool, cts := [(0, 0)], scal := true, psz := 0, zts := [T.c (C.bool false)] } := by rfl
@[go_sem] theorem ty5 : tyI Try.prog 5 = some { size := 1, bytes := 1, zv := Value.int IntKind.u8 (Int.ofNat 0), kind := TK.int IntKind.u8, cts := [(0, 0)], scal := true, psz := 0, zts := [T.c (C.int IntKind.u8 (Int.ofNat 0))] } := by rfl
@[go_sem] theorem ty12 : tyI Try.prog 12 = some { size := 1, bytes := 8, zv := Value.int IntKind.u64 (Int.ofNat 0), kind := TK.int IntKind.u64, cts := [(0, 0)], scal := true, psz := 0, zts := [T.c (C.int IntKind.u64 (Int.ofNat 0))] } := by rfl
@[go_sem] theorem ty21 : tyI Try.prog 21 = some { size := 1, bytes := 4, zv := Value.int IntKind.i32 (Int.ofNat 0), kind := TK.int IntKind.i32, cts := [(0, 0)], scal := true, psz := 0, zts := [T.c (C.int IntKind.i32 (Int.ofNat 0))] } := by rfl
@[go_sem] theorem ty22 : tyI Try.prog 22 = some { size := 1, bytes := 24, zv := Value.slice none 0 0, kind := TK.slice 2, cts := [(2, 1)], scal := false, psz := 0, zts := [T.nilS] } := by rfl
@[go_sem] theorem ty23 : tyI Try.prog 23 = some { size := 2, bytes := 48, zv := Value.agg { toList := [Value.slice none 0 0, Value.slice none 0 0] }, kind := TK.struct [(0, 22), (1, 22)], cts := [(2, 1), (2, 1)], scal := false, psz := 0, zts := [T.nilS, T.nilS] } := by rfl
@[go_sem] theorem ty24 : tyI Try.prog 24 = some { size := 2, bytes := 48, zv := Value.agg { toList := [Value.slice none 0 0, Value.slice none 0 0] }, kind := TK.struct [(0, 22), (1, 22)], cts := [(2, 1), (2, 1)], scal := false, psz := 0, zts := [T.nilS, T.nilS] } := by rfl
@[go_sem] theorem ty25 : tyI Try.prog 25 = some { size := 5, bytes := 88, zv := Value.agg { toList := [Value.int IntKind.i64 (Int.ofNat 0), Value.slice none 0 0, Value.slice none 0 0, Value.slice none 0 0, Value.int IntKind.i64 (Int.ofNat 0)] }, kind := TK.struct [(0, 2), (1, 24), (3, 22), (4, 2)], cts := [(0, 0), (2, 1), (2, 1), (2, 1), (0, 0)], scal := false, psz := 0, zts := [T.c (C.int IntKind.i64 (Int.ofNat 0)), T.nilS, T.nilS, T.nilS, T.c (C.int IntKind.i64 (Int.ofNat 0))] } := by rfl
@[go_sem] theorem ty26 : tyI Try.prog 26 = some { size := 5, bytes := 88, zv := Value.agg { toList := [Value.int IntKind.i64 (Int.ofNat 0), Value.slice none 0 0, Value.slice none 0 0, Value.slice none 0 0, Value.int IntKind.i64 (Int.ofNat 0)] }, kind := TK.struct [(0, 2), (1, 24), (3, 22), (4, 2)], cts := [(0, 0), (2, 1), (2, 1), (2, 1), (0, 0)], scal := false, psz := 0, zts := [T.c (C.int IntKind.i64 (Int.ofNat 0)), T.nilS, T.nilS, T.nilS, T.c (C.int IntKind.i64 (Int.ofNat 0))] } := by rfl
@[go_sem] theorem ty27 : tyI Try.prog 27 = some { size := 1, bytes := 24, zv := Value.slice none 0 0, kind := TK.slice 205, cts := [(205, 3)], scal := false, psz := 0, zts := [T.nilS] } := by rfl
@[go_sem] theorem ty28 : tyI Try.prog 28 = some { size := 1, bytes := 24, zv := Value.slice none 0 0, kind := TK.slice 193, cts := [(193, 3)], scal := false, psz := 0, zts := [T.nilS] } := by rfl
@[go_sem] theorem ty29 : tyI Try.prog 29 = some { size := 7, bytes := 136, zv := Value.agg { toList := [Value.int IntKind.i64 (Int.ofNat 0), Value.slice none 0 0, Value.slice none 0 0, Value.slice none 0 0, Value.int IntKind.i64 (Int.ofNat 0), Value.slice none 0 0, Value.slice none 0 0] }, kind := TK.struct [(0, 26), (5, 27), (6, 28)], cts := [(0, 0), (2, 1), (2, 1), (2, 1), (0, 0), (205, 3), (193, 3)], scal := false, psz := 0, zts := [T.c (C.int IntKind.i64 (Int.ofNat 0)), T.nilS, T.nilS, T.nilS, T.c (C.int IntKind.i64 (Int.ofNat 0)), T.nilS, T.nilS] } := by rfl
@[go_sem] theorem ty30 : tyI Try.prog 30 = some { size := 7, bytes := 136, zv := Value.agg { toList := [Value.int IntKind.i64 (Int.ofNat 0), Value.slice none 0 0, Value.slice none 0 0, Value.slice none 0 0, Value.int IntKind.i64 (Int.ofNat 0), Value.slice none 0 0, Value.slice none 0 0] }, kind := TK.struct [(0, 26), (5, 27), (6, 28)], cts := [(0, 0), (2, 1), (2, 1), (2, 1), (0, 0), (205, 3), (193, 3)], scal := false, psz := 0, zts := [T.c (C.int IntKind.i64 (Int.ofNat 0)), T.nilS, T.nilS, T.nilS, T.c (C.int IntKind.i64 (Int.ofNat 0)), T.nilS, T.nilS] } := by rfl
@[go_sem] theorem ty33 : tyI Try.prog 33 = some { size := 2, bytes := 48, zv := Value.agg { toList := [Value.slice none 0 0, Value.slice none 0 0] }, kind := TK.struct [(0, 22), (1, 22)], cts := [(2, 1), (2, 1)], scal := false, psz := 0, zts := [T.nilS, T.nilS] } := by rfl
@[go_sem] theorem ty34 : tyI Try.prog 34 = some { size := 5, bytes := 88, zv := Value.agg { toList := [Value.int IntKind.i64 (Int.ofNat 0), Value.slice none 0 0, Value.slice none 0 0, Value.slice none 0 0, Value.int IntKind.i64 (Int.ofNat 0)] }, kind := TK.struct [(0, 2), (1, 33), (3, 22), (4, 2)], cts := [(0, 0), (2, 1), (2, 1), (2, 1), (0, 0)], scal := false, psz := 0, zts := [T.c (C.int IntKind.i64 (Int.ofNat 0)), T.nilS, T.nilS, T.nilS, T.c (C.int IntKind.i64 (Int.ofNat 0))] } := by rfl
@[go_sem] theorem ty35 : tyI Try.prog 35 = some { size := 5, bytes := 88, zv := Value.agg { toList := [Value.int IntKind.i64 (Int.ofNat 0), Value.slice none 0 0, Value.slice none 0 0, Value.slice none 0 0, Value.int IntKind.i64 (Int.ofNat 0)] }, kind := TK.struct [(0, 2), (1, 33), (3, 22), (4, 2)], cts := [(0, 0), (2, 1), (2, 1), (2, 1), (0, 0)], scal := false, psz := 0, zts := [T.c (C.int IntKind.i64 (Int.ofNat 0)), T.nilS, T.nilS, T.nilS, T.c (C.int IntKind.i64 (Int.ofNat 0))] } := by rfl
@[go_sem] theorem ty36 : tyI Try.prog 36 = some { size := 1, bytes := 24, zv := Value.slice none 0 0, kind := TK.slice 128, cts := [(128, 3)], scal := false, psz := 0, zts := [T.nilS] } := by rfl
@[go_sem] theorem ty37 : tyI Try.prog 37 = some { size := 1, bytes := 24, zv := Value.slice none 0 0, kind := TK.slice 107, cts := [(107, 3)], scal := false, psz := 0, zts := [T.nilS] } := by rfl
@[go_sem] theorem ty38 : tyI Try.prog 38 = some { size := 7, bytes := 136, zv := Value.agg { toList := [Value.int IntKind.i64 (Int.ofNat 0), Value.slice none 0 0, Value.slice none 0 0, Value.slice none 0 0, Value.int IntKind.i64 (Int.ofNat 0), Value.slice none 0 0, Value.slice none 0 0] }, kind := TK.struct [(0, 35), (5, 36), (6, 37)], cts := [(0, 0), (2, 1), (2, 1), (2, 1), (0, 0), (128, 3), (107, 3)], scal := false, psz := 0, zts := [T.c (C.int IntKind.i64 (Int.ofNat 0)), T.nilS, T.nilS, T.nilS, T.c (C.int IntKind.i64 (Int.ofNat 0)), T.nilS, T.nilS] } := by rfl
@[go_sem] theorem ty39 : tyI Try.prog 39 = some { size := 7, bytes := 136, zv := Value.agg { toList := [Value.int IntKind.i64 (Int.ofNat 0), Value.slice none 0 0, Value.slice none 0 0, Value.slice none 0 0, Value.int IntKind.i64 (Int.ofNat 0), Value.slice none 0 0, Value.slice none 0 0] }, kind := TK.struct [(0, 35), (5, 36), (6, 37)], cts := [(0, 0), (2, 1), (2, 1), (2, 1), (0, 0), (128, 3), (107, 3)], scal := false, psz := 0, zts := [T.c (C.int IntKind.i64 (Int.ofNat 0)), T.nilS, T.nilS, T.nilS, T.c (C.int IntKind.i64 (Int.ofNat 0)), T.nilS, T.nilS] } := by rfl
@[go_sem] theorem ty42 : tyI Try.prog 42 = some { size := 1, bytes := 24, zv := Value.slice none 0 0, kind := TK.slice 221, cts := [(221, 4)], scal := false, psz := 0, zts := [T.nilS] } := by rfl
@[go_sem] theorem ty43 : tyI Try.prog 43 = some { size := 1, bytes := 24, zv := Value.slice none 0 0, kind := TK.slice 223, cts := [(223, 2)], scal := false, psz := 0, zts := [T.nilS] } := by rfl
@[go_sem] theorem ty44 : tyI Try.prog 44 = some { size := 4, bytes := 80, zv := Value.agg { toList := [Value.int IntKind.i64 (Int.ofNat 0), Value.slice none 0 0, Value.slice none 0 0, Value.slice none 0 0] }, kind := TK.struct [(0, 2), (1, 42), (2, 22), (3, 43)], cts := [(0, 0), (221, 4), (2, 1), (223, 2)], scal := false, psz := 0, zts := [T.c (C.int IntKind.i64 (Int.ofNat 0)), T.nilS, T.nilS, T.nilS] } := by rfl
@[go_sem] theorem ty45 : tyI Try.prog 45 = some { size := 4, bytes := 80, zv := Value.agg { toList := [Value.int IntKind.i64 (Int.ofNat 0), Value.slice none 0 0, Value.slice none 0 0, Value.slice none 0 0] }, kind := TK.struct [(0, 2), (1, 42), (2, 22), (3, 43)], cts := [(0, 0), (221, 4), (2, 1), (223, 2)], scal := false, psz := 0, zts := [T.c (C.int IntKind.i64 (Int.ofNat 0)), T.nilS, T.nilS, T.nilS] } := by rfl
@[go_sem] theorem ty46 : tyI Try.prog 46 = some { size := 8, bytes := 112, zv := Value.agg { toList := [Value.int IntKind.i64 (Int.ofNat 0), Value.int IntKind.i64 (Int.ofNat 0), Value.slice none 0 0, Value.slice none 0 0, Value.slice none 0 0, Value.int IntKind.i64 (Int.ofNat 0), Value.int IntKind.i64 (Int.ofNat 0), Value.int IntKind.i64 (Int.ofNat 0)] }, kind := TK.struct [(0, 2), (1, 45), (5, 2), (6, 2), (7, 2)], cts := [(0, 0), (0, 0), (221, 4), (2, 1), (223, 2), (0, 0), (0, 0), (0, 0)], scal := false, psz := 0, zts := [T.c (C.int IntKind.i64 (Int.ofNat 0)), T.c (C.int IntKind.i64 (Int.ofNat 0)), T.nilS, T.nilS, T.nilS, T.c (C.int IntKind.i64 (Int.ofNat 0)), T.c (C.int IntKind.i64 (Int.ofNat 0)), T.c (C.int IntKind.i64 (Int.ofNat 0))] } := by rfl
@[go_sem] theorem ty47 : tyI Try.prog 47 = some { size := 8, bytes := 112, zv := Value.agg { toList := [Value.int IntKind.i64 (Int.ofNat 0), Value.int IntKind.i64 (Int.ofNat 0), Value.slice none 0 0, Value.slice none 0 0, Value.slice none 0 0, Value.int IntKind.i64 (Int.ofNat 0), Value.int IntKind.i64 (Int.ofNat 0), Value.int IntKind.i64 (Int.ofNat 0)] }, kind := TK.struct [(0, 2), (1, 45), (5, 2), (6, 2), (7, 2)], cts := [(0, 0), (0, 0), (221, 4), (2, 1), (223, 2), (0, 0), (0, 0), (0, 0)], scal := false, psz := 0, zts := [T.c (C.int IntKind.i64 (Int.ofNat 0)), T.c (C.int IntKind.i64 (Int.ofNat 0)), T.nilS, T.nilS, T.nilS, T.c (C.int IntKind.i64 (Int.ofNat 0)), T.c (C.int IntKind.i64 (Int.ofNat 0)), T.c (C.int IntKind.i64 (Int.ofNat 0))] } := by rfl
@[go_sem] theorem ty50 : tyI Try.prog 50 = some { size := 1, bytes := 24, zv := Value.slice none 0 0, kind := TK.slice 158, cts := [(158, 4)], scal := false, psz := 0, zts := [T.nilS] } := by rfl
@[go_sem] theorem ty51 : tyI Try.prog 51 = some { size := 1, bytes := 24, zv := Value.slice none 0 0, kind := TK.slice 163, cts := [(163, 2)], scal := false, psz := 0, zts := [T.nilS] } := by rfl
@[go_sem] theorem ty52 : tyI Try.prog 52 = some { size := 4, bytes := 80, zv := Value.agg { toList := [Value.int IntKind.i64 (Int.ofNat 0), Value.slice none 0 0, Value.slice none 0 0, Value.slice none 0 0] }, kind := TK.struct [(0, 2), (1, 50), (2, 22), (3, 51)], cts := [(0, 0), (158, 4), (2, 1), (163, 2)], scal := false, psz := 0, zts := [T.c (C.int IntKind.i64 (Int.ofNat 0)), T.nilS, T.nilS, T.nilS] } := by rfl
@[go_sem] theorem ty53 : tyI Try.prog 53 = some { size := 4, bytes := 80, zv := Value.agg { toList := [Value.int IntKind.i64 (Int.ofNat 0), Value.slice none 0 0, Value.slice none 0 0, Value.slice none 0 0] }, kind := TK.struct [(0, 2), (1, 50), (2, 22), (3, 51)], cts := [(0, 0), (158, 4), (2, 1), (163, 2)], scal := false, psz := 0, zts := [T.c (C.int IntKind.i64 (Int.ofNat 0)), T.nilS, T.nilS, T.nilS] } := by rfl
@[go_sem] theorem ty54 : tyI Try.prog 54 = some { size := 8, bytes := 112, zv := Value.agg { toList := [Value.int IntKind.i64 (Int.ofNat 0), Value.int IntKind.i64 (Int.ofNat 0), Value.slice none 0 0, Value.slice none 0 0, Value.slice none 0 0, Value.int IntKind.i64 (Int.ofNat 0), Value.int IntKind.i64 (Int.ofNat 0), Value.int IntKind.i64 (Int.ofNat 0)] }, kind := TK.struct [(0, 2), (1, 53), (5, 2), (6, 2), (7, 2)], cts := [(0, 0), (0, 0), (158, 4), (2, 1), (163, 2), (0, 0), (0, 0), (0, 0)], scal := false, psz := 0, zts := [T.c (C.int IntKind.i64 (Int.ofNat 0)), T.c (C.int IntKind.i64 (Int.ofNat 0)), T.nilS, T.nilS, T.nilS, T.c (C.int IntKind.i64 (Int.ofNat 0)), T.c (C.int IntKind.i64 (Int.ofNat 0)), T.c (C.int IntKind.i64 (Int.ofNat 0))] } := by rfl
@[go_sem] theorem ty55 : tyI Try.prog 55 = some { size := 8, bytes := 112, zv := Value.agg { toList := [Value.int IntKind.i64 (Int.ofNat 0), Value.int IntKind.i64 (Int.ofNat 0), Value.slice none 0 0, Value.slice none 0 0, Value.slice none 0 0, Value.int IntKind.i64 (Int.ofNat 0), Value.int IntKind.i64 (Int.ofNat 0), Value.int IntKind.i64 (Int.ofNat 0)] }, kind := TK.struct [(0, 2), (1, 53), (5, 2), (6, 2), (7, 2)], cts := [(0, 0), (0, 0), (158, 4), (2, 1), (163, 2), (0, 0), (0, 0), (0, 0)], scal := false, psz := 0, zts := [T.c (C.int IntKind.i64 (Int.ofNat 0)), T.c (C.int IntKind.i64 (Int.ofNat 0)), T.nilS, T.nilS, T.nilS, T.c (C.int IntKind.i64 (Int.ofNat 0)), T.c (C.int IntKind.i64 (Int.ofNat 0)), T.c (C.int IntKind.i64 (Int.ofNat 0))] } := by rfl
@[go_sem] theorem ty58 : tyI Try.prog 58 = some { size := 1, bytes := 24, zv := Value.slice none 0 0, kind := TK.slice 136, cts := [(136, 4)], scal := false, psz := 0, zts := [T.nilS] } := by rfl
@[go_sem] theorem ty61 : tyI Try.prog 61 = some { size := 2, bytes := 16, zv := Value.agg { toList := [Value.int IntKind.i64 (Int.ofNat 0), Value.int IntKind.i64 (Int.ofNat 0)] }, kind := TK.struct [(0, 2), (1, 2)], cts := [(0, 0), (0, 0)], scal := true, psz := 0, zts := [T.c (C.int IntKind.i64 (Int.ofNat 0)), T.c (C.int IntKind.i64 (Int.ofNat 0))] } := by rfl
@[go_sem] theorem ty62 : tyI Try.prog 62 = some { size := 2, bytes := 16, zv := Value.agg { toList := [Value.int IntKind.i64 (Int.ofNat 0), Value.int IntKind.i64 (Int.ofNat 0)] }, kind := TK.struct [(0, 2), (1, 2)], cts := [(0, 0), (0, 0)], scal := true, psz := 0, zts := [T.c (C.int IntKind.i64 (Int.ofNat 0)), T.c (C.int IntKind.i64 (Int.ofNat 0))] } := by rfl
@[go_sem] theorem ty64 : tyI Try.prog 64 = some { size := 1, bytes := 24, zv := Value.slice none 0 0, kind := TK.slice 143, cts := [(143, 4)], scal := false, psz := 0, zts := [T.nilS] } := by rfl
@[go_sem] theorem ty78 : tyI Try.prog 78 = some { size := 1, bytes := 24, zv := Value.slice none 0 0, kind := TK.slice 4, cts := [(4, 1)], scal := false, psz := 0, zts := [T.nilS] } := by rfl
@[go_sem] theorem ty79 : tyI Try.prog 79 = some { size := 1, bytes := 24, zv := Value.slice none 0 0, kind := TK.slice 241, cts := [(241, 14)], scal := false, psz := 0, zts := [T.nilS] } := by rfl
@[go_sem] theorem ty80 : tyI Try.prog 80 = some { size := 13, bytes := 216, zv := Value.agg { toList := [Value.int IntKind.i64 (Int.ofNat 0), Value.int IntKind.i64 (Int.ofNat 0), Value.slice none 0 0, Value.slice none 0 0, Value.slice none 0 0, Value.int IntKind.i64 (Int.ofNat 0), Value.int IntKind.i64 (Int.ofNat 0), Value.int IntKind.i64 (Int.ofNat 0), Value.slice none 0 0, Value.int IntKind.i64 (Int.ofNat 0), Value.slice none 0 0, Value.slice none 0 0, Value.slice none 0 0] }, kind := TK.struct [(0, 47), (8, 28), (9, 2), (10, 78), (11, 22), (12, 79)], cts := [(0, 0), (0, 0), (221, 4), (2, 1), (223, 2), (0, 0), (0, 0), (0, 0), (193, 3), (0, 0), (4, 1), (2, 1), (241, 14)], scal := false, psz := 0, zts := [T.c (C.int IntKind.i64 (Int.ofNat 0)), T.c (C.int IntKind.i64 (Int.ofNat 0)), T.nilS, T.nilS, T.nilS, T.c (C.int IntKind.i64 (Int.ofNat 0)), T.c (C.int IntKind.i64 (Int.ofNat 0)), T.c (C.int IntKind.i64 (Int.ofNat 0)), T.nilS, T.c (C.int IntKind.i64 (Int.ofNat 0)), T.nilS, T.nilS, T.nilS] } := by rfl
@[go_sem] theorem ty81 : tyI Try.prog 81 = some { size := 13, bytes := 216, zv := Value.agg { toList := [Value.int IntKind.i64 (Int.ofNat 0), Value.int IntKind.i64 (Int.ofNat 0), Value.slice none 0 0, Value.slice none 0 0, Value.slice none 0 0, Value.int IntKind.i64 (Int.ofNat 0), Value.int IntKind.i64 (Int.ofNat 0), Value.int IntKind.i64 (Int.ofNat 0), Value.slice none 0 0, Value.int IntKind.i64 (Int.ofNat 0), Value.slice none 0 0, Value.slice none 0 0, Value.slice none 0 0] }, kind := TK.struct [(0, 47), (8, 28), (9, 2), (10, 78), (11, 22), (12, 79)], cts := [(0, 0), (0, 0), (221, 4), (2, 1), (223, 2), (0, 0), (0, 0), (0, 0), (193, 3), (0, 0), (4, 1), (2, 1), (241, 14)], scal := false, psz := 0, zts := [T.c (C.int IntKind.i64 (Int.ofNat 0)), T.c (C.int IntKind.i64 (Int.ofNat 0)), T.nilS, T.nilS, T.nilS, T.c (C.int IntKind.i64 (Int.ofNat 0)), T.c (C.int IntKind.i64 (Int.ofNat 0)), T.c (C.int IntKind.i64 (Int.ofNat 0)), T.nilS, T.c (C.int IntKind.i64 (Int.ofNat 0)), T.nilS, T.nilS, T.nilS] } := by rfl
@[go_sem] theorem ty84 : tyI Try.prog 84 = some { size := 1, bytes := 24, zv := Value.slice none 0 0, kind := TK.slice 247, cts := [(247, 14)], scal := false, psz := 0, zts := [T.nilS] } := by rfl
@[go_sem] theorem ty85 : tyI Try.prog 85 = some { size := 13, bytes := 216, zv := Value.agg { toList := [Value.int IntKind.i64 (Int.ofNat 0), Value.int IntKind.i64 (Int.ofNat 0), Value.slice none 0 0, Value.slice none 0 0, Value.slice none 0 0, Value.int IntKind.i64 (Int.ofNat 0), Value.int IntKind.i64 (Int.ofNat 0), Value.int IntKind.i64 (Int.ofNat 0), Value.slice none 0 0, Value.int IntKind.i64 (Int.ofNat 0), Value.slice none 0 0, Value.slice none 0 0, Value.slice none 0 0] }, kind := TK.struct [(0, 55), (8, 37), (9, 2), (10, 78), (11, 22), (12, 84)], cts := [(0, 0), (0, 0), (158, 4), (2, 1), (163, 2), (0, 0), (0, 0), (0, 0), (107, 3), (0, 0), (4, 1), (2, 1), (247, 14)], scal := false, psz := 0, zts := [T.c (C.int IntKind.i64 (Int.ofNat 0)), T.c (C.int IntKind.i64 (Int.ofNat 0)), T.nilS, T.nilS, T.nilS, T.c (C.int IntKind.i64 (Int.ofNat 0)), T.c (C.int IntKind.i64 (Int.ofNat 0)), T.c (C.int IntKind.i64 (Int.ofNat 0)), T.nilS, T.c (C.int IntKind.i64 (Int.ofNat 0)), T.nilS, T.nilS, T.nilS] } := by rfl
@[go_sem] theorem ty86 : tyI Try.prog 86 = some { size := 13, bytes := 216, zv := Value.agg { toList := [Value.int IntKind.i64 (Int.ofNat 0), Value.int IntKind.i64 (Int.ofNat 0), Value.slice none 0 0, Value.slice none 0 0, Value.slice none 0 0, Value.int IntKind.i64 (Int.ofNat 0), Value.int IntKind.i64 (Int.ofNat 0), Value.int IntKind.i64 (Int.ofNat 0), Value.slice none 0 0, Value.int IntKind.i64 (Int.ofNat 0), Value.slice none 0 0, Value.slice none 0 0, Value.slice none 0 0] }, kind := TK.struct [(0, 55), (8, 37), (9, 2), (10, 78), (11, 22), (12, 84)], cts := [(0, 0), (0, 0), (158, 4), (2, 1), (163, 2), (0, 0), (0, 0), (0, 0), (107, 3), (0, 0), (4, 1), (2, 1), (247, 14)], scal := false, psz := 0, zts := [T.c (C.int IntKind.i64 (Int.ofNat 0)), T.c (C.int IntKind.i64 (Int.ofNat 0)), T.nilS, T.nilS, T.nilS, T.c (C.int IntKind.i64 (Int.ofNat 0)), T.c (C.int IntKind.i64 (Int.ofNat 0)), T.c (C.int IntKind.i64 (Int.ofNat 0)), T.nilS, T.c (C.int IntKind.i64 (Int.ofNat 0)), T.nilS, T.nilS, T.nilS] } := by rfl
@[go_sem] theorem ty92 : tyI Try.prog 92 = some { size := 4, bytes := 32, zv := Value.agg { toList := [Value.int IntKind.i64 (Int.ofNat 0), Value.int IntKind.i64 (Int.ofNat 0), Value.int IntKind.i64 (Int.ofNat 0), Value.int IntKind.i64 (Int.ofNat 0)] }, kind := TK.struct [(0, 2), (1, 2), (2, 2), (3, 2)], cts := [(0, 0), (0, 0), (0, 0), (0, 0)], scal := true, psz := 0, zts := [T.c (C.int IntKind.i64 (Int.ofNat 0)), T.c (C.int IntKind.i64 (Int.ofNat 0)), T.c (C.int IntKind.i64 (Int.ofNat 0)), T.c (C.int IntKind.i64 (Int.ofNat 0))] } := by rfl
@[go_sem] theorem ty93 : tyI Try.prog 93 = some { size := 4, bytes := 32, zv := Value.agg { toList := [Value.int IntKind.i64 (Int.ofNat 0), Value.int IntKind.i64 (Int.ofNat 0), Value.int IntKind.i64 (Int.ofNat 0), Value.int IntKind.i64 (Int.ofNat 0)] }, kind := TK.struct [(0, 2), (1, 2), (2, 2), (3, 2)], cts := [(0, 0), (0, 0), (0, 0), (0, 0)], scal := true, psz := 0, zts := [T.c (C.int IntKind.i64 (Int.ofNat 0)), T.c (C.int IntKind.i64 (Int.ofNat 0)), T.c (C.int IntKind.i64 (Int.ofNat 0)), T.c (C.int IntKind.i64 (Int.ofNat 0))] } := by rfl
@[go_sem] theorem ty95 : tyI Try.prog 95 = some { size := 4, bytes := 32, zv := Value.agg { toList := [Value.int IntKind.i64 (Int.ofNat 0), Value.int IntKind.i64 (Int.ofNat 0), Value.int IntKind.i64 (Int.ofNat 0), Value.int IntKind.i64 (Int.ofNat 0)] }, kind := TK.struct [(0, 2), (1, 2), (2, 2), (3, 2)], cts := [(0, 0), (0, 0), (0, 0), (0, 0)], scal := true, psz := 0, zts := [T.c (C.int IntKind.i64 (Int.ofNat 0)), T.c (C.int IntKind.i64 (Int.ofNat 0)), T.c (C.int IntKind.i64 (Int.ofNat 0)), T.c (C.int IntKind.i64 (Int.ofNat 0))] } := by rfl
@[go_sem] theorem ty98 : tyI Try.prog 98 = some { size := 3, bytes := 56, zv := Value.agg { toList := [Value.int IntKind.i64 (Int.ofNat 0), Value.slice none 0 0, Value.slice none 0 0] }, kind := TK.struct [(0, 2), (1, 33)], cts := [(0, 0), (2, 1), (2, 1)], scal := false, psz := 0, zts := [T.c (C.int IntKind.i64 (Int.ofNat 0)), T.nilS, T.nilS] } := by rfl
@[go_sem] theorem ty99 : tyI Try.prog 99 = some { size := 3, bytes := 56, zv := Value.agg { toList := [Value.int IntKind.i64 (Int.ofNat 0), Value.slice none 0 0, Value.slice none 0 0] }, kind := TK.struct [(0, 2), (1, 33)], cts := [(0, 0), (2, 1), (2, 1)], scal := false, psz := 0, zts := [T.c (C.int IntKind.i64 (Int.ofNat 0)), T.nilS, T.nilS] } := by rfl
@[go_sem] theorem ty106 : tyI Try.prog 106 = some { size := 3, bytes := 56, zv := Value.agg { toList := [Value.int IntKind.i64 (Int.ofNat 0), Value.slice none 0 0, Value.slice none 0 0] }, kind := TK.struct [(0, 2), (1, 33)], cts := [(0, 0), (2, 1), (2, 1)], scal := false, psz := 0, zts := [T.c (C.int IntKind.i64 (Int.ofNat 0)), T.nilS, T.nilS] } := by rfl
@[go_sem] theorem ty107 : tyI Try.prog 107 = some { size := 3, bytes := 56, zv := Value.agg { toList := [Value.int IntKind.i64 (Int.ofNat 0), Value.slice none 0 0, Value.slice none 0 0] }, kind := TK.struct [(0, 2), (1, 33)], cts := [(0, 0), (2, 1), (2, 1)], scal := false, psz := 0, zts := [T.c (C.int IntKind.i64 (Int.ofNat 0)), T.nilS, T.nilS] } := by rfl
@[go_sem] theorem ty108 : tyI Try.prog 108 = some { size := 4, bytes := 64, zv := Value.agg { toList := [Value.int IntKind.i64 (Int.ofNat 0), Value.int IntKind.i64 (Int.ofNat 0), Value.slice none 0 0, Value.slice none 0 0] }, kind := TK.struct [(0, 2), (1, 107)], cts := [(0, 0), (0, 0), (2, 1), (2, 1)], scal := false, psz := 0, zts := [T.c (C.int IntKind.i64 (Int.ofNat 0)), T.c (C.int IntKind.i64 (Int.ofNat 0)), T.nilS, T.nilS] } := by rfl
@[go_sem] theorem ty109 : tyI Try.prog 109 = some { size := 4, bytes := 64, zv := Value.agg { toList := [Value.int IntKind.i64 (Int.ofNat 0), Value.int IntKind.i64 (Int.ofNat 0), Value.slice none 0 0, Value.slice none 0 0] }, kind := TK.struct [(0, 2), (1, 107)], cts := [(0, 0), (0, 0), (2, 1), (2, 1)], scal := false, psz := 0, zts := [T.c (C.int IntKind.i64 (Int.ofNat 0)), T.c (C.int IntKind.i64 (Int.ofNat 0)), T.nilS, T.nilS] } := by rfl
@[go_sem] theorem ty117 : tyI Try.prog 117 = some { size := 6, bytes := 96, zv := Value.agg { toList := [Value.int IntKind.i64 (Int.ofNat 0), Value.int IntKind.i64 (Int.ofNat 0), Value.slice none 0 0, Value.slice none 0 0, Value.slice none 0 0, Value.int IntKind.i64 (Int.ofNat 0)] }, kind := TK.struct [(0, 2), (1, 53), (5, 2)], cts := [(0, 0), (0, 0), (158, 4), (2, 1), (163, 2), (0, 0)], scal := false, psz := 0, zts := [T.c (C.int IntKind.i64 (Int.ofNat 0)), T.c (C.int IntKind.i64 (Int.ofNat 0)), T.nilS, T.nilS, T.nilS, T.c (C.int IntKind.i64 (Int.ofNat 0))] } := by rfl
@[go_sem] theorem ty118 : tyI Try.prog 118 = some { size := 6, bytes := 96, zv := Value.agg { toList := [Value.int IntKind.i64 (Int.ofNat 0), Value.int IntKind.i64 (Int.ofNat 0), Value.slice none 0 0, Value.slice none 0 0, Value.slice none 0 0, Value.int IntKind.i64 (Int.ofNat 0)] }, kind := TK.struct [(0, 2), (1, 53), (5, 2)], cts := [(0, 0), (0, 0), (158, 4), (2, 1), (163, 2), (0, 0)], scal := false, psz := 0, zts := [T.c (C.int IntKind.i64 (Int.ofNat 0)), T.c (C.int IntKind.i64 (Int.ofNat 0)), T.nilS, T.nilS, T.nilS, T.c (C.int IntKind.i64 (Int.ofNat 0))] } := by rfl
@[go_sem] theorem ty126 : tyI Try.prog 126 = some { size := 1, bytes := 8, zv := Value.pointer none, kind := TK.other, cts := [(0, 0), (2, 1), (2, 1), (2, 1), (0, 0)], scal := false, psz := 5, zts := [T.un] } := by rfl
@[go_sem] theorem ty127 : tyI Try.prog 127 = some { size := 3, bytes := 24, zv := Value.agg { toList := [Value.int IntKind.i64 (Int.ofNat 0), Value.int IntKind.i64 (Int.ofNat 0), Value.int IntKind.i64 (Int.ofNat 0)] }, kind := TK.struct [(0, 2), (1, 2), (2, 2)], cts := [(0, 0), (0, 0), (0, 0)], scal := true, psz := 0, zts := [T.c (C.int IntKind.i64 (Int.ofNat 0)), T.c (C.int IntKind.i64 (Int.ofNat 0)), T.c (C.int IntKind.i64 (Int.ofNat 0))] } := by rfl
@[go_sem] theorem ty128 : tyI Try.prog 128 = some { size := 3, bytes := 24, zv := Value.agg { toList := [Value.int IntKind.i64 (Int.ofNat 0), Value.int IntKind.i64 (Int.ofNat 0), Value.int IntKind.i64 (Int.ofNat 0)] }, kind := TK.struct [(0, 2), (1, 2), (2, 2)], cts := [(0, 0), (0, 0), (0, 0)], scal := true, psz := 0, zts := [T.c (C.int IntKind.i64 (Int.ofNat 0)), T.c (C.int IntKind.i64 (Int.ofNat 0)), T.c (C.int IntKind.i64 (Int.ofNat 0))] } := by rfl
@[go_sem] theorem ty135 : tyI Try.prog 135 = some { size := 4, bytes := 64, zv := Value.agg { toList := [Value.slice none 0 0, Value.slice none 0 0, Value.int IntKind.i64 (Int.ofNat 0), Value.int IntKind.i64 (Int.ofNat 0)] }, kind := TK.struct [(0, 24), (2, 2), (3, 2)], cts := [(2, 1), (2, 1), (0, 0), (0, 0)], scal := false, psz := 0, zts := [T.nilS, T.nilS, T.c (C.int IntKind.i64 (Int.ofNat 0)), T.c (C.int IntKind.i64 (Int.ofNat 0))] } := by rfl
@[go_sem] theorem ty136 : tyI Try.prog 136 = some { size := 4, bytes := 64, zv := Value.agg { toList := [Value.slice none 0 0, Value.slice none 0 0, Value.int IntKind.i64 (Int.ofNat 0), Value.int IntKind.i64 (Int.ofNat 0)] }, kind := TK.struct [(0, 24), (2, 2), (3, 2)], cts := [(2, 1), (2, 1), (0, 0), (0, 0)], scal := false, psz := 0, zts := [T.nilS, T.nilS, T.c (C.int IntKind.i64 (Int.ofNat 0)), T.c (C.int IntKind.i64 (Int.ofNat 0))] } := by rfl
@[go_sem] theorem ty141 : tyI Try.prog 141 = some { size := 1, bytes := 8, zv := Value.pointer none, kind := TK.other, cts := [(2, 1), (2, 1)], scal := false, psz := 2, zts := [T.un] } := by rfl
@[go_sem] theorem ty142 : tyI Try.prog 142 = some { size := 4, bytes := 64, zv := Value.agg { toList := [Value.slice none 0 0, Value.slice none 0 0, Value.int IntKind.i64 (Int.ofNat 0), Value.int IntKind.i64 (Int.ofNat 0)] }, kind := TK.struct [(0, 33), (2, 2), (3, 2)], cts := [(2, 1), (2, 1), (0, 0), (0, 0)], scal := false, psz := 0, zts := [T.nilS, T.nilS, T.c (C.int IntKind.i64 (Int.ofNat 0)), T.c (C.int IntKind.i64 (Int.ofNat 0))] } := by rfl
@[go_sem] theorem ty143 : tyI Try.prog 143 = some { size := 4, bytes := 64, zv := Value.agg { toList := [Value.slice none 0 0, Value.slice none 0 0, Value.int IntKind.i64 (Int.ofNat 0), Value.int IntKind.i64 (Int.ofNat 0)] }, kind := TK.struct [(0, 33), (2, 2), (3, 2)], cts := [(2, 1), (2, 1), (0, 0), (0, 0)], scal := false, psz := 0, zts := [T.nilS, T.nilS, T.c (C.int IntKind.i64 (Int.ofNat 0)), T.c (C.int IntKind.i64 (Int.ofNat 0))] } := by rfl
@[go_sem] theorem ty151 : tyI Try.prog 151 = some { size := 1, bytes := 8, zv := Value.pointer none, kind := TK.other, cts := [(0, 0), (2, 1), (2, 1)], scal := false, psz := 3, zts := [T.un] } := by rfl
@[go_sem] theorem ty157 : tyI Try.prog 157 = some { size := 4, bytes := 48, zv := Value.agg { toList := [Value.int IntKind.i64 (Int.ofNat 0), Value.int IntKind.i64 (Int.ofNat 0), Value.int IntKind.i64 (Int.ofNat 0), Value.slice none 0 0] }, kind := TK.struct [(0, 2), (1, 2), (2, 2), (3, 64)], cts := [(0, 0), (0, 0), (0, 0), (143, 4)], scal := false, psz := 0, zts := [T.c (C.int IntKind.i64 (Int.ofNat 0)), T.c (C.int IntKind.i64 (Int.ofNat 0)), T.c (C.int IntKind.i64 (Int.ofNat 0)), T.nilS] } := by rfl
@[go_sem] theorem ty158 : tyI Try.prog 158 = some { size := 4, bytes := 48, zv := Value.agg { toList := [Value.int IntKind.i64 (Int.ofNat 0), Value.int IntKind.i64 (Int.ofNat 0), Value.int IntKind.i64 (Int.ofNat 0), Value.slice none 0 0] }, kind := TK.struct [(0, 2), (1, 2), (2, 2), (3, 64)], cts := [(0, 0), (0, 0), (0, 0), (143, 4)], scal := false, psz := 0, zts := [T.c (C.int IntKind.i64 (Int.ofNat 0)), T.c (C.int IntKind.i64 (Int.ofNat 0)), T.c (C.int IntKind.i64 (Int.ofNat 0)), T.nilS] } := by rfl
@[go_sem] theorem ty160 : tyI Try.prog 160 = some { size := 1, bytes := 8, zv := Value.pointer none, kind := TK.other, cts := [(0, 0), (158, 4), (2, 1), (163, 2)], scal := false, psz := 4, zts := [T.un] } := by rfl
@[go_sem] theorem ty162 : tyI Try.prog 162 = some { size := 2, bytes := 32, zv := Value.agg { toList := [Value.int IntKind.i64 (Int.ofNat 0), Value.slice none 0 0] }, kind := TK.struct [(0, 2), (1, 22)], cts := [(0, 0), (2, 1)], scal := false, psz := 0, zts := [T.c (C.int IntKind.i64 (Int.ofNat 0)), T.nilS] } := by rfl
@[go_sem] theorem ty163 : tyI Try.prog 163 = some { size := 2, bytes := 32, zv := Value.agg { toList := [Value.int IntKind.i64 (Int.ofNat 0), Value.slice none 0 0] }, kind := TK.struct [(0, 2), (1, 22)], cts := [(0, 0), (2, 1)], scal := false, psz := 0, zts := [T.c (C.int IntKind.i64 (Int.ofNat 0)), T.nilS] } := by rfl
@[go_sem] theorem ty180 : tyI Try.prog 180 = some { size := 1, bytes := 8, zv := Value.pointer none, kind := TK.other, cts := [(0, 0), (2, 1), (2, 1), (2, 1), (0, 0), (128, 3), (107, 3)], scal := false, psz := 7, zts := [T.un] } := by rfl
@[go_sem] theorem ty184 : tyI Try.prog 184 = some { size := 9, bytes := 120, zv := Value.agg { toList := [Value.int IntKind.i64 (Int.ofNat 0), Value.int IntKind.i64 (Int.ofNat 0), Value.int IntKind.i64 (Int.ofNat 0), Value.slice none 0 0, Value.slice none 0 0, Value.slice none 0 0, Value.int IntKind.i64 (Int.ofNat 0), Value.int IntKind.i64 (Int.ofNat 0), Value.int IntKind.i64 (Int.ofNat 0)] }, kind := TK.struct [(0, 2), (1, 55)], cts := [(0, 0), (0, 0), (0, 0), (158, 4), (2, 1), (163, 2), (0, 0), (0, 0), (0, 0)], scal := false, psz := 0, zts := [T.c (C.int IntKind.i64 (Int.ofNat 0)), T.c (C.int IntKind.i64 (Int.ofNat 0)), T.c (C.int IntKind.i64 (Int.ofNat 0)), T.nilS, T.nilS, T.nilS, T.c (C.int IntKind.i64 (Int.ofNat 0)), T.c (C.int IntKind.i64 (Int.ofNat 0)), T.c (C.int IntKind.i64 (Int.ofNat 0))] } := by rfl
@[go_sem] theorem ty185 : tyI Try.prog 185 = some { size := 9, bytes := 120, zv := Value.agg { toList := [Value.int IntKind.i64 (Int.ofNat 0), Value.int IntKind.i64 (Int.ofNat 0), Value.int IntKind.i64 (Int.ofNat 0), Value.slice none 0 0, Value.slice none 0 0, Value.slice none 0 0, Value.int IntKind.i64 (Int.ofNat 0), Value.int IntKind.i64 (Int.ofNat 0), Value.int IntKind.i64 (Int.ofNat 0)] }, kind := TK.struct [(0, 2), (1, 55)], cts := [(0, 0), (0, 0), (0, 0), (158, 4), (2, 1), (163, 2), (0, 0), (0, 0), (0, 0)], scal := false, psz := 0, zts := [T.c (C.int IntKind.i64 (Int.ofNat 0)), T.c (C.int IntKind.i64 (Int.ofNat 0)), T.c (C.int IntKind.i64 (Int.ofNat 0)), T.nilS, T.nilS, T.nilS, T.c (C.int IntKind.i64 (Int.ofNat 0)), T.c (C.int IntKind.i64 (Int.ofNat 0)), T.c (C.int IntKind.i64 (Int.ofNat 0))] } := by rfl
@[go_sem] theorem ty192 : tyI Try.prog 192 = some { size := 3, bytes := 56, zv := Value.agg { toList := [Value.int IntKind.i64 (Int.ofNat 0), Value.slice none 0 0, Value.slice none 0 0] }, kind := TK.struct [(0, 2), (1, 24)], cts := [(0, 0), (2, 1), (2, 1)], scal := false, psz := 0, zts := [T.c (C.int IntKind.i64 (Int.ofNat 0)), T.nilS, T.nilS] } := by rfl
@[go_sem] theorem ty193 : tyI Try.prog 193 = some { size := 3, bytes := 56, zv := Value.agg { toList := [Value.int IntKind.i64 (Int.ofNat 0), Value.slice none 0 0, Value.slice none 0 0] }, kind := TK.struct [(0, 2), (1, 24)], cts := [(0, 0), (2, 1), (2, 1)], scal := false, psz := 0, zts := [T.c (C.int IntKind.i64 (Int.ofNat 0)), T.nilS, T.nilS] } := by rfl
@[go_sem] theorem ty205 : tyI Try.prog 205 = some { size := 3, bytes := 24, zv := Value.agg { toList := [Value.int IntKind.i64 (Int.ofNat 0), Value.int IntKind.i64 (Int.ofNat 0), Value.int IntKind.i64 (Int.ofNat 0)] }, kind := TK.struct [(0, 2), (1, 2), (2, 2)], cts := [(0, 0), (0, 0), (0, 0)], scal := true, psz := 0, zts := [T.c (C.int IntKind.i64 (Int.ofNat 0)), T.c (C.int IntKind.i64 (Int.ofNat 0)), T.c (C.int IntKind.i64 (Int.ofNat 0))] } := by rfl
@[go_sem] theorem ty211 : tyI Try.prog 211 = some { size := 1, bytes := 8, zv := Value.pointer none, kind := TK.other, cts := [(2, 1), (2, 1), (0, 0), (0, 0)], scal := false, psz := 4, zts := [T.un] } := by rfl
@[go_sem] theorem ty220 : tyI Try.prog 220 = some { size := 4, bytes := 48, zv := Value.agg { toList := [Value.int IntKind.i64 (Int.ofNat 0), Value.int IntKind.i64 (Int.ofNat 0), Value.int IntKind.i64 (Int.ofNat 0), Value.slice none 0 0] }, kind := TK.struct [(0, 2), (1, 2), (2, 2), (3, 58)], cts := [(0, 0), (0, 0), (0, 0), (136, 4)], scal := false, psz := 0, zts := [T.c (C.int IntKind.i64 (Int.ofNat 0)), T.c (C.int IntKind.i64 (Int.ofNat 0)), T.c (C.int IntKind.i64 (Int.ofNat 0)), T.nilS] } := by rfl
@[go_sem] theorem ty221 : tyI Try.prog 221 = some { size := 4, bytes := 48, zv := Value.agg { toList := [Value.int IntKind.i64 (Int.ofNat 0), Value.int IntKind.i64 (Int.ofNat 0), Value.int IntKind.i64 (Int.ofNat 0), Value.slice none 0 0] }, kind := TK.struct [(0, 2), (1, 2), (2, 2), (3, 58)], cts := [(0, 0), (0, 0), (0, 0), (136, 4)], scal := false, psz := 0, zts := [T.c (C.int IntKind.i64 (Int.ofNat 0)), T.c (C.int IntKind.i64 (Int.ofNat 0)), T.c (C.int IntKind.i64 (Int.ofNat 0)), T.nilS] } := by rfl
@[go_sem] theorem ty223 : tyI Try.prog 223 = some { size := 2, bytes := 32, zv := Value.agg { toList := [Value.int IntKind.i64 (Int.ofNat 0), Value.slice none 0 0] }, kind := TK.struct [(0, 2), (1, 22)], cts := [(0, 0), (2, 1)], scal := false, psz := 0, zts := [T.c (C.int IntKind.i64 (Int.ofNat 0)), T.nilS] } := by rfl
@[go_sem] theorem ty236 : tyI Try.prog 236 = some { size := 9, bytes := 152, zv := Value.agg { toList := [Value.int IntKind.i64 (Int.ofNat 0), Value.int IntKind.i64 (Int.ofNat 0), Value.slice none 0 0, Value.slice none 0 0, Value.int IntKind.i64 (Int.ofNat 0), Value.slice none 0 0, Value.slice none 0 0, Value.slice none 0 0, Value.int IntKind.i64 (Int.ofNat 0)] }, kind := TK.struct [(0, 2), (1, 193), (4, 26)], cts := [(0, 0), (0, 0), (2, 1), (2, 1), (0, 0), (2, 1), (2, 1), (2, 1), (0, 0)], scal := false, psz := 0, zts := [T.c (C.int IntKind.i64 (Int.ofNat 0)), T.c (C.int IntKind.i64 (Int.ofNat 0)), T.nilS, T.nilS, T.c (C.int IntKind.i64 (Int.ofNat 0)), T.nilS, T.nilS, T.nilS, T.c (C.int IntKind.i64 (Int.ofNat 0))] } := by rfl
@[go_sem] theorem ty237 : tyI Try.prog 237 = some { size := 9, bytes := 152, zv := Value.agg { toList := [Value.int IntKind.i64 (Int.ofNat 0), Value.int IntKind.i64 (Int.ofNat 0), Value.slice none 0 0, Value.slice none 0 0, Value.int IntKind.i64 (Int.ofNat 0), Value.slice none 0 0, Value.slice none 0 0, Value.slice none 0 0, Value.int IntKind.i64 (Int.ofNat 0)] }, kind := TK.struct [(0, 2), (1, 193), (4, 26)], cts := [(0, 0), (0, 0), (2, 1), (2, 1), (0, 0), (2, 1), (2, 1), (2, 1), (0, 0)], scal := false, psz := 0, zts := [T.c (C.int IntKind.i64 (Int.ofNat 0)), T.c (C.int IntKind.i64 (Int.ofNat 0)), T.nilS, T.nilS, T.c (C.int IntKind.i64 (Int.ofNat 0)), T.nilS, T.nilS, T.nilS, T.c (C.int IntKind.i64 (Int.ofNat 0))] } := by rfl
@[go_sem] theorem ty238 : tyI Try.prog 238 = some { size := 2, bytes := 32, zv := Value.agg { toList := [Value.int IntKind.i64 (Int.ofNat 0), Value.slice none 0 0] }, kind := TK.struct [(0, 2), (1, 28)], cts := [(0, 0), (193, 3)], scal := false, psz := 0, zts := [T.c (C.int IntKind.i64 (Int.ofNat 0)), T.nilS] } := by rfl
@[go_sem] theorem ty239 : tyI Try.prog 239 = some { size := 2, bytes := 32, zv := Value.agg { toList := [Value.int IntKind.i64 (Int.ofNat 0), Value.slice none 0 0] }, kind := TK.struct [(0, 2), (1, 28)], cts := [(0, 0), (193, 3)], scal := false, psz := 0, zts := [T.c (C.int IntKind.i64 (Int.ofNat 0)), T.nilS] } := by rfl
@[go_sem] theorem ty240 : tyI Try.prog 240 = some { size := 14, bytes := 208, zv := Value.agg { toList := [Value.int IntKind.i64 (Int.ofNat 0), Value.int IntKind.i64 (Int.ofNat 0), Value.int IntKind.i64 (Int.ofNat 0), Value.int IntKind.i64 (Int.ofNat 0), Value.int IntKind.i64 (Int.ofNat 0), Value.slice none 0 0, Value.slice none 0 0, Value.int IntKind.i64 (Int.ofNat 0), Value.slice none 0 0, Value.slice none 0 0, Value.slice none 0 0, Value.int IntKind.i64 (Int.ofNat 0), Value.int IntKind.i64 (Int.ofNat 0), Value.slice none 0 0] }, kind := TK.struct [(0, 2), (1, 2), (2, 2), (3, 237), (12, 239)], cts := [(0, 0), (0, 0), (0, 0), (0, 0), (0, 0), (2, 1), (2, 1), (0, 0), (2, 1), (2, 1), (2, 1), (0, 0), (0, 0), (193, 3)], scal := false, psz := 0, zts := [T.c (C.int IntKind.i64 (Int.ofNat 0)), T.c (C.int IntKind.i64 (Int.ofNat 0)), T.c (C.int IntKind.i64 (Int.ofNat 0)), T.c (C.int IntKind.i64 (Int.ofNat 0)), T.c (C.int IntKind.i64 (Int.ofNat 0)), T.nilS, T.nilS, T.c (C.int IntKind.i64 (Int.ofNat 0)), T.nilS, T.nilS, T.nilS, T.c (C.int IntKind.i64 (Int.ofNat 0)), T.c (C.int IntKind.i64 (Int.ofNat 0)), T.nilS] } := by rfl
@[go_sem] theorem ty241 : tyI Try.prog 241 = some { size := 14, bytes := 208, zv := Value.agg { toList := [Value.int IntKind.i64 (Int.ofNat 0), Value.int IntKind.i64 (Int.ofNat 0), Value.int IntKind.i64 (Int.ofNat 0), Value.int IntKind.i64 (Int.ofNat 0), Value.int IntKind.i64 (Int.ofNat 0), Value.slice none 0 0, Value.slice none 0 0, Value.int IntKind.i64 (Int.ofNat 0), Value.slice none 0 0, Value.slice none 0 0, Value.slice none 0 0, Value.int IntKind.i64 (Int.ofNat 0), Value.int IntKind.i64 (Int.ofNat 0), Value.slice none 0 0] }, kind := TK.struct [(0, 2), (1, 2), (2, 2), (3, 237), (12, 239)], cts := [(0, 0), (0, 0), (0, 0), (0, 0), (0, 0), (2, 1), (2, 1), (0, 0), (2, 1), (2, 1), (2, 1), (0, 0), (0, 0), (193, 3)], scal := false, psz := 0, zts := [T.c (C.int IntKind.i64 (Int.ofNat 0)), T.c (C.int IntKind.i64 (Int.ofNat 0)), T.c (C.int IntKind.i64 (Int.ofNat 0)), T.c (C.int IntKind.i64 (Int.ofNat 0)), T.c (C.int IntKind.i64 (Int.ofNat 0)), T.nilS, T.nilS, T.c (C.int IntKind.i64 (Int.ofNat 0)), T.nilS, T.nilS, T.nilS, T.c (C.int IntKind.i64 (Int.ofNat 0)), T.c (C.int IntKind.i64 (Int.ofNat 0)), T.nilS] } := by rfl
@[go_sem] theorem ty242 : tyI Try.prog 242 = some { size := 9, bytes := 152, zv := Value.agg { toList := [Value.int IntKind.i64 (Int.ofNat 0), Value.int IntKind.i64 (Int.ofNat 0), Value.slice none 0 0, Value.slice none 0 0, Value.int IntKind.i64 (Int.ofNat 0), Value.slice none 0 0, Value.slice none 0 0, Value.slice none 0 0, Value.int IntKind.i64 (Int.ofNat 0)] }, kind := TK.struct [(0, 2), (1, 107), (4, 35)], cts := [(0, 0), (0, 0), (2, 1), (2, 1), (0, 0), (2, 1), (2, 1), (2, 1), (0, 0)], scal := false, psz := 0, zts := [T.c (C.int IntKind.i64 (Int.ofNat 0)), T.c (C.int IntKind.i64 (Int.ofNat 0)), T.nilS, T.nilS, T.c (C.int IntKind.i64 (Int.ofNat 0)), T.nilS, T.nilS, T.nilS, T.c (C.int IntKind.i64 (Int.ofNat 0))] } := by rfl
@[go_sem] theorem ty243 : tyI Try.prog 243 = some { size := 9, bytes := 152, zv := Value.agg { toList := [Value.int IntKind.i64 (Int.ofNat 0), Value.int IntKind.i64 (Int.ofNat 0), Value.slice none 0 0, Value.slice none 0 0, Value.int IntKind.i64 (Int.ofNat 0), Value.slice none 0 0, Value.slice none 0 0, Value.slice none 0 0, Value.int IntKind.i64 (Int.ofNat 0)] }, kind := TK.struct [(0, 2), (1, 107), (4, 35)], cts := [(0, 0), (0, 0), (2, 1), (2, 1), (0, 0), (2, 1), (2, 1), (2, 1), (0, 0)], scal := false, psz := 0, zts := [T.c (C.int IntKind.i64 (Int.ofNat 0)), T.c (C.int IntKind.i64 (Int.ofNat 0)), T.nilS, T.nilS, T.c (C.int IntKind.i64 (Int.ofNat 0)), T.nilS, T.nilS, T.nilS, T.c (C.int IntKind.i64 (Int.ofNat 0))] } := by rfl
@[go_sem] theorem ty244 : tyI Try.prog 244 = some { size := 2, bytes := 32, zv := Value.agg { toList := [Value.int IntKind.i64 (Int.ofNat 0), Value.slice none 0 0] }, kind := TK.struct [(0, 2), (1, 37)], cts := [(0, 0), (107, 3)], scal := false, psz := 0, zts := [T.c (C.int IntKind.i64 (Int.ofNat 0)), T.nilS] } := by rfl
@[go_sem] theorem ty245 : tyI Try.prog 245 = some { size := 2, bytes := 32, zv := Value.agg { toList := [Value.int IntKind.i64 (Int.ofNat 0), Value.slice none 0 0] }, kind := TK.struct [(0, 2), (1, 37)], cts := [(0, 0), (107, 3)], scal := false, psz := 0, zts := [T.c (C.int IntKind.i64 (Int.ofNat 0)), T.nilS] } := by rfl
@[go_sem] theorem ty246 : tyI Try.prog 246 = some { size := 14, bytes := 208, zv := Value.agg { toList := [Value.int IntKind.i64 (Int.ofNat 0), Value.int IntKind.i64 (Int.ofNat 0), Value.int IntKind.i64 (Int.ofNat 0), Value.int IntKind.i64 (Int.ofNat 0), Value.int IntKind.i64 (Int.ofNat 0), Value.slice none 0 0, Value.slice none 0 0, Value.int IntKind.i64 (Int.ofNat 0), Value.slice none 0 0, Value.slice none 0 0, Value.slice none 0 0, Value.int IntKind.i64 (Int.ofNat 0), Value.int IntKind.i64 (Int.ofNat 0), Value.slice none 0 0] }, kind := TK.struct [(0, 2), (1, 2), (2, 2), (3, 243), (12, 245)], cts := [(0, 0), (0, 0), (0, 0), (0, 0), (0, 0), (2, 1), (2, 1), (0, 0), (2, 1), (2, 1), (2, 1), (0, 0), (0, 0), (107, 3)], scal := false, psz := 0, zts := [T.c (C.int IntKind.i64 (Int.ofNat 0)), T.c (C.int IntKind.i64 (Int.ofNat 0)), T.c (C.int IntKind.i64 (Int.ofNat 0)), T.c (C.int IntKind.i64 (Int.ofNat 0)), T.c (C.int IntKind.i64 (Int.ofNat 0)), T.nilS, T.nilS, T.c (C.int IntKind.i64 (Int.ofNat 0)), T.nilS, T.nilS, T.nilS, T.c (C.int IntKind.i64 (Int.ofNat 0)), T.c (C.int IntKind.i64 (Int.ofNat 0)), T.nilS] } := by rfl
@[go_sem] theorem ty247 : tyI Try.prog 247 = some { size := 14, bytes := 208, zv := Value.agg { toList := [Value.int IntKind.i64 (Int.ofNat 0), Value.int IntKind.i64 (Int.ofNat 0), Value.int IntKind.i64 (Int.ofNat 0), Value.int IntKind.i64 (Int.ofNat 0), Value.int IntKind.i64 (Int.ofNat 0), Value.slice none 0 0, Value.slice none 0 0, Value.int IntKind.i64 (Int.ofNat 0), Value.slice none 0 0, Value.slice none 0 0, Value.slice none 0 0, Value.int IntKind.i64 (Int.ofNat 0), Value.int IntKind.i64 (Int.ofNat 0), Value.slice none 0 0] }, kind := TK.struct [(0, 2), (1, 2), (2, 2), (3, 243), (12, 245)], cts := [(0, 0), (0, 0), (0, 0), (0, 0), (0, 0), (2, 1), (2, 1), (0, 0), (2, 1), (2, 1), (2, 1), (0, 0), (0, 0), (107, 3)], scal := false, psz := 0, zts := [T.c (C.int IntKind.i64 (Int.ofNat 0)), T.c (C.int IntKind.i64 (Int.ofNat 0)), T.c (C.int IntKind.i64 (Int.ofNat 0)), T.c (C.int IntKind.i64 (Int.ofNat 0)), T.c (C.int IntKind.i64 (Int.ofNat 0)), T.nilS, T.nilS, T.c (C.int IntKind.i64 (Int.ofNat 0)), T.nilS, T.nilS, T.nilS, T.c (C.int IntKind.i64 (Int.ofNat 0)), T.c (C.int IntKind.i64 (Int.ofNat 0)), T.nilS] } := by rfl
@[go_sem] theorem ty249 : tyI Try.prog 249 = some { size := 1, bytes := 8, zv := Value.pointer none, kind := TK.other, cts := [(0, 0), (0, 0), (2, 1), (2, 1), (0, 0), (2, 1), (2, 1), (2, 1), (0, 0)], scal := false, psz := 9, zts := [T.un] } := by rfl
@[go_sem] theorem ty273 : tyI Try.prog 273 = some { size := 1, bytes := 24, zv := Value.slice none 0 0, kind := TK.slice 3, cts := [(3, 1)], scal := false, psz := 0, zts := [T.nilS] } := by rfl
@[go_sem] theorem ty296 : tyI Try.prog 296 = some { size := 1, bytes := 8, zv := Value.int IntKind.u64 (Int.ofNat 0), kind := TK.int IntKind.u64, cts := [(0, 0)], scal := true, psz := 0, zts := [T.c (C.int IntKind.u64 (Int.ofNat 0))] } := by rfl
@[go_sem] theorem ty299 : tyI Try.prog 299 = some { size := 1, bytes := 8, zv := Value.pointer none, kind := TK.other, cts := [(0, 0), (0, 0), (0, 0), (143, 4)], scal := false, psz := 4, zts := [T.un] } := by rfl
@[go_sem] theorem ty301 : tyI Try.prog 301 = some { size := 1, bytes := 8, zv := Value.int IntKind.i64 (Int.ofNat 0), kind := TK.int IntKind.i64, cts := [(0, 0)], scal := true, psz := 0, zts := [T.c (C.int IntKind.i64 (Int.ofNat 0))] } := by rfl
@[go_sem] theorem ty309 : tyI Try.prog 309 = some { size := 1, bytes := 4, zv := Value.int IntKind.u32 (Int.ofNat 0), kind := TK.int IntKind.u32, cts := [(0, 0)], scal := true, psz := 0, zts := [T.c (C.int IntKind.u32 (Int.ofNat 0))] } := by rfl
@[go_sem] theorem ty311 : tyI Try.prog 311 = some { size := 1, bytes := 8, zv := Value.int IntKind.u64 (Int.ofNat 0), kind := TK.int IntKind.u64, cts := [(0, 0)], scal := true, psz := 0, zts := [T.c (C.int IntKind.u64 (Int.ofNat 0))] } := by rfl
@[go_sem] theorem ty314 : tyI Try.prog 314 = some { size := 1, bytes := 8, zv := Value.int IntKind.u64 (Int.ofNat 0), kind := TK.int IntKind.u64, cts := [(0, 0)], scal := true, psz := 0, zts := [T.c (C.int IntKind.u64 (Int.ofNat 0))] } := by rfl
theorem follows_of {fr : Fr} (hP : fr.P = Try.prog) : (envOf fr Try.prog).fr.P.follows .mixedOrders = true := by rw [envOf_fr, hP]; rfl

@[go_sem] abbrev aI (n : Int) : Arg := .d (false, [.int .i64 n])
@[go_sem] abbrev rI (n : Int) : List Dat := [(false, [.int .i64 n])]
@[go_sem] abbrev rB (b : Bool) : List Dat := [(false, [.bool b])]
/-- A slice of numbers, as an argument and as a result of its own. -/
@[go_sem] abbrev sI (xs : List Int) : C := .sl none 1 (xs.map eI)
@[go_sem] abbrev oI (xs : List Int) : C := .sl (some 2) 1 (xs.map eI)
@[go_sem] abbrev aL (xs : List Int) : Arg := .d (false, [sI xs])
@[go_sem] abbrev rL (xs : List Int) : List Dat := [(false, [oI xs])]
theorem bndL {xs : List Int} {gs : List Arg} (h : Args.bnd (aL xs :: gs)) : xs.length ≤ maxLen := by
  have := h.1.1.1; rwa [List.length_map] at this
theorem s_toInt64S (xs : List Int) (hx : xs.length ≤ 1048576) : Sat Try.prog 93 [aL xs] true (rL xs) := by
  refine sat_walk (fn := Try.f93) rfl rfl rfl (Nat.le_of_ble_eq_true rfl) fun fr hP hN hbnd => ?_
  have hE : (envOf fr Try.prog).Ok := envOf_ok hP
  have hM := follows_of hP
  have hS : ∀ {draw ops}, statB Try.f93.ntmps draw ops = true → statB (envOf fr Try.prog).fr.N draw ops = true := fun h => by rw [envOf_fr, hN]; exact h
  repeat' (first
    | exact True.intro
    | refine ev_seq ?_
    | ((first | refine vgd_go ?_ | refine ev_region hE hM (hS (by decide +kernel)) ?_ | refine ev_if ?_ | refine end_ret hE rfl rfl ?_ | refine end_norm hE rfl rfl ?_ | refine endG_ret [] hE rfl ?_ | refine endG_norm [] hE rfl ?_ | refine vcall_A ?_); simp (maxSteps := 2000000) only [go_sem, hP, ↓reduceIte, Nat.reduceAdd, Nat.reduceMul, Nat.reduceEqDiff, Nat.reduceSub, Nat.reduceLeDiff, reduceCtorEq])
    | refine ev_skip ?_ | refine ev_block ?_ | refine ev_blk ?_ | refine ev_ret ?_ | refine ev_exit ?_ | refine evx_code_ret ?_ | refine evx_blk_ret ?_ | refine evx_lp_ret ?_
    | refine evx_code_exit ?_ | refine evx_lp_exit ?_ | refine evx_blk_hit ?_ | refine evx_blk_pass (by decide) ?_
    | refine And.intro ?_ ?_ | intro _ | decide +kernel | omega)
  refine ev_loop (ι := Nat) (fun k => [(0, .c (sI xs)), (3, .ref 4112), (4, .c (.int .i64 k))]) (fun k => [(4112, .arr true 2 1 ((mix xs 0 k).map eI))]) (fun _ => []) (fun k => k ≤ xs.length) (fun k => xs.length - k) 0 [] (by simp) (by simp only [go_sem, hP, ↓reduceIte, Nat.reduceAdd, Nat.reduceMul, Nat.reduceEqDiff, Nat.reduceSub, Nat.reduceLeDiff, reduceCtorEq]; simp [mix_zero, eI]) ?_
  intro k hk
  repeat' (first
    | exact True.intro
    | refine ev_seq ?_
    | ((first | refine vgd_go ?_ | refine ev_region hE hM (hS (by decide +kernel)) ?_ | refine ev_if ?_ | refine end_ret hE rfl rfl ?_ | refine end_norm hE rfl rfl ?_ | refine endG_ret [] hE rfl ?_ | refine endG_norm [] hE rfl ?_ | refine vcall_A ?_); simp (maxSteps := 2000000) only [go_sem, hP, ↓reduceIte, Nat.reduceAdd, Nat.reduceMul, Nat.reduceEqDiff, Nat.reduceSub, Nat.reduceLeDiff, reduceCtorEq, mix_length hk])
    | refine ev_skip ?_ | refine ev_block ?_ | refine ev_blk ?_ | refine ev_ret ?_ | refine ev_exit ?_ | refine evx_code_ret ?_ | refine evx_blk_ret ?_ | refine evx_lp_ret ?_
    | refine evx_code_exit ?_ | refine evx_lp_exit ?_ | refine evx_blk_hit ?_ | refine evx_blk_pass (by decide) ?_
    | refine And.intro ?_ ?_ | intro _ | decide +kernel | omega)
  · exact ev_lp (k + 1) [] (by omega) (by omega) (by simp only [go_sem, hP, ↓reduceIte, Nat.reduceAdd, Nat.reduceMul, Nat.reduceEqDiff, Nat.reduceSub, Nat.reduceLeDiff, reduceCtorEq]; simp; exact ⟨wrap_succ (by omega) hx, mix_set_map (f := eI) (by omega)⟩)
  · rw [mix_full (by omega)]
theorem s_eqInt64S (xs ys : List Int) : Sat Try.prog 98 [aL xs, aL ys] true (rB (decide (xs = ys))) := by
  refine sat_walk (fn := Try.f98) rfl rfl rfl (Nat.le_of_ble_eq_true rfl) fun fr hP hN hbnd => ?_
  have hE : (envOf fr Try.prog).Ok := envOf_ok hP
  have hM := follows_of hP
  have hS : ∀ {draw ops}, statB Try.f98.ntmps draw ops = true → statB (envOf fr Try.prog).fr.N draw ops = true := fun h => by rw [envOf_fr, hN]; exact h
  have hlen := bndL hbnd
  repeat' (first
    | exact True.intro
    | refine ev_seq ?_
    | ((first | refine vgd_go ?_ | refine ev_region hE hM (hS (by decide +kernel)) ?_ | refine ev_if ?_ | refine end_ret hE rfl rfl ?_ | refine end_norm hE rfl rfl ?_ | refine endG_ret [] hE rfl ?_ | refine endG_norm [] hE rfl ?_ | refine vcall_A ?_); simp (maxSteps := 2000000) only [go_sem, hP, ↓reduceIte, Nat.reduceAdd, Nat.reduceMul, Nat.reduceEqDiff, Nat.reduceSub, Nat.reduceLeDiff, reduceCtorEq])
    | refine ev_skip ?_ | refine ev_block ?_ | refine ev_blk ?_ | refine ev_ret ?_ | refine ev_exit ?_ | refine evx_code_ret ?_ | refine evx_blk_ret ?_ | refine evx_lp_ret ?_
    | refine evx_code_exit ?_ | refine evx_lp_exit ?_ | refine evx_blk_hit ?_ | refine evx_blk_pass (by decide) ?_
    | refine And.intro ?_ ?_ | intro _ | decide +kernel | omega)
  · rename_i h; simp at h; simp; rintro rfl; exact h rfl
  rename_i h; simp at h
  refine ev_loop (ι := Nat) (fun k => [(0, .c (sI xs)), (1, .c (sI ys)), (5, .c (.int .i64 k))]) (fun k => []) (fun _ => []) (fun k => k ≤ xs.length ∧ xs.take k = ys.take k) (fun k => xs.length - k) 0 [] (by simp) (by simp only [go_sem, hP, ↓reduceIte, Nat.reduceAdd, Nat.reduceMul, Nat.reduceEqDiff, Nat.reduceSub, Nat.reduceLeDiff, reduceCtorEq]; simp) ?_
  intro k hk
  repeat' (first
    | exact True.intro
    | refine ev_seq ?_
    | ((first | refine vgd_go ?_ | refine ev_region hE hM (hS (by decide +kernel)) ?_ | refine ev_if ?_ | refine end_ret hE rfl rfl ?_ | refine end_norm hE rfl rfl ?_ | refine endG_ret [] hE rfl ?_ | refine endG_norm [] hE rfl ?_ | refine vcall_A ?_); simp (maxSteps := 2000000) only [go_sem, hP, ↓reduceIte, Nat.reduceAdd, Nat.reduceMul, Nat.reduceEqDiff, Nat.reduceSub, Nat.reduceLeDiff, reduceCtorEq])
    | refine ev_skip ?_ | refine ev_block ?_ | refine ev_blk ?_ | refine ev_ret ?_ | refine ev_exit ?_ | refine evx_code_ret ?_ | refine evx_blk_ret ?_ | refine evx_lp_ret ?_
    | refine evx_code_exit ?_ | refine evx_lp_exit ?_ | refine evx_blk_hit ?_ | refine evx_blk_pass (by decide) ?_
    | refine And.intro ?_ ?_ | intro _ | decide +kernel | omega)
  · rename_i h3; simp at h3; simp; exact eq_not h3
  · rename_i h3 h4; simp at h4
    exact ev_lp (k + 1) [] ⟨by omega, eq_step (d := default) (e := default) (by omega) (by omega) hk.2 (by simpa using h4)⟩ (by omega) (by simp only [go_sem, hP, ↓reduceIte, Nat.reduceAdd, Nat.reduceMul, Nat.reduceEqDiff, Nat.reduceSub, Nat.reduceLeDiff, reduceCtorEq]; simp; exact wrap_nat (by omega) hlen)
  · simp; exact eq_done (by omega) (by omega) hk.2
/-- What is left of a bulk behind a count; below 0: none. -/
def lessN (n : Nat) (left : Int) : Int := if left - n < 0 then -1 else left - n
theorem s_szInt64S (xs : List Int) (left : Int) (h0 : 0 ≤ left) (h1 : left ≤ 1048576) : Sat Try.prog 88 [aL xs, aI left] true (rI (lessN xs.length left)) := by
  refine sat_walk (fn := Try.f88) rfl rfl rfl (Nat.le_of_ble_eq_true rfl) fun fr hP hN hbnd => ?_
  have hE : (envOf fr Try.prog).Ok := envOf_ok hP
  have hM := follows_of hP
  have hS : ∀ {draw ops}, statB Try.f88.ntmps draw ops = true → statB (envOf fr Try.prog).fr.N draw ops = true := fun h => by rw [envOf_fr, hN]; exact h
  have hlen := bndL hbnd
  have hm : maxLen = 9223372036854775807 := rfl
  have hw : IntKind.i64.wrap (left - xs.length) = left - xs.length := i64_in _ (by omega)
  repeat' (first
    | exact True.intro
    | refine ev_seq ?_
    | ((first | refine vgd_go ?_ | refine ev_region hE hM (hS (by decide +kernel)) ?_ | refine ev_if ?_ | refine end_ret hE rfl rfl ?_ | refine end_norm hE rfl rfl ?_ | refine endG_ret [] hE rfl ?_ | refine endG_norm [] hE rfl ?_ | refine vcall_A ?_); simp (maxSteps := 2000000) only [go_sem, hP, ↓reduceIte, Nat.reduceAdd, Nat.reduceMul, Nat.reduceEqDiff, Nat.reduceSub, Nat.reduceLeDiff, reduceCtorEq, hw])
    | refine ev_skip ?_ | refine ev_block ?_ | refine ev_blk ?_ | refine ev_ret ?_ | refine ev_exit ?_ | refine evx_code_ret ?_ | refine evx_blk_ret ?_ | refine evx_lp_ret ?_
    | refine evx_code_exit ?_ | refine evx_lp_exit ?_ | refine evx_blk_hit ?_ | refine evx_blk_pass (by decide) ?_
    | refine And.intro ?_ ?_ | intro _ | decide +kernel | omega)
  all_goals simp_all [lessN] <;> omega
structure Rect where
  low : List Int
  high : List Int
  deriving DecidableEq, Inhabited
@[go_sem] abbrev cR (r : Rect) : List C := [sI r.low, sI r.high]
@[go_sem] abbrev oR (r : Rect) : List C := [oI r.low, oI r.high]
@[go_sem] abbrev aR (r : Rect) : Arg := .d (true, cR r)
@[go_sem] abbrev pR (r : Rect) : Arg := .pv (cR r)
@[go_sem] abbrev rR (r : Rect) : List Dat := [(true, oR r)]
theorem bndR {r : Rect} {gs : List Arg} (h : Args.bnd (aR r :: gs)) : r.low.length ≤ maxLen ∧ r.high.length ≤ maxLen := by
  have h1 := h.1.1.1; have h2 := h.1.2.1.1
  rw [List.length_map] at h1 h2; exact ⟨h1, h2⟩
theorem bndPR {r : Rect} {gs : List Arg} (h : Args.bnd (pR r :: gs)) : r.low.length ≤ maxLen ∧ r.high.length ≤ maxLen := by
  have h1 := h.1.1.1; have h2 := h.1.2.1.1
  rw [List.length_map] at h1 h2; exact ⟨h1, h2⟩
theorem eqR (a b : Rect) : a = b ↔ a.low = b.low ∧ a.high = b.high := by cases a; cases b; simp
def wR (r : Rect) : Nat := r.low.length + r.high.length
theorem s_szRect (r : Rect) (left : Int) (h0 : 0 ≤ left) (h1 : left ≤ 1048576) : Sat Try.prog 26 [aR r, aI left] true (rI (lessN (wR r) left)) := by
  refine sat_walk (fn := Try.f26) rfl rfl rfl (Nat.le_of_ble_eq_true rfl) fun fr hP hN hbnd => ?_
  have hE : (envOf fr Try.prog).Ok := envOf_ok hP
  have hM := follows_of hP
  have hS : ∀ {draw ops}, statB Try.f26.ntmps draw ops = true → statB (envOf fr Try.prog).fr.N draw ops = true := fun h => by rw [envOf_fr, hN]; exact h
  have hl := bndR hbnd
  repeat' (first
    | exact True.intro
    | refine ev_seq ?_
    | ((first | refine vgd_go ?_ | refine ev_region hE hM (hS (by decide +kernel)) ?_ | refine ev_if ?_ | refine end_ret hE rfl rfl ?_ | refine end_norm hE rfl rfl ?_ | refine endG_ret [] hE rfl ?_ | refine endG_norm [] hE rfl ?_ | refine vcallB_of hP (s_szInt64S _ _ h0 h1) ?_ | refine vcallB_of hP (s_szInt64S _ _ (by simp only [lessN] at *; omega) (by simp only [lessN] at *; omega)) ?_ | refine vcall_A ?_); simp (maxSteps := 2000000) only [go_sem, hP, ↓reduceIte, Nat.reduceAdd, Nat.reduceMul, Nat.reduceEqDiff, Nat.reduceSub, Nat.reduceLeDiff, reduceCtorEq])
    | refine ev_skip ?_ | refine ev_block ?_ | refine ev_blk ?_ | refine ev_ret ?_ | refine ev_exit ?_ | refine evx_code_ret ?_ | refine evx_blk_ret ?_ | refine evx_lp_ret ?_
    | refine evx_code_exit ?_ | refine evx_lp_exit ?_ | refine evx_blk_hit ?_ | refine evx_blk_pass (by decide) ?_
    | refine And.intro ?_ ?_ | intro _ | decide +kernel | omega)
  all_goals simp_all only [lessN, wR]
  all_goals omega
theorem s_toRect (r : Rect) (h : wR r ≤ 1048576) : Sat Try.prog 29 [aR r] true (rR r) := by
  refine sat_walk (fn := Try.f29) rfl rfl rfl (Nat.le_of_ble_eq_true rfl) fun fr hP hN hbnd => ?_
  have hE : (envOf fr Try.prog).Ok := envOf_ok hP
  have hM := follows_of hP
  have hS : ∀ {draw ops}, statB Try.f29.ntmps draw ops = true → statB (envOf fr Try.prog).fr.N draw ops = true := fun h => by rw [envOf_fr, hN]; exact h
  have hw : r.low.length ≤ 1048576 ∧ r.high.length ≤ 1048576 := by simp only [wR] at h; omega
  repeat' (first
    | exact True.intro
    | refine ev_seq ?_
    | ((first | refine vgd_go ?_ | refine ev_region hE hM (hS (by decide +kernel)) ?_ | refine ev_if ?_ | refine end_ret hE rfl rfl ?_ | refine end_norm hE rfl rfl ?_ | refine endG_ret [] hE rfl ?_ | refine endG_norm [] hE rfl ?_ | refine vcallB_of hP (s_toInt64S _ hw.1) ?_ | refine vcallB_of hP (s_toInt64S _ hw.2) ?_ | refine vcall_A ?_); simp (maxSteps := 2000000) only [go_sem, hP, ↓reduceIte, Nat.reduceAdd, Nat.reduceMul, Nat.reduceEqDiff, Nat.reduceSub, Nat.reduceLeDiff, reduceCtorEq])
    | refine ev_skip ?_ | refine ev_block ?_ | refine ev_blk ?_ | refine ev_ret ?_ | refine ev_exit ?_ | refine evx_code_ret ?_ | refine evx_blk_ret ?_ | refine evx_lp_ret ?_
    | refine evx_code_exit ?_ | refine evx_lp_exit ?_ | refine evx_blk_hit ?_ | refine evx_blk_pass (by decide) ?_
    | refine And.intro ?_ ?_ | intro _ | decide +kernel | omega)
theorem s_eqRect (a b : Rect) : Sat Try.prog 33 [aR a, aR b] true (rB (decide (a = b))) := by
  refine sat_walk (fn := Try.f33) rfl rfl rfl (Nat.le_of_ble_eq_true rfl) fun fr hP hN hbnd => ?_
  have hE : (envOf fr Try.prog).Ok := envOf_ok hP
  have hM := follows_of hP
  have hS : ∀ {draw ops}, statB Try.f33.ntmps draw ops = true → statB (envOf fr Try.prog).fr.N draw ops = true := fun h => by rw [envOf_fr, hN]; exact h
  repeat' (first
    | exact True.intro
    | refine ev_seq ?_
    | ((first | refine vgd_go ?_ | refine ev_region hE hM (hS (by decide +kernel)) ?_ | refine ev_if ?_ | refine end_ret hE rfl rfl ?_ | refine end_norm hE rfl rfl ?_ | refine endG_ret [] hE rfl ?_ | refine endG_norm [] hE rfl ?_ | refine vcallB_of hP (s_eqInt64S _ _) ?_ | refine vcall_A ?_); simp (maxSteps := 2000000) only [go_sem, hP, ↓reduceIte, Nat.reduceAdd, Nat.reduceMul, Nat.reduceEqDiff, Nat.reduceSub, Nat.reduceLeDiff, reduceCtorEq])
    | refine ev_skip ?_ | refine ev_block ?_ | refine ev_blk ?_ | refine ev_ret ?_ | refine ev_exit ?_ | refine evx_code_ret ?_ | refine evx_blk_ret ?_ | refine evx_lp_ret ?_
    | refine evx_code_exit ?_ | refine evx_lp_exit ?_ | refine evx_blk_hit ?_ | refine evx_blk_pass (by decide) ?_
    | refine And.intro ?_ ?_ | intro _ | decide +kernel | omega)
  all_goals simp_all [eqR]
theorem s_l1Same (xs ys : List Int) : Sat Try.prog 126 [aL xs, aL ys] true (rB (decide (xs = ys))) := by
  refine sat_walk (fn := Try.f126) rfl rfl rfl (Nat.le_of_ble_eq_true rfl) fun fr hP hN hbnd => ?_
  have hE : (envOf fr Try.prog).Ok := envOf_ok hP
  have hM := follows_of hP
  have hS : ∀ {draw ops}, statB Try.f126.ntmps draw ops = true → statB (envOf fr Try.prog).fr.N draw ops = true := fun h => by rw [envOf_fr, hN]; exact h
  have hlen := bndL hbnd
  repeat' (first
    | exact True.intro
    | refine ev_seq ?_
    | ((first | refine vgd_go ?_ | refine ev_region hE hM (hS (by decide +kernel)) ?_ | refine ev_if ?_ | refine end_ret hE rfl rfl ?_ | refine end_norm hE rfl rfl ?_ | refine endG_ret [] hE rfl ?_ | refine endG_norm [] hE rfl ?_ | refine vcall_A ?_); simp (maxSteps := 2000000) only [go_sem, hP, ↓reduceIte, Nat.reduceAdd, Nat.reduceMul, Nat.reduceEqDiff, Nat.reduceSub, Nat.reduceLeDiff, reduceCtorEq])
    | refine ev_skip ?_ | refine ev_block ?_ | refine ev_blk ?_ | refine ev_ret ?_ | refine ev_exit ?_ | refine evx_code_ret ?_ | refine evx_blk_ret ?_ | refine evx_lp_ret ?_
    | refine evx_code_exit ?_ | refine evx_lp_exit ?_ | refine evx_blk_hit ?_ | refine evx_blk_pass (by decide) ?_
    | refine And.intro ?_ ?_ | intro _ | decide +kernel | omega)
  · rename_i h; simp at h; simp; rintro rfl; exact h rfl
  rename_i h; simp at h
  refine ev_loop (ι := Nat) (fun k => [(0, .c (sI xs)), (1, .c (sI ys)), (5, .c (.int .i64 k))]) (fun k => []) (fun _ => []) (fun k => k ≤ xs.length ∧ xs.take k = ys.take k) (fun k => xs.length - k) 0 [] (by simp) (by simp only [go_sem, hP, ↓reduceIte, Nat.reduceAdd, Nat.reduceMul, Nat.reduceEqDiff, Nat.reduceSub, Nat.reduceLeDiff, reduceCtorEq]; simp) ?_
  intro k hk
  repeat' (first
    | exact True.intro
    | refine ev_seq ?_
    | ((first | refine vgd_go ?_ | refine ev_region hE hM (hS (by decide +kernel)) ?_ | refine ev_if ?_ | refine end_ret hE rfl rfl ?_ | refine end_norm hE rfl rfl ?_ | refine endG_ret [] hE rfl ?_ | refine endG_norm [] hE rfl ?_ | refine vcall_A ?_); simp (maxSteps := 2000000) only [go_sem, hP, ↓reduceIte, Nat.reduceAdd, Nat.reduceMul, Nat.reduceEqDiff, Nat.reduceSub, Nat.reduceLeDiff, reduceCtorEq])
    | refine ev_skip ?_ | refine ev_block ?_ | refine ev_blk ?_ | refine ev_ret ?_ | refine ev_exit ?_ | refine evx_code_ret ?_ | refine evx_blk_ret ?_ | refine evx_lp_ret ?_
    | refine evx_code_exit ?_ | refine evx_lp_exit ?_ | refine evx_blk_hit ?_ | refine evx_blk_pass (by decide) ?_
    | refine And.intro ?_ ?_ | intro _ | decide +kernel | omega)
  · rename_i h3; simp at h3; simp; exact eq_not h3
  · rename_i h3 h4; simp at h4
    exact ev_lp (k + 1) [] ⟨by omega, eq_step (d := default) (e := default) (by omega) (by omega) hk.2 (by simpa using h4)⟩ (by omega) (by simp only [go_sem, hP, ↓reduceIte, Nat.reduceAdd, Nat.reduceMul, Nat.reduceEqDiff, Nat.reduceSub, Nat.reduceLeDiff, reduceCtorEq]; simp; exact wrap_nat (by omega) hlen)
  · simp; exact eq_done (by omega) (by omega) hk.2
theorem s_EqualI (xs ys : List Int) : Sat Try.prog 80 [aL xs, aL ys] true (rB (decide (xs = ys))) := by
  refine sat_walk (fn := Try.f80) rfl rfl rfl (Nat.le_of_ble_eq_true rfl) fun fr hP hN hbnd => ?_
  have hE : (envOf fr Try.prog).Ok := envOf_ok hP
  have hM := follows_of hP
  have hS : ∀ {draw ops}, statB Try.f80.ntmps draw ops = true → statB (envOf fr Try.prog).fr.N draw ops = true := fun h => by rw [envOf_fr, hN]; exact h
  have hlen := bndL hbnd
  repeat' (first
    | exact True.intro
    | refine ev_seq ?_
    | ((first | refine vgd_go ?_ | refine ev_region hE hM (hS (by decide +kernel)) ?_ | refine ev_if ?_ | refine end_ret hE rfl rfl ?_ | refine end_norm hE rfl rfl ?_ | refine endG_ret [] hE rfl ?_ | refine endG_norm [] hE rfl ?_ | refine vcall_A ?_); simp (maxSteps := 2000000) only [go_sem, hP, ↓reduceIte, Nat.reduceAdd, Nat.reduceMul, Nat.reduceEqDiff, Nat.reduceSub, Nat.reduceLeDiff, reduceCtorEq])
    | refine ev_skip ?_ | refine ev_block ?_ | refine ev_blk ?_ | refine ev_ret ?_ | refine ev_exit ?_ | refine evx_code_ret ?_ | refine evx_blk_ret ?_ | refine evx_lp_ret ?_
    | refine evx_code_exit ?_ | refine evx_lp_exit ?_ | refine evx_blk_hit ?_ | refine evx_blk_pass (by decide) ?_
    | refine And.intro ?_ ?_ | intro _ | decide +kernel | omega)
  · rename_i h; simp at h; simp; rintro rfl; exact h rfl
  rename_i h; simp at h
  refine ev_loop (ι := Nat) (fun k => [(0, .c (sI xs)), (1, .c (sI ys)), (12, .c (.int .i64 xs.length)), (13, .c (.int .i64 k))]) (fun k => []) (fun _ => []) (fun k => k ≤ xs.length ∧ xs.take k = ys.take k) (fun k => xs.length - k) 0 [] (by simp) (by simp only [go_sem, hP, ↓reduceIte, Nat.reduceAdd, Nat.reduceMul, Nat.reduceEqDiff, Nat.reduceSub, Nat.reduceLeDiff, reduceCtorEq]; simp) ?_
  intro k hk
  repeat' (first
    | exact True.intro
    | refine ev_seq ?_
    | ((first | refine vgd_go ?_ | refine ev_region hE hM (hS (by decide +kernel)) ?_ | refine ev_if ?_ | refine end_ret hE rfl rfl ?_ | refine end_norm hE rfl rfl ?_ | refine endG_ret [] hE rfl ?_ | refine endG_norm [] hE rfl ?_ | refine vcall_A ?_); simp (maxSteps := 2000000) only [go_sem, hP, ↓reduceIte, Nat.reduceAdd, Nat.reduceMul, Nat.reduceEqDiff, Nat.reduceSub, Nat.reduceLeDiff, reduceCtorEq])
    | refine ev_skip ?_ | refine ev_block ?_ | refine ev_blk ?_ | refine ev_ret ?_ | refine ev_exit ?_ | refine evx_code_ret ?_ | refine evx_blk_ret ?_ | refine evx_lp_ret ?_
    | refine evx_code_exit ?_ | refine evx_lp_exit ?_ | refine evx_blk_hit ?_ | refine evx_blk_pass (by decide) ?_
    | refine And.intro ?_ ?_ | intro _ | decide +kernel | omega)
  · rename_i h3; simp at h3; simp; exact eq_not h3
  · rename_i h3 h4; simp at h4
    exact ev_lp (k + 1) [] ⟨by omega, eq_step (d := default) (e := default) (by omega) (by omega) hk.2 (by simpa using h4)⟩ (by omega) (by simp only [go_sem, hP, ↓reduceIte, Nat.reduceAdd, Nat.reduceMul, Nat.reduceEqDiff, Nat.reduceSub, Nat.reduceLeDiff, reduceCtorEq]; simp; exact wrap_nat (by omega) hlen)
  · simp; exact eq_done (by omega) (by omega) hk.2
theorem s_specSameRects (a b : Rect) : Sat Try.prog 165 [aR a, aR b] true (rB (decide (a = b))) := by
  refine sat_walk (fn := Try.f165) rfl rfl rfl (Nat.le_of_ble_eq_true rfl) fun fr hP hN hbnd => ?_
  have hE : (envOf fr Try.prog).Ok := envOf_ok hP
  have hM := follows_of hP
  have hS : ∀ {draw ops}, statB Try.f165.ntmps draw ops = true → statB (envOf fr Try.prog).fr.N draw ops = true := fun h => by rw [envOf_fr, hN]; exact h
  repeat' (first
    | exact True.intro
    | refine ev_seq ?_
    | ((first | refine vgd_go ?_ | refine ev_region hE hM (hS (by decide +kernel)) ?_ | refine ev_if ?_ | refine end_ret hE rfl rfl ?_ | refine end_norm hE rfl rfl ?_ | refine endG_ret [] hE rfl ?_ | refine endG_norm [] hE rfl ?_ | refine vcallB_of hP (s_l1Same _ _) ?_ | refine vcall_A ?_); simp (maxSteps := 2000000) only [go_sem, hP, ↓reduceIte, Nat.reduceAdd, Nat.reduceMul, Nat.reduceEqDiff, Nat.reduceSub, Nat.reduceLeDiff, reduceCtorEq])
    | refine ev_skip ?_ | refine ev_block ?_ | refine ev_blk ?_ | refine ev_ret ?_ | refine ev_exit ?_ | refine evx_code_ret ?_ | refine evx_blk_ret ?_ | refine evx_lp_ret ?_
    | refine evx_code_exit ?_ | refine evx_lp_exit ?_ | refine evx_blk_hit ?_ | refine evx_blk_pass (by decide) ?_
    | refine And.intro ?_ ?_ | intro _ | decide +kernel | omega)
  all_goals simp_all [eqR]
theorem s_implSameRects (a b : Rect) : Sat Try.prog 79 [aR a, aR b] true (rB (decide (a = b))) := by
  refine sat_walk (fn := Try.f79) rfl rfl rfl (Nat.le_of_ble_eq_true rfl) fun fr hP hN hbnd => ?_
  have hE : (envOf fr Try.prog).Ok := envOf_ok hP
  have hM := follows_of hP
  have hS : ∀ {draw ops}, statB Try.f79.ntmps draw ops = true → statB (envOf fr Try.prog).fr.N draw ops = true := fun h => by rw [envOf_fr, hN]; exact h
  repeat' (first
    | exact True.intro
    | refine ev_seq ?_
    | ((first | refine vgd_go ?_ | refine ev_region hE hM (hS (by decide +kernel)) ?_ | refine ev_if ?_ | refine end_ret hE rfl rfl ?_ | refine end_norm hE rfl rfl ?_ | refine endG_ret [] hE rfl ?_ | refine endG_norm [] hE rfl ?_ | refine vcallB_of hP (s_EqualI _ _) ?_ | refine vcall_A ?_); simp (maxSteps := 2000000) only [go_sem, hP, ↓reduceIte, Nat.reduceAdd, Nat.reduceMul, Nat.reduceEqDiff, Nat.reduceSub, Nat.reduceLeDiff, reduceCtorEq])
    | refine ev_skip ?_ | refine ev_block ?_ | refine ev_blk ?_ | refine ev_ret ?_ | refine ev_exit ?_ | refine evx_code_ret ?_ | refine evx_blk_ret ?_ | refine evx_lp_ret ?_
    | refine evx_code_exit ?_ | refine evx_lp_exit ?_ | refine evx_blk_hit ?_ | refine evx_blk_pass (by decide) ?_
    | refine And.intro ?_ ?_ | intro _ | decide +kernel | omega)
  all_goals simp_all [eqR]
theorem shp_R {n t : Nat} {cs : List C} (ht : (Try.prog.underlying t).bind fieldTs = some [22, 22]) (h : shp Try.prog (n + 3) t cs) : ∃ r, cs = cR r := by
  obtain ⟨x, y, rfl, h1, z, w, rfl, h2, rfl⟩ := shp_struct ht h
  obtain ⟨xs, rfl, _⟩ := shp_ints (n := n) (e := 2) rfl rfl rfl h1
  obtain ⟨ys, rfl, _⟩ := shp_ints (n := n) (e := 2) rfl rfl rfl h2
  exact ⟨⟨xs, ys⟩, rfl⟩
/-- The weights of all of a list. -/
def sumW {α : Type} (w : α → Nat) (xs : List α) : Nat := (xs.map w).sum
theorem sumW_step {α : Type} {w : α → Nat} {xs : List α} {k : Nat} {d : α} (h : k < xs.length) : sumW w (xs.take (k + 1)) = sumW w (xs.take k) + w (xs.getD k d) := by
  unfold sumW; rw [take_step (d := d) h]; simp
theorem sumW_le {α : Type} {w : α → Nat} {xs : List α} (k : Nat) : sumW w (xs.take k) ≤ sumW w xs := by
  unfold sumW
  conv => rhs; rw [← List.take_append_drop k xs]
  rw [List.map_append, List.sum_append]; omega
theorem sumW_get {α : Type} {w : α → Nat} {xs : List α} {k : Nat} {d : α} (h : k < xs.length) : w (xs.getD k d) ≤ sumW w xs := by
  have h1 := sumW_step (w := w) (d := d) h
  have h2 := sumW_le (w := w) (xs := xs) (k + 1)
  omega
theorem sumW_done {α : Type} {w : α → Nat} {xs : List α} {k : Nat} (h : xs.length ≤ k) : sumW w (xs.take k) = sumW w xs := by rw [List.take_of_length_le h]
@[simp] theorem sumW_nil {α : Type} {w : α → Nat} : sumW w [] = 0 := rfl
theorem sumW_zero {α : Type} {w : α → Nat} {xs : List α} : sumW w (xs.take 0) = 0 := rfl
structure Entry where
  rect : Rect
  ref : Int
  nsn : Int
  deriving DecidableEq, Inhabited
def eEntry (x : Entry) : List C := [sI x.rect.low, sI x.rect.high, .int .i64 x.ref, .int .i64 x.nsn]
def oEntry (x : Entry) : List C := [oI x.rect.low, oI x.rect.high, .int .i64 x.ref, .int .i64 x.nsn]
@[go_sem] theorem eEntry_eq (x : Entry) : eEntry x = [sI x.rect.low, sI x.rect.high, .int .i64 x.ref, .int .i64 x.nsn] := rfl
@[go_sem] theorem oEntry_eq (x : Entry) : oEntry x = [oI x.rect.low, oI x.rect.high, .int .i64 x.ref, .int .i64 x.nsn] := rfl
theorem stripC_oEntry (x : Entry) : Cs.strip (oEntry x) = eEntry x := by simp [oEntry, eEntry, Cs.strip, C.strip, strip_eI]
theorem stripC_eEntry (x : Entry) : Cs.strip (eEntry x) = eEntry x := by simp [eEntry, Cs.strip, C.strip, strip_eI]
@[go_sem] theorem strip_oEntry (xs : List Entry) : Es.strip (xs.map oEntry) = xs.map eEntry := by rw [Es.strip_map]; simp [Function.comp_def, stripC_oEntry]
@[go_sem] theorem strip_eEntry (xs : List Entry) : Es.strip (xs.map eEntry) = xs.map eEntry := by rw [Es.strip_map]; simp [Function.comp_def, stripC_eEntry]
@[go_sem] abbrev aEntry (x : Entry) : Arg := .d (true, eEntry x)
@[go_sem] abbrev pEntry (x : Entry) : Arg := .pv (eEntry x)
@[go_sem] abbrev rEntry (x : Entry) : List Dat := [(true, oEntry x)]
theorem bnd_Entry {x : Entry} {gs : List Arg} (h : Args.bnd (aEntry x :: gs)) : x.rect.low.length ≤ maxLen ∧ x.rect.high.length ≤ maxLen := by
  have h0 := h.1.1.1; rw [List.length_map] at h0
  have h1 := h.1.2.1.1; rw [List.length_map] at h1
  exact ⟨h0, h1⟩
theorem bndp_Entry {x : Entry} {gs : List Arg} (h : Args.bnd (pEntry x :: gs)) : x.rect.low.length ≤ maxLen ∧ x.rect.high.length ≤ maxLen := by
  have h0 := h.1.1.1; rw [List.length_map] at h0
  have h1 := h.1.2.1.1; rw [List.length_map] at h1
  exact ⟨h0, h1⟩
theorem eqEntry (a b : Entry) : a = b ↔ a.rect = b.rect ∧ a.ref = b.ref ∧ a.nsn = b.nsn := by cases a; cases b; simp
def wEntry (x : Entry) : Nat := wR x.rect
theorem s_toEntry (x : Entry) (h : wEntry x ≤ 1048576) : Sat Try.prog 92 [aEntry x] true (rEntry x) := by
  refine sat_walk (fn := Try.f92) rfl rfl rfl (Nat.le_of_ble_eq_true rfl) fun fr hP hN hbnd => ?_
  have hE : (envOf fr Try.prog).Ok := envOf_ok hP
  have hM := follows_of hP
  have hS : ∀ {draw ops}, statB Try.f92.ntmps draw ops = true → statB (envOf fr Try.prog).fr.N draw ops = true := fun h => by rw [envOf_fr, hN]; exact h
  simp only [wEntry] at h
  repeat' (first
    | exact True.intro
    | refine ev_seq ?_
    | ((first | refine vgd_go ?_ | refine ev_region hE hM (hS (by decide +kernel)) ?_ | refine ev_if ?_ | refine end_ret hE rfl rfl ?_ | refine end_norm hE rfl rfl ?_ | refine endG_ret [] hE rfl ?_ | refine endG_norm [] hE rfl ?_ | refine vcallB_of hP (s_toRect x.rect (by omega)) ?_ | refine vcall_A ?_); simp (maxSteps := 2000000) only [go_sem, hP, ↓reduceIte, Nat.reduceAdd, Nat.reduceMul, Nat.reduceEqDiff, Nat.reduceSub, Nat.reduceLeDiff, reduceCtorEq])
    | refine ev_skip ?_ | refine ev_block ?_ | refine ev_blk ?_ | refine ev_ret ?_ | refine ev_exit ?_ | refine evx_code_ret ?_ | refine evx_blk_ret ?_ | refine evx_lp_ret ?_
    | refine evx_code_exit ?_ | refine evx_lp_exit ?_ | refine evx_blk_hit ?_ | refine evx_blk_pass (by decide) ?_
    | refine And.intro ?_ ?_ | intro _ | decide +kernel | omega)
theorem s_szEntry (x : Entry) (left : Int) (h0 : 0 ≤ left) (h1 : left ≤ 1048576) : Sat Try.prog 87 [aEntry x, aI left] true (rI (lessN (wEntry x) left)) := by
  refine sat_walk (fn := Try.f87) rfl rfl rfl (Nat.le_of_ble_eq_true rfl) fun fr hP hN hbnd => ?_
  have hE : (envOf fr Try.prog).Ok := envOf_ok hP
  have hM := follows_of hP
  have hS : ∀ {draw ops}, statB Try.f87.ntmps draw ops = true → statB (envOf fr Try.prog).fr.N draw ops = true := fun h => by rw [envOf_fr, hN]; exact h
  repeat' (first
    | exact True.intro
    | refine ev_seq ?_
    | ((first | refine vgd_go ?_ | refine ev_region hE hM (hS (by decide +kernel)) ?_ | refine ev_if ?_ | refine end_ret hE rfl rfl ?_ | refine end_norm hE rfl rfl ?_ | refine endG_ret [] hE rfl ?_ | refine endG_norm [] hE rfl ?_ | refine vcallB_of hP (s_szRect x.rect _ (by (try simp only [lessN] at *); omega) (by (try simp only [lessN] at *); omega)) ?_ | refine vcall_A ?_); simp (maxSteps := 2000000) only [go_sem, hP, ↓reduceIte, Nat.reduceAdd, Nat.reduceMul, Nat.reduceEqDiff, Nat.reduceSub, Nat.reduceLeDiff, reduceCtorEq])
    | refine ev_skip ?_ | refine ev_block ?_ | refine ev_blk ?_ | refine ev_ret ?_ | refine ev_exit ?_ | refine evx_code_ret ?_ | refine evx_blk_ret ?_ | refine evx_lp_ret ?_
    | refine evx_code_exit ?_ | refine evx_lp_exit ?_ | refine evx_blk_hit ?_ | refine evx_blk_pass (by decide) ?_
    | refine And.intro ?_ ?_ | intro _ | decide +kernel | omega)
  all_goals simp_all only [lessN, wEntry]
  all_goals omega
theorem s_eqEntry (a b : Entry) : Sat Try.prog 97 [aEntry a, aEntry b] true (rB (decide (a = b))) := by
  refine sat_walk (fn := Try.f97) rfl rfl rfl (Nat.le_of_ble_eq_true rfl) fun fr hP hN hbnd => ?_
  have hE : (envOf fr Try.prog).Ok := envOf_ok hP
  have hM := follows_of hP
  have hS : ∀ {draw ops}, statB Try.f97.ntmps draw ops = true → statB (envOf fr Try.prog).fr.N draw ops = true := fun h => by rw [envOf_fr, hN]; exact h
  repeat' (first
    | exact True.intro
    | refine ev_seq ?_
    | ((first | refine vgd_go ?_ | refine ev_region hE hM (hS (by decide +kernel)) ?_ | refine ev_if ?_ | refine end_ret hE rfl rfl ?_ | refine end_norm hE rfl rfl ?_ | refine endG_ret [] hE rfl ?_ | refine endG_norm [] hE rfl ?_ | refine vcallB_of hP (s_eqRect a.rect b.rect) ?_ | refine vcall_A ?_); simp (maxSteps := 2000000) only [go_sem, hP, ↓reduceIte, Nat.reduceAdd, Nat.reduceMul, Nat.reduceEqDiff, Nat.reduceSub, Nat.reduceLeDiff, reduceCtorEq])
    | refine ev_skip ?_ | refine ev_block ?_ | refine ev_blk ?_ | refine ev_ret ?_ | refine ev_exit ?_ | refine evx_code_ret ?_ | refine evx_blk_ret ?_ | refine evx_lp_ret ?_
    | refine evx_code_exit ?_ | refine evx_lp_exit ?_ | refine evx_blk_hit ?_ | refine evx_blk_pass (by decide) ?_
    | refine And.intro ?_ ?_ | intro _ | decide +kernel | omega)
  all_goals simp_all [eqEntry]
theorem shp_Entry {n t : Nat} {cs : List C} (ht : (Try.prog.underlying t).bind fieldTs = some [24, 2, 2]) (h : shp Try.prog (n + 4) t cs) : ∃ x, cs = eEntry x := by
  obtain ⟨c0, g0, rfl, h0, c1, g1, rfl, h1, c2, g2, rfl, h2, rfl⟩ := shp_struct ht h
  obtain ⟨v0, rfl⟩ := shp_R (n := n + 0) rfl h0
  obtain ⟨v1, rfl, _⟩ := shp_i64 (n := n + 2) rfl h1
  obtain ⟨v2, rfl, _⟩ := shp_i64 (n := n + 2) rfl h2
  exact ⟨⟨v0, v1, v2⟩, rfl⟩
@[go_sem] abbrev sEntryS (xs : List Entry) : C := .sl none 4 (xs.map eEntry)
@[go_sem] abbrev oEntryS (xs : List Entry) : C := .sl (some 143) 4 (xs.map oEntry)
@[go_sem] abbrev aEntryS (xs : List Entry) : Arg := .d (false, [sEntryS xs])
@[go_sem] abbrev rEntryS (xs : List Entry) : List Dat := [(false, [oEntryS xs])]
theorem bnd_EntryS {xs : List Entry} {gs : List Arg} (h : Args.bnd (aEntryS xs :: gs)) : xs.length ≤ maxLen := by
  have := h.1.1.1; rwa [List.length_map] at this
def wEntryS (xs : List Entry) : Nat := xs.length + sumW wEntry xs
theorem s_toEntryS (xs : List Entry) (h : wEntryS xs ≤ 1048576) : Sat Try.prog 28 [aEntryS xs] true (rEntryS xs) := by
  refine sat_walk (fn := Try.f28) rfl rfl rfl (Nat.le_of_ble_eq_true rfl) fun fr hP hN hbnd => ?_
  have hE : (envOf fr Try.prog).Ok := envOf_ok hP
  have hM := follows_of hP
  have hS : ∀ {draw ops}, statB Try.f28.ntmps draw ops = true → statB (envOf fr Try.prog).fr.N draw ops = true := fun h => by rw [envOf_fr, hN]; exact h
  have hx : xs.length ≤ 1048576 := by unfold wEntryS at h; omega
  have hw : ∀ k, k < xs.length → wEntry (xs.getD k default) ≤ 1048576 := fun k hk => by
    have := sumW_get (w := wEntry) (d := default) hk; unfold wEntryS at h; omega
  repeat' (first
    | exact True.intro
    | refine ev_seq ?_
    | ((first | refine vgd_go ?_ | refine ev_region hE hM (hS (by decide +kernel)) ?_ | refine ev_if ?_ | refine end_ret hE rfl rfl ?_ | refine end_norm hE rfl rfl ?_ | refine endG_ret [] hE rfl ?_ | refine endG_norm [] hE rfl ?_ | refine vcall_A ?_); simp (maxSteps := 2000000) only [go_sem, hP, ↓reduceIte, Nat.reduceAdd, Nat.reduceMul, Nat.reduceEqDiff, Nat.reduceSub, Nat.reduceLeDiff, reduceCtorEq])
    | refine ev_skip ?_ | refine ev_block ?_ | refine ev_blk ?_ | refine ev_ret ?_ | refine ev_exit ?_ | refine evx_code_ret ?_ | refine evx_blk_ret ?_ | refine evx_lp_ret ?_
    | refine evx_code_exit ?_ | refine evx_lp_exit ?_ | refine evx_blk_hit ?_ | refine evx_blk_pass (by decide) ?_
    | refine And.intro ?_ ?_ | intro _ | decide +kernel | omega)
  refine ev_loop (ι := Nat) (fun k => [(0, .c (sEntryS xs)), (3, .ref 4112), (4, .c (.int .i64 k))]) (fun k => [(4112, .arr true 143 4 ((mix xs ⟨⟨[], []⟩, 0, 0⟩ k).map oEntry))]) (fun _ => []) (fun k => k ≤ xs.length) (fun k => xs.length - k) 0 [] (by simp) (by simp only [go_sem, hP, ↓reduceIte, Nat.reduceAdd, Nat.reduceMul, Nat.reduceEqDiff, Nat.reduceSub, Nat.reduceLeDiff, reduceCtorEq]; simp [mix_zero, oEntry]) ?_
  intro k hk
  repeat' (first
    | exact True.intro
    | refine ev_seq ?_
    | ((first | refine vgd_go ?_ | refine ev_region hE hM (hS (by decide +kernel)) ?_ | refine ev_if ?_ | refine end_ret hE rfl rfl ?_ | refine end_norm hE rfl rfl ?_ | refine endG_ret [] hE rfl ?_ | refine endG_norm [] hE rfl ?_ | refine vcallB_of hP (s_toEntry (xs.getD k default) (hw k (by omega))) ?_ | refine vcall_A ?_); simp (maxSteps := 2000000) only [go_sem, hP, ↓reduceIte, Nat.reduceAdd, Nat.reduceMul, Nat.reduceEqDiff, Nat.reduceSub, Nat.reduceLeDiff, reduceCtorEq, mix_length hk])
    | refine ev_skip ?_ | refine ev_block ?_ | refine ev_blk ?_ | refine ev_ret ?_ | refine ev_exit ?_ | refine evx_code_ret ?_ | refine evx_blk_ret ?_ | refine evx_lp_ret ?_
    | refine evx_code_exit ?_ | refine evx_lp_exit ?_ | refine evx_blk_hit ?_ | refine evx_blk_pass (by decide) ?_
    | refine And.intro ?_ ?_ | intro _ | decide +kernel | omega)
  · exact ev_lp (k + 1) [] (by omega) (by omega) (by simp only [go_sem, hP, ↓reduceIte, Nat.reduceAdd, Nat.reduceMul, Nat.reduceEqDiff, Nat.reduceSub, Nat.reduceLeDiff, reduceCtorEq]; simp; exact ⟨wrap_succ (by omega) hx, mix_set_map (f := oEntry) (by omega)⟩)
  · rw [mix_full (by omega)]
theorem s_szEntryS (xs : List Entry) (left : Int) (h0 : 0 ≤ left) (h1 : left ≤ 1048576) : Sat Try.prog 25 [aEntryS xs, aI left] true (rI (lessN (wEntryS xs) left)) := by
  refine sat_walk (fn := Try.f25) rfl rfl rfl (Nat.le_of_ble_eq_true rfl) fun fr hP hN hbnd => ?_
  have hE : (envOf fr Try.prog).Ok := envOf_ok hP
  have hM := follows_of hP
  have hS : ∀ {draw ops}, statB Try.f25.ntmps draw ops = true → statB (envOf fr Try.prog).fr.N draw ops = true := fun h => by rw [envOf_fr, hN]; exact h
  have hlen := bnd_EntryS hbnd
  have hm : maxLen = 9223372036854775807 := rfl
  have hw : IntKind.i64.wrap (left - xs.length) = left - xs.length := i64_in _ (by omega)
  repeat' (first
    | exact True.intro
    | refine ev_seq ?_
    | ((first | refine vgd_go ?_ | refine ev_region hE hM (hS (by decide +kernel)) ?_ | refine ev_if ?_ | refine end_ret hE rfl rfl ?_ | refine end_norm hE rfl rfl ?_ | refine endG_ret [] hE rfl ?_ | refine endG_norm [] hE rfl ?_ | refine vcall_A ?_); simp (maxSteps := 2000000) only [go_sem, hP, ↓reduceIte, Nat.reduceAdd, Nat.reduceMul, Nat.reduceEqDiff, Nat.reduceSub, Nat.reduceLeDiff, reduceCtorEq, hw])
    | refine ev_skip ?_ | refine ev_block ?_ | refine ev_blk ?_ | refine ev_ret ?_ | refine ev_exit ?_ | refine evx_code_ret ?_ | refine evx_blk_ret ?_ | refine evx_lp_ret ?_
    | refine evx_code_exit ?_ | refine evx_lp_exit ?_ | refine evx_blk_hit ?_ | refine evx_blk_pass (by decide) ?_
    | refine And.intro ?_ ?_ | intro _ | decide +kernel | omega)
  · rename_i h; simp only [lessN, wEntryS] at *; omega
  rename_i h
  refine ev_loop (ι := Nat) (fun k => [(0, .c (sEntryS xs)), (1, .c (.int .i64 (left - xs.length - sumW wEntry (xs.take k)))), (5, .c (.int .i64 k))]) (fun k => []) (fun _ => []) (fun k => k ≤ xs.length ∧ (0 : Int) ≤ left - xs.length - sumW wEntry (xs.take k)) (fun k => xs.length - k) 0 [] (by simp [allLt_zero] <;> omega) (by simp only [go_sem, hP, ↓reduceIte, Nat.reduceAdd, Nat.reduceMul, Nat.reduceEqDiff, Nat.reduceSub, Nat.reduceLeDiff, reduceCtorEq]; simp) ?_
  intro k hk
  have hstep := fun h : k < xs.length => sumW_step (w := wEntry) (d := default) h
  have hle := sumW_le (w := wEntry) (xs := xs) (k + 1)
  repeat' (first
    | exact True.intro
    | refine ev_seq ?_
    | ((first | refine vgd_go ?_ | refine ev_region hE hM (hS (by decide +kernel)) ?_ | refine ev_if ?_ | refine end_ret hE rfl rfl ?_ | refine end_norm hE rfl rfl ?_ | refine endG_ret [] hE rfl ?_ | refine endG_norm [] hE rfl ?_ | refine vcallB_of hP (s_szEntry (xs.getD k default) _ hk.2 (by omega)) ?_ | refine vcall_A ?_); simp (maxSteps := 2000000) only [go_sem, hP, ↓reduceIte, Nat.reduceAdd, Nat.reduceMul, Nat.reduceEqDiff, Nat.reduceSub, Nat.reduceLeDiff, reduceCtorEq])
    | refine ev_skip ?_ | refine ev_block ?_ | refine ev_blk ?_ | refine ev_ret ?_ | refine ev_exit ?_ | refine evx_code_ret ?_ | refine evx_blk_ret ?_ | refine evx_lp_ret ?_
    | refine evx_code_exit ?_ | refine evx_lp_exit ?_ | refine evx_blk_hit ?_ | refine evx_blk_pass (by decide) ?_
    | refine And.intro ?_ ?_ | intro _ | decide +kernel | omega)
  · have := hstep (by omega)
    simp only [lessN, wEntryS] at *; omega
  · rename_i hk1 hk2
    have h8 := hstep (by omega)
    have h9 : lessN (wEntry (xs.getD k default)) (left - xs.length - sumW wEntry (xs.take k)) = left - xs.length - sumW wEntry (xs.take (k + 1)) := by simp only [lessN] at *; omega
    refine ev_lp (k + 1) [] ⟨by omega, by rw [← h9]; omega⟩ (by omega) (by simp only [go_sem, hP, ↓reduceIte, Nat.reduceAdd, Nat.reduceMul, Nat.reduceEqDiff, Nat.reduceSub, Nat.reduceLeDiff, reduceCtorEq, h9]; simp; exact wrap_nat (by omega) hlen)
  · rw [sumW_done (by omega)] at hk ⊢
    simp only [lessN, wEntryS] at *; omega
theorem s_eqEntryS (xs ys : List Entry) : Sat Try.prog 32 [aEntryS xs, aEntryS ys] true (rB (decide (xs = ys))) := by
  refine sat_walk (fn := Try.f32) rfl rfl rfl (Nat.le_of_ble_eq_true rfl) fun fr hP hN hbnd => ?_
  have hE : (envOf fr Try.prog).Ok := envOf_ok hP
  have hM := follows_of hP
  have hS : ∀ {draw ops}, statB Try.f32.ntmps draw ops = true → statB (envOf fr Try.prog).fr.N draw ops = true := fun h => by rw [envOf_fr, hN]; exact h
  have hlen := bnd_EntryS hbnd
  repeat' (first
    | exact True.intro
    | refine ev_seq ?_
    | ((first | refine vgd_go ?_ | refine ev_region hE hM (hS (by decide +kernel)) ?_ | refine ev_if ?_ | refine end_ret hE rfl rfl ?_ | refine end_norm hE rfl rfl ?_ | refine endG_ret [] hE rfl ?_ | refine endG_norm [] hE rfl ?_ | refine vcall_A ?_); simp (maxSteps := 2000000) only [go_sem, hP, ↓reduceIte, Nat.reduceAdd, Nat.reduceMul, Nat.reduceEqDiff, Nat.reduceSub, Nat.reduceLeDiff, reduceCtorEq])
    | refine ev_skip ?_ | refine ev_block ?_ | refine ev_blk ?_ | refine ev_ret ?_ | refine ev_exit ?_ | refine evx_code_ret ?_ | refine evx_blk_ret ?_ | refine evx_lp_ret ?_
    | refine evx_code_exit ?_ | refine evx_lp_exit ?_ | refine evx_blk_hit ?_ | refine evx_blk_pass (by decide) ?_
    | refine And.intro ?_ ?_ | intro _ | decide +kernel | omega)
  · rename_i h; simp at h; simp; rintro rfl; exact h rfl
  rename_i h; simp at h
  refine ev_loop (ι := Nat) (fun k => [(0, .c (sEntryS xs)), (1, .c (sEntryS ys)), (5, .c (.int .i64 k))]) (fun k => []) (fun _ => []) (fun k => k ≤ xs.length ∧ xs.take k = ys.take k) (fun k => xs.length - k) 0 [] (by simp [allLt_zero] <;> omega) (by simp only [go_sem, hP, ↓reduceIte, Nat.reduceAdd, Nat.reduceMul, Nat.reduceEqDiff, Nat.reduceSub, Nat.reduceLeDiff, reduceCtorEq]; simp) ?_
  intro k hk
  repeat' (first
    | exact True.intro
    | refine ev_seq ?_
    | ((first | refine vgd_go ?_ | refine ev_region hE hM (hS (by decide +kernel)) ?_ | refine ev_if ?_ | refine end_ret hE rfl rfl ?_ | refine end_norm hE rfl rfl ?_ | refine endG_ret [] hE rfl ?_ | refine endG_norm [] hE rfl ?_ | refine vcallB_of hP (s_eqEntry (xs.getD k default) (ys.getD k default)) ?_ | refine vcall_A ?_); simp (maxSteps := 2000000) only [go_sem, hP, ↓reduceIte, Nat.reduceAdd, Nat.reduceMul, Nat.reduceEqDiff, Nat.reduceSub, Nat.reduceLeDiff, reduceCtorEq])
    | refine ev_skip ?_ | refine ev_block ?_ | refine ev_blk ?_ | refine ev_ret ?_ | refine ev_exit ?_ | refine evx_code_ret ?_ | refine evx_blk_ret ?_ | refine evx_lp_ret ?_
    | refine evx_code_exit ?_ | refine evx_lp_exit ?_ | refine evx_blk_hit ?_ | refine evx_blk_pass (by decide) ?_
    | refine And.intro ?_ ?_ | intro _ | decide +kernel | omega)
  · rename_i h3; simp at h3; simp; exact eq_not (by simpa using h3)
  · rename_i h3 h4; simp at h4
    exact ev_lp (k + 1) [] ⟨by omega, eq_step (d := default) (e := default) (by omega) (by omega) hk.2 (by simpa using h4)⟩ (by omega) (by simp only [go_sem, hP, ↓reduceIte, Nat.reduceAdd, Nat.reduceMul, Nat.reduceEqDiff, Nat.reduceSub, Nat.reduceLeDiff, reduceCtorEq]; simp; exact wrap_nat (by omega) hlen)
  · simp; exact eq_done (by omega) (by omega) hk.2
theorem shp_EntryS {n t : Nat} {cs : List C} (ht : Try.prog.underlying t = some (.slice 136)) (h : shp Try.prog (n + 5) t cs) : ∃ xs, cs = [sEntryS xs] := by
  obtain ⟨xs, rfl, _⟩ := shp_rows (f := eEntry) (q := fun _ => True) (sz := 4) ht rfl (fun x hx => by obtain ⟨p, rfl⟩ := shp_Entry (n := n) rfl hx; exact ⟨p, rfl, trivial⟩) h
  exact ⟨xs, rfl⟩
structure Node where
  level : Int
  nsn : Int
  right : Int
  entries : List Entry
  deriving DecidableEq, Inhabited
def eNode (x : Node) : List C := [.int .i64 x.level, .int .i64 x.nsn, .int .i64 x.right, sEntryS x.entries]
def oNode (x : Node) : List C := [.int .i64 x.level, .int .i64 x.nsn, .int .i64 x.right, oEntryS x.entries]
@[go_sem] theorem eNode_eq (x : Node) : eNode x = [.int .i64 x.level, .int .i64 x.nsn, .int .i64 x.right, sEntryS x.entries] := rfl
@[go_sem] theorem oNode_eq (x : Node) : oNode x = [.int .i64 x.level, .int .i64 x.nsn, .int .i64 x.right, oEntryS x.entries] := rfl
theorem stripC_oNode (x : Node) : Cs.strip (oNode x) = eNode x := by simp [oNode, eNode, Cs.strip, C.strip, strip_eI, strip_eEntry, strip_oEntry]
theorem stripC_eNode (x : Node) : Cs.strip (eNode x) = eNode x := by simp [eNode, Cs.strip, C.strip, strip_eI, strip_eEntry, strip_oEntry]
@[go_sem] theorem strip_oNode (xs : List Node) : Es.strip (xs.map oNode) = xs.map eNode := by rw [Es.strip_map]; simp [Function.comp_def, stripC_oNode]
@[go_sem] theorem strip_eNode (xs : List Node) : Es.strip (xs.map eNode) = xs.map eNode := by rw [Es.strip_map]; simp [Function.comp_def, stripC_eNode]
@[go_sem] abbrev aNode (x : Node) : Arg := .d (true, eNode x)
@[go_sem] abbrev pNode (x : Node) : Arg := .pv (eNode x)
@[go_sem] abbrev rNode (x : Node) : List Dat := [(true, oNode x)]
theorem bnd_Node {x : Node} {gs : List Arg} (h : Args.bnd (aNode x :: gs)) : x.entries.length ≤ maxLen := by
  have h0 := h.1.2.2.2.1.1; rw [List.length_map] at h0
  exact h0
theorem bndp_Node {x : Node} {gs : List Arg} (h : Args.bnd (pNode x :: gs)) : x.entries.length ≤ maxLen := by
  have h0 := h.1.2.2.2.1.1; rw [List.length_map] at h0
  exact h0
theorem eqNode (a b : Node) : a = b ↔ a.level = b.level ∧ a.nsn = b.nsn ∧ a.right = b.right ∧ a.entries = b.entries := by cases a; cases b; simp
def wNode (x : Node) : Nat := wEntryS x.entries
theorem s_toNode (x : Node) (h : wNode x ≤ 1048576) : Sat Try.prog 192 [aNode x] true (rNode x) := by
  refine sat_walk (fn := Try.f192) rfl rfl rfl (Nat.le_of_ble_eq_true rfl) fun fr hP hN hbnd => ?_
  have hE : (envOf fr Try.prog).Ok := envOf_ok hP
  have hM := follows_of hP
  have hS : ∀ {draw ops}, statB Try.f192.ntmps draw ops = true → statB (envOf fr Try.prog).fr.N draw ops = true := fun h => by rw [envOf_fr, hN]; exact h
  simp only [wNode] at h
  repeat' (first
    | exact True.intro
    | refine ev_seq ?_
    | ((first | refine vgd_go ?_ | refine ev_region hE hM (hS (by decide +kernel)) ?_ | refine ev_if ?_ | refine end_ret hE rfl rfl ?_ | refine end_norm hE rfl rfl ?_ | refine endG_ret [] hE rfl ?_ | refine endG_norm [] hE rfl ?_ | refine vcallB_of hP (s_toEntryS x.entries (by omega)) ?_ | refine vcall_A ?_); simp (maxSteps := 2000000) only [go_sem, hP, ↓reduceIte, Nat.reduceAdd, Nat.reduceMul, Nat.reduceEqDiff, Nat.reduceSub, Nat.reduceLeDiff, reduceCtorEq])
    | refine ev_skip ?_ | refine ev_block ?_ | refine ev_blk ?_ | refine ev_ret ?_ | refine ev_exit ?_ | refine evx_code_ret ?_ | refine evx_blk_ret ?_ | refine evx_lp_ret ?_
    | refine evx_code_exit ?_ | refine evx_lp_exit ?_ | refine evx_blk_hit ?_ | refine evx_blk_pass (by decide) ?_
    | refine And.intro ?_ ?_ | intro _ | decide +kernel | omega)
theorem s_szNode (x : Node) (left : Int) (h0 : 0 ≤ left) (h1 : left ≤ 1048576) : Sat Try.prog 188 [aNode x, aI left] true (rI (lessN (wNode x) left)) := by
  refine sat_walk (fn := Try.f188) rfl rfl rfl (Nat.le_of_ble_eq_true rfl) fun fr hP hN hbnd => ?_
  have hE : (envOf fr Try.prog).Ok := envOf_ok hP
  have hM := follows_of hP
  have hS : ∀ {draw ops}, statB Try.f188.ntmps draw ops = true → statB (envOf fr Try.prog).fr.N draw ops = true := fun h => by rw [envOf_fr, hN]; exact h
  repeat' (first
    | exact True.intro
    | refine ev_seq ?_
    | ((first | refine vgd_go ?_ | refine ev_region hE hM (hS (by decide +kernel)) ?_ | refine ev_if ?_ | refine end_ret hE rfl rfl ?_ | refine end_norm hE rfl rfl ?_ | refine endG_ret [] hE rfl ?_ | refine endG_norm [] hE rfl ?_ | refine vcallB_of hP (s_szEntryS x.entries _ (by (try simp only [lessN] at *); omega) (by (try simp only [lessN] at *); omega)) ?_ | refine vcall_A ?_); simp (maxSteps := 2000000) only [go_sem, hP, ↓reduceIte, Nat.reduceAdd, Nat.reduceMul, Nat.reduceEqDiff, Nat.reduceSub, Nat.reduceLeDiff, reduceCtorEq])
    | refine ev_skip ?_ | refine ev_block ?_ | refine ev_blk ?_ | refine ev_ret ?_ | refine ev_exit ?_ | refine evx_code_ret ?_ | refine evx_blk_ret ?_ | refine evx_lp_ret ?_
    | refine evx_code_exit ?_ | refine evx_lp_exit ?_ | refine evx_blk_hit ?_ | refine evx_blk_pass (by decide) ?_
    | refine And.intro ?_ ?_ | intro _ | decide +kernel | omega)
  all_goals simp_all only [lessN, wNode]
  all_goals omega
theorem s_eqNode (a b : Node) : Sat Try.prog 206 [aNode a, aNode b] true (rB (decide (a = b))) := by
  refine sat_walk (fn := Try.f206) rfl rfl rfl (Nat.le_of_ble_eq_true rfl) fun fr hP hN hbnd => ?_
  have hE : (envOf fr Try.prog).Ok := envOf_ok hP
  have hM := follows_of hP
  have hS : ∀ {draw ops}, statB Try.f206.ntmps draw ops = true → statB (envOf fr Try.prog).fr.N draw ops = true := fun h => by rw [envOf_fr, hN]; exact h
  repeat' (first
    | exact True.intro
    | refine ev_seq ?_
    | ((first | refine vgd_go ?_ | refine ev_region hE hM (hS (by decide +kernel)) ?_ | refine ev_if ?_ | refine end_ret hE rfl rfl ?_ | refine end_norm hE rfl rfl ?_ | refine endG_ret [] hE rfl ?_ | refine endG_norm [] hE rfl ?_ | refine vcallB_of hP (s_eqEntryS a.entries b.entries) ?_ | refine vcall_A ?_); simp (maxSteps := 2000000) only [go_sem, hP, ↓reduceIte, Nat.reduceAdd, Nat.reduceMul, Nat.reduceEqDiff, Nat.reduceSub, Nat.reduceLeDiff, reduceCtorEq])
    | refine ev_skip ?_ | refine ev_block ?_ | refine ev_blk ?_ | refine ev_ret ?_ | refine ev_exit ?_ | refine evx_code_ret ?_ | refine evx_blk_ret ?_ | refine evx_lp_ret ?_
    | refine evx_code_exit ?_ | refine evx_lp_exit ?_ | refine evx_blk_hit ?_ | refine evx_blk_pass (by decide) ?_
    | refine And.intro ?_ ?_ | intro _ | decide +kernel | omega)
  all_goals simp_all [eqNode]
theorem shp_Node {n t : Nat} {cs : List C} (ht : (Try.prog.underlying t).bind fieldTs = some [2, 2, 2, 58]) (h : shp Try.prog (n + 6) t cs) : ∃ x, cs = eNode x := by
  obtain ⟨c0, g0, rfl, h0, c1, g1, rfl, h1, c2, g2, rfl, h2, c3, g3, rfl, h3, rfl⟩ := shp_struct ht h
  obtain ⟨v0, rfl, _⟩ := shp_i64 (n := n + 4) rfl h0
  obtain ⟨v1, rfl, _⟩ := shp_i64 (n := n + 4) rfl h1
  obtain ⟨v2, rfl, _⟩ := shp_i64 (n := n + 4) rfl h2
  obtain ⟨v3, rfl⟩ := shp_EntryS (n := n + 0) rfl h3
  exact ⟨⟨v0, v1, v2, v3⟩, rfl⟩
@[go_sem] abbrev sNodeS (xs : List Node) : C := .sl none 4 (xs.map eNode)
@[go_sem] abbrev oNodeS (xs : List Node) : C := .sl (some 158) 4 (xs.map oNode)
@[go_sem] abbrev aNodeS (xs : List Node) : Arg := .d (false, [sNodeS xs])
@[go_sem] abbrev rNodeS (xs : List Node) : List Dat := [(false, [oNodeS xs])]
theorem bnd_NodeS {xs : List Node} {gs : List Arg} (h : Args.bnd (aNodeS xs :: gs)) : xs.length ≤ maxLen := by
  have := h.1.1.1; rwa [List.length_map] at this
def wNodeS (xs : List Node) : Nat := xs.length + sumW wNode xs
theorem s_toNodeS (xs : List Node) (h : wNodeS xs ≤ 1048576) : Sat Try.prog 113 [aNodeS xs] true (rNodeS xs) := by
  refine sat_walk (fn := Try.f113) rfl rfl rfl (Nat.le_of_ble_eq_true rfl) fun fr hP hN hbnd => ?_
  have hE : (envOf fr Try.prog).Ok := envOf_ok hP
  have hM := follows_of hP
  have hS : ∀ {draw ops}, statB Try.f113.ntmps draw ops = true → statB (envOf fr Try.prog).fr.N draw ops = true := fun h => by rw [envOf_fr, hN]; exact h
  have hx : xs.length ≤ 1048576 := by unfold wNodeS at h; omega
  have hw : ∀ k, k < xs.length → wNode (xs.getD k default) ≤ 1048576 := fun k hk => by
    have := sumW_get (w := wNode) (d := default) hk; unfold wNodeS at h; omega
  repeat' (first
    | exact True.intro
    | refine ev_seq ?_
    | ((first | refine vgd_go ?_ | refine ev_region hE hM (hS (by decide +kernel)) ?_ | refine ev_if ?_ | refine end_ret hE rfl rfl ?_ | refine end_norm hE rfl rfl ?_ | refine endG_ret [] hE rfl ?_ | refine endG_norm [] hE rfl ?_ | refine vcall_A ?_); simp (maxSteps := 2000000) only [go_sem, hP, ↓reduceIte, Nat.reduceAdd, Nat.reduceMul, Nat.reduceEqDiff, Nat.reduceSub, Nat.reduceLeDiff, reduceCtorEq])
    | refine ev_skip ?_ | refine ev_block ?_ | refine ev_blk ?_ | refine ev_ret ?_ | refine ev_exit ?_ | refine evx_code_ret ?_ | refine evx_blk_ret ?_ | refine evx_lp_ret ?_
    | refine evx_code_exit ?_ | refine evx_lp_exit ?_ | refine evx_blk_hit ?_ | refine evx_blk_pass (by decide) ?_
    | refine And.intro ?_ ?_ | intro _ | decide +kernel | omega)
  refine ev_loop (ι := Nat) (fun k => [(0, .c (sNodeS xs)), (3, .ref 4112), (4, .c (.int .i64 k))]) (fun k => [(4112, .arr true 158 4 ((mix xs ⟨0, 0, 0, []⟩ k).map oNode))]) (fun _ => []) (fun k => k ≤ xs.length) (fun k => xs.length - k) 0 [] (by simp) (by simp only [go_sem, hP, ↓reduceIte, Nat.reduceAdd, Nat.reduceMul, Nat.reduceEqDiff, Nat.reduceSub, Nat.reduceLeDiff, reduceCtorEq]; simp [mix_zero, oNode]) ?_
  intro k hk
  repeat' (first
    | exact True.intro
    | refine ev_seq ?_
    | ((first | refine vgd_go ?_ | refine ev_region hE hM (hS (by decide +kernel)) ?_ | refine ev_if ?_ | refine end_ret hE rfl rfl ?_ | refine end_norm hE rfl rfl ?_ | refine endG_ret [] hE rfl ?_ | refine endG_norm [] hE rfl ?_ | refine vcallB_of hP (s_toNode (xs.getD k default) (hw k (by omega))) ?_ | refine vcall_A ?_); simp (maxSteps := 2000000) only [go_sem, hP, ↓reduceIte, Nat.reduceAdd, Nat.reduceMul, Nat.reduceEqDiff, Nat.reduceSub, Nat.reduceLeDiff, reduceCtorEq, mix_length hk])
    | refine ev_skip ?_ | refine ev_block ?_ | refine ev_blk ?_ | refine ev_ret ?_ | refine ev_exit ?_ | refine evx_code_ret ?_ | refine evx_blk_ret ?_ | refine evx_lp_ret ?_
    | refine evx_code_exit ?_ | refine evx_lp_exit ?_ | refine evx_blk_hit ?_ | refine evx_blk_pass (by decide) ?_
    | refine And.intro ?_ ?_ | intro _ | decide +kernel | omega)
  · exact ev_lp (k + 1) [] (by omega) (by omega) (by simp only [go_sem, hP, ↓reduceIte, Nat.reduceAdd, Nat.reduceMul, Nat.reduceEqDiff, Nat.reduceSub, Nat.reduceLeDiff, reduceCtorEq]; simp; exact ⟨wrap_succ (by omega) hx, mix_set_map (f := oNode) (by omega)⟩)
  · rw [mix_full (by omega)]
theorem s_szNodeS (xs : List Node) (left : Int) (h0 : 0 ≤ left) (h1 : left ≤ 1048576) : Sat Try.prog 106 [aNodeS xs, aI left] true (rI (lessN (wNodeS xs) left)) := by
  refine sat_walk (fn := Try.f106) rfl rfl rfl (Nat.le_of_ble_eq_true rfl) fun fr hP hN hbnd => ?_
  have hE : (envOf fr Try.prog).Ok := envOf_ok hP
  have hM := follows_of hP
  have hS : ∀ {draw ops}, statB Try.f106.ntmps draw ops = true → statB (envOf fr Try.prog).fr.N draw ops = true := fun h => by rw [envOf_fr, hN]; exact h
  have hlen := bnd_NodeS hbnd
  have hm : maxLen = 9223372036854775807 := rfl
  have hw : IntKind.i64.wrap (left - xs.length) = left - xs.length := i64_in _ (by omega)
  repeat' (first
    | exact True.intro
    | refine ev_seq ?_
    | ((first | refine vgd_go ?_ | refine ev_region hE hM (hS (by decide +kernel)) ?_ | refine ev_if ?_ | refine end_ret hE rfl rfl ?_ | refine end_norm hE rfl rfl ?_ | refine endG_ret [] hE rfl ?_ | refine endG_norm [] hE rfl ?_ | refine vcall_A ?_); simp (maxSteps := 2000000) only [go_sem, hP, ↓reduceIte, Nat.reduceAdd, Nat.reduceMul, Nat.reduceEqDiff, Nat.reduceSub, Nat.reduceLeDiff, reduceCtorEq, hw])
    | refine ev_skip ?_ | refine ev_block ?_ | refine ev_blk ?_ | refine ev_ret ?_ | refine ev_exit ?_ | refine evx_code_ret ?_ | refine evx_blk_ret ?_ | refine evx_lp_ret ?_
    | refine evx_code_exit ?_ | refine evx_lp_exit ?_ | refine evx_blk_hit ?_ | refine evx_blk_pass (by decide) ?_
    | refine And.intro ?_ ?_ | intro _ | decide +kernel | omega)
  · rename_i h; simp only [lessN, wNodeS] at *; omega
  rename_i h
  refine ev_loop (ι := Nat) (fun k => [(0, .c (sNodeS xs)), (1, .c (.int .i64 (left - xs.length - sumW wNode (xs.take k)))), (5, .c (.int .i64 k))]) (fun k => []) (fun _ => []) (fun k => k ≤ xs.length ∧ (0 : Int) ≤ left - xs.length - sumW wNode (xs.take k)) (fun k => xs.length - k) 0 [] (by simp [allLt_zero] <;> omega) (by simp only [go_sem, hP, ↓reduceIte, Nat.reduceAdd, Nat.reduceMul, Nat.reduceEqDiff, Nat.reduceSub, Nat.reduceLeDiff, reduceCtorEq]; simp) ?_
  intro k hk
  have hstep := fun h : k < xs.length => sumW_step (w := wNode) (d := default) h
  have hle := sumW_le (w := wNode) (xs := xs) (k + 1)
  repeat' (first
    | exact True.intro
    | refine ev_seq ?_
    | ((first | refine vgd_go ?_ | refine ev_region hE hM (hS (by decide +kernel)) ?_ | refine ev_if ?_ | refine end_ret hE rfl rfl ?_ | refine end_norm hE rfl rfl ?_ | refine endG_ret [] hE rfl ?_ | refine endG_norm [] hE rfl ?_ | refine vcallB_of hP (s_szNode (xs.getD k default) _ hk.2 (by omega)) ?_ | refine vcall_A ?_); simp (maxSteps := 2000000) only [go_sem, hP, ↓reduceIte, Nat.reduceAdd, Nat.reduceMul, Nat.reduceEqDiff, Nat.reduceSub, Nat.reduceLeDiff, reduceCtorEq])
    | refine ev_skip ?_ | refine ev_block ?_ | refine ev_blk ?_ | refine ev_ret ?_ | refine ev_exit ?_ | refine evx_code_ret ?_ | refine evx_blk_ret ?_ | refine evx_lp_ret ?_
    | refine evx_code_exit ?_ | refine evx_lp_exit ?_ | refine evx_blk_hit ?_ | refine evx_blk_pass (by decide) ?_
    | refine And.intro ?_ ?_ | intro _ | decide +kernel | omega)
  · have := hstep (by omega)
    simp only [lessN, wNodeS] at *; omega
  · rename_i hk1 hk2
    have h8 := hstep (by omega)
    have h9 : lessN (wNode (xs.getD k default)) (left - xs.length - sumW wNode (xs.take k)) = left - xs.length - sumW wNode (xs.take (k + 1)) := by simp only [lessN] at *; omega
    refine ev_lp (k + 1) [] ⟨by omega, by rw [← h9]; omega⟩ (by omega) (by simp only [go_sem, hP, ↓reduceIte, Nat.reduceAdd, Nat.reduceMul, Nat.reduceEqDiff, Nat.reduceSub, Nat.reduceLeDiff, reduceCtorEq, h9]; simp; exact wrap_nat (by omega) hlen)
  · rw [sumW_done (by omega)] at hk ⊢
    simp only [lessN, wNodeS] at *; omega
theorem s_eqNodeS (xs ys : List Node) : Sat Try.prog 122 [aNodeS xs, aNodeS ys] true (rB (decide (xs = ys))) := by
  refine sat_walk (fn := Try.f122) rfl rfl rfl (Nat.le_of_ble_eq_true rfl) fun fr hP hN hbnd => ?_
  have hE : (envOf fr Try.prog).Ok := envOf_ok hP
  have hM := follows_of hP
  have hS : ∀ {draw ops}, statB Try.f122.ntmps draw ops = true → statB (envOf fr Try.prog).fr.N draw ops = true := fun h => by rw [envOf_fr, hN]; exact h
  have hlen := bnd_NodeS hbnd
  repeat' (first
    | exact True.intro
    | refine ev_seq ?_
    | ((first | refine vgd_go ?_ | refine ev_region hE hM (hS (by decide +kernel)) ?_ | refine ev_if ?_ | refine end_ret hE rfl rfl ?_ | refine end_norm hE rfl rfl ?_ | refine endG_ret [] hE rfl ?_ | refine endG_norm [] hE rfl ?_ | refine vcall_A ?_); simp (maxSteps := 2000000) only [go_sem, hP, ↓reduceIte, Nat.reduceAdd, Nat.reduceMul, Nat.reduceEqDiff, Nat.reduceSub, Nat.reduceLeDiff, reduceCtorEq])
    | refine ev_skip ?_ | refine ev_block ?_ | refine ev_blk ?_ | refine ev_ret ?_ | refine ev_exit ?_ | refine evx_code_ret ?_ | refine evx_blk_ret ?_ | refine evx_lp_ret ?_
    | refine evx_code_exit ?_ | refine evx_lp_exit ?_ | refine evx_blk_hit ?_ | refine evx_blk_pass (by decide) ?_
    | refine And.intro ?_ ?_ | intro _ | decide +kernel | omega)
  · rename_i h; simp at h; simp; rintro rfl; exact h rfl
  rename_i h; simp at h
  refine ev_loop (ι := Nat) (fun k => [(0, .c (sNodeS xs)), (1, .c (sNodeS ys)), (5, .c (.int .i64 k))]) (fun k => []) (fun _ => []) (fun k => k ≤ xs.length ∧ xs.take k = ys.take k) (fun k => xs.length - k) 0 [] (by simp [allLt_zero] <;> omega) (by simp only [go_sem, hP, ↓reduceIte, Nat.reduceAdd, Nat.reduceMul, Nat.reduceEqDiff, Nat.reduceSub, Nat.reduceLeDiff, reduceCtorEq]; simp) ?_
  intro k hk
  repeat' (first
    | exact True.intro
    | refine ev_seq ?_
    | ((first | refine vgd_go ?_ | refine ev_region hE hM (hS (by decide +kernel)) ?_ | refine ev_if ?_ | refine end_ret hE rfl rfl ?_ | refine end_norm hE rfl rfl ?_ | refine endG_ret [] hE rfl ?_ | refine endG_norm [] hE rfl ?_ | refine vcallB_of hP (s_eqNode (xs.getD k default) (ys.getD k default)) ?_ | refine vcall_A ?_); simp (maxSteps := 2000000) only [go_sem, hP, ↓reduceIte, Nat.reduceAdd, Nat.reduceMul, Nat.reduceEqDiff, Nat.reduceSub, Nat.reduceLeDiff, reduceCtorEq])
    | refine ev_skip ?_ | refine ev_block ?_ | refine ev_blk ?_ | refine ev_ret ?_ | refine ev_exit ?_ | refine evx_code_ret ?_ | refine evx_blk_ret ?_ | refine evx_lp_ret ?_
    | refine evx_code_exit ?_ | refine evx_lp_exit ?_ | refine evx_blk_hit ?_ | refine evx_blk_pass (by decide) ?_
    | refine And.intro ?_ ?_ | intro _ | decide +kernel | omega)
  · rename_i h3; simp at h3; simp; exact eq_not (by simpa using h3)
  · rename_i h3 h4; simp at h4
    exact ev_lp (k + 1) [] ⟨by omega, eq_step (d := default) (e := default) (by omega) (by omega) hk.2 (by simpa using h4)⟩ (by omega) (by simp only [go_sem, hP, ↓reduceIte, Nat.reduceAdd, Nat.reduceMul, Nat.reduceEqDiff, Nat.reduceSub, Nat.reduceLeDiff, reduceCtorEq]; simp; exact wrap_nat (by omega) hlen)
  · simp; exact eq_done (by omega) (by omega) hk.2
theorem shp_NodeS {n t : Nat} {cs : List C} (ht : Try.prog.underlying t = some (.slice 221)) (h : shp Try.prog (n + 7) t cs) : ∃ xs, cs = [sNodeS xs] := by
  obtain ⟨xs, rfl, _⟩ := shp_rows (f := eNode) (q := fun _ => True) (sz := 4) ht rfl (fun x hx => by obtain ⟨p, rfl⟩ := shp_Node (n := n) rfl hx; exact ⟨p, rfl, trivial⟩) h
  exact ⟨xs, rfl⟩
structure Retired where
  id : Int
  watch : List Int
  deriving DecidableEq, Inhabited
def eRetired (x : Retired) : List C := [.int .i64 x.id, sI x.watch]
def oRetired (x : Retired) : List C := [.int .i64 x.id, oI x.watch]
@[go_sem] theorem eRetired_eq (x : Retired) : eRetired x = [.int .i64 x.id, sI x.watch] := rfl
@[go_sem] theorem oRetired_eq (x : Retired) : oRetired x = [.int .i64 x.id, oI x.watch] := rfl
theorem stripC_oRetired (x : Retired) : Cs.strip (oRetired x) = eRetired x := by simp [oRetired, eRetired, Cs.strip, C.strip, strip_eI]
theorem stripC_eRetired (x : Retired) : Cs.strip (eRetired x) = eRetired x := by simp [eRetired, Cs.strip, C.strip, strip_eI]
@[go_sem] theorem strip_oRetired (xs : List Retired) : Es.strip (xs.map oRetired) = xs.map eRetired := by rw [Es.strip_map]; simp [Function.comp_def, stripC_oRetired]
@[go_sem] theorem strip_eRetired (xs : List Retired) : Es.strip (xs.map eRetired) = xs.map eRetired := by rw [Es.strip_map]; simp [Function.comp_def, stripC_eRetired]
@[go_sem] abbrev aRetired (x : Retired) : Arg := .d (true, eRetired x)
@[go_sem] abbrev pRetired (x : Retired) : Arg := .pv (eRetired x)
@[go_sem] abbrev rRetired (x : Retired) : List Dat := [(true, oRetired x)]
theorem bnd_Retired {x : Retired} {gs : List Arg} (h : Args.bnd (aRetired x :: gs)) : x.watch.length ≤ maxLen := by
  have h0 := h.1.2.1.1; rw [List.length_map] at h0
  exact h0
theorem bndp_Retired {x : Retired} {gs : List Arg} (h : Args.bnd (pRetired x :: gs)) : x.watch.length ≤ maxLen := by
  have h0 := h.1.2.1.1; rw [List.length_map] at h0
  exact h0
theorem eqRetired (a b : Retired) : a = b ↔ a.id = b.id ∧ a.watch = b.watch := by cases a; cases b; simp
def wRetired (x : Retired) : Nat := x.watch.length
theorem s_toRetired (x : Retired) (h : wRetired x ≤ 1048576) : Sat Try.prog 193 [aRetired x] true (rRetired x) := by
  refine sat_walk (fn := Try.f193) rfl rfl rfl (Nat.le_of_ble_eq_true rfl) fun fr hP hN hbnd => ?_
  have hE : (envOf fr Try.prog).Ok := envOf_ok hP
  have hM := follows_of hP
  have hS : ∀ {draw ops}, statB Try.f193.ntmps draw ops = true → statB (envOf fr Try.prog).fr.N draw ops = true := fun h => by rw [envOf_fr, hN]; exact h
  simp only [wRetired] at h
  repeat' (first
    | exact True.intro
    | refine ev_seq ?_
    | ((first | refine vgd_go ?_ | refine ev_region hE hM (hS (by decide +kernel)) ?_ | refine ev_if ?_ | refine end_ret hE rfl rfl ?_ | refine end_norm hE rfl rfl ?_ | refine endG_ret [] hE rfl ?_ | refine endG_norm [] hE rfl ?_ | refine vcallB_of hP (s_toInt64S x.watch (by omega)) ?_ | refine vcall_A ?_); simp (maxSteps := 2000000) only [go_sem, hP, ↓reduceIte, Nat.reduceAdd, Nat.reduceMul, Nat.reduceEqDiff, Nat.reduceSub, Nat.reduceLeDiff, reduceCtorEq])
    | refine ev_skip ?_ | refine ev_block ?_ | refine ev_blk ?_ | refine ev_ret ?_ | refine ev_exit ?_ | refine evx_code_ret ?_ | refine evx_blk_ret ?_ | refine evx_lp_ret ?_
    | refine evx_code_exit ?_ | refine evx_lp_exit ?_ | refine evx_blk_hit ?_ | refine evx_blk_pass (by decide) ?_
    | refine And.intro ?_ ?_ | intro _ | decide +kernel | omega)
theorem s_szRetired (x : Retired) (left : Int) (h0 : 0 ≤ left) (h1 : left ≤ 1048576) : Sat Try.prog 189 [aRetired x, aI left] true (rI (lessN (wRetired x) left)) := by
  refine sat_walk (fn := Try.f189) rfl rfl rfl (Nat.le_of_ble_eq_true rfl) fun fr hP hN hbnd => ?_
  have hE : (envOf fr Try.prog).Ok := envOf_ok hP
  have hM := follows_of hP
  have hS : ∀ {draw ops}, statB Try.f189.ntmps draw ops = true → statB (envOf fr Try.prog).fr.N draw ops = true := fun h => by rw [envOf_fr, hN]; exact h
  repeat' (first
    | exact True.intro
    | refine ev_seq ?_
    | ((first | refine vgd_go ?_ | refine ev_region hE hM (hS (by decide +kernel)) ?_ | refine ev_if ?_ | refine end_ret hE rfl rfl ?_ | refine end_norm hE rfl rfl ?_ | refine endG_ret [] hE rfl ?_ | refine endG_norm [] hE rfl ?_ | refine vcallB_of hP (s_szInt64S x.watch _ (by (try simp only [lessN] at *); omega) (by (try simp only [lessN] at *); omega)) ?_ | refine vcall_A ?_); simp (maxSteps := 2000000) only [go_sem, hP, ↓reduceIte, Nat.reduceAdd, Nat.reduceMul, Nat.reduceEqDiff, Nat.reduceSub, Nat.reduceLeDiff, reduceCtorEq])
    | refine ev_skip ?_ | refine ev_block ?_ | refine ev_blk ?_ | refine ev_ret ?_ | refine ev_exit ?_ | refine evx_code_ret ?_ | refine evx_blk_ret ?_ | refine evx_lp_ret ?_
    | refine evx_code_exit ?_ | refine evx_lp_exit ?_ | refine evx_blk_hit ?_ | refine evx_blk_pass (by decide) ?_
    | refine And.intro ?_ ?_ | intro _ | decide +kernel | omega)
  all_goals simp_all only [lessN, wRetired]
  all_goals omega
theorem s_eqRetired (a b : Retired) : Sat Try.prog 207 [aRetired a, aRetired b] true (rB (decide (a = b))) := by
  refine sat_walk (fn := Try.f207) rfl rfl rfl (Nat.le_of_ble_eq_true rfl) fun fr hP hN hbnd => ?_
  have hE : (envOf fr Try.prog).Ok := envOf_ok hP
  have hM := follows_of hP
  have hS : ∀ {draw ops}, statB Try.f207.ntmps draw ops = true → statB (envOf fr Try.prog).fr.N draw ops = true := fun h => by rw [envOf_fr, hN]; exact h
  repeat' (first
    | exact True.intro
    | refine ev_seq ?_
    | ((first | refine vgd_go ?_ | refine ev_region hE hM (hS (by decide +kernel)) ?_ | refine ev_if ?_ | refine end_ret hE rfl rfl ?_ | refine end_norm hE rfl rfl ?_ | refine endG_ret [] hE rfl ?_ | refine endG_norm [] hE rfl ?_ | refine vcallB_of hP (s_eqInt64S a.watch b.watch) ?_ | refine vcall_A ?_); simp (maxSteps := 2000000) only [go_sem, hP, ↓reduceIte, Nat.reduceAdd, Nat.reduceMul, Nat.reduceEqDiff, Nat.reduceSub, Nat.reduceLeDiff, reduceCtorEq])
    | refine ev_skip ?_ | refine ev_block ?_ | refine ev_blk ?_ | refine ev_ret ?_ | refine ev_exit ?_ | refine evx_code_ret ?_ | refine evx_blk_ret ?_ | refine evx_lp_ret ?_
    | refine evx_code_exit ?_ | refine evx_lp_exit ?_ | refine evx_blk_hit ?_ | refine evx_blk_pass (by decide) ?_
    | refine And.intro ?_ ?_ | intro _ | decide +kernel | omega)
  all_goals simp_all [eqRetired]
theorem shp_Retired {n t : Nat} {cs : List C} (ht : (Try.prog.underlying t).bind fieldTs = some [2, 22]) (h : shp Try.prog (n + 3) t cs) : ∃ x, cs = eRetired x := by
  obtain ⟨c0, g0, rfl, h0, c1, g1, rfl, h1, rfl⟩ := shp_struct ht h
  obtain ⟨v0, rfl, _⟩ := shp_i64 (n := n + 1) rfl h0
  obtain ⟨v1, rfl, _⟩ := shp_ints (n := n + 0) (e := 2) rfl rfl rfl h1
  exact ⟨⟨v0, v1⟩, rfl⟩
@[go_sem] abbrev sRetiredS (xs : List Retired) : C := .sl none 2 (xs.map eRetired)
@[go_sem] abbrev oRetiredS (xs : List Retired) : C := .sl (some 163) 2 (xs.map oRetired)
@[go_sem] abbrev aRetiredS (xs : List Retired) : Arg := .d (false, [sRetiredS xs])
@[go_sem] abbrev rRetiredS (xs : List Retired) : List Dat := [(false, [oRetiredS xs])]
theorem bnd_RetiredS {xs : List Retired} {gs : List Arg} (h : Args.bnd (aRetiredS xs :: gs)) : xs.length ≤ maxLen := by
  have := h.1.1.1; rwa [List.length_map] at this
def wRetiredS (xs : List Retired) : Nat := xs.length + sumW wRetired xs
theorem s_toRetiredS (xs : List Retired) (h : wRetiredS xs ≤ 1048576) : Sat Try.prog 114 [aRetiredS xs] true (rRetiredS xs) := by
  refine sat_walk (fn := Try.f114) rfl rfl rfl (Nat.le_of_ble_eq_true rfl) fun fr hP hN hbnd => ?_
  have hE : (envOf fr Try.prog).Ok := envOf_ok hP
  have hM := follows_of hP
  have hS : ∀ {draw ops}, statB Try.f114.ntmps draw ops = true → statB (envOf fr Try.prog).fr.N draw ops = true := fun h => by rw [envOf_fr, hN]; exact h
  have hx : xs.length ≤ 1048576 := by unfold wRetiredS at h; omega
  have hw : ∀ k, k < xs.length → wRetired (xs.getD k default) ≤ 1048576 := fun k hk => by
    have := sumW_get (w := wRetired) (d := default) hk; unfold wRetiredS at h; omega
  repeat' (first
    | exact True.intro
    | refine ev_seq ?_
    | ((first | refine vgd_go ?_ | refine ev_region hE hM (hS (by decide +kernel)) ?_ | refine ev_if ?_ | refine end_ret hE rfl rfl ?_ | refine end_norm hE rfl rfl ?_ | refine endG_ret [] hE rfl ?_ | refine endG_norm [] hE rfl ?_ | refine vcall_A ?_); simp (maxSteps := 2000000) only [go_sem, hP, ↓reduceIte, Nat.reduceAdd, Nat.reduceMul, Nat.reduceEqDiff, Nat.reduceSub, Nat.reduceLeDiff, reduceCtorEq])
    | refine ev_skip ?_ | refine ev_block ?_ | refine ev_blk ?_ | refine ev_ret ?_ | refine ev_exit ?_ | refine evx_code_ret ?_ | refine evx_blk_ret ?_ | refine evx_lp_ret ?_
    | refine evx_code_exit ?_ | refine evx_lp_exit ?_ | refine evx_blk_hit ?_ | refine evx_blk_pass (by decide) ?_
    | refine And.intro ?_ ?_ | intro _ | decide +kernel | omega)
  refine ev_loop (ι := Nat) (fun k => [(0, .c (sRetiredS xs)), (3, .ref 4112), (4, .c (.int .i64 k))]) (fun k => [(4112, .arr true 163 2 ((mix xs ⟨0, []⟩ k).map oRetired))]) (fun _ => []) (fun k => k ≤ xs.length) (fun k => xs.length - k) 0 [] (by simp) (by simp only [go_sem, hP, ↓reduceIte, Nat.reduceAdd, Nat.reduceMul, Nat.reduceEqDiff, Nat.reduceSub, Nat.reduceLeDiff, reduceCtorEq]; simp [mix_zero, oRetired]) ?_
  intro k hk
  repeat' (first
    | exact True.intro
    | refine ev_seq ?_
    | ((first | refine vgd_go ?_ | refine ev_region hE hM (hS (by decide +kernel)) ?_ | refine ev_if ?_ | refine end_ret hE rfl rfl ?_ | refine end_norm hE rfl rfl ?_ | refine endG_ret [] hE rfl ?_ | refine endG_norm [] hE rfl ?_ | refine vcallB_of hP (s_toRetired (xs.getD k default) (hw k (by omega))) ?_ | refine vcall_A ?_); simp (maxSteps := 2000000) only [go_sem, hP, ↓reduceIte, Nat.reduceAdd, Nat.reduceMul, Nat.reduceEqDiff, Nat.reduceSub, Nat.reduceLeDiff, reduceCtorEq, mix_length hk])
    | refine ev_skip ?_ | refine ev_block ?_ | refine ev_blk ?_ | refine ev_ret ?_ | refine ev_exit ?_ | refine evx_code_ret ?_ | refine evx_blk_ret ?_ | refine evx_lp_ret ?_
    | refine evx_code_exit ?_ | refine evx_lp_exit ?_ | refine evx_blk_hit ?_ | refine evx_blk_pass (by decide) ?_
    | refine And.intro ?_ ?_ | intro _ | decide +kernel | omega)
  · exact ev_lp (k + 1) [] (by omega) (by omega) (by simp only [go_sem, hP, ↓reduceIte, Nat.reduceAdd, Nat.reduceMul, Nat.reduceEqDiff, Nat.reduceSub, Nat.reduceLeDiff, reduceCtorEq]; simp; exact ⟨wrap_succ (by omega) hx, mix_set_map (f := oRetired) (by omega)⟩)
  · rw [mix_full (by omega)]
theorem s_szRetiredS (xs : List Retired) (left : Int) (h0 : 0 ≤ left) (h1 : left ≤ 1048576) : Sat Try.prog 107 [aRetiredS xs, aI left] true (rI (lessN (wRetiredS xs) left)) := by
  refine sat_walk (fn := Try.f107) rfl rfl rfl (Nat.le_of_ble_eq_true rfl) fun fr hP hN hbnd => ?_
  have hE : (envOf fr Try.prog).Ok := envOf_ok hP
  have hM := follows_of hP
  have hS : ∀ {draw ops}, statB Try.f107.ntmps draw ops = true → statB (envOf fr Try.prog).fr.N draw ops = true := fun h => by rw [envOf_fr, hN]; exact h
  have hlen := bnd_RetiredS hbnd
  have hm : maxLen = 9223372036854775807 := rfl
  have hw : IntKind.i64.wrap (left - xs.length) = left - xs.length := i64_in _ (by omega)
  repeat' (first
    | exact True.intro
    | refine ev_seq ?_
    | ((first | refine vgd_go ?_ | refine ev_region hE hM (hS (by decide +kernel)) ?_ | refine ev_if ?_ | refine end_ret hE rfl rfl ?_ | refine end_norm hE rfl rfl ?_ | refine endG_ret [] hE rfl ?_ | refine endG_norm [] hE rfl ?_ | refine vcall_A ?_); simp (maxSteps := 2000000) only [go_sem, hP, ↓reduceIte, Nat.reduceAdd, Nat.reduceMul, Nat.reduceEqDiff, Nat.reduceSub, Nat.reduceLeDiff, reduceCtorEq, hw])
    | refine ev_skip ?_ | refine ev_block ?_ | refine ev_blk ?_ | refine ev_ret ?_ | refine ev_exit ?_ | refine evx_code_ret ?_ | refine evx_blk_ret ?_ | refine evx_lp_ret ?_
    | refine evx_code_exit ?_ | refine evx_lp_exit ?_ | refine evx_blk_hit ?_ | refine evx_blk_pass (by decide) ?_
    | refine And.intro ?_ ?_ | intro _ | decide +kernel | omega)
  · rename_i h; simp only [lessN, wRetiredS] at *; omega
  rename_i h
  refine ev_loop (ι := Nat) (fun k => [(0, .c (sRetiredS xs)), (1, .c (.int .i64 (left - xs.length - sumW wRetired (xs.take k)))), (5, .c (.int .i64 k))]) (fun k => []) (fun _ => []) (fun k => k ≤ xs.length ∧ (0 : Int) ≤ left - xs.length - sumW wRetired (xs.take k)) (fun k => xs.length - k) 0 [] (by simp [allLt_zero] <;> omega) (by simp only [go_sem, hP, ↓reduceIte, Nat.reduceAdd, Nat.reduceMul, Nat.reduceEqDiff, Nat.reduceSub, Nat.reduceLeDiff, reduceCtorEq]; simp) ?_
  intro k hk
  have hstep := fun h : k < xs.length => sumW_step (w := wRetired) (d := default) h
  have hle := sumW_le (w := wRetired) (xs := xs) (k + 1)
  repeat' (first
    | exact True.intro
    | refine ev_seq ?_
    | ((first | refine vgd_go ?_ | refine ev_region hE hM (hS (by decide +kernel)) ?_ | refine ev_if ?_ | refine end_ret hE rfl rfl ?_ | refine end_norm hE rfl rfl ?_ | refine endG_ret [] hE rfl ?_ | refine endG_norm [] hE rfl ?_ | refine vcallB_of hP (s_szRetired (xs.getD k default) _ hk.2 (by omega)) ?_ | refine vcall_A ?_); simp (maxSteps := 2000000) only [go_sem, hP, ↓reduceIte, Nat.reduceAdd, Nat.reduceMul, Nat.reduceEqDiff, Nat.reduceSub, Nat.reduceLeDiff, reduceCtorEq])
    | refine ev_skip ?_ | refine ev_block ?_ | refine ev_blk ?_ | refine ev_ret ?_ | refine ev_exit ?_ | refine evx_code_ret ?_ | refine evx_blk_ret ?_ | refine evx_lp_ret ?_
    | refine evx_code_exit ?_ | refine evx_lp_exit ?_ | refine evx_blk_hit ?_ | refine evx_blk_pass (by decide) ?_
    | refine And.intro ?_ ?_ | intro _ | decide +kernel | omega)
  · have := hstep (by omega)
    simp only [lessN, wRetiredS] at *; omega
  · rename_i hk1 hk2
    have h8 := hstep (by omega)
    have h9 : lessN (wRetired (xs.getD k default)) (left - xs.length - sumW wRetired (xs.take k)) = left - xs.length - sumW wRetired (xs.take (k + 1)) := by simp only [lessN] at *; omega
    refine ev_lp (k + 1) [] ⟨by omega, by rw [← h9]; omega⟩ (by omega) (by simp only [go_sem, hP, ↓reduceIte, Nat.reduceAdd, Nat.reduceMul, Nat.reduceEqDiff, Nat.reduceSub, Nat.reduceLeDiff, reduceCtorEq, h9]; simp; exact wrap_nat (by omega) hlen)
  · rw [sumW_done (by omega)] at hk ⊢
    simp only [lessN, wRetiredS] at *; omega
end Go.Proofs.Ytheclfollianjaa.W
