/- Contracts of functions that the statements of this seat reach: what each returns; it writes to nothing of old. No condition but those that each theorem states. -/
import Derived.Test.YtcephdpooijciaaPk
open Go Go.Vm Go.Proofs Go.IntWalk Go.RowKit
set_option maxRecDepth 100000
set_option maxHeartbeats 4000000
set_option linter.unusedSimpArgs false
set_option linter.unusedVariables false
set_option linter.unusedSectionVars false
namespace Go.Proofs.Ytcephdpooijciaa.W
attribute [local irreducible] kJ ev evx vops vstep vgo vgd vget vcall vcallFn vcallA vcallB vts vres vcond vbin
@[go_sem] theorem ty2 : tyI Try.prog 2 = some { size := 1, bytes := 8, zv := Value.int IntKind.i64 (Int.ofNat 0), kind := TK.int IntKind.i64, cts := [(0, 0)], scal := true, psz := 0, zts := [T.c (C.int IntKind.i64 (Int.ofNat 0))] } := by rfl
@[go_sem] theorem ty3 : tyI Try.prog 3 = some { size := 1, bytes := 8, zv := Value.int IntKind.i64 (Int.ofNat 0), kind := TK.int IntKind.i64, cts := [(0, 0)], scal := true, psz := 0, zts := [T.c (C.int IntKind.i64 (Int.ofNat 0))] } := by rfl
@[go_sem] theorem ty4 : tyI Try.prog 4 = some { size := 1, bytes := 1, zv := Value.bool false, kind := TK.bool, cts := [(0, 0)], scal := true, psz := 0, zts := [T.c (C.bool false)] } := by rfl
@[go_sem] theorem ty5 : tyI Try.prog 5 = some { size := 1, bytes := 1, zv := Value.int IntKind.u8 (Int.ofNat 0), kind := TK.int IntKind.u8, cts := [(0, 0)], scal := true, psz := 0, zts := [T.c (C.int IntKind.u8 (Int.ofNat 0))] } := by rfl
@[go_sem] theorem ty12 : tyI Try.prog 12 = some { size := 1, bytes := 8, zv := Value.int IntKind.u64 (Int.ofNat 0), kind := TK.int IntKind.u64, cts := [(0, 0)], scal := true, psz := 0, zts := [T.c (C.int IntKind.u64 (Int.ofNat 0))] } := by rfl
@[go_sem] theorem ty21 : tyI Try.prog 21 = some { size := 1, bytes := 4, zv := Value.int IntKind.i32 (Int.ofNat 0), kind := TK.int IntKind.i32, cts := [(0, 0)], scal := true, psz := 0, zts := [T.c (C.int IntKind.i32 (Int.ofNat 0))] } := by rfl
@[go_sem] theorem ty22 : tyI Try.prog 22 = some { size := 1, bytes := 24, zv := Value.slice none 0 0, kind := TK.slice 56, cts := [(56, 4)], scal := false, psz := 0, zts := [T.nilS] } := by rfl
@[go_sem] theorem ty23 : tyI Try.prog 23 = some { size := 1, bytes := 24, zv := Value.slice none 0 0, kind := TK.slice 2, cts := [(2, 1)], scal := false, psz := 0, zts := [T.nilS] } := by rfl
@[go_sem] theorem ty24 : tyI Try.prog 24 = some { size := 1, bytes := 24, zv := Value.slice none 0 0, kind := TK.slice 241, cts := [(241, 2)], scal := false, psz := 0, zts := [T.nilS] } := by rfl
@[go_sem] theorem ty25 : tyI Try.prog 25 = some { size := 4, bytes := 80, zv := Value.agg { toList := [Value.int IntKind.i64 (Int.ofNat 0), Value.slice none 0 0, Value.slice none 0 0, Value.slice none 0 0] }, kind := TK.struct [(0, 2), (1, 22), (2, 23), (3, 24)], cts := [(0, 0), (56, 4), (2, 1), (241, 2)], scal := false, psz := 0, zts := [T.c (C.int IntKind.i64 (Int.ofNat 0)), T.nilS, T.nilS, T.nilS] } := by rfl
@[go_sem] theorem ty26 : tyI Try.prog 26 = some { size := 4, bytes := 80, zv := Value.agg { toList := [Value.int IntKind.i64 (Int.ofNat 0), Value.slice none 0 0, Value.slice none 0 0, Value.slice none 0 0] }, kind := TK.struct [(0, 2), (1, 22), (2, 23), (3, 24)], cts := [(0, 0), (56, 4), (2, 1), (241, 2)], scal := false, psz := 0, zts := [T.c (C.int IntKind.i64 (Int.ofNat 0)), T.nilS, T.nilS, T.nilS] } := by rfl
@[go_sem] theorem ty27 : tyI Try.prog 27 = some { size := 8, bytes := 112, zv := Value.agg { toList := [Value.int IntKind.i64 (Int.ofNat 0), Value.int IntKind.i64 (Int.ofNat 0), Value.slice none 0 0, Value.slice none 0 0, Value.slice none 0 0, Value.int IntKind.i64 (Int.ofNat 0), Value.int IntKind.i64 (Int.ofNat 0), Value.int IntKind.i64 (Int.ofNat 0)] }, kind := TK.struct [(0, 2), (1, 26), (5, 2), (6, 2), (7, 2)], cts := [(0, 0), (0, 0), (56, 4), (2, 1), (241, 2), (0, 0), (0, 0), (0, 0)], scal := false, psz := 0, zts := [T.c (C.int IntKind.i64 (Int.ofNat 0)), T.c (C.int IntKind.i64 (Int.ofNat 0)), T.nilS, T.nilS, T.nilS, T.c (C.int IntKind.i64 (Int.ofNat 0)), T.c (C.int IntKind.i64 (Int.ofNat 0)), T.c (C.int IntKind.i64 (Int.ofNat 0))] } := by rfl
@[go_sem] theorem ty28 : tyI Try.prog 28 = some { size := 8, bytes := 112, zv := Value.agg { toList := [Value.int IntKind.i64 (Int.ofNat 0), Value.int IntKind.i64 (Int.ofNat 0), Value.slice none 0 0, Value.slice none 0 0, Value.slice none 0 0, Value.int IntKind.i64 (Int.ofNat 0), Value.int IntKind.i64 (Int.ofNat 0), Value.int IntKind.i64 (Int.ofNat 0)] }, kind := TK.struct [(0, 2), (1, 26), (5, 2), (6, 2), (7, 2)], cts := [(0, 0), (0, 0), (56, 4), (2, 1), (241, 2), (0, 0), (0, 0), (0, 0)], scal := false, psz := 0, zts := [T.c (C.int IntKind.i64 (Int.ofNat 0)), T.c (C.int IntKind.i64 (Int.ofNat 0)), T.nilS, T.nilS, T.nilS, T.c (C.int IntKind.i64 (Int.ofNat 0)), T.c (C.int IntKind.i64 (Int.ofNat 0)), T.c (C.int IntKind.i64 (Int.ofNat 0))] } := by rfl
@[go_sem] theorem ty29 : tyI Try.prog 29 = some { size := 9, bytes := 120, zv := Value.agg { toList := [Value.int IntKind.i64 (Int.ofNat 0), Value.int IntKind.i64 (Int.ofNat 0), Value.int IntKind.i64 (Int.ofNat 0), Value.slice none 0 0, Value.slice none 0 0, Value.slice none 0 0, Value.int IntKind.i64 (Int.ofNat 0), Value.int IntKind.i64 (Int.ofNat 0), Value.int IntKind.i64 (Int.ofNat 0)] }, kind := TK.struct [(0, 2), (1, 28)], cts := [(0, 0), (0, 0), (0, 0), (56, 4), (2, 1), (241, 2), (0, 0), (0, 0), (0, 0)], scal := false, psz := 0, zts := [T.c (C.int IntKind.i64 (Int.ofNat 0)), T.c (C.int IntKind.i64 (Int.ofNat 0)), T.c (C.int IntKind.i64 (Int.ofNat 0)), T.nilS, T.nilS, T.nilS, T.c (C.int IntKind.i64 (Int.ofNat 0)), T.c (C.int IntKind.i64 (Int.ofNat 0)), T.c (C.int IntKind.i64 (Int.ofNat 0))] } := by rfl
@[go_sem] theorem ty30 : tyI Try.prog 30 = some { size := 9, bytes := 120, zv := Value.agg { toList := [Value.int IntKind.i64 (Int.ofNat 0), Value.int IntKind.i64 (Int.ofNat 0), Value.int IntKind.i64 (Int.ofNat 0), Value.slice none 0 0, Value.slice none 0 0, Value.slice none 0 0, Value.int IntKind.i64 (Int.ofNat 0), Value.int IntKind.i64 (Int.ofNat 0), Value.int IntKind.i64 (Int.ofNat 0)] }, kind := TK.struct [(0, 2), (1, 28)], cts := [(0, 0), (0, 0), (0, 0), (56, 4), (2, 1), (241, 2), (0, 0), (0, 0), (0, 0)], scal := false, psz := 0, zts := [T.c (C.int IntKind.i64 (Int.ofNat 0)), T.c (C.int IntKind.i64 (Int.ofNat 0)), T.c (C.int IntKind.i64 (Int.ofNat 0)), T.nilS, T.nilS, T.nilS, T.c (C.int IntKind.i64 (Int.ofNat 0)), T.c (C.int IntKind.i64 (Int.ofNat 0)), T.c (C.int IntKind.i64 (Int.ofNat 0))] } := by rfl
@[go_sem] theorem ty35 : tyI Try.prog 35 = some { size := 1, bytes := 24, zv := Value.slice none 0 0, kind := TK.slice 104, cts := [(104, 4)], scal := false, psz := 0, zts := [T.nilS] } := by rfl
@[go_sem] theorem ty37 : tyI Try.prog 37 = some { size := 2, bytes := 32, zv := Value.agg { toList := [Value.int IntKind.i64 (Int.ofNat 0), Value.slice none 0 0] }, kind := TK.struct [(0, 2), (1, 23)], cts := [(0, 0), (2, 1)], scal := false, psz := 0, zts := [T.c (C.int IntKind.i64 (Int.ofNat 0)), T.nilS] } := by rfl
@[go_sem] theorem ty38 : tyI Try.prog 38 = some { size := 2, bytes := 32, zv := Value.agg { toList := [Value.int IntKind.i64 (Int.ofNat 0), Value.slice none 0 0] }, kind := TK.struct [(0, 2), (1, 23)], cts := [(0, 0), (2, 1)], scal := false, psz := 0, zts := [T.c (C.int IntKind.i64 (Int.ofNat 0)), T.nilS] } := by rfl
@[go_sem] theorem ty40 : tyI Try.prog 40 = some { size := 1, bytes := 24, zv := Value.slice none 0 0, kind := TK.slice 110, cts := [(110, 4)], scal := false, psz := 0, zts := [T.nilS] } := by rfl
@[go_sem] theorem ty47 : tyI Try.prog 47 = some { size := 4, bytes := 48, zv := Value.agg { toList := [Value.int IntKind.i64 (Int.ofNat 0), Value.int IntKind.i64 (Int.ofNat 0), Value.int IntKind.i64 (Int.ofNat 0), Value.slice none 0 0] }, kind := TK.struct [(0, 2), (1, 2), (2, 2), (3, 35)], cts := [(0, 0), (0, 0), (0, 0), (104, 4)], scal := false, psz := 0, zts := [T.c (C.int IntKind.i64 (Int.ofNat 0)), T.c (C.int IntKind.i64 (Int.ofNat 0)), T.c (C.int IntKind.i64 (Int.ofNat 0)), T.nilS] } := by rfl
@[go_sem] theorem ty48 : tyI Try.prog 48 = some { size := 4, bytes := 48, zv := Value.agg { toList := [Value.int IntKind.i64 (Int.ofNat 0), Value.int IntKind.i64 (Int.ofNat 0), Value.int IntKind.i64 (Int.ofNat 0), Value.slice none 0 0] }, kind := TK.struct [(0, 2), (1, 2), (2, 2), (3, 35)], cts := [(0, 0), (0, 0), (0, 0), (104, 4)], scal := false, psz := 0, zts := [T.c (C.int IntKind.i64 (Int.ofNat 0)), T.c (C.int IntKind.i64 (Int.ofNat 0)), T.c (C.int IntKind.i64 (Int.ofNat 0)), T.nilS] } := by rfl
@[go_sem] theorem ty50 : tyI Try.prog 50 = some { size := 2, bytes := 48, zv := Value.agg { toList := [Value.slice none 0 0, Value.slice none 0 0] }, kind := TK.struct [(0, 23), (1, 23)], cts := [(2, 1), (2, 1)], scal := false, psz := 0, zts := [T.nilS, T.nilS] } := by rfl
@[go_sem] theorem ty51 : tyI Try.prog 51 = some { size := 2, bytes := 48, zv := Value.agg { toList := [Value.slice none 0 0, Value.slice none 0 0] }, kind := TK.struct [(0, 23), (1, 23)], cts := [(2, 1), (2, 1)], scal := false, psz := 0, zts := [T.nilS, T.nilS] } := by rfl
@[go_sem] theorem ty52 : tyI Try.prog 52 = some { size := 3, bytes := 56, zv := Value.agg { toList := [Value.int IntKind.i64 (Int.ofNat 0), Value.slice none 0 0, Value.slice none 0 0] }, kind := TK.struct [(0, 2), (1, 51)], cts := [(0, 0), (2, 1), (2, 1)], scal := false, psz := 0, zts := [T.c (C.int IntKind.i64 (Int.ofNat 0)), T.nilS, T.nilS] } := by rfl
@[go_sem] theorem ty53 : tyI Try.prog 53 = some { size := 3, bytes := 56, zv := Value.agg { toList := [Value.int IntKind.i64 (Int.ofNat 0), Value.slice none 0 0, Value.slice none 0 0] }, kind := TK.struct [(0, 2), (1, 51)], cts := [(0, 0), (2, 1), (2, 1)], scal := false, psz := 0, zts := [T.c (C.int IntKind.i64 (Int.ofNat 0)), T.nilS, T.nilS] } := by rfl
@[go_sem] theorem ty55 : tyI Try.prog 55 = some { size := 4, bytes := 48, zv := Value.agg { toList := [Value.int IntKind.i64 (Int.ofNat 0), Value.int IntKind.i64 (Int.ofNat 0), Value.int IntKind.i64 (Int.ofNat 0), Value.slice none 0 0] }, kind := TK.struct [(0, 2), (1, 2), (2, 2), (3, 40)], cts := [(0, 0), (0, 0), (0, 0), (110, 4)], scal := false, psz := 0, zts := [T.c (C.int IntKind.i64 (Int.ofNat 0)), T.c (C.int IntKind.i64 (Int.ofNat 0)), T.c (C.int IntKind.i64 (Int.ofNat 0)), T.nilS] } := by rfl
@[go_sem] theorem ty56 : tyI Try.prog 56 = some { size := 4, bytes := 48, zv := Value.agg { toList := [Value.int IntKind.i64 (Int.ofNat 0), Value.int IntKind.i64 (Int.ofNat 0), Value.int IntKind.i64 (Int.ofNat 0), Value.slice none 0 0] }, kind := TK.struct [(0, 2), (1, 2), (2, 2), (3, 40)], cts := [(0, 0), (0, 0), (0, 0), (110, 4)], scal := false, psz := 0, zts := [T.c (C.int IntKind.i64 (Int.ofNat 0)), T.c (C.int IntKind.i64 (Int.ofNat 0)), T.c (C.int IntKind.i64 (Int.ofNat 0)), T.nilS] } := by rfl
@[go_sem] theorem ty63 : tyI Try.prog 63 = some { size := 1, bytes := 24, zv := Value.slice none 0 0, kind := TK.slice 48, cts := [(48, 4)], scal := false, psz := 0, zts := [T.nilS] } := by rfl
@[go_sem] theorem ty64 : tyI Try.prog 64 = some { size := 1, bytes := 24, zv := Value.slice none 0 0, kind := TK.slice 243, cts := [(243, 2)], scal := false, psz := 0, zts := [T.nilS] } := by rfl
@[go_sem] theorem ty65 : tyI Try.prog 65 = some { size := 4, bytes := 80, zv := Value.agg { toList := [Value.int IntKind.i64 (Int.ofNat 0), Value.slice none 0 0, Value.slice none 0 0, Value.slice none 0 0] }, kind := TK.struct [(0, 2), (1, 63), (2, 23), (3, 64)], cts := [(0, 0), (48, 4), (2, 1), (243, 2)], scal := false, psz := 0, zts := [T.c (C.int IntKind.i64 (Int.ofNat 0)), T.nilS, T.nilS, T.nilS] } := by rfl
@[go_sem] theorem ty66 : tyI Try.prog 66 = some { size := 4, bytes := 80, zv := Value.agg { toList := [Value.int IntKind.i64 (Int.ofNat 0), Value.slice none 0 0, Value.slice none 0 0, Value.slice none 0 0] }, kind := TK.struct [(0, 2), (1, 63), (2, 23), (3, 64)], cts := [(0, 0), (48, 4), (2, 1), (243, 2)], scal := false, psz := 0, zts := [T.c (C.int IntKind.i64 (Int.ofNat 0)), T.nilS, T.nilS, T.nilS] } := by rfl
@[go_sem] theorem ty67 : tyI Try.prog 67 = some { size := 8, bytes := 112, zv := Value.agg { toList := [Value.int IntKind.i64 (Int.ofNat 0), Value.int IntKind.i64 (Int.ofNat 0), Value.slice none 0 0, Value.slice none 0 0, Value.slice none 0 0, Value.int IntKind.i64 (Int.ofNat 0), Value.int IntKind.i64 (Int.ofNat 0), Value.int IntKind.i64 (Int.ofNat 0)] }, kind := TK.struct [(0, 2), (1, 66), (5, 2), (6, 2), (7, 2)], cts := [(0, 0), (0, 0), (48, 4), (2, 1), (243, 2), (0, 0), (0, 0), (0, 0)], scal := false, psz := 0, zts := [T.c (C.int IntKind.i64 (Int.ofNat 0)), T.c (C.int IntKind.i64 (Int.ofNat 0)), T.nilS, T.nilS, T.nilS, T.c (C.int IntKind.i64 (Int.ofNat 0)), T.c (C.int IntKind.i64 (Int.ofNat 0)), T.c (C.int IntKind.i64 (Int.ofNat 0))] } := by rfl
@[go_sem] theorem ty68 : tyI Try.prog 68 = some { size := 8, bytes := 112, zv := Value.agg { toList := [Value.int IntKind.i64 (Int.ofNat 0), Value.int IntKind.i64 (Int.ofNat 0), Value.slice none 0 0, Value.slice none 0 0, Value.slice none 0 0, Value.int IntKind.i64 (Int.ofNat 0), Value.int IntKind.i64 (Int.ofNat 0), Value.int IntKind.i64 (Int.ofNat 0)] }, kind := TK.struct [(0, 2), (1, 66), (5, 2), (6, 2), (7, 2)], cts := [(0, 0), (0, 0), (48, 4), (2, 1), (243, 2), (0, 0), (0, 0), (0, 0)], scal := false, psz := 0, zts := [T.c (C.int IntKind.i64 (Int.ofNat 0)), T.c (C.int IntKind.i64 (Int.ofNat 0)), T.nilS, T.nilS, T.nilS, T.c (C.int IntKind.i64 (Int.ofNat 0)), T.c (C.int IntKind.i64 (Int.ofNat 0)), T.c (C.int IntKind.i64 (Int.ofNat 0))] } := by rfl
@[go_sem] theorem ty69 : tyI Try.prog 69 = some { size := 1, bytes := 24, zv := Value.slice none 0 0, kind := TK.slice 86, cts := [(86, 3)], scal := false, psz := 0, zts := [T.nilS] } := by rfl
@[go_sem] theorem ty70 : tyI Try.prog 70 = some { size := 1, bytes := 24, zv := Value.slice none 0 0, kind := TK.slice 4, cts := [(4, 1)], scal := false, psz := 0, zts := [T.nilS] } := by rfl
@[go_sem] theorem ty71 : tyI Try.prog 71 = some { size := 1, bytes := 24, zv := Value.slice none 0 0, kind := TK.slice 201, cts := [(201, 14)], scal := false, psz := 0, zts := [T.nilS] } := by rfl
@[go_sem] theorem ty72 : tyI Try.prog 72 = some { size := 13, bytes := 216, zv := Value.agg { toList := [Value.int IntKind.i64 (Int.ofNat 0), Value.int IntKind.i64 (Int.ofNat 0), Value.slice none 0 0, Value.slice none 0 0, Value.slice none 0 0, Value.int IntKind.i64 (Int.ofNat 0), Value.int IntKind.i64 (Int.ofNat 0), Value.int IntKind.i64 (Int.ofNat 0), Value.slice none 0 0, Value.int IntKind.i64 (Int.ofNat 0), Value.slice none 0 0, Value.slice none 0 0, Value.slice none 0 0] }, kind := TK.struct [(0, 68), (8, 69), (9, 2), (10, 70), (11, 23), (12, 71)], cts := [(0, 0), (0, 0), (48, 4), (2, 1), (243, 2), (0, 0), (0, 0), (0, 0), (86, 3), (0, 0), (4, 1), (2, 1), (201, 14)], scal := false, psz := 0, zts := [T.c (C.int IntKind.i64 (Int.ofNat 0)), T.c (C.int IntKind.i64 (Int.ofNat 0)), T.nilS, T.nilS, T.nilS, T.c (C.int IntKind.i64 (Int.ofNat 0)), T.c (C.int IntKind.i64 (Int.ofNat 0)), T.c (C.int IntKind.i64 (Int.ofNat 0)), T.nilS, T.c (C.int IntKind.i64 (Int.ofNat 0)), T.nilS, T.nilS, T.nilS] } := by rfl
@[go_sem] theorem ty73 : tyI Try.prog 73 = some { size := 13, bytes := 216, zv := Value.agg { toList := [Value.int IntKind.i64 (Int.ofNat 0), Value.int IntKind.i64 (Int.ofNat 0), Value.slice none 0 0, Value.slice none 0 0, Value.slice none 0 0, Value.int IntKind.i64 (Int.ofNat 0), Value.int IntKind.i64 (Int.ofNat 0), Value.int IntKind.i64 (Int.ofNat 0), Value.slice none 0 0, Value.int IntKind.i64 (Int.ofNat 0), Value.slice none 0 0, Value.slice none 0 0, Value.slice none 0 0] }, kind := TK.struct [(0, 68), (8, 69), (9, 2), (10, 70), (11, 23), (12, 71)], cts := [(0, 0), (0, 0), (48, 4), (2, 1), (243, 2), (0, 0), (0, 0), (0, 0), (86, 3), (0, 0), (4, 1), (2, 1), (201, 14)], scal := false, psz := 0, zts := [T.c (C.int IntKind.i64 (Int.ofNat 0)), T.c (C.int IntKind.i64 (Int.ofNat 0)), T.nilS, T.nilS, T.nilS, T.c (C.int IntKind.i64 (Int.ofNat 0)), T.c (C.int IntKind.i64 (Int.ofNat 0)), T.c (C.int IntKind.i64 (Int.ofNat 0)), T.nilS, T.c (C.int IntKind.i64 (Int.ofNat 0)), T.nilS, T.nilS, T.nilS] } := by rfl
@[go_sem] theorem ty76 : tyI Try.prog 76 = some { size := 1, bytes := 24, zv := Value.slice none 0 0, kind := TK.slice 94, cts := [(94, 3)], scal := false, psz := 0, zts := [T.nilS] } := by rfl
@[go_sem] theorem ty77 : tyI Try.prog 77 = some { size := 1, bytes := 24, zv := Value.slice none 0 0, kind := TK.slice 209, cts := [(209, 14)], scal := false, psz := 0, zts := [T.nilS] } := by rfl
@[go_sem] theorem ty78 : tyI Try.prog 78 = some { size := 13, bytes := 216, zv := Value.agg { toList := [Value.int IntKind.i64 (Int.ofNat 0), Value.int IntKind.i64 (Int.ofNat 0), Value.slice none 0 0, Value.slice none 0 0, Value.slice none 0 0, Value.int IntKind.i64 (Int.ofNat 0), Value.int IntKind.i64 (Int.ofNat 0), Value.int IntKind.i64 (Int.ofNat 0), Value.slice none 0 0, Value.int IntKind.i64 (Int.ofNat 0), Value.slice none 0 0, Value.slice none 0 0, Value.slice none 0 0] }, kind := TK.struct [(0, 28), (8, 76), (9, 2), (10, 70), (11, 23), (12, 77)], cts := [(0, 0), (0, 0), (56, 4), (2, 1), (241, 2), (0, 0), (0, 0), (0, 0), (94, 3), (0, 0), (4, 1), (2, 1), (209, 14)], scal := false, psz := 0, zts := [T.c (C.int IntKind.i64 (Int.ofNat 0)), T.c (C.int IntKind.i64 (Int.ofNat 0)), T.nilS, T.nilS, T.nilS, T.c (C.int IntKind.i64 (Int.ofNat 0)), T.c (C.int IntKind.i64 (Int.ofNat 0)), T.c (C.int IntKind.i64 (Int.ofNat 0)), T.nilS, T.c (C.int IntKind.i64 (Int.ofNat 0)), T.nilS, T.nilS, T.nilS] } := by rfl
@[go_sem] theorem ty79 : tyI Try.prog 79 = some { size := 13, bytes := 216, zv := Value.agg { toList := [Value.int IntKind.i64 (Int.ofNat 0), Value.int IntKind.i64 (Int.ofNat 0), Value.slice none 0 0, Value.slice none 0 0, Value.slice none 0 0, Value.int IntKind.i64 (Int.ofNat 0), Value.int IntKind.i64 (Int.ofNat 0), Value.int IntKind.i64 (Int.ofNat 0), Value.slice none 0 0, Value.int IntKind.i64 (Int.ofNat 0), Value.slice none 0 0, Value.slice none 0 0, Value.slice none 0 0] }, kind := TK.struct [(0, 28), (8, 76), (9, 2), (10, 70), (11, 23), (12, 77)], cts := [(0, 0), (0, 0), (56, 4), (2, 1), (241, 2), (0, 0), (0, 0), (0, 0), (94, 3), (0, 0), (4, 1), (2, 1), (209, 14)], scal := false, psz := 0, zts := [T.c (C.int IntKind.i64 (Int.ofNat 0)), T.c (C.int IntKind.i64 (Int.ofNat 0)), T.nilS, T.nilS, T.nilS, T.c (C.int IntKind.i64 (Int.ofNat 0)), T.c (C.int IntKind.i64 (Int.ofNat 0)), T.c (C.int IntKind.i64 (Int.ofNat 0)), T.nilS, T.c (C.int IntKind.i64 (Int.ofNat 0)), T.nilS, T.nilS, T.nilS] } := by rfl
@[go_sem] theorem ty84 : tyI Try.prog 84 = some { size := 2, bytes := 48, zv := Value.agg { toList := [Value.slice none 0 0, Value.slice none 0 0] }, kind := TK.struct [(0, 23), (1, 23)], cts := [(2, 1), (2, 1)], scal := false, psz := 0, zts := [T.nilS, T.nilS] } := by rfl
@[go_sem] theorem ty85 : tyI Try.prog 85 = some { size := 3, bytes := 56, zv := Value.agg { toList := [Value.int IntKind.i64 (Int.ofNat 0), Value.slice none 0 0, Value.slice none 0 0] }, kind := TK.struct [(0, 2), (1, 84)], cts := [(0, 0), (2, 1), (2, 1)], scal := false, psz := 0, zts := [T.c (C.int IntKind.i64 (Int.ofNat 0)), T.nilS, T.nilS] } := by rfl
@[go_sem] theorem ty86 : tyI Try.prog 86 = some { size := 3, bytes := 56, zv := Value.agg { toList := [Value.int IntKind.i64 (Int.ofNat 0), Value.slice none 0 0, Value.slice none 0 0] }, kind := TK.struct [(0, 2), (1, 84)], cts := [(0, 0), (2, 1), (2, 1)], scal := false, psz := 0, zts := [T.c (C.int IntKind.i64 (Int.ofNat 0)), T.nilS, T.nilS] } := by rfl
@[go_sem] theorem ty89 : tyI Try.prog 89 = some { size := 2, bytes := 32, zv := Value.agg { toList := [Value.int IntKind.i64 (Int.ofNat 0), Value.slice none 0 0] }, kind := TK.struct [(0, 2), (1, 76)], cts := [(0, 0), (94, 3)], scal := false, psz := 0, zts := [T.c (C.int IntKind.i64 (Int.ofNat 0)), T.nilS] } := by rfl
@[go_sem] theorem ty90 : tyI Try.prog 90 = some { size := 2, bytes := 32, zv := Value.agg { toList := [Value.int IntKind.i64 (Int.ofNat 0), Value.slice none 0 0] }, kind := TK.struct [(0, 2), (1, 76)], cts := [(0, 0), (94, 3)], scal := false, psz := 0, zts := [T.c (C.int IntKind.i64 (Int.ofNat 0)), T.nilS] } := by rfl
@[go_sem] theorem ty93 : tyI Try.prog 93 = some { size := 3, bytes := 56, zv := Value.agg { toList := [Value.int IntKind.i64 (Int.ofNat 0), Value.slice none 0 0, Value.slice none 0 0] }, kind := TK.struct [(0, 2), (1, 51)], cts := [(0, 0), (2, 1), (2, 1)], scal := false, psz := 0, zts := [T.c (C.int IntKind.i64 (Int.ofNat 0)), T.nilS, T.nilS] } := by rfl
@[go_sem] theorem ty94 : tyI Try.prog 94 = some { size := 3, bytes := 56, zv := Value.agg { toList := [Value.int IntKind.i64 (Int.ofNat 0), Value.slice none 0 0, Value.slice none 0 0] }, kind := TK.struct [(0, 2), (1, 51)], cts := [(0, 0), (2, 1), (2, 1)], scal := false, psz := 0, zts := [T.c (C.int IntKind.i64 (Int.ofNat 0)), T.nilS, T.nilS] } := by rfl
@[go_sem] theorem ty103 : tyI Try.prog 103 = some { size := 4, bytes := 64, zv := Value.agg { toList := [Value.slice none 0 0, Value.slice none 0 0, Value.int IntKind.i64 (Int.ofNat 0), Value.int IntKind.i64 (Int.ofNat 0)] }, kind := TK.struct [(0, 84), (2, 2), (3, 2)], cts := [(2, 1), (2, 1), (0, 0), (0, 0)], scal := false, psz := 0, zts := [T.nilS, T.nilS, T.c (C.int IntKind.i64 (Int.ofNat 0)), T.c (C.int IntKind.i64 (Int.ofNat 0))] } := by rfl
@[go_sem] theorem ty104 : tyI Try.prog 104 = some { size := 4, bytes := 64, zv := Value.agg { toList := [Value.slice none 0 0, Value.slice none 0 0, Value.int IntKind.i64 (Int.ofNat 0), Value.int IntKind.i64 (Int.ofNat 0)] }, kind := TK.struct [(0, 84), (2, 2), (3, 2)], cts := [(2, 1), (2, 1), (0, 0), (0, 0)], scal := false, psz := 0, zts := [T.nilS, T.nilS, T.c (C.int IntKind.i64 (Int.ofNat 0)), T.c (C.int IntKind.i64 (Int.ofNat 0))] } := by rfl
@[go_sem] theorem ty106 : tyI Try.prog 106 = some { size := 5, bytes := 56, zv := Value.agg { toList := [Value.int IntKind.i64 (Int.ofNat 0), Value.int IntKind.i64 (Int.ofNat 0), Value.int IntKind.i64 (Int.ofNat 0), Value.int IntKind.i64 (Int.ofNat 0), Value.slice none 0 0] }, kind := TK.struct [(0, 2), (1, 56)], cts := [(0, 0), (0, 0), (0, 0), (0, 0), (110, 4)], scal := false, psz := 0, zts := [T.c (C.int IntKind.i64 (Int.ofNat 0)), T.c (C.int IntKind.i64 (Int.ofNat 0)), T.c (C.int IntKind.i64 (Int.ofNat 0)), T.c (C.int IntKind.i64 (Int.ofNat 0)), T.nilS] } := by rfl
@[go_sem] theorem ty107 : tyI Try.prog 107 = some { size := 5, bytes := 56, zv := Value.agg { toList := [Value.int IntKind.i64 (Int.ofNat 0), Value.int IntKind.i64 (Int.ofNat 0), Value.int IntKind.i64 (Int.ofNat 0), Value.int IntKind.i64 (Int.ofNat 0), Value.slice none 0 0] }, kind := TK.struct [(0, 2), (1, 56)], cts := [(0, 0), (0, 0), (0, 0), (0, 0), (110, 4)], scal := false, psz := 0, zts := [T.c (C.int IntKind.i64 (Int.ofNat 0)), T.c (C.int IntKind.i64 (Int.ofNat 0)), T.c (C.int IntKind.i64 (Int.ofNat 0)), T.c (C.int IntKind.i64 (Int.ofNat 0)), T.nilS] } := by rfl
@[go_sem] theorem ty109 : tyI Try.prog 109 = some { size := 4, bytes := 64, zv := Value.agg { toList := [Value.slice none 0 0, Value.slice none 0 0, Value.int IntKind.i64 (Int.ofNat 0), Value.int IntKind.i64 (Int.ofNat 0)] }, kind := TK.struct [(0, 51), (2, 2), (3, 2)], cts := [(2, 1), (2, 1), (0, 0), (0, 0)], scal := false, psz := 0, zts := [T.nilS, T.nilS, T.c (C.int IntKind.i64 (Int.ofNat 0)), T.c (C.int IntKind.i64 (Int.ofNat 0))] } := by rfl
@[go_sem] theorem ty110 : tyI Try.prog 110 = some { size := 4, bytes := 64, zv := Value.agg { toList := [Value.slice none 0 0, Value.slice none 0 0, Value.int IntKind.i64 (Int.ofNat 0), Value.int IntKind.i64 (Int.ofNat 0)] }, kind := TK.struct [(0, 51), (2, 2), (3, 2)], cts := [(2, 1), (2, 1), (0, 0), (0, 0)], scal := false, psz := 0, zts := [T.nilS, T.nilS, T.c (C.int IntKind.i64 (Int.ofNat 0)), T.c (C.int IntKind.i64 (Int.ofNat 0))] } := by rfl
@[go_sem] theorem ty125 : tyI Try.prog 125 = some { size := 6, bytes := 96, zv := Value.agg { toList := [Value.int IntKind.i64 (Int.ofNat 0), Value.int IntKind.i64 (Int.ofNat 0), Value.slice none 0 0, Value.slice none 0 0, Value.slice none 0 0, Value.int IntKind.i64 (Int.ofNat 0)] }, kind := TK.struct [(0, 2), (1, 26), (5, 2)], cts := [(0, 0), (0, 0), (56, 4), (2, 1), (241, 2), (0, 0)], scal := false, psz := 0, zts := [T.c (C.int IntKind.i64 (Int.ofNat 0)), T.c (C.int IntKind.i64 (Int.ofNat 0)), T.nilS, T.nilS, T.nilS, T.c (C.int IntKind.i64 (Int.ofNat 0))] } := by rfl
@[go_sem] theorem ty126 : tyI Try.prog 126 = some { size := 6, bytes := 96, zv := Value.agg { toList := [Value.int IntKind.i64 (Int.ofNat 0), Value.int IntKind.i64 (Int.ofNat 0), Value.slice none 0 0, Value.slice none 0 0, Value.slice none 0 0, Value.int IntKind.i64 (Int.ofNat 0)] }, kind := TK.struct [(0, 2), (1, 26), (5, 2)], cts := [(0, 0), (0, 0), (56, 4), (2, 1), (241, 2), (0, 0)], scal := false, psz := 0, zts := [T.c (C.int IntKind.i64 (Int.ofNat 0)), T.c (C.int IntKind.i64 (Int.ofNat 0)), T.nilS, T.nilS, T.nilS, T.c (C.int IntKind.i64 (Int.ofNat 0))] } := by rfl
@[go_sem] theorem ty153 : tyI Try.prog 153 = some { size := 1, bytes := 8, zv := Value.pointer none, kind := TK.other, cts := [(0, 0), (2, 1), (2, 1)], scal := false, psz := 3, zts := [T.un] } := by rfl
@[go_sem] theorem ty162 : tyI Try.prog 162 = some { size := 1, bytes := 8, zv := Value.pointer none, kind := TK.other, cts := [(2, 1), (2, 1), (0, 0), (0, 0)], scal := false, psz := 4, zts := [T.un] } := by rfl
@[go_sem] theorem ty166 : tyI Try.prog 166 = some { size := 1, bytes := 8, zv := Value.pointer none, kind := TK.other, cts := [(0, 0), (0, 0), (0, 0), (110, 4)], scal := false, psz := 4, zts := [T.un] } := by rfl
@[go_sem] theorem ty171 : tyI Try.prog 171 = some { size := 2, bytes := 16, zv := Value.agg { toList := [Value.int IntKind.i64 (Int.ofNat 0), Value.int IntKind.i64 (Int.ofNat 0)] }, kind := TK.struct [(0, 2), (1, 2)], cts := [(0, 0), (0, 0)], scal := true, psz := 0, zts := [T.c (C.int IntKind.i64 (Int.ofNat 0)), T.c (C.int IntKind.i64 (Int.ofNat 0))] } := by rfl
@[go_sem] theorem ty172 : tyI Try.prog 172 = some { size := 2, bytes := 16, zv := Value.agg { toList := [Value.int IntKind.i64 (Int.ofNat 0), Value.int IntKind.i64 (Int.ofNat 0)] }, kind := TK.struct [(0, 2), (1, 2)], cts := [(0, 0), (0, 0)], scal := true, psz := 0, zts := [T.c (C.int IntKind.i64 (Int.ofNat 0)), T.c (C.int IntKind.i64 (Int.ofNat 0))] } := by rfl
@[go_sem] theorem ty177 : tyI Try.prog 177 = some { size := 1, bytes := 8, zv := Value.pointer none, kind := TK.other, cts := [(2, 1), (2, 1)], scal := false, psz := 2, zts := [T.un] } := by rfl
@[go_sem] theorem ty181 : tyI Try.prog 181 = some { size := 1, bytes := 8, zv := Value.pointer none, kind := TK.other, cts := [(0, 0), (56, 4), (2, 1), (241, 2)], scal := false, psz := 4, zts := [T.un] } := by rfl
@[go_sem] theorem ty194 : tyI Try.prog 194 = some { size := 5, bytes := 88, zv := Value.agg { toList := [Value.int IntKind.i64 (Int.ofNat 0), Value.slice none 0 0, Value.slice none 0 0, Value.slice none 0 0, Value.int IntKind.i64 (Int.ofNat 0)] }, kind := TK.struct [(0, 2), (1, 84), (3, 23), (4, 2)], cts := [(0, 0), (2, 1), (2, 1), (2, 1), (0, 0)], scal := false, psz := 0, zts := [T.c (C.int IntKind.i64 (Int.ofNat 0)), T.nilS, T.nilS, T.nilS, T.c (C.int IntKind.i64 (Int.ofNat 0))] } := by rfl
@[go_sem] theorem ty195 : tyI Try.prog 195 = some { size := 5, bytes := 88, zv := Value.agg { toList := [Value.int IntKind.i64 (Int.ofNat 0), Value.slice none 0 0, Value.slice none 0 0, Value.slice none 0 0, Value.int IntKind.i64 (Int.ofNat 0)] }, kind := TK.struct [(0, 2), (1, 84), (3, 23), (4, 2)], cts := [(0, 0), (2, 1), (2, 1), (2, 1), (0, 0)], scal := false, psz := 0, zts := [T.c (C.int IntKind.i64 (Int.ofNat 0)), T.nilS, T.nilS, T.nilS, T.c (C.int IntKind.i64 (Int.ofNat 0))] } := by rfl
@[go_sem] theorem ty196 : tyI Try.prog 196 = some { size := 9, bytes := 152, zv := Value.agg { toList := [Value.int IntKind.i64 (Int.ofNat 0), Value.int IntKind.i64 (Int.ofNat 0), Value.slice none 0 0, Value.slice none 0 0, Value.int IntKind.i64 (Int.ofNat 0), Value.slice none 0 0, Value.slice none 0 0, Value.slice none 0 0, Value.int IntKind.i64 (Int.ofNat 0)] }, kind := TK.struct [(0, 2), (1, 86), (4, 195)], cts := [(0, 0), (0, 0), (2, 1), (2, 1), (0, 0), (2, 1), (2, 1), (2, 1), (0, 0)], scal := false, psz := 0, zts := [T.c (C.int IntKind.i64 (Int.ofNat 0)), T.c (C.int IntKind.i64 (Int.ofNat 0)), T.nilS, T.nilS, T.c (C.int IntKind.i64 (Int.ofNat 0)), T.nilS, T.nilS, T.nilS, T.c (C.int IntKind.i64 (Int.ofNat 0))] } := by rfl
@[go_sem] theorem ty197 : tyI Try.prog 197 = some { size := 9, bytes := 152, zv := Value.agg { toList := [Value.int IntKind.i64 (Int.ofNat 0), Value.int IntKind.i64 (Int.ofNat 0), Value.slice none 0 0, Value.slice none 0 0, Value.int IntKind.i64 (Int.ofNat 0), Value.slice none 0 0, Value.slice none 0 0, Value.slice none 0 0, Value.int IntKind.i64 (Int.ofNat 0)] }, kind := TK.struct [(0, 2), (1, 86), (4, 195)], cts := [(0, 0), (0, 0), (2, 1), (2, 1), (0, 0), (2, 1), (2, 1), (2, 1), (0, 0)], scal := false, psz := 0, zts := [T.c (C.int IntKind.i64 (Int.ofNat 0)), T.c (C.int IntKind.i64 (Int.ofNat 0)), T.nilS, T.nilS, T.c (C.int IntKind.i64 (Int.ofNat 0)), T.nilS, T.nilS, T.nilS, T.c (C.int IntKind.i64 (Int.ofNat 0))] } := by rfl
@[go_sem] theorem ty198 : tyI Try.prog 198 = some { size := 2, bytes := 32, zv := Value.agg { toList := [Value.int IntKind.i64 (Int.ofNat 0), Value.slice none 0 0] }, kind := TK.struct [(0, 2), (1, 69)], cts := [(0, 0), (86, 3)], scal := false, psz := 0, zts := [T.c (C.int IntKind.i64 (Int.ofNat 0)), T.nilS] } := by rfl
@[go_sem] theorem ty199 : tyI Try.prog 199 = some { size := 2, bytes := 32, zv := Value.agg { toList := [Value.int IntKind.i64 (Int.ofNat 0), Value.slice none 0 0] }, kind := TK.struct [(0, 2), (1, 69)], cts := [(0, 0), (86, 3)], scal := false, psz := 0, zts := [T.c (C.int IntKind.i64 (Int.ofNat 0)), T.nilS] } := by rfl
@[go_sem] theorem ty200 : tyI Try.prog 200 = some { size := 14, bytes := 208, zv := Value.agg { toList := [Value.int IntKind.i64 (Int.ofNat 0), Value.int IntKind.i64 (Int.ofNat 0), Value.int IntKind.i64 (Int.ofNat 0), Value.int IntKind.i64 (Int.ofNat 0), Value.int IntKind.i64 (Int.ofNat 0), Value.slice none 0 0, Value.slice none 0 0, Value.int IntKind.i64 (Int.ofNat 0), Value.slice none 0 0, Value.slice none 0 0, Value.slice none 0 0, Value.int IntKind.i64 (Int.ofNat 0), Value.int IntKind.i64 (Int.ofNat 0), Value.slice none 0 0] }, kind := TK.struct [(0, 2), (1, 2), (2, 2), (3, 197), (12, 199)], cts := [(0, 0), (0, 0), (0, 0), (0, 0), (0, 0), (2, 1), (2, 1), (0, 0), (2, 1), (2, 1), (2, 1), (0, 0), (0, 0), (86, 3)], scal := false, psz := 0, zts := [T.c (C.int IntKind.i64 (Int.ofNat 0)), T.c (C.int IntKind.i64 (Int.ofNat 0)), T.c (C.int IntKind.i64 (Int.ofNat 0)), T.c (C.int IntKind.i64 (Int.ofNat 0)), T.c (C.int IntKind.i64 (Int.ofNat 0)), T.nilS, T.nilS, T.c (C.int IntKind.i64 (Int.ofNat 0)), T.nilS, T.nilS, T.nilS, T.c (C.int IntKind.i64 (Int.ofNat 0)), T.c (C.int IntKind.i64 (Int.ofNat 0)), T.nilS] } := by rfl
@[go_sem] theorem ty201 : tyI Try.prog 201 = some { size := 14, bytes := 208, zv := Value.agg { toList := [Value.int IntKind.i64 (Int.ofNat 0), Value.int IntKind.i64 (Int.ofNat 0), Value.int IntKind.i64 (Int.ofNat 0), Value.int IntKind.i64 (Int.ofNat 0), Value.int IntKind.i64 (Int.ofNat 0), Value.slice none 0 0, Value.slice none 0 0, Value.int IntKind.i64 (Int.ofNat 0), Value.slice none 0 0, Value.slice none 0 0, Value.slice none 0 0, Value.int IntKind.i64 (Int.ofNat 0), Value.int IntKind.i64 (Int.ofNat 0), Value.slice none 0 0] }, kind := TK.struct [(0, 2), (1, 2), (2, 2), (3, 197), (12, 199)], cts := [(0, 0), (0, 0), (0, 0), (0, 0), (0, 0), (2, 1), (2, 1), (0, 0), (2, 1), (2, 1), (2, 1), (0, 0), (0, 0), (86, 3)], scal := false, psz := 0, zts := [T.c (C.int IntKind.i64 (Int.ofNat 0)), T.c (C.int IntKind.i64 (Int.ofNat 0)), T.c (C.int IntKind.i64 (Int.ofNat 0)), T.c (C.int IntKind.i64 (Int.ofNat 0)), T.c (C.int IntKind.i64 (Int.ofNat 0)), T.nilS, T.nilS, T.c (C.int IntKind.i64 (Int.ofNat 0)), T.nilS, T.nilS, T.nilS, T.c (C.int IntKind.i64 (Int.ofNat 0)), T.c (C.int IntKind.i64 (Int.ofNat 0)), T.nilS] } := by rfl
@[go_sem] theorem ty203 : tyI Try.prog 203 = some { size := 5, bytes := 88, zv := Value.agg { toList := [Value.int IntKind.i64 (Int.ofNat 0), Value.slice none 0 0, Value.slice none 0 0, Value.slice none 0 0, Value.int IntKind.i64 (Int.ofNat 0)] }, kind := TK.struct [(0, 2), (1, 51), (3, 23), (4, 2)], cts := [(0, 0), (2, 1), (2, 1), (2, 1), (0, 0)], scal := false, psz := 0, zts := [T.c (C.int IntKind.i64 (Int.ofNat 0)), T.nilS, T.nilS, T.nilS, T.c (C.int IntKind.i64 (Int.ofNat 0))] } := by rfl
@[go_sem] theorem ty204 : tyI Try.prog 204 = some { size := 5, bytes := 88, zv := Value.agg { toList := [Value.int IntKind.i64 (Int.ofNat 0), Value.slice none 0 0, Value.slice none 0 0, Value.slice none 0 0, Value.int IntKind.i64 (Int.ofNat 0)] }, kind := TK.struct [(0, 2), (1, 51), (3, 23), (4, 2)], cts := [(0, 0), (2, 1), (2, 1), (2, 1), (0, 0)], scal := false, psz := 0, zts := [T.c (C.int IntKind.i64 (Int.ofNat 0)), T.nilS, T.nilS, T.nilS, T.c (C.int IntKind.i64 (Int.ofNat 0))] } := by rfl
@[go_sem] theorem ty205 : tyI Try.prog 205 = some { size := 9, bytes := 152, zv := Value.agg { toList := [Value.int IntKind.i64 (Int.ofNat 0), Value.int IntKind.i64 (Int.ofNat 0), Value.slice none 0 0, Value.slice none 0 0, Value.int IntKind.i64 (Int.ofNat 0), Value.slice none 0 0, Value.slice none 0 0, Value.slice none 0 0, Value.int IntKind.i64 (Int.ofNat 0)] }, kind := TK.struct [(0, 2), (1, 94), (4, 204)], cts := [(0, 0), (0, 0), (2, 1), (2, 1), (0, 0), (2, 1), (2, 1), (2, 1), (0, 0)], scal := false, psz := 0, zts := [T.c (C.int IntKind.i64 (Int.ofNat 0)), T.c (C.int IntKind.i64 (Int.ofNat 0)), T.nilS, T.nilS, T.c (C.int IntKind.i64 (Int.ofNat 0)), T.nilS, T.nilS, T.nilS, T.c (C.int IntKind.i64 (Int.ofNat 0))] } := by rfl
@[go_sem] theorem ty206 : tyI Try.prog 206 = some { size := 9, bytes := 152, zv := Value.agg { toList := [Value.int IntKind.i64 (Int.ofNat 0), Value.int IntKind.i64 (Int.ofNat 0), Value.slice none 0 0, Value.slice none 0 0, Value.int IntKind.i64 (Int.ofNat 0), Value.slice none 0 0, Value.slice none 0 0, Value.slice none 0 0, Value.int IntKind.i64 (Int.ofNat 0)] }, kind := TK.struct [(0, 2), (1, 94), (4, 204)], cts := [(0, 0), (0, 0), (2, 1), (2, 1), (0, 0), (2, 1), (2, 1), (2, 1), (0, 0)], scal := false, psz := 0, zts := [T.c (C.int IntKind.i64 (Int.ofNat 0)), T.c (C.int IntKind.i64 (Int.ofNat 0)), T.nilS, T.nilS, T.c (C.int IntKind.i64 (Int.ofNat 0)), T.nilS, T.nilS, T.nilS, T.c (C.int IntKind.i64 (Int.ofNat 0))] } := by rfl
@[go_sem] theorem ty207 : tyI Try.prog 207 = some { size := 2, bytes := 32, zv := Value.agg { toList := [Value.int IntKind.i64 (Int.ofNat 0), Value.slice none 0 0] }, kind := TK.struct [(0, 2), (1, 76)], cts := [(0, 0), (94, 3)], scal := false, psz := 0, zts := [T.c (C.int IntKind.i64 (Int.ofNat 0)), T.nilS] } := by rfl
@[go_sem] theorem ty208 : tyI Try.prog 208 = some { size := 14, bytes := 208, zv := Value.agg { toList := [Value.int IntKind.i64 (Int.ofNat 0), Value.int IntKind.i64 (Int.ofNat 0), Value.int IntKind.i64 (Int.ofNat 0), Value.int IntKind.i64 (Int.ofNat 0), Value.int IntKind.i64 (Int.ofNat 0), Value.slice none 0 0, Value.slice none 0 0, Value.int IntKind.i64 (Int.ofNat 0), Value.slice none 0 0, Value.slice none 0 0, Value.slice none 0 0, Value.int IntKind.i64 (Int.ofNat 0), Value.int IntKind.i64 (Int.ofNat 0), Value.slice none 0 0] }, kind := TK.struct [(0, 2), (1, 2), (2, 2), (3, 206), (12, 207)], cts := [(0, 0), (0, 0), (0, 0), (0, 0), (0, 0), (2, 1), (2, 1), (0, 0), (2, 1), (2, 1), (2, 1), (0, 0), (0, 0), (94, 3)], scal := false, psz := 0, zts := [T.c (C.int IntKind.i64 (Int.ofNat 0)), T.c (C.int IntKind.i64 (Int.ofNat 0)), T.c (C.int IntKind.i64 (Int.ofNat 0)), T.c (C.int IntKind.i64 (Int.ofNat 0)), T.c (C.int IntKind.i64 (Int.ofNat 0)), T.nilS, T.nilS, T.c (C.int IntKind.i64 (Int.ofNat 0)), T.nilS, T.nilS, T.nilS, T.c (C.int IntKind.i64 (Int.ofNat 0)), T.c (C.int IntKind.i64 (Int.ofNat 0)), T.nilS] } := by rfl
@[go_sem] theorem ty209 : tyI Try.prog 209 = some { size := 14, bytes := 208, zv := Value.agg { toList := [Value.int IntKind.i64 (Int.ofNat 0), Value.int IntKind.i64 (Int.ofNat 0), Value.int IntKind.i64 (Int.ofNat 0), Value.int IntKind.i64 (Int.ofNat 0), Value.int IntKind.i64 (Int.ofNat 0), Value.slice none 0 0, Value.slice none 0 0, Value.int IntKind.i64 (Int.ofNat 0), Value.slice none 0 0, Value.slice none 0 0, Value.slice none 0 0, Value.int IntKind.i64 (Int.ofNat 0), Value.int IntKind.i64 (Int.ofNat 0), Value.slice none 0 0] }, kind := TK.struct [(0, 2), (1, 2), (2, 2), (3, 206), (12, 207)], cts := [(0, 0), (0, 0), (0, 0), (0, 0), (0, 0), (2, 1), (2, 1), (0, 0), (2, 1), (2, 1), (2, 1), (0, 0), (0, 0), (94, 3)], scal := false, psz := 0, zts := [T.c (C.int IntKind.i64 (Int.ofNat 0)), T.c (C.int IntKind.i64 (Int.ofNat 0)), T.c (C.int IntKind.i64 (Int.ofNat 0)), T.c (C.int IntKind.i64 (Int.ofNat 0)), T.c (C.int IntKind.i64 (Int.ofNat 0)), T.nilS, T.nilS, T.c (C.int IntKind.i64 (Int.ofNat 0)), T.nilS, T.nilS, T.nilS, T.c (C.int IntKind.i64 (Int.ofNat 0)), T.c (C.int IntKind.i64 (Int.ofNat 0)), T.nilS] } := by rfl
@[go_sem] theorem ty240 : tyI Try.prog 240 = some { size := 2, bytes := 32, zv := Value.agg { toList := [Value.int IntKind.i64 (Int.ofNat 0), Value.slice none 0 0] }, kind := TK.struct [(0, 2), (1, 23)], cts := [(0, 0), (2, 1)], scal := false, psz := 0, zts := [T.c (C.int IntKind.i64 (Int.ofNat 0)), T.nilS] } := by rfl
@[go_sem] theorem ty241 : tyI Try.prog 241 = some { size := 2, bytes := 32, zv := Value.agg { toList := [Value.int IntKind.i64 (Int.ofNat 0), Value.slice none 0 0] }, kind := TK.struct [(0, 2), (1, 23)], cts := [(0, 0), (2, 1)], scal := false, psz := 0, zts := [T.c (C.int IntKind.i64 (Int.ofNat 0)), T.nilS] } := by rfl
@[go_sem] theorem ty243 : tyI Try.prog 243 = some { size := 2, bytes := 32, zv := Value.agg { toList := [Value.int IntKind.i64 (Int.ofNat 0), Value.slice none 0 0] }, kind := TK.struct [(0, 2), (1, 23)], cts := [(0, 0), (2, 1)], scal := false, psz := 0, zts := [T.c (C.int IntKind.i64 (Int.ofNat 0)), T.nilS] } := by rfl
@[go_sem] theorem ty257 : tyI Try.prog 257 = some { size := 1, bytes := 4, zv := Value.int IntKind.u32 (Int.ofNat 0), kind := TK.int IntKind.u32, cts := [(0, 0)], scal := true, psz := 0, zts := [T.c (C.int IntKind.u32 (Int.ofNat 0))] } := by rfl
theorem follows_of {fr : Fr} (hP : fr.P = Try.prog) : (envOf fr Try.prog).fr.P.follows .mixedOrders = true := by rw [envOf_fr, hP]; rfl

@[go_sem] abbrev aI (n : Int) : Arg := .d (false, [.int .i64 n])
@[go_sem] abbrev rI (n : Int) : List Dat := [(false, [.int .i64 n])]
@[go_sem] abbrev rB (b : Bool) : List Dat := [(false, [.bool b])]
/-- A slice of numbers, as an argument and as a result of its own. -/
@[go_sem] abbrev sI (xs : List Int) : C := .sl none 1 (xs.map eI)
@[go_sem] abbrev oI (xs : List Int) : C := .sl (some 2) 1 (xs.map eI)
@[go_sem] abbrev aL (xs : List Int) : Arg := .d (false, [sI xs])
@[go_sem] abbrev rL (xs : List Int) : List Dat := [(false, [oI xs])]
theorem bndL {xs : List Int} {gs : List Arg} (h : Args.bnd (aL xs :: gs)) : xs.length ≤ maxLen := by
  have := h.1.1.1; rwa [List.length_map] at this
def inB (a b c : Int) : Bool := decide (b ≤ a) && decide (a ≤ c)
theorem s_l1In (a b c : Int) : Sat Try.prog 73 [aI a, aI b, aI c] true (rB (inB a b c)) := by
  refine sat_walk (fn := Try.f73) rfl rfl rfl (Nat.le_of_ble_eq_true rfl) fun fr hP hN hbnd => ?_
  have hE : (envOf fr Try.prog).Ok := envOf_ok hP
  have hM := follows_of hP
  have hS : ∀ {draw ops}, statB Try.f73.ntmps draw ops = true → statB (envOf fr Try.prog).fr.N draw ops = true := fun h => by rw [envOf_fr, hN]; exact h
  repeat' (first
    | exact True.intro
    | refine ev_seq ?_
    | ((first | refine vgd_go ?_ | refine ev_region hE hM (hS (by decide +kernel)) ?_ | refine ev_if ?_ | refine end_ret hE rfl rfl ?_ | refine end_norm hE rfl rfl ?_ | refine endG_ret [] hE rfl ?_ | refine endG_norm [] hE rfl ?_ | refine vcall_A ?_); simp (maxSteps := 2000000) only [go_sem, hP, ↓reduceIte, Nat.reduceAdd, Nat.reduceMul, Nat.reduceEqDiff, Nat.reduceSub, Nat.reduceLeDiff, reduceCtorEq])
    | refine ev_skip ?_ | refine ev_block ?_ | refine ev_blk ?_ | refine ev_ret ?_ | refine ev_exit ?_ | refine evx_code_ret ?_ | refine evx_blk_ret ?_ | refine evx_lp_ret ?_
    | refine evx_code_exit ?_ | refine evx_lp_exit ?_ | refine evx_blk_hit ?_ | refine evx_blk_pass (by decide) ?_
    | refine And.intro ?_ ?_ | intro _ | decide +kernel | omega)
  all_goals simp_all [inB] <;> omega
theorem s_within (a b c : Int) : Sat Try.prog 139 [aI a, aI b, aI c] true (rB (inB a b c)) := by
  refine sat_walk (fn := Try.f139) rfl rfl rfl (Nat.le_of_ble_eq_true rfl) fun fr hP hN hbnd => ?_
  have hE : (envOf fr Try.prog).Ok := envOf_ok hP
  have hM := follows_of hP
  have hS : ∀ {draw ops}, statB Try.f139.ntmps draw ops = true → statB (envOf fr Try.prog).fr.N draw ops = true := fun h => by rw [envOf_fr, hN]; exact h
  repeat' (first
    | exact True.intro
    | refine ev_seq ?_
    | ((first | refine vgd_go ?_ | refine ev_region hE hM (hS (by decide +kernel)) ?_ | refine ev_if ?_ | refine end_ret hE rfl rfl ?_ | refine end_norm hE rfl rfl ?_ | refine endG_ret [] hE rfl ?_ | refine endG_norm [] hE rfl ?_ | refine vcall_A ?_); simp (maxSteps := 2000000) only [go_sem, hP, ↓reduceIte, Nat.reduceAdd, Nat.reduceMul, Nat.reduceEqDiff, Nat.reduceSub, Nat.reduceLeDiff, reduceCtorEq])
    | refine ev_skip ?_ | refine ev_block ?_ | refine ev_blk ?_ | refine ev_ret ?_ | refine ev_exit ?_ | refine evx_code_ret ?_ | refine evx_blk_ret ?_ | refine evx_lp_ret ?_
    | refine evx_code_exit ?_ | refine evx_lp_exit ?_ | refine evx_blk_hit ?_ | refine evx_blk_pass (by decide) ?_
    | refine And.intro ?_ ?_ | intro _ | decide +kernel | omega)
  all_goals simp_all [inB] <;> omega
theorem s_isDims (a : Int) : Sat Try.prog 138 [aI a] true (rB (inB a 2 3)) := by
  refine sat_walk (fn := Try.f138) rfl rfl rfl (Nat.le_of_ble_eq_true rfl) fun fr hP hN hbnd => ?_
  have hE : (envOf fr Try.prog).Ok := envOf_ok hP
  have hM := follows_of hP
  have hS : ∀ {draw ops}, statB Try.f138.ntmps draw ops = true → statB (envOf fr Try.prog).fr.N draw ops = true := fun h => by rw [envOf_fr, hN]; exact h
  repeat' (first
    | exact True.intro
    | refine ev_seq ?_
    | ((first | refine vgd_go ?_ | refine ev_region hE hM (hS (by decide +kernel)) ?_ | refine ev_if ?_ | refine end_ret hE rfl rfl ?_ | refine end_norm hE rfl rfl ?_ | refine endG_ret [] hE rfl ?_ | refine endG_norm [] hE rfl ?_ | refine vcallB_of hP (s_within _ _ _) ?_ | refine vcall_A ?_); simp (maxSteps := 2000000) only [go_sem, hP, ↓reduceIte, Nat.reduceAdd, Nat.reduceMul, Nat.reduceEqDiff, Nat.reduceSub, Nat.reduceLeDiff, reduceCtorEq])
    | refine ev_skip ?_ | refine ev_block ?_ | refine ev_blk ?_ | refine ev_ret ?_ | refine ev_exit ?_ | refine evx_code_ret ?_ | refine evx_blk_ret ?_ | refine evx_lp_ret ?_
    | refine evx_code_exit ?_ | refine evx_lp_exit ?_ | refine evx_blk_hit ?_ | refine evx_blk_pass (by decide) ?_
    | refine And.intro ?_ ?_ | intro _ | decide +kernel | omega)
theorem s_toInt64S (xs : List Int) (hx : xs.length ≤ 1048576) : Sat Try.prog 101 [aL xs] true (rL xs) := by
  refine sat_walk (fn := Try.f101) rfl rfl rfl (Nat.le_of_ble_eq_true rfl) fun fr hP hN hbnd => ?_
  have hE : (envOf fr Try.prog).Ok := envOf_ok hP
  have hM := follows_of hP
  have hS : ∀ {draw ops}, statB Try.f101.ntmps draw ops = true → statB (envOf fr Try.prog).fr.N draw ops = true := fun h => by rw [envOf_fr, hN]; exact h
  repeat' (first
    | exact True.intro
    | refine ev_seq ?_
    | ((first | refine vgd_go ?_ | refine ev_region hE hM (hS (by decide +kernel)) ?_ | refine ev_if ?_ | refine end_ret hE rfl rfl ?_ | refine end_norm hE rfl rfl ?_ | refine endG_ret [] hE rfl ?_ | refine endG_norm [] hE rfl ?_ | refine vcall_A ?_); simp (maxSteps := 2000000) only [go_sem, hP, ↓reduceIte, Nat.reduceAdd, Nat.reduceMul, Nat.reduceEqDiff, Nat.reduceSub, Nat.reduceLeDiff, reduceCtorEq])
    | refine ev_skip ?_ | refine ev_block ?_ | refine ev_blk ?_ | refine ev_ret ?_ | refine ev_exit ?_ | refine evx_code_ret ?_ | refine evx_blk_ret ?_ | refine evx_lp_ret ?_
    | refine evx_code_exit ?_ | refine evx_lp_exit ?_ | refine evx_blk_hit ?_ | refine evx_blk_pass (by decide) ?_
    | refine And.intro ?_ ?_ | intro _ | decide +kernel | omega)
  refine ev_loop (ι := Nat) (fun k => [(0, .c (sI xs)), (3, .ref 4112), (4, .c (.int .i64 k))]) (fun k => [(4112, .arr true 2 1 ((mix xs 0 k).map eI))]) (fun _ => []) (fun k => k ≤ xs.length) (fun k => xs.length - k) 0 [] (by simp) (by simp only [go_sem, hP, ↓reduceIte, Nat.reduceAdd, Nat.reduceMul, Nat.reduceEqDiff, Nat.reduceSub, Nat.reduceLeDiff, reduceCtorEq]; simp [mix_zero, eI]) ?_
  intro k hk
  repeat' (first
    | exact True.intro
    | refine ev_seq ?_
    | ((first | refine vgd_go ?_ | refine ev_region hE hM (hS (by decide +kernel)) ?_ | refine ev_if ?_ | refine end_ret hE rfl rfl ?_ | refine end_norm hE rfl rfl ?_ | refine endG_ret [] hE rfl ?_ | refine endG_norm [] hE rfl ?_ | refine vcall_A ?_); simp (maxSteps := 2000000) only [go_sem, hP, ↓reduceIte, Nat.reduceAdd, Nat.reduceMul, Nat.reduceEqDiff, Nat.reduceSub, Nat.reduceLeDiff, reduceCtorEq, mix_length hk])
    | refine ev_skip ?_ | refine ev_block ?_ | refine ev_blk ?_ | refine ev_ret ?_ | refine ev_exit ?_ | refine evx_code_ret ?_ | refine evx_blk_ret ?_ | refine evx_lp_ret ?_
    | refine evx_code_exit ?_ | refine evx_lp_exit ?_ | refine evx_blk_hit ?_ | refine evx_blk_pass (by decide) ?_
    | refine And.intro ?_ ?_ | intro _ | decide +kernel | omega)
  · exact ev_lp (k + 1) [] (by omega) (by omega) (by simp only [go_sem, hP, ↓reduceIte, Nat.reduceAdd, Nat.reduceMul, Nat.reduceEqDiff, Nat.reduceSub, Nat.reduceLeDiff, reduceCtorEq]; simp; exact ⟨wrap_succ (by omega) hx, mix_set_map (f := eI) (by omega)⟩)
  · rw [mix_full (by omega)]
theorem s_eqInt64S (xs ys : List Int) : Sat Try.prog 87 [aL xs, aL ys] true (rB (decide (xs = ys))) := by
  refine sat_walk (fn := Try.f87) rfl rfl rfl (Nat.le_of_ble_eq_true rfl) fun fr hP hN hbnd => ?_
  have hE : (envOf fr Try.prog).Ok := envOf_ok hP
  have hM := follows_of hP
  have hS : ∀ {draw ops}, statB Try.f87.ntmps draw ops = true → statB (envOf fr Try.prog).fr.N draw ops = true := fun h => by rw [envOf_fr, hN]; exact h
  have hlen := bndL hbnd
  repeat' (first
    | exact True.intro
    | refine ev_seq ?_
    | ((first | refine vgd_go ?_ | refine ev_region hE hM (hS (by decide +kernel)) ?_ | refine ev_if ?_ | refine end_ret hE rfl rfl ?_ | refine end_norm hE rfl rfl ?_ | refine endG_ret [] hE rfl ?_ | refine endG_norm [] hE rfl ?_ | refine vcall_A ?_); simp (maxSteps := 2000000) only [go_sem, hP, ↓reduceIte, Nat.reduceAdd, Nat.reduceMul, Nat.reduceEqDiff, Nat.reduceSub, Nat.reduceLeDiff, reduceCtorEq])
    | refine ev_skip ?_ | refine ev_block ?_ | refine ev_blk ?_ | refine ev_ret ?_ | refine ev_exit ?_ | refine evx_code_ret ?_ | refine evx_blk_ret ?_ | refine evx_lp_ret ?_
    | refine evx_code_exit ?_ | refine evx_lp_exit ?_ | refine evx_blk_hit ?_ | refine evx_blk_pass (by decide) ?_
    | refine And.intro ?_ ?_ | intro _ | decide +kernel | omega)
  · rename_i h; simp at h; simp; rintro rfl; exact h rfl
  rename_i h; simp at h
  refine ev_loop (ι := Nat) (fun k => [(0, .c (sI xs)), (1, .c (sI ys)), (5, .c (.int .i64 k))]) (fun k => []) (fun _ => []) (fun k => k ≤ xs.length ∧ xs.take k = ys.take k) (fun k => xs.length - k) 0 [] (by simp) (by simp only [go_sem, hP, ↓reduceIte, Nat.reduceAdd, Nat.reduceMul, Nat.reduceEqDiff, Nat.reduceSub, Nat.reduceLeDiff, reduceCtorEq]; simp) ?_
  intro k hk
  repeat' (first
    | exact True.intro
    | refine ev_seq ?_
    | ((first | refine vgd_go ?_ | refine ev_region hE hM (hS (by decide +kernel)) ?_ | refine ev_if ?_ | refine end_ret hE rfl rfl ?_ | refine end_norm hE rfl rfl ?_ | refine endG_ret [] hE rfl ?_ | refine endG_norm [] hE rfl ?_ | refine vcall_A ?_); simp (maxSteps := 2000000) only [go_sem, hP, ↓reduceIte, Nat.reduceAdd, Nat.reduceMul, Nat.reduceEqDiff, Nat.reduceSub, Nat.reduceLeDiff, reduceCtorEq])
    | refine ev_skip ?_ | refine ev_block ?_ | refine ev_blk ?_ | refine ev_ret ?_ | refine ev_exit ?_ | refine evx_code_ret ?_ | refine evx_blk_ret ?_ | refine evx_lp_ret ?_
    | refine evx_code_exit ?_ | refine evx_lp_exit ?_ | refine evx_blk_hit ?_ | refine evx_blk_pass (by decide) ?_
    | refine And.intro ?_ ?_ | intro _ | decide +kernel | omega)
  · rename_i h3; simp at h3; simp; exact eq_not h3
  · rename_i h3 h4; simp at h4
    exact ev_lp (k + 1) [] ⟨by omega, eq_step (d := default) (e := default) (by omega) (by omega) hk.2 (by simpa using h4)⟩ (by omega) (by simp only [go_sem, hP, ↓reduceIte, Nat.reduceAdd, Nat.reduceMul, Nat.reduceEqDiff, Nat.reduceSub, Nat.reduceLeDiff, reduceCtorEq]; simp; exact wrap_nat (by omega) hlen)
  · simp; exact eq_done (by omega) (by omega) hk.2
/-- What is left of a bulk behind a count; below 0: none. -/
def lessN (n : Nat) (left : Int) : Int := if left - n < 0 then -1 else left - n
theorem s_szInt64S (xs : List Int) (left : Int) (h0 : 0 ≤ left) (h1 : left ≤ 1048576) : Sat Try.prog 97 [aL xs, aI left] true (rI (lessN xs.length left)) := by
  refine sat_walk (fn := Try.f97) rfl rfl rfl (Nat.le_of_ble_eq_true rfl) fun fr hP hN hbnd => ?_
  have hE : (envOf fr Try.prog).Ok := envOf_ok hP
  have hM := follows_of hP
  have hS : ∀ {draw ops}, statB Try.f97.ntmps draw ops = true → statB (envOf fr Try.prog).fr.N draw ops = true := fun h => by rw [envOf_fr, hN]; exact h
  have hlen := bndL hbnd
  have hm : maxLen = 9223372036854775807 := rfl
  have hw : IntKind.i64.wrap (left - xs.length) = left - xs.length := i64_in _ (by omega)
  repeat' (first
    | exact True.intro
    | refine ev_seq ?_
    | ((first | refine vgd_go ?_ | refine ev_region hE hM (hS (by decide +kernel)) ?_ | refine ev_if ?_ | refine end_ret hE rfl rfl ?_ | refine end_norm hE rfl rfl ?_ | refine endG_ret [] hE rfl ?_ | refine endG_norm [] hE rfl ?_ | refine vcall_A ?_); simp (maxSteps := 2000000) only [go_sem, hP, ↓reduceIte, Nat.reduceAdd, Nat.reduceMul, Nat.reduceEqDiff, Nat.reduceSub, Nat.reduceLeDiff, reduceCtorEq, hw])
    | refine ev_skip ?_ | refine ev_block ?_ | refine ev_blk ?_ | refine ev_ret ?_ | refine ev_exit ?_ | refine evx_code_ret ?_ | refine evx_blk_ret ?_ | refine evx_lp_ret ?_
    | refine evx_code_exit ?_ | refine evx_lp_exit ?_ | refine evx_blk_hit ?_ | refine evx_blk_pass (by decide) ?_
    | refine And.intro ?_ ?_ | intro _ | decide +kernel | omega)
  all_goals simp_all [lessN] <;> omega
def pf (xs : List Int) (d : Int) : Int := if inB d 2 3 then (if (xs.length : Int) = d then (if xs.all (inB · (-1000) 1000) then 0 else 3) else 2) else 3
theorem s_specPointFault (xs : List Int) (d : Int) : Sat Try.prog 175 [aL xs, aI d] true (rI (pf xs d)) := by
  refine sat_walk (fn := Try.f175) rfl rfl rfl (Nat.le_of_ble_eq_true rfl) fun fr hP hN hbnd => ?_
  have hE : (envOf fr Try.prog).Ok := envOf_ok hP
  have hM := follows_of hP
  have hS : ∀ {draw ops}, statB Try.f175.ntmps draw ops = true → statB (envOf fr Try.prog).fr.N draw ops = true := fun h => by rw [envOf_fr, hN]; exact h
  have hlen := bndL hbnd
  repeat' (first
    | exact True.intro
    | refine ev_seq ?_
    | ((first | refine vgd_go ?_ | refine ev_region hE hM (hS (by decide +kernel)) ?_ | refine ev_if ?_ | refine end_ret hE rfl rfl ?_ | refine end_norm hE rfl rfl ?_ | refine endG_ret [] hE rfl ?_ | refine endG_norm [] hE rfl ?_ | refine vcallB_of hP (s_l1In _ _ _) ?_ | refine vcall_A ?_); simp (maxSteps := 2000000) only [go_sem, hP, ↓reduceIte, Nat.reduceAdd, Nat.reduceMul, Nat.reduceEqDiff, Nat.reduceSub, Nat.reduceLeDiff, reduceCtorEq])
    | refine ev_skip ?_ | refine ev_block ?_ | refine ev_blk ?_ | refine ev_ret ?_ | refine ev_exit ?_ | refine evx_code_ret ?_ | refine evx_blk_ret ?_ | refine evx_lp_ret ?_
    | refine evx_code_exit ?_ | refine evx_lp_exit ?_ | refine evx_blk_hit ?_ | refine evx_blk_pass (by decide) ?_
    | refine And.intro ?_ ?_ | intro _ | decide +kernel | omega)
  · simp_all [pf]
  · simp_all [pf]
  rename_i h1 h2
  refine ev_loop (ι := Nat) (fun k => [(0, .c (sI xs)), (5, .c (.int .i64 k))]) (fun _ => []) (fun _ => []) (fun k => k ≤ xs.length ∧ (xs.take k).all (inB · (-1000) 1000)) (fun k => xs.length - k) 0 [] ⟨by simp, by simp⟩ (by simp only [go_sem, hP, ↓reduceIte, Nat.reduceAdd, Nat.reduceMul, Nat.reduceEqDiff, Nat.reduceSub, Nat.reduceLeDiff, reduceCtorEq]; simp) ?_
  intro k hk
  repeat' (first
    | exact True.intro
    | refine ev_seq ?_
    | ((first | refine vgd_go ?_ | refine ev_region hE hM (hS (by decide +kernel)) ?_ | refine ev_if ?_ | refine end_ret hE rfl rfl ?_ | refine end_norm hE rfl rfl ?_ | refine endG_ret [] hE rfl ?_ | refine endG_norm [] hE rfl ?_ | refine vcallB_of hP (s_l1In _ _ _) ?_ | refine vcall_A ?_); simp (maxSteps := 2000000) only [go_sem, hP, ↓reduceIte, Nat.reduceAdd, Nat.reduceMul, Nat.reduceEqDiff, Nat.reduceSub, Nat.reduceLeDiff, reduceCtorEq])
    | refine ev_skip ?_ | refine ev_block ?_ | refine ev_blk ?_ | refine ev_ret ?_ | refine ev_exit ?_ | refine evx_code_ret ?_ | refine evx_blk_ret ?_ | refine evx_lp_ret ?_
    | refine evx_code_exit ?_ | refine evx_lp_exit ?_ | refine evx_blk_hit ?_ | refine evx_blk_pass (by decide) ?_
    | refine And.intro ?_ ?_ | intro _ | decide +kernel | omega)
  · rename_i h3 h4
    simp_all [pf, all_not (p := (inB · (-1000) 1000)) (xs := xs) (k := k) (d := default) (by omega) (by simpa using h4)]
  · rename_i h3 h4
    refine ev_lp (k + 1) [] ⟨by omega, all_step (d := default) (by omega) hk.2 (by simpa using h4)⟩ (by omega) (by simp only [go_sem, hP, ↓reduceIte, Nat.reduceAdd, Nat.reduceMul, Nat.reduceEqDiff, Nat.reduceSub, Nat.reduceLeDiff, reduceCtorEq]; simp; exact wrap_nat (by omega) hlen)
  · rename_i h3
    simp_all [pf, all_done (p := (inB · (-1000) 1000)) (xs := xs) (k := k) (by omega) hk.2]
theorem s_IndexFuncI (xs : List Int) (sem : List Dat → List Dat → Prop) (p : Int → Bool) (hp : ∀ x ∈ xs, sem [(false, [.int .i64 x])] [(false, [.bool (p x)])]) :
    Sat Try.prog 211 [aL xs, .fn sem] true (rI (if xs.any p then (xs.findIdx p : Int) else -1)) := by
  refine sat_walk (fn := Try.f211) rfl rfl rfl (Nat.le_of_ble_eq_true rfl) fun fr hP hN hbnd => ?_
  have hE : (envOf fr Try.prog).Ok := envOf_ok hP
  have hM := follows_of hP
  have hS : ∀ {draw ops}, statB Try.f211.ntmps draw ops = true → statB (envOf fr Try.prog).fr.N draw ops = true := fun h => by rw [envOf_fr, hN]; exact h
  have hlen := bndL hbnd
  repeat' (first
    | exact True.intro
    | refine ev_seq ?_
    | ((first | refine vgd_go ?_ | refine ev_region hE hM (hS (by decide +kernel)) ?_ | refine ev_if ?_ | refine end_ret hE rfl rfl ?_ | refine end_norm hE rfl rfl ?_ | refine endG_ret [] hE rfl ?_ | refine endG_norm [] hE rfl ?_ | refine vcall_A ?_); simp (maxSteps := 2000000) only [go_sem, hP, ↓reduceIte, Nat.reduceAdd, Nat.reduceMul, Nat.reduceEqDiff, Nat.reduceSub, Nat.reduceLeDiff, reduceCtorEq])
    | refine ev_skip ?_ | refine ev_block ?_ | refine ev_blk ?_ | refine ev_ret ?_ | refine ev_exit ?_ | refine evx_code_ret ?_ | refine evx_blk_ret ?_ | refine evx_lp_ret ?_
    | refine evx_code_exit ?_ | refine evx_lp_exit ?_ | refine evx_blk_hit ?_ | refine evx_blk_pass (by decide) ?_
    | refine And.intro ?_ ?_ | intro _ | decide +kernel | omega)
  refine ev_loop (ι := Nat) (fun k => [(0, .c (sI xs)), (1, .fn sem), (7, .c (.int .i64 xs.length)), (8, .c (.int .i64 k))]) (fun k => []) (fun _ => []) (fun k => k ≤ xs.length ∧ (xs.take k).any p = false) (fun k => xs.length - k) 0 [] (by simp) (by simp only [go_sem, hP, ↓reduceIte, Nat.reduceAdd, Nat.reduceMul, Nat.reduceEqDiff, Nat.reduceSub, Nat.reduceLeDiff, reduceCtorEq]; simp) ?_
  intro k hk
  have hq : k < xs.length → sem [(false, [.int .i64 (xs.getD k default)])] [(false, [.bool (p (xs.getD k default))])] := fun h => hp _ (getD_mem h)
  repeat' (first
    | exact True.intro
    | refine ev_seq ?_
    | ((first | refine vgd_go ?_ | refine ev_region hE hM (hS (by decide +kernel)) ?_ | refine ev_if ?_ | refine end_ret hE rfl rfl ?_ | refine end_norm hE rfl rfl ?_ | refine endG_ret [] hE rfl ?_ | refine endG_norm [] hE rfl ?_ | refine vcallFn_of [(false, [.int .i64 (xs.getD k default)])] [] [(false, [.bool (p (xs.getD k default))])] (by simp only [go_sem, hP, ↓reduceIte, Nat.reduceAdd, Nat.reduceMul, Nat.reduceEqDiff, Nat.reduceSub, Nat.reduceLeDiff, reduceCtorEq]) (hq (by omega)) ?_ | refine vcall_A ?_); simp (maxSteps := 2000000) only [go_sem, hP, ↓reduceIte, Nat.reduceAdd, Nat.reduceMul, Nat.reduceEqDiff, Nat.reduceSub, Nat.reduceLeDiff, reduceCtorEq])
    | refine ev_skip ?_ | refine ev_block ?_ | refine ev_blk ?_ | refine ev_ret ?_ | refine ev_exit ?_ | refine evx_code_ret ?_ | refine evx_blk_ret ?_ | refine evx_lp_ret ?_
    | refine evx_code_exit ?_ | refine evx_lp_exit ?_ | refine evx_blk_hit ?_ | refine evx_blk_pass (by decide) ?_
    | refine And.intro ?_ ?_ | intro _ | decide +kernel | omega)
  · rename_i h1 h2
    rw [any_yes (d := default) (by omega) h2, findIdx_here (d := default) (by omega) hk.2 h2]; rfl
  · rename_i h1 h2
    exact ev_lp (k + 1) [] ⟨by omega, any_step (d := default) (by omega) hk.2 h2⟩ (by omega) (by simp only [go_sem, hP, ↓reduceIte, Nat.reduceAdd, Nat.reduceMul, Nat.reduceEqDiff, Nat.reduceSub, Nat.reduceLeDiff, reduceCtorEq]; simp; exact wrap_nat (by omega) hlen)
  · rw [any_done (by omega) hk.2]; rfl
theorem s_ContainsFuncI (xs : List Int) (sem : List Dat → List Dat → Prop) (p : Int → Bool) (hp : ∀ x ∈ xs, sem [(false, [.int .i64 x])] [(false, [.bool (p x)])]) :
    Sat Try.prog 202 [aL xs, .fn sem] true (rB (xs.any p)) := by
  refine sat_walk (fn := Try.f202) rfl rfl rfl (Nat.le_of_ble_eq_true rfl) fun fr hP hN hbnd => ?_
  have hE : (envOf fr Try.prog).Ok := envOf_ok hP
  have hM := follows_of hP
  have hS : ∀ {draw ops}, statB Try.f202.ntmps draw ops = true → statB (envOf fr Try.prog).fr.N draw ops = true := fun h => by rw [envOf_fr, hN]; exact h
  repeat' (first
    | exact True.intro
    | refine ev_seq ?_
    | ((first | refine vgd_go ?_ | refine ev_region hE hM (hS (by decide +kernel)) ?_ | refine ev_if ?_ | refine end_ret hE rfl rfl ?_ | refine end_norm hE rfl rfl ?_ | refine endG_ret [] hE rfl ?_ | refine endG_norm [] hE rfl ?_ | refine vcallB_of hP (s_IndexFuncI _ _ p hp) ?_ | refine vcall_A ?_); simp (maxSteps := 2000000) only [go_sem, hP, ↓reduceIte, Nat.reduceAdd, Nat.reduceMul, Nat.reduceEqDiff, Nat.reduceSub, Nat.reduceLeDiff, reduceCtorEq])
    | refine ev_skip ?_ | refine ev_block ?_ | refine ev_blk ?_ | refine ev_ret ?_ | refine ev_exit ?_ | refine evx_code_ret ?_ | refine evx_blk_ret ?_ | refine evx_lp_ret ?_
    | refine evx_code_exit ?_ | refine evx_lp_exit ?_ | refine evx_blk_hit ?_ | refine evx_blk_pass (by decide) ?_
    | refine And.intro ?_ ?_ | intro _ | decide +kernel | omega)
  · split <;> simp_all <;> omega
theorem s_PointFault1 (a : Int) : Sat Try.prog 203 [aI a] true (rB (!inB a (-1000) 1000)) := by
  refine sat_walk (fn := Try.f203) rfl rfl rfl (Nat.le_of_ble_eq_true rfl) fun fr hP hN hbnd => ?_
  have hE : (envOf fr Try.prog).Ok := envOf_ok hP
  have hM := follows_of hP
  have hS : ∀ {draw ops}, statB Try.f203.ntmps draw ops = true → statB (envOf fr Try.prog).fr.N draw ops = true := fun h => by rw [envOf_fr, hN]; exact h
  repeat' (first
    | exact True.intro
    | refine ev_seq ?_
    | ((first | refine vgd_go ?_ | refine ev_region hE hM (hS (by decide +kernel)) ?_ | refine ev_if ?_ | refine end_ret hE rfl rfl ?_ | refine end_norm hE rfl rfl ?_ | refine endG_ret [] hE rfl ?_ | refine endG_norm [] hE rfl ?_ | refine vcallB_of hP (s_within _ _ _) ?_ | refine vcall_A ?_); simp (maxSteps := 2000000) only [go_sem, hP, ↓reduceIte, Nat.reduceAdd, Nat.reduceMul, Nat.reduceEqDiff, Nat.reduceSub, Nat.reduceLeDiff, reduceCtorEq])
    | refine ev_skip ?_ | refine ev_block ?_ | refine ev_blk ?_ | refine ev_ret ?_ | refine ev_exit ?_ | refine evx_code_ret ?_ | refine evx_blk_ret ?_ | refine evx_lp_ret ?_
    | refine evx_code_exit ?_ | refine evx_lp_exit ?_ | refine evx_blk_hit ?_ | refine evx_blk_pass (by decide) ?_
    | refine And.intro ?_ ?_ | intro _ | decide +kernel | omega)
theorem s_implPointFault (xs : List Int) (d : Int) : Sat Try.prog 178 [aL xs, aI d] true (rI (pf xs d)) := by
  refine sat_walk (fn := Try.f178) rfl rfl rfl (Nat.le_of_ble_eq_true rfl) fun fr hP hN hbnd => ?_
  have hE : (envOf fr Try.prog).Ok := envOf_ok hP
  have hM := follows_of hP
  have hS : ∀ {draw ops}, statB Try.f178.ntmps draw ops = true → statB (envOf fr Try.prog).fr.N draw ops = true := fun h => by rw [envOf_fr, hN]; exact h
  repeat' (first
    | exact True.intro
    | refine ev_seq ?_
    | ((first | refine vgd_go ?_ | refine ev_region hE hM (hS (by decide +kernel)) ?_ | refine ev_if ?_ | refine end_ret hE rfl rfl ?_ | refine end_norm hE rfl rfl ?_ | refine endG_ret [] hE rfl ?_ | refine endG_norm [] hE rfl ?_ | refine vcallB_of hP (s_isDims _) ?_ | refine vcallB_of hP (s_ContainsFuncI xs _ (fun x => !inB x (-1000) 1000) (fun x _ => s_PointFault1 x)) ?_ | refine vcall_A ?_); simp (maxSteps := 2000000) only [go_sem, hP, ↓reduceIte, Nat.reduceAdd, Nat.reduceMul, Nat.reduceEqDiff, Nat.reduceSub, Nat.reduceLeDiff, reduceCtorEq])
    | refine ev_skip ?_ | refine ev_block ?_ | refine ev_blk ?_ | refine ev_ret ?_ | refine ev_exit ?_ | refine evx_code_ret ?_ | refine evx_blk_ret ?_ | refine evx_lp_ret ?_
    | refine evx_code_exit ?_ | refine evx_lp_exit ?_ | refine evx_blk_hit ?_ | refine evx_blk_pass (by decide) ?_
    | refine And.intro ?_ ?_ | intro _ | decide +kernel | omega)
  all_goals simp_all [pf]
structure Rect where
  low : List Int
  high : List Int
  deriving DecidableEq, Inhabited
@[go_sem] abbrev cR (r : Rect) : List C := [sI r.low, sI r.high]
@[go_sem] abbrev oR (r : Rect) : List C := [oI r.low, oI r.high]
@[go_sem] abbrev aR (r : Rect) : Arg := .d (true, cR r)
@[go_sem] abbrev pR (r : Rect) : Arg := .pv (cR r)
@[go_sem] abbrev rR (r : Rect) : List Dat := [(true, oR r)]
theorem bndR {r : Rect} {gs : List Arg} (h : Args.bnd (aR r :: gs)) : r.low.length ≤ maxLen ∧ r.high.length ≤ maxLen := by
  have h1 := h.1.1.1; have h2 := h.1.2.1.1
  rw [List.length_map] at h1 h2; exact ⟨h1, h2⟩
theorem bndPR {r : Rect} {gs : List Arg} (h : Args.bnd (pR r :: gs)) : r.low.length ≤ maxLen ∧ r.high.length ≤ maxLen := by
  have h1 := h.1.1.1; have h2 := h.1.2.1.1
  rw [List.length_map] at h1 h2; exact ⟨h1, h2⟩
theorem eqR (a b : Rect) : a = b ↔ a.low = b.low ∧ a.high = b.high := by cases a; cases b; simp
def wR (r : Rect) : Nat := r.low.length + r.high.length
theorem s_szRect (r : Rect) (left : Int) (h0 : 0 ≤ left) (h1 : left ≤ 1048576) : Sat Try.prog 67 [aR r, aI left] true (rI (lessN (wR r) left)) := by
  refine sat_walk (fn := Try.f67) rfl rfl rfl (Nat.le_of_ble_eq_true rfl) fun fr hP hN hbnd => ?_
  have hE : (envOf fr Try.prog).Ok := envOf_ok hP
  have hM := follows_of hP
  have hS : ∀ {draw ops}, statB Try.f67.ntmps draw ops = true → statB (envOf fr Try.prog).fr.N draw ops = true := fun h => by rw [envOf_fr, hN]; exact h
  have hl := bndR hbnd
  repeat' (first
    | exact True.intro
    | refine ev_seq ?_
    | ((first | refine vgd_go ?_ | refine ev_region hE hM (hS (by decide +kernel)) ?_ | refine ev_if ?_ | refine end_ret hE rfl rfl ?_ | refine end_norm hE rfl rfl ?_ | refine endG_ret [] hE rfl ?_ | refine endG_norm [] hE rfl ?_ | refine vcallB_of hP (s_szInt64S _ _ h0 h1) ?_ | refine vcallB_of hP (s_szInt64S _ _ (by simp only [lessN] at *; omega) (by simp only [lessN] at *; omega)) ?_ | refine vcall_A ?_); simp (maxSteps := 2000000) only [go_sem, hP, ↓reduceIte, Nat.reduceAdd, Nat.reduceMul, Nat.reduceEqDiff, Nat.reduceSub, Nat.reduceLeDiff, reduceCtorEq])
    | refine ev_skip ?_ | refine ev_block ?_ | refine ev_blk ?_ | refine ev_ret ?_ | refine ev_exit ?_ | refine evx_code_ret ?_ | refine evx_blk_ret ?_ | refine evx_lp_ret ?_
    | refine evx_code_exit ?_ | refine evx_lp_exit ?_ | refine evx_blk_hit ?_ | refine evx_blk_pass (by decide) ?_
    | refine And.intro ?_ ?_ | intro _ | decide +kernel | omega)
  all_goals simp_all only [lessN, wR]
  all_goals omega
theorem s_toRect (r : Rect) (h : wR r ≤ 1048576) : Sat Try.prog 69 [aR r] true (rR r) := by
  refine sat_walk (fn := Try.f69) rfl rfl rfl (Nat.le_of_ble_eq_true rfl) fun fr hP hN hbnd => ?_
  have hE : (envOf fr Try.prog).Ok := envOf_ok hP
  have hM := follows_of hP
  have hS : ∀ {draw ops}, statB Try.f69.ntmps draw ops = true → statB (envOf fr Try.prog).fr.N draw ops = true := fun h => by rw [envOf_fr, hN]; exact h
  have hw : r.low.length ≤ 1048576 ∧ r.high.length ≤ 1048576 := by simp only [wR] at h; omega
  repeat' (first
    | exact True.intro
    | refine ev_seq ?_
    | ((first | refine vgd_go ?_ | refine ev_region hE hM (hS (by decide +kernel)) ?_ | refine ev_if ?_ | refine end_ret hE rfl rfl ?_ | refine end_norm hE rfl rfl ?_ | refine endG_ret [] hE rfl ?_ | refine endG_norm [] hE rfl ?_ | refine vcallB_of hP (s_toInt64S _ hw.1) ?_ | refine vcallB_of hP (s_toInt64S _ hw.2) ?_ | refine vcall_A ?_); simp (maxSteps := 2000000) only [go_sem, hP, ↓reduceIte, Nat.reduceAdd, Nat.reduceMul, Nat.reduceEqDiff, Nat.reduceSub, Nat.reduceLeDiff, reduceCtorEq])
    | refine ev_skip ?_ | refine ev_block ?_ | refine ev_blk ?_ | refine ev_ret ?_ | refine ev_exit ?_ | refine evx_code_ret ?_ | refine evx_blk_ret ?_ | refine evx_lp_ret ?_
    | refine evx_code_exit ?_ | refine evx_lp_exit ?_ | refine evx_blk_hit ?_ | refine evx_blk_pass (by decide) ?_
    | refine And.intro ?_ ?_ | intro _ | decide +kernel | omega)
theorem s_eqRect (a b : Rect) : Sat Try.prog 71 [aR a, aR b] true (rB (decide (a = b))) := by
  refine sat_walk (fn := Try.f71) rfl rfl rfl (Nat.le_of_ble_eq_true rfl) fun fr hP hN hbnd => ?_
  have hE : (envOf fr Try.prog).Ok := envOf_ok hP
  have hM := follows_of hP
  have hS : ∀ {draw ops}, statB Try.f71.ntmps draw ops = true → statB (envOf fr Try.prog).fr.N draw ops = true := fun h => by rw [envOf_fr, hN]; exact h
  repeat' (first
    | exact True.intro
    | refine ev_seq ?_
    | ((first | refine vgd_go ?_ | refine ev_region hE hM (hS (by decide +kernel)) ?_ | refine ev_if ?_ | refine end_ret hE rfl rfl ?_ | refine end_norm hE rfl rfl ?_ | refine endG_ret [] hE rfl ?_ | refine endG_norm [] hE rfl ?_ | refine vcallB_of hP (s_eqInt64S _ _) ?_ | refine vcall_A ?_); simp (maxSteps := 2000000) only [go_sem, hP, ↓reduceIte, Nat.reduceAdd, Nat.reduceMul, Nat.reduceEqDiff, Nat.reduceSub, Nat.reduceLeDiff, reduceCtorEq])
    | refine ev_skip ?_ | refine ev_block ?_ | refine ev_blk ?_ | refine ev_ret ?_ | refine ev_exit ?_ | refine evx_code_ret ?_ | refine evx_blk_ret ?_ | refine evx_lp_ret ?_
    | refine evx_code_exit ?_ | refine evx_lp_exit ?_ | refine evx_blk_hit ?_ | refine evx_blk_pass (by decide) ?_
    | refine And.intro ?_ ?_ | intro _ | decide +kernel | omega)
  all_goals simp_all [eqR]
theorem shp_R {n t : Nat} {cs : List C} (ht : (Try.prog.underlying t).bind fieldTs = some [23, 23]) (h : shp Try.prog (n + 3) t cs) : ∃ r, cs = cR r := by
  obtain ⟨x, y, rfl, h1, z, w, rfl, h2, rfl⟩ := shp_struct ht h
  obtain ⟨xs, rfl, _⟩ := shp_ints (n := n) (e := 2) rfl rfl rfl h1
  obtain ⟨ys, rfl, _⟩ := shp_ints (n := n) (e := 2) rfl rfl rfl h2
  exact ⟨⟨xs, ys⟩, rfl⟩
theorem pf_len {xs : List Int} {d : Int} (h : pf xs d = 0) : (xs.length : Int) = d := by
  unfold pf at h; split at h <;> (try split at h) <;> simp_all
/-- The low corner is nowhere above the high one. -/
def lowHigh (r : Rect) : Bool := allLt r.low.length fun j => decide (r.low.getD j default ≤ r.high.getD j default)
def rf (r : Rect) (d : Int) : Int := if pf r.low d ≠ 0 then pf r.low d else if pf r.high d ≠ 0 then pf r.high d else if lowHigh r then 0 else 1
theorem s_specRectFault (r : Rect) (d : Int) : Sat Try.prog 130 [aR r, aI d] true (rI (rf r d)) := by
  refine sat_walk (fn := Try.f130) rfl rfl rfl (Nat.le_of_ble_eq_true rfl) fun fr hP hN hbnd => ?_
  have hE : (envOf fr Try.prog).Ok := envOf_ok hP
  have hM := follows_of hP
  have hS : ∀ {draw ops}, statB Try.f130.ntmps draw ops = true → statB (envOf fr Try.prog).fr.N draw ops = true := fun h => by rw [envOf_fr, hN]; exact h
  have hl := bndR hbnd
  repeat' (first
    | exact True.intro
    | refine ev_seq ?_
    | ((first | refine vgd_go ?_ | refine ev_region hE hM (hS (by decide +kernel)) ?_ | refine ev_if ?_ | refine end_ret hE rfl rfl ?_ | refine end_norm hE rfl rfl ?_ | refine endG_ret [] hE rfl ?_ | refine endG_norm [] hE rfl ?_ | refine vcallB_of hP (s_specPointFault _ _) ?_ | refine vcall_A ?_); simp (maxSteps := 2000000) only [go_sem, hP, ↓reduceIte, Nat.reduceAdd, Nat.reduceMul, Nat.reduceEqDiff, Nat.reduceSub, Nat.reduceLeDiff, reduceCtorEq])
    | refine ev_skip ?_ | refine ev_block ?_ | refine ev_blk ?_ | refine ev_ret ?_ | refine ev_exit ?_ | refine evx_code_ret ?_ | refine evx_blk_ret ?_ | refine evx_lp_ret ?_
    | refine evx_code_exit ?_ | refine evx_lp_exit ?_ | refine evx_blk_hit ?_ | refine evx_blk_pass (by decide) ?_
    | refine And.intro ?_ ?_ | intro _ | decide +kernel | omega)
  · simp_all [rf]
  · simp_all [rf]
  rename_i h1 h2
  have e1 := pf_len (by simpa using h1)
  have e2 := pf_len (by simpa using h2)
  refine ev_loop (ι := Nat) (fun k => [(2, .ptr 0 0), (7, .c (.int .i64 k))]) (fun k => [(0, .box [.c (sI r.low), .c (sI r.high)])]) (fun _ => []) (fun k => k ≤ r.low.length ∧ allLt k (fun j => decide (r.low.getD j default ≤ r.high.getD j default)) = true) (fun k => r.low.length - k) 0 [] (by simp [allLt_zero] <;> omega) (by simp only [go_sem, hP, ↓reduceIte, Nat.reduceAdd, Nat.reduceMul, Nat.reduceEqDiff, Nat.reduceSub, Nat.reduceLeDiff, reduceCtorEq]; simp) ?_
  intro k hk
  repeat' (first
    | exact True.intro
    | refine ev_seq ?_
    | ((first | refine vgd_go ?_ | refine ev_region hE hM (hS (by decide +kernel)) ?_ | refine ev_if ?_ | refine end_ret hE rfl rfl ?_ | refine end_norm hE rfl rfl ?_ | refine endG_ret [] hE rfl ?_ | refine endG_norm [] hE rfl ?_ | refine vcall_A ?_); simp (maxSteps := 2000000) only [go_sem, hP, ↓reduceIte, Nat.reduceAdd, Nat.reduceMul, Nat.reduceEqDiff, Nat.reduceSub, Nat.reduceLeDiff, reduceCtorEq])
    | refine ev_skip ?_ | refine ev_block ?_ | refine ev_blk ?_ | refine ev_ret ?_ | refine ev_exit ?_ | refine evx_code_ret ?_ | refine evx_blk_ret ?_ | refine evx_lp_ret ?_
    | refine evx_code_exit ?_ | refine evx_lp_exit ?_ | refine evx_blk_hit ?_ | refine evx_blk_pass (by decide) ?_
    | refine And.intro ?_ ?_ | intro _ | decide +kernel | omega)
  · rename_i h3 h4
    have : lowHigh r = false := allLt_not (k := k) (by omega) (by simpa using h4)
    simp_all [rf]
  · rename_i h3 h4
    exact ev_lp (k + 1) [] ⟨by omega, allLt_step hk.2 (by simpa using h4)⟩ (by omega) (by simp only [go_sem, hP, ↓reduceIte, Nat.reduceAdd, Nat.reduceMul, Nat.reduceEqDiff, Nat.reduceSub, Nat.reduceLeDiff, reduceCtorEq]; simp; exact wrap_nat (by omega) hl.1)
  · have : lowHigh r = true := allLt_done (by omega) hk.2
    simp_all [rf]
theorem s_implRectFault (r : Rect) (d : Int) : Sat Try.prog 132 [aR r, aI d] true (rI (rf r d)) := by
  refine sat_walk (fn := Try.f132) rfl rfl rfl (Nat.le_of_ble_eq_true rfl) fun fr hP hN hbnd => ?_
  have hE : (envOf fr Try.prog).Ok := envOf_ok hP
  have hM := follows_of hP
  have hS : ∀ {draw ops}, statB Try.f132.ntmps draw ops = true → statB (envOf fr Try.prog).fr.N draw ops = true := fun h => by rw [envOf_fr, hN]; exact h
  have hl := bndR hbnd
  repeat' (first
    | exact True.intro
    | refine ev_seq ?_
    | ((first | refine vgd_go ?_ | refine ev_region hE hM (hS (by decide +kernel)) ?_ | refine ev_if ?_ | refine end_ret hE rfl rfl ?_ | refine end_norm hE rfl rfl ?_ | refine endG_ret [] hE rfl ?_ | refine endG_norm [] hE rfl ?_ | refine vcallB_of hP (s_implPointFault _ _) ?_ | refine vcall_A ?_); simp (maxSteps := 2000000) only [go_sem, hP, ↓reduceIte, Nat.reduceAdd, Nat.reduceMul, Nat.reduceEqDiff, Nat.reduceSub, Nat.reduceLeDiff, reduceCtorEq])
    | refine ev_skip ?_ | refine ev_block ?_ | refine ev_blk ?_ | refine ev_ret ?_ | refine ev_exit ?_ | refine evx_code_ret ?_ | refine evx_blk_ret ?_ | refine evx_lp_ret ?_
    | refine evx_code_exit ?_ | refine evx_lp_exit ?_ | refine evx_blk_hit ?_ | refine evx_blk_pass (by decide) ?_
    | refine And.intro ?_ ?_ | intro _ | decide +kernel | omega)
  · simp_all [rf]
  · simp_all [rf]
  rename_i h1 h2
  have e1 := pf_len (by simpa using h1)
  have e2 := pf_len (by simpa using h2)
  refine ev_loop (ι := Nat) (fun k => [(2, .ptr 0 0), (24, .c (sI r.low)), (25, .c (.int .i64 r.low.length)), (26, .c (.int .i64 k))]) (fun k => [(0, .box [.c (sI r.low), .c (sI r.high)])]) (fun _ => []) (fun k => k ≤ r.low.length ∧ allLt k (fun j => decide (r.low.getD j default ≤ r.high.getD j default)) = true) (fun k => r.low.length - k) 0 [] (by simp [allLt_zero] <;> omega) (by simp only [go_sem, hP, ↓reduceIte, Nat.reduceAdd, Nat.reduceMul, Nat.reduceEqDiff, Nat.reduceSub, Nat.reduceLeDiff, reduceCtorEq]; simp) ?_
  intro k hk
  repeat' (first
    | exact True.intro
    | refine ev_seq ?_
    | ((first | refine vgd_go ?_ | refine ev_region hE hM (hS (by decide +kernel)) ?_ | refine ev_if ?_ | refine end_ret hE rfl rfl ?_ | refine end_norm hE rfl rfl ?_ | refine endG_ret [] hE rfl ?_ | refine endG_norm [] hE rfl ?_ | refine vcall_A ?_); simp (maxSteps := 2000000) only [go_sem, hP, ↓reduceIte, Nat.reduceAdd, Nat.reduceMul, Nat.reduceEqDiff, Nat.reduceSub, Nat.reduceLeDiff, reduceCtorEq])
    | refine ev_skip ?_ | refine ev_block ?_ | refine ev_blk ?_ | refine ev_ret ?_ | refine ev_exit ?_ | refine evx_code_ret ?_ | refine evx_blk_ret ?_ | refine evx_lp_ret ?_
    | refine evx_code_exit ?_ | refine evx_lp_exit ?_ | refine evx_blk_hit ?_ | refine evx_blk_pass (by decide) ?_
    | refine And.intro ?_ ?_ | intro _ | decide +kernel | omega)
  · rename_i h3 h4
    have : lowHigh r = false := allLt_not (k := k) (by omega) (by simpa using h4)
    simp_all [rf]
  · rename_i h3 h4
    exact ev_lp (k + 1) [] ⟨by omega, allLt_step hk.2 (by simpa using h4)⟩ (by omega) (by simp only [go_sem, hP, ↓reduceIte, Nat.reduceAdd, Nat.reduceMul, Nat.reduceEqDiff, Nat.reduceSub, Nat.reduceLeDiff, reduceCtorEq]; simp; exact wrap_nat (by omega) hl.1)
  · have : lowHigh r = true := allLt_done (by omega) hk.2
    simp_all [rf]
theorem rf_len {r : Rect} {d : Int} (h : rf r d = 0) : (r.low.length : Int) = d ∧ (r.high.length : Int) = d := by
  unfold rf at h
  split at h
  · simp_all
  · split at h
    · simp_all
    · rename_i h1 h2
      exact ⟨pf_len (by simpa using h1), pf_len (by simpa using h2)⟩
def two (a b : Rect) : Int := if rf a a.low.length ≠ 0 then rf a a.low.length else rf b a.low.length
structure Lens (a b : Rect) : Prop where
  h1 : a.high.length = a.low.length
  h2 : b.low.length = a.low.length
  h3 : b.high.length = a.low.length
theorem two_lens {a b : Rect} (h : two a b = 0) : Lens a b := by
  unfold two at h
  split at h
  · simp_all
  · rename_i h1
    have e1 := rf_len (by simpa using h1)
    have e2 := rf_len h
    exact ⟨by omega, by omega, by omega⟩
def meetsAt (a b : Rect) (j : Nat) : Bool := !(decide (a.low.getD j default > b.high.getD j default) || decide (b.low.getD j default > a.high.getD j default))
def meets (a b : Rect) : Bool := allLt a.low.length (meetsAt a b)
/-- The weights of all of a list. -/
def sumW {α : Type} (w : α → Nat) (xs : List α) : Nat := (xs.map w).sum
theorem sumW_step {α : Type} {w : α → Nat} {xs : List α} {k : Nat} {d : α} (h : k < xs.length) : sumW w (xs.take (k + 1)) = sumW w (xs.take k) + w (xs.getD k d) := by
  unfold sumW; rw [take_step (d := d) h]; simp
theorem sumW_le {α : Type} {w : α → Nat} {xs : List α} (k : Nat) : sumW w (xs.take k) ≤ sumW w xs := by
  unfold sumW
  conv => rhs; rw [← List.take_append_drop k xs]
  rw [List.map_append, List.sum_append]; omega
theorem sumW_get {α : Type} {w : α → Nat} {xs : List α} {k : Nat} {d : α} (h : k < xs.length) : w (xs.getD k d) ≤ sumW w xs := by
  have h1 := sumW_step (w := w) (d := d) h
  have h2 := sumW_le (w := w) (xs := xs) (k + 1)
  omega
theorem sumW_done {α : Type} {w : α → Nat} {xs : List α} {k : Nat} (h : xs.length ≤ k) : sumW w (xs.take k) = sumW w xs := by rw [List.take_of_length_le h]
@[simp] theorem sumW_nil {α : Type} {w : α → Nat} : sumW w [] = 0 := rfl
theorem sumW_zero {α : Type} {w : α → Nat} {xs : List α} : sumW w (xs.take 0) = 0 := rfl
structure Pair where
  id : Int
  rect : Rect
  deriving DecidableEq, Inhabited
def eP (p : Pair) : List C := [.int .i64 p.id, sI p.rect.low, sI p.rect.high]
def oP (p : Pair) : List C := [.int .i64 p.id, oI p.rect.low, oI p.rect.high]
@[go_sem] theorem eP_eq (p : Pair) : eP p = [.int .i64 p.id, sI p.rect.low, sI p.rect.high] := rfl
@[go_sem] theorem oP_eq (p : Pair) : oP p = [.int .i64 p.id, oI p.rect.low, oI p.rect.high] := rfl
theorem stripC_oP (p : Pair) : Cs.strip (oP p) = eP p := by simp [oP, eP, Cs.strip, C.strip, strip_eI]
theorem stripC_eP (p : Pair) : Cs.strip (eP p) = eP p := by simp [eP, Cs.strip, C.strip, strip_eI]
@[go_sem] theorem strip_oP (xs : List Pair) : Es.strip (xs.map oP) = xs.map eP := by rw [Es.strip_map]; simp [Function.comp_def, stripC_oP]
@[go_sem] theorem strip_eP (xs : List Pair) : Es.strip (xs.map eP) = xs.map eP := by rw [Es.strip_map]; simp [Function.comp_def, stripC_eP]
@[go_sem] abbrev aP (p : Pair) : Arg := .d (true, eP p)
@[go_sem] abbrev rP (p : Pair) : List Dat := [(true, oP p)]
@[go_sem] abbrev sP (xs : List Pair) : C := .sl none 3 (xs.map eP)
@[go_sem] abbrev oPs (xs : List Pair) : C := .sl (some 94) 3 (xs.map oP)
@[go_sem] abbrev aPs (xs : List Pair) : Arg := .d (false, [sP xs])
@[go_sem] abbrev rPs (xs : List Pair) : List Dat := [(false, [oPs xs])]
theorem bndPs {xs : List Pair} {gs : List Arg} (h : Args.bnd (aPs xs :: gs)) : xs.length ≤ maxLen ∧ ∀ p ∈ xs, p.rect.low.length ≤ maxLen ∧ p.rect.high.length ≤ maxLen := by
  have h1 := h.1.1.1
  have h2 := h.1.1.2
  rw [Es.bnd_map] at h2
  refine ⟨by rwa [List.length_map] at h1, fun p hp => ?_⟩
  have := h2 p hp
  simp only [eP, Cs.bnd, C.bnd, List.length_map, true_and, and_true] at this
  exact ⟨this.1.1, this.2.1⟩
theorem eqP (a b : Pair) : a = b ↔ a.id = b.id ∧ a.rect = b.rect := by cases a; cases b; simp
def wPs (xs : List Pair) : Nat := xs.length + sumW (fun p => wR p.rect) xs
theorem s_toPair (p : Pair) (h : wR p.rect ≤ 1048576) : Sat Try.prog 45 [aP p] true (rP p) := by
  refine sat_walk (fn := Try.f45) rfl rfl rfl (Nat.le_of_ble_eq_true rfl) fun fr hP hN hbnd => ?_
  have hE : (envOf fr Try.prog).Ok := envOf_ok hP
  have hM := follows_of hP
  have hS : ∀ {draw ops}, statB Try.f45.ntmps draw ops = true → statB (envOf fr Try.prog).fr.N draw ops = true := fun h => by rw [envOf_fr, hN]; exact h
  repeat' (first
    | exact True.intro
    | refine ev_seq ?_
    | ((first | refine vgd_go ?_ | refine ev_region hE hM (hS (by decide +kernel)) ?_ | refine ev_if ?_ | refine end_ret hE rfl rfl ?_ | refine end_norm hE rfl rfl ?_ | refine endG_ret [] hE rfl ?_ | refine endG_norm [] hE rfl ?_ | refine vcallB_of hP (s_toRect _ h) ?_ | refine vcall_A ?_); simp (maxSteps := 2000000) only [go_sem, hP, ↓reduceIte, Nat.reduceAdd, Nat.reduceMul, Nat.reduceEqDiff, Nat.reduceSub, Nat.reduceLeDiff, reduceCtorEq])
    | refine ev_skip ?_ | refine ev_block ?_ | refine ev_blk ?_ | refine ev_ret ?_ | refine ev_exit ?_ | refine evx_code_ret ?_ | refine evx_blk_ret ?_ | refine evx_lp_ret ?_
    | refine evx_code_exit ?_ | refine evx_lp_exit ?_ | refine evx_blk_hit ?_ | refine evx_blk_pass (by decide) ?_
    | refine And.intro ?_ ?_ | intro _ | decide +kernel | omega)
theorem s_toPairS (xs : List Pair) (h : wPs xs ≤ 1048576) : Sat Try.prog 44 [aPs xs] true (rPs xs) := by
  refine sat_walk (fn := Try.f44) rfl rfl rfl (Nat.le_of_ble_eq_true rfl) fun fr hP hN hbnd => ?_
  have hE : (envOf fr Try.prog).Ok := envOf_ok hP
  have hM := follows_of hP
  have hS : ∀ {draw ops}, statB Try.f44.ntmps draw ops = true → statB (envOf fr Try.prog).fr.N draw ops = true := fun h => by rw [envOf_fr, hN]; exact h
  have hx : xs.length ≤ 1048576 := by unfold wPs at h; omega
  have hw : ∀ k, k < xs.length → wR (xs.getD k default).rect ≤ 1048576 := fun k hk => by
    have := sumW_get (w := fun p : Pair => wR p.rect) (d := default) hk; unfold wPs at h; omega
  repeat' (first
    | exact True.intro
    | refine ev_seq ?_
    | ((first | refine vgd_go ?_ | refine ev_region hE hM (hS (by decide +kernel)) ?_ | refine ev_if ?_ | refine end_ret hE rfl rfl ?_ | refine end_norm hE rfl rfl ?_ | refine endG_ret [] hE rfl ?_ | refine endG_norm [] hE rfl ?_ | refine vcall_A ?_); simp (maxSteps := 2000000) only [go_sem, hP, ↓reduceIte, Nat.reduceAdd, Nat.reduceMul, Nat.reduceEqDiff, Nat.reduceSub, Nat.reduceLeDiff, reduceCtorEq])
    | refine ev_skip ?_ | refine ev_block ?_ | refine ev_blk ?_ | refine ev_ret ?_ | refine ev_exit ?_ | refine evx_code_ret ?_ | refine evx_blk_ret ?_ | refine evx_lp_ret ?_
    | refine evx_code_exit ?_ | refine evx_lp_exit ?_ | refine evx_blk_hit ?_ | refine evx_blk_pass (by decide) ?_
    | refine And.intro ?_ ?_ | intro _ | decide +kernel | omega)
  refine ev_loop (ι := Nat) (fun k => [(0, .c (sP xs)), (3, .ref 4112), (4, .c (.int .i64 k))]) (fun k => [(4112, .arr true 94 3 ((mix xs ⟨0, [], []⟩ k).map oP))]) (fun _ => []) (fun k => k ≤ xs.length) (fun k => xs.length - k) 0 [] (by simp) (by simp only [go_sem, hP, ↓reduceIte, Nat.reduceAdd, Nat.reduceMul, Nat.reduceEqDiff, Nat.reduceSub, Nat.reduceLeDiff, reduceCtorEq]; simp [mix_zero, oP]) ?_
  intro k hk
  repeat' (first
    | exact True.intro
    | refine ev_seq ?_
    | ((first | refine vgd_go ?_ | refine ev_region hE hM (hS (by decide +kernel)) ?_ | refine ev_if ?_ | refine end_ret hE rfl rfl ?_ | refine end_norm hE rfl rfl ?_ | refine endG_ret [] hE rfl ?_ | refine endG_norm [] hE rfl ?_ | refine vcallB_of hP (s_toPair ⟨(xs.getD k default).id, (xs.getD k default).rect⟩ (hw k (by omega))) ?_ | refine vcall_A ?_); simp (maxSteps := 2000000) only [go_sem, hP, ↓reduceIte, Nat.reduceAdd, Nat.reduceMul, Nat.reduceEqDiff, Nat.reduceSub, Nat.reduceLeDiff, reduceCtorEq, mix_length hk])
    | refine ev_skip ?_ | refine ev_block ?_ | refine ev_blk ?_ | refine ev_ret ?_ | refine ev_exit ?_ | refine evx_code_ret ?_ | refine evx_blk_ret ?_ | refine evx_lp_ret ?_
    | refine evx_code_exit ?_ | refine evx_lp_exit ?_ | refine evx_blk_hit ?_ | refine evx_blk_pass (by decide) ?_
    | refine And.intro ?_ ?_ | intro _ | decide +kernel | omega)
  · exact ev_lp (k + 1) [] (by omega) (by omega) (by simp only [go_sem, hP, ↓reduceIte, Nat.reduceAdd, Nat.reduceMul, Nat.reduceEqDiff, Nat.reduceSub, Nat.reduceLeDiff, reduceCtorEq]; simp; exact ⟨wrap_succ (by omega) hx, mix_set_map (f := oP) (by omega)⟩)
  · rw [mix_full (by omega)]
theorem s_szPair (p : Pair) (left : Int) (h0 : 0 ≤ left) (h1 : left ≤ 1048576) : Sat Try.prog 42 [aP p, aI left] true (rI (lessN (wR p.rect) left)) := by
  refine sat_walk (fn := Try.f42) rfl rfl rfl (Nat.le_of_ble_eq_true rfl) fun fr hP hN hbnd => ?_
  have hE : (envOf fr Try.prog).Ok := envOf_ok hP
  have hM := follows_of hP
  have hS : ∀ {draw ops}, statB Try.f42.ntmps draw ops = true → statB (envOf fr Try.prog).fr.N draw ops = true := fun h => by rw [envOf_fr, hN]; exact h
  repeat' (first
    | exact True.intro
    | refine ev_seq ?_
    | ((first | refine vgd_go ?_ | refine ev_region hE hM (hS (by decide +kernel)) ?_ | refine ev_if ?_ | refine end_ret hE rfl rfl ?_ | refine end_norm hE rfl rfl ?_ | refine endG_ret [] hE rfl ?_ | refine endG_norm [] hE rfl ?_ | refine vcallB_of hP (s_szRect p.rect _ h0 h1) ?_ | refine vcall_A ?_); simp (maxSteps := 2000000) only [go_sem, hP, ↓reduceIte, Nat.reduceAdd, Nat.reduceMul, Nat.reduceEqDiff, Nat.reduceSub, Nat.reduceLeDiff, reduceCtorEq])
    | refine ev_skip ?_ | refine ev_block ?_ | refine ev_blk ?_ | refine ev_ret ?_ | refine ev_exit ?_ | refine evx_code_ret ?_ | refine evx_blk_ret ?_ | refine evx_lp_ret ?_
    | refine evx_code_exit ?_ | refine evx_lp_exit ?_ | refine evx_blk_hit ?_ | refine evx_blk_pass (by decide) ?_
    | refine And.intro ?_ ?_ | intro _ | decide +kernel | omega)
  all_goals simp_all only [lessN]
  all_goals omega
theorem s_szPairS (xs : List Pair) (left : Int) (h0 : 0 ≤ left) (h1 : left ≤ 1048576) : Sat Try.prog 41 [aPs xs, aI left] true (rI (lessN (wPs xs) left)) := by
  refine sat_walk (fn := Try.f41) rfl rfl rfl (Nat.le_of_ble_eq_true rfl) fun fr hP hN hbnd => ?_
  have hE : (envOf fr Try.prog).Ok := envOf_ok hP
  have hM := follows_of hP
  have hS : ∀ {draw ops}, statB Try.f41.ntmps draw ops = true → statB (envOf fr Try.prog).fr.N draw ops = true := fun h => by rw [envOf_fr, hN]; exact h
  have hlen := (bndPs hbnd).1
  have hm : maxLen = 9223372036854775807 := rfl
  have hw : IntKind.i64.wrap (left - xs.length) = left - xs.length := i64_in _ (by omega)
  repeat' (first
    | exact True.intro
    | refine ev_seq ?_
    | ((first | refine vgd_go ?_ | refine ev_region hE hM (hS (by decide +kernel)) ?_ | refine ev_if ?_ | refine end_ret hE rfl rfl ?_ | refine end_norm hE rfl rfl ?_ | refine endG_ret [] hE rfl ?_ | refine endG_norm [] hE rfl ?_ | refine vcall_A ?_); simp (maxSteps := 2000000) only [go_sem, hP, ↓reduceIte, Nat.reduceAdd, Nat.reduceMul, Nat.reduceEqDiff, Nat.reduceSub, Nat.reduceLeDiff, reduceCtorEq, hw])
    | refine ev_skip ?_ | refine ev_block ?_ | refine ev_blk ?_ | refine ev_ret ?_ | refine ev_exit ?_ | refine evx_code_ret ?_ | refine evx_blk_ret ?_ | refine evx_lp_ret ?_
    | refine evx_code_exit ?_ | refine evx_lp_exit ?_ | refine evx_blk_hit ?_ | refine evx_blk_pass (by decide) ?_
    | refine And.intro ?_ ?_ | intro _ | decide +kernel | omega)
  · rename_i h; simp only [lessN, wPs] at *; omega
  rename_i h
  refine ev_loop (ι := Nat) (fun k => [(0, .c (sP xs)), (1, .c (.int .i64 (left - xs.length - sumW (fun p => wR p.rect) (xs.take k)))), (5, .c (.int .i64 k))]) (fun k => []) (fun _ => []) (fun k => k ≤ xs.length ∧ (0 : Int) ≤ left - xs.length - sumW (fun p => wR p.rect) (xs.take k)) (fun k => xs.length - k) 0 [] (by simp [allLt_zero] <;> omega) (by simp only [go_sem, hP, ↓reduceIte, Nat.reduceAdd, Nat.reduceMul, Nat.reduceEqDiff, Nat.reduceSub, Nat.reduceLeDiff, reduceCtorEq]; simp) ?_
  intro k hk
  have hstep := fun h : k < xs.length => sumW_step (w := fun p : Pair => wR p.rect) (d := default) h
  have hle := sumW_le (w := fun p : Pair => wR p.rect) (xs := xs) (k + 1)
  repeat' (first
    | exact True.intro
    | refine ev_seq ?_
    | ((first | refine vgd_go ?_ | refine ev_region hE hM (hS (by decide +kernel)) ?_ | refine ev_if ?_ | refine end_ret hE rfl rfl ?_ | refine end_norm hE rfl rfl ?_ | refine endG_ret [] hE rfl ?_ | refine endG_norm [] hE rfl ?_ | refine vcallB_of hP (s_szPair (xs.getD k default) _ hk.2 (by omega)) ?_ | refine vcall_A ?_); simp (maxSteps := 2000000) only [go_sem, hP, ↓reduceIte, Nat.reduceAdd, Nat.reduceMul, Nat.reduceEqDiff, Nat.reduceSub, Nat.reduceLeDiff, reduceCtorEq])
    | refine ev_skip ?_ | refine ev_block ?_ | refine ev_blk ?_ | refine ev_ret ?_ | refine ev_exit ?_ | refine evx_code_ret ?_ | refine evx_blk_ret ?_ | refine evx_lp_ret ?_
    | refine evx_code_exit ?_ | refine evx_lp_exit ?_ | refine evx_blk_hit ?_ | refine evx_blk_pass (by decide) ?_
    | refine And.intro ?_ ?_ | intro _ | decide +kernel | omega)
  · have := hstep (by omega)
    simp only [lessN, wPs] at *; omega
  · rename_i hk1 hk2
    have h8 := hstep (by omega)
    have h9 : lessN (wR (xs.getD k default).rect) (left - xs.length - sumW (fun p => wR p.rect) (xs.take k)) = left - xs.length - sumW (fun p => wR p.rect) (xs.take (k + 1)) := by simp only [lessN] at *; omega
    refine ev_lp (k + 1) [] ⟨by omega, by rw [← h9]; omega⟩ (by omega) (by simp only [go_sem, hP, ↓reduceIte, Nat.reduceAdd, Nat.reduceMul, Nat.reduceEqDiff, Nat.reduceSub, Nat.reduceLeDiff, reduceCtorEq, h9]; simp; exact wrap_nat (by omega) hlen)
  · rw [sumW_done (by omega)] at hk ⊢
    simp only [lessN, wPs] at *; omega
theorem s_eqPair (a b : Pair) : Sat Try.prog 49 [aP a, aP b] true (rB (decide (a = b))) := by
  refine sat_walk (fn := Try.f49) rfl rfl rfl (Nat.le_of_ble_eq_true rfl) fun fr hP hN hbnd => ?_
  have hE : (envOf fr Try.prog).Ok := envOf_ok hP
  have hM := follows_of hP
  have hS : ∀ {draw ops}, statB Try.f49.ntmps draw ops = true → statB (envOf fr Try.prog).fr.N draw ops = true := fun h => by rw [envOf_fr, hN]; exact h
  repeat' (first
    | exact True.intro
    | refine ev_seq ?_
    | ((first | refine vgd_go ?_ | refine ev_region hE hM (hS (by decide +kernel)) ?_ | refine ev_if ?_ | refine end_ret hE rfl rfl ?_ | refine end_norm hE rfl rfl ?_ | refine endG_ret [] hE rfl ?_ | refine endG_norm [] hE rfl ?_ | refine vcallB_of hP (s_eqRect a.rect b.rect) ?_ | refine vcall_A ?_); simp (maxSteps := 2000000) only [go_sem, hP, ↓reduceIte, Nat.reduceAdd, Nat.reduceMul, Nat.reduceEqDiff, Nat.reduceSub, Nat.reduceLeDiff, reduceCtorEq])
    | refine ev_skip ?_ | refine ev_block ?_ | refine ev_blk ?_ | refine ev_ret ?_ | refine ev_exit ?_ | refine evx_code_ret ?_ | refine evx_blk_ret ?_ | refine evx_lp_ret ?_
    | refine evx_code_exit ?_ | refine evx_lp_exit ?_ | refine evx_blk_hit ?_ | refine evx_blk_pass (by decide) ?_
    | refine And.intro ?_ ?_ | intro _ | decide +kernel | omega)
  all_goals simp_all [eqP]
theorem s_eqPairS (xs ys : List Pair) : Sat Try.prog 48 [aPs xs, aPs ys] true (rB (decide (xs = ys))) := by
  refine sat_walk (fn := Try.f48) rfl rfl rfl (Nat.le_of_ble_eq_true rfl) fun fr hP hN hbnd => ?_
  have hE : (envOf fr Try.prog).Ok := envOf_ok hP
  have hM := follows_of hP
  have hS : ∀ {draw ops}, statB Try.f48.ntmps draw ops = true → statB (envOf fr Try.prog).fr.N draw ops = true := fun h => by rw [envOf_fr, hN]; exact h
  have hlen := (bndPs hbnd).1
  repeat' (first
    | exact True.intro
    | refine ev_seq ?_
    | ((first | refine vgd_go ?_ | refine ev_region hE hM (hS (by decide +kernel)) ?_ | refine ev_if ?_ | refine end_ret hE rfl rfl ?_ | refine end_norm hE rfl rfl ?_ | refine endG_ret [] hE rfl ?_ | refine endG_norm [] hE rfl ?_ | refine vcall_A ?_); simp (maxSteps := 2000000) only [go_sem, hP, ↓reduceIte, Nat.reduceAdd, Nat.reduceMul, Nat.reduceEqDiff, Nat.reduceSub, Nat.reduceLeDiff, reduceCtorEq])
    | refine ev_skip ?_ | refine ev_block ?_ | refine ev_blk ?_ | refine ev_ret ?_ | refine ev_exit ?_ | refine evx_code_ret ?_ | refine evx_blk_ret ?_ | refine evx_lp_ret ?_
    | refine evx_code_exit ?_ | refine evx_lp_exit ?_ | refine evx_blk_hit ?_ | refine evx_blk_pass (by decide) ?_
    | refine And.intro ?_ ?_ | intro _ | decide +kernel | omega)
  · rename_i h; simp at h; simp; rintro rfl; exact h rfl
  rename_i h; simp at h
  refine ev_loop (ι := Nat) (fun k => [(0, .c (sP xs)), (1, .c (sP ys)), (5, .c (.int .i64 k))]) (fun k => []) (fun _ => []) (fun k => k ≤ xs.length ∧ xs.take k = ys.take k) (fun k => xs.length - k) 0 [] (by simp [allLt_zero] <;> omega) (by simp only [go_sem, hP, ↓reduceIte, Nat.reduceAdd, Nat.reduceMul, Nat.reduceEqDiff, Nat.reduceSub, Nat.reduceLeDiff, reduceCtorEq]; simp) ?_
  intro k hk
  repeat' (first
    | exact True.intro
    | refine ev_seq ?_
    | ((first | refine vgd_go ?_ | refine ev_region hE hM (hS (by decide +kernel)) ?_ | refine ev_if ?_ | refine end_ret hE rfl rfl ?_ | refine end_norm hE rfl rfl ?_ | refine endG_ret [] hE rfl ?_ | refine endG_norm [] hE rfl ?_ | refine vcallB_of hP (s_eqPair (xs.getD k default) (ys.getD k default)) ?_ | refine vcall_A ?_); simp (maxSteps := 2000000) only [go_sem, hP, ↓reduceIte, Nat.reduceAdd, Nat.reduceMul, Nat.reduceEqDiff, Nat.reduceSub, Nat.reduceLeDiff, reduceCtorEq])
    | refine ev_skip ?_ | refine ev_block ?_ | refine ev_blk ?_ | refine ev_ret ?_ | refine ev_exit ?_ | refine evx_code_ret ?_ | refine evx_blk_ret ?_ | refine evx_lp_ret ?_
    | refine evx_code_exit ?_ | refine evx_lp_exit ?_ | refine evx_blk_hit ?_ | refine evx_blk_pass (by decide) ?_
    | refine And.intro ?_ ?_ | intro _ | decide +kernel | omega)
  · rename_i h3; simp at h3; simp; exact eq_not (by simpa using h3)
  · rename_i h3 h4; simp at h4
    exact ev_lp (k + 1) [] ⟨by omega, eq_step (d := default) (e := default) (by omega) (by omega) hk.2 (by simpa using h4)⟩ (by omega) (by simp only [go_sem, hP, ↓reduceIte, Nat.reduceAdd, Nat.reduceMul, Nat.reduceEqDiff, Nat.reduceSub, Nat.reduceLeDiff, reduceCtorEq]; simp; exact wrap_nat (by omega) hlen)
  · simp; exact eq_done (by omega) (by omega) hk.2
theorem shp_P {n t : Nat} {cs : List C} (ht : (Try.prog.underlying t).bind fieldTs = some [2, 84]) (h : shp Try.prog (n + 5) t cs) : ∃ p, cs = eP p := by
  obtain ⟨x, y, rfl, h1, z, w, rfl, h2, rfl⟩ := shp_struct ht h
  obtain ⟨i, rfl, _⟩ := shp_i64 (n := n + 3) rfl h1
  obtain ⟨r, rfl⟩ := shp_R (n := n + 1) rfl h2
  exact ⟨⟨i, r⟩, rfl⟩
theorem shp_Ps {n t : Nat} {cs : List C} (ht : Try.prog.underlying t = some (.slice 86)) (h : shp Try.prog (n + 6) t cs) : ∃ xs, cs = [sP xs] := by
  obtain ⟨xs, rfl, _⟩ := shp_rows (f := eP) (q := fun _ => True) (sz := 3) ht rfl (fun x hx => by obtain ⟨p, rfl⟩ := shp_P (n := n) rfl hx; exact ⟨p, rfl, trivial⟩) h
  exact ⟨xs, rfl⟩
def areaTo (r : Rect) : Nat → Int
  | 0 => 1
  | k + 1 => IntKind.i64.wrap (areaTo r k * IntKind.i64.wrap (r.high.getD k default - r.low.getD k default))
@[simp] theorem areaTo_zero (r : Rect) : areaTo r 0 = 1 := rfl
def area (r : Rect) : Int := areaTo r r.low.length
theorem wr_i64 (n : Int) : IntKind.i64.wrap n = (n + 9223372036854775808) % 18446744073709551616 - 9223372036854775808 := by
  rw [i64_left]; unfold wrap64; omega
theorem wr1 (a b c : Int) : IntKind.i64.wrap (IntKind.i64.wrap (a + b) - c) = IntKind.i64.wrap (a + (b - c)) := by simp only [wr_i64]; omega
theorem wr2 (a b c : Int) : IntKind.i64.wrap (a + IntKind.i64.wrap (b - c)) = IntKind.i64.wrap (a + (b - c)) := by simp only [wr_i64]; omega
theorem pf_at {xs : List Int} {d : Int} (h : pf xs d = 0) (k : Nat) (hk : k < xs.length) : -1000 ≤ xs.getD k default ∧ xs.getD k default ≤ 1000 := by
  have ha : xs.all (inB · (-1000) 1000) = true := by
    unfold pf at h; split at h <;> (try split at h) <;> (try split at h) <;> simp_all
  have := List.all_eq_true.mp ha _ (getD_mem (d := default) hk)
  simpa [inB] using this
theorem rf_at {r : Rect} {d : Int} (h : rf r d = 0) (k : Nat) (hk : k < r.low.length) :
    -1000 ≤ r.low.getD k default ∧ r.low.getD k default ≤ r.high.getD k default ∧ r.high.getD k default ≤ 1000 := by
  have hl := rf_len h
  unfold rf at h
  split at h
  · simp_all
  rename_i h1
  split at h
  · simp_all
  rename_i h2
  split at h
  · rename_i h3
    have e1 := pf_at (by simpa using h1) k hk
    have e2 := pf_at (by simpa using h2) k (by omega)
    have e3 := allLt_iff.mp h3 k hk
    simp at e3
    simp at e1 e2 ⊢
    omega
  · simp_all
structure Good (r : Rect) (p : List Int) : Prop where
  h1 : r.high.length = r.low.length
  h2 : p.length = r.low.length
  h3 : ∀ k, k < r.low.length → -1000 ≤ r.low.getD k default ∧ r.low.getD k default ≤ r.high.getD k default ∧ r.high.getD k default ≤ 1000
  h4 : ∀ k, k < r.low.length → -1000 ≤ p.getD k default ∧ p.getD k default ≤ 1000
theorem good_of {r : Rect} {p : List Int} {d : Int} (h : rf r d = 0) (h' : pf p d = 0) : Good r p := by
  have e1 := rf_len h
  have e2 := pf_len h'
  exact ⟨by omega, by omega, fun k hk => rf_at h k hk, fun k hk => pf_at h' k (by omega)⟩
def distAt (r : Rect) (p : List Int) (k : Nat) : Int := max (max 0 (r.low.getD k default - p.getD k default)) (p.getD k default - r.high.getD k default)
def distTo (r : Rect) (p : List Int) : Nat → Int
  | 0 => 0
  | k + 1 => IntKind.i64.wrap (distTo r p k + distAt r p k)
@[simp] theorem distTo_zero (r : Rect) (p : List Int) : distTo r p 0 = 0 := rfl
def dist (r : Rect) (p : List Int) : Int := distTo r p r.low.length
theorem wr_small {n : Int} (h : -9000 ≤ n ∧ n ≤ 9000) : IntKind.i64.wrap n = n := by rw [wr_i64]; omega
theorem dist_spec {r : Rect} {p : List Int} (g : Good r p) (k : Nat) (hk : k < r.low.length) (a : Int) :
    IntKind.i64.wrap (IntKind.i64.wrap (a + max (IntKind.i64.wrap (r.low.getD k default - p.getD k default)) 0) + max (IntKind.i64.wrap (p.getD k default - r.high.getD k default)) 0) = IntKind.i64.wrap (a + distAt r p k) := by
  have e1 := g.h3 k hk
  have e2 := g.h4 k hk
  rw [wr_small (n := r.low.getD k default - p.getD k default) (by omega), wr_small (n := p.getD k default - r.high.getD k default) (by omega)]
  unfold distAt; simp only [wr_i64]; omega
theorem dist_impl {r : Rect} {p : List Int} (g : Good r p) (k : Nat) (hk : k < r.low.length) (a : Int) :
    IntKind.i64.wrap (a + max (max 0 (IntKind.i64.wrap (r.low.getD k default - p.getD k default))) (IntKind.i64.wrap (p.getD k default - r.high.getD k default))) = IntKind.i64.wrap (a + distAt r p k) := by
  have e1 := g.h3 k hk
  have e2 := g.h4 k hk
  rw [wr_small (n := r.low.getD k default - p.getD k default) (by omega), wr_small (n := p.getD k default - r.high.getD k default) (by omega)]
  rfl
structure Entry where
  rect : Rect
  ref : Int
  nsn : Int
  deriving DecidableEq, Inhabited
def eEntry (x : Entry) : List C := [sI x.rect.low, sI x.rect.high, .int .i64 x.ref, .int .i64 x.nsn]
def oEntry (x : Entry) : List C := [oI x.rect.low, oI x.rect.high, .int .i64 x.ref, .int .i64 x.nsn]
@[go_sem] theorem eEntry_eq (x : Entry) : eEntry x = [sI x.rect.low, sI x.rect.high, .int .i64 x.ref, .int .i64 x.nsn] := rfl
@[go_sem] theorem oEntry_eq (x : Entry) : oEntry x = [oI x.rect.low, oI x.rect.high, .int .i64 x.ref, .int .i64 x.nsn] := rfl
theorem stripC_oEntry (x : Entry) : Cs.strip (oEntry x) = eEntry x := by simp [oEntry, eEntry, Cs.strip, C.strip, strip_eI]
theorem stripC_eEntry (x : Entry) : Cs.strip (eEntry x) = eEntry x := by simp [eEntry, Cs.strip, C.strip, strip_eI]
@[go_sem] theorem strip_oEntry (xs : List Entry) : Es.strip (xs.map oEntry) = xs.map eEntry := by rw [Es.strip_map]; simp [Function.comp_def, stripC_oEntry]
@[go_sem] theorem strip_eEntry (xs : List Entry) : Es.strip (xs.map eEntry) = xs.map eEntry := by rw [Es.strip_map]; simp [Function.comp_def, stripC_eEntry]
@[go_sem] abbrev aEntry (x : Entry) : Arg := .d (true, eEntry x)
@[go_sem] abbrev pEntry (x : Entry) : Arg := .pv (eEntry x)
@[go_sem] abbrev rEntry (x : Entry) : List Dat := [(true, oEntry x)]
theorem bnd_Entry {x : Entry} {gs : List Arg} (h : Args.bnd (aEntry x :: gs)) : x.rect.low.length ≤ maxLen ∧ x.rect.high.length ≤ maxLen := by
  have h0 := h.1.1.1; rw [List.length_map] at h0
  have h1 := h.1.2.1.1; rw [List.length_map] at h1
  exact ⟨h0, h1⟩
theorem bndp_Entry {x : Entry} {gs : List Arg} (h : Args.bnd (pEntry x :: gs)) : x.rect.low.length ≤ maxLen ∧ x.rect.high.length ≤ maxLen := by
  have h0 := h.1.1.1; rw [List.length_map] at h0
  have h1 := h.1.2.1.1; rw [List.length_map] at h1
  exact ⟨h0, h1⟩
theorem eqEntry (a b : Entry) : a = b ↔ a.rect = b.rect ∧ a.ref = b.ref ∧ a.nsn = b.nsn := by cases a; cases b; simp
def wEntry (x : Entry) : Nat := wR x.rect
@[go_sem] abbrev sEntryS (xs : List Entry) : C := .sl none 4 (xs.map eEntry)
@[go_sem] abbrev oEntryS (xs : List Entry) : C := .sl (some 110) 4 (xs.map oEntry)
@[go_sem] abbrev aEntryS (xs : List Entry) : Arg := .d (false, [sEntryS xs])
@[go_sem] abbrev rEntryS (xs : List Entry) : List Dat := [(false, [oEntryS xs])]
theorem bnd_EntryS {xs : List Entry} {gs : List Arg} (h : Args.bnd (aEntryS xs :: gs)) : xs.length ≤ maxLen := by
  have := h.1.1.1; rwa [List.length_map] at this
def wEntryS (xs : List Entry) : Nat := xs.length + sumW wEntry xs
structure Node where
  level : Int
  nsn : Int
  right : Int
  entries : List Entry
  deriving DecidableEq, Inhabited
def eNode (x : Node) : List C := [.int .i64 x.level, .int .i64 x.nsn, .int .i64 x.right, sEntryS x.entries]
def oNode (x : Node) : List C := [.int .i64 x.level, .int .i64 x.nsn, .int .i64 x.right, oEntryS x.entries]
@[go_sem] theorem eNode_eq (x : Node) : eNode x = [.int .i64 x.level, .int .i64 x.nsn, .int .i64 x.right, sEntryS x.entries] := rfl
@[go_sem] theorem oNode_eq (x : Node) : oNode x = [.int .i64 x.level, .int .i64 x.nsn, .int .i64 x.right, oEntryS x.entries] := rfl
theorem stripC_oNode (x : Node) : Cs.strip (oNode x) = eNode x := by simp [oNode, eNode, Cs.strip, C.strip, strip_eI, strip_eEntry, strip_oEntry]
theorem stripC_eNode (x : Node) : Cs.strip (eNode x) = eNode x := by simp [eNode, Cs.strip, C.strip, strip_eI, strip_eEntry, strip_oEntry]
@[go_sem] theorem strip_oNode (xs : List Node) : Es.strip (xs.map oNode) = xs.map eNode := by rw [Es.strip_map]; simp [Function.comp_def, stripC_oNode]
@[go_sem] theorem strip_eNode (xs : List Node) : Es.strip (xs.map eNode) = xs.map eNode := by rw [Es.strip_map]; simp [Function.comp_def, stripC_eNode]
@[go_sem] abbrev aNode (x : Node) : Arg := .d (true, eNode x)
@[go_sem] abbrev pNode (x : Node) : Arg := .pv (eNode x)
@[go_sem] abbrev rNode (x : Node) : List Dat := [(true, oNode x)]
theorem bnd_Node {x : Node} {gs : List Arg} (h : Args.bnd (aNode x :: gs)) : x.entries.length ≤ maxLen := by
  have h0 := h.1.2.2.2.1.1; rw [List.length_map] at h0
  exact h0
theorem bndp_Node {x : Node} {gs : List Arg} (h : Args.bnd (pNode x :: gs)) : x.entries.length ≤ maxLen := by
  have h0 := h.1.2.2.2.1.1; rw [List.length_map] at h0
  exact h0
theorem eqNode (a b : Node) : a = b ↔ a.level = b.level ∧ a.nsn = b.nsn ∧ a.right = b.right ∧ a.entries = b.entries := by cases a; cases b; simp
def wNode (x : Node) : Nat := wEntryS x.entries
@[go_sem] abbrev sNodeS (xs : List Node) : C := .sl none 4 (xs.map eNode)
@[go_sem] abbrev oNodeS (xs : List Node) : C := .sl (some 56) 4 (xs.map oNode)
@[go_sem] abbrev aNodeS (xs : List Node) : Arg := .d (false, [sNodeS xs])
@[go_sem] abbrev rNodeS (xs : List Node) : List Dat := [(false, [oNodeS xs])]
theorem bnd_NodeS {xs : List Node} {gs : List Arg} (h : Args.bnd (aNodeS xs :: gs)) : xs.length ≤ maxLen := by
  have := h.1.1.1; rwa [List.length_map] at this
def wNodeS (xs : List Node) : Nat := xs.length + sumW wNode xs
structure Retired where
  id : Int
  watch : List Int
  deriving DecidableEq, Inhabited
def eRetired (x : Retired) : List C := [.int .i64 x.id, sI x.watch]
def oRetired (x : Retired) : List C := [.int .i64 x.id, oI x.watch]
@[go_sem] theorem eRetired_eq (x : Retired) : eRetired x = [.int .i64 x.id, sI x.watch] := rfl
@[go_sem] theorem oRetired_eq (x : Retired) : oRetired x = [.int .i64 x.id, oI x.watch] := rfl
theorem stripC_oRetired (x : Retired) : Cs.strip (oRetired x) = eRetired x := by simp [oRetired, eRetired, Cs.strip, C.strip, strip_eI]
theorem stripC_eRetired (x : Retired) : Cs.strip (eRetired x) = eRetired x := by simp [eRetired, Cs.strip, C.strip, strip_eI]
@[go_sem] theorem strip_oRetired (xs : List Retired) : Es.strip (xs.map oRetired) = xs.map eRetired := by rw [Es.strip_map]; simp [Function.comp_def, stripC_oRetired]
@[go_sem] theorem strip_eRetired (xs : List Retired) : Es.strip (xs.map eRetired) = xs.map eRetired := by rw [Es.strip_map]; simp [Function.comp_def, stripC_eRetired]
@[go_sem] abbrev aRetired (x : Retired) : Arg := .d (true, eRetired x)
@[go_sem] abbrev pRetired (x : Retired) : Arg := .pv (eRetired x)
@[go_sem] abbrev rRetired (x : Retired) : List Dat := [(true, oRetired x)]
theorem bnd_Retired {x : Retired} {gs : List Arg} (h : Args.bnd (aRetired x :: gs)) : x.watch.length ≤ maxLen := by
  have h0 := h.1.2.1.1; rw [List.length_map] at h0
  exact h0
theorem bndp_Retired {x : Retired} {gs : List Arg} (h : Args.bnd (pRetired x :: gs)) : x.watch.length ≤ maxLen := by
  have h0 := h.1.2.1.1; rw [List.length_map] at h0
  exact h0
theorem eqRetired (a b : Retired) : a = b ↔ a.id = b.id ∧ a.watch = b.watch := by cases a; cases b; simp
def wRetired (x : Retired) : Nat := x.watch.length
@[go_sem] abbrev sRetiredS (xs : List Retired) : C := .sl none 2 (xs.map eRetired)
@[go_sem] abbrev oRetiredS (xs : List Retired) : C := .sl (some 241) 2 (xs.map oRetired)
@[go_sem] abbrev aRetiredS (xs : List Retired) : Arg := .d (false, [sRetiredS xs])
@[go_sem] abbrev rRetiredS (xs : List Retired) : List Dat := [(false, [oRetiredS xs])]
theorem bnd_RetiredS {xs : List Retired} {gs : List Arg} (h : Args.bnd (aRetiredS xs :: gs)) : xs.length ≤ maxLen := by
  have := h.1.1.1; rwa [List.length_map] at this
def wRetiredS (xs : List Retired) : Nat := xs.length + sumW wRetired xs
structure Arena where
  dims : Int
  nodes : List Node
  free : List Int
  retired : List Retired
  deriving DecidableEq, Inhabited
def eArena (x : Arena) : List C := [.int .i64 x.dims, sNodeS x.nodes, sI x.free, sRetiredS x.retired]
def oArena (x : Arena) : List C := [.int .i64 x.dims, oNodeS x.nodes, oI x.free, oRetiredS x.retired]
@[go_sem] theorem eArena_eq (x : Arena) : eArena x = [.int .i64 x.dims, sNodeS x.nodes, sI x.free, sRetiredS x.retired] := rfl
@[go_sem] theorem oArena_eq (x : Arena) : oArena x = [.int .i64 x.dims, oNodeS x.nodes, oI x.free, oRetiredS x.retired] := rfl
theorem stripC_oArena (x : Arena) : Cs.strip (oArena x) = eArena x := by simp [oArena, eArena, Cs.strip, C.strip, strip_eI, strip_eNode, strip_eRetired, strip_oNode, strip_oRetired]
theorem stripC_eArena (x : Arena) : Cs.strip (eArena x) = eArena x := by simp [eArena, Cs.strip, C.strip, strip_eI, strip_eNode, strip_eRetired, strip_oNode, strip_oRetired]
@[go_sem] theorem strip_oArena (xs : List Arena) : Es.strip (xs.map oArena) = xs.map eArena := by rw [Es.strip_map]; simp [Function.comp_def, stripC_oArena]
@[go_sem] theorem strip_eArena (xs : List Arena) : Es.strip (xs.map eArena) = xs.map eArena := by rw [Es.strip_map]; simp [Function.comp_def, stripC_eArena]
@[go_sem] abbrev aArena (x : Arena) : Arg := .d (true, eArena x)
@[go_sem] abbrev pArena (x : Arena) : Arg := .pv (eArena x)
@[go_sem] abbrev rArena (x : Arena) : List Dat := [(true, oArena x)]
theorem bnd_Arena {x : Arena} {gs : List Arg} (h : Args.bnd (aArena x :: gs)) : x.nodes.length ≤ maxLen ∧ x.free.length ≤ maxLen ∧ x.retired.length ≤ maxLen := by
  have h0 := h.1.2.1.1; rw [List.length_map] at h0
  have h1 := h.1.2.2.1.1; rw [List.length_map] at h1
  have h2 := h.1.2.2.2.1.1; rw [List.length_map] at h2
  exact ⟨h0, h1, h2⟩
theorem bndp_Arena {x : Arena} {gs : List Arg} (h : Args.bnd (pArena x :: gs)) : x.nodes.length ≤ maxLen ∧ x.free.length ≤ maxLen ∧ x.retired.length ≤ maxLen := by
  have h0 := h.1.2.1.1; rw [List.length_map] at h0
  have h1 := h.1.2.2.1.1; rw [List.length_map] at h1
  have h2 := h.1.2.2.2.1.1; rw [List.length_map] at h2
  exact ⟨h0, h1, h2⟩
theorem eqArena (a b : Arena) : a = b ↔ a.dims = b.dims ∧ a.nodes = b.nodes ∧ a.free = b.free ∧ a.retired = b.retired := by cases a; cases b; simp
def wArena (x : Arena) : Nat := wNodeS x.nodes + x.free.length + wRetiredS x.retired
/-- The first k elements turned. -/
def mixF (f : Nat → Int) (xs : List Int) (k : Nat) : List Int := (List.range xs.length).map fun j => if j < k then f j else xs.getD j default
@[simp] theorem mixF_length (f : Nat → Int) (xs : List Int) (k : Nat) : (mixF f xs k).length = xs.length := by simp [mixF]
@[simp] theorem mixF_zero (f : Nat → Int) (xs : List Int) : mixF f xs 0 = xs := by
  refine List.ext_getElem (by simp) fun i h1 h2 => ?_
  simp only [mixF, List.getElem_map, List.getElem_range, Nat.not_lt_zero, if_false]
  exact getD_lt h2
theorem mixF_set {f : Nat → Int} {xs : List Int} {k : Nat} (h : k < xs.length) : (mixF f xs k).set k (f k) = mixF f xs (k + 1) := by
  refine List.ext_getElem (by simp) fun i h1 h2 => ?_
  simp only [mixF, List.getElem_set, List.getElem_map, List.getElem_range]
  split
  · subst_vars; rw [if_pos (by omega)]
  · rename_i hne
    by_cases hi : i < k
    · rw [if_pos hi, if_pos (by omega)]
    · rw [if_neg hi, if_neg (by omega)]
theorem mixF_set_map {f : Nat → Int} {xs : List Int} {k : Nat} (h : k < xs.length) : ((mixF f xs k).map eI).set k (eI (f k)) = (mixF f xs (k + 1)).map eI := by rw [← mixF_set h, List.map_set]
theorem mixF_getD {f : Nat → Int} {xs : List Int} {k j : Nat} (h : j < xs.length) : (mixF f xs k).getD j default = if j < k then f j else xs.getD j default := by
  rw [getD_lt (by simpa using h)]; simp [mixF]
theorem s_CloneI (xs : List Int) (hx : xs.length ≤ 1048576) : Sat Try.prog 140 [aL xs] true (rL xs) := by
  refine sat_walk (fn := Try.f140) rfl rfl rfl (Nat.le_of_ble_eq_true rfl) fun fr hP hN hbnd => ?_
  have hE : (envOf fr Try.prog).Ok := envOf_ok hP
  have hM := follows_of hP
  have hS : ∀ {draw ops}, statB Try.f140.ntmps draw ops = true → statB (envOf fr Try.prog).fr.N draw ops = true := fun h => by rw [envOf_fr, hN]; exact h
  have hlen := bndL hbnd
  refine ev_nil (j := 0) (sz := 1) (es := xs.map eI) rfl (fun he => ?_) ?_
  · obtain rfl : xs = [] := by simpa using he
    repeat' (first
      | exact True.intro
      | refine ev_seq ?_
      | ((first | refine vgd_go ?_ | refine ev_region hE hM (hS (by decide +kernel)) ?_ | refine ev_if ?_ | refine end_ret hE rfl rfl ?_ | refine end_norm hE rfl rfl ?_ | refine endG_ret [] hE rfl ?_ | refine endG_norm [] hE rfl ?_ | refine vcall_A ?_); simp (maxSteps := 2000000) only [go_sem, hP, ↓reduceIte, Nat.reduceAdd, Nat.reduceMul, Nat.reduceEqDiff, Nat.reduceSub, Nat.reduceLeDiff, reduceCtorEq])
      | refine ev_skip ?_ | refine ev_block ?_ | refine ev_blk ?_ | refine ev_ret ?_ | refine ev_exit ?_ | refine evx_code_ret ?_ | refine evx_blk_ret ?_ | refine evx_lp_ret ?_
      | refine evx_code_exit ?_ | refine evx_lp_exit ?_ | refine evx_blk_hit ?_ | refine evx_blk_pass (by decide) ?_
      | refine And.intro ?_ ?_ | intro _ | decide +kernel | omega)
  · repeat' (first
      | exact True.intro
      | refine ev_seq ?_
      | ((first | refine vgd_go ?_ | refine ev_region hE hM (hS (by decide +kernel)) ?_ | refine ev_if ?_ | refine end_ret hE rfl rfl ?_ | refine end_norm hE rfl rfl ?_ | refine endG_ret [] hE rfl ?_ | refine endG_norm [] hE rfl ?_ | refine vcall_A ?_); simp (maxSteps := 2000000) only [go_sem, hP, ↓reduceIte, Nat.reduceAdd, Nat.reduceMul, Nat.reduceEqDiff, Nat.reduceSub, Nat.reduceLeDiff, reduceCtorEq, Bool.and_self])
      | refine ev_skip ?_ | refine ev_block ?_ | refine ev_blk ?_ | refine ev_ret ?_ | refine ev_exit ?_ | refine evx_code_ret ?_ | refine evx_blk_ret ?_ | refine evx_lp_ret ?_
      | refine evx_code_exit ?_ | refine evx_lp_exit ?_ | refine evx_blk_hit ?_ | refine evx_blk_pass (by decide) ?_
      | refine And.intro ?_ ?_ | intro _ | decide +kernel | omega)
    · simp_all
theorem s_cloned (r : Rect) (h1 : r.low.length ≤ 1048576) (h2 : r.high.length ≤ 1048576) : Sat Try.prog 125 [aR r] true (rR r) := by
  refine sat_walk (fn := Try.f125) rfl rfl rfl (Nat.le_of_ble_eq_true rfl) fun fr hP hN hbnd => ?_
  have hE : (envOf fr Try.prog).Ok := envOf_ok hP
  have hM := follows_of hP
  have hS : ∀ {draw ops}, statB Try.f125.ntmps draw ops = true → statB (envOf fr Try.prog).fr.N draw ops = true := fun h => by rw [envOf_fr, hN]; exact h
  repeat' (first
    | exact True.intro
    | refine ev_seq ?_
    | ((first | refine vgd_go ?_ | refine ev_region hE hM (hS (by decide +kernel)) ?_ | refine ev_if ?_ | refine end_ret hE rfl rfl ?_ | refine end_norm hE rfl rfl ?_ | refine endG_ret [] hE rfl ?_ | refine endG_norm [] hE rfl ?_ | refine vcallB_of hP (s_CloneI _ h1) ?_ | refine vcallB_of hP (s_CloneI _ h2) ?_ | refine vcall_A ?_); simp (maxSteps := 2000000) only [go_sem, hP, ↓reduceIte, Nat.reduceAdd, Nat.reduceMul, Nat.reduceEqDiff, Nat.reduceSub, Nat.reduceLeDiff, reduceCtorEq])
    | refine ev_skip ?_ | refine ev_block ?_ | refine ev_blk ?_ | refine ev_ret ?_ | refine ev_exit ?_ | refine evx_code_ret ?_ | refine evx_blk_ret ?_ | refine evx_lp_ret ?_
    | refine evx_code_exit ?_ | refine evx_lp_exit ?_ | refine evx_blk_hit ?_ | refine evx_blk_pass (by decide) ?_
    | refine And.intro ?_ ?_ | intro _ | decide +kernel | omega)
structure Fit (a b : Rect) : Prop where
  l : Lens a b
  n : a.low.length ≤ 3
  a1 : ∀ k, k < a.low.length → -1000 ≤ a.low.getD k default ∧ a.low.getD k default ≤ a.high.getD k default ∧ a.high.getD k default ≤ 1000
  b1 : ∀ k, k < a.low.length → -1000 ≤ b.low.getD k default ∧ b.low.getD k default ≤ b.high.getD k default ∧ b.high.getD k default ≤ 1000
theorem pf_three {xs : List Int} {d : Int} (h : pf xs d = 0) : d ≤ 3 := by
  unfold pf at h; split at h <;> simp_all [inB]
theorem rf_three {r : Rect} {d : Int} (h : rf r d = 0) : r.low.length ≤ 3 := by
  have h1 := rf_len h
  have h2 : pf r.low d = 0 := by unfold rf at h; split at h <;> simp_all
  have := pf_three h2; omega
theorem two_fit {a b : Rect} (h : two a b = 0) : Fit a b := by
  have l := two_lens h
  unfold two at h
  split at h
  · simp_all
  · rename_i h1
    have h2 := l.h2
    exact ⟨l, rf_three (by simpa using h1), fun k hk => rf_at (by simpa using h1) k hk, fun k hk => rf_at h k (by omega)⟩
def ovAt (a b : Rect) (k : Nat) : Int := max (min (a.high.getD k default) (b.high.getD k default) - max (a.low.getD k default) (b.low.getD k default)) 0
def ovTo (a b : Rect) : Nat → Int
  | 0 => 1
  | k + 1 => IntKind.i64.wrap (ovTo a b k * ovAt a b k)
@[simp] theorem ovTo_zero (a b : Rect) : ovTo a b 0 = 1 := rfl
def overlap (a b : Rect) : Int := ovTo a b a.low.length
abbrev commonTo (a b : Rect) (k : Nat) : Rect := ⟨mixF (fun j => max (a.low.getD j default) (b.low.getD j default)) a.low k, mixF (fun j => min (a.high.getD j default) (b.high.getD j default)) a.high k⟩
def common (a b : Rect) : Rect := commonTo a b a.low.length
theorem area_common {a b : Rect} (f : Fit a b) (h : meets a b = true) : area (common a b) = overlap a b := by
  have hl : (common a b).low.length = a.low.length := by simp [common]
  have hh : a.high.length = a.low.length := f.l.h1
  unfold area overlap
  rw [hl]
  have key : ∀ k, k ≤ a.low.length → areaTo (common a b) k = ovTo a b k := by
    intro k
    induction k with
    | zero => intro _; rfl
    | succ k ih =>
      intro hk
      have e1 := f.a1 k (by omega)
      have e2 := f.b1 k (by omega)
      have e3 := allLt_iff.mp h k (by omega)
      simp only [meetsAt, Bool.not_eq_true', Bool.or_eq_false_iff, decide_eq_false_iff_not] at e3
      unfold areaTo ovTo
      rw [ih (by omega)]
      simp only [common]
      rw [mixF_getD (by omega), mixF_getD (by omega), if_pos (by omega), if_pos (by omega), wr_small (n := min (a.high.getD k default) (b.high.getD k default) - max (a.low.getD k default) (b.low.getD k default)) (by omega)]
      unfold ovAt
      rw [show max (min (a.high.getD k default) (b.high.getD k default) - max (a.low.getD k default) (b.low.getD k default)) 0 = min (a.high.getD k default) (b.high.getD k default) - max (a.low.getD k default) (b.low.getD k default) by omega]
  exact key _ (Nat.le_refl _)
theorem overlap_apart {a b : Rect} (f : Fit a b) (h : meets a b = false) : overlap a b = 0 := by
  have : ∃ k, k < a.low.length ∧ meetsAt a b k = false := by
    apply Classical.byContradiction
    intro hn
    have : meets a b = true := allLt_iff.mpr fun j hj => by
      cases hm : meetsAt a b j with
      | true => rfl
      | false => exact absurd ⟨j, hj, hm⟩ hn
    simp_all
  obtain ⟨k, hk, hm⟩ := this
  have e1 := f.a1 k hk
  have e2 := f.b1 k hk
  have h0 : ovAt a b k = 0 := by
    simp only [meetsAt, Bool.not_eq_false', Bool.or_eq_true, decide_eq_true_eq] at hm
    unfold ovAt; omega
  have key : ∀ n, k < n → ovTo a b n = 0 := by
    intro n
    induction n with
    | zero => intro h; omega
    | succ n ih =>
      intro hn
      unfold ovTo
      by_cases he : k = n
      · subst he; rw [h0, Int.mul_zero]; rfl
      · rw [ih (by omega), Int.zero_mul]; rfl
  exact key _ hk
theorem s_IndexFuncPair (xs : List Pair) (sem : List Dat → List Dat → Prop) (p : Pair → Bool) (hp : ∀ x ∈ xs, sem [(true, eP x)] [(false, [.bool (p x)])]) :
    Sat Try.prog 169 [aPs xs, .fn sem] true (rI (if xs.any p then (xs.findIdx p : Int) else -1)) := by
  refine sat_walk (fn := Try.f169) rfl rfl rfl (Nat.le_of_ble_eq_true rfl) fun fr hP hN hbnd => ?_
  have hE : (envOf fr Try.prog).Ok := envOf_ok hP
  have hM := follows_of hP
  have hS : ∀ {draw ops}, statB Try.f169.ntmps draw ops = true → statB (envOf fr Try.prog).fr.N draw ops = true := fun h => by rw [envOf_fr, hN]; exact h
  have hlen := (bndPs hbnd).1
  repeat' (first
    | exact True.intro
    | refine ev_seq ?_
    | ((first | refine vgd_go ?_ | refine ev_region hE hM (hS (by decide +kernel)) ?_ | refine ev_if ?_ | refine end_ret hE rfl rfl ?_ | refine end_norm hE rfl rfl ?_ | refine endG_ret [] hE rfl ?_ | refine endG_norm [] hE rfl ?_ | refine vcall_A ?_); simp (maxSteps := 2000000) only [go_sem, hP, ↓reduceIte, Nat.reduceAdd, Nat.reduceMul, Nat.reduceEqDiff, Nat.reduceSub, Nat.reduceLeDiff, reduceCtorEq])
    | refine ev_skip ?_ | refine ev_block ?_ | refine ev_blk ?_ | refine ev_ret ?_ | refine ev_exit ?_ | refine evx_code_ret ?_ | refine evx_blk_ret ?_ | refine evx_lp_ret ?_
    | refine evx_code_exit ?_ | refine evx_lp_exit ?_ | refine evx_blk_hit ?_ | refine evx_blk_pass (by decide) ?_
    | refine And.intro ?_ ?_ | intro _ | decide +kernel | omega)
  refine ev_loop (ι := Nat) (fun k => [(0, .c (sP xs)), (1, .fn sem), (7, .c (.int .i64 xs.length)), (8, .c (.int .i64 k))]) (fun k => []) (fun _ => []) (fun k => k ≤ xs.length ∧ (xs.take k).any p = false) (fun k => xs.length - k) 0 [] (by simp) (by simp only [go_sem, hP, ↓reduceIte, Nat.reduceAdd, Nat.reduceMul, Nat.reduceEqDiff, Nat.reduceSub, Nat.reduceLeDiff, reduceCtorEq]; simp) ?_
  intro k hk
  have hq : k < xs.length → sem [(true, eP (xs.getD k default))] [(false, [.bool (p (xs.getD k default))])] := fun h => hp _ (getD_mem h)
  repeat' (first
    | exact True.intro
    | refine ev_seq ?_
    | ((first | refine vgd_go ?_ | refine ev_region hE hM (hS (by decide +kernel)) ?_ | refine ev_if ?_ | refine end_ret hE rfl rfl ?_ | refine end_norm hE rfl rfl ?_ | refine endG_ret [] hE rfl ?_ | refine endG_norm [] hE rfl ?_ | refine vcallFn_of [(true, eP (xs.getD k default))] [] [(false, [.bool (p (xs.getD k default))])] (by simp only [go_sem, hP, ↓reduceIte, Nat.reduceAdd, Nat.reduceMul, Nat.reduceEqDiff, Nat.reduceSub, Nat.reduceLeDiff, reduceCtorEq]) (hq (by omega)) ?_ | refine vcall_A ?_); simp (maxSteps := 2000000) only [go_sem, hP, ↓reduceIte, Nat.reduceAdd, Nat.reduceMul, Nat.reduceEqDiff, Nat.reduceSub, Nat.reduceLeDiff, reduceCtorEq])
    | refine ev_skip ?_ | refine ev_block ?_ | refine ev_blk ?_ | refine ev_ret ?_ | refine ev_exit ?_ | refine evx_code_ret ?_ | refine evx_blk_ret ?_ | refine evx_lp_ret ?_
    | refine evx_code_exit ?_ | refine evx_lp_exit ?_ | refine evx_blk_hit ?_ | refine evx_blk_pass (by decide) ?_
    | refine And.intro ?_ ?_ | intro _ | decide +kernel | omega)
  · rename_i h1 h2
    rw [any_yes (d := default) (by omega) h2, findIdx_here (d := default) (by omega) hk.2 h2]; rfl
  · rename_i h1 h2
    exact ev_lp (k + 1) [] ⟨by omega, any_step (d := default) (by omega) hk.2 h2⟩ (by omega) (by simp only [go_sem, hP, ↓reduceIte, Nat.reduceAdd, Nat.reduceMul, Nat.reduceEqDiff, Nat.reduceSub, Nat.reduceLeDiff, reduceCtorEq]; simp; exact wrap_nat (by omega) hlen)
  · rw [any_done (by omega) hk.2]; rfl
def un (a b : Rect) : Rect := ⟨(List.range a.low.length).map fun j => min (a.low.getD j default) (b.low.getD j default), (List.range a.low.length).map fun j => max (a.high.getD j default) (b.high.getD j default)⟩
theorem un_len (a b : Rect) : (un a b).high.length = (un a b).low.length := by simp [un]
theorem mixF_full (f : Nat → Int) (xs : List Int) : mixF f xs xs.length = (List.range xs.length).map f := by
  refine List.ext_getElem (by simp) fun i h1 h2 => ?_
  simp only [mixF, List.getElem_map, List.getElem_range]
  rw [if_pos (by simpa using h1)]
end Go.Proofs.Ytcephdpooijciaa.W
